/- The law EdiErrors, walked. -/
import Derived.Test.YtpapibanhooogaaDoorEdiErrF
set_option linter.unusedVariables false
set_option linter.unusedSimpArgs false
namespace Go.Proofs.YtpapibanhooogaaDoor.Is
attribute [local irreducible] gv
open Go.RowKit Go.Extern.Stop Go.Stop Go.Extern
set_option maxRecDepth 100000 in
set_option maxHeartbeats 2000000 in
theorem ediErrors_calls (W : World) (A : Nat → Addr) (hS : SF W A) (s : ByteArray) (hstr : W.cell? (A 0) = some (.string s)) (hsz : s.size < 1000) : Calls Tryd.prog 3 #[] W fun e w' => e = .returned (.bool true) ∧ Below W.heap.size W w' := by
  go_enter Tryd.func3, Tryd.ntmps3
  go_wp2
  go_loopw [1] (fun c wr => ∃ x : Int, c = .int .i64 x ∧ 1 ≤ x ∧ x ≤ 12 ∧ wr = W) (fun c wr => match c with | Value.int _ x => (12 - x).toNat | _ => 0)
  case atStart => exact ⟨1, rfl, by omega, by omega, rfl⟩
  case round =>
    obtain ⟨x, rfl, h1, h2, rfl⟩ := hrel
    have g0 := hS.hv 0 (by omega)
    go_wp2_with (go_at_call 4; refine (sentinel_calls wr A hS x h1 (by omega)).mono ?_; rintro e w' ⟨rfl, rfl⟩)
    · have hx : x ≤ 11 := by assumption
      go_loopw [3] (fun c wr' => ∃ y : Int, c = .int .i64 y ∧ 1 ≤ y ∧ y ≤ x ∧ wr' = w') (fun c wr' => match c with | Value.int _ y => (x - y).toNat | _ => 0)
      case atStart => exact ⟨1, rfl, by omega, by omega, rfl⟩
      case round =>
        obtain ⟨y, rfl, k1, k2, rfl⟩ := hrel
        go_wp2_with (first
          | (go_at_call 4; (with_reducible refine (sentinel_calls _ A hS y k1 (by omega)).mono ?_); rintro e w' ⟨rfl, rfl⟩)
          | (go_at_call 5; (with_reducible refine (other_calls _ A hS x y h1 (by omega) k1 (by omega) (gv_inj h1 (by omega) k1 (by omega))).mono ?_); rintro e w' ⟨rfl, rfl⟩)
          | (go_at_call 5; (with_reducible refine (other_calls _ A hS y x k1 (by omega) h1 (by omega) (gv_inj h1 (by omega) k1 (by omega)).symm).mono ?_); rintro e w' ⟨rfl, rfl⟩))
        case roundEnd => exact ⟨⟨y + 1, rfl, by omega, by omega, trivial⟩, by show (x - (y + 1)).toNat < (x - y).toNat; omega⟩
        case roundEnd => exact ⟨⟨x + 1, rfl, by omega, by omega, trivial⟩, by show (12 - (x + 1)).toNat < (12 - x).toNat; omega⟩
    · have hm := methodError
      have f0 : (wr.alloc (.cells #[.int .i64 3, .int .i64 2, .iface 67 (.pointer (some (A 0)))] 28)).cell? ⟨wr.heap.size, 0, none⟩ = some (.int .i64 3) := by go_simp
      have f1 : (wr.alloc (.cells #[.int .i64 3, .int .i64 2, .iface 67 (.pointer (some (A 0)))] 28)).cell? ⟨wr.heap.size, 1, none⟩ = some (.int .i64 2) := by go_simp
      have f2 : (wr.alloc (.cells #[.int .i64 3, .int .i64 2, .iface 67 (.pointer (some (A 0)))] 28)).cell? ⟨wr.heap.size, 2, none⟩ = some (.iface 67 (.pointer (some (A 0)))) := by go_simp
      have gV := cell?_alloc_old (.cells #[.int .i64 3, .int .i64 2, .iface 67 (.pointer (some (A 0)))] 28) g0
      have sV := cell?_alloc_old (.cells #[.int .i64 3, .int .i64 2, .iface 67 (.pointer (some (A 0)))] 28) hstr
      have hq : ¬ 9223372036854775807 < 21 + s.size := by omega
      go_region_with (first
        | (go_at_call 6; (with_reducible refine (error_nil _).mono ?_); rintro e w' ⟨rfl, rfl⟩)
        | (go_at_call 7; (with_reducible refine (unwrap_nil _).mono ?_); rintro e w' ⟨rfl, rfl⟩)
        | (go_at_call 7; (with_reducible refine (unwrap_some _ (.iface 67 (.pointer (some (A 0)))) _ ?_ ⟨_, _, rfl⟩).mono ?_); exact f2; rintro e w' ⟨rfl, rfl⟩)
        | (go_at_call 5; (with_reducible refine (is_same _ _).mono ?_); rintro e w' ⟨rfl, rfl⟩)
        | (go_at_call 6; (with_reducible refine (fault_error _ (A 0) s _ ?_ ?_ ?_ ?_ hsz).mono ?_); exact f0; exact f1; exact f2; exact sV; rintro e w' ⟨rfl, rfl⟩)
        | (go_at_call 52; (with_reducible refine (es_error _ s _ ?_).mono ?_); exact sV; rintro e w' ⟨rfl, rfl⟩))
      all_goals (try go_wp2)
      all_goals
        go_ret
        refine ⟨by first | rfl | simp | (simp; done), ?_⟩
        first
          | exact ((Below.refl _ wr).alloc (Nat.le_refl _) _).drew.drew
          | exact ((Below.refl _ wr).alloc (Nat.le_refl _) _).drew
end Go.Proofs.YtpapibanhooogaaDoor.Is

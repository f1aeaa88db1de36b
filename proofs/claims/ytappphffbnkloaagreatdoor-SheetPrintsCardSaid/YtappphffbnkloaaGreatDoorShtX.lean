/- The twenty errors of sheet; the law's variable, same, kinds. -/
import Derived.Test.YtappphffbnkloaaGreatDoorShtI
import Derived.Deep.AppendLies
import Derived.Lib.Hide
set_option linter.unusedVariables false
set_option linter.unusedSimpArgs false
namespace Go.Proofs.YtappphffbnkloaaGreatDoor.Sht
open Go Go.RowKit
/-- the variable of any of the twenty codes -/
def gl20 (c : Nat) : Nat :=
  if c = 1 then 2 else if c = 2 then 6 else if c = 3 then 1 else if c = 4 then 7 else if c = 5 then 8 else if c = 6 then 9 else if c = 7 then 10 else if c = 8 then 3 else if c = 9 then 4 else if c = 10 then 11 else if c = 11 then 12 else if c = 12 then 13 else if c = 13 then 14 else if c = 14 then 15 else if c = 15 then 16 else if c = 16 then 17 else if c = 17 then 18 else if c = 18 then 19 else if c = 19 then 20 else 0
structure SG (W : World) (A : Nat → Addr) : Prop where
  hv : ∀ c, 1 ≤ c → c ≤ 20 → W.cell? ⟨gl20 c, 0, none⟩ = some (errV A c)
  hn : ∀ c c', 1 ≤ c → c ≤ 20 → 1 ≤ c' → c' ≤ 20 → c ≠ c' → A c ≠ A c'
  hb : ∀ c, 1 ≤ c → c ≤ 20 → ∃ cs t, W.heap[(A c).block]? = some (.cells cs t (0, 0))
  ht : ∀ c, 1 ≤ c → c ≤ 20 → ∃ s : ByteArray, W.cell? (A c) = some (.string s) ∧ s.size < 1000
theorem SG.below {W W' : World} {A : Nat → Addr} (h : SG W A) (k : Below W.heap.size W W') : SG W' A :=
  ⟨fun c h1 h2 => (k.cell (p := ⟨gl20 c, 0, none⟩) (World.block_lt_of_cell? W _ (h.hv c h1 h2))).trans (h.hv c h1 h2), h.hn, fun c h1 h2 => by
    obtain ⟨cs, t, hb⟩ := h.hb c h1 h2
    exact ⟨cs, t, (k.block _ (blt hb)).trans hb⟩, fun c h1 h2 => by
    obtain ⟨s, hs, hz⟩ := h.ht c h1 h2
    exact ⟨s, (k.cell (World.block_lt_of_cell? W _ hs)).trans hs, hz⟩⟩
theorem SG.sf {W : World} {A : Nat → Addr} (h : SG W A) : SF W A := by
  have one : ∀ c, coded c → 1 ≤ c ∧ c ≤ 20 := fun c hc => by unfold coded at hc; omega
  refine ⟨fun c hc => ?_, fun c c' hc hc' => h.hn c c' (one c hc).1 (one c hc).2 (one c' hc').1 (one c' hc').2, fun c hc => h.hb c (one c hc).1 (one c hc).2⟩
  have e : gl c = gl20 c := by
    unfold coded at hc
    rcases (show c = 1 ∨ c = 2 ∨ c = 3 ∨ c = 4 ∨ c = 5 ∨ c = 6 ∨ c = 7 ∨ c = 8 ∨ c = 9 ∨ c = 20 by omega) with rfl | rfl | rfl | rfl | rfl | rfl | rfl | rfl | rfl | rfl <;> rfl
  rw [e]
  exact h.hv c (one c hc).1 (one c hc).2
set_option maxHeartbeats 8000000 in
set_option maxRecDepth 100000 in
theorem variable_r (c : Nat) (h1 : 1 ≤ c) (h2 : c ≤ 20) (A : Nat → Addr) (w : World) (hS : SG w A) : Calls Tryz.prog 32 #[.int .i64 (c : Int)] w fun e w' => e = .returned (errV A c) ∧ Below w.heap.size w w' := by
  have e1 : w.cell? ⟨2, 0, none⟩ = some (errV A 1) := hS.hv 1 (by omega) (by omega)
  have e2 : w.cell? ⟨6, 0, none⟩ = some (errV A 2) := hS.hv 2 (by omega) (by omega)
  have e3 : w.cell? ⟨1, 0, none⟩ = some (errV A 3) := hS.hv 3 (by omega) (by omega)
  have e4 : w.cell? ⟨7, 0, none⟩ = some (errV A 4) := hS.hv 4 (by omega) (by omega)
  have e5 : w.cell? ⟨8, 0, none⟩ = some (errV A 5) := hS.hv 5 (by omega) (by omega)
  have e6 : w.cell? ⟨9, 0, none⟩ = some (errV A 6) := hS.hv 6 (by omega) (by omega)
  have e7 : w.cell? ⟨10, 0, none⟩ = some (errV A 7) := hS.hv 7 (by omega) (by omega)
  have e8 : w.cell? ⟨3, 0, none⟩ = some (errV A 8) := hS.hv 8 (by omega) (by omega)
  have e9 : w.cell? ⟨4, 0, none⟩ = some (errV A 9) := hS.hv 9 (by omega) (by omega)
  have e10 : w.cell? ⟨11, 0, none⟩ = some (errV A 10) := hS.hv 10 (by omega) (by omega)
  have e11 : w.cell? ⟨12, 0, none⟩ = some (errV A 11) := hS.hv 11 (by omega) (by omega)
  have e12 : w.cell? ⟨13, 0, none⟩ = some (errV A 12) := hS.hv 12 (by omega) (by omega)
  have e13 : w.cell? ⟨14, 0, none⟩ = some (errV A 13) := hS.hv 13 (by omega) (by omega)
  have e14 : w.cell? ⟨15, 0, none⟩ = some (errV A 14) := hS.hv 14 (by omega) (by omega)
  have e15 : w.cell? ⟨16, 0, none⟩ = some (errV A 15) := hS.hv 15 (by omega) (by omega)
  have e16 : w.cell? ⟨17, 0, none⟩ = some (errV A 16) := hS.hv 16 (by omega) (by omega)
  have e17 : w.cell? ⟨18, 0, none⟩ = some (errV A 17) := hS.hv 17 (by omega) (by omega)
  have e18 : w.cell? ⟨19, 0, none⟩ = some (errV A 18) := hS.hv 18 (by omega) (by omega)
  have e19 : w.cell? ⟨20, 0, none⟩ = some (errV A 19) := hS.hv 19 (by omega) (by omega)
  have e20 : w.cell? ⟨0, 0, none⟩ = some (errV A 20) := hS.hv 20 (by omega) (by omega)
  clear hS
  have hc : c = 1 ∨ c = 2 ∨ c = 3 ∨ c = 4 ∨ c = 5 ∨ c = 6 ∨ c = 7 ∨ c = 8 ∨ c = 9 ∨ c = 10 ∨ c = 11 ∨ c = 12 ∨ c = 13 ∨ c = 14 ∨ c = 15 ∨ c = 16 ∨ c = 17 ∨ c = 18 ∨ c = 19 ∨ c = 20 := by omega
  clear h1 h2
  rcases hc with rfl | rfl | rfl | rfl | rfl | rfl | rfl | rfl | rfl | rfl | rfl | rfl | rfl | rfl | rfl | rfl | rfl | rfl | rfl | rfl
  all_goals
    go_enter Tryz.func32, Tryz.ntmps32
    go_wp2
    go_ret
    exact ⟨rfl, (Below.refl _ _).alloc (Nat.le_refl _) _⟩
/-- same at two errors of sheet that are one -/
theorem same_r (a : Addr) (w : World) : Calls Tryz.prog 40 #[.iface 215 (.pointer (some a)), .iface 215 (.pointer (some a))] w fun e w' => e = .returned (.bool true) ∧ w = w' := by
  obtain ⟨i, hi, hcmp⟩ := Option.map_eq_some_iff.1 isComp
  obtain ⟨j, hj, hjs⟩ := Option.map_eq_some_iff.1 isSize
  have heq := run_eql_iface_ptr_same (P := Tryz.prog) w a Tryz.underlying41 Tryz.underlying215 hi hcmp hj
  go_enter Tryz.func40, Tryz.ntmps40
  go_wp2
  go_ret
  exact ⟨rfl, rfl⟩
theorem unwrap_r (g : Nat) (x y : Value) (a : Addr) (w : World) (hg : w.heap[g]? = some (.cells #[x, y, .iface 215 (.pointer (some a))] 70 (0, 0))) :
    Calls Tryz.prog 29 #[PT g] w fun e w' => e = .returned (.iface 215 (.pointer (some a))) ∧ w = w' := by
  have c2 : w.cell? ⟨g, 2, none⟩ = some (.iface 215 (.pointer (some a))) := (bcell hg 2).trans rfl
  go_enter Tryz.func29, Tryz.ntmps29
  go_wp2
  go_ret
  exact ⟨rfl, rfl⟩
theorem es_error (a : Addr) (s : ByteArray) (w : World) (h : w.cell? a = some (.string s)) : Calls Tryz.prog 176 #[.pointer (some a)] w fun e w' => e = .returned (.string s) ∧ w = w' := by
  obtain ⟨b, o, f⟩ := a
  go_enter Tryz.func176, Tryz.ntmps176
  go_wp2
  go_ret
  exact ⟨rfl, rfl⟩
theorem is_code (A : Nat → Addr) (g e c : Nat) (x y : Value) (w : World) (hS : SG w A) (h1 : 1 ≤ e) (h2 : e ≤ 20) (h3 : 1 ≤ c) (h4 : c ≤ 20) (hg : w.heap[g]? = some (.cells #[x, y, errV A e] 70 (0, 0))) :
    Calls Tryz.prog 27 #[.iface 65 (PT g), errV A c] w fun ev w' => ev = .returned (.bool (decide (e = c))) ∧ w = w' := by
  by_cases h : e = c
  · subst h
    rw [decide_eq_true rfl]
    exact is_fault_yes g (A e) x y w hg
  · rw [decide_eq_false h]
    obtain ⟨ca, ta, ha⟩ := hS.hb e h1 h2
    obtain ⟨cb, tb, hb⟩ := hS.hb c h3 h4
    exact is_fault_no g (A e) (A c) x y ca cb ta tb w hg (hS.hn e c h1 h2 h3 h4 h) ha hb
/-- one of the variables, and no other -/
theorem kinds_r (A : Nat → Addr) (g e : Nat) (x y : Value) (w : World) (hS : SG w A) (h1 : 1 ≤ e) (h2 : e ≤ 20) (hg : w.heap[g]? = some (.cells #[x, y, errV A e] 70 (0, 0))) :
    Calls Tryz.prog 33 #[.iface 65 (PT g)] w fun ev w' => ev = .returned (.int .i64 1) ∧ Below w.heap.size w w' := by
  have HS := Lib.hid hS
  have HG := Lib.hid hg
  clear hS hg
  go_enter Tryz.func33, Tryz.ntmps33
  go_wp2
  go_loopw [3, 4] (fun n c wr => ∃ k : Nat, 1 ≤ k ∧ k ≤ 21 ∧ c = .int .i64 (k : Int) ∧ n = .int .i64 (if e < k then 1 else 0) ∧ Hid (Below w.heap.size w wr)) (fun _ c _ => (21 - intOf c).toNat)
  case atStart => exact ⟨1, by omega, by omega, rfl, by rw [if_neg (by omega)], Lib.hid (Below.refl _ _)⟩
  case round =>
    obtain ⟨k, k1, k2, rfl, rfl, HB⟩ := hrel
    by_cases hk : k ≤ 20
    · have HSr := Lib.hid (HS.out.below HB.out)
      have HV := Lib.hid (variable_r k k1 hk A wr HSr.out)
      have HI := Lib.hid (fun w1 (hb : Below wr.heap.size wr w1) => is_code A g e k x y w1 (HSr.out.below hb) h1 h2 k1 hk ((hb.block g (Nat.lt_of_lt_of_le (blt HG.out) HB.out.size)).trans ((HB.out.block g (blt HG.out)).trans HG.out)))
      by_cases he : e = k
      · rw [decide_eq_true he] at HI
        have HE := Lib.hid he
        clear he
        go_wp2_with (first
          | (go_at_call 32; (with_reducible refine HV.out.mono ?_); rintro ev w1 ⟨rfl, hb1⟩; have HB1 := Lib.hid hb1; clear hb1)
          | (go_at_call 27; (with_reducible refine (HI.out _ HB1.out).mono ?_); rintro ev w2 ⟨rfl, rfl⟩))
        go_roundw
        case rel => exact ⟨k + 1, by omega, by omega, by go_num, by rw [if_neg (show ¬ e < k by have := HE.out; omega), if_pos (show e < k + 1 by have := HE.out; omega)]; rfl, Lib.hid (HB.out.trans (HB1.out.mono HB.out.size))⟩
        case measure => simp [intOf]; omega
      · rw [decide_eq_false he] at HI
        have HE := Lib.hid he
        clear he
        go_wp2_with (first
          | (go_at_call 32; (with_reducible refine HV.out.mono ?_); rintro ev w1 ⟨rfl, hb1⟩; have HB1 := Lib.hid hb1; clear hb1)
          | (go_at_call 27; (with_reducible refine (HI.out _ HB1.out).mono ?_); rintro ev w2 ⟨rfl, rfl⟩))
        go_roundw
        case rel => exact ⟨k + 1, by omega, by omega, by go_num, by by_cases q : e < k; rw [if_pos q, if_pos (show e < k + 1 by omega)]; rw [if_neg q, if_neg (show ¬ e < k + 1 by have := HE.out; omega)], Lib.hid (HB.out.trans (HB1.out.mono HB.out.size))⟩
        case measure => simp [intOf]; omega
    · have hk' : e < k := by omega
      rw [if_pos hk']
      clear hk'
      go_wp2
      go_ret
      exact ⟨rfl, HB.out⟩
end Go.Proofs.YtappphffbnkloaaGreatDoor.Sht

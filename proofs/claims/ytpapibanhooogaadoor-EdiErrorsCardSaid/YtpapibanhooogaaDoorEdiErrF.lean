/- The text of a fault. -/
import Derived.Test.YtpapibanhooogaaDoorEdiErrW
set_option linter.unusedVariables false
set_option linter.unusedSimpArgs false
namespace Go.Proofs.YtpapibanhooogaaDoor.Is
open Go.RowKit Go.Extern.Stop Go.Stop Go.Extern
theorem str21 (s : ByteArray) : (⟨#[115, 101, 103, 109, 101, 110, 116, 32]⟩ ++ ⟨#[51]⟩ ++ ⟨#[32, 101, 108, 101, 109, 101, 110, 116, 32]⟩ ++ ⟨#[50]⟩ ++ ⟨#[58, 32]⟩ ++ s : ByteArray) = ⟨#[115, 101, 103, 109, 101, 110, 116, 32, 51, 32, 101, 108, 101, 109, 101, 110, 116, 32, 50, 58, 32]⟩ ++ s :=
  congrArg (fun z : ByteArray => z ++ s) (by decide)
set_option maxRecDepth 100000 in
set_option maxHeartbeats 2000000 in
theorem fault_error (b : Nat) (a : Addr) (s : ByteArray) (W : World) (h0 : W.cell? ⟨b, 0, none⟩ = some (.int .i64 3)) (h1 : W.cell? ⟨b, 1, none⟩ = some (.int .i64 2)) (h2 : W.cell? ⟨b, 2, none⟩ = some (.iface 67 (.pointer (some a)))) (h : W.cell? a = some (.string s)) (hs : s.size < 1000) :
    Calls Tryd.prog 6 #[.pointer (some ⟨b, 0, none⟩)] W fun e w' => e = .returned (.string (⟨#[115, 101, 103, 109, 101, 110, 116, 32, 51, 32, 101, 108, 101, 109, 101, 110, 116, 32, 50, 58, 32]⟩ ++ s)) ∧ w' = W.drew := by
  have hq : ¬ 9223372036854775807 < 21 + s.size := by omega
  go_enter Tryd.func6, Tryd.ntmps6
  go_wp2
  go_region_with (first
    | (go_at_call 10; refine (itoa_calls _ 3 (by decide)).mono ?_; rintro e w' ⟨rfl, rfl⟩)
    | (go_at_call 10; refine (itoa_calls _ 2 (by decide)).mono ?_; rintro e w' ⟨rfl, rfl⟩)
    | (go_at_call 11; refine (text_calls a s _ ?_).mono ?_; exact h; rintro e w' ⟨rfl, rfl⟩))
  all_goals (try go_wp2)
  all_goals (go_ret; exact ⟨congrArg (fun z : ByteArray => Ending.returned (Value.string z)) (str21 s), rfl⟩)
end Go.Proofs.YtpapibanhooogaaDoor.Is

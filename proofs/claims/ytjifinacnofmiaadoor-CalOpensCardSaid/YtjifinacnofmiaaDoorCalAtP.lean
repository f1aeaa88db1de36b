/- Numbers made ones that may be, and the day with a number, as the laws make them. -/
import Derived.Test.YtjifinacnofmiaaDoorCalPA
import Derived.Test.YtjifinacnofmiaaDoorGCxf8
import Derived.Test.YtjifinacnofmiaaDoorGCxf10
namespace Go.Proofs.YtjifinacnofmiaaDoor.CalP
open Go.RowKit Go.Proofs.YtjifinacnofmiaaDoorW.PrintWords Go.Proofs.YtjifinacnofmiaaDoor.Ext Go.Proofs.YtjifinacnofmiaaDoor.PCal Go.Proofs.YtjifinacnofmiaaDoor.GC

theorem within_eq (x lo hi : Int) (hx : -9223372036854775808 ≤ x ∧ x ≤ 9223372036854775807) (h0 : 0 ≤ lo) (h1 : lo ≤ hi) (h2 : hi ≤ 1000000000000) : ∃ v, larderlaw03_within.f x lo hi = some v ∧ lo ≤ v ∧ v ≤ hi := by
  unfold larderlaw03_within.f
  rw [w64 (x := hi - lo) (by omega) (by omega), w64 (x := hi - lo + 1) (by omega) (by omega)]
  have key : ∀ z : Int, 0 ≤ z → ∃ v, some (wrap64 (lo + Int.tmod z (hi - lo + 1))) = some v ∧ lo ≤ v ∧ v ≤ hi := by
    intro z hz
    have a := Int.emod_nonneg z (show hi - lo + 1 ≠ 0 by omega)
    have b := Int.emod_lt_of_pos z (show 0 < hi - lo + 1 by omega)
    refine ⟨_, rfl, ?_⟩
    rw [tm _ _ hz, w64 (by omega) (by omega)]
    omega
  by_cases hn : x < 0
  · rw [if_pos hn, if_neg (by omega), w64 (x := x + 1) (by omega) (by omega), w64 (x := -(x + 1)) (by omega) (by omega)]
    exact key _ (by omega)
  · rw [if_neg hn, if_neg (by omega)]
    exact key _ (by omega)
theorem within_same (x lo hi : Int) (h0 : 0 ≤ lo) (h1 : lo ≤ x) (h2 : x ≤ hi) (h3 : hi ≤ 1000000000000) (hl : lo = 0) : larderlaw03_within.f x lo hi = some x := by
  subst hl
  unfold larderlaw03_within.f
  rw [w64 (x := hi - 0) (by omega) (by omega), w64 (x := hi - 0 + 1) (by omega) (by omega), if_neg (by omega), if_neg (by omega), tm _ _ (by omega), Int.emod_eq_of_lt (by omega) (by omega), w64 (by omega) (by omega)]
  exact congrArg some (by omega)
theorem at_eq (k : Nat) (hk : 30000 ≤ k) {Y M D : Int} (hv : vldB Y M D = true) : larderlaw03_at.f k (num Y M D) = some (Y, M, D) := by
  obtain ⟨n1, n2, n3, n4⟩ := num_bd hv
  unfold larderlaw03_at.f
  rw [within_same (num Y M D) 0 3652424 (by omega) (by omega) (by omega) (by omega) rfl]
  simp only [Option.bind_some]
  rw [cof_in k hk hv]
  rfl
end Go.Proofs.YtjifinacnofmiaaDoor.CalP

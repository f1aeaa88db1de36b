-- written by a program (gp.py over the kit's print) for this claim
import Derived.Test.YtiklakkkgmilnaaDoorGCx0
import Derived.Test.YtiklakkkgmilnaaDoorGCxf89
namespace Go.Proofs.YtiklakkkgmilnaaDoor.GC
open Go.RowKit Go.Proofs.YtiklakkkgmilnaaDoorW.PrintWords Go.Proofs.YtiklakkkgmilnaaDoorW.PrintLast Go.Proofs.YtiklakkkgmilnaaDoor.Ext Go.Proofs.YtiklakkkgmilnaaDoor.PCal
attribute [local go_sem] max2_int min2_int max_two min_two   -- for this text alone
set_option linter.unusedVariables false
set_option linter.unusedSimpArgs false

/-! ### larderref03_weeks: function 49 -/
def larderref03_weeks.f (a0 : Int) : Option (Int) := (larderref03_first.f (wrap64 (a0 + 1))).bind fun t490101 => ((larderref03_first.f a0).bind fun t490102 => (some (wrap64 (Int.tdiv (wrap64 (t490101 - t490102)) 7))))
set_option maxHeartbeats 8000000 in
set_option maxRecDepth 100000 in
theorem larderref03_weeks.calls (a0 : Int) (r : Int) (w : World) (h : larderref03_weeks.f a0 = some r) :
    Calls Tryd.prog 49 #[.int .i64 a0] w fun e w' => e = .returned (.int .i64 r) ∧ Drawn0 w w' := by
  have H : ((larderref03_first.f (wrap64 (a0 + 1))).bind fun t490101 => ((larderref03_first.f a0).bind fun t490102 => (some (wrap64 (Int.tdiv (wrap64 (t490101 - t490102)) 7))))) = some r := h
  clear h
  replace H := Option.bind_eq_some_iff.mp H
  obtain ⟨t490101, A20, H⟩ := H
  replace H : ((larderref03_first.f a0).bind fun t490102 => (some (wrap64 (Int.tdiv (wrap64 (t490101 - t490102)) 7)))) = some r := H
  have A2 := Aside0.mk A20
  clear A20
  replace H := Option.bind_eq_some_iff.mp H
  obtain ⟨t490102, A30, H⟩ := H
  replace H : (some (wrap64 (Int.tdiv (wrap64 (t490101 - t490102)) 7))) = some r := H
  have A3 := Aside0.mk A30
  clear A30
  obtain rfl := Option.some.inj H
  go_enter Tryd.func49, Tryd.ntmps49
  go_wp2_with (first | ((with_reducible refine gate_callee (f := 89) rfl ?_); refine goesL_ (some 5) rfl rfl Tryd.func89 (by kernel_rfl) rfl #[.int .i64 (wrap64 (a0 + 1))] rfl (by (try simp only [List.map_toArray, List.map_cons, List.map_nil]); first | done | rfl | (simp only [List.length_drop, List.length_take]; rfl)) ?_; (with_reducible refine (larderref03_first.calls (wrap64 (a0 + 1)) t490101 _ A2.out).mono ?_); rintro e w' ⟨rfl, ⟨nd, rfl⟩⟩; refine ⟨_, rfl, ?_⟩) | ((with_reducible refine gate_callee (f := 89) rfl ?_); refine goesL_ (some 7) rfl rfl Tryd.func89 (by kernel_rfl) rfl #[.int .i64 a0] rfl (by (try simp only [List.map_toArray, List.map_cons, List.map_nil]); first | done | rfl | (simp only [List.length_drop, List.length_take]; rfl)) ?_; (with_reducible refine (larderref03_first.calls a0 t490102 _ A3.out).mono ?_); rintro e w' ⟨rfl, ⟨nd, rfl⟩⟩; refine ⟨_, rfl, ?_⟩))
  go_ret
  exact ⟨by first | rfl | (simp; done) | (simp [*]; done), by repeat (first | exact Drawn0.refl _ | apply Drawn0.step)⟩

end Go.Proofs.YtiklakkkgmilnaaDoor.GC

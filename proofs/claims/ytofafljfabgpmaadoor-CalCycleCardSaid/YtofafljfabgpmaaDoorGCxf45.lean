-- written by a program (gp.py over the kit's print) for this claim
import Derived.Test.YtofafljfabgpmaaDoorGCx0
import Derived.Test.YtofafljfabgpmaaDoorGCxf53
import Derived.Test.YtofafljfabgpmaaDoorGCxf55
namespace Go.Proofs.YtofafljfabgpmaaDoor.GC
open Go.RowKit Go.Proofs.YtofafljfabgpmaaDoorW.PrintWords Go.Proofs.YtofafljfabgpmaaDoorW.PrintLast Go.Proofs.YtofafljfabgpmaaDoor.Ext Go.Proofs.YtofafljfabgpmaaDoor.PCal
attribute [local go_sem] max2_int min2_int max_two min_two   -- for this text alone
set_option linter.unusedVariables false
set_option linter.unusedSimpArgs false

/-! ### larderref03_first: function 45 -/
def larderref03_first.f (a0 : Int) : Option (Int) := (larderref03_newYear.f a0).bind fun t450101 => ((larderref03_weekday.f (wrap64 (t450101 + 3))).bind fun t450102 => (some (wrap64 ((wrap64 (t450101 + 3)) - (wrap64 (t450102 - 1))))))
set_option maxHeartbeats 8000000 in
set_option maxRecDepth 100000 in
theorem larderref03_first.calls (a0 : Int) (r : Int) (w : World) (h : larderref03_first.f a0 = some r) :
    Calls Tryd.prog 45 #[.int .i64 a0] w fun e w' => e = .returned (.int .i64 r) ∧ Drawn0 w w' := by
  have H : ((larderref03_newYear.f a0).bind fun t450101 => ((larderref03_weekday.f (wrap64 (t450101 + 3))).bind fun t450102 => (some (wrap64 ((wrap64 (t450101 + 3)) - (wrap64 (t450102 - 1))))))) = some r := h
  clear h
  replace H := Option.bind_eq_some_iff.mp H
  obtain ⟨t450101, A20, H⟩ := H
  replace H : ((larderref03_weekday.f (wrap64 (t450101 + 3))).bind fun t450102 => (some (wrap64 ((wrap64 (t450101 + 3)) - (wrap64 (t450102 - 1)))))) = some r := H
  have A2 := Aside0.mk A20
  clear A20
  replace H := Option.bind_eq_some_iff.mp H
  obtain ⟨t450102, A30, H⟩ := H
  replace H : (some (wrap64 ((wrap64 (t450101 + 3)) - (wrap64 (t450102 - 1))))) = some r := H
  have A3 := Aside0.mk A30
  clear A30
  obtain rfl := Option.some.inj H
  go_enter Tryd.func45, Tryd.ntmps45
  go_wp2_with (first | ((with_reducible refine gate_callee (f := 55) rfl ?_); refine goesL_ (some 5) rfl rfl Tryd.func55 (by kernel_rfl) rfl #[.int .i64 a0] rfl (by (try simp only [List.map_toArray, List.map_cons, List.map_nil]); first | done | rfl | (simp only [List.length_drop, List.length_take]; rfl)) ?_; (with_reducible refine (larderref03_newYear.calls a0 t450101 _ A2.out).mono ?_); rintro e w' ⟨rfl, ⟨nd, rfl⟩⟩; refine ⟨_, rfl, ?_⟩) | ((with_reducible refine gate_callee (f := 53) rfl ?_); refine goesL_ (some 9) rfl rfl Tryd.func53 (by kernel_rfl) rfl #[.int .i64 (wrap64 (t450101 + 3))] rfl (by (try simp only [List.map_toArray, List.map_cons, List.map_nil]); first | done | rfl | (simp only [List.length_drop, List.length_take]; rfl)) ?_; (with_reducible refine (larderref03_weekday.calls (wrap64 (t450101 + 3)) t450102 _ A3.out).mono ?_); rintro e w' ⟨rfl, ⟨nd, rfl⟩⟩; refine ⟨_, rfl, ?_⟩))
  go_ret
  exact ⟨by first | rfl | (simp; done) | (simp [*]; done), by repeat (first | exact Drawn0.refl _ | apply Drawn0.step)⟩

end Go.Proofs.YtofafljfabgpmaaDoor.GC

-- written by a program (gp.py over the kit's print) for this claim
import Derived.Test.YtappphffbnkloaaGreatDoorGSx0
namespace Go.Proofs.YtappphffbnkloaaGreatDoor.GS
open Go.RowKit Go.Proofs.YtappphffbnkloaaGreatDoorW.PrintWords Go.Proofs.YtappphffbnkloaaGreatDoorW.PrintLast Go.Proofs.YtappphffbnkloaaGreatDoor.Ext
attribute [local go_sem] max2_int min2_int max_two min_two   -- for this text alone
set_option linter.unusedVariables false
set_option linter.unusedSimpArgs false

def larderref01_note.f (a0 : Int) : Option (ByteArray) := some (strOfNums (([(Int.tmod a0 251) % 256, (wrap64 (Int.tdiv a0 251)) % 256] : List Int)))
set_option maxHeartbeats 8000000 in
set_option maxRecDepth 100000 in
theorem larderref01_note.calls (a0 : Int) (r : ByteArray) (w : World) (h : larderref01_note.f a0 = some r) :
    Calls Tryz.prog 56 #[.int .i64 a0] w fun e w' => e = .returned (.string r) ∧ Below w.heap.size w w' := by
  have HB := Aside0.mk (Below.refl w.heap.size w)
  have H : (some (strOfNums (([(Int.tmod a0 251) % 256, (wrap64 (Int.tdiv a0 251)) % 256] : List Int)))) = some r := h
  clear h
  obtain ⟨y560101, hy560101⟩ : ∃ y_ : List Int, y_ = (([(Int.tmod a0 251) % 256, (wrap64 (Int.tdiv a0 251)) % 256] : List Int)) := ⟨_, rfl⟩
  replace H : (some (strOfNums y560101)) = some r := by first | (rw [hy560101]; with_reducible exact H) | (have H2_ := (Option.bind_some _ _).symm.trans H; rw [hy560101]; with_reducible exact H2_) | (have H2_ := (Option.bind_some _ _).symm.trans H; with_reducible exact H2_) | with_reducible exact H | (rw [hy560101]; exact H) | exact H
  have Ny560101 := Aside0.mk hy560101
  clear hy560101
  obtain rfl := Option.some.inj H
  go_enter Tryz.func56, Tryz.ntmps56
  go_wp2_with (first | ((with_reducible refine gate_dst (N := 9) rfl ?_); refine Kd.R_lit (Kd.int .u8) _ 5 ?hg (N := 9) ?hd (xs := ([(Int.tmod a0 251) % 256, (wrap64 (Int.tdiv a0 251)) % 256] : List Int)) (inner := [.int .u8 ((Int.tmod a0 251) % 256), .int .u8 ((wrap64 (Int.tdiv a0 251)) % 256)]) (ok := fun _ => True) (okp := fun _ => True) ?hr ?hp (fun _ hk => hk) trivial (Below.refl _ _) (Nat.le_refl _) (by simp) ?_; (case hd => rfl); (case hg => rfl); (case hr => first | (go_simp; done) | (go_simp; rfl)); (case hp => exact (Reps.one (show Kd.M (Kd.int .u8) _ _ _ ((Int.tmod a0 251) % 256) [.int .u8 ((Int.tmod a0 251) % 256)] from rfl) (Reps.one (show Kd.M (Kd.int .u8) _ _ _ ((wrap64 (Int.tdiv a0 251)) % 256) [.int .u8 ((wrap64 (Int.tdiv a0 251)) % 256)] from rfl) (Reps.none _ _)))); intro v560102 w2 ho3 hb hg_ hnew_; clear hg_ hnew_; (first | rw [← Ny560101.out] at ho3 | (simp only [Int.reduceToNat] at ho3; rw [← Ny560101.out] at ho3)); have n0_ := Aside0.mk (Kd.R_lower ho3 (below_size (by repeat (first | (with_reducible first | exact HB.out | apply below_alloc | apply pw_below_drewN | apply below_drew1) | exact HB.out)))); have n1_ := Aside0.mk (below_step (by repeat (first | (with_reducible first | exact HB.out | apply below_alloc | apply pw_below_drewN | apply below_drew1) | exact HB.out)) hb); clear HB; have HO560103 := n0_; have HB := n1_; clear n0_ n1_; clear hb ho3; have hcv4 := own_string (P := Tryz.prog) Tryz.underlying37 Tryz.underlying5 Tryz.underlying9 (Kd.own_of_R HO560103.out)))
  go_ret
  exact ⟨by first | rfl | (simp [errW_none, errW_some] <;> rfl) | (simp [*, errW_none, errW_some] <;> rfl), by repeat (first | (with_reducible first | exact HB.out | apply below_alloc | apply pw_below_drewN | apply below_drew1) | exact HB.out)⟩

end Go.Proofs.YtappphffbnkloaaGreatDoor.GS

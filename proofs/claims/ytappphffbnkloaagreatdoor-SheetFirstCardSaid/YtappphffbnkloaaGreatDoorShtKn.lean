/- A reader that has ended; the law's known. -/
import Derived.Test.YtappphffbnkloaaGreatDoorShtY
import Derived.Test.YtappphffbnkloaaGreatDoorShtQ
set_option linter.unusedVariables false
set_option linter.unusedSimpArgs false
namespace Go.Proofs.YtappphffbnkloaaGreatDoor.Sht
open Go Go.RowKit Go.Joins
attribute [local go_sem ↓] Go.wp_at_zero Go.wp_at_succ
variable {A : Nat → Addr} {W0 W : World} {b : Nat} {s : RS}
theorem known_facts {w w1 w2 : World} {g : Nat} {v : Value} {o : Obj} (hb : Below w.heap.size w w1) (hz : w1.heap.size = w.heap.size + 1) (hg : w1.heap[g]? = some o) (gl : g < w.heap.size) (hd : AsDone w1 ⟨w.heap.size, 0, none⟩ v w2) :
    Hid (Below w.heap.size w w2) ∧ Hid (w2.heap[g]? = some o) ∧ w2.cell? ⟨w.heap.size, 0, none⟩ = some v := by
  have hk : ∀ j, j < w.heap.size → w2.heap[j]? = w1.heap[j]? := fun j hj => hd.keep j (by omega) (show j ≠ w.heap.size by omega)
  exact ⟨Lib.hid ⟨hd.os.trans hb.os, hd.tape.trans hb.tape, hd.output.trans hb.output, Nat.le_trans hb.size hd.size, fun k q => (hk k q).trans (hb.block k q)⟩, Lib.hid ((hk g gl).trans hg), hd.cell⟩
theorem isDone_yes {vc vr vl fl : Value} {lv : List Value} (h : RD A W0 W b s vc vr vl fl lv) {l c : Nat} (hd : s.fault = some (l, c, 9)) (w : World) (hw : w.heap = W.heap) :
    Calls Tryz.prog 27 #[fl, errV A 9] w fun e w' => e = .returned (.bool true) ∧ w' = w := by
  have hf := h.flt
  rw [hd] at hf
  obtain ⟨hc, g, _, rfl, hg⟩ := hf
  exact (is_fault_yes g (A 9) (I l) (I c) w (by rw [hw]; exact hg)).mono fun e w' ⟨h1, h2⟩ => ⟨h1, h2.symm⟩
set_option maxHeartbeats 8000000 in
set_option maxRecDepth 100000 in
theorem feed_done (hF : SF W0 A) (hE : ET W0) (hR : R A W0 W b s) {l c : Nat} (hd : s.fault = some (l, c, 9)) (x : Option Addr) (n cap : Nat) :
    Calls Tryz.prog 15 #[PT b, .slice x n cap] W fun e w' => ∃ ve, e = .returned (.tuple #[.slice none 0 0, ve]) ∧ FaultAt w' W.heap.size A ve (some (l, c, 9)) ∧ Below W.heap.size W w' := by
  obtain ⟨vc, vr, vl, fl, lv, h⟩ := hR
  have HI := Lib.hid (isDone_yes h hd)
  have HG := Lib.hid (fun n => again_r hE (h.drewN n))
  obtain ⟨_, _, _, _, _, _, _, _, _, _, _, _, c12⟩ := h.cells
  have gE : W.cell? ⟨4, 0, none⟩ = some (errV A 9) := h.gl hF 9 (cod (by omega))
  have HD := Lib.hid hd
  clear h hF hE hd
  go_enter Tryz.func15, Tryz.ntmps15
  go_wp2
  go_quiet ((go_at_call 27; exact Calls.quiet_of_same (HI.out _ (by rfl))))
  go_wp2_with (go_at_call 38; (with_reducible refine (HG.out _).mono ?_); rintro e w1 ⟨ve, rfl, hv, hb⟩; have HV := Lib.hid hv; have HB := Lib.hid hb; clear hv hb)
  go_ret2
  have hv := HV.out
  rw [HD.out] at hv
  exact ⟨ve, rfl, hv, ⟨HB.out.os, HB.out.tape, HB.out.output, HB.out.size, HB.out.block⟩⟩
end Go.Proofs.YtappphffbnkloaaGreatDoor.Sht

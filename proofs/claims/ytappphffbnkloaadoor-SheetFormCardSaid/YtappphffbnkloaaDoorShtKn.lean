/- A reader that has ended; the law's known. -/
import Derived.Test.YtappphffbnkloaaDoorShtY
import Derived.Test.YtappphffbnkloaaDoorShtQ
set_option linter.unusedVariables false
set_option linter.unusedSimpArgs false
namespace Go.Proofs.YtappphffbnkloaaDoor.Sht
open Go Go.RowKit Go.Joins
attribute [local go_sem ↓] Go.wp_at_zero Go.wp_at_succ
variable {A : Nat → Addr} {W0 W : World} {b : Nat} {s : RS}
theorem known_facts {w w1 w2 : World} {g : Nat} {v : Value} {o : Obj} (hb : Below w.heap.size w w1) (hz : w1.heap.size = w.heap.size + 1) (hg : w1.heap[g]? = some o) (gl : g < w.heap.size) (hd : AsDone w1 ⟨w.heap.size, 0, none⟩ v w2) :
    Hid (Below w.heap.size w w2) ∧ Hid (w2.heap[g]? = some o) ∧ w2.cell? ⟨w.heap.size, 0, none⟩ = some v := by
  have hk : ∀ j, j < w.heap.size → w2.heap[j]? = w1.heap[j]? := fun j hj => hd.keep j (by omega) (show j ≠ w.heap.size by omega)
  exact ⟨Lib.hid ⟨hd.os.trans hb.os, hd.tape.trans hb.tape, hd.output.trans hb.output, Nat.le_trans hb.size hd.size, fun k q => (hk k q).trans (hb.block k q)⟩, Lib.hid ((hk g gl).trans hg), hd.cell⟩
set_option maxHeartbeats 4000000 in
set_option maxRecDepth 100000 in
theorem known_r (g : Nat) (x y : Nat) (e : Nat) (w : World) (hS : SG w A) (hE : ET w) (h1 : 1 ≤ e) (h2 : e ≤ 20) (hg : w.heap[g]? = some (.cells #[I x, I y, errV A e] 49 (0, 0))) :
    Calls Tryd.prog 9 #[.iface 34 (PT g), errV A e, I x, I y] w fun ev w' => ev = .returned (.bool true) ∧ Below w.heap.size w w' := by
  have gl := blt hg
  obtain ⟨w1, hw1⟩ : ∃ w1, w1 = w.alloc (.cells #[.pointer none] 34) := ⟨_, rfl⟩
  have hb : Below w.heap.size w w1 := by rw [hw1]; exact (Below.refl _ _).alloc (Nat.le_refl _) _
  have hx : w1.heap[w.heap.size]? = some (.cells #[.pointer none] 34 (0, 0)) := by rw [hw1]; exact heap_alloc_new w _
  have hg1 := (hb.block g gl).trans hg
  have HB := Lib.hid hb
  have HG1 := Lib.hid hg1
  have HS0 := Lib.hid hS
  have HA := Lib.hid (as_done g w.heap.size (.pointer none) w1 (hE.below hb) ((bcell hx 0).trans rfl) (bfree hx 0))
  have hsz : w1.heap.size = w.heap.size + 1 := by rw [hw1]; simp
  have HZ := Lib.hid hsz
  clear hb hx hg1 hS hE hg hsz
  go_enter Tryd.func9, Tryd.ntmps9
  go_wp2_with (first
    | (go_at_call 16; rw [← hw1]; (with_reducible refine HA.out.mono ?_); rintro ev w2 ⟨rfl, hd⟩; obtain ⟨HB2, HG2, d0⟩ := known_facts HB.out HZ.out HG1.out gl hd; have HI := Lib.hid (is_code A g e e _ _ w2 (HS0.out.below HB2.out) h1 h2 h1 h2 HG2.out); have HK := Lib.hid (kinds_r A g e _ _ w2 (HS0.out.below HB2.out) h1 h2 HG2.out); rw [decide_eq_true rfl] at HI; have D0 := Lib.hid d0; clear hd)
    | (go_at_call 15; (with_reducible refine HI.out.mono ?_); rintro ev w3 ⟨rfl, rfl⟩)
    | (go_at_call 17; (with_reducible refine HK.out.mono ?_); rintro ev w4 ⟨rfl, hb4⟩; have HB4 := Lib.hid hb4; have e0 := (HB4.out.cell (p := ⟨w.heap.size, 0, none⟩) (World.block_lt_of_cell? _ _ D0.out)).trans D0.out; have G4 := (HB4.out.block g (blt HG2.out)).trans HG2.out; have e1 := (bcell G4 0).trans rfl; have e2 := (bcell G4 1).trans rfl; clear hb4 d0 G4))
  go_ret
  exact ⟨rfl, HB2.out.trans (HB4.out.mono HB2.out.size)⟩
theorem isDone_yes {vc vr vl fl : Value} {lv : List Value} (h : RD A W0 W b s vc vr vl fl lv) {l c : Nat} (hd : s.fault = some (l, c, 9)) (w : World) (hw : w.heap = W.heap) :
    Calls Tryd.prog 15 #[fl, errV A 9] w fun e w' => e = .returned (.bool true) ∧ w' = w := by
  have hf := h.flt
  rw [hd] at hf
  obtain ⟨hc, g, _, rfl, hg⟩ := hf
  exact (is_fault_yes g (A 9) (I l) (I c) w (by rw [hw]; exact hg)).mono fun e w' ⟨h1, h2⟩ => ⟨h1, h2.symm⟩
set_option maxHeartbeats 8000000 in
set_option maxRecDepth 100000 in
theorem feed_done (hF : SF W0 A) (hE : ET W0) (hR : R A W0 W b s) {l c : Nat} (hd : s.fault = some (l, c, 9)) (x : Option Addr) (n cap : Nat) :
    Calls Tryd.prog 12 #[PT b, .slice x n cap] W fun e w' => ∃ ve, e = .returned (.tuple #[.slice none 0 0, ve]) ∧ FaultAt w' W.heap.size A ve (some (l, c, 9)) ∧ Below W.heap.size W w' := by
  obtain ⟨vc, vr, vl, fl, lv, h⟩ := hR
  have HI := Lib.hid (isDone_yes h hd)
  have HG := Lib.hid (fun n => again_r hE (h.drewN n))
  obtain ⟨_, _, _, _, _, _, _, _, _, _, _, _, c12⟩ := h.cells
  have gE : W.cell? ⟨2, 0, none⟩ = some (errV A 9) := h.gl hF 9 (cod (by omega))
  have HD := Lib.hid hd
  clear h hF hE hd
  go_enter Tryd.func12, Tryd.ntmps12
  go_wp2
  go_quiet ((go_at_call 15; exact Calls.quiet_of_same (HI.out _ (by rfl))))
  go_wp2_with (go_at_call 26; (with_reducible refine (HG.out _).mono ?_); rintro e w1 ⟨ve, rfl, hv, hb⟩; have HV := Lib.hid hv; have HB := Lib.hid hb; clear hv hb)
  go_ret2
  have hv := HV.out
  rw [HD.out] at hv
  exact ⟨ve, rfl, hv, ⟨HB.out.os, HB.out.tape, HB.out.output, HB.out.size, HB.out.block⟩⟩
end Go.Proofs.YtappphffbnkloaaDoor.Sht

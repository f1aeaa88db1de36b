/- What SheetStuck asks of a Reader, call by call. -/
import Derived.Test.YtinjlpodcabfaaaDoorShtKn
import Derived.Test.YtinjlpodcabfaaaDoorShtFt
import Derived.Test.YtinjlpodcabfaaaDoorShtIu
set_option linter.unusedVariables false
set_option linter.unusedSimpArgs false
namespace Go.Proofs.YtinjlpodcabfaaaDoor.Sht
open Go Go.RowKit Go.Joins
variable {A : Nat → Addr} {w wr : World} {b : Nat} {s : RS}
theorem it_any {W : World} {tb : Nat → Int} (h : Itoa.Tb W tb) : IT W (Itoa.txt tb) 499999 :=
  ⟨fun w' hb n hn => Itoa.itoa_any tb n (by omega) w' (h.below hb), fun n hn => Itoa.txt_size tb n (by omega)⟩
theorem methodFault (v : Value) (w : World) : (Go.method 263 65 v "Error").run Tryd.prog w = .ok (31, v) w := by kernel_rfl
theorem told_none {W0 W : World} {v : Value} (h : ToldAt W0 W b v []) : ∃ x c, v = .slice x 0 c := by
  obtain ⟨lv, h1, _⟩ := h
  rcases ownsRow_forms h1 with ⟨rfl, _⟩ | ⟨g, cap, rfl⟩
  · exact ⟨_, _, rfl⟩
  · exact ⟨_, _, rfl⟩
theorem rows_none (h : s.rows = []) : { s with rows := [] } = s := by cases s; simp_all
/-- a fault's cells -/
def Flt (A : Nat → Addr) (W : World) (g l c e : Nat) : Prop := W.heap[g]? = some (.cells #[I l, I c, errV A e] 67 (0, 0))
theorem stuck_feed (hF : SF w A) (hE : ET w) (hR : R A w wr b s) (hd : s.fault = some (0, 0, 9)) (m : ByteArray) :
    Calls Tryd.prog 10 #[PT b, .slice (some ⟨wr.heap.size, 0, none⟩) m.size (grownCap wr m.size 0 5)] (Lib.bytesWorld wr 5 m) fun ev w' =>
      ∃ g, ev = .returned (.tuple #[.slice none 0 0, .iface 65 (PT g)]) ∧ Flt A w' g 0 0 9 ∧ R A w w' b s := by
  have h := hR.below (below_bytes wr m)
  refine (feed_done hF hE h hd _ _ _).mono ?_
  rintro ev w' ⟨ve, rfl, ⟨_, g, _, rfl, hg⟩, hb⟩
  exact ⟨g, rfl, hg, h.below hb⟩
theorem stuck_close (hF : SF w A) (hE : ET w) (hR : R A w wr b s) {l c e : Nat} (hd : s.fault = some (l, c, e)) (hr : s.rows = []) :
    Calls Tryd.prog 12 #[PT b] wr fun ev w' =>
      ∃ g x cp, ev = .returned (.tuple #[.slice x 0 cp, .iface 65 (PT g)]) ∧ Flt A w' g l c e ∧ Fr b wr w' ∧ ∃ sd, R A w w' b sd ∧ sd.fault = some (0, 0, 9) ∧ sd.rows = [] := by
  refine (close_r hF hE hR (fun e => by rw [hd] at e; cases e)).mono ?_
  have hfin : s.fin = s := by unfold RS.fin; rw [if_neg (by rw [hd]; simp)]
  rw [hfin]
  rintro ev w' ⟨vl, ve, rfl, h1, h2, h3, h4⟩
  rw [hr] at h2
  obtain ⟨x, cp, rfl⟩ := told_none h2
  rw [hd] at h3
  obtain ⟨⟨_, g, _, rfl, hg⟩, _⟩ := h3
  exact ⟨g, x, cp, rfl, hg, h4, _, h1, rfl, rfl⟩
theorem open_close (hF : SF w A) (hE : ET w) (hR : R A w wr b s) (hL : s.Live) :
    Calls Tryd.prog 12 #[PT b] wr fun ev w' => ∃ vl ve, ev = .returned (.tuple #[vl, ve]) ∧ ∃ sd, R A w w' b sd ∧ sd.fault = some (0, 0, 9) ∧ sd.rows = [] :=
  (close_r hF hE hR hL).mono fun ev w' ⟨vl, ve, h0, h1, _⟩ => ⟨vl, ve, h0, _, h1, rfl, rfl⟩
theorem again_feed (hF : SF w A) (hE : ET w) (hR : R A w wr b s) {l c e : Nat} (hd : s.fault = some (l, c, e)) (h9 : e ≠ 9) (hr : s.rows = []) (m : ByteArray) (hm : m.size ≤ 4611686018427387904) :
    Calls Tryd.prog 10 #[PT b, .slice (some ⟨wr.heap.size, 0, none⟩) m.size (grownCap wr m.size 0 5)] (Lib.bytesWorld wr 5 m) fun ev w' =>
      ∃ g x cp, ev = .returned (.tuple #[.slice x 0 cp, .iface 65 (PT g)]) ∧ Flt A w' g l c e ∧ Fr b wr w' ∧ R A w w' b s := by
  refine (feed_text hF hE hR (fun e => by rw [hd] at e; cases e) (fun l' c' q => by rw [hd] at q; cases q; exact h9 rfl) m hm).mono ?_
  have hst : s.feed m.data.toList = s := feed_stop (by rw [hd]; simp) _
  rw [hst]
  rintro ev w' ⟨vl, ve, rfl, h1, h2, h3, h4⟩
  rw [rows_none hr] at h1
  rw [hr] at h2
  obtain ⟨x, cp, rfl⟩ := told_none h2
  rw [hd] at h3
  obtain ⟨⟨_, g, _, rfl, hg⟩, _⟩ := h3
  exact ⟨g, x, cp, rfl, hg, h4, h1⟩
theorem known_done (hS : SG w A) (hE : ET w) (hb : Below w.heap.size w wr) {g : Nat} (hg : Flt A wr g 0 0 9) :
    Calls Tryd.prog 13 #[.iface 65 (PT g), errV A 9, .int .i64 0, .int .i64 0] wr fun ev w' => ev = .returned (.bool true) ∧ Below wr.heap.size wr w' :=
  known_r g 0 0 9 wr (hS.below hb) (hE.below hb) (by omega) (by omega) hg
theorem err_text {T : Nat → ByteArray} {N : Nat} (hS : SG w A) (hI : IT w T N) (hb : Below w.heap.size w wr) {g l c e : Nat} {x : ByteArray} (hx : w.cell? (A e) = some (.string x)) (hz : x.size < 1000) (hl : l ≤ N) (hc : c ≤ N) (hg : Flt A wr g l c e) :
    Calls Tryd.prog 31 #[PT g] wr fun ev w' => ev = .returned (.string (ftext T l c x)) ∧ Below wr.heap.size wr w' :=
  fault_error T g l c (A e) x wr (hI.below hb) hl hc hg ((hb.cell (World.block_lt_of_cell? w _ hx)).trans hx) hz
theorem Flt.below {g l c e : Nat} {w' : World} (h : Flt A wr g l c e) (k : Below wr.heap.size wr w') : Flt A w' g l c e := (k.block g (blt h)).trans h
end Go.Proofs.YtinjlpodcabfaaaDoor.Sht

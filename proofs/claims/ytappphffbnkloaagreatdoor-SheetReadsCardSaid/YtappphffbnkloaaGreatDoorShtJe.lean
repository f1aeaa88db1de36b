-- joined out of the texts ShtSy ShtKn ShtPp ShtPu ShtDg ShtLv ShtIs ShtNl ShtRp ShtFi ShtRq ShtOb ShtRe ShtGr ShtAw
import Derived.Test.YtappphffbnkloaaGreatDoorShtJd
import Derived.Test.YtappphffbnkloaaGreatDoorShtJb
import Derived.Test.YtappphffbnkloaaGreatDoorShtJc
import Derived.Test.YtappphffbnkloaaGreatDoorShtJa
import Derived.Test.YtappphffbnkloaaGreatDoorShelf
import Derived.Lib.AppendIntMem
import Derived.Lib.ItoaLen
import Derived.Lib.ItoaMem
import Derived.Test.YtappphffbnkloaaGreatDoorChecked
import Derived.WalkKit
import Derived.LaidEql
import Derived.Stop.Asserts
import Derived.RowKitTokens
import Derived.Maps.AppendAt
set_option linter.unusedVariables false
set_option linter.unusedSimpArgs false
namespace Go.Proofs.YtappphffbnkloaaGreatDoor.Sht
open Go Go.RowKit Go.Proofs.YtappphffbnkloaaGreatDoorW.PrintWords Go.Proofs.YtappphffbnkloaaGreatDoor.GS
structure Sys (A : Nat → Addr) (W0 w : World) (b rb bk : Nat) (s : RS) (t : ByteArray) (n : Nat) (c l k a : Int) (o : Bool) (as' : List Rows) (X : BX) : Prop where
  r : R A W0 w b s
  rows : s.rows = []
  rf : RfAt w rb t n c l k a o
  hrb : W0.heap.size ≤ rb
  hbk : W0.heap.size ≤ bk
  hold : Hold w W0.heap.size bk X as' []
  nwr : ∀ j, wr w b j → j ∉ blks (X.Fl as' [])
/-- rows that were told, none of the Books' -/
def Tlr (W0 w : World) (b : Nat) (v : Value) (rs : Rows) (as' : List Rows) (X : BX) : Prop :=
  ∃ lv, w.ownsRow W0.heap.size 28 1 v rs.length lv ∧ RowsAt w W0.heap.size lv rs ∧ (ob v ++ lv.flatMap ob).Nodup ∧ ∀ j ∈ ob v ++ lv.flatMap ob, j ∉ blks (X.Fl as' []) ∧ ¬ wr w b j
theorem wr_same {w w' : World} {b : Nat} (h : w'.heap[b]? = w.heap[b]?) {j : Nat} (hj : wr w' b j) : wr w b j := by
  rcases hj with e | ⟨o, v, ho, h1, h2⟩
  · exact .inl e
  · exact .inr ⟨o, v, ho, (World.cell?_of_block (w := w) (a := ⟨b, o, none⟩) h).symm.trans h1, h2⟩
section
variable {A : Nat → Addr} {W0 w w' : World} {b rb bk : Nat} {s s' : RS} {t : ByteArray} {n : Nat} {c l k a : Int} {o : Bool} {as' : List Rows} {X : BX}
theorem OwnsAll.kind {B : Nat} {L : List En} (h : OwnsAll w B L) {j : Nat} (hj : j ∈ blks L) : ∃ cs e, w.heap[j]? = some (.cells cs e (0, 0)) ∧ ∃ x ∈ L, x.1 = e := by
  obtain ⟨x, hx, hj⟩ := List.mem_flatMap.1 hj
  obtain ⟨cs, hc⟩ := kind_row (h.own x hx) j (mem_ob.1 hj)
  exact ⟨cs, x.1, hc, x, hx, rfl⟩
theorem Hold.kind {B : Nat} (h : Hold w B bk X as' []) {j : Nat} (hj : j ∈ blks (X.Fl as' [])) : ∃ cs e, w.heap[j]? = some (.cells cs e (0, 0)) ∧ (e = 9 ∨ e = 28 ∨ e = 30) := by
  obtain ⟨cs, e, h1, x, hx, rfl⟩ := h.own.kind hj
  rcases Fl_ty h.ty x hx with q | q
  · exact ⟨cs, x.1, h1, q⟩
  · simp at q
theorem kind_ne {j i : Nat} {cs cs' : Array Value} {e e' : TypeId} (h : w.heap[j]? = some (.cells cs e (0, 0))) (h' : w.heap[i]? = some (.cells cs' e' (0, 0))) (hn : e ≠ e') : j ≠ i := fun q => by
  subst q
  rw [h] at h'
  exact hn (Obj.cells.inj (Option.some.inj h')).2.1
theorem R.kind (h : R A W0 w b s) {j : Nat} (hj : wr w b j) : ∃ cs e, w.heap[j]? = some (.cells cs e (0, 0)) ∧ (e = 82 ∨ e = 5 ∨ e = 9 ∨ e = 28) := by
  obtain ⟨vc, vr, vl, fl, lv, h⟩ := h
  rw [h.wr_iff] at hj
  rcases hj with rfl | q | q | q
  · exact ⟨_, _, h.blk, .inl rfl⟩
  · obtain ⟨cs, hc⟩ := kind_row h.hc j q
    exact ⟨cs, _, hc, .inr (.inl rfl)⟩
  · obtain ⟨cs, hc⟩ := kind_row h.hr j q
    exact ⟨cs, _, hc, .inr (.inr (.inl rfl))⟩
  · obtain ⟨cs, hc⟩ := kind_row h.hl j q
    exact ⟨cs, _, hc, .inr (.inr (.inr rfl))⟩
/-- a Reader that holds no rows is kept by what leaves its blocks and all errors -/
theorem R.keep (h : R A W0 w b s) (hr : s.rows = []) (k : Below W0.heap.size w w') (hk : ∀ j, wr w b j → w'.heap[j]? = w.heap[j]?) (hf : ∀ (j : Nat) (cs : Array Value), w.heap[j]? = some (Obj.cells cs 70 (0, 0)) → w'.heap[j]? = w.heap[j]?) : R A W0 w' b s ∧ ∀ j, wr w' b j ↔ wr w b j := by
  obtain ⟨vc, vr, vl, fl, lv, h⟩ := h
  have hlv : lv = [] := by
    have := h.hl.1
    rw [hr] at this
    exact List.eq_nil_of_length_eq_zero (by simpa using this)
  subst hlv
  have h' : RD A W0 w' b s vc vr vl fl [] := h.kept k fun j hj => by
    simp only [List.mem_cons, List.mem_append, List.flatMap_nil, List.not_mem_nil, or_false] at hj
    rcases hj with rfl | q | q | q | q
    · exact hk j (.inl rfl)
    · exact hk j ((h.wr_iff j).2 (.inr (.inl (mem_ob.1 q))))
    · exact hk j ((h.wr_iff j).2 (.inr (.inr (.inl (mem_ob.1 q)))))
    · exact hk j ((h.wr_iff j).2 (.inr (.inr (.inr (mem_ob.1 q)))))
    · have hflt := h.flt
      cases hs : s.fault with
      | none =>
        rw [hs] at hflt
        simp only [FaultAt] at hflt
        subst hflt
        simp [fb] at q
      | some f =>
        obtain ⟨l, c, e⟩ := f
        rw [hs] at hflt
        obtain ⟨_, g, _, rfl, hg⟩ := hflt
        simp only [fb, List.mem_singleton] at q
        subst q
        exact hf _ _ hg
  exact ⟨R.mk h', fun j => by rw [h'.wr_iff, h.wr_iff]⟩
theorem Hold.keep {B : Nat} {Z : List En} (h : Hold w B bk X as' Z) (h1 : w'.heap[bk]? = w.heap[bk]?) (h2 : ∀ j, j ∈ blks (X.Fl as' Z) → w'.heap[j]? = w.heap[j]?) : Hold w' B bk X as' Z :=
  ⟨h1.trans h.bk, h.own.keep h2, h.az, h.lv, h.ok, h.ss, h.told, h.ys, h.cop, h.ty⟩
theorem Hold.below {B : Nat} {Z : List En} (h : Hold w B bk X as' Z) (k : Below w.heap.size w w') : Hold w' B bk X as' Z :=
  h.keep (k.block bk (blt h.bk)) fun j hj => k.block j (h.own.lt hj).2
theorem Tlr.keep {v : Value} {rs : Rows} (h : Tlr W0 w b v rs as' X) (hb : w'.heap[b]? = w.heap[b]?) (hk : ∀ j cs, w.heap[j]? = some (.cells cs 28 (0, 0)) ∨ w.heap[j]? = some (.cells cs 9 (0, 0)) → (j ∉ blks (X.Fl as' [])) → w'.heap[j]? = w.heap[j]?) : Tlr W0 w' b v rs as' X := by
  obtain ⟨lv, h1, h2, h3, h4⟩ := h
  refine ⟨lv, ownsRow_kept h1 fun j hj => ?_, rowsAt_kept h2 fun j hj => ?_, h3, fun j hj => ⟨(h4 j hj).1, fun q => (h4 j hj).2 (wr_same hb q)⟩⟩
  · obtain ⟨cs, hc⟩ := kind_row h1 j hj
    exact hk j cs (.inl hc) (h4 j (List.mem_append_left _ (mem_ob.2 hj))).1
  · obtain ⟨cs, hc⟩ := kind_rows h2 j hj
    exact hk j cs (.inr hc) (h4 j (List.mem_append_right _ hj)).1
theorem Tlr.below {v : Value} {rs : Rows} (h : Tlr W0 w b v rs as' X) (hb : b < w.heap.size) (k : Below w.heap.size w w') : Tlr W0 w' b v rs as' X :=
  h.keep (k.block b hb) fun j cs hj _ => k.block j (by rcases hj with hj | hj <;> exact blt hj)
theorem Tlr.fq {v : Value} {rs : Rows} (h : Tlr W0 w b v rs as' X) (hb : b < w.heap.size) (hne : b ≠ rb) (hr : RfAt w rb t n c l k a o) (q : Fq rb w w') : Tlr W0 w' b v rs as' X :=
  h.keep (q.keep b hb hne) fun j cs hj _ => by
    rcases hj with hj | hj
    · exact q.keep j (blt hj) (kind_ne hj hr (by decide))
    · exact q.keep j (blt hj) (kind_ne hj hr (by decide))
theorem Sys.lt (h : Sys A W0 w b rb bk s t n c l k a o as' X) {j : Nat} (hj : j ∈ blks (X.Fl as' [])) : W0.heap.size ≤ j ∧ j < w.heap.size := h.hold.own.lt hj
theorem Sys.below (h : Sys A W0 w b rb bk s t n c l k a o as' X) (q : Below w.heap.size w w') : Sys A W0 w' b rb bk s t n c l k a o as' X :=
  ⟨h.r.below q, h.rows, h.rf.below q, h.hrb, h.hbk, h.hold.below q, fun j hj => h.nwr j (wr_below h.r.lt q j hj)⟩
theorem Sys.rb_wr (h : Sys A W0 w b rb bk s t n c l k a o as' X) : ¬ wr w b rb := fun hw => by
  obtain ⟨cs, e, hc, he⟩ := h.r.kind hw
  refine kind_ne hc h.rf ?_ rfl
  rcases he with rfl | rfl | rfl | rfl <;> decide
theorem Sys.bk_wr (h : Sys A W0 w b rb bk s t n c l k a o as' X) : ¬ wr w b bk := fun hw => by
  obtain ⟨cs, e, hc, he⟩ := h.r.kind hw
  refine kind_ne hc h.hold.bk ?_ rfl
  rcases he with rfl | rfl | rfl | rfl <;> decide
/-- the Reader has run -/
theorem Sys.fed (h : Sys A W0 w b rb bk s t n c l k a o as' X) (hr : R A W0 w' b s') (hs : s'.rows = []) (q : Fr b w w') : Sys A W0 w' b rb bk s' t n c l k a o as' X :=
  ⟨hr, hs, (q.keep rb (blt h.rf) h.rb_wr).trans h.rf, h.hrb, h.hbk, h.hold.keep (q.keep bk (blt h.hold.bk) h.bk_wr) (fun j hj => q.keep j (h.lt hj).2 (fun hw => h.nwr j hw hj)), fun j hj hm => by
    rcases q.own j hj with e | e
    · exact h.nwr j e hm
    · have := (h.lt hm).2
      omega⟩
/-- what it told is none of the Books' -/
theorem Sys.tld (h : Sys A W0 w b rb bk s t n c l k a o as' X) {v : Value} {rs : Rows} (ht : ToldAt W0 w' b v rs) (hs : Src w b v w') : Tlr W0 w' b v rs as' X := by
  obtain ⟨lv, h1, h2, h3, h4⟩ := ht
  refine ⟨lv, h1, h2, h3, fun j hj => ⟨fun hm => ?_, h4 j hj⟩⟩
  have hsrc : (wr w b j ∨ tw w b j) ∨ w.heap.size ≤ j := hs j (by
    rcases List.mem_append.1 hj with q | q
    · exact .inl (mem_ob.1 q)
    · obtain ⟨u, hu, hju⟩ := List.mem_flatMap.1 q
      obtain ⟨i, hi⟩ := List.mem_iff_getElem?.1 hu
      obtain ⟨hil, _⟩ := List.getElem?_eq_some_iff.1 hi
      have hl : lv.length = rs.length := (rows_get h2).1
      obtain ⟨g, cap, e, _, _⟩ := World.ownsRow.form h1 (by omega)
      have hc := World.ownsRow.cells h1 (g := g) (by rw [e]; rfl) i u hi
      exact .inr ⟨g, rs.length, cap, i, u, e, by omega, by rwa [Lib.add_plain, Nat.zero_add] at hc, mem_ob.1 hju⟩)
  rcases hsrc with (q | q) | q
  · exact h.nwr j q hm
  · obtain ⟨vc, vr, vl, fl, lv0, hd⟩ := h.r
    rw [hd.tw_iff] at q
    have hlv : lv0 = [] := by
      have := hd.hl.1
      rw [h.rows] at this
      exact List.eq_nil_of_length_eq_zero (by simpa using this)
    rw [hlv] at q
    simp at q
  · have := (h.lt hm).2
    omega
theorem below_fq {N b : Nat} {w w' : World} (h : Fq b w w') (hb : N ≤ b) (hN : N ≤ w.heap.size) : Below N w w' :=
  ⟨h.os, h.tape, h.output, h.size, fun j hj => h.keep j (by omega) (by omega)⟩
/-- the reference's Reader has run -/
theorem Sys.ref (h : Sys A W0 w b rb bk s t n c l k a o as' X) {t' : ByteArray} {n' : Nat} {c' l' k' a' : Int} {o' : Bool} (hr : RfAt w' rb t' n' c' l' k' a' o') (q : Fq rb w w') : Sys A W0 w' b rb bk s t' n' c' l' k' a' o' as' X := by
  have hb := h.r.base
  obtain ⟨k1, k2⟩ := h.r.keep h.rows (below_fq q h.hrb hb.size) (fun j hj => q.keep j (h.r.wr_lt hj) (fun e => h.rb_wr (e ▸ hj))) (fun j cs hj => q.keep j (blt hj) (kind_ne hj h.rf (by decide)))
  refine ⟨k1, h.rows, hr, h.hrb, h.hbk, h.hold.keep (q.keep bk (blt h.hold.bk) (kind_ne h.hold.bk h.rf (by decide))) (fun j hj => ?_), fun j hj => h.nwr j ((k2 j).1 hj)⟩
  obtain ⟨cs, e, hc, he⟩ := h.hold.kind hj
  refine q.keep j (blt hc) (kind_ne hc h.rf ?_)
  rcases he with rfl | rfl | rfl <;> decide
/-- a byte of a list of bytes is written -/
theorem Sys.put (h : Sys A W0 w b rb bk s t n c l k a o as' X) {g i : Nat} {u : Value} {cs : Array Value} (hg : w.heap[g]? = some (.cells cs 5 (0, 0))) (hn : ¬ wr w b g) (h0 : W0.heap.size ≤ g) : Sys A W0 (w.setCell ⟨g, i, none⟩ u) b rb bk s t n c l k a o as' X ∧ ¬ wr (w.setCell ⟨g, i, none⟩ u) b g := by
  have hk : ∀ j, j ≠ g → (w.setCell ⟨g, i, none⟩ u).heap[j]? = w.heap[j]? := fun j hj => Below.heap_setCell w ⟨g, i, none⟩ u j hj
  obtain ⟨k1, k2⟩ := h.r.keep h.rows (w' := w.setCell ⟨g, i, none⟩ u) ⟨rfl, rfl, rfl, by rw [setSize]; exact Nat.le_refl _, fun j hj => hk j (by omega)⟩ (fun j hj => hk j (fun e => hn (e ▸ hj))) (fun j cs hj => hk j (kind_ne hj hg (by decide)))
  refine ⟨⟨k1, h.rows, (hk rb (kind_ne h.rf hg (by decide))).trans h.rf, h.hrb, h.hbk, h.hold.keep (hk bk (kind_ne h.hold.bk hg (by decide))) (fun j hj => ?_), fun j hj => h.nwr j ((k2 j).1 hj)⟩, fun hw => hn ((k2 g).1 hw)⟩
  obtain ⟨cs, e, hc, he⟩ := h.hold.kind hj
  refine hk j (kind_ne hc hg ?_)
  rcases he with rfl | rfl | rfl <;> decide
/-- Books take what was told -/
theorem Sys.books (h : Sys A W0 w b rb bk s t n c l k a o as' X) {v : Value} {rs : Rows} (hT : Tlr W0 w b v rs as' X) (hrs : ∀ r ∈ rs, 0 < r.length ∧ r.length ≤ 100) (K : Nat) (Rt : ByteArray) (hK : larderref01_told.f K (rws rs) = some Rt)
    (hx : as'.flatten.length + rs.length ≤ 4000000000000) (haz : as'.length ≤ 5000000000000) :
    Calls Tryz.prog 13 #[PT bk, v] w fun e w' => e = .returned (.tuple #[]) ∧ ∃ X' : BX, Sys A W0 w' b rb bk s t n c l k a o (as' ++ [rs]) X' ∧ Bf bk [X.tv, X.t0, X.rv, X.r0] w w' := by
  obtain ⟨lv, h1, h2, h3, h4⟩ := hT
  obtain ⟨vc, vr, vl, fl, lv0, hd⟩ := h.r
  have hlv : lv0 = [] := by
    have := hd.hl.1
    rw [h.rows] at this
    exact List.eq_nil_of_length_eq_zero (by simpa using this)
  subst hlv
  have hwr := hd.wr_iff
  have hdis := hd.dis
  simp only [List.flatMap_nil, List.append_nil] at hdis
  -- the Reader's own rows beside the Books'
  have hcl : (bs s.cell).length = s.cell.length := bs_len _
  have hrl : (sts s.row).length = s.row.length := sts_len _
  obtain ⟨Z, hZ⟩ : ∃ Z : List En, Z = [((5 : TypeId), vc, bs s.cell), (9, vr, sts s.row), (28, vl, [])] := ⟨_, rfl⟩
  have hZb : blks Z = ob vc ++ (ob vr ++ ob vl) := by rw [hZ]; simp [blks]
  have hnd : (ob vc ++ (ob vr ++ ob vl)).Nodup := by
    have := (List.nodup_cons.1 hdis).2
    refine List.Nodup.sublist ?_ this
    exact List.Sublist.append (List.Sublist.refl _) (List.Sublist.append (List.Sublist.refl _) (List.sublist_append_left _ _))
  have hZw : ∀ j, j ∈ blks Z → wr w b j := fun j hj => by
    rw [hZb] at hj
    rw [hwr]
    simp only [List.mem_append] at hj
    rcases hj with q | q | q
    · exact .inr (.inl (mem_ob.1 q))
    · exact .inr (.inr (.inl (mem_ob.1 q)))
    · exact .inr (.inr (.inr (mem_ob.1 q)))
  have hFl : blks (X.Fl as' Z) = blks (X.Fl as' []) ++ blks Z := by
    unfold BX.Fl
    simp only [blks, List.flatMap_cons, List.flatMap_append, List.flatMap_nil, List.append_nil, List.append_assoc]
  have hFm : ∀ x, x ∈ X.Fl as' Z ↔ x ∈ X.Fl as' [] ∨ x ∈ Z := fun x => by
    unfold BX.Fl
    simp only [List.mem_cons, List.mem_append, List.not_mem_nil, or_false]
    constructor
    · rintro (q | q | q | q | q | q | q | q) <;> simp [q]
    · rintro ((q | q | q | q | q | q | q) | q) <;> simp [q]
  have hOZ : OwnsAll w W0.heap.size (X.Fl as' Z) := ⟨fun x hx => by
    rcases (hFm x).1 hx with q | q
    · exact h.hold.own.own x q
    · rw [hZ] at q
      simp only [List.mem_cons, List.not_mem_nil, or_false] at q
      rcases q with rfl | rfl | rfl
      · show w.ownsRow _ 5 1 vc (bs s.cell).length (bs s.cell)
        rw [hcl]
        exact hd.hc
      · show w.ownsRow _ 9 1 vr (sts s.row).length (sts s.row)
        rw [hrl]
        exact hd.hr
      · have := hd.hl
        rw [h.rows] at this
        exact this, by
    rw [hFl]
    exact List.nodup_append.2 ⟨h.hold.own.dis, by rw [hZb]; exact hnd, fun x hx y hy e => h.nwr y (hZw y hy) (e ▸ hx)⟩⟩
  have hH : Hold w W0.heap.size bk X as' Z := ⟨h.hold.bk, hOZ, h.hold.az, h.hold.lv, h.hold.ok, h.hold.ss, h.hold.told, h.hold.ys, h.hold.cop, h.hold.ty⟩
  have hZt : ∀ x ∈ Z, x.1 ≠ 36 := fun x hx => by
    rw [hZ] at hx
    simp only [List.mem_cons, List.not_mem_nil, or_false] at hx
    rcases hx with rfl | rfl | rfl
    · show (5 : Nat) ≠ _
      decide
    · exact ne9
    · exact ne28
  refine (hold_rows hH h.r.base.size hZt v rs lv h1 h2 h3 (fun j hj hm => by
    rw [hFl] at hm
    rcases List.mem_append.1 hm with q | q
    · exact (h4 j hj).1 q
    · exact (h4 j hj).2 (hZw j q)) hrs K Rt hK hx haz).mono ?_
  rintro e w' ⟨he, X', hH', hF⟩
  have hsz := hF.size
  -- none of the blocks that were written is the Reader's
  have hhead : ∀ j, (∀ x ∈ [X.tv, X.t0, X.rv, X.r0], x.ownBlock ≠ some j) ∨ j ∈ blks (X.Fl as' []) := fun j => by
    by_cases q : j ∈ blks (X.Fl as' [])
    · exact .inr q
    · refine .inl fun x hx e => q ?_
      unfold BX.Fl blks
      simp only [List.flatMap_cons, List.mem_append]
      simp only [List.mem_cons, List.not_mem_nil, or_false] at hx
      rcases hx with rfl | rfl | rfl | rfl
      · exact .inl (mem_ob.2 e)
      · exact .inr (.inl (mem_ob.2 e))
      · exact .inr (.inr (.inl (mem_ob.2 e)))
      · exact .inr (.inr (.inr (.inl (mem_ob.2 e))))
  have hkeep : ∀ j, j < w.heap.size → j ≠ bk → j ∉ blks (X.Fl as' []) → w'.heap[j]? = w.heap[j]? := fun j hj hb hn => hF.keep j hj hb (by
    rcases hhead j with q | q
    · exact q
    · exact absurd q hn)
  have hother : ∀ {j : Nat} {cs : Array Value} {e : TypeId}, w.heap[j]? = some (.cells cs e (0, 0)) → e ≠ 9 → e ≠ 28 → e ≠ 30 → e ≠ 36 → w'.heap[j]? = w.heap[j]? := fun {j cs e} hj n1 n2 n3 n4 =>
    hkeep j (blt hj) (kind_ne hj h.hold.bk n4) (fun hm => by
      obtain ⟨cs', e', hc, he⟩ := h.hold.kind hm
      refine kind_ne hj hc ?_ rfl
      rcases he with rfl | rfl | rfl
      · exact n1
      · exact n2
      · exact n3)
  have hbelow : Below W0.heap.size w w' := ⟨hF.os, hF.tape, hF.output, hF.size, fun j hj => hkeep j (by have := h.r.base.size; omega) (by have := h.hbk; omega) (fun hm => by have := (h.lt hm).1; omega)⟩
  obtain ⟨k1, k2⟩ := h.r.keep h.rows hbelow (fun j hj => hkeep j (h.r.wr_lt hj) (fun e => h.bk_wr (e ▸ hj)) (h.nwr j hj)) (fun j cs hj => hother hj (by decide) (by decide) (by decide) (by decide))
  have hFl' : blks (X'.Fl (as' ++ [rs]) Z) = blks (X'.Fl (as' ++ [rs]) []) ++ blks Z := by
    unfold BX.Fl
    simp only [blks, List.flatMap_cons, List.flatMap_append, List.flatMap_nil, List.append_nil, List.append_assoc]
  have hFm' : ∀ x, x ∈ X'.Fl (as' ++ [rs]) [] → x ∈ X'.Fl (as' ++ [rs]) Z := fun x => by
    unfold BX.Fl
    simp only [List.mem_cons, List.mem_append, List.not_mem_nil, or_false]
    rintro (q | q | q | q | q | q | q)
    · exact .inl q
    · exact .inr (.inl q)
    · exact .inr (.inr (.inl q))
    · exact .inr (.inr (.inr (.inl q)))
    · exact .inr (.inr (.inr (.inr (.inl q))))
    · exact .inr (.inr (.inr (.inr (.inr (.inl q)))))
    · exact .inr (.inr (.inr (.inr (.inr (.inr (.inl q))))))
  have hdis' := hH'.own.dis
  rw [hFl'] at hdis'
  obtain ⟨d1, d2, d3⟩ := List.nodup_append.1 hdis'
  have hO' : OwnsAll w' W0.heap.size (X'.Fl (as' ++ [rs]) []) := ⟨fun x hx => hH'.own.own x (hFm' x hx), d1⟩
  have hH2 : Hold w' W0.heap.size bk X' (as' ++ [rs]) [] := ⟨hH'.bk, hO', hH'.az, hH'.lv, hH'.ok, hH'.ss, hH'.told, hH'.ys, hH'.cop, hH'.ty⟩
  refine ⟨he, X', ⟨k1, h.rows, (hother h.rf (by decide) (by decide) (by decide) (by decide)).trans h.rf, h.hrb, h.hbk, hH2, fun j hj hm => ?_⟩, hF⟩
  rw [k2, hwr] at hj
  rcases hj with rfl | q
  · obtain ⟨cs, e, hc, he⟩ := hH2.kind hm
    have hb2 := (hother hd.blk (by decide) (by decide) (by decide) (by decide)).trans hd.blk
    refine kind_ne hc hb2 ?_ rfl
    rcases he with rfl | rfl | rfl <;> decide
  · refine d3 j hm j ?_ rfl
    rw [hZb]
    simp only [List.mem_append]
    rcases q with q | q | q
    · exact .inl (mem_ob.2 q)
    · exact .inr (.inl (mem_ob.2 q))
    · exact .inr (.inr (mem_ob.2 q))
end
end Go.Proofs.YtappphffbnkloaaGreatDoor.Sht
set_option linter.unusedVariables false
set_option linter.unusedSimpArgs false
namespace Go.Proofs.YtappphffbnkloaaGreatDoor.Sht
open Go Go.RowKit Go.Joins
attribute [local go_sem ↓] Go.wp_at_zero Go.wp_at_succ
variable {A : Nat → Addr} {W0 W : World} {b : Nat} {s : RS}
theorem isDone_yes {vc vr vl fl : Value} {lv : List Value} (h : RD A W0 W b s vc vr vl fl lv) {l c : Nat} (hd : s.fault = some (l, c, 9)) (w : World) (hw : w.heap = W.heap) :
    Calls Tryz.prog 27 #[fl, errV A 9] w fun e w' => e = .returned (.bool true) ∧ w' = w := by
  have hf := h.flt
  rw [hd] at hf
  obtain ⟨hc, g, _, rfl, hg⟩ := hf
  exact (is_fault_yes g (A 9) (I l) (I c) w (by rw [hw]; exact hg)).mono fun e w' ⟨h1, h2⟩ => ⟨h1, h2.symm⟩
set_option maxHeartbeats 8000000 in
set_option maxRecDepth 100000 in
theorem feed_done (hF : SF W0 A) (hE : ET W0) (hR : R A W0 W b s) {l c : Nat} (hd : s.fault = some (l, c, 9)) (x : Option Addr) (n cap : Nat) :
    Calls Tryz.prog 15 #[PT b, .slice x n cap] W fun e w' => ∃ ve, e = .returned (.tuple #[.slice none 0 0, ve]) ∧ FaultAt w' W.heap.size A ve (some (l, c, 9)) ∧ Below W.heap.size W w' := by
  obtain ⟨vc, vr, vl, fl, lv, h⟩ := hR
  have HI := Lib.hid (isDone_yes h hd)
  have HG := Lib.hid (fun n => again_r hE (h.drewN n))
  obtain ⟨_, _, _, _, _, _, _, _, _, _, _, _, c12⟩ := h.cells
  have gE : W.cell? ⟨4, 0, none⟩ = some (errV A 9) := h.gl hF 9 (cod (by omega))
  have HD := Lib.hid hd
  clear h hF hE hd
  go_enter Tryz.func15, Tryz.ntmps15
  go_wp2
  go_quiet ((go_at_call 27; exact Calls.quiet_of_same (HI.out _ (by rfl))))
  go_wp2_with (go_at_call 38; (with_reducible refine (HG.out _).mono ?_); rintro e w1 ⟨ve, rfl, hv, hb⟩; have HV := Lib.hid hv; have HB := Lib.hid hb; clear hv hb)
  go_ret2
  have hv := HV.out
  rw [HD.out] at hv
  exact ⟨ve, rfl, hv, ⟨HB.out.os, HB.out.tape, HB.out.output, HB.out.size, HB.out.block⟩⟩
end Go.Proofs.YtappphffbnkloaaGreatDoor.Sht
set_option linter.unusedVariables false
set_option linter.unusedSimpArgs false
namespace Go.Proofs.YtappphffbnkloaaGreatDoor.Sht
/-- rows ahead of a state's own -/
def RS.pre (p : Rows) (s : RS) : RS := { s with rows := p ++ s.rows }
section
variable (p : Rows) (s : RS) (x : UInt8)
theorem pre_widen : (s.pre p).widen = s.widen.pre p := by
  unfold RS.widen
  show (if s.count = 0 then _ else _) = _
  split <;> rfl
theorem pre_newRow : (s.pre p).newRow = s.newRow.pre p := by
  unfold RS.newRow RS.pre
  simp
theorem pre_endRow (l c : Nat) : (s.pre p).endRow l c = (s.endRow l c).pre p := by
  unfold RS.endRow
  rw [pre_widen]
  show (if s.widen.row.length = s.widen.width then _ else _) = _
  split
  · exact pre_newRow p s.widen
  · rfl
theorem pre_put : (s.pre p).put x = (s.put x).pre p := by
  unfold RS.put
  show (if 4096 < (s.cell ++ [x]).length then _ else _) = _
  split <;> rfl
theorem pre_comma : (s.pre p).comma = s.comma.pre p := by
  unfold RS.comma
  show RS.turn (if s.endCell.row.length = 64 then _ else _) .start = _
  split <;> rfl
theorem pre_plain : (s.pre p).plain x = (s.plain x).pre p := by
  unfold RS.plain
  repeat' split
  all_goals first | exact pre_comma p s | exact pre_put p s x | rfl
theorem pre_quoted : (s.pre p).quoted x = (s.quoted x).pre p := by
  unfold RS.quoted
  repeat' split
  all_goals first | exact pre_put p s x | rfl
theorem pre_closed : (s.pre p).closed x = (s.closed x).pre p := by
  unfold RS.closed
  repeat' split
  all_goals first | exact pre_comma p s | exact pre_put p (s.turn .quoted) x | rfl
theorem pre_back : (s.pre p).back x = (s.back x).pre p := by
  unfold RS.back
  split
  · exact pre_endRow p s _ _
  · rfl
theorem pre_start : (s.pre p).start x = (s.start x).pre p := by
  unfold RS.start
  split
  · rfl
  · exact pre_plain p (s.turn .plain) x
theorem pre_fresh : (s.pre p).fresh x = (s.fresh x).pre p := by
  unfold RS.fresh
  show (if s.count = 4096 then _ else _) = _
  split
  · rfl
  · exact pre_start p s x
theorem pre_next : (s.pre p).next x = (s.next x).pre p := by
  unfold RS.next
  show (match s.md with | .fresh => _ | .start => _ | .plain => _ | .quoted => _ | .closed => _ | .back => _) = _
  cases h : s.md
  · exact pre_fresh p s x
  · exact pre_start p s x
  · exact pre_plain p s x
  · exact pre_quoted p s x
  · exact pre_closed p s x
  · exact pre_back p s x
theorem pre_step : (s.pre p).step x = (s.step x).pre p := by
  unfold RS.step
  show (if s.all = 262144 then _ else _) = _
  split
  · rfl
  · show RS.on (RS.next (RS.pre p { s with all := s.all + 1 }) x) x = _
    rw [pre_next]
    unfold RS.on
    split <;> rfl
end
theorem pre_feed (p : Rows) : ∀ (l : List UInt8) (s : RS), (s.pre p).feed l = (s.feed l).pre p
  | [], s => rfl
  | x :: l, s => by
    by_cases h : s.fault = none
    · rw [feed_cons (s := s.pre p) h, feed_cons h, pre_step, pre_feed p l]
    · rw [feed_stop (s := s.pre p) h, feed_stop h]
theorem pre_over (p : Rows) (s : RS) : (s.pre p).over = s.over.pre p := by
  unfold RS.over
  show (match s.md with | .fresh => _ | .start => _ | .plain => _ | .closed => _ | .quoted => _ | .back => _) = _
  cases h : s.md
  · rfl
  · exact pre_endRow p s.endCell _ _
  · exact pre_endRow p s.endCell _ _
  · rfl
  · exact pre_endRow p s.endCell _ _
  · rfl
theorem pre_fin (p : Rows) (s : RS) : (s.pre p).fin = s.fin.pre p := by
  unfold RS.fin
  show (if s.fault = none then _ else _) = _
  split
  · exact pre_over p s
  · rfl
/-- the state, its rows told -/
def RS.bare (s : RS) : RS := { s with rows := [] }
theorem bare_pre (s : RS) : s.bare.pre s.rows = s := by cases s; simp [RS.bare, RS.pre]
/-- a piece more: what is told adds up -/
theorem bare_feed (s : RS) (l : List UInt8) : (s.feed l).rows = s.rows ++ (s.bare.feed l).rows ∧ (s.feed l).bare = (s.bare.feed l).bare ∧ (s.feed l).fault = (s.bare.feed l).fault := by
  have h := pre_feed s.rows l s.bare
  rw [bare_pre] at h
  rw [h]
  exact ⟨rfl, rfl, rfl⟩
end Go.Proofs.YtappphffbnkloaaGreatDoor.Sht
set_option linter.unusedVariables false
set_option linter.unusedSimpArgs false
namespace Go.Proofs.YtappphffbnkloaaGreatDoor.Sht
open Qd
def preO (s : RS) : Nat := (textO s.rows).length + (cellsO s.row).length + (if s.row = [] then 0 else 1)
theorem esc_ge : ∀ l : List UInt8, l.length ≤ (esc l).length
  | [] => Nat.le_refl _
  | x :: l => by
    have := esc_ge l
    unfold esc
    split <;> simp <;> omega
theorem cellO_len (c : List UInt8) : (cellO c).length ≤ (esc c).length + 2 := by
  have := esc_ge c
  unfold cellO
  split
  · simp
  · omega
theorem cellO_plain (c : List UInt8) (h : ∀ x ∈ c, spec x = false) : cellO c = c := by
  unfold cellO
  rw [if_neg]
  rw [Bool.not_eq_true, List.any_eq_false]
  intro x hx
  simp [h x hx]
theorem cells_snoc_len (s : RS) (c : List UInt8) : (textO s.rows).length + (cellsO (s.row ++ [c])).length = preO s + (cellO c).length := by
  unfold preO
  rw [cellsO_snoc]
  by_cases h : s.row = []
  · simp [h]; omega
  · simp [h]; omega
def MdOk (a : Nat) (s : RS) : Md → Prop
  | .fresh => s.cell = [] ∧ s.row = [] ∧ (textO s.rows).length ≤ a
  | .start => s.cell = [] ∧ s.row.length ≤ 63 ∧ preO s ≤ a ∧ s.count ≤ 4095
  | .plain => s.row.length ≤ 63 ∧ (∀ x ∈ s.cell, spec x = false) ∧ preO s + s.cell.length ≤ a ∧ s.count ≤ 4095
  | .quoted => s.row.length ≤ 63 ∧ preO s + 1 + (esc s.cell).length ≤ a ∧ s.count ≤ 4095
  | .closed => s.row.length ≤ 63 ∧ preO s + 2 + (esc s.cell).length ≤ a ∧ s.count ≤ 4095
  | .back => s.cell = [] ∧ 0 < s.row.length ∧ s.row.length ≤ 64 ∧ (textO s.rows).length + (cellsO s.row).length + 1 ≤ a ∧ s.count ≤ 4095
/-- what holds of a reader without a fault, `a` bytes having come -/
structure Gd (a : Nat) (s : RS) : Prop where
  num : s.rows.length = s.count
  few : s.count ≤ 4096
  good : ∀ r ∈ s.rows, RowOk s.width r
  row : ∀ c ∈ s.row, c.length ≤ 4096 ∧ ∀ x ∈ c, okB x = true
  cell : s.cell.length ≤ 4096 ∧ ∀ x ∈ s.cell, okB x = true
  md : MdOk a s s.md
section
variable {a : Nat} {s : RS} {x : UInt8}
theorem gd_new : Gd 0 RS.new := ⟨rfl, by decide, by simp [RS.new], by simp [RS.new], by simp [RS.new], rfl, rfl, Nat.le_refl _⟩
/-- a cell and its end -/
structure Ec (a : Nat) (s : RS) : Prop where
  row : s.row.length ≤ 63
  len : preO s + (cellO s.cell).length ≤ a
  count : s.count ≤ 4095
theorem row_app (h : Gd a s) : ∀ c ∈ s.row ++ [s.cell], c.length ≤ 4096 ∧ ∀ x ∈ c, okB x = true := fun c hc => by
  rcases List.mem_append.1 hc with hc | hc
  · exact h.row c hc
  · rw [List.mem_singleton.1 hc]; exact h.cell
theorem gd_comma (h : Gd a s) (e : Ec a s) (hf : s.comma.fault = none) : Gd (a + 1) s.comma := by
  unfold RS.comma at hf ⊢
  by_cases h64 : s.endCell.row.length = 64
  · rw [if_pos h64] at hf; cases hf
  · rw [if_neg h64]
    have hlen := cells_snoc_len s s.cell
    have e1 := e.len
    have hr : (s.row ++ [s.cell]).length ≤ 63 := by
      have h1 : (s.row ++ [s.cell]).length ≠ 64 := h64
      have h2 := e.row
      simp at h1 ⊢; omega
    refine ⟨h.num, h.few, h.good, row_app h, ⟨by show ([] : List UInt8).length ≤ _; simp, fun y hy => by cases hy⟩, rfl, hr, ?_, e.count⟩
    show (textO s.rows).length + (cellsO (s.row ++ [s.cell])).length + (if s.row ++ [s.cell] = [] then 0 else 1) ≤ _
    rw [if_neg (by simp)]; omega
theorem gd_cr (h : Gd a s) (e : Ec a s) : Gd (a + 1) s.cr := by
  have hlen := cells_snoc_len s s.cell
  have e1 := e.len
  have e2 := e.row
  refine ⟨h.num, h.few, h.good, row_app h, ⟨by show ([] : List UInt8).length ≤ _; simp, fun y hy => by cases hy⟩, rfl, by show 0 < (s.row ++ [s.cell]).length; simp, by show (s.row ++ [s.cell]).length ≤ _; simp; omega, ?_, e.count⟩
  show (textO s.rows).length + (cellsO (s.row ++ [s.cell])).length + 1 ≤ _
  omega
theorem widen_parts (s : RS) : s.widen.row = s.row ∧ s.widen.rows = s.rows ∧ s.widen.count = s.count ∧ s.widen.cell = s.cell ∧ s.widen.fault = s.fault ∧ (s.count = 0 → s.widen.width = s.row.length) ∧ (s.count ≠ 0 → s.widen.width = s.width) := by
  unfold RS.widen
  by_cases h : s.count = 0
  · rw [if_pos h]; exact ⟨rfl, rfl, rfl, rfl, rfl, fun _ => rfl, fun k => absurd h k⟩
  · rw [if_neg h]; exact ⟨rfl, rfl, rfl, rfl, rfl, fun k => absurd k h, fun _ => rfl⟩
theorem gd_endRow (hn : s.rows.length = s.count) (hg : ∀ r ∈ s.rows, RowOk s.width r) (hr : ∀ c ∈ s.row, c.length ≤ 4096 ∧ ∀ x ∈ c, okB x = true) (hc : s.cell = []) (h1 : 0 < s.row.length) (h2 : s.row.length ≤ 64) (h3 : (textO s.rows).length + (cellsO s.row).length + 2 ≤ a) (h4 : s.count ≤ 4095) (l c : Nat) (hf : (s.endRow l c).fault = none) :
    Gd a (s.endRow l c) ∧ (s.endRow l c).md = .fresh := by
  obtain ⟨w1, w2, w3, w4, w5, w6, w7⟩ := widen_parts s
  unfold RS.endRow at hf ⊢
  by_cases hw : s.widen.row.length = s.widen.width
  · rw [if_pos hw]
    refine ⟨⟨?_, ?_, ?_, by show ∀ c ∈ ([] : List (List UInt8)), _; simp, ?_, ?_, rfl, ?_⟩, rfl⟩
    · show (s.widen.rows ++ [s.widen.row]).length = s.widen.count + 1; rw [w2, w3]; simp; exact hn
    · show s.widen.count + 1 ≤ _; rw [w3]; omega
    · show ∀ r ∈ s.widen.rows ++ [s.widen.row], RowOk s.widen.width r
      intro r hr'
      rw [w1, w2] at hr'
      rcases List.mem_append.1 hr' with q | q
      · have h0 : s.count ≠ 0 := fun e => by
          have : s.rows = [] := List.eq_nil_of_length_eq_zero (hn.trans e)
          rw [this] at q; cases q
        rw [w7 h0]; exact hg r q
      · rw [List.mem_singleton.1 q]
        exact ⟨h1, h2, by rw [← hw, w1], hr⟩
    · show s.widen.cell.length ≤ 4096 ∧ _
      rw [show s.widen.newRow.cell = [] from w4.trans hc, show s.widen.cell = [] from w4.trans hc]
      exact ⟨by simp, fun y hy => by cases hy⟩
    · exact w4.trans hc
    · show (textO (s.widen.rows ++ [s.widen.row])).length ≤ a
      rw [w1, w2, textO_snoc]
      unfold rowO
      simp only [List.length_append, List.length_cons, List.length_nil]; omega
  · rw [if_neg hw] at hf; cases hf
theorem gd_put_plain (h : Gd a s) (hm : s.md = .plain) (hr : s.row.length ≤ 63) (hs : ∀ y ∈ s.cell, spec y = false) (hl : preO s + s.cell.length ≤ a) (hc : s.count ≤ 4095) (ho : okB x = true) (hx : spec x = false) (hf : (s.put x).fault = none) : Gd (a + 1) (s.put x) := by
  unfold RS.put at hf ⊢
  by_cases hb : 4096 < (s.cell ++ [x]).length
  · rw [if_pos hb] at hf; cases hf
  · rw [if_neg hb]
    refine ⟨h.num, h.few, h.good, h.row, ⟨by show (s.cell ++ [x]).length ≤ 4096; omega, fun y hy => ?_⟩, ?_⟩
    · rcases List.mem_append.1 hy with q | q
      · exact h.cell.2 y q
      · rw [List.mem_singleton.1 q]; exact ho
    · show MdOk _ _ s.md
      rw [hm]
      refine ⟨hr, fun y hy => ?_, ?_, hc⟩
      · rcases List.mem_append.1 hy with q | q
        · exact hs y q
        · rw [List.mem_singleton.1 q]; exact hx
      · show preO s + (s.cell ++ [x]).length ≤ _; simp; omega
theorem gd_put_quoted (h : Gd a s) (hm : s.md = .quoted) (hr : s.row.length ≤ 63) (b : Nat) (hl : preO s + 1 + (esc (s.cell ++ [x])).length ≤ b) (hc : s.count ≤ 4095) (ho : okB x = true) (hf : (s.put x).fault = none) : Gd b (s.put x) := by
  unfold RS.put at hf ⊢
  by_cases hb : 4096 < (s.cell ++ [x]).length
  · rw [if_pos hb] at hf; cases hf
  · rw [if_neg hb]
    refine ⟨h.num, h.few, h.good, h.row, ⟨by show (s.cell ++ [x]).length ≤ 4096; omega, fun y hy => ?_⟩, ?_⟩
    · rcases List.mem_append.1 hy with q | q
      · exact h.cell.2 y q
      · rw [List.mem_singleton.1 q]; exact ho
    · show MdOk _ _ s.md
      rw [hm]
      exact ⟨hr, hl, hc⟩
theorem spec_of {x : UInt8} (h1 : x ≠ 44) (h2 : x ≠ 13) (h3 : x ≠ 10) (h4 : x ≠ 34) (h5 : x ≠ 9) : spec x = false := by
  unfold spec; simp [h1, h2, h3, h4, h5]
theorem gd_plain (h : Gd a s) (hr : s.row.length ≤ 63) (hs : ∀ y ∈ s.cell, spec y = false) (hl : preO s + s.cell.length ≤ a) (hc : s.count ≤ 4095) (hm : s.md = .plain) (hf : (s.plain x).fault = none) : Gd (a + 1) (s.plain x) := by
  have e : Ec a s := ⟨hr, by rw [cellO_plain _ hs]; exact hl, hc⟩
  unfold RS.plain at hf ⊢
  by_cases h1 : x = 44
  · rw [if_pos h1] at hf ⊢; exact gd_comma h e hf
  rw [if_neg h1] at hf ⊢
  by_cases h2 : x = 13
  · rw [if_pos h2]; exact gd_cr h e
  rw [if_neg h2] at hf ⊢
  by_cases h3 : x = 10
  · rw [if_pos h3] at hf; cases hf
  rw [if_neg h3] at hf ⊢
  by_cases h4 : x = 34
  · rw [if_pos h4] at hf; cases hf
  rw [if_neg h4] at hf ⊢
  by_cases h5 : x = 9 ∨ okB x = false
  · rw [if_pos h5] at hf; cases hf
  rw [if_neg h5] at hf ⊢
  simp only [not_or, Bool.not_eq_false] at h5
  exact gd_put_plain h hm hr hs hl hc h5.2 (spec_of h1 h2 h3 h4 h5.1) hf
theorem gd_start (h : Gd a s) (hcell : s.cell = []) (hr : s.row.length ≤ 63) (hl : preO s ≤ a) (hc : s.count ≤ 4095) (hf : (s.start x).fault = none) : Gd (a + 1) (s.start x) := by
  unfold RS.start at hf ⊢
  by_cases h1 : x = 34
  · rw [if_pos h1]
    refine ⟨h.num, h.few, h.good, h.row, h.cell, hr, ?_, hc⟩
    show preO s + 1 + (esc s.cell).length ≤ _
    rw [hcell]; show preO s + 1 + 0 ≤ _; omega
  · rw [if_neg h1] at hf ⊢
    have hp : ∀ y ∈ s.cell, spec y = false := fun y hy => by rw [hcell] at hy; cases hy
    have hl' : preO s + s.cell.length ≤ a := by rw [hcell]; simpa using hl
    have ht : Gd a (s.turn .plain) := ⟨h.num, h.few, h.good, h.row, h.cell, hr, hp, hl', hc⟩
    exact gd_plain ht hr hp hl' hc rfl hf
theorem gd_next (h : Gd a s) (hf : (s.next x).fault = none) : Gd (a + 1) (s.next x) := by
  have hmd := h.md
  revert hf
  rcases next_cases s x with ⟨m, e⟩ | ⟨m, e⟩ | ⟨m, e⟩ | ⟨m, e⟩ | ⟨m, e⟩ | ⟨m, e⟩ <;> rw [e] <;> rw [m] at hmd <;> intro hf
  · obtain ⟨c1, c2, c3⟩ := hmd
    unfold RS.fresh at hf ⊢
    by_cases h1 : s.count = 4096
    · rw [if_pos h1] at hf; cases hf
    · rw [if_neg h1] at hf ⊢
      have := h.few
      exact gd_start h c1 (by rw [c2]; simp) (by unfold preO; rw [c2]; simpa [cellsO] using c3) (by omega) hf
  · obtain ⟨c1, c2, c3, c4⟩ := hmd
    exact gd_start h c1 c2 c3 c4 hf
  · obtain ⟨c1, c2, c3, c4⟩ := hmd
    exact gd_plain h c1 c2 c3 c4 m hf
  · obtain ⟨c1, c2, c3⟩ := hmd
    unfold RS.quoted at hf ⊢
    by_cases h1 : x = 34
    · rw [if_pos h1]
      refine ⟨h.num, h.few, h.good, h.row, h.cell, c1, ?_, c3⟩
      show preO s + 2 + (esc s.cell).length ≤ _; omega
    · rw [if_neg h1] at hf ⊢
      by_cases h2 : okB x = false
      · rw [if_pos h2] at hf; cases hf
      · rw [if_neg h2] at hf ⊢
        refine gd_put_quoted h m c1 (a + 1) ?_ c3 (by simpa using h2) hf
        rw [esc_app]
        have : esc [x] = [x] := by unfold esc; rw [if_neg h1]; rfl
        rw [this]; simp; omega
  · obtain ⟨c1, c2, c3⟩ := hmd
    have ec : Ec a s := ⟨c1, by have := cellO_len s.cell; omega, c3⟩
    unfold RS.closed at hf ⊢
    by_cases h1 : x = 34
    · rw [if_pos h1] at hf ⊢
      have ht : Gd a (s.turn .quoted) := ⟨h.num, h.few, h.good, h.row, h.cell, c1, by show preO s + 1 + (esc s.cell).length ≤ a; omega, c3⟩
      refine gd_put_quoted ht rfl c1 (a + 1) ?_ c3 (by rw [h1]; decide) hf
      show preO s + 1 + (esc (s.cell ++ [x])).length ≤ _
      rw [esc_app]
      have : esc [x] = [34, 34] := by unfold esc; rw [if_pos h1]; rfl
      rw [this]; simp; omega
    rw [if_neg h1] at hf ⊢
    by_cases h2 : x = 44
    · rw [if_pos h2] at hf ⊢; exact gd_comma h ec hf
    rw [if_neg h2] at hf ⊢
    by_cases h3 : x = 13
    · rw [if_pos h3]; exact gd_cr h ec
    rw [if_neg h3] at hf ⊢
    by_cases h4 : x = 10
    · rw [if_pos h4] at hf; cases hf
    · rw [if_neg h4] at hf; cases hf
  · obtain ⟨c1, c2, c3, c4, c5⟩ := hmd
    unfold RS.back at hf ⊢
    by_cases h1 : x = 10
    · rw [if_pos h1] at hf ⊢
      exact (gd_endRow h.num h.good h.row c1 c2 c3 (by omega) c5 _ _ hf).1
    · rw [if_neg h1] at hf; cases hf
theorem gd_step (h : Gd a s) (hf : (s.step x).fault = none) : Gd (a + 1) (s.step x) := by
  by_cases hn : s.all = 262144
  · rw [RS.step, if_pos hn] at hf; cases hf
  · rw [step_on hn] at hf ⊢
    rw [on_fault] at hf
    have h1 : Gd a { s with all := s.all + 1 } := ⟨h.num, h.few, h.good, h.row, h.cell, by have := h.md; revert this; show MdOk a s s.md → MdOk a { s with all := s.all + 1 } s.md; cases s.md <;> exact id⟩
    have h2 := gd_next h1 hf
    have go : ∀ t : RS, Gd (a + 1) t → Gd (a + 1) (t.on x) := fun t h => by
      have hm := h.md
      unfold RS.on
      split
      · exact ⟨h.num, h.few, h.good, h.row, h.cell, by revert hm; show MdOk _ t t.md → MdOk _ { t with line := t.line + 1, col := 0 } t.md; cases t.md <;> exact id⟩
      · exact ⟨h.num, h.few, h.good, h.row, h.cell, by revert hm; show MdOk _ t t.md → MdOk _ { t with col := t.col + 1 } t.md; cases t.md <;> exact id⟩
    exact go _ h2
end
theorem gd_feed : ∀ (l : List UInt8) (a : Nat) (s : RS), Gd a s → s.fault = none → (s.feed l).fault = none → Gd (a + l.length) (s.feed l)
  | [], a, s, h, _, _ => h
  | x :: l, a, s, h, h0, hf => by
    rw [feed_cons h0] at hf ⊢
    have h1 : (s.step x).fault = none := by
      cases hq : (s.step x).fault with
      | none => rfl
      | some f => rw [feed_stop (by rw [hq]; simp), hq] at hf; cases hf
    have := gd_feed l _ _ (gd_step h h1) h1 hf
    rw [List.length_cons, show a + (l.length + 1) = a + 1 + l.length by omega]
    exact this
theorem gd_over {a : Nat} {s : RS} (h : Gd a s) (hf : s.over.fault = none) : (s.over.rows.length ≤ 4096 ∧ (∀ r ∈ s.over.rows, RowOk s.over.width r) ∧ (textO s.over.rows).length ≤ a + 2) := by
  have hmd := h.md
  have key : Ec a s → (s.endCell.endRow s.line s.col).fault = none → ((s.endCell.endRow s.line s.col).rows.length ≤ 4096 ∧ (∀ r ∈ (s.endCell.endRow s.line s.col).rows, RowOk (s.endCell.endRow s.line s.col).width r) ∧ (textO (s.endCell.endRow s.line s.col).rows).length ≤ a + 2) := fun e hf => by
    have hlen := cells_snoc_len s s.cell
    have e1 := e.len
    have e2 := e.row
    obtain ⟨g, hm⟩ := gd_endRow (a := a + 2) (s := s.endCell) h.num h.good (row_app h) rfl (by show 0 < (s.row ++ [s.cell]).length; simp) (by show (s.row ++ [s.cell]).length ≤ _; simp; omega) (by show (textO s.rows).length + (cellsO (s.row ++ [s.cell])).length + 2 ≤ _; omega) e.count _ _ hf
    have := g.md
    rw [hm] at this
    exact ⟨by rw [g.num]; exact g.few, g.good, this.2.2⟩
  unfold RS.over at hf ⊢
  cases hm : s.md <;> rw [hm] at hf hmd <;> simp only at hf ⊢
  · exact ⟨by rw [h.num]; exact h.few, h.good, Nat.le_trans hmd.2.2 (by omega)⟩
  · exact key ⟨hmd.2.1, by rw [hmd.1]; show preO s + ([] : List UInt8).length ≤ a; have := hmd.2.2.1; simpa using this, hmd.2.2.2⟩ hf
  · exact key ⟨hmd.1, by rw [cellO_plain _ hmd.2.1]; exact hmd.2.2.1, hmd.2.2.2⟩ hf
  · cases hf
  · exact key ⟨hmd.1, by have := cellO_len s.cell; have := hmd.2.1; omega, hmd.2.2⟩ hf
  · cases hf
theorem fin_bare (s : RS) : s.fin.rows = s.rows ++ (RS.fin { s with rows := [] }).rows ∧ s.fin.fault = (RS.fin { s with rows := [] }).fault := by
  have h := pre_fin s.rows s.bare
  rw [bare_pre] at h
  rw [h]
  exact ⟨rfl, rfl⟩
end Go.Proofs.YtappphffbnkloaaGreatDoor.Sht
set_option linter.unusedVariables false
set_option linter.unusedSimpArgs false
namespace Go.Proofs.YtappphffbnkloaaGreatDoor.Sht
open Go Go.RowKit Go.Proofs.YtappphffbnkloaaGreatDoorW.PrintWords Go.Proofs.YtappphffbnkloaaGreatDoor.GS
abbrev numeral (n : Nat) : ByteArray := ⟨(Lib.itoa (n : Int)).toArray⟩
theorem one_digit (d : Nat) (h : d < 10) : strOfNums [(IntKind.u64.wrap (48 + (d : Int))) % 256] = ⟨#[UInt8.ofNat (48 + d)]⟩ := by
  rcases (show d = 0 ∨ d = 1 ∨ d = 2 ∨ d = 3 ∨ d = 4 ∨ d = 5 ∨ d = 6 ∨ d = 7 ∨ d = 8 ∨ d = 9 by omega) with rfl | rfl | rfl | rfl | rfl | rfl | rfl | rfl | rfl | rfl <;> rfl
theorem u64_wrap (n : Nat) (h : n < 18446744073709551616) : IntKind.u64.wrap (n : Int) = (n : Int) := by
  simp [IntKind.wrap, IntKind.bits, IntKind.signed]
  omega
theorem bytes_snoc (a : List UInt8) (d : UInt8) : (⟨a.toArray⟩ : ByteArray) ++ ⟨#[d]⟩ = ⟨(a ++ [d]).toArray⟩ := by
  apply ByteArray.ext
  simp
theorem size_eq : ∀ k n : Nat, n < 18446744073709551616 → n < 10 ^ k → 1 ≤ k → larderlaw04_size.f k (n : Int) = some ⟨(Lib.decDigits n).toArray⟩
  | 0, n, _, _, h => absurd h (by omega)
  | k + 1, n, h, h10, _ => by
    unfold larderlaw04_size.f
    have e : Int.tmod (n : Int) 10 = ((n % 10 : Nat) : Int) := by rw [Int.tmod_eq_emod_of_nonneg (by omega)]; omega
    rw [e]
    simp only [Option.bind_some]
    rw [one_digit (n % 10) (by omega)]
    by_cases hc : n < 10
    · rw [if_pos (show (n : Int) < 10 by omega), Lib.decDigits_one hc, Nat.mod_eq_of_lt hc]
    · rw [if_neg (show ¬ (n : Int) < 10 by omega)]
      have e2 : Int.tdiv (n : Int) 10 = ((n / 10 : Nat) : Int) := by rw [Int.tdiv_eq_ediv_of_nonneg (by omega)]; omega
      have hk : 1 ≤ k := by
        rcases Nat.eq_zero_or_pos k with rfl | q
        · simp at h10; omega
        · exact q
      have hp : n / 10 < 10 ^ k := by rw [Nat.pow_succ] at h10; omega
      rw [e2, u64_wrap (n / 10) (by omega), size_eq k (n / 10) (by omega) hp hk]
      simp only [Option.bind_some]
      have z1 : (⟨(Lib.decDigits (n / 10)).toArray⟩ : ByteArray).size = Lib.nDigits (n / 10) := by
        rw [← Lib.decDigits_length]; rfl
      have z2 : (⟨#[UInt8.ofNat (48 + n % 10)]⟩ : ByteArray).size = 1 := rfl
      have z3 := Lib.nDigits_le20 (n / 10) (by omega)
      rw [z1, z2, if_pos (by omega), bytes_snoc]
      conv => rhs; rw [Lib.decDigits, dif_neg hc]
theorem digits_eq (n : Nat) (h : n ≤ 4611686018427387904) : ∃ k, larderlaw04_digits.f k (n : Int) = some (numeral n) := by
  refine ⟨21, ?_⟩
  unfold larderlaw04_digits.f
  rw [if_neg (by omega), u64_wrap n (by omega), size_eq 21 n (by omega) (Nat.lt_of_lt_of_le (show n < 10000000000000000000 by omega) (by decide)) (by decide), Option.bind_some]
  show _ = some (⟨(Lib.itoa (n : Int)).toArray⟩ : ByteArray)
  rw [Lib.itoa_nonneg]
theorem it_of_tab (W : World) (h : Lib.TabIs Tryz.prog W "internal/strconv.uint64pow10" .u64 Lib.pow10Tab) : IT W numeral :=
  ⟨fun w' hb n hn => (Tryz.strconv_Itoa (n : Int) (by omega) (by omega) w' (Lib.tabBelow_of_tabIs h w' hb)).mono fun e w'' q => by
    obtain ⟨k, os, q2⟩ := q.2
    exact ⟨q.1, by rw [q2]; exact Lib.below_grow _ _ (Nat.le_refl _) k os⟩, fun n hn => by
    have := Lib.itoa_length_le (n : Int) (by omega) (by omega)
    show (Lib.itoa (n : Int)).length ≤ 100
    omega⟩
end Go.Proofs.YtappphffbnkloaaGreatDoor.Sht
set_option linter.unusedVariables false
set_option linter.unusedSimpArgs false
namespace Go.Proofs.YtappphffbnkloaaGreatDoor.Sht
open Go Go.RowKit
attribute [local go_sem ↓] Go.wp_at_zero Go.wp_at_succ
end Go.Proofs.YtappphffbnkloaaGreatDoor.Sht
namespace Go.Proofs.YtappphffbnkloaaGreatDoor.Sht.Se
open Go.RowKit Go.Extern.Stop Go.Stop Go.Extern
theorem isTypeOf (v : Value) (w : World) : (Extern.ReflectliteType.typeOf #[.iface 215 v]).run Tryz.prog w = .ok (.iface 152 (.agg #[.pointer (some ⟨27, 215, none⟩)])) w := by kernel_rfl
theorem isComparable (w : World) : ((Extern.ReflectliteType.method fun t => do _root_.Go.Extern.Rtype.noPackHeld "Comparable" t; pure (.bool (← typeInfo t).comparable)) #[.agg #[.pointer (some ⟨27, 215, none⟩)]]).run Tryz.prog w = .ok (.bool true) w := by kernel_rfl
theorem isMethodComparable (v : Value) (w : World) : (Go.method 345 152 v "Comparable").run Tryz.prog w = .ok (167, v) w := by kernel_rfl
theorem isComp : (Tryz.prog.info? 215).map (·.comparable) = some true := by kernel_rfl
theorem isSize : (Tryz.prog.info? 233).map (·.size) = some 1 := by kernel_rfl

theorem noIsE (v : Value) (xT : TypeId) (w : World) : (Instr.typeAssert (.iface 215 v) xT 162 true).run Tryz.prog w = .ok (.tuple #[.nilIface, .bool false]) w := run_typeAssert_lacksB Tryz.underlying162 (by kernel_rfl) (by kernel_rfl) v xT w
theorem noUnwrapE (v : Value) (xT : TypeId) (w : World) : (Instr.typeAssert (.iface 215 v) xT 159 true).run Tryz.prog w = .ok (.tuple #[.nilIface, .bool false]) w := run_typeAssert_lacksB Tryz.underlying159 (by kernel_rfl) (by kernel_rfl) v xT w
theorem noUnwrapsE (v : Value) (xT : TypeId) (w : World) : (Instr.typeAssert (.iface 215 v) xT 160 true).run Tryz.prog w = .ok (.tuple #[.nilIface, .bool false]) w := run_typeAssert_lacksB Tryz.underlying160 (by kernel_rfl) (by kernel_rfl) v xT w

end Go.Proofs.YtappphffbnkloaaGreatDoor.Sht.Se
set_option linter.unusedVariables false
set_option linter.unusedSimpArgs false
namespace Go.Proofs.YtappphffbnkloaaGreatDoor.Sht
open Go Go.RowKit
attribute [local go_sem ↓] Go.wp_at_zero Go.wp_at_succ
theorem nilFeed (v : Value) (w : World) : Calls Tryz.prog 15 #[.pointer none, v] w fun e w' => e = .returned (.tuple #[.slice none 0 0, .nilIface]) ∧ w = w' := by
  go_enter Tryz.func15, Tryz.ntmps15
  go_wp2
  go_ret2
  exact ⟨rfl, rfl⟩
theorem nilClose (w : World) : Calls Tryz.prog 9 #[.pointer none] w fun e w' => e = .returned (.tuple #[.slice none 0 0, .nilIface]) ∧ w = w' := by
  go_enter Tryz.func9, Tryz.ntmps9
  go_wp2
  go_ret2
  exact ⟨rfl, rfl⟩
theorem rowsIn_nil (w : World) : RowsIn w (.slice none 0 0) [] := ⟨none, 0, rfl, by decide, fun i h => absurd h (by simp)⟩
end Go.Proofs.YtappphffbnkloaaGreatDoor.Sht
set_option linter.unusedVariables false
set_option linter.unusedSimpArgs false
namespace Go.Proofs.YtappphffbnkloaaGreatDoor.Sht
open Go Go.RowKit Go.Proofs.YtappphffbnkloaaGreatDoorW.PrintWords Go.Proofs.YtappphffbnkloaaGreatDoor.GS
/-- the reference's fault, as the machine has it -/
def FOk (f : Value) : Option (Nat × Nat × Nat) → Prop
  | none => ∃ l k a : Int, f = fv 0 l k a 0
  | some (l, c, e) => ∃ p : Int, f = fv e l c p 0 ∧ l ≤ 4611686018427387904 ∧ c ≤ 4611686018427387904
structure J (s : RS) (t : ByteArray) (n : Nat) (c l k a : Int) (o : Bool) : Prop where
  live : s.Live
  rows : s.rows = []
  st : (o = false ∧ c = 0 ∧ l = 0 ∧ k = 0 ∧ a = 0 ∧ s = (RS.new.feed (L8 t)).bare ∧ s.fault = none ∧ n = (RS.new.feed (L8 t)).rows.length) ∨
    (o = false ∧ ∃ fl fc fe : Nat, s.fault = some (fl, fc, fe) ∧ fe ≠ 0 ∧ c = (fe : Int) ∧ l = (fl : Int) ∧ k = (fc : Int) ∧ fl ≤ 4611686018427387904 ∧ fc ≤ 4611686018427387904) ∨
    (o = true ∧ s.fault = some (0, 0, 9))
theorem j_new : J RS.new ByteArray.empty 0 0 0 0 0 false := ⟨fun _ => inv_new, rfl, .inl ⟨rfl, rfl, rfl, rfl, rfl, rfl, rfl, rfl⟩⟩
section
variable {A : Nat → Addr} {W0 w : World} {b rb : Nat} {s : RS} {t : ByteArray} {n : Nat} {c l k a : Int} {o : Bool}
theorem bare_same (h : s.rows = []) : s.bare = s := by cases s; simp_all [RS.bare]
theorem live_bare (h : s.Live) : s.bare.Live := live_told h
theorem any_feed (hF : SF W0 A) (hE : ET W0) (hR : R A W0 w b s) (hL : s.Live) (hr : s.rows = []) (g cap : Nat) (Q : List UInt8) (hp : Piece w g 0 Q) (hg : g < w.heap.size) (hw : ¬ wr w b g) (hl : Q.length ≤ 4611686018427387904) :
    Calls Tryz.prog 15 #[PT b, .slice (some ⟨g, 0, none⟩) Q.length cap] w fun e w' => ∃ vl ve, e = .returned (.tuple #[vl, ve]) ∧ R A W0 w' b (s.feed Q).bare ∧ ToldAt W0 w' b vl (s.feed Q).rows ∧ FaultAt w' w.heap.size A ve (s.feed Q).fault ∧ Fr b w w' ∧ Src w b vl w' := by
  by_cases hd : ∃ l c, s.fault = some (l, c, 9)
  · obtain ⟨l, c, hd⟩ := hd
    refine (feed_done hF hE hR hd _ _ _).mono ?_
    rintro e w' ⟨ve, rfl, hf, hb⟩
    rw [feed_stop (by rw [hd]; simp), bare_same hr, hr, hd]
    exact ⟨_, ve, rfl, hR.below hb, ⟨[], World.ownsRow_nil _ _ _ _, trivial, by simp [ob, Value.ownBlock], fun j hj => by simp [ob, Value.ownBlock] at hj⟩, hf, hR.of_below hb, fun j hj => by
      rcases hj with q | ⟨g, n, c, i, u, q, _⟩
      · cases q
      · cases q⟩
  · refine (feed_r hF hE hR hL (fun l c q => hd ⟨l, c, q⟩) g 0 cap Q hp hg hw hl).mono ?_
    rintro e w' ⟨vl, ve, rfl, h1, h2, h3, h4, h5⟩
    exact ⟨vl, ve, rfl, h1, h2, h3.1, h4, h5⟩
theorem any_close (hF : SF W0 A) (hE : ET W0) (hR : R A W0 w b s) (hL : s.Live) :
    Calls Tryz.prog 9 #[PT b] w fun e w' => ∃ vl ve, e = .returned (.tuple #[vl, ve]) ∧ R A W0 w' b (RS.fail s.fin.bare 0 0 9) ∧ ToldAt W0 w' b vl s.fin.rows ∧ FaultAt w' w.heap.size A ve s.fin.fault ∧ Fr b w w' ∧ Src w b vl w' :=
  (close_r hF hE hR hL).mono fun e w' ⟨vl, ve, h0, h1, h2, h3, h4, h5⟩ => ⟨vl, ve, h0, h1, h2, h3.1, h4, h5⟩
theorem any_said {B : Nat} {ve f : Value} {flt : Option (Nat × Nat × Nat)} (hS : SG w A) (hE : ET w) (hI : IT w numeral) (hft : FaultAt w B A ve flt) (hf : FOk f flt) :
    Calls Tryz.prog 11 #[ve, f] w fun ev w' => ev = .returned (.bool true) ∧ Below w.heap.size w w' := by
  cases flt with
  | none =>
    obtain ⟨l, k, a, rfl⟩ := hf
    obtain rfl : ve = .nilIface := hft
    exact said_none l k a 0 w
  | some f3 =>
    obtain ⟨l, c, e⟩ := f3
    obtain ⟨p, rfl, h1, h2⟩ := hf
    obtain ⟨hc, g, _, rfl, hg⟩ := hft
    have hcf : 1 ≤ e ∧ e ≤ 20 ∧ e ≠ 16 ∧ e ≠ 17 := by unfold coded at hc; omega
    exact said_some A numeral g l c e p w hS hE hI hcf.1 hcf.2.1 hcf.2.2.1 hcf.2.2.2 h1 h2 digits_eq hg
theorem L8_app (t : ByteArray) (Q : List UInt8) : L8 (t ++ ⟨Q.toArray⟩) = L8 t ++ Q := by
  show (t ++ ⟨Q.toArray⟩ : ByteArray).data.toList = t.data.toList ++ Q
  rw [ByteArray.data_append]
  simp
theorem few_bytes (hL : (RS.new.feed (L8 t)).fault = none) : (L8 t).length ≤ 262144 := by
  have h1 := (feed_pos (L8 t) RS.new rfl hL).1
  have h2 := (live_feed (L8 t) RS.new (fun _ => inv_new) hL).all
  have h3 : RS.new.all = 0 := rfl
  omega
/-- what Read tells, at the text that the machine has been fed -/
theorem read_at (hl : (L8 t).length ≤ 281474976710656) : ∃ (K K2 m : Nat) (rs : Rows) (c l k a : Int) (sh : Bool), larderref04_Read.f K t = some (rws rs, (m : Int), c, l, k, a, 0) ∧ larderref04_shows.f K2 t c l k a 0 = some sh ∧ m = (RS.new.feed (L8 t)).rows.length ∧ rs.take m = (RS.new.feed (L8 t)).rows ∧ m ≤ rs.length ∧
    ((sh = false ∧ (RS.new.feed (L8 t)).fault = none) ∨ (sh = true ∧ ∃ fl fc fe : Nat, (RS.new.feed (L8 t)).fault = some (fl, fc, fe) ∧ fe ≠ 0 ∧ c = (fe : Int) ∧ l = (fl : Int) ∧ k = (fc : Int) ∧ fl ≤ 4611686018427387904 ∧ fc ≤ 4611686018427387904)) ∧
    ((RS.new.feed (L8 t)).fault = none → ((RS.new.feed (L8 t)).fin.fault = none ∧ c = 0 ∧ l = 0 ∧ k = 0 ∧ a = 0 ∧ (RS.new.feed (L8 t)).fin.rows = rs) ∨ (∃ fl fc fe : Nat, (RS.new.feed (L8 t)).fin.fault = some (fl, fc, fe) ∧ fe ≠ 0 ∧ c = (fe : Int) ∧ l = (fl : Int) ∧ k = (fc : Int) ∧ fl ≤ 4611686018427387904 ∧ fc ≤ 4611686018427387904 ∧ rs = (RS.new.feed (L8 t)).rows)) := by
  obtain ⟨r, ⟨K, hK⟩, hT⟩ := Read_ev t hl
  rcases hT with ⟨rows, c, q, hc, rfl, hbad⟩ | ⟨rows, m, rfl, hf1, hf2, hf3, hf4, hm⟩
  · obtain ⟨K2, hK2⟩ := shows_bad t rows c q hc hl hbad
    have hbd := lc_bd ((L8 t).take q)
    have hq : ((L8 t).take q).length ≤ (L8 t).length := by rw [List.length_take]; omega
    have hrows := hbad.2.1
    refine ⟨K, K2, rows.length, rows, c, _, _, _, _, hK K (Nat.le_refl _), hK2 K2 (Nat.le_refl _), by rw [hrows], by rw [hrows, List.take_length], Nat.le_refl _, ?_, fun hn => .inr ?_⟩
    · rcases hbad.2.2 with ⟨a1, _⟩ | ⟨a1, _⟩
      · exact .inr ⟨by rw [a1]; rfl, _, _, c, a1, hc, rfl, rfl, rfl, by omega, by omega⟩
      · exact .inl ⟨by rw [a1]; rfl, a1⟩
    · rcases hbad.2.2 with ⟨a1, _⟩ | ⟨a1, a2, _⟩
      · rw [hn] at a1; cases a1
      · exact ⟨_, _, c, a2, hc, rfl, rfl, rfl, by omega, by omega, hrows.symm⟩
  · obtain ⟨K2, hK2⟩ := shows_ok t
    exact ⟨K, K2, m, rows, 0, 0, 0, 0, false, hK K (Nat.le_refl _), hK2 K2 (Nat.le_refl _), by rw [hf4, List.length_take, Nat.min_eq_left hm], hf4.symm, hm, .inl ⟨rfl, hf1⟩, fun _ => .inl ⟨hf2, rfl, rfl, rfl, rfl, hf3⟩⟩
theorem over_same {s : RS} (h : s.fault = none) (hf : s.over.fault ≠ none) : s.over.rows = s.rows := by
  have hw : ∀ s : RS, s.widen.rows = s.rows ∧ s.widen.fault = s.fault := fun s => by unfold RS.widen; split <;> exact ⟨rfl, rfl⟩
  have he : ∀ (s : RS) (l c : Nat), s.fault = none → (s.endRow l c).fault ≠ none → (s.endRow l c).rows = s.rows := fun s l c h hf => by
    unfold RS.endRow at hf ⊢
    split at hf
    · exact absurd ((hw s).2.trans h) hf
    · rename_i hq
      rw [if_neg hq]
      exact (hw s).1
  rcases md_cases s with q | q | q | q
  · rw [over_fresh q] at hf
    exact absurd h hf
  · rw [over_row q] at hf ⊢
    exact he s.endCell s.line s.col h hf
  · rw [over_quoted q]
    rfl
  · rw [over_back q]
    rfl
theorem fin_same {s : RS} (h : s.fault = none) (hf : s.fin.fault ≠ none) : s.fin.rows = s.rows := by
  unfold RS.fin at hf ⊢
  rw [if_pos h] at hf ⊢
  exact over_same h hf
theorem ref_feed (hr : RfAt w rb t n c l k a o) (hJ : J s t n c l k a o) (pv : Value) (Q : List UInt8) (hB : ByteIn w pv Q) (hQ : Q.length ≤ 140737488351232) :
    Calls Tryz.prog 16 #[PT rb, pv] w fun e w' => ∃ v f t' n' c' l' k' a', e = .returned (.tuple #[v, f]) ∧ RowsIn w' v (s.feed Q).rows ∧ FOk f (s.feed Q).fault ∧ RfAt w' rb t' n' c' l' k' a' o ∧ J (s.feed Q).bare t' n' c' l' k' a' o ∧ Fq rb w w' := by
  have hlive : (s.feed Q).bare.Live := live_bare (live_feed Q s hJ.live)
  rcases hJ.st with ⟨rfl, rfl, rfl, rfl, rfl, hs, hf, hn⟩ | ⟨rfl, fl, fc, fe, hf, h0, rfl, rfl, rfl, b1, b2⟩ | ⟨rfl, hf⟩
  · have hF : (RS.new.feed (L8 t)).fault = none := by rw [hs] at hf; exact hf
    have hts := few_bytes hF
    obtain ⟨K, K2, m, rs, c, l, k, a, sh, hK, hK2, hm1, hm2, hm3, hsh, _⟩ := read_at (t := t ++ ⟨Q.toArray⟩) (by rw [L8_app, List.length_append]; omega)
    obtain ⟨e1, e2, e3⟩ := bare_feed (RS.new.feed (L8 t)) Q
    rw [← hs] at e1 e2 e3
    rw [L8_app, feed_app] at hm1 hm2 hsh
    have hnm : n ≤ m := by rw [hn, hm1, e1, List.length_append]; omega
    have hrows : (rs.take m).drop n = (s.feed Q).rows := by
      rw [hm2, e1, hn]
      exact List.drop_left
    refine (rfeed_on rb n m K K2 t ⟨Q.toArray⟩ pv rs c l k a sh w hr (fun w' hb => conv_in (hB.below hb)) (by
      have := L8_len t
      have : (⟨Q.toArray⟩ : ByteArray).size = Q.length := by simp [ByteArray.size]
      omega) hK hK2 hnm hm3).mono ?_
    rintro e w' ⟨v, rfl, hri, hra, hq⟩
    rw [hrows] at hri
    rcases hsh with ⟨rfl, hff⟩ | ⟨rfl, fl, fc, fe, hff, h0, rfl, rfl, rfl, b1, b2⟩
    · refine ⟨v, _, _, m, _, _, _, _, rfl, hri, ?_, hra, ⟨hlive, rfl, .inl ⟨rfl, rfl, rfl, rfl, rfl, ?_, ?_, ?_⟩⟩, hq⟩
      · rw [← e3, hff]
        exact ⟨0, 0, 0, rfl⟩
      · rw [L8_app, feed_app, e2]
      · show (s.feed Q).fault = none
        rw [← e3, hff]
      · rw [L8_app, feed_app, hm1]
    · refine ⟨v, _, _, m, _, _, _, _, rfl, hri, ?_, hra, ⟨hlive, rfl, .inr (.inl ⟨rfl, fl, fc, fe, ?_, h0, rfl, rfl, rfl, b1, b2⟩)⟩, hq⟩
      · rw [← e3, hff]
        exact ⟨a, rfl, b1, b2⟩
      · show (s.feed Q).fault = _
        rw [← e3, hff]
  · have hst : s.feed Q = s := feed_stop (by rw [hf]; simp) Q
    rw [hst] at hlive ⊢
    refine (rfeed_bad rb n t _ _ _ a (by omega) pv w hr).mono ?_
    rintro e w' ⟨rfl, hb⟩
    rw [hJ.rows, hf, bare_same hJ.rows]
    exact ⟨_, _, t, n, _, _, _, a, rfl, rowsIn_nil w', ⟨a, rfl, b1, b2⟩, hr.below hb, hJ, (Fq.refl _ _).below hb⟩
  · have hst : s.feed Q = s := feed_stop (by rw [hf]; simp) Q
    rw [hst] at hlive ⊢
    refine (rfeed_over rb n t c l k a pv w hr).mono ?_
    rintro e w' ⟨rfl, hb⟩
    rw [hJ.rows, hf, bare_same hJ.rows]
    exact ⟨_, _, t, n, c, l, k, a, rfl, rowsIn_nil w', ⟨0, rfl, by omega, by omega⟩, hr.below hb, hJ, (Fq.refl _ _).below hb⟩
theorem ref_close (hr : RfAt w rb t n c l k a o) (hJ : J s t n c l k a o) :
    Calls Tryz.prog 10 #[PT rb] w fun e w' => ∃ v f t' n' c' l' k' a', e = .returned (.tuple #[v, f]) ∧ RowsIn w' v s.fin.rows ∧ FOk f s.fin.fault ∧ RfAt w' rb t' n' c' l' k' a' true ∧ J (RS.fail s.fin.bare 0 0 9) t' n' c' l' k' a' true ∧ Fq rb w w' := by
  have hJ' : ∀ t' n' c' l' k' a', J (RS.fail s.fin.bare 0 0 9) t' n' c' l' k' a' true := fun t' n' c' l' k' a' => ⟨(fun e => by cases e), rfl, .inr (.inr ⟨rfl, rfl⟩)⟩
  rcases hJ.st with ⟨rfl, rfl, rfl, rfl, rfl, hs, hf, hn⟩ | ⟨rfl, fl, fc, fe, hf, h0, rfl, rfl, rfl, b1, b2⟩ | ⟨rfl, hf⟩
  · have hF : (RS.new.feed (L8 t)).fault = none := by rw [hs] at hf; exact hf
    have hts := few_bytes hF
    obtain ⟨K, K2, m, rs, c, l, k, a, sh, hK, hK2, hm1, hm2, hm3, _, hfin⟩ := read_at (t := t) (by omega)
    obtain ⟨e1, e2⟩ := fin_bare (RS.new.feed (L8 t))
    have e3 : (RS.fin { (RS.new.feed (L8 t)) with rows := [] }) = s.fin := by rw [hs]; rfl
    rw [e3] at e1 e2
    refine (rclose_on rb n m K t rs c l k a w hr hK (by omega)).mono ?_
    rintro e w' ⟨v, rfl, hri, hra, hq⟩
    rcases hfin hF with ⟨f1, rfl, rfl, rfl, rfl, f2⟩ | ⟨fl, fc, fe, f1, h0, rfl, rfl, rfl, b1, b2, f2⟩
    · refine ⟨v, _, t, n, _, _, _, _, rfl, ?_, ?_, hra, hJ' .., hq⟩
      · have : rs.drop n = s.fin.rows := by
          rw [← f2, e1, hn]
          exact List.drop_left
        rw [← this]
        exact hri
      · rw [← e2, f1]
        exact ⟨0, 0, 0, rfl⟩
    · refine ⟨v, _, t, n, _, _, _, _, rfl, ?_, ?_, hra, hJ' .., hq⟩
      · have h1 : (RS.new.feed (L8 t)).fin.rows = (RS.new.feed (L8 t)).rows := fin_same hF (by rw [f1]; simp)
        have h2 : s.fin.rows = [] := by
          rw [h1] at e1
          have := congrArg List.length e1
          rw [List.length_append] at this
          exact List.eq_nil_of_length_eq_zero (by omega)
        have : rs.drop n = s.fin.rows := by
          rw [h2, f2, hn, List.drop_length]
        rw [← this]
        exact hri
      · rw [← e2, f1]
        exact ⟨a, rfl, b1, b2⟩
  · have hst : s.fin = s := if_neg (by rw [hf]; simp)
    rw [hst]
    rw [hst] at hJ'
    refine (rclose_bad rb n t _ _ _ a (by omega) w hr).mono ?_
    rintro e w' ⟨rfl, hra, hq⟩
    rw [hJ.rows, hf]
    exact ⟨_, _, t, n, _, _, _, a, rfl, rowsIn_nil w', ⟨a, rfl, b1, b2⟩, hra, hJ' .., hq⟩
  · have hst : s.fin = s := if_neg (by rw [hf]; simp)
    rw [hst]
    rw [hst] at hJ'
    refine (rclose_over rb n t c l k a w hr).mono ?_
    rintro e w' ⟨rfl, hb⟩
    rw [hJ.rows, hf]
    exact ⟨_, _, t, n, c, l, k, a, rfl, rowsIn_nil w', ⟨0, rfl, by omega, by omega⟩, hr.below hb, hJ' .., (Fq.refl _ _).below hb⟩
end
end Go.Proofs.YtappphffbnkloaaGreatDoor.Sht
set_option linter.unusedVariables false
set_option linter.unusedSimpArgs false
namespace Go.Proofs.YtappphffbnkloaaGreatDoor.Sht
open Go Go.RowKit Go.Proofs.YtappphffbnkloaaGreatDoorW.PrintWords Go.Proofs.YtappphffbnkloaaGreatDoor.GS
theorem next_same (s : RS) (x : UInt8) (h : s.fault = none) (hf : (s.next x).fault ≠ none) : (s.next x).rows = s.rows := by
  have w : ∀ s : RS, s.widen.rows = s.rows ∧ s.widen.fault = s.fault := fun s => by unfold RS.widen; split <;> exact ⟨rfl, rfl⟩
  have p : ∀ (s : RS) (x : UInt8), (s.put x).rows = s.rows := fun s x => by unfold RS.put; split <;> rfl
  have cm : ∀ s : RS, s.comma.rows = s.rows := fun s => by unfold RS.comma; split <;> rfl
  have er : ∀ (s : RS) (l c : Nat), s.fault = none → (s.endRow l c).fault ≠ none → (s.endRow l c).rows = s.rows := fun s l c h hf => by
    unfold RS.endRow at hf ⊢
    split at hf
    · exact absurd ((w s).2.trans h) hf
    · rename_i hq
      rw [if_neg hq]
      exact (w s).1
  have pl : ∀ (s : RS) (x : UInt8), (s.plain x).rows = s.rows := fun s x => by
    unfold RS.plain; repeat' split
    all_goals first | exact cm s | exact p s x | rfl
  have st : ∀ (s : RS) (x : UInt8), (s.start x).rows = s.rows := fun s x => by
    unfold RS.start; split
    · rfl
    · exact pl (s.turn .plain) x
  rcases next_cases s x with ⟨_, e⟩ | ⟨_, e⟩ | ⟨_, e⟩ | ⟨_, e⟩ | ⟨_, e⟩ | ⟨_, e⟩
  · rw [e]
    unfold RS.fresh; split
    · rfl
    · exact st s x
  · rw [e]; exact st s x
  · rw [e]; exact pl s x
  · rw [e]
    unfold RS.quoted; repeat' split
    all_goals first | exact p s x | rfl
  · rw [e]
    unfold RS.closed; repeat' split
    all_goals first | exact cm s | exact p (s.turn .quoted) x | rfl
  · rw [e] at hf ⊢
    unfold RS.back at hf ⊢
    split
    · rename_i q
      rw [if_pos q] at hf
      exact er s _ _ h hf
    · rfl
theorem on_rows (s : RS) (x : UInt8) : (s.on x).rows = s.rows := by unfold RS.on; split <;> rfl
theorem step_same (s : RS) (x : UInt8) (h : s.fault = none) (hf : (s.step x).fault ≠ none) : (s.step x).rows = s.rows := by
  unfold RS.step at hf ⊢
  split
  · rfl
  · rename_i q
    rw [if_neg q, on_fault] at hf
    rw [on_rows]
    exact next_same { s with all := s.all + 1 } x h hf
/-- the rows that a state comes to: 1 to 64 cells of at most 4096 bytes -/
def Rok (r : List (List UInt8)) : Prop := 0 < r.length ∧ r.length ≤ 64 ∧ ∀ q ∈ r, q.length ≤ 4096
theorem rok_of {w : Nat} {r : List (List UInt8)} (h : RowOk w r) : Rok r := ⟨h.pos, h.few, fun q hq => (h.cells q hq).1⟩
theorem feed_rok : ∀ (l : List UInt8) (a : Nat) (s : RS), Gd a s → s.fault = none → (s.feed l).rows.length ≤ 4096 ∧ ∀ r ∈ (s.feed l).rows, Rok r
  | [], a, s, h, _ => ⟨by show s.rows.length ≤ _; rw [h.num]; exact h.few, fun r hr => rok_of (h.good r hr)⟩
  | x :: l, a, s, h, hf => by
    rw [feed_cons hf]
    by_cases q : (s.step x).fault = none
    · exact feed_rok l _ _ (gd_step h q) q
    · rw [feed_stop q, step_same s x hf q]
      exact ⟨by rw [h.num]; exact h.few, fun r hr => rok_of (h.good r hr)⟩
section
variable {s : RS} {t : ByteArray} {n N : Nat} {c l k a : Int} {o : Bool}
theorem fit_feed (hJ : J s t n c l k a o) (hN : N ≤ 4096) (hc : s.fault = none → s.count = N) (Q : List UInt8) :
    (∀ r ∈ (s.feed Q).rows, Rok r) ∧ N + (s.feed Q).rows.length ≤ 4096 ∧ ((s.feed Q).bare.fault = none → (s.feed Q).bare.count = N + (s.feed Q).rows.length) := by
  by_cases hf : s.fault = none
  · rcases hJ.st with ⟨rfl, _, _, _, _, hs, _, _⟩ | ⟨_, fl, fc, fe, q, _⟩ | ⟨_, q⟩
    · have hF : (RS.new.feed (L8 t)).fault = none := by rw [hs] at hf; exact hf
      have hg := gd_feed (L8 t) 0 RS.new gd_new rfl hF
      have hN' : N = (RS.new.feed (L8 t)).rows.length := by
        rw [← hc hf, hg.num, hs]
        rfl
      obtain ⟨e1, e2, e3⟩ := bare_feed (RS.new.feed (L8 t)) Q
      rw [← hs] at e1 e2 e3
      obtain ⟨r1, r2⟩ := feed_rok Q _ _ hg hF
      rw [e1] at r1 r2
      rw [List.length_append] at r1
      refine ⟨fun r hr => r2 r (List.mem_append_right _ hr), by omega, fun h0 => ?_⟩
      have hF2 : ((RS.new.feed (L8 t)).feed Q).fault = none := by rw [e3]; exact h0
      have hg2 := gd_feed Q _ _ hg hF hF2
      have := hg2.num
      rw [e1, List.length_append] at this
      have e4 : (s.feed Q).bare.count = ((RS.new.feed (L8 t)).feed Q).count := by
        rw [← e2]
        rfl
      rw [e4]
      omega
    · rw [hf] at q; cases q
    · rw [hf] at q; cases q
  · have hst : s.feed Q = s := feed_stop hf Q
    rw [hst, hJ.rows]
    exact ⟨fun r hr => by simp at hr, by simpa using hN, fun e => absurd e hf⟩
theorem fit_close (hJ : J s t n c l k a o) (hN : N ≤ 4096) (hc : s.fault = none → s.count = N) :
    (∀ r ∈ s.fin.rows, Rok r) ∧ N + s.fin.rows.length ≤ 4096 := by
  by_cases hf : s.fault = none
  · rcases hJ.st with ⟨rfl, _, _, _, _, hs, _, _⟩ | ⟨_, fl, fc, fe, q, _⟩ | ⟨_, q⟩
    · have hF : (RS.new.feed (L8 t)).fault = none := by rw [hs] at hf; exact hf
      have hg := gd_feed (L8 t) 0 RS.new gd_new rfl hF
      have hN' : N = (RS.new.feed (L8 t)).rows.length := by
        rw [← hc hf, hg.num, hs]
        rfl
      obtain ⟨e1, e2⟩ := fin_bare (RS.new.feed (L8 t))
      have e3 : (RS.fin { (RS.new.feed (L8 t)) with rows := [] }) = s.fin := by rw [hs]; rfl
      rw [e3] at e1 e2
      by_cases q : s.fin.fault = none
      · have hov : (RS.new.feed (L8 t)).fin = (RS.new.feed (L8 t)).over := if_pos hF
        rw [hov] at e1 e2
        obtain ⟨r1, r2, _⟩ := gd_over hg (by rw [e2]; exact q)
        rw [e1, List.length_append] at r1
        refine ⟨fun r hr => rok_of (r2 r (by rw [e1]; exact List.mem_append_right _ hr)), by omega⟩
      · rw [fin_same hf q, hJ.rows]
        exact ⟨fun r hr => by simp at hr, by simpa using hN⟩
    · rw [hf] at q; cases q
    · rw [hf] at q; cases q
  · have hst : s.fin = s := if_neg hf
    rw [hst, hJ.rows]
    exact ⟨fun r hr => by simp at hr, by simpa using hN⟩
end
theorem told_of (rs : Rows) (h : rs.length ≤ 4096) (hr : ∀ r ∈ rs, Rok r) : ∃ K R, larderref01_told.f K (rws rs) = some R := by
  obtain ⟨R, K, hK⟩ := told_total (rws rs) (by rw [rws_len]; omega) (fun x hx => by
    unfold rws at hx
    obtain ⟨r, hr', rfl⟩ := List.mem_map.1 hx
    obtain ⟨_, h2, h3⟩ := hr r hr'
    refine ⟨by rw [txs_len]; omega, fun c hc => ?_⟩
    unfold txs at hc
    obtain ⟨q, hq, rfl⟩ := List.mem_map.1 hc
    have := h3 q hq
    show (tx q).size ≤ _
    have e : (tx q).size = q.length := by simp [tx, ByteArray.size]
    omega)
  exact ⟨K, R, hK K (Nat.le_refl _)⟩
end Go.Proofs.YtappphffbnkloaaGreatDoor.Sht
set_option linter.unusedVariables false
set_option linter.unusedSimpArgs false
namespace Go.Proofs.YtappphffbnkloaaGreatDoor.Sht
open Go Go.RowKit Go.Proofs.YtappphffbnkloaaGreatDoorW.PrintWords Go.Proofs.YtappphffbnkloaaGreatDoor.GS
def prV (nb : Bool) (b : Nat) : Value := if nb = true then .pointer none else PT b
/-- a piece, or the end -/
def nxS (s : RS) : Option (List UInt8) → RS
  | some Q => (s.feed Q).bare
  | none => RS.fail s.fin.bare 0 0 9
def nxR (s : RS) : Option (List UInt8) → Rows
  | some Q => (s.feed Q).rows
  | none => s.fin.rows
def nxF (s : RS) : Option (List UInt8) → Option (Nat × Nat × Nat)
  | some Q => (s.feed Q).fault
  | none => s.fin.fault
/-- between two pieces -/
def Iv (nb : Bool) (A : Nat → Addr) (W0 w : World) (b rb bk : Nat) (as' : List Rows) (X : BX) : Prop :=
  ∃ s t n c l k a o, Sys A W0 w b rb bk s t n c l k a o as' X ∧ as'.flatten.length ≤ 4096 ∧ (nb = false → J s t n c l k a o ∧ (s.fault = none → s.count = as'.flatten.length))
def Fits (as' : List Rows) (rs : Rows) : Prop := as'.flatten.length + rs.length ≤ 4096 ∧ ∀ r ∈ rs, Rok r
/-- the Reader has run -/
def Md2 (nb : Bool) (A : Nat → Addr) (W0 w : World) (b rb bk : Nat) (as' : List Rows) (X : BX) (q : Option (List UInt8)) (rs : Rows) (flt : Option (Nat × Nat × Nat)) : Prop :=
  ∃ s t n c l k a o, Sys A W0 w b rb bk s t n c l k a o as' X ∧ Fits as' rs ∧ (nb = true → rs = [] ∧ flt = none) ∧ (nb = false → ∃ s0, J s0 t n c l k a o ∧ s = nxS s0 q ∧ rs = nxR s0 q ∧ flt = nxF s0 q ∧ (s.fault = none → s.count = as'.flatten.length + rs.length))
/-- the reference's Reader has run, too -/
def Af (nb : Bool) (A : Nat → Addr) (W0 w : World) (b rb bk : Nat) (as' : List Rows) (X : BX) (rs : Rows) : Prop :=
  ∃ s t n c l k a o, Sys A W0 w b rb bk s t n c l k a o as' X ∧ Fits as' rs ∧ (nb = false → J s t n c l k a o ∧ (s.fault = none → s.count = as'.flatten.length + rs.length))
/-- what is fed: bytes of our own -/
structure OwnB (W0 w : World) (b g cap : Nat) (Q : List UInt8) : Prop where
  own : w.ownsRow W0.heap.size 5 1 (.slice (some ⟨g, 0, none⟩) (Q.length + 9) cap) (Q.length + 9) (bs Q ++ bmarks 9)
  nwr : ¬ wr w b g
section
variable {nb : Bool} {A : Nat → Addr} {W0 w w' : World} {b rb bk g cap : Nat} {as' : List Rows} {X : BX} {q : Option (List UInt8)} {Q : List UInt8} {rs : Rows} {flt : Option (Nat × Nat × Nat)} {v ve f : Value} {B : Nat}
theorem OwnB.blk (h : OwnB W0 w b g cap Q) : ∃ cs, w.heap[g]? = some (.cells cs 5 (0, 0)) := kind_row h.own g rfl
theorem OwnB.keep (h : OwnB W0 w b g cap Q) (hk : w'.heap[g]? = w.heap[g]?) (hw : wr w' b g → wr w b g) : OwnB W0 w' b g cap Q :=
  ⟨ownsRow_kept h.own fun j hj => by
    obtain rfl : g = j := by injection hj
    exact hk, fun q => h.nwr (hw q)⟩
theorem OwnB.below (h : OwnB W0 w b g cap Q) (hb : b < w.heap.size) (k : Below w.heap.size w w') : OwnB W0 w' b g cap Q := by
  obtain ⟨cs, hc⟩ := h.blk
  exact h.keep (k.block g (blt hc)) (wr_below hb k g)
theorem OwnB.piece (h : OwnB W0 w b g cap Q) : Piece w g 0 Q := fun i hi => by
  have := World.ownsRow.cells h.own (g := g) rfl i (ch Q[i]) (by rw [List.getElem?_append_left (by rw [bs_len]; exact hi)]; simp [bs, hi])
  rw [Lib.add_plain, Nat.zero_add] at this
  rw [Nat.zero_add]
  exact this
theorem OwnB.lent (h : OwnB W0 w b g cap Q) : Lbyte w W0.heap.size (.slice (some ⟨g, 0, none⟩) Q.length cap) Q := ⟨g, cap, rfl, h.own⟩
theorem faultAt_fq {t : ByteArray} {n : Nat} {c l k a : Int} {o : Bool} (h : FaultAt w B A ve flt) (hr : RfAt w rb t n c l k a o) (k : Fq rb w w') : FaultAt w' B A ve flt := by
  cases flt with
  | none => exact h
  | some f3 =>
    obtain ⟨l, c, e⟩ := f3
    obtain ⟨h1, g, h2, h3, h4⟩ := h
    exact ⟨h1, g, h2, h3, (k.keep g (blt h4) (kind_ne h4 hr (by decide))).trans h4⟩
theorem faultAt_below (h : FaultAt w B A ve flt) (k : Below w.heap.size w w') : FaultAt w' B A ve flt := by
  cases flt with
  | none => exact h
  | some f3 =>
    obtain ⟨l, c, e⟩ := f3
    obtain ⟨h1, g, h2, h3, h4⟩ := h
    exact ⟨h1, g, h2, h3, (k.block g (blt h4)).trans h4⟩
theorem Iv.sys (h : Iv nb A W0 w b rb bk as' X) : ∃ s t n c l k a o, Sys A W0 w b rb bk s t n c l k a o as' X := by
  obtain ⟨s, t, n, c, l, k, a, o, h, _⟩ := h
  exact ⟨s, t, n, c, l, k, a, o, h⟩
theorem Iv.lt (h : Iv nb A W0 w b rb bk as' X) : b < w.heap.size ∧ Below W0.heap.size W0 w := by
  obtain ⟨s, t, n, c, l, k, a, o, h⟩ := h.sys
  exact ⟨h.r.lt, h.r.base⟩
theorem Iv.below (h : Iv nb A W0 w b rb bk as' X) (k : Below w.heap.size w w') : Iv nb A W0 w' b rb bk as' X := by
  obtain ⟨s, t, n, c, l, k', a, o, h1, h2⟩ := h
  exact ⟨s, t, n, c, l, k', a, o, h1.below k, h2⟩
theorem Af.lt (h : Af nb A W0 w b rb bk as' X rs) : b < w.heap.size ∧ Below W0.heap.size W0 w := by
  obtain ⟨s, t, n, c, l, k, a, o, h, _⟩ := h
  exact ⟨h.r.lt, h.r.base⟩
theorem Af.below (h : Af nb A W0 w b rb bk as' X rs) (k : Below w.heap.size w w') : Af nb A W0 w' b rb bk as' X rs := by
  obtain ⟨s, t, n, c, l, k', a, o, h1, h2⟩ := h
  exact ⟨s, t, n, c, l, k', a, o, h1.below k, h2⟩
theorem Md2.lt (h : Md2 nb A W0 w b rb bk as' X q rs flt) : b < w.heap.size ∧ Below W0.heap.size W0 w := by
  obtain ⟨s, t, n, c, l, k, a, o, h, _⟩ := h
  exact ⟨h.r.lt, h.r.base⟩
theorem Md2.below (h : Md2 nb A W0 w b rb bk as' X q rs flt) (k : Below w.heap.size w w') : Md2 nb A W0 w' b rb bk as' X q rs flt := by
  obtain ⟨s, t, n, c, l, k', a, o, h1, h2⟩ := h
  exact ⟨s, t, n, c, l, k', a, o, h1.below k, h2⟩
/-- what a Reader's call leaves -/
def Ran (nb : Bool) (A : Nat → Addr) (W0 w : World) (b rb bk : Nat) (as' : List Rows) (X : BX) (q : Option (List UInt8)) (e : Ending) (w' : World) : Prop :=
  ∃ vl ve rs flt, e = .returned (.tuple #[vl, ve]) ∧ Md2 nb A W0 w' b rb bk as' X q rs flt ∧ Tlr W0 w' b vl rs as' X ∧ FaultAt w' w.heap.size A ve flt ∧ Fr b w w'
theorem tlr_nil (W0 w : World) (b : Nat) (as' : List Rows) (X : BX) : Tlr W0 w b (.slice none 0 0) [] as' X :=
  ⟨[], World.ownsRow_nil _ _ _ _, trivial, by simp [ob, Value.ownBlock], fun j hj => by simp [ob, Value.ownBlock] at hj⟩
theorem fits_nil (h : as'.flatten.length ≤ 4096) : Fits as' [] := ⟨by simpa using h, fun r hr => by simp at hr⟩
theorem feed_q (hF : SF W0 A) (hE : ET W0) (h : Iv nb A W0 w b rb bk as' X) (ho : OwnB W0 w b g cap Q) (hl : Q.length ≤ 140737488351232) :
    Calls Tryz.prog 15 #[prV nb b, .slice (some ⟨g, 0, none⟩) Q.length cap] w (Ran nb A W0 w b rb bk as' X (some Q)) := by
  obtain ⟨s, t, n, c, l, k, a, o, hs, hn, hj⟩ := h
  cases nb with
  | true =>
    refine (nilFeed _ w).mono ?_
    rintro e w' ⟨rfl, rfl⟩
    exact ⟨_, _, [], none, rfl, ⟨s, t, n, c, l, k, a, o, hs, fits_nil hn, fun _ => ⟨rfl, rfl⟩, fun e => by cases e⟩, tlr_nil .., rfl, Fr.refl _ _⟩
  | false =>
    obtain ⟨hJ, hc⟩ := hj rfl
    obtain ⟨cs, hcs⟩ := ho.blk
    obtain ⟨f1, f2, f3⟩ := fit_feed hJ hn hc Q
    refine (any_feed hF hE hs.r hJ.live hJ.rows g cap Q ho.piece (blt hcs) ho.nwr (by omega)).mono ?_
    rintro e w' ⟨vl, ve, rfl, h1, h2, h3, h4, h5⟩
    exact ⟨vl, ve, _, _, rfl, ⟨_, t, n, c, l, k, a, o, hs.fed h1 rfl h4, ⟨f2, f1⟩, (fun e => by cases e), fun _ => ⟨s, hJ, rfl, rfl, rfl, f3⟩⟩, hs.tld h2 h5, h3, h4⟩
theorem close_q (hF : SF W0 A) (hE : ET W0) (h : Iv nb A W0 w b rb bk as' X) :
    Calls Tryz.prog 9 #[prV nb b] w (Ran nb A W0 w b rb bk as' X none) := by
  obtain ⟨s, t, n, c, l, k, a, o, hs, hn, hj⟩ := h
  cases nb with
  | true =>
    refine (nilClose w).mono ?_
    rintro e w' ⟨rfl, rfl⟩
    exact ⟨_, _, [], none, rfl, ⟨s, t, n, c, l, k, a, o, hs, fits_nil hn, fun _ => ⟨rfl, rfl⟩, fun e => by cases e⟩, tlr_nil .., rfl, Fr.refl _ _⟩
  | false =>
    obtain ⟨hJ, hc⟩ := hj rfl
    obtain ⟨f1, f2⟩ := fit_close hJ hn hc
    refine (any_close hF hE hs.r hJ.live).mono ?_
    rintro e w' ⟨vl, ve, rfl, h1, h2, h3, h4, h5⟩
    exact ⟨vl, ve, _, _, rfl, ⟨_, t, n, c, l, k, a, o, hs.fed h1 rfl h4, ⟨f2, f1⟩, (fun e => by cases e), fun _ => ⟨s, hJ, rfl, rfl, rfl, fun e => by cases e⟩⟩, hs.tld h2 h5, h3, h4⟩
/-- bytes are as they were -/
def Five (w w' : World) : Prop := ∀ (g : Nat), (∃ cs : Array Value, w.heap[g]? = some (Obj.cells cs 5 (0, 0))) → w'.heap[g]? = w.heap[g]?
/-- what the reference's call leaves -/
def Refd (nb : Bool) (A : Nat → Addr) (W0 w : World) (b rb bk : Nat) (as' : List Rows) (X : BX) (rs : Rows) (flt : Option (Nat × Nat × Nat)) (vl ve : Value) (B : Nat) (e : Ending) (w' : World) : Prop :=
  ∃ v f, e = .returned (.tuple #[v, f]) ∧ (∃ c l p k a : Int, f = fv c l p k a) ∧ Af nb A W0 w' b rb bk as' X rs ∧ RowsIn w' v rs ∧ FOk f flt ∧ Tlr W0 w' b vl rs as' X ∧ FaultAt w' B A ve flt ∧ Below W0.heap.size w w' ∧ Five w w' ∧ ∀ g, wr w' b g → wr w b g
theorem fok_fv (h : FOk f flt) : ∃ c l p k a : Int, f = fv c l p k a := by
  cases flt with
  | none =>
    obtain ⟨l, k, a, rfl⟩ := h
    exact ⟨_, _, _, _, _, rfl⟩
  | some f3 =>
    obtain ⟨l, c, e⟩ := f3
    obtain ⟨p, rfl, _⟩ := h
    exact ⟨_, _, _, _, _, rfl⟩
theorem refd_nil (h : Md2 true A W0 w b rb bk as' X q rs flt) (hT : Tlr W0 w b v rs as' X) (hf : FaultAt w B A ve flt) {e : Ending} (hN : Nought w (fv 0 0 0 0 0) e w') : Refd true A W0 w b rb bk as' X rs flt v ve B e w' := by
  obtain ⟨s, t, n, c, l, k, a, o, hs, hfit, hj, _⟩ := h
  obtain ⟨rfl, rfl⟩ := hj rfl
  obtain ⟨rfl, hb⟩ := hN
  exact ⟨_, _, rfl, ⟨_, _, _, _, _, rfl⟩, ⟨s, t, n, c, l, k, a, o, hs.below hb, hfit, fun e => by cases e⟩, rowsIn_nil w', ⟨0, 0, 0, rfl⟩, hT.below hs.r.lt hb, faultAt_below hf hb, hb.mono hs.r.base.size, fun g hg => by
    obtain ⟨cs, hc⟩ := hg
    exact hb.block g (blt hc), fun g hg => wr_below hs.r.lt hb g hg⟩
theorem refd_of {t t' : ByteArray} {n n' : Nat} {c l k a c' l' k' a' : Int} {o o' : Bool} {s : RS} (hs : Sys A W0 w b rb bk s t n c l k a o as' X) (hfit : Fits as' rs) (hT : Tlr W0 w b v rs as' X) (hf : FaultAt w B A ve flt) {u : Value}
    (h1 : RowsIn w' u rs) (h2 : FOk f flt) (h3 : RfAt w' rb t' n' c' l' k' a' o') (h4 : J s t' n' c' l' k' a' o') (h5 : Fq rb w w') (hc : s.fault = none → s.count = as'.flatten.length + rs.length) : Refd false A W0 w b rb bk as' X rs flt v ve B (.returned (.tuple #[u, f])) w' := by
  have hne : b ≠ rb := fun e => hs.rb_wr (e ▸ .inl rfl)
  refine ⟨u, f, rfl, fok_fv h2, ⟨s, t', n', c', l', k', a', o', hs.ref h3 h5, hfit, fun _ => ⟨h4, hc⟩⟩, h1, h2, hT.fq hs.r.lt hne hs.rf h5, faultAt_fq hf hs.rf h5, below_fq h5 hs.hrb hs.r.base.size, fun g hg => ?_, fun g hg => wr_same (h5.keep b hs.r.lt hne) hg⟩
  obtain ⟨cs, hc⟩ := hg
  exact h5.keep g (blt hc) (kind_ne hc hs.rf (by decide))
theorem rfeed_q {pv : Value} (h : Md2 nb A W0 w b rb bk as' X (some Q) rs flt) (hT : Tlr W0 w b v rs as' X) (hf : FaultAt w B A ve flt) (hB : ByteIn w pv Q) (hl : Q.length ≤ 140737488351232) :
    Calls Tryz.prog 16 #[prV nb rb, pv] w (Refd nb A W0 w b rb bk as' X rs flt v ve B) := by
  cases nb with
  | true => exact (rfeed_nil pv w).mono fun e w' hN => refd_nil h hT hf hN
  | false =>
    obtain ⟨s, t, n, c, l, k, a, o, hs, hfit, _, hj⟩ := h
    obtain ⟨s0, hJ, rfl, rfl, rfl, hc⟩ := hj rfl
    refine (ref_feed hs.rf hJ pv Q hB hl).mono ?_
    rintro e w' ⟨u, f, t', n', c', l', k', a', rfl, h1, h2, h3, h4, h5⟩
    exact refd_of hs hfit hT hf h1 h2 h3 h4 h5 hc
theorem rclose_q (h : Md2 nb A W0 w b rb bk as' X none rs flt) (hT : Tlr W0 w b v rs as' X) (hf : FaultAt w B A ve flt) :
    Calls Tryz.prog 10 #[prV nb rb] w (Refd nb A W0 w b rb bk as' X rs flt v ve B) := by
  cases nb with
  | true => exact (rclose_nil w).mono fun e w' hN => refd_nil h hT hf hN
  | false =>
    obtain ⟨s, t, n, c, l, k, a, o, hs, hfit, _, hj⟩ := h
    obtain ⟨s0, hJ, rfl, rfl, rfl, hc⟩ := hj rfl
    refine (ref_close hs.rf hJ).mono ?_
    rintro e w' ⟨u, f, t', n', c', l', k', a', rfl, h1, h2, h3, h4, h5⟩
    exact refd_of hs hfit hT hf h1 h2 h3 h4 h5 hc
theorem Tlr.rowsIn (h : Tlr W0 w b v rs as' X) : RowsIn w v rs := by
  obtain ⟨lv, h1, h2, _⟩ := h
  exact rowsIn_good ⟨lv, h1, h2⟩
/-- Books have taken it -/
theorem books_q (h : Af nb A W0 w b rb bk as' X rs) (hT : Tlr W0 w b v rs as' X) (haz : as'.length ≤ 5000000000000) :
    Calls Tryz.prog 13 #[PT bk, v] w fun e w' => e = .returned (.tuple #[]) ∧ ∃ X', Iv nb A W0 w' b rb bk (as' ++ [rs]) X' ∧ Below W0.heap.size w w' ∧ Five w w' ∧ ∀ g, wr w' b g → wr w b g := by
  obtain ⟨s, t, n, c, l, k, a, o, hs, ⟨hf1, hf2⟩, hj⟩ := h
  obtain ⟨K, R, hK⟩ := told_of rs (by omega) hf2
  refine (hs.books hT (fun r hr => ⟨(hf2 r hr).1, by have := (hf2 r hr).2.1; omega⟩) K R hK (by omega) haz).mono ?_
  rintro e w' ⟨he, X', hs', hF⟩
  have hfl : (as' ++ [rs]).flatten.length = as'.flatten.length + rs.length := by simp
  have hother : ∀ {j : Nat} {cs : Array Value} {e : TypeId}, w.heap[j]? = some (.cells cs e (0, 0)) → e ≠ 9 → e ≠ 28 → e ≠ 30 → e ≠ 36 → w'.heap[j]? = w.heap[j]? := fun {j cs e} hj n1 n2 n3 n4 =>
    hF.keep j (blt hj) (kind_ne hj hs.hold.bk n4) (fun x hx hxj => by
      have hm : j ∈ blks (X.Fl as' []) := by
        unfold BX.Fl blks
        simp only [List.flatMap_cons, List.mem_append]
        simp only [List.mem_cons, List.not_mem_nil, or_false] at hx
        rcases hx with rfl | rfl | rfl | rfl
        · exact .inl (mem_ob.2 hxj)
        · exact .inr (.inl (mem_ob.2 hxj))
        · exact .inr (.inr (.inl (mem_ob.2 hxj)))
        · exact .inr (.inr (.inr (.inl (mem_ob.2 hxj))))
      obtain ⟨cs', e', hc, he⟩ := hs.hold.kind hm
      refine kind_ne hj hc ?_ rfl
      rcases he with rfl | rfl | rfl
      · exact n1
      · exact n2
      · exact n3)
  have hbb : w'.heap[b]? = w.heap[b]? := by
    obtain ⟨vc, vr, vl, fl, lv, hd⟩ := hs.r
    exact hother hd.blk (by decide) (by decide) (by decide) (by decide)
  refine ⟨he, X', ⟨s, t, n, c, l, k, a, o, hs', by omega, fun e => ⟨(hj e).1, fun q => by rw [hfl]; exact (hj e).2 q⟩⟩, ?_, fun g hg => ?_, fun g hg => wr_same hbb hg⟩
  · refine ⟨hF.os, hF.tape, hF.output, hF.size, fun j hj => ?_⟩
    refine hF.keep j (by have := hs.r.base.size; omega) (by have := hs.hbk; omega) (fun x hx hxj => ?_)
    have hm : j ∈ blks (X.Fl as' []) := by
      unfold BX.Fl blks
      simp only [List.flatMap_cons, List.mem_append]
      simp only [List.mem_cons, List.not_mem_nil, or_false] at hx
      rcases hx with rfl | rfl | rfl | rfl
      · exact .inl (mem_ob.2 hxj)
      · exact .inr (.inl (mem_ob.2 hxj))
      · exact .inr (.inr (.inl (mem_ob.2 hxj)))
      · exact .inr (.inr (.inr (.inl (mem_ob.2 hxj))))
    have := (hs.lt hm).1
    omega
  · obtain ⟨cs, hc⟩ := hg
    exact hother hc (by decide) (by decide) (by decide) (by decide)
/-- a byte of ours is written over -/
theorem Iv.put (h : Iv nb A W0 w b rb bk as' X) {i : Nat} {u : Value} {cs : Array Value} (hg : w.heap[g]? = some (.cells cs 5 (0, 0))) (hn : ¬ wr w b g) (h0 : W0.heap.size ≤ g) : Iv nb A W0 (w.setCell ⟨g, i, none⟩ u) b rb bk as' X ∧ ¬ wr (w.setCell ⟨g, i, none⟩ u) b g := by
  obtain ⟨s, t, n, c, l, k, a, o, hs, h2⟩ := h
  obtain ⟨h3, h4⟩ := hs.put (i := i) (u := u) hg hn h0
  exact ⟨⟨s, t, n, c, l, k, a, o, h3, h2⟩, h4⟩
theorem OwnB.fr (h : OwnB W0 w b g cap Q) (k : Fr b w w') : OwnB W0 w' b g cap Q := by
  obtain ⟨cs, hc⟩ := h.blk
  exact ⟨ownsRow_kept h.own fun j hj => by
    obtain rfl : g = j := by injection hj
    exact k.keep g (blt hc) h.nwr, fun q => by
    rcases k.own g q with q | q
    · exact h.nwr q
    · have := blt hc
      omega⟩
theorem OwnB.five (h : OwnB W0 w b g cap Q) (h1 : Five w w') (h2 : ∀ g, wr w' b g → wr w b g) : OwnB W0 w' b g cap Q := h.keep (h1 g h.blk) (h2 g)
theorem ownB_new {u : Value} (h : Iv nb A W0 w b rb bk as' X) (hl : Lbyte w' w.heap.size u Q) (k : Below w.heap.size w w') : ∃ g cap, u = .slice (some ⟨g, 0, none⟩) Q.length cap ∧ OwnB W0 w' b g cap Q := by
  obtain ⟨g, cap, rfl, ho⟩ := hl
  refine ⟨g, cap, rfl, own_mono ho h.lt.2.size, fun q => ?_⟩
  have h1 := (ho.lt g rfl).1
  obtain ⟨s, t, n, c, l, k', a, o, hs⟩ := h.sys
  have := hs.r.wr_lt (wr_below h.lt.1 k g q)
  omega
end
end Go.Proofs.YtappphffbnkloaaGreatDoor.Sht
set_option linter.unusedVariables false
set_option linter.unusedSimpArgs false
namespace Go.Proofs.YtappphffbnkloaaGreatDoor.Sht
open Go Go.RowKit
theorem perm_at {α : Type} : ∀ (L : List α) (i : Nat) (h : i < L.length), L.Perm (L[i] :: L.eraseIdx i)
  | x :: L, 0, _ => List.Perm.refl _
  | x :: L, i + 1, h => (List.Perm.cons x (perm_at L i (by simpa using h))).trans (List.Perm.swap _ _ _)
theorem perm_set {α : Type} : ∀ (L : List α) (i : Nat) (y : α) (h : i < L.length), (y :: L.eraseIdx i).Perm (L.set i y)
  | x :: L, 0, y, _ => List.Perm.refl _
  | x :: L, i + 1, y, h => (List.Perm.swap x y _).trans (List.Perm.cons x (perm_set L i y (by simpa using h)))
section
variable {w w' : World} {B : Nat} {L : List En} {i : Nat}
theorem OwnsAll.at (h : OwnsAll w B L) {x : En} (hx : L[i]? = some x) : OwnsAll w B (x :: L.eraseIdx i) := by
  obtain ⟨hi, rfl⟩ := List.getElem?_eq_some_iff.1 hx
  exact h.perm (perm_at L i hi)
theorem OwnsAll.back {x y : En} (hx : L[i]? = some x) (h : OwnsAll w B (y :: L.eraseIdx i)) : OwnsAll w B (L.set i y) := by
  obtain ⟨hi, rfl⟩ := List.getElem?_eq_some_iff.1 hx
  exact h.perm (perm_set L i y hi)
/-- one cell of an entry is written -/
theorem OwnsAll.set_at {e : TypeId} {g n cap : Nat} {xs : List Value} {j : Nat} {u : Value} (h : OwnsAll w B L) (hx : L[i]? = some (e, .slice (some ⟨g, 0, none⟩) n cap, xs)) (hj : j < n) : OwnsAll (w.setCell ⟨g, j, none⟩ u) B (L.set i (e, .slice (some ⟨g, 0, none⟩) n cap, xs.set j u)) :=
  OwnsAll.back hx ((h.at hx).set hj)
/-- an entry grows by one that was made for it -/
theorem OwnsAll.grow_at {e : TypeId} {v v' : Value} {xs news : List Value} {m : Nat} {o : Obj} (h : OwnsAll w B L) (hx : L[i]? = some (e, v, xs)) (hm : m = news.length) (ho : w'.ownsRow B e 1 v' (xs.length + m) (xs ++ news)) (hg : (w.alloc o).grownBy w' v.ownBlock)
    (hb : v'.ownBlock = v.ownBlock ∨ v'.ownBlock = some (w.alloc o).heap.size) : OwnsAll w' B (L.set i (e, v', xs ++ news)) := OwnsAll.back hx ((h.at hx).grow1 hm ho hg hb)
/-- an entry moves: the old one stays as it was beside it -/
theorem OwnsAll.move_at {e : TypeId} {v v' : Value} {xs news : List Value} {m : Nat} {o : Obj} (h : OwnsAll w B L) (hx : L[i]? = some (e, v, xs)) (hm : m = news.length) (ho : w'.ownsRow B e 1 v' (xs.length + m) (xs ++ news))
    (hf : v'.ownBlock = some (w.alloc o).heap.size) (hk : ∀ j, j < (w.alloc o).heap.size → w'.heap[j]? = (w.alloc o).heap[j]?) : OwnsAll w' B ((e, v, xs) :: L.set i (e, v', xs ++ news)) := by
  have h1 := h.below ((Below.refl w.heap.size w).alloc (Nat.le_refl _) o)
  have h2 : OwnsAll w' B L := h1.keep fun j hj => hk j (h1.lt hj).2
  have h3 := (h2.at hx).cons (e := e) (v := v') (xs := xs ++ news) (by rw [List.length_append, ← hm]; exact ho) (fun j hj hmem => by
    rw [hf] at hj
    obtain rfl := Option.some.inj hj
    obtain ⟨hi, hxi⟩ := List.getElem?_eq_some_iff.1 hx
    have hp : (blks ((e, v, xs) :: L.eraseIdx i)).Perm (blks L) := by
      have := (perm_at L i hi).symm
      rw [hxi] at this
      exact this.flatMap_right _
    exact Nat.lt_irrefl _ (h1.lt (hp.mem_iff.1 hmem)).2)
  obtain ⟨hi, hxi⟩ := List.getElem?_eq_some_iff.1 hx
  exact h3.perm ((List.Perm.swap _ _ _).trans (List.Perm.cons _ (perm_set L i _ hi)))
theorem OwnsAll.own_at (h : OwnsAll w B L) {e : TypeId} {v : Value} {xs : List Value} (hx : L[i]? = some (e, v, xs)) : w.ownsRow B e 1 v xs.length xs := (h.at hx).head
end
end Go.Proofs.YtappphffbnkloaaGreatDoor.Sht
set_option linter.unusedVariables false
set_option linter.unusedSimpArgs false
namespace Go.Proofs.YtappphffbnkloaaGreatDoor.Sht
open Go Go.RowKit
/-- the entries of n rows (of type e): slice and cells of each -/
def rowsE (e : TypeId) (n : Nat) (V : Nat → Value) (E : Nat → List Value) : List En := (List.range n).map fun i => (e, V i, E i)
def upd {α : Type} (f : Nat → α) (i : Nat) (x : α) : Nat → α := fun k => if k = i then x else f k
theorem rowsE_len (e : TypeId) (n : Nat) (V : Nat → Value) (E : Nat → List Value) : (rowsE e n V E).length = n := by simp [rowsE]
theorem rowsE_get {e : TypeId} {n : Nat} {V : Nat → Value} {E : Nat → List Value} {i : Nat} (h : i < n) : (rowsE e n V E)[i]? = some (e, V i, E i) := by
  unfold rowsE
  rw [List.getElem?_map, List.getElem?_range h]
  rfl
theorem rowsE_set {e : TypeId} {n : Nat} {V : Nat → Value} {E : Nat → List Value} {i : Nat} (h : i < n) (v : Value) (c : List Value) : (rowsE e n V E).set i (e, v, c) = rowsE e n (upd V i v) (upd E i c) := by
  refine List.ext_getElem? fun k => ?_
  rw [List.getElem?_set]
  by_cases hk : k < n
  · by_cases e1 : i = k
    · subst e1
      rw [if_pos rfl, rowsE_len, if_pos h, rowsE_get h]
      simp [upd]
    · rw [if_neg e1, rowsE_get hk, rowsE_get hk]
      have e2 : ¬ k = i := fun q => e1 q.symm
      simp [upd, e2]
  · have h1 : (rowsE e n V E)[k]? = none := List.getElem?_eq_none (by rw [rowsE_len]; omega)
    have h2 : (rowsE e n (upd V i v) (upd E i c))[k]? = none := List.getElem?_eq_none (by rw [rowsE_len]; omega)
    rw [if_neg (by omega), h1, h2]
theorem rowsE_congr {e : TypeId} {n : Nat} {V V' : Nat → Value} {E E' : Nat → List Value} (h : ∀ i, i < n → V i = V' i ∧ E i = E' i) : rowsE e n V E = rowsE e n V' E' := by
  refine List.map_congr_left fun i hi => ?_
  obtain ⟨h1, h2⟩ := h i (List.mem_range.1 hi)
  rw [h1, h2]
/-- lists below i are written over with their marks, j cells of list i too -/
def over (M : Nat → Value) (E : Nat → List Value) (i j : Nat) : Nat → List Value := fun k => if k < i then List.replicate (E k).length (M k) else if k = i then List.replicate j (M k) ++ (E k).drop j else E k
theorem over_zero (M : Nat → Value) (E : Nat → List Value) : over M E 0 0 = E := by
  funext k
  unfold over
  rw [if_neg (Nat.not_lt_zero _)]
  split <;> simp
theorem over_next (M : Nat → Value) (E : Nat → List Value) (i : Nat) : over M E i (E i).length = over M E (i + 1) 0 := by
  funext k
  unfold over
  by_cases h1 : k < i
  · rw [if_pos h1, if_pos (by omega)]
  · by_cases h2 : k = i
    · subst h2
      rw [if_neg h1, if_pos rfl, if_pos (by omega)]
      simp
    · rw [if_neg h1, if_neg h2, if_neg (by omega)]
      split <;> simp
theorem over_set (M : Nat → Value) (E : Nat → List Value) (i j : Nat) (h : j < (E i).length) : upd (over M E i j) i ((over M E i j i).set j (M i)) = over M E i (j + 1) := by
  funext k
  unfold upd
  by_cases h2 : k = i
  · subst h2
    rw [if_pos rfl]
    unfold over
    rw [if_neg (Nat.lt_irrefl _), if_pos rfl, if_neg (Nat.lt_irrefl _), if_pos rfl]
    rw [List.set_append_right _ _ (by simp)]
    simp only [List.length_replicate, Nat.sub_self]
    rw [List.drop_eq_getElem_cons h, List.set_cons_zero, List.replicate_succ', List.append_assoc]
    rfl
  · rw [if_neg h2]
    unfold over
    rw [if_neg h2, if_neg h2]
theorem over_len (M : Nat → Value) (E : Nat → List Value) (i j k : Nat) (h : j ≤ (E i).length) : (over M E i j k).length = (E k).length := by
  unfold over
  split
  · simp
  · split
    · rename_i e
      subst e
      simp
      omega
    · rfl
end Go.Proofs.YtappphffbnkloaaGreatDoor.Sht
set_option linter.unusedVariables false
set_option linter.unusedSimpArgs false
namespace Go.Proofs.YtappphffbnkloaaGreatDoor.Sht
open Go Go.RowKit
/-- the lists below k have grown to M -/
def gV (V M : Nat → Value) (k : Nat) : Nat → Value := fun i => if i < k then M i else V i
/-- the lists below k have nine marks more -/
def gE (Mk : Nat → Value) (E0 : Nat → List Value) (k : Nat) : Nat → List Value := fun i => List.replicate (if i < k then (E0 i).length + 9 else (E0 i).length) (Mk i)
theorem upd_upd {α : Type} (f : Nat → α) (k : Nat) (a b : α) : upd (upd f k a) k b = upd f k b := by
  funext i
  unfold upd
  split <;> rfl
theorem upd_at {α : Type} (f : Nat → α) (k : Nat) (a : α) : upd f k a k = a := by
  unfold upd
  rw [if_pos rfl]
theorem gV_zero (V M : Nat → Value) : gV V M 0 = V := by
  funext i
  unfold gV
  rw [if_neg (Nat.not_lt_zero _)]
theorem gV_at (V M : Nat → Value) (k : Nat) : gV V M k k = V k := by
  unfold gV
  rw [if_neg (Nat.lt_irrefl _)]
/-- behind the first loop -/
theorem rows_over {e : TypeId} {n : Nat} (V : Nat → Value) (Mk : Nat → Value) (E0 : Nat → List Value) : rowsE e n V (over Mk E0 n 0) = rowsE e n V (gE Mk E0 0) :=
  rowsE_congr fun i hi => ⟨rfl, by
    unfold over gE
    rw [if_pos hi, if_neg (Nat.not_lt_zero _)]⟩
/-- a list has grown -/
theorem gV_next (V M : Nat → Value) (k : Nat) (m : Value) : upd (gV V M k) k m = gV V (upd M k m) (k + 1) := by
  funext i
  unfold upd gV
  by_cases h1 : i = k
  · subst h1
    rw [if_pos rfl, if_pos (by omega)]
    exact (if_pos rfl).symm
  · by_cases h2 : i < k
    · rw [if_neg h1, if_pos h2, if_pos (by omega)]
      exact (if_neg h1).symm
    · rw [if_neg h1, if_neg h2, if_neg (by omega)]
theorem range_next (M : Nat → Value) (k : Nat) (m : Value) : (List.range k).map M ++ [m] = (List.range (k + 1)).map (upd M k m) := by
  rw [List.range_succ, List.map_append]
  congr 1
  · refine List.map_congr_left fun i hi => ?_
    have := List.mem_range.1 hi
    unfold upd
    rw [if_neg (by omega)]
  · simp [upd]
end Go.Proofs.YtappphffbnkloaaGreatDoor.Sht
set_option linter.unusedVariables false
set_option linter.unusedSimpArgs false
namespace Go.Proofs.YtappphffbnkloaaGreatDoor.Sht
open Go
theorem run_append_two {P : Program} (w : World) (base : Nat) (t ty e : TypeId) (i : TypeInfo) (z : Value) (bytes : Nat) (ht : P.underlying t = some (.slice e)) (hi : P.info? e = some i) (hz : i.zero = some z)
    (hsize : i.size = 1) (hby : i.bytes = bytes) (hzs : z.cells.size = 1) (g n cap : Nat) (xs : List Value) (hown : w.ownsRow base e 1 (.slice (some ⟨g, 0, none⟩) n cap) n xs)
    (a : Addr) (m c : Nat) (news : List Value) (hl : news.length = m * 1) (hnews : ∀ j u, news[j]? = some u → w.cell? (a.add j) = some u) (h1 : ∀ u ∈ news, u.oneCell' = true)
    (h63 : n + m ≤ maxLen) (hbytes : (n + m) * bytes ≤ 140737488355328) (hbase : base ≤ w.heap.size) :
    ∃ v' w', (Builtin.append_ #[t, t] ty #[.slice (some ⟨g, 0, none⟩) n cap, .slice (some a) m c]).run P w = .ok v' w' ∧ w'.ownsRow base e 1 v' (n + m) (xs ++ news) ∧ w.grownBy w' (some g) ∧
      (v' = .slice (some ⟨g, 0, none⟩) (n + m) cap ∨ (v'.ownBlock = some w.heap.size ∧ ∀ j, j < w.heap.size → w'.heap[j]? = w.heap[j]?)) := by
  obtain ⟨v', w', hr, h2, h3, _, _⟩ := run_append_own_at (P := P) w base t ty e i z 1 bytes ht hi hz hsize hby hzs (by decide) _ n xs hown a m c news hl hnews h1 h63 hbytes hbase
  refine ⟨v', w', hr, h2, h3, ?_⟩
  have h9 : maxLen = 9223372036854775807 := rfl
  obtain ⟨hx, ⟨q, _⟩ | ⟨g', cap', cur, hv, hbg, hg, hnc, hcm, hcs, htake⟩⟩ := hown
  · cases q
  · have hown' : w.ownsRow base e 1 (.slice (some ⟨g, 0, none⟩) n cap) n xs := ⟨hx, .inr ⟨g', cap', cur, hv, hbg, hg, hnc, hcm, hcs, htake⟩⟩
    injection hv with e1 e2 e3
    injection e1 with e1
    injection e1 with e1 _ _
    subst e1
    subst e3
    by_cases hroom : n + m ≤ cap
    · left
      have hfit : n * i.size + news.length ≤ cur.size := by rw [hsize, hl, hcs, ← Nat.add_mul]; exact Nat.mul_le_mul_right _ hroom
      have hr2 := run_append_room (P := P) w t ty e i ht hi g n cap cur hg a m c news (by rw [hsize]; exact hl) hnews h1 hroom hfit
      have := hr.symm.trans hr2
      injection this
    · right
      have holds : ∀ j u, xs[j]? = some u → w.cell? ((⟨g, 0, none⟩ : Addr).add j) = some u := hown'.cells (g := g) rfl
      have hr2 := run_append_grow (P := P) w t ty e i z ht hi hz ⟨g, 0, none⟩ n cap xs (by rw [hsize]; exact hx) holds a m c news (by rw [hsize]; exact hl) hnews (by omega) (by omega) (by rw [hby]; exact growslice_fits (by omega) hbytes)
      have := hr.symm.trans hr2
      injection this with ev ew
      subst ev
      subst ew
      exact ⟨rfl, fun j hj => (by first | exact heap_alloc_old w.drew _ j hj | exact heap_alloc_old w.drew _ hj)⟩
/-- the same at a plain region's list, one cell appended that was made for it -/
theorem wpList_append_two {P : Program} {w : World} {ops : Array Oper} {rest : List Oper} {o : Oper} {act : Act} {Q : Exit → Act → World → Prop} (hgd : o.guard = none) (s x : Operand) (base : Nat) (t e : TypeId) (ho : o.op = .call { callee := .builtin .append, args := #[s, x], argTypes := #[t, t] })
    (i : TypeInfo) (z : Value) (bytes : Nat) (ht : P.underlying t = some (.slice e)) (hi : P.info? e = some i) (hz : i.zero = some z) (hsize : i.size = 1) (hby : i.bytes = bytes) (hzs : z.cells.size = 1)
    (g n cap : Nat) (xs : List Value) (hs : act.eval s = .slice (some ⟨g, 0, none⟩) n cap) (hown : w.ownsRow base e 1 (.slice (some ⟨g, 0, none⟩) n cap) n xs)
    (ad : Addr) (m c : Nat) (news : List Value) (hx : act.eval x = .slice (some ad) m c) (hl : news.length = m * 1) (hnews : ∀ j u, news[j]? = some u → w.cell? (ad.add j) = some u) (h1 : ∀ u ∈ news, u.oneCell' = true)
    (h63 : n + m ≤ maxLen) (hbytes : (n + m) * bytes ≤ 140737488355328) (hbase : base ≤ w.heap.size)
    (h : ∀ v' w', w'.ownsRow base e 1 v' (n + m) (xs ++ news) → w.grownBy w' (some g) → (v' = .slice (some ⟨g, 0, none⟩) (n + m) cap ∨ (v'.ownBlock = some w.heap.size ∧ ∀ j, j < w.heap.size → w'.heap[j]? = w.heap[j]?)) → wpList P ops Q rest (act.put o.dst v') w') :
    wpList P ops Q (o :: rest) act w := by
  refine wpList_plain hgd fun K hK => ?_
  obtain ⟨v', w', hr, h2, h3, h4⟩ := run_append_two (P := P) w base t o.type e i z bytes ht hi hz hsize hby hzs g n cap xs hown ad m c news hl hnews h1 h63 hbytes hbase
  unfold Oper.wp execOp
  simp only [ho, resolve, invoke, builtin, Sem.run_bind, Sem.run_pure, Result.andThen_ok, List.map_toArray, List.map_cons, List.map_nil, hs, hx, hr]
  exact hK _ _ (h v' w' h2 h3 h4)
end Go.Proofs.YtappphffbnkloaaGreatDoor.Sht

/- Feed, walked. -/
import Derived.Test.YtappphffbnkloaaGreatDoorShtJ
import Derived.Test.YtappphffbnkloaaGreatDoorShtN
import Derived.Deep.RegionWith
set_option linter.unusedVariables false
set_option linter.unusedSimpArgs false
namespace Go.Proofs.YtappphffbnkloaaGreatDoor.Sht
open Go Go.RowKit Go.Joins
attribute [local go_sem ↓] Go.wp_at_zero Go.wp_at_succ
variable {A : Nat → Addr} {W0 W : World} {b : Nat} {s : RS}
/-- rows that were told: nobody else's -/
def ToldAt (W0 W : World) (b : Nat) (v : Value) (rs : List (List (List UInt8))) : Prop :=
  ∃ lv, W.ownsRow W0.heap.size 28 1 v rs.length lv ∧ RowsAt W W0.heap.size lv rs ∧ (ob v ++ lv.flatMap ob).Nodup ∧ ∀ j ∈ ob v ++ lv.flatMap ob, ¬ wr W b j
/-- an error that was told -/
def ErrAt (W : World) (B : Nat) (A : Nat → Addr) (b : Nat) (v : Value) (f : Option (Nat × Nat × Nat)) : Prop := FaultAt W B A v f ∧ ∀ j ∈ fb v, ¬ wr W b j
def Fed (A : Nat → Addr) (W0 W : World) (b : Nat) (s : RS) (e : Ending) (w' : World) : Prop :=
  ∃ vl ve, e = .returned (.tuple #[vl, ve]) ∧ R A W0 w' b { s with rows := [] } ∧ ToldAt W0 w' b vl s.rows ∧ ErrAt w' W.heap.size A b ve s.fault ∧ Fr b W w'
/-- the bytes of a piece -/
def Piece (W : World) (g off : Nat) (l : List UInt8) : Prop := ∀ i (h : i < l.length), W.cell? ⟨g, off + i, none⟩ = some (ch l[i])
theorem isDone {vc vr vl fl : Value} {lv : List Value} (hF : SF W0 A) (h : RD A W0 W b s vc vr vl fl lv) (hd : ∀ l c, s.fault ≠ some (l, c, 9)) (w : World) (hw : w.heap = W.heap) :
    Calls Tryz.prog 27 #[fl, errV A 9] w fun e w' => e = .returned (.bool false) ∧ w' = w := by
  have hf := h.flt
  have hS := hF.below h.below
  cases hs : s.fault with
  | none =>
    rw [hs] at hf
    simp only [FaultAt] at hf
    subst hf
    exact (is_nil _ w).mono fun e w' ⟨h1, h2⟩ => ⟨h1, h2.symm⟩
  | some f =>
    obtain ⟨l, c, e⟩ := f
    rw [hs] at hf
    obtain ⟨hc, g, _, rfl, hg⟩ := hf
    have hne : e ≠ 9 := fun q => hd l c (by rw [hs, q])
    obtain ⟨ca, ta, ha⟩ := hS.hb e hc
    obtain ⟨cb, tb, hb⟩ := hS.hb 9 (cod (by omega))
    exact (is_fault_no g (A e) (A 9) (I l) (I c) ca cb ta tb w (by rw [hw]; exact hg) (hS.hn e 9 hc (cod (by omega)) hne) (by rw [hw]; exact ha) (by rw [hw]; exact hb)).mono fun e w' ⟨h1, h2⟩ => ⟨h1, h2.symm⟩
/-- the end of a Feed and of a Close -/
theorem again_r {vc vr vl fl : Value} {lv : List Value} (hE : ET W0) (h : RD A W0 W b s vc vr vl fl lv) :
    Calls Tryz.prog 38 #[fl] W fun e w' => ∃ ve, e = .returned ve ∧ FaultAt w' W.heap.size A ve s.fault ∧ Below W.heap.size W w' := by
  have hf := h.flt
  cases hs : s.fault with
  | none =>
    rw [hs] at hf
    simp only [FaultAt] at hf
    subst hf
    exact (again_nil W).mono fun e w' ⟨h1, h2⟩ => ⟨_, h1, rfl, h2⟩
  | some f =>
    obtain ⟨l, c, e⟩ := f
    rw [hs] at hf
    obtain ⟨hc, g, _, rfl, hg⟩ := hf
    refine (again_some g l c (A e) W (hE.below h.below) hg).mono ?_
    rintro e' w' ⟨g', h1, h2, h3, h4⟩
    exact ⟨_, h2, ⟨hc, g', h1, rfl, h3⟩, h4⟩
theorem Fr.of_below {w w' : World} (hb : b < w.heap.size) (h : Below w.heap.size w w') : Fr b w w' :=
  ⟨h.os, h.tape, h.output, h.size, fun j hj _ => h.block j hj, fun j hj => by
    rcases hj with e | ⟨o, v, ho, h1, h2⟩
    · exact .inl (.inl e)
    · exact .inl (.inr ⟨o, v, ho, (h.cell (p := ⟨b, o, none⟩) hb).symm.trans h1, h2⟩)⟩
theorem wr_below {w w' : World} (hb : b < w.heap.size) (h : Below w.heap.size w w') (j : Nat) (hj : wr w' b j) : wr w b j := by
  rcases hj with e | ⟨o, v, ho, h1, h2⟩
  · exact .inl e
  · exact .inr ⟨o, v, ho, (h.cell (p := ⟨b, o, none⟩) hb).symm.trans h1, h2⟩
theorem fed_of {vc vr vl fl ve : Value} {lv : List Value} {w' : World} (h : RD A W0 W b s vc vr vl fl lv) (hf : FaultAt w' W.heap.size A ve s.fault) (k : Below W.heap.size (W.setCell ⟨b, 9, none⟩ (.slice none 0 0)) w') : Fed A W0 W b s (.returned (.tuple #[vl, ve])) w' := by
  have ht := h.told
  have hz : (W.setCell ⟨b, 9, none⟩ (.slice none 0 0)).heap.size = W.heap.size := setSize _ _ _
  have k' : Below (W.setCell ⟨b, 9, none⟩ (.slice none 0 0)).heap.size (W.setCell ⟨b, 9, none⟩ (.slice none 0 0)) w' := by rw [hz]; exact k
  have hbl : b < (W.setCell ⟨b, 9, none⟩ (.slice none 0 0)).heap.size := by rw [hz]; exact h.lt
  have hd := h.dis
  have hall := h.all_lt
  have hnb : ∀ j ∈ ob vl ++ lv.flatMap ob, j ≠ b ∧ j ∉ ob vc ∧ j ∉ ob vr := by
    intro j hj
    simp only [List.nodup_cons, List.nodup_append, List.mem_append] at hd hj
    refine ⟨fun e => hd.1 (by rcases hj with hj | hj; exact .inr (.inr (.inl (e ▸ hj))); exact .inr (.inr (.inr (.inr (e ▸ hj))))), fun e => ?_, fun e => ?_⟩
    · exact hd.2.2.2 j e j (by rcases hj with hj | hj; exact .inr (.inl hj); exact .inr (.inr (.inr hj))) rfl
    · exact hd.2.2.1.2.2 j e j (by rcases hj with hj | hj; exact .inl hj; exact .inr (.inr hj)) rfl
  have hsame : ∀ j ∈ ob vl ++ lv.flatMap ob, w'.heap[j]? = W.heap[j]? := fun j hj => by
    have hlt : j < W.heap.size := hall j (by simp only [List.mem_cons, List.mem_append] at hj ⊢; rcases hj with hj | hj; exact .inr (.inr (.inr (.inl hj))); exact .inr (.inr (.inr (.inr (.inr hj)))))
    exact (k.block j hlt).trans (Below.heap_setCell W ⟨b, 9, none⟩ _ j (hnb j hj).1)
  refine ⟨vl, ve, rfl, R.mk (ht.kept (k.mono h.below.size) (fun j hj => k'.block j (ht.all_lt j hj))), ⟨lv, ownsRow_kept h.hl fun j hj => hsame j (List.mem_append_left _ (mem_ob.2 hj)), rowsAt_kept h.rws fun j hj => hsame j (List.mem_append_right _ hj), ?_, fun j hj hw => ?_⟩, ⟨hf, fun j hj hw => ?_⟩, h.told_fr.trans (Fr.of_below hbl k')⟩
  · refine List.Nodup.sublist ?_ hd
    refine List.Sublist.cons _ ?_
    refine List.Sublist.trans ?_ (List.sublist_append_right _ _)
    refine List.Sublist.trans ?_ (List.sublist_append_right _ _)
    exact List.Sublist.append (List.Sublist.refl _) (List.sublist_append_right _ _)
  · have := wr_below hbl k' j hw
    rw [ht.wr_iff] at this
    obtain ⟨n1, n2, n3⟩ := hnb j hj
    rcases this with e | e | e | e
    · exact n1 e
    · exact n2 (mem_ob.2 e)
    · exact n3 (mem_ob.2 e)
    · simp [Value.ownBlock] at e
  · have hw2 := wr_below hbl k' j hw
    rw [ht.wr_iff] at hw2
    have hge : W.heap.size ≤ j := by
      cases hs : s.fault with
      | none => rw [hs] at hf; simp only [FaultAt] at hf; subst hf; simp [fb] at hj
      | some f =>
        obtain ⟨l, c, e⟩ := f
        rw [hs] at hf
        obtain ⟨_, g, hg, rfl, _⟩ := hf
        simp only [fb, List.mem_singleton] at hj
        omega
    rcases hw2 with e | e | e | e
    · have := h.lt; omega
    · have := hall j (by simp only [List.mem_cons, List.mem_append]; exact .inr (.inl (mem_ob.2 e))); omega
    · have := hall j (by simp only [List.mem_cons, List.mem_append]; exact .inr (.inr (.inl (mem_ob.2 e)))); omega
    · simp [Value.ownBlock] at e
theorem fed_mono {w : World} {e : Ending} {w' : World} (h : Fed A W0 w b s e w') (k : Fr b W w) : Fed A W0 W b s e w' := by
  obtain ⟨vl, ve, h1, h2, h3, ⟨h4, h5⟩, h6⟩ := h
  refine ⟨vl, ve, h1, h2, h3, ⟨?_, h5⟩, k.trans h6⟩
  cases hs : s.fault with
  | none => rw [hs] at h4; exact h4
  | some f =>
    obtain ⟨l, c, e⟩ := f
    rw [hs] at h4
    obtain ⟨q1, g, q2, q3⟩ := h4
    exact ⟨q1, g, Nat.le_trans k.size q2, q3⟩
/-- what the last statement of Feed and of Close wants -/
theorem RD.ends {vc vr vl fl : Value} {lv : List Value} (hE : ET W0) (h : RD A W0 W b s vc vr vl fl lv) :
    (∃ a n c, vl = .slice a n c) ∧ (Calls Tryz.prog 37 #[PT b] W.drew fun e w' => e = .returned vl ∧ w' = W.drew.setCell ⟨b, 9, none⟩ (.slice none 0 0)) ∧
    (Calls Tryz.prog 38 #[fl] (W.setCell ⟨b, 9, none⟩ (.slice none 0 0)).drew fun e w' => ∃ ve, e = .returned ve ∧ FaultAt w' W.heap.size A ve s.fault ∧ Below W.heap.size (W.setCell ⟨b, 9, none⟩ (.slice none 0 0)) w') := by
  have hv : ∃ a n c, vl = .slice a n c := by
    rcases ownsRow_forms h.hl with ⟨e, _⟩ | ⟨g, cap, e⟩
    · exact ⟨_, _, _, e⟩
    · exact ⟨_, _, _, e⟩
  obtain ⟨_, _, _, _, _, _, _, _, _, c9, _, _, _⟩ := h.cells
  obtain ⟨_, _, _, _, _, _, _, _, _, f9, _, _, _⟩ := h.free
  refine ⟨hv, told_any (W := W.drew) vl hv c9 f9, ?_⟩
  refine (again_r hE h.told.drew).mono ?_
  rintro e w' ⟨ve, h1, h2, h3⟩
  rw [show (W.setCell ⟨b, 9, none⟩ (.slice none 0 0)).drew.heap.size = W.heap.size from setSize _ _ _] at h2 h3
  exact ⟨ve, h1, h2, ⟨h3.os, h3.tape, h3.output, h3.size, h3.block⟩⟩
end Go.Proofs.YtappphffbnkloaaGreatDoor.Sht

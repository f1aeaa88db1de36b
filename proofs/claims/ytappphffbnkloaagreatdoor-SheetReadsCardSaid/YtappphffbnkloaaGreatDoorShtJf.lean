-- joined out of the texts ShtGm ShtAt ShtAr
import Derived.Test.YtappphffbnkloaaGreatDoorShtJe
import Derived.Test.YtappphffbnkloaaGreatDoorShtJd
import Derived.Deep.AppendLies
import Derived.Test.YtappphffbnkloaaGreatDoorGSxf56
import Derived.Test.YtappphffbnkloaaGreatDoorGSxf61
set_option linter.unusedVariables false
set_option linter.unusedSimpArgs false
namespace Go.Proofs.YtappphffbnkloaaGreatDoor.Sht
open Go Go.RowKit
def mk (k : Nat) : Value := .string (noteB k)
/-- rows alone are written -/
structure Rw (n : Nat) (V : Nat → Value) (w w' : World) : Prop where
  os : w'.os = w.os
  tape : w'.tape = w.tape
  output : w'.output = w.output
  size : w.heap.size ≤ w'.heap.size
  keep : ∀ j, j < w.heap.size → (∀ i, i < n → (V i).ownBlock ≠ some j) → w'.heap[j]? = w.heap[j]?
theorem Rw.refl (n : Nat) (V : Nat → Value) (w : World) : Rw n V w w := ⟨rfl, rfl, rfl, Nat.le_refl _, fun _ _ _ => rfl⟩
theorem Rw.below {n : Nat} {V : Nat → Value} {u v w : World} (h : Rw n V u v) (k : Below v.heap.size v w) : Rw n V u w :=
  ⟨k.os.trans h.os, k.tape.trans h.tape, k.output.trans h.output, Nat.le_trans h.size k.size, fun j hj hn => (k.block j (Nat.lt_of_lt_of_le hj h.size)).trans (h.keep j hj hn)⟩
theorem Rw.set {n : Nat} {V : Nat → Value} {u v : World} (h : Rw n V u v) {i g c m : Nat} (hi : i < n) (hV : V i = .slice (some ⟨g, 0, none⟩) m c) (o : Nat) (x : Value) : Rw n V u (v.setCell ⟨g, o, none⟩ x) :=
  ⟨h.os, h.tape, h.output, by rw [setSize]; exact h.size, fun j hj hn => (Below.heap_setCell v ⟨g, o, none⟩ x j (fun e => hn i hi (by rw [hV]; have : j = g := e; rw [this]; rfl))).trans (h.keep j hj hn)⟩
theorem kset {w : World} {gt k g j : Nat} {u v : Value} (hne : gt ≠ g) (h : w.cell? ⟨gt, k, none⟩ = some v) : (w.setCell ⟨g, j, none⟩ u).cell? ⟨gt, k, none⟩ = some v := (World.cell?_of_block (w := w) (Below.heap_setCell w ⟨g, j, none⟩ u gt hne)).trans h
theorem upd_same {α : Type} (f : Nat → α) (i : Nat) : upd f i (f i) = f := by
  funext k
  unfold upd
  split
  · rename_i e
    rw [e]
  · rfl
theorem rows_set {e0 e : TypeId} {v0 : Value} {c0 : List Value} {n k j : Nat} {V : Nat → Value} {E : Nat → List Value} {L : List En} (M : Nat → Value) (hk : k < n) (hj : j < (E k).length) :
    ((e0, v0, c0) :: (rowsE e n V (over M E k j) ++ L)).set (k + 1) (e, V k, (over M E k j k).set j (M k)) = (e0, v0, c0) :: (rowsE e n V (over M E k (j + 1)) ++ L) := by
  rw [List.set_cons_succ, List.set_append_left _ _ (by rw [rowsE_len]; exact hk), rowsE_set hk, upd_same, over_set M E k j hj]
theorem Rw.alloc {n : Nat} {V : Nat → Value} {u v : World} (h : Rw n V u v) (o : Obj) : Rw n V u (v.alloc o) := h.below ((Below.refl _ _).alloc (Nat.le_refl _) o)
theorem Rw.grown {n : Nat} {V : Nat → Value} {u v v' : World} {row : Option Nat} (h : Rw n V u v) (hg : v.grownBy v' row) (hb : ∀ g, row = some g → (∃ i, i < n ∧ (V i).ownBlock = some g) ∨ u.heap.size ≤ g) : Rw n V u v' :=
  ⟨hg.os.trans h.os, hg.tape.trans h.tape, hg.output.trans h.output, Nat.le_trans h.size hg.size, fun j hj hn => (hg.block j (Nat.lt_of_lt_of_le hj h.size) (fun e => by
    rcases hb j e.symm with ⟨i, hi, q⟩ | q
    · exact hn i hi q
    · omega)).trans (h.keep j hj hn)⟩
/-- a list that grows lies in its place, or its old cells lie beside it -/
def LeftOf (e : TypeId) (S : Nat) (V : Nat → Value) (len : Nat → Nat) (Mk : Nat → Value → Prop) (X : List En) (i g c : Nat) : Prop :=
  (V i = .slice (some ⟨g, 0, none⟩) (len i) c) ∨ (S ≤ g ∧ ∃ g' c' xs, V i = .slice (some ⟨g', 0, none⟩) (len i) c' ∧ (e, .slice (some ⟨g', 0, none⟩) xs.length c', xs) ∈ X ∧ len i ≤ xs.length ∧ ∀ u ∈ xs, Mk i u) ∨ (S ≤ g ∧ len i = 0)
theorem LeftOf.mono {e : TypeId} {S : Nat} {V : Nat → Value} {len : Nat → Nat} {Mk Mk' : Nat → Value → Prop} {X X' : List En} {i g c : Nat} (h : LeftOf e S V len Mk X i g c) (hX : ∀ x ∈ X, x ∈ X') (hM : ∀ u, Mk i u → Mk' i u) : LeftOf e S V len Mk' X' i g c := by
  rcases h with h | ⟨h1, g', c, xs, h2, h3, h4, h5⟩ | h
  · exact .inl h
  · exact .inr (.inl ⟨h1, g', c, xs, h2, hX _ h3, h4, fun u hu => hM u (h5 u hu)⟩)
  · exact .inr (.inr h)
def DoneTo (e : TypeId) (S : Nat) (V : Nat → Value) (len : Nat → Nat) (Mk : Nat → Value → Prop) (X : List En) (k : Nat) (M : Nat → Value) : Prop :=
  ∀ i, i < k → ∃ g c, M i = .slice (some ⟨g, 0, none⟩) (len i + 9) c ∧ LeftOf e S V len Mk X i g c
theorem DoneTo.mono {e : TypeId} {S : Nat} {V : Nat → Value} {len : Nat → Nat} {Mk Mk' : Nat → Value → Prop} {X X' : List En} {k : Nat} {M : Nat → Value} (h : DoneTo e S V len Mk X k M) (hX : ∀ x ∈ X, x ∈ X') (hM : ∀ i u, Mk i u → Mk' i u) : DoneTo e S V len Mk' X' k M := fun i hi => by
  obtain ⟨g, c, h1, h2⟩ := h i hi
  exact ⟨g, c, h1, h2.mono hX (hM i)⟩
/-- the inner loop: j marks have been appended to list k -/
def GrowI (e : TypeId) (S B n : Nat) (V : Nat → Value) (len : Nat → Nat) (Mk : Nat → Value → Prop) (L H : List En) (k : Nat) (M : Nat → Value) (j : Nat) (w : World) (m : Value) (g c : Nat) (X : List En) (E : Nat → List Value) : Prop :=
  m = .slice (some ⟨g, 0, none⟩) (len k + j) c ∧ OwnsAll w B (H ++ (rowsE e n (upd (gV V M k) k m) E ++ (X ++ L))) ∧ (∀ i, i < n → (E i).length = if i < k then len i + 9 else if i = k then len k + j else len i) ∧ (∀ i, i < n → ∀ u ∈ E i, Mk i u) ∧ DoneTo e S V len Mk X k M ∧ LeftOf e S V len Mk X k g c
theorem upd_len {α : Type} (E : Nat → List α) (k i : Nat) (xs : List α) : (upd E k xs i).length = if i = k then xs.length else (E i).length := by
  unfold upd
  split <;> rfl
section
variable {e : TypeId} {S B n : Nat} {V M : Nat → Value} {len : Nat → Nat} {Mk Mk' : Nat → Value → Prop} {L H X : List En} {k j : Nat} {w w' : World} {m v' : Value} {g c : Nat} {E : Nat → List Value}
theorem GrowI.at (h : GrowI e S B n V len Mk L H k M j w m g c X E) (hk : k < n) : (H ++ (rowsE e n (upd (gV V M k) k m) E ++ (X ++ L)))[H.length + k]? = some (e, .slice (some ⟨g, 0, none⟩) (len k + j) c, E k) := by
  rw [List.getElem?_append_right (by omega), Nat.add_sub_cancel_left, List.getElem?_append_left (by rw [rowsE_len]; exact hk), rowsE_get hk, upd_at, h.1]
theorem GrowI.ek (h : GrowI e S B n V len Mk L H k M j w m g c X E) (hk : k < n) : (E k).length = len k + j := by
  rw [h.2.2.1 k hk, if_neg (Nat.lt_irrefl _), if_pos rfl]
theorem GrowI.own (h : GrowI e S B n V len Mk L H k M j w m g c X E) (hk : k < n) : w.ownsRow B e 1 (.slice (some ⟨g, 0, none⟩) (len k + j) c) (len k + j) (E k) := by
  have := h.2.1.own_at (h.at hk)
  rw [h.ek hk] at this
  exact this
theorem GrowI.below (h : GrowI e S B n V len Mk L H k M j w m g c X E) (b : Below w.heap.size w w') : GrowI e S B n V len Mk L H k M j w' m g c X E := ⟨h.1, h.2.1.below b, h.2.2⟩
theorem GrowI.marks (h : GrowI e S B n V len Mk L H k M j w m g c X E) (hM : ∀ i u, Mk i u → Mk' i u) : GrowI e S B n V len Mk' L H k M j w m g c X E :=
  ⟨h.1, h.2.1, h.2.2.1, fun i hi u hu => hM i u (h.2.2.2.1 i hi u hu), h.2.2.2.2.1.mono (fun _ q => q) hM, h.2.2.2.2.2.mono (fun _ q => q) (hM k)⟩
theorem GrowI.row (h : GrowI e S B n V len Mk L H k M j w m g c X E) (hk : k < n) : (∃ i, i < n ∧ (V i).ownBlock = some g) ∨ S ≤ g := by
  rcases h.2.2.2.2.2 with q | ⟨q, _⟩ | ⟨q, _⟩
  · exact .inl ⟨k, hk, by rw [q]; rfl⟩
  · exact .inr q
  · exact .inr q
theorem set_mid (H L : List En) (hk : k < n) (x : Value) (xs : List Value) {Vf : Nat → Value} : (H ++ (rowsE e n Vf E ++ L)).set (H.length + k) (e, x, xs) = H ++ (rowsE e n (upd Vf k x) (upd E k xs) ++ L) := by
  rw [List.set_append_right _ _ (by omega), Nat.add_sub_cancel_left, List.set_append_left _ _ (by rw [rowsE_len]; exact hk), rowsE_set hk]
/-- one append -/
theorem GrowI.step {o : Obj} {u : Value} (h : GrowI e S B n V len Mk L H k M j w m g c X E) (hk : k < n) (hS : S ≤ w.heap.size) (hu : Mk k u) (ho : w'.ownsRow B e 1 v' (len k + j + 1) (E k ++ [u])) (hg : (w.alloc o).grownBy w' (some g))
    (hv : v' = .slice (some ⟨g, 0, none⟩) (len k + j + 1) c ∨ (v'.ownBlock = some (w.alloc o).heap.size ∧ ∀ i, i < (w.alloc o).heap.size → w'.heap[i]? = (w.alloc o).heap[i]?)) : ∃ g' c' X' E', GrowI e S B n V len Mk L H k M (j + 1) w' v' g' c' X' E' := by
  have hat := h.at hk
  have hek := h.ek hk
  have ho' : w'.ownsRow B e 1 v' ((E k).length + 1) (E k ++ [u]) := by rw [hek]; exact ho
  obtain ⟨h1, h2, h3, h4, h5, h6⟩ := h
  have hl : ∀ i, i < n → (upd E k (E k ++ [u]) i).length = if i < k then len i + 9 else if i = k then len k + (j + 1) else len i := fun i hi => by
    rw [upd_len]
    by_cases q : i = k
    · subst q
      rw [if_pos rfl, if_neg (Nat.lt_irrefl _), if_pos rfl, List.length_append, hek]
      rfl
    · rw [if_neg q, h3 i hi, if_neg q, if_neg q]
  have hm : ∀ i, i < n → ∀ x ∈ upd E k (E k ++ [u]) i, Mk i x := fun i hi x hx => by
    unfold upd at hx
    by_cases q : i = k
    · subst q
      rw [if_pos rfl] at hx
      rcases List.mem_append.1 hx with hx | hx
      · exact h4 i hi x hx
      · rw [List.mem_singleton.1 hx]
        exact hu
    · rw [if_neg q] at hx
      exact h4 i hi x hx
  rcases hv with rfl | ⟨hb, hkeep⟩
  · refine ⟨g, c, X, upd E k (E k ++ [u]), rfl, ?_, hl, hm, h5, h6⟩
    have := h2.grow_at (news := [u]) hat rfl ho' hg (.inl rfl)
    rw [set_mid H _ hk, upd_upd] at this
    exact this
  · obtain ⟨g', c', rfl, -, -⟩ := World.ownsRow.form ho (by omega)
    refine ⟨g', c', (e, .slice (some ⟨g, 0, none⟩) (len k + j) c, E k) :: X, upd E k (E k ++ [u]), rfl, ?_, hl, hm, h5.mono (fun _ q => List.mem_cons_of_mem _ q) (fun _ _ q => q), ?_⟩
    · have := h2.move_at (news := [u]) hat rfl ho' hb hkeep
      rw [set_mid H _ hk, upd_upd] at this
      refine this.perm ?_
      have e1 : ∀ (x : En) (P Q R : List En), (x :: (P ++ (Q ++ R))).Perm (P ++ (Q ++ (x :: R))) := fun x P Q R => by
        rw [← List.append_assoc, ← List.append_assoc]
        exact List.perm_middle.symm
      exact e1 _ _ _ _
    · right
      have e1 : g' = (w.alloc o).heap.size := Option.some.inj hb
      have e2 : S ≤ g' := by rw [e1]; simp; omega
      rcases h6 with q | ⟨_, g0, c0, xs, q1, q2, q3, q4⟩ | ⟨_, q⟩
      · refine .inl ⟨e2, g, c, E k, q, ?_, by omega, h4 k hk⟩
        rw [hek]
        exact List.mem_cons_self
      · exact .inl ⟨e2, g0, c0, xs, q1, List.mem_cons_of_mem _ q2, q3, q4⟩
      · exact .inr ⟨e2, q⟩
/-- the outer loop: k lists have grown -/
def Grow (e e1 : TypeId) (S B n : Nat) (V : Nat → Value) (len : Nat → Nat) (Mk : Nat → Value → Prop) (L : List En) (tv : Value) (T : List Value) (k : Nat) (w : World) (more : Value) (M : Nat → Value) (X : List En) (E : Nat → List Value) : Prop :=
  OwnsAll w B ((e1, more, (List.range k).map M) :: (e1, tv, T) :: (rowsE e n (gV V M k) E ++ (X ++ L))) ∧ (∀ i, i < n → (E i).length = if i < k then len i + 9 else len i) ∧ (∀ i, i < n → ∀ u ∈ E i, Mk i u) ∧ DoneTo e S V len Mk X k M ∧ (∀ j, more.ownBlock = some j → S ≤ j)
theorem Grow.begin {e e1 : TypeId} {tv : Value} {T : List Value} {more : Value} (h : Grow e e1 S B n V len Mk L tv T k w more M X E) (hk : k < n) {g c : Nat} (hV : V k = .slice (some ⟨g, 0, none⟩) (len k) c) :
    GrowI e S B n V len Mk L ((e1, more, (List.range k).map M) :: (e1, tv, T) :: []) k M 0 w (V k) g c X E := by
  obtain ⟨h1, h2, h3, h4, h5⟩ := h
  refine ⟨hV, ?_, fun i hi => ?_, h3, h4, .inl hV⟩
  · rw [← gV_at V M k, upd_same]
    exact h1
  · rw [h2 i hi]
    by_cases q : i = k
    · subst q
      rw [if_neg (Nat.lt_irrefl _), if_neg (Nat.lt_irrefl _), if_pos rfl]
      rfl
    · rw [if_neg q]
theorem Grow.next {e e1 : TypeId} {tv : Value} {T : List Value} {more more' : Value} {o : Obj} (h : GrowI e S B n V len Mk L ((e1, more, (List.range k).map M) :: (e1, tv, T) :: []) k M 9 w m g c X E) (hk : k < n) (hS : S ≤ w.heap.size) (hmo : ∀ j, more.ownBlock = some j → S ≤ j)
    (ho : w'.ownsRow B e1 1 more' (k + 1) ((List.range k).map M ++ [m])) (hg : (w.alloc o).grownBy w' more.ownBlock) (hb : more'.ownBlock = more.ownBlock ∨ more'.ownBlock = some (w.alloc o).heap.size) :
    Grow e e1 S B n V len Mk L tv T (k + 1) w' more' (upd M k m) X E := by
  obtain ⟨h1, h2, h3, h4, h5, h6⟩ := h
  have hz : (w.alloc o).heap.size = w.heap.size + 1 := by simp
  refine ⟨?_, fun i hi => ?_, h4, fun i hi => ?_, fun j hj => ?_⟩
  · have := (show OwnsAll w B ((e1, more, (List.range k).map M) :: (e1, tv, T) :: (rowsE e n (upd (gV V M k) k m) E ++ (X ++ L))) from h2).grow1 (news := [m]) (m := 1) rfl (by simpa using ho) hg hb
    rw [range_next, gV_next] at this
    exact this
  · rw [h3 i hi]
    by_cases q : i = k
    · subst q
      rw [if_neg (Nat.lt_irrefl _), if_pos rfl, if_pos (Nat.lt_succ_self _)]
    · by_cases q2 : i < k
      · rw [if_pos q2, if_pos (by omega)]
      · rw [if_neg q2, if_neg q, if_neg (by omega)]
  · by_cases q : i = k
    · subst q
      exact ⟨g, c, by rw [upd_at]; exact h1, h6⟩
    · obtain ⟨g', c', q1, q2⟩ := h5 i (by omega)
      exact ⟨g', c', by unfold upd; rw [if_neg q]; exact q1, q2⟩
  · rcases hb with q | q
    · exact hmo j (q ▸ hj)
    · rw [q] at hj
      have := Option.some.inj hj
      omega
/-- what the third loop reads -/
theorem Grow.cells {e e1 : TypeId} {tv : Value} {more : Value} (h : Grow e e1 S B n V len Mk L tv ((List.range n).map V) n w more M X E) (i : Nat) (hi : i < n) (h0 : 0 < len i) : ∃ ga ca gb cb gc cc gd cd : Nat, more = .slice (some ⟨ga, 0, none⟩) n ca ∧ tv = .slice (some ⟨gb, 0, none⟩) n cb ∧ w.cell? ⟨ga, i, none⟩ = some (.slice (some ⟨gc, 0, none⟩) (len i + 9) cc) ∧
    (∀ j, j < len i + 9 → ∃ u, w.cell? ⟨gc, j, none⟩ = some u ∧ Mk i u) ∧ w.cell? ⟨gb, i, none⟩ = some (.slice (some ⟨gd, 0, none⟩) (len i) cd) ∧ (∀ j, j < len i → ∃ u, w.cell? ⟨gd, j, none⟩ = some u ∧ Mk i u) ∧ len i + 9 ≤ 9223372036854775807 := by
  obtain ⟨h1, h2, h3, h4, h5⟩ := h
  have hr : ((List.range n).map M).length = n := by simp
  have hrv : ((List.range n).map V).length = n := by simp
  obtain ⟨ga, ca, ea, _, za⟩ := own_read (show w.ownsRow B e1 1 more ((List.range n).map M).length ((List.range n).map M) from h1.head) (i := i) (by rw [hr]; exact hi)
  obtain ⟨gb, cb, eb, _, zb⟩ := own_read (show w.ownsRow B e1 1 tv ((List.range n).map V).length ((List.range n).map V) from h1.tail.head) (i := i) (by rw [hrv]; exact hi)
  obtain ⟨gc, cc, eM, hL⟩ := h4 i hi
  have hE := h2 i hi
  rw [if_pos hi] at hE
  have hin : (e, M i, E i) ∈ ((e1, more, (List.range n).map M) :: (e1, tv, (List.range n).map V) :: (rowsE e n (gV V M n) E ++ (X ++ L))) := by
    refine List.mem_cons_of_mem _ (List.mem_cons_of_mem _ (List.mem_append_left _ ?_))
    have := List.mem_of_getElem? (rowsE_get (e := e) (V := gV V M n) (E := E) hi)
    unfold gV at this
    rw [if_pos hi] at this
    exact this
  have hoM : w.ownsRow B e 1 (M i) (E i).length (E i) := h1.own _ hin
  obtain ⟨gc', cc', e2, _, zc⟩ := own_read hoM (i := 0) (by omega)
  have hmx : len i + 9 ≤ 9223372036854775807 := by
    have o := hoM
    rw [eM, hE] at o
    have := own_le' o
    omega
  have eg : gc' = gc := by
    rw [eM] at e2
    injection e2 with e2 _ _
    injection e2 with e2
    injection e2 with e2 _ _
    exact e2.symm
  subst eg
  have hMc : ∀ j, j < len i + 9 → ∃ u, w.cell? ⟨gc', j, none⟩ = some u ∧ Mk i u := fun j hj => by
    have hj' : j < (E i).length := by omega
    exact ⟨_, zc j _ (List.getElem?_eq_getElem hj'), h3 i hi _ (List.getElem_mem hj')⟩
  have za' := za i (M i) (by rw [List.getElem?_map, List.getElem?_range hi]; rfl)
  have zb' := zb i (V i) (by rw [List.getElem?_map, List.getElem?_range hi]; rfl)
  rw [hr] at ea
  rw [hrv] at eb
  rcases hL with q | ⟨_, g', c', xs, q1, q2, q3, q4⟩ | ⟨_, q⟩
  · exact ⟨ga, ca, gb, cb, gc', cc, gc', cc, ea, eb, by rw [za', eM], hMc, by rw [zb', q], fun j hj => hMc j (by omega), hmx⟩
  · have hoX : w.ownsRow B e 1 (.slice (some ⟨g', 0, none⟩) xs.length c') xs.length xs := h1.own _ (List.mem_cons_of_mem _ (List.mem_cons_of_mem _ (List.mem_append_right _ (List.mem_append_left _ q2))))
    obtain ⟨gx, cx, e3, _, zx⟩ := own_read hoX (i := 0) (by omega)
    have eg : gx = g' := by
      injection e3 with e3 _ _
      injection e3 with e3
      injection e3 with e3 _ _
      exact e3.symm
    subst eg
    exact ⟨ga, ca, gb, cb, gc', cc, gx, c', ea, eb, by rw [za', eM], hMc, by rw [zb', q1], fun j hj => ⟨_, zx j _ (List.getElem?_eq_getElem (by omega : j < xs.length)), q4 _ (List.getElem_mem _)⟩, hmx⟩
  · omega
/-- the same where a list may be empty -/
theorem Grow.cells0 {e e1 : TypeId} {tv : Value} {more : Value} (h : Grow e e1 S B n V len Mk L tv ((List.range n).map V) n w more M X E) (hV : ∀ i, i < n → (∃ g c, V i = .slice (some ⟨g, 0, none⟩) (len i) c) ∨ (len i = 0 ∧ V i = .slice none 0 0)) (i : Nat) (hi : i < n) : ∃ (ga ca gb cb gc cc : Nat) (ax : Option Addr) (cd : Nat), more = .slice (some ⟨ga, 0, none⟩) n ca ∧ tv = .slice (some ⟨gb, 0, none⟩) n cb ∧ w.cell? ⟨ga, i, none⟩ = some (.slice (some ⟨gc, 0, none⟩) (len i + 9) cc) ∧
    (∀ j, j < len i + 9 → ∃ u, w.cell? ⟨gc, j, none⟩ = some u ∧ Mk i u) ∧ w.cell? ⟨gb, i, none⟩ = some (.slice ax (len i) cd) ∧ (∀ j, j < len i → ∃ gd u, ax = some ⟨gd, 0, none⟩ ∧ w.cell? ⟨gd, j, none⟩ = some u ∧ Mk i u) ∧ len i + 9 ≤ 9223372036854775807 := by
  obtain ⟨h1, h2, h3, h4, h5⟩ := h
  have hr : ((List.range n).map M).length = n := by simp
  have hrv : ((List.range n).map V).length = n := by simp
  obtain ⟨ga, ca, ea, _, za⟩ := own_read (show w.ownsRow B e1 1 more ((List.range n).map M).length ((List.range n).map M) from h1.head) (i := i) (by rw [hr]; exact hi)
  obtain ⟨gb, cb, eb, _, zb⟩ := own_read (show w.ownsRow B e1 1 tv ((List.range n).map V).length ((List.range n).map V) from h1.tail.head) (i := i) (by rw [hrv]; exact hi)
  obtain ⟨gc, cc, eM, hL⟩ := h4 i hi
  have hE := h2 i hi
  rw [if_pos hi] at hE
  have hin : (e, M i, E i) ∈ ((e1, more, (List.range n).map M) :: (e1, tv, (List.range n).map V) :: (rowsE e n (gV V M n) E ++ (X ++ L))) := by
    refine List.mem_cons_of_mem _ (List.mem_cons_of_mem _ (List.mem_append_left _ ?_))
    have := List.mem_of_getElem? (rowsE_get (e := e) (V := gV V M n) (E := E) hi)
    unfold gV at this
    rw [if_pos hi] at this
    exact this
  have hoM : w.ownsRow B e 1 (M i) (E i).length (E i) := h1.own _ hin
  obtain ⟨gc', cc', e2, _, zc⟩ := own_read hoM (i := 0) (by omega)
  have hmx : len i + 9 ≤ 9223372036854775807 := by
    have o := hoM
    rw [eM, hE] at o
    have := own_le' o
    omega
  have eg : gc' = gc := by
    rw [eM] at e2
    injection e2 with e2 _ _
    injection e2 with e2
    injection e2 with e2 _ _
    exact e2.symm
  subst eg
  have hMc : ∀ j, j < len i + 9 → ∃ u, w.cell? ⟨gc', j, none⟩ = some u ∧ Mk i u := fun j hj => by
    have hj' : j < (E i).length := by omega
    exact ⟨_, zc j _ (List.getElem?_eq_getElem hj'), h3 i hi _ (List.getElem_mem hj')⟩
  have za' := za i (M i) (by rw [List.getElem?_map, List.getElem?_range hi]; rfl)
  have zb' := zb i (V i) (by rw [List.getElem?_map, List.getElem?_range hi]; rfl)
  rw [hr] at ea
  rw [hrv] at eb
  by_cases h0 : len i = 0
  · rcases hV i hi with ⟨g, c, q⟩ | ⟨_, q⟩
    · exact ⟨ga, ca, gb, cb, gc', cc, some ⟨g, 0, none⟩, c, ea, eb, by rw [za', eM], hMc, by rw [zb', q], fun j hj => by omega, hmx⟩
    · exact ⟨ga, ca, gb, cb, gc', cc, none, 0, ea, eb, by rw [za', eM], hMc, by rw [zb', q, h0], fun j hj => by omega, hmx⟩
  rcases hL with q | ⟨_, g', c', xs, q1, q2, q3, q4⟩ | ⟨_, q⟩
  · exact ⟨ga, ca, gb, cb, gc', cc, some ⟨gc', 0, none⟩, cc, ea, eb, by rw [za', eM], hMc, by rw [zb', q], fun j hj => by
      obtain ⟨u, h1, h2⟩ := hMc j (by omega)
      exact ⟨gc', u, rfl, h1, h2⟩, hmx⟩
  · have hoX : w.ownsRow B e 1 (.slice (some ⟨g', 0, none⟩) xs.length c') xs.length xs := h1.own _ (List.mem_cons_of_mem _ (List.mem_cons_of_mem _ (List.mem_append_right _ (List.mem_append_left _ q2))))
    obtain ⟨gx, cx, e3, _, zx⟩ := own_read hoX (i := 0) (by omega)
    have eg : gx = g' := by
      injection e3 with e3 _ _
      injection e3 with e3
      injection e3 with e3 _ _
      exact e3.symm
    subst eg
    exact ⟨ga, ca, gb, cb, gc', cc, some ⟨gx, 0, none⟩, c', ea, eb, by rw [za', eM], hMc, by rw [zb', q1], fun j hj => ⟨gx, _, rfl, zx j _ (List.getElem?_eq_getElem (by omega : j < xs.length)), q4 _ (List.getElem_mem _)⟩, hmx⟩
  · omega
/-- an empty list without a block: the first append -/
theorem Grow.first {e e1 : TypeId} {tv : Value} {T : List Value} {more : Value} {o : Obj} {u : Value} {g' c' : Nat} (h : Grow e e1 S B n V len Mk L tv T k w more M X E) (hk : k < n) (hV : V k = .slice none 0 0) (h0 : len k = 0) (hS : S ≤ w.heap.size) (hu : Mk k u)
    (ho : w'.ownsRow B e 1 (.slice (some ⟨g', 0, none⟩) 1 c') 1 [u]) (hg : (w.alloc o).grownBy w' none) (hn : g' = (w.alloc o).heap.size) :
    ∃ E', GrowI e S B n V len Mk L ((e1, more, (List.range k).map M) :: (e1, tv, T) :: []) k M 1 w' (.slice (some ⟨g', 0, none⟩) 1 c') g' c' X E' := by
  obtain ⟨h1, h2, h3, h4, h5⟩ := h
  have hz : (w.alloc o).heap.size = w.heap.size + 1 := by simp
  have hek : (E k).length = 0 := by rw [h2 k hk, if_neg (Nat.lt_irrefl _), h0]
  have hE0 : E k = [] := List.eq_nil_of_length_eq_zero hek
  have hat : (((e1, more, (List.range k).map M) :: (e1, tv, T) :: []) ++ (rowsE e n (gV V M k) E ++ (X ++ L)))[2 + k]? = some (e, .slice none 0 0, []) := by
    rw [List.getElem?_append_right (by simp), show 2 + k - ((e1, more, (List.range k).map M) :: (e1, tv, T) :: ([] : List En)).length = k by simp, List.getElem?_append_left (by rw [rowsE_len]; exact hk), rowsE_get hk, gV_at, hV, hE0]
  refine ⟨upd E k [u], by rw [h0], ?_, fun i hi => ?_, fun i hi x hx => ?_, h4, .inr (.inr ⟨by omega, h0⟩)⟩
  · have := (show OwnsAll w B (((e1, more, (List.range k).map M) :: (e1, tv, T) :: []) ++ (rowsE e n (gV V M k) E ++ (X ++ L))) from h1).grow_at (news := [u]) (m := 1) hat rfl (v' := .slice (some ⟨g', 0, none⟩) 1 c') (by simpa using ho) hg (.inr (by rw [← hn]; rfl))
    rw [show 2 + k = ((e1, more, (List.range k).map M) :: (e1, tv, T) :: ([] : List En)).length + k by simp, List.nil_append, set_mid _ _ hk] at this
    exact this
  · rw [upd_len]
    by_cases q : i = k
    · subst q
      rw [if_pos rfl, if_neg (Nat.lt_irrefl _), if_pos rfl, h0]
      rfl
    · rw [if_neg q, h2 i hi, if_neg q]
  · unfold upd at hx
    by_cases q : i = k
    · subst q
      rw [if_pos rfl] at hx
      rw [List.mem_singleton.1 hx]
      exact hu
    · rw [if_neg q] at hx
      exact h3 i hi x hx
theorem Grow.below {e e1 : TypeId} {tv : Value} {T : List Value} {more : Value} (h : Grow e e1 S B n V len Mk L tv T k w more M X E) (b : Below w.heap.size w w') : Grow e e1 S B n V len Mk L tv T k w' more M X E := ⟨h.1.below b, h.2⟩
theorem Grow.marks {e e1 : TypeId} {tv : Value} {T : List Value} {more : Value} (h : Grow e e1 S B n V len Mk L tv T k w more M X E) (hM : ∀ i u, Mk i u → Mk' i u) : Grow e e1 S B n V len Mk' L tv T k w more M X E :=
  ⟨h.1, h.2.1, fun i hi u hu => hM i u (h.2.2.1 i hi u hu), h.2.2.2.1.mono (fun _ q => q) hM, h.2.2.2.2⟩
end
end Go.Proofs.YtappphffbnkloaaGreatDoor.Sht
set_option linter.unusedVariables false
set_option linter.unusedSimpArgs false
namespace Go.Proofs.YtappphffbnkloaaGreatDoor.Sht
open Go Go.RowKit Go.Proofs.YtappphffbnkloaaGreatDoorW.PrintWords Go.Proofs.YtappphffbnkloaaGreatDoorW.PrintLast Go.Proofs.YtappphffbnkloaaGreatDoor.GS
attribute [local go_sem ↓] Go.wp_at_zero Go.wp_at_succ
def MkT (i : Nat) (u : Value) : Prop := u = mk i
/-- append(m, note(i)), with what became of the old cells -/
theorem wpList_append_text2 {w : World} {ops : Array Oper} {rest : List Oper} {o : Oper} {a : Act} {Q : Exit → Act → World → Prop} (hgd : o.guard = none) (s x : Operand)
    (ho : o.op = .call { callee := .builtin .append, args := #[s, x], argTypes := #[28, 28] }) (base g n cap : Nat) (xs : List Value) (t : ByteArray) (hs : a.eval s = .slice (some ⟨g, 0, none⟩) n cap) (hown : w.ownsRow base 9 1 (.slice (some ⟨g, 0, none⟩) n cap) n xs)
    (hx : a.eval x = .slice (some ⟨w.heap.size, 0, none⟩) 1 1) (hb : (n + 1) * 16 ≤ 140737488355328) (hbase : base ≤ w.heap.size)
    (h : ∀ v' w', w'.ownsRow base 9 1 v' (n + 1) (xs ++ [.string t]) → (w.alloc (.cells #[.string t] 9)).grownBy w' (some g) → (v' = .slice (some ⟨g, 0, none⟩) (n + 1) cap ∨ (v'.ownBlock = some (w.alloc (.cells #[.string t] 9)).heap.size ∧ ∀ j, j < (w.alloc (.cells #[.string t] 9)).heap.size → w'.heap[j]? = (w.alloc (.cells #[.string t] 9)).heap[j]?)) → wpList Tryz.prog ops Q rest (a.put o.dst v') w') : wpList Tryz.prog ops Q (o :: rest) a (w.alloc (.cells #[.string t] 9)) := by
  obtain ⟨i0, hi, hz0, hz1, hz2⟩ := info_parts info9
  exact wpList_append_two hgd s x base 28 9 ho i0 _ 16 Tryz.underlying28 hi hz0 hz1 hz2 rfl g n cap xs hs (hown.alloc _) ⟨w.heap.size, 0, none⟩ 1 1 [.string t] hx rfl
    (fun j u hj => by
      match j, hj with
      | 0, hj => simp at hj; subst hj; simp [Addr.add])
    (fun u hu => by simp at hu; subst hu; rfl) (by unfold maxLen; omega) hb (by simp; omega) h
def atT : Bool × List (List Nat × List Nat) := (true,
  [([], []), ([], []), ([0, 1], [0, 1]), ([2], [2]), ([], []), ([3, 4], [3, 4]), ([5], [5]), ([], []), ([7], [7]),
    ([6, 8], [6, 8]), ([9, 8], [9]), ([10], [10]), ([10], [10]), ([10], [10]), ([12, 13, 10], [10, 12, 13]),
    ([14, 10], [10, 14]), ([15, 10], [10, 15]), ([11, 16, 10], [10, 11, 16]), ([17, 10, 10], [10, 17]), ([18], [18]),
    ([18], [18]), ([19, 20, 18], [18, 19, 20]), ([21, 18], [18, 21]), ([18], [18]), ([22, 23, 18], [18, 22, 23]),
    ([24, 18], [18, 24]), ([18], [18]), ([26, 18, 18], [18, 26]), ([25, 27, 18], [18, 25, 27]),
    ([18, 28, 10], [10, 18, 28]), ([10, 29], [10, 29])])
theorem at_tab : rtab .any (opsOf Tryz.f51 24) = atT := by kernel_rfl
set_option maxHeartbeats 4000000 in
set_option maxRecDepth 100000 in
theorem apartTexts_r (B n capt : Nat) (tx' : Option Addr) (V : Nat → Value) (E0 : Nat → List Value) (L : List En) (w : World) (hL : OwnsAll w B ((28, .slice tx' n capt, (List.range n).map V) :: (rowsE 9 n V E0 ++ L)))
    (hV : ∀ i, i < n → ∃ g cap, V i = .slice (some ⟨g, 0, none⟩) (E0 i).length cap) (hE : ∀ i, i < n → 0 < (E0 i).length ∧ (E0 i).length ≤ 100) (hn : n ≤ 4000000000000) :
    Calls Tryz.prog 51 #[.slice tx' n capt] w fun e w' => e = .returned (.bool true) ∧ Rw n V w w' := by
  have HL := Lib.hid hL
  have HV := Lib.hid hV
  have HE := Lib.hid hE
  clear hL hV hE
  go_enter Tryz.func51, Tryz.ntmps51
  go_wp2
  go_loopw [3, 4] (fun i _ wr => ∃ k : Nat, k ≤ n ∧ i = .int .i64 (k : Int) ∧ Hid (OwnsAll wr B ((28, .slice tx' n capt, (List.range n).map V) :: (rowsE 9 n V (over mk E0 k 0) ++ L))) ∧ Hid (Rw n V w wr)) (fun i _ _ => n - (intOf i).toNat)
  case atStart => exact ⟨0, Nat.zero_le _, rfl, Lib.hid (by rw [over_zero]; exact HL.out), Lib.hid (Rw.refl _ _ _)⟩
  case round =>
    obtain ⟨k, hk, rfl, HO, HF⟩ := hrel
    by_cases hlt : k < n
    · obtain ⟨g, cap, hVk⟩ := HV.out k hlt
      have hl := (HE.out k hlt).2
      have hown : wr.ownsRow B 28 1 (.slice tx' n capt) ((List.range n).map V).length ((List.range n).map V) := HO.out.head
      obtain ⟨gt, ct, e, _, z⟩ := own_read hown (i := k) (by simpa using hlt)
      obtain rfl : tx' = some ⟨gt, 0, none⟩ := by injection e
      have HVk := Lib.hid hVk
      have n0 : (0 : Int) ≤ (k : Int) := Int.natCast_nonneg _
      have n1 : (k : Int) < (n : Int) := by omega
      have HLen : Hid ((E0 k).length ≤ 100) := Lib.hid hl
      clear hVk hown e z
      obtain ⟨m, hm⟩ : ∃ m, m = (E0 k).length := ⟨_, rfl⟩
      have HM := Lib.hid hm
      rw [← hm] at hl
      clear hm
      go_wp2
      go_loopw [4] (fun i wr => ∃ j : Nat, j ≤ m ∧ i = .int .i64 (j : Int) ∧ Hid (OwnsAll wr B ((28, .slice (some ⟨gt, 0, none⟩) n capt, (List.range n).map V) :: (rowsE 9 n V (over mk E0 k j) ++ L))) ∧ Hid (Rw n V w wr)) (fun i _ => m - (intOf i).toNat)
      case atStart => exact ⟨0, Nat.zero_le _, rfl, HO, HF⟩
      case round =>
        clear HO HF
        obtain ⟨j, hj, rfl, HO, HF⟩ := hrel
        have hc : wr.cell? ⟨gt, k, none⟩ = some (.slice (some ⟨g, 0, none⟩) m cap) := by
          have hown : wr.ownsRow B 28 1 (.slice (some ⟨gt, 0, none⟩) n capt) ((List.range n).map V).length ((List.range n).map V) := HO.out.head
          obtain ⟨gt', ct', e, _, z⟩ := own_read hown (i := k) (by simpa using hlt)
          obtain rfl : gt = gt' := by
            injection e with e _ _
            injection e with e
            injection e
          refine z k _ ?_
          rw [List.getElem?_map, List.getElem?_range hlt, HM.out, ← HVk.out]
          rfl
        by_cases hjl : j < m
        · have hx : ((28, .slice (some ⟨gt, 0, none⟩) n capt, (List.range n).map V) :: (rowsE 9 n V (over mk E0 k j) ++ L))[k + 1]? = some (9, .slice (some ⟨g, 0, none⟩) m cap, over mk E0 k j k) := by
            rw [List.getElem?_cons_succ, List.getElem?_append_left (by rw [rowsE_len]; exact hlt), rowsE_get hlt, HVk.out, HM.out]
          have HX := Lib.hid hx
          have HCl := Lib.hid hc
          have HNt : Hid (∀ w1, Below wr.heap.size wr w1 → Calls Tryz.prog 56 #[.int .i64 (k : Int)] w1 fun ev w' => ev = .returned (.string (noteB k)) ∧ Below wr.heap.size wr w') := Lib.hid fun w1 b => (note_r k w1).mono fun _ _ q => ⟨q.1, b.trans (q.2.mono b.size)⟩
          have hb0 : Below wr.heap.size wr wr.drew := (Below.refl _ _).drew
          have m0 : (0 : Int) ≤ (j : Int) := Int.natCast_nonneg _
          have m1 : (j : Int) < (m : Int) := by omega
          have z2 := noteB_size k
          have hox := HO.out.own_at hx
          have hoj : j < (over mk E0 k j k).length := by rw [over_len _ _ _ _ _ (by rw [← HM.out]; exact hj), ← HM.out]; exact hjl
          obtain ⟨g2, cap2, e2, _, z3⟩ := own_read hox hoj
          have hs0 := z3 j _ (List.getElem?_eq_getElem hoj)
          obtain rfl : g = g2 := by
            injection e2 with e2 _ _
            injection e2 with e2
            injection e2
          obtain ⟨cur, hcur⟩ := kind_row hox g rfl
          have hne : gt ≠ g := fun q => HO.out.apart (j := gt) rfl (List.mem_flatMap.2 ⟨_, List.mem_append_left _ (List.mem_of_getElem? (rowsE_get hlt)), by rw [HVk.out]; exact mem_ob.2 (by rw [q]; rfl)⟩)
          obtain ⟨x, hxx⟩ : ∃ x, x = (over mk E0 k j k)[j] := ⟨_, rfl⟩
          rw [← hxx] at hs0
          have HS0 := Lib.hid hs0
          have HCur := Lib.hid hcur
          have HNe := Lib.hid hne
          clear hx hox hoj e2 z3 hs0 hcur hne hxx
          go_wp2_with fail
          go_region_held3 (fun w' => w'.cell? ⟨gt, k, none⟩ = some (.slice (some ⟨g, 0, none⟩) m cap)) (first | exact kc hb0 HCl.out | exact kc hb2 HCl.out | exact kset HNe.out (kc hb2 HCl.out)) (first | (go_at_call 56; (with_reducible refine (HNt.out _ (by assumption)).mono ?_); rintro ev w2 ⟨rfl, hb2⟩; have s1 := kc hb2 HS0.out; have f1 := bfree (blk_below HCur.out hb2) j))
          go_wp2_with fail
          go_roundw
          case rel => exact ⟨j + 1, by omega, by go_num, Lib.hid (by have := (HO.out.below hb2).set_at HX.out (u := mk k) hjl; rw [show (.slice (some ⟨g, 0, none⟩) m cap : Value) = V k from by rw [HVk.out, HM.out], rows_set mk hlt (by rw [← HM.out]; exact hjl)] at this; exact this), Lib.hid ((HF.out.below hb2).set hlt HVk.out _ _)⟩
          case measure => simp [intOf]; omega
        · obtain rfl : j = m := by omega
          clear hjl hj
          go_wp2
          go_roundw
          case rel => exact ⟨k + 1, by omega, by go_num, Lib.hid (by rw [← over_next, ← HM.out]; exact HO.out), HF⟩
          case measure => simp [intOf]; omega
    · obtain rfl : n = k := by omega
      clear hlt hk
      have HG0 : Hid (Grow 9 28 w.heap.size B n V (fun i => (E0 i).length) MkT L (.slice tx' n capt) ((List.range n).map V) 0 wr (.slice none 0 0) V [] (gE mk E0 0)) := Lib.hid (by
        have h0 := HO.out
        rw [rows_over] at h0
        refine ⟨?_, fun i hi => ?_, fun i hi u hu => ?_, fun i hi => absurd hi (Nat.not_lt_zero _), fun j hj => by cases hj⟩
        · rw [gV_zero]
          exact h0.cons (World.ownsRow_nil _ _ _ _) (fun j hj => by cases hj)
        · unfold gE
          rw [List.length_replicate]
        · unfold gE at hu
          exact List.eq_of_mem_replicate hu)
      clear HO
      obtain ⟨i28, hi28, hz28, hy28, hs28⟩ := info_parts info28
      go_wp2
      go_loopw [5, 6, 7, 8] (fun more i _ _ wr => ∃ (k : Nat) (mo : Value) (M : Nat → Value) (X : List En) (E : Nat → List Value), k ≤ n ∧ mo = more ∧ i = .int .i64 (k : Int) ∧ Hid (Grow 9 28 w.heap.size B n V (fun i => (E0 i).length) MkT L (.slice tx' n capt) ((List.range n).map V) k wr mo M X E) ∧ Hid (Rw n V w wr)) (fun _ i _ _ _ => n - (intOf i).toNat)
      case atStart => exact ⟨0, _, V, [], gE mk E0 0, Nat.zero_le _, rfl, rfl, HG0, HF⟩
      case round =>
        clear HG0 HF
        obtain ⟨k, more, M, X, E, hk, rfl, rfl, HG, HF⟩ := hrel
        by_cases hlt : k < n
        · obtain ⟨g, cap, hVk⟩ := HV.out k hlt
          have hl := (HE.out k hlt).2
          have hown : wr.ownsRow B 28 1 (.slice tx' n capt) ((List.range n).map V).length ((List.range n).map V) := HG.out.1.tail.head
          obtain ⟨gt, ct, e, _, z⟩ := own_read hown (i := k) (by simpa using hlt)
          obtain rfl : tx' = some ⟨gt, 0, none⟩ := by injection e
          have hc : wr.cell? ⟨gt, k, none⟩ = some (V k) := z k _ (by rw [List.getElem?_map, List.getElem?_range hlt]; rfl)
          rw [hVk] at hc
          have HVk := Lib.hid hVk
          have n0 : (0 : Int) ≤ (k : Int) := Int.natCast_nonneg _
          have n1 : (k : Int) < (n : Int) := by omega
          have HMo := Lib.hid HG.out.2.2.2.2
          obtain ⟨m, hm⟩ : ∃ m, m = (E0 k).length := ⟨_, rfl⟩
          have HM := Lib.hid hm
          have HGI : Hid (GrowI 9 w.heap.size B n V (fun i => (E0 i).length) MkT L ((28, more, (List.range k).map M) :: (28, .slice (some ⟨gt, 0, none⟩) n capt, (List.range n).map V) :: []) k M 0 wr (.slice (some ⟨g, 0, none⟩) m cap) g cap X E) := Lib.hid (by
            have := HG.out.begin hlt hVk
            rw [hVk, ← hm] at this
            exact this)
          rw [← hm] at hl hc
          clear hown e z hm hVk HG
          go_wp2
          go_loopw [7, 8] (fun mm i wr => ∃ (j g c : Nat) (X : List En) (E : Nat → List Value), j ≤ 9 ∧ i = .int .i64 (j : Int) ∧ mm = .slice (some ⟨g, 0, none⟩) (m + j) c ∧ Hid (GrowI 9 w.heap.size B n V (fun i => (E0 i).length) MkT L ((28, more, (List.range k).map M) :: (28, .slice (some ⟨gt, 0, none⟩) n capt, (List.range n).map V) :: []) k M j wr mm g c X E) ∧ Hid (Rw n V w wr)) (fun _ i _ => 9 - (intOf i).toNat)
          case atStart => exact ⟨0, g, cap, X, E, by omega, rfl, rfl, HGI, HF⟩
          case round =>
            clear HGI HF hc
            obtain ⟨j, g, c, X, E, hj, rfl, rfl, HGI, HF⟩ := hrel
            by_cases hj9 : j < 9
            · have HNt := Lib.hid (fun w1 => note_r k w1)
              have z2 := noteB_size k
              have hlB := (HGI.out.own hlt).lt g rfl
              go_wp2_with (first
                | (go_at_call 56; (with_reducible refine (HNt.out _).mono ?_); rintro e w2 ⟨rfl, hb⟩; have HF2 := Lib.hid (HF.out.below hb); have HG2 := Lib.hid (HGI.out.below hb); have hz2 := hb.size; clear hb)
                | (at_builtin; refine wpList_append_text2 (w := w2) rfl (.tmp 48) (.tmp 51) rfl B g (m + j) c (E k) (noteB k) rfl (by have := HG2.out.own hlt; rw [← HM.out] at this; exact this) rfl (by omega) (by omega) ?_; intro v3 w3 hown hg hv; have HO3 := Lib.hid hown; have HB3 := Lib.hid hg; have HV3 := Lib.hid hv; clear hown hg hv))
              go_roundw
              case rel =>
                obtain ⟨g', c', X', E', HGn⟩ := HG2.out.step hlt (by have := HF2.out.size; exact this) (u := mk k) rfl (v' := v3) (w' := w3) (o := .cells #[.string (noteB k)] 9) (by rw [← HM.out]; exact HO3.out) HB3.out (by rw [← HM.out]; exact HV3.out)
                have hrow := HG2.out.row hlt
                refine ⟨j + 1, g', c', X', E', by omega, by go_num, by rw [HM.out]; exact HGn.1, Lib.hid HGn, Lib.hid ((HF2.out.alloc _).grown HB3.out (fun q hq => ?_))⟩
                obtain rfl : g = q := by injection hq
                exact hrow
              case measure => simp [intOf]; omega
            · obtain rfl : j = 9 := by omega
              clear hj9 hj
              have hmore : wr.ownsRow B 28 1 more k ((List.range k).map M) := by
                have := HGI.out.2.1.head
                simpa using this
              have HMore := Lib.hid hmore
              have hlB := (HGI.out.own hlt).lt g rfl
              clear hmore
              go_wp2_with (at_builtin; refine wpList_append_lies (wr.alloc (.cells #[.slice (some ⟨g, 0, none⟩) (m + 9) c] 28)) rfl (.tmp 53) (.tmp 55) 30 rfl B 28 i28 _ 1 24 Tryz.underlying30 hi28 hz28 hy28 hs28 rfl (by decide) more k ((List.range k).map M) rfl (HMore.out.alloc _) ⟨wr.heap.size, 0, none⟩ 1 1 [.slice (some ⟨g, 0, none⟩) (m + 9) c] rfl rfl (World.news_of_block (cs := #[.slice (some ⟨g, 0, none⟩) (m + 9) c]) (t := 28) (fr := (0, 0)) (heap_alloc_new wr _)) (by simp [Value.oneCell']) (by omega) (by unfold maxLen; omega) (by omega) (by simp; omega) _ rfl ?_; intro g1 cap1 w1 hown hg hat hlt1; have HO1 := Lib.hid hown; have HB1 := Lib.hid hg; have HA1 := Lib.hid hat; clear hown hg hat)
              go_roundw
              case rel =>
                refine ⟨k + 1, _, upd M k (.slice (some ⟨g, 0, none⟩) (m + 9) c), X, E, by omega, rfl, by go_num, Lib.hid (Grow.next HGI.out hlt (by have := HF.out.size; exact this) HMo.out HO1.out HB1.out (by rcases HA1.out with e | e; exact .inl e.symm; exact .inr (by rw [e]; rfl))), Lib.hid ((HF.out.alloc _).grown HB1.out (fun q hq => .inr (HMo.out q hq)))⟩
              case measure => simp [intOf]; omega
        · obtain rfl : n = k := by omega
          clear hlt hk
          have HC := Lib.hid (fun i hi => HG.out.cells i hi (HE.out i hi).1)
          clear HG
          obtain ⟨wz, rfl⟩ : ∃ wz, wz = wr := ⟨_, rfl⟩
          go_wp2
          go_loopw [9, 10] (fun i _ wr => ∃ k : Nat, k ≤ n ∧ i = .int .i64 (k : Int) ∧ Hid (Below wz.heap.size wz wr)) (fun i _ _ => n - (intOf i).toNat)
          case atStart => exact ⟨0, Nat.zero_le _, rfl, Lib.hid (Below.refl _ _)⟩
          case round =>
            obtain ⟨k, hk, rfl, HB5⟩ := hrel
            by_cases hlt : k < n
            · obtain ⟨ga, ca, gb, cb, gc, cc, gd, cd, rfl, e2, h1, h2, h3, h4, h5⟩ := HC.out k hlt
              obtain ⟨rfl, rfl⟩ : tx' = some ⟨gb, 0, none⟩ ∧ capt = cb := by
                injection e2 with e2 _ e3
                exact ⟨e2, e3⟩
              obtain ⟨m, hm⟩ : ∃ m, m = (E0 k).length := ⟨_, rfl⟩
              rw [← hm] at h1 h2 h3 h4 h5
              have H1 := Lib.hid h1
              have H2 := Lib.hid h2
              have H3 := Lib.hid h3
              have H4 := Lib.hid h4
              have c5 := kept_cell' h1 HB5.out
              have n0 : (0 : Int) ≤ (k : Int) := Int.natCast_nonneg _
              have n1 : (k : Int) < (n : Int) := by omega
              clear e2 h1 h2 h3 h4 hm
              go_wp2
              go_loopw [10] (fun i wr => ∃ j : Nat, j ≤ m + 9 ∧ i = .int .i64 (j : Int) ∧ Hid (Below wz.heap.size wz wr)) (fun i _ => m + 9 - (intOf i).toNat)
              case atStart => exact ⟨0, Nat.zero_le _, rfl, HB5⟩
              case round =>
                clear HB5 c5
                obtain ⟨j, hj, rfl, HB6⟩ := hrel
                have c1 := kept_cell' H1.out HB6.out
                by_cases hjl : j < m + 9
                · obtain ⟨u, hu, rfl⟩ := H2.out j hjl
                  have z2 := noteB_size k
                  have j0 : (0 : Int) ≤ (j : Int) := Int.natCast_nonneg _
                  have j1 : (j : Int) < ((m + 9 : Nat) : Int) := by omega
                  have HU := Lib.hid hu
                  have HNt : Hid (∀ w1, Below wr.heap.size wr w1 → Calls Tryz.prog 56 #[.int .i64 (k : Int)] w1 fun ev w' => ev = .returned (.string (noteB k)) ∧ Below wr.heap.size wr w') := Lib.hid fun w1 b => (note_r k w1).mono fun _ _ q => ⟨q.1, b.trans (q.2.mono b.size)⟩
                  have hb0 : Below wr.heap.size wr wr.drew := (Below.refl _ _).drew
                  clear hu
                  by_cases hjm : j < m
                  · obtain ⟨u2, hu2, rfl⟩ := H4.out j hjm
                    have t1 : decide ((j : Int) < (m : Int)) = true := by simp; omega
                    have j2 : (j : Int) < (m : Int) := by omega
                    have HS : Hid (∀ w', Below wr.heap.size wr w' → (w'.cell? ⟨ga, k, none⟩ = some (.slice (some ⟨gc, 0, none⟩) (m + 9) cc) ∧ w'.cell? ⟨gc, j, none⟩ = some (.string (noteB k)) ∧ w'.cell? ⟨gb, k, none⟩ = some (.slice (some ⟨gd, 0, none⟩) m cd) ∧ w'.cell? ⟨gd, j, none⟩ = some (.string (noteB k)))) := Lib.hid fun w' b => ⟨kept_cell' H1.out (HB6.out.trans (b.mono HB6.out.size)), kept_cell' HU.out (HB6.out.trans (b.mono HB6.out.size)), kept_cell' H3.out (HB6.out.trans (b.mono HB6.out.size)), kept_cell' hu2 (HB6.out.trans (b.mono HB6.out.size))⟩
                    clear hu2
                    go_wp2_with fail
                    -- REGION A
                    refine start_ (n := 31) (S := fun w' => w'.cell? ⟨ga, k, none⟩ = some (.slice (some ⟨gc, 0, none⟩) (m + 9) cc) ∧ w'.cell? ⟨gc, j, none⟩ = some (.string (noteB k)) ∧ w'.cell? ⟨gb, k, none⟩ = some (.slice (some ⟨gd, 0, none⟩) m cd) ∧ w'.cell? ⟨gd, j, none⟩ = some (.string (noteB k))) (ds := []) #[false, false, false, false, false, false, false, false, false, false, false, false, false, false, false, false, false, false, false, false, false, false, false, false, false, false, false, false, false, false, false] (by kernel_rfl) rfl rfl (HS.out _ hb0) (fun hHeld => ?_); refine with_tab at_tab (fun HT_ => ?_)
                    generalize wr.drew = w7 at hb0 hHeld ⊢
                    refine pure_ (i := 0) (N := some 72) (v := ?_) (a' := ?_) #[true, false, false, false, false, false, false, false, false, false, false, false, false, false, false, false, false, false, false, false, false, false, false, false, false, false, false, false, false, false, false] rfl rfl (any_of HT_.out (by kernel_rfl)) (fun _ _ _ h => h) (Or.inl ⟨by rfl, ?_⟩) ?_ ?_
                    rotate_left
                    · intro w'
                      go_simp
                      try with_reducible rfl
                    rotate_left
                    · simp only [Act.put, List.setIfInBounds_toArray, List.set_cons_zero, List.set_cons_succ]
                      rfl
                    refine pure_ (i := 1) (N := some 73) (v := ?_) (a' := ?_) #[true, true, false, false, false, false, false, false, false, false, false, false, false, false, false, false, false, false, false, false, false, false, false, false, false, false, false, false, false, false, false] rfl rfl (any_of HT_.out (by kernel_rfl)) (fun _ _ _ h => h) (Or.inl ⟨by rfl, ?_⟩) ?_ ?_
                    rotate_left
                    · intro w'
                      go_simp
                      try with_reducible rfl
                    rotate_left
                    · simp only [Act.put, List.setIfInBounds_toArray, List.set_cons_zero, List.set_cons_succ]
                      rfl
                    refine pure_ (i := 2) (N := some 74) (v := ?_) (a' := ?_) #[true, true, true, false, false, false, false, false, false, false, false, false, false, false, false, false, false, false, false, false, false, false, false, false, false, false, false, false, false, false, false] rfl rfl (any_of HT_.out (by kernel_rfl)) (fun _ _ _ h => h) (Or.inl ⟨by rfl, ?_⟩) ?_ ?_
                    rotate_left
                    · intro w'
                      go_simp
                      try with_reducible rfl
                    rotate_left
                    · simp only [Act.put, List.setIfInBounds_toArray, List.set_cons_zero, List.set_cons_succ]
                      rfl
                    refine take_ (i := 3) (N := some 75) (v := ?_) (a' := ?_) #[true, true, true, true, false, false, false, false, false, false, false, false, false, false, false, false, false, false, false, false, false, false, false, false, false, false, false, false, false, false, false] rfl rfl (take_of HT_.out (by kernel_rfl)) (fun _ _ _ h => h) (Or.inl ⟨by rfl, ?_⟩) hHeld ?_ ?_
                    rotate_left
                    · rintro w' ⟨s1, s2, s3, s4⟩
                      go_simp
                      try with_reducible rfl
                    rotate_left
                    · simp only [Act.put, List.setIfInBounds_toArray, List.set_cons_zero, List.set_cons_succ]
                      rfl
                    refine pure_ (i := 4) (N := some 76) (v := ?_) (a' := ?_) #[true, true, true, true, true, false, false, false, false, false, false, false, false, false, false, false, false, false, false, false, false, false, false, false, false, false, false, false, false, false, false] rfl rfl (any_of HT_.out (by kernel_rfl)) (fun _ _ _ h => h) (Or.inl ⟨by rfl, ?_⟩) ?_ ?_
                    rotate_left
                    · intro w'
                      go_simp
                      try with_reducible rfl
                    rotate_left
                    · simp only [Act.put, List.setIfInBounds_toArray, List.set_cons_zero, List.set_cons_succ]
                      rfl
                    refine pure_ (i := 5) (N := some 77) (v := ?_) (a' := ?_) #[true, true, true, true, true, true, false, false, false, false, false, false, false, false, false, false, false, false, false, false, false, false, false, false, false, false, false, false, false, false, false] rfl rfl (any_of HT_.out (by kernel_rfl)) (fun _ _ _ h => h) (Or.inl ⟨by rfl, ?_⟩) ?_ ?_
                    rotate_left
                    · intro w'
                      go_simp
                      try with_reducible rfl
                    rotate_left
                    · simp only [Act.put, List.setIfInBounds_toArray, List.set_cons_zero, List.set_cons_succ]
                      rfl
                    refine take_ (i := 6) (N := some 78) (v := ?_) (a' := ?_) #[true, true, true, true, true, true, true, false, false, false, false, false, false, false, false, false, false, false, false, false, false, false, false, false, false, false, false, false, false, false, false] rfl rfl (take_of HT_.out (by kernel_rfl)) (fun _ _ _ h => h) (Or.inl ⟨by rfl, ?_⟩) hHeld ?_ ?_
                    rotate_left
                    · rintro w' ⟨s1, s2, s3, s4⟩
                      go_simp
                      try with_reducible rfl
                    rotate_left
                    · simp only [Act.put, List.setIfInBounds_toArray, List.set_cons_zero, List.set_cons_succ]
                      rfl
                    refine pure_ (i := 7) (N := some 79) (v := ?_) (a' := ?_) #[true, true, true, true, true, true, true, true, false, false, false, false, false, false, false, false, false, false, false, false, false, false, false, false, false, false, false, false, false, false, false] rfl rfl (any_of HT_.out (by kernel_rfl)) (fun _ _ _ h => h) (Or.inl ⟨by rfl, ?_⟩) ?_ ?_
                    rotate_left
                    · intro w'
                      go_simp
                      try with_reducible rfl
                    rotate_left
                    · simp only [Act.put, List.setIfInBounds_toArray, List.set_cons_zero, List.set_cons_succ]
                      rfl
                    refine one_ (i := 8) (N := some 80) #[true, true, true, true, true, true, true, true, true, false, false, false, false, false, false, false, false, false, false, false, false, false, false, false, false, false, false, false, false, false, false] rfl rfl (one_of HT_.out (by kernel_rfl)) (by decide) (fun K hK => ?_)
                    refine goes_ Tryz.func56 (by kernel_rfl) rfl #[.int .i64 (k : Int)] (by rfl) rfl rfl (by (try simp only [List.map_toArray, List.map_cons, List.map_nil]); first | done | rfl) ?_
                    with_reducible refine (HNt.out _ hb0).mono ?_
                    rintro ev w20 ⟨rfl, hbc0⟩
                    refine ⟨_, rfl, ?_⟩
                    refine hK.out _ _ (HS.out _ hbc0) (fun hHeld => ?_)
                    clear hK K
                    refine norm_ (a' := ?_) ?_ ?_
                    rotate_left
                    · show Act.put _ (some 80) _ = _
                      simp only [Act.put, List.setIfInBounds_toArray, List.set_cons_zero, List.set_cons_succ]
                      rfl
                    refine pure_ (i := 9) (N := some 81) (v := ?_) (a' := ?_) #[true, true, true, true, true, true, true, true, true, true, false, false, false, false, false, false, false, false, false, false, false, false, false, false, false, false, false, false, false, false, false] rfl rfl (any_of HT_.out (by kernel_rfl)) (fun _ _ _ h => h) (Or.inl ⟨by rfl, ?_⟩) ?_ ?_
                    rotate_left
                    · intro w'
                      go_simp
                      try with_reducible rfl
                    rotate_left
                    · simp only [Act.put, List.setIfInBounds_toArray, List.set_cons_zero, List.set_cons_succ]
                      rfl
                    refine pure_ (i := 10) (N := some 82) (v := ?_) (a' := ?_) #[true, true, true, true, true, true, true, true, true, true, true, false, false, false, false, false, false, false, false, false, false, false, false, false, false, false, false, false, false, false, false] rfl rfl (any_of HT_.out (by kernel_rfl)) (fun _ _ _ h => h) (Or.inl ⟨by rfl, ?_⟩) ?_ ?_
                    rotate_left
                    · intro w'
                      go_simp
                      try with_reducible rfl
                    rotate_left
                    · simp only [Act.put, List.setIfInBounds_toArray, List.set_cons_zero, List.set_cons_succ]
                      rfl
                    refine pure_ (i := 11) (N := some 83) (v := ?_) (a' := ?_) #[true, true, true, true, true, true, true, true, true, true, true, true, false, false, false, false, false, false, false, false, false, false, false, false, false, false, false, false, false, false, false] rfl rfl (any_of HT_.out (by kernel_rfl)) (fun _ _ _ h => h) (Or.inl ⟨by rfl, ?_⟩) ?_ ?_
                    rotate_left
                    · intro w'
                      go_simp
                      try with_reducible rfl
                    rotate_left
                    · simp only [Act.put, List.setIfInBounds_toArray, List.set_cons_zero, List.set_cons_succ]
                      rfl
                    refine pure_ (i := 12) (N := some 84) (v := ?_) (a' := ?_) #[true, true, true, true, true, true, true, true, true, true, true, true, true, false, false, false, false, false, false, false, false, false, false, false, false, false, false, false, false, false, false] rfl rfl (any_of HT_.out (by kernel_rfl)) (fun _ _ _ h => h) (Or.inl ⟨by rfl, ?_⟩) ?_ ?_
                    rotate_left
                    · intro w'
                      go_simp
                      try with_reducible rfl
                    rotate_left
                    · simp only [Act.put, List.setIfInBounds_toArray, List.set_cons_zero, List.set_cons_succ]
                      rfl
                    refine pure_ (i := 13) (N := some 85) (v := ?_) (a' := ?_) #[true, true, true, true, true, true, true, true, true, true, true, true, true, true, false, false, false, false, false, false, false, false, false, false, false, false, false, false, false, false, false] rfl rfl (any_of HT_.out (by kernel_rfl)) (fun _ _ _ h => h) (Or.inl ⟨by rfl, ?_⟩) ?_ ?_
                    rotate_left
                    · intro w'
                      go_simp
                      try with_reducible rfl
                    rotate_left
                    · simp only [Act.put, List.setIfInBounds_toArray, List.set_cons_zero, List.set_cons_succ]
                      rfl
                    refine pure_ (i := 14) (N := some 86) (v := ?_) (a' := ?_) #[true, true, true, true, true, true, true, true, true, true, true, true, true, true, true, false, false, false, false, false, false, false, false, false, false, false, false, false, false, false, false] rfl rfl (any_of HT_.out (by kernel_rfl)) (fun _ _ _ h => h) (Or.inl ⟨by rfl, ?_⟩) ?_ ?_
                    rotate_left
                    · intro w'
                      go_simp
                      try with_reducible rfl
                    rotate_left
                    · simp only [Act.put, List.setIfInBounds_toArray, List.set_cons_zero, List.set_cons_succ]
                      rfl
                    refine take_ (i := 15) (N := some 87) (v := ?_) (a' := ?_) #[true, true, true, true, true, true, true, true, true, true, true, true, true, true, true, true, false, false, false, false, false, false, false, false, false, false, false, false, false, false, false] rfl rfl (take_of HT_.out (by kernel_rfl)) (fun _ _ _ h => h) (Or.inl ⟨by rfl, ?_⟩) hHeld ?_ ?_
                    rotate_left
                    · rintro w' ⟨s1, s2, s3, s4⟩
                      go_simp
                      try with_reducible rfl
                    rotate_left
                    · simp only [Act.put, List.setIfInBounds_toArray, List.set_cons_zero, List.set_cons_succ]
                      rfl
                    refine pure_ (i := 16) (N := some 88) (v := ?_) (a' := ?_) #[true, true, true, true, true, true, true, true, true, true, true, true, true, true, true, true, true, false, false, false, false, false, false, false, false, false, false, false, false, false, false] rfl rfl (any_of HT_.out (by kernel_rfl)) (fun _ _ _ h => h) (Or.inl ⟨by rfl, ?_⟩) ?_ ?_
                    rotate_left
                    · intro w'
                      go_simp
                      try with_reducible rfl
                    rotate_left
                    · simp only [Act.put, List.setIfInBounds_toArray, List.set_cons_zero, List.set_cons_succ]
                      rfl
                    refine pure_ (i := 17) (N := some 89) (v := ?_) (a' := ?_) #[true, true, true, true, true, true, true, true, true, true, true, true, true, true, true, true, true, true, false, false, false, false, false, false, false, false, false, false, false, false, false] rfl rfl (any_of HT_.out (by kernel_rfl)) (fun _ _ _ h => h) (Or.inl ⟨by rfl, ?_⟩) ?_ ?_
                    rotate_left
                    · intro w'
                      go_simp
                      try with_reducible rfl
                    rotate_left
                    · simp only [Act.put, List.setIfInBounds_toArray, List.set_cons_zero, List.set_cons_succ]
                      rfl
                    refine pure_ (i := 18) (N := some 90) (v := ?_) (a' := ?_) #[true, true, true, true, true, true, true, true, true, true, true, true, true, true, true, true, true, true, true, false, false, false, false, false, false, false, false, false, false, false, false] rfl rfl (any_of HT_.out (by kernel_rfl)) (fun _ _ _ h => h) (Or.inl ⟨by rfl, ?_⟩) ?_ ?_
                    rotate_left
                    · intro w'
                      go_simp
                      try with_reducible rfl
                    rotate_left
                    · simp only [Act.put, List.setIfInBounds_toArray, List.set_cons_zero, List.set_cons_succ]
                      rfl
                    refine pure_ (i := 19) (N := some 91) (v := ?_) (a' := ?_) #[true, true, true, true, true, true, true, true, true, true, true, true, true, true, true, true, true, true, true, true, false, false, false, false, false, false, false, false, false, false, false] rfl rfl (any_of HT_.out (by kernel_rfl)) (fun _ _ _ h => h) (Or.inl ⟨by rfl, ?_⟩) ?_ ?_
                    rotate_left
                    · intro w'
                      go_simp
                      try with_reducible rfl
                    rotate_left
                    · simp only [Act.put, List.setIfInBounds_toArray, List.set_cons_zero, List.set_cons_succ]
                      rfl
                    refine pure_ (i := 20) (N := some 92) (v := ?_) (a' := ?_) #[true, true, true, true, true, true, true, true, true, true, true, true, true, true, true, true, true, true, true, true, true, false, false, false, false, false, false, false, false, false, false] rfl rfl (any_of HT_.out (by kernel_rfl)) (fun _ _ _ h => h) (Or.inl ⟨by rfl, ?_⟩) ?_ ?_
                    rotate_left
                    · intro w'
                      go_simp
                      try with_reducible rfl
                    rotate_left
                    · simp only [Act.put, List.setIfInBounds_toArray, List.set_cons_zero, List.set_cons_succ]
                      rfl
                    refine pure_ (i := 21) (N := some 93) (v := ?_) (a' := ?_) #[true, true, true, true, true, true, true, true, true, true, true, true, true, true, true, true, true, true, true, true, true, true, false, false, false, false, false, false, false, false, false] rfl rfl (any_of HT_.out (by kernel_rfl)) (fun _ _ _ h => h) (Or.inl ⟨by rfl, ?_⟩) ?_ ?_
                    rotate_left
                    · intro w'
                      go_simp
                      try with_reducible rfl
                    rotate_left
                    · simp only [Act.put, List.setIfInBounds_toArray, List.set_cons_zero, List.set_cons_succ]
                      rfl
                    refine take_ (i := 22) (N := some 94) (v := ?_) (a' := ?_) #[true, true, true, true, true, true, true, true, true, true, true, true, true, true, true, true, true, true, true, true, true, true, true, false, false, false, false, false, false, false, false] rfl rfl (take_of HT_.out (by kernel_rfl)) (fun _ _ _ h => h) (Or.inl ⟨by rfl, ?_⟩) hHeld ?_ ?_
                    rotate_left
                    · rintro w' ⟨s1, s2, s3, s4⟩
                      go_simp
                      try with_reducible rfl
                    rotate_left
                    · simp only [Act.put, List.setIfInBounds_toArray, List.set_cons_zero, List.set_cons_succ]
                      rfl
                    refine pure_ (i := 23) (N := some 95) (v := ?_) (a' := ?_) #[true, true, true, true, true, true, true, true, true, true, true, true, true, true, true, true, true, true, true, true, true, true, true, true, false, false, false, false, false, false, false] rfl rfl (any_of HT_.out (by kernel_rfl)) (fun _ _ _ h => h) (Or.inl ⟨by rfl, ?_⟩) ?_ ?_
                    rotate_left
                    · intro w'
                      go_simp
                      try with_reducible rfl
                    rotate_left
                    · simp only [Act.put, List.setIfInBounds_toArray, List.set_cons_zero, List.set_cons_succ]
                      rfl
                    refine pure_ (i := 24) (N := some 96) (v := ?_) (a' := ?_) #[true, true, true, true, true, true, true, true, true, true, true, true, true, true, true, true, true, true, true, true, true, true, true, true, true, false, false, false, false, false, false] rfl rfl (any_of HT_.out (by kernel_rfl)) (fun _ _ _ h => h) (Or.inl ⟨by rfl, ?_⟩) ?_ ?_
                    rotate_left
                    · intro w'
                      go_simp
                      try with_reducible rfl
                    rotate_left
                    · simp only [Act.put, List.setIfInBounds_toArray, List.set_cons_zero, List.set_cons_succ]
                      rfl
                    refine take_ (i := 25) (N := some 97) (v := ?_) (a' := ?_) #[true, true, true, true, true, true, true, true, true, true, true, true, true, true, true, true, true, true, true, true, true, true, true, true, true, true, false, false, false, false, false] rfl rfl (take_of HT_.out (by kernel_rfl)) (fun _ _ _ h => h) (Or.inl ⟨by rfl, ?_⟩) hHeld ?_ ?_
                    rotate_left
                    · rintro w' ⟨s1, s2, s3, s4⟩
                      go_simp
                      try with_reducible rfl
                    rotate_left
                    · simp only [Act.put, List.setIfInBounds_toArray, List.set_cons_zero, List.set_cons_succ]
                      rfl
                    refine pure_ (i := 26) (N := some 98) (v := ?_) (a' := ?_) #[true, true, true, true, true, true, true, true, true, true, true, true, true, true, true, true, true, true, true, true, true, true, true, true, true, true, true, false, false, false, false] rfl rfl (any_of HT_.out (by kernel_rfl)) (fun _ _ _ h => h) (Or.inl ⟨by rfl, ?_⟩) ?_ ?_
                    rotate_left
                    · intro w'
                      go_simp
                      try with_reducible rfl
                    rotate_left
                    · simp only [Act.put, List.setIfInBounds_toArray, List.set_cons_zero, List.set_cons_succ]
                      rfl
                    refine one_ (i := 27) (N := some 99) #[true, true, true, true, true, true, true, true, true, true, true, true, true, true, true, true, true, true, true, true, true, true, true, true, true, true, true, true, false, false, false] rfl rfl (one_of HT_.out (by kernel_rfl)) (by decide) (fun K hK => ?_)
                    refine goes_ Tryz.func56 (by kernel_rfl) rfl #[.int .i64 (k : Int)] (by rfl) rfl rfl (by (try simp only [List.map_toArray, List.map_cons, List.map_nil]); first | done | rfl) ?_
                    with_reducible refine (HNt.out _ hbc0).mono ?_
                    rintro ev w21 ⟨rfl, hbc1⟩
                    refine ⟨_, rfl, ?_⟩
                    refine hK.out _ _ (HS.out _ hbc1) (fun hHeld => ?_)
                    clear hK K
                    refine norm_ (a' := ?_) ?_ ?_
                    rotate_left
                    · show Act.put _ (some 99) _ = _
                      simp only [Act.put, List.setIfInBounds_toArray, List.set_cons_zero, List.set_cons_succ]
                      rfl
                    refine pure_ (i := 28) (N := some 100) (v := ?_) (a' := ?_) #[true, true, true, true, true, true, true, true, true, true, true, true, true, true, true, true, true, true, true, true, true, true, true, true, true, true, true, true, true, false, false] rfl rfl (any_of HT_.out (by kernel_rfl)) (fun _ _ _ h => h) (Or.inl ⟨by rfl, ?_⟩) ?_ ?_
                    rotate_left
                    · intro w'
                      go_simp
                      try with_reducible rfl
                    rotate_left
                    · simp only [Act.put, List.setIfInBounds_toArray, List.set_cons_zero, List.set_cons_succ]
                      rfl
                    refine pure_ (i := 29) (N := some 101) (v := ?_) (a' := ?_) #[true, true, true, true, true, true, true, true, true, true, true, true, true, true, true, true, true, true, true, true, true, true, true, true, true, true, true, true, true, true, false] rfl rfl (any_of HT_.out (by kernel_rfl)) (fun _ _ _ h => h) (Or.inl ⟨by rfl, ?_⟩) ?_ ?_
                    rotate_left
                    · intro w'
                      go_simp
                      try with_reducible rfl
                    rotate_left
                    · simp only [Act.put, List.setIfInBounds_toArray, List.set_cons_zero, List.set_cons_succ]
                      rfl
                    refine pure_ (i := 30) (N := some 102) (v := ?_) (a' := ?_) #[true, true, true, true, true, true, true, true, true, true, true, true, true, true, true, true, true, true, true, true, true, true, true, true, true, true, true, true, true, true, true] rfl rfl (any_of HT_.out (by kernel_rfl)) (fun _ _ _ h => h) (Or.inl ⟨by rfl, ?_⟩) ?_ ?_
                    rotate_left
                    · intro w'
                      go_simp
                      try with_reducible rfl
                    rotate_left
                    · simp only [Act.put, List.setIfInBounds_toArray, List.set_cons_zero, List.set_cons_succ]
                      rfl
                    refine done_ (done_of HT_.out (by kernel_rfl)) ?_
                    -- END REGION A
                    go_wp2
                    go_roundw
                    case rel => exact ⟨j + 1, by omega, by go_num, Lib.hid (HB6.out.trans (hbc1.mono HB6.out.size))⟩
                    case measure => simp [intOf]; omega
                  · have t1 : decide ((j : Int) < (m : Int)) = false := by simp; omega
                    have t3 : decide (m ≤ j) = true := by simp; omega
                    have t4 : decide (j < m) = false := by simp; omega
                    have HS : Hid (∀ w', Below wr.heap.size wr w' → (w'.cell? ⟨ga, k, none⟩ = some (.slice (some ⟨gc, 0, none⟩) (m + 9) cc) ∧ w'.cell? ⟨gc, j, none⟩ = some (.string (noteB k)) ∧ w'.cell? ⟨gb, k, none⟩ = some (.slice (some ⟨gd, 0, none⟩) m cd))) := Lib.hid fun w' b => ⟨kept_cell' H1.out (HB6.out.trans (b.mono HB6.out.size)), kept_cell' HU.out (HB6.out.trans (b.mono HB6.out.size)), kept_cell' H3.out (HB6.out.trans (b.mono HB6.out.size))⟩
                    clear hjm
                    go_wp2_with fail
                    -- REGION B
                    refine start_ (n := 31) (S := fun w' => w'.cell? ⟨ga, k, none⟩ = some (.slice (some ⟨gc, 0, none⟩) (m + 9) cc) ∧ w'.cell? ⟨gc, j, none⟩ = some (.string (noteB k)) ∧ w'.cell? ⟨gb, k, none⟩ = some (.slice (some ⟨gd, 0, none⟩) m cd)) (ds := []) #[false, false, false, false, false, false, false, false, false, false, false, false, false, false, false, false, false, false, false, false, false, false, false, false, false, false, false, false, false, false, false] (by kernel_rfl) rfl rfl (HS.out _ hb0) (fun hHeld => ?_); refine with_tab at_tab (fun HT_ => ?_)
                    generalize wr.drew = w7 at hb0 hHeld ⊢
                    refine pure_ (i := 0) (N := some 72) (v := ?_) (a' := ?_) #[true, false, false, false, false, false, false, false, false, false, false, false, false, false, false, false, false, false, false, false, false, false, false, false, false, false, false, false, false, false, false] rfl rfl (any_of HT_.out (by kernel_rfl)) (fun _ _ _ h => h) (Or.inl ⟨by rfl, ?_⟩) ?_ ?_
                    rotate_left
                    · intro w'
                      go_simp
                      try with_reducible rfl
                    rotate_left
                    · simp only [Act.put, List.setIfInBounds_toArray, List.set_cons_zero, List.set_cons_succ]
                      rfl
                    refine pure_ (i := 1) (N := some 73) (v := ?_) (a' := ?_) #[true, true, false, false, false, false, false, false, false, false, false, false, false, false, false, false, false, false, false, false, false, false, false, false, false, false, false, false, false, false, false] rfl rfl (any_of HT_.out (by kernel_rfl)) (fun _ _ _ h => h) (Or.inl ⟨by rfl, ?_⟩) ?_ ?_
                    rotate_left
                    · intro w'
                      go_simp
                      try with_reducible rfl
                    rotate_left
                    · simp only [Act.put, List.setIfInBounds_toArray, List.set_cons_zero, List.set_cons_succ]
                      rfl
                    refine pure_ (i := 2) (N := some 74) (v := ?_) (a' := ?_) #[true, true, true, false, false, false, false, false, false, false, false, false, false, false, false, false, false, false, false, false, false, false, false, false, false, false, false, false, false, false, false] rfl rfl (any_of HT_.out (by kernel_rfl)) (fun _ _ _ h => h) (Or.inl ⟨by rfl, ?_⟩) ?_ ?_
                    rotate_left
                    · intro w'
                      go_simp
                      try with_reducible rfl
                    rotate_left
                    · simp only [Act.put, List.setIfInBounds_toArray, List.set_cons_zero, List.set_cons_succ]
                      rfl
                    refine take_ (i := 3) (N := some 75) (v := ?_) (a' := ?_) #[true, true, true, true, false, false, false, false, false, false, false, false, false, false, false, false, false, false, false, false, false, false, false, false, false, false, false, false, false, false, false] rfl rfl (take_of HT_.out (by kernel_rfl)) (fun _ _ _ h => h) (Or.inl ⟨by rfl, ?_⟩) hHeld ?_ ?_
                    rotate_left
                    · rintro w' ⟨s1, s2, s3⟩
                      go_simp
                      try with_reducible rfl
                    rotate_left
                    · simp only [Act.put, List.setIfInBounds_toArray, List.set_cons_zero, List.set_cons_succ]
                      rfl
                    refine pure_ (i := 4) (N := some 76) (v := ?_) (a' := ?_) #[true, true, true, true, true, false, false, false, false, false, false, false, false, false, false, false, false, false, false, false, false, false, false, false, false, false, false, false, false, false, false] rfl rfl (any_of HT_.out (by kernel_rfl)) (fun _ _ _ h => h) (Or.inl ⟨by rfl, ?_⟩) ?_ ?_
                    rotate_left
                    · intro w'
                      go_simp
                      try with_reducible rfl
                    rotate_left
                    · simp only [Act.put, List.setIfInBounds_toArray, List.set_cons_zero, List.set_cons_succ]
                      rfl
                    refine pure_ (i := 5) (N := some 77) (v := ?_) (a' := ?_) #[true, true, true, true, true, true, false, false, false, false, false, false, false, false, false, false, false, false, false, false, false, false, false, false, false, false, false, false, false, false, false] rfl rfl (any_of HT_.out (by kernel_rfl)) (fun _ _ _ h => h) (Or.inl ⟨by rfl, ?_⟩) ?_ ?_
                    rotate_left
                    · intro w'
                      go_simp
                      try with_reducible rfl
                    rotate_left
                    · simp only [Act.put, List.setIfInBounds_toArray, List.set_cons_zero, List.set_cons_succ]
                      rfl
                    refine take_ (i := 6) (N := some 78) (v := ?_) (a' := ?_) #[true, true, true, true, true, true, true, false, false, false, false, false, false, false, false, false, false, false, false, false, false, false, false, false, false, false, false, false, false, false, false] rfl rfl (take_of HT_.out (by kernel_rfl)) (fun _ _ _ h => h) (Or.inl ⟨by rfl, ?_⟩) hHeld ?_ ?_
                    rotate_left
                    · rintro w' ⟨s1, s2, s3⟩
                      go_simp
                      try with_reducible rfl
                    rotate_left
                    · simp only [Act.put, List.setIfInBounds_toArray, List.set_cons_zero, List.set_cons_succ]
                      rfl
                    refine pure_ (i := 7) (N := some 79) (v := ?_) (a' := ?_) #[true, true, true, true, true, true, true, true, false, false, false, false, false, false, false, false, false, false, false, false, false, false, false, false, false, false, false, false, false, false, false] rfl rfl (any_of HT_.out (by kernel_rfl)) (fun _ _ _ h => h) (Or.inl ⟨by rfl, ?_⟩) ?_ ?_
                    rotate_left
                    · intro w'
                      go_simp
                      try with_reducible rfl
                    rotate_left
                    · simp only [Act.put, List.setIfInBounds_toArray, List.set_cons_zero, List.set_cons_succ]
                      rfl
                    refine one_ (i := 8) (N := some 80) #[true, true, true, true, true, true, true, true, true, false, false, false, false, false, false, false, false, false, false, false, false, false, false, false, false, false, false, false, false, false, false] rfl rfl (one_of HT_.out (by kernel_rfl)) (by decide) (fun K hK => ?_)
                    refine goes_ Tryz.func56 (by kernel_rfl) rfl #[.int .i64 (k : Int)] (by rfl) rfl rfl (by (try simp only [List.map_toArray, List.map_cons, List.map_nil]); first | done | rfl) ?_
                    with_reducible refine (HNt.out _ hb0).mono ?_
                    rintro ev w20 ⟨rfl, hbc0⟩
                    refine ⟨_, rfl, ?_⟩
                    refine hK.out _ _ (HS.out _ hbc0) (fun hHeld => ?_)
                    clear hK K
                    refine norm_ (a' := ?_) ?_ ?_
                    rotate_left
                    · show Act.put _ (some 80) _ = _
                      simp only [Act.put, List.setIfInBounds_toArray, List.set_cons_zero, List.set_cons_succ]
                      rfl
                    refine pure_ (i := 9) (N := some 81) (v := ?_) (a' := ?_) #[true, true, true, true, true, true, true, true, true, true, false, false, false, false, false, false, false, false, false, false, false, false, false, false, false, false, false, false, false, false, false] rfl rfl (any_of HT_.out (by kernel_rfl)) (fun _ _ _ h => h) (Or.inl ⟨by rfl, ?_⟩) ?_ ?_
                    rotate_left
                    · intro w'
                      go_simp
                      try with_reducible rfl
                    rotate_left
                    · simp only [Act.put, List.setIfInBounds_toArray, List.set_cons_zero, List.set_cons_succ]
                      rfl
                    refine pure_ (i := 10) (N := some 82) (v := ?_) (a' := ?_) #[true, true, true, true, true, true, true, true, true, true, true, false, false, false, false, false, false, false, false, false, false, false, false, false, false, false, false, false, false, false, false] rfl rfl (any_of HT_.out (by kernel_rfl)) (fun _ _ _ h => h) (Or.inl ⟨by rfl, ?_⟩) ?_ ?_
                    rotate_left
                    · intro w'
                      go_simp
                      try with_reducible rfl
                    rotate_left
                    · simp only [Act.put, List.setIfInBounds_toArray, List.set_cons_zero, List.set_cons_succ]
                      rfl
                    refine pure_ (i := 11) (N := some 83) (v := ?_) (a' := ?_) #[true, true, true, true, true, true, true, true, true, true, true, true, false, false, false, false, false, false, false, false, false, false, false, false, false, false, false, false, false, false, false] rfl rfl (any_of HT_.out (by kernel_rfl)) (fun _ _ _ h => h) (Or.inl ⟨by rfl, ?_⟩) ?_ ?_
                    rotate_left
                    · intro w'
                      go_simp
                      try with_reducible rfl
                    rotate_left
                    · simp only [Act.put, List.setIfInBounds_toArray, List.set_cons_zero, List.set_cons_succ]
                      rfl
                    refine pure_ (i := 12) (N := some 84) (v := ?_) (a' := ?_) #[true, true, true, true, true, true, true, true, true, true, true, true, true, false, false, false, false, false, false, false, false, false, false, false, false, false, false, false, false, false, false] rfl rfl (any_of HT_.out (by kernel_rfl)) (fun _ _ _ h => h) (Or.inl ⟨by rfl, ?_⟩) ?_ ?_
                    rotate_left
                    · intro w'
                      go_simp
                      try with_reducible rfl
                    rotate_left
                    · simp only [Act.put, List.setIfInBounds_toArray, List.set_cons_zero, List.set_cons_succ]
                      rfl
                    refine pure_ (i := 13) (N := some 85) (v := ?_) (a' := ?_) #[true, true, true, true, true, true, true, true, true, true, true, true, true, true, false, false, false, false, false, false, false, false, false, false, false, false, false, false, false, false, false] rfl rfl (any_of HT_.out (by kernel_rfl)) (fun _ _ _ h => h) (Or.inl ⟨by rfl, ?_⟩) ?_ ?_
                    rotate_left
                    · intro w'
                      go_simp
                      try with_reducible rfl
                    rotate_left
                    · simp only [Act.put, List.setIfInBounds_toArray, List.set_cons_zero, List.set_cons_succ]
                      rfl
                    refine pure_ (i := 14) (N := some 86) (v := ?_) (a' := ?_) #[true, true, true, true, true, true, true, true, true, true, true, true, true, true, true, false, false, false, false, false, false, false, false, false, false, false, false, false, false, false, false] rfl rfl (any_of HT_.out (by kernel_rfl)) (fun _ _ _ h => h) (Or.inl ⟨by rfl, ?_⟩) ?_ ?_
                    rotate_left
                    · intro w'
                      go_simp
                      try with_reducible rfl
                    rotate_left
                    · simp only [Act.put, List.setIfInBounds_toArray, List.set_cons_zero, List.set_cons_succ]
                      rfl
                    refine take_ (i := 15) (N := some 87) (v := ?_) (a' := ?_) #[true, true, true, true, true, true, true, true, true, true, true, true, true, true, true, true, false, false, false, false, false, false, false, false, false, false, false, false, false, false, false] rfl rfl (take_of HT_.out (by kernel_rfl)) (fun _ _ _ h => h) (Or.inl ⟨by rfl, ?_⟩) hHeld ?_ ?_
                    rotate_left
                    · rintro w' ⟨s1, s2, s3⟩
                      go_simp
                      try with_reducible rfl
                    rotate_left
                    · simp only [Act.put, List.setIfInBounds_toArray, List.set_cons_zero, List.set_cons_succ]
                      rfl
                    refine pure_ (i := 16) (N := some 88) (v := ?_) (a' := ?_) #[true, true, true, true, true, true, true, true, true, true, true, true, true, true, true, true, true, false, false, false, false, false, false, false, false, false, false, false, false, false, false] rfl rfl (any_of HT_.out (by kernel_rfl)) (fun _ _ _ h => h) (Or.inl ⟨by rfl, ?_⟩) ?_ ?_
                    rotate_left
                    · intro w'
                      go_simp
                      try with_reducible rfl
                    rotate_left
                    · simp only [Act.put, List.setIfInBounds_toArray, List.set_cons_zero, List.set_cons_succ]
                      rfl
                    refine pure_ (i := 17) (N := some 89) (v := ?_) (a' := ?_) #[true, true, true, true, true, true, true, true, true, true, true, true, true, true, true, true, true, true, false, false, false, false, false, false, false, false, false, false, false, false, false] rfl rfl (any_of HT_.out (by kernel_rfl)) (fun _ _ _ h => h) (Or.inl ⟨by rfl, ?_⟩) ?_ ?_
                    rotate_left
                    · intro w'
                      go_simp
                      try with_reducible rfl
                    rotate_left
                    · simp only [Act.put, List.setIfInBounds_toArray, List.set_cons_zero, List.set_cons_succ]
                      rfl
                    refine pure_ (i := 18) (N := some 90) (v := ?_) (a' := ?_) #[true, true, true, true, true, true, true, true, true, true, true, true, true, true, true, true, true, true, true, false, false, false, false, false, false, false, false, false, false, false, false] rfl rfl (any_of HT_.out (by kernel_rfl)) (fun _ _ _ h => h) (Or.inl ⟨by rfl, ?_⟩) ?_ ?_
                    rotate_left
                    · intro w'
                      go_simp
                      try with_reducible rfl
                    rotate_left
                    · simp only [Act.put, List.setIfInBounds_toArray, List.set_cons_zero, List.set_cons_succ]
                      rfl
                    refine pure_ (i := 19) (N := some 91) (v := undef) (a' := ?_) #[true, true, true, true, true, true, true, true, true, true, true, true, true, true, true, true, true, true, true, true, false, false, false, false, false, false, false, false, false, false, false] rfl rfl (any_of HT_.out (by kernel_rfl)) (fun _ _ _ h => h) (Or.inr ⟨by rfl, rfl⟩) ?_ ?_
                    rotate_left
                    · simp only [Act.put, List.setIfInBounds_toArray, List.set_cons_zero, List.set_cons_succ]
                      rfl
                    refine pure_ (i := 20) (N := some 92) (v := undef) (a' := ?_) #[true, true, true, true, true, true, true, true, true, true, true, true, true, true, true, true, true, true, true, true, true, false, false, false, false, false, false, false, false, false, false] rfl rfl (any_of HT_.out (by kernel_rfl)) (fun _ _ _ h => h) (Or.inr ⟨by rfl, rfl⟩) ?_ ?_
                    rotate_left
                    · simp only [Act.put, List.setIfInBounds_toArray, List.set_cons_zero, List.set_cons_succ]
                      rfl
                    refine pure_ (i := 21) (N := some 93) (v := undef) (a' := ?_) #[true, true, true, true, true, true, true, true, true, true, true, true, true, true, true, true, true, true, true, true, true, true, false, false, false, false, false, false, false, false, false] rfl rfl (any_of HT_.out (by kernel_rfl)) (fun _ _ _ h => h) (Or.inr ⟨by rfl, rfl⟩) ?_ ?_
                    rotate_left
                    · simp only [Act.put, List.setIfInBounds_toArray, List.set_cons_zero, List.set_cons_succ]
                      rfl
                    refine pure_ (i := 22) (N := some 94) (v := undef) (a' := ?_) #[true, true, true, true, true, true, true, true, true, true, true, true, true, true, true, true, true, true, true, true, true, true, true, false, false, false, false, false, false, false, false] rfl rfl (any_of HT_.out (by kernel_rfl)) (fun _ _ _ h => h) (Or.inr ⟨by rfl, rfl⟩) ?_ ?_
                    rotate_left
                    · simp only [Act.put, List.setIfInBounds_toArray, List.set_cons_zero, List.set_cons_succ]
                      rfl
                    refine pure_ (i := 23) (N := some 95) (v := undef) (a' := ?_) #[true, true, true, true, true, true, true, true, true, true, true, true, true, true, true, true, true, true, true, true, true, true, true, true, false, false, false, false, false, false, false] rfl rfl (any_of HT_.out (by kernel_rfl)) (fun _ _ _ h => h) (Or.inr ⟨by rfl, rfl⟩) ?_ ?_
                    rotate_left
                    · simp only [Act.put, List.setIfInBounds_toArray, List.set_cons_zero, List.set_cons_succ]
                      rfl
                    refine pure_ (i := 24) (N := some 96) (v := undef) (a' := ?_) #[true, true, true, true, true, true, true, true, true, true, true, true, true, true, true, true, true, true, true, true, true, true, true, true, true, false, false, false, false, false, false] rfl rfl (any_of HT_.out (by kernel_rfl)) (fun _ _ _ h => h) (Or.inr ⟨by rfl, rfl⟩) ?_ ?_
                    rotate_left
                    · simp only [Act.put, List.setIfInBounds_toArray, List.set_cons_zero, List.set_cons_succ]
                      rfl
                    refine pure_ (i := 25) (N := some 97) (v := undef) (a' := ?_) #[true, true, true, true, true, true, true, true, true, true, true, true, true, true, true, true, true, true, true, true, true, true, true, true, true, true, false, false, false, false, false] rfl rfl (any_of HT_.out (by kernel_rfl)) (fun _ _ _ h => h) (Or.inr ⟨by rfl, rfl⟩) ?_ ?_
                    rotate_left
                    · simp only [Act.put, List.setIfInBounds_toArray, List.set_cons_zero, List.set_cons_succ]
                      rfl
                    refine pure_ (i := 26) (N := some 98) (v := undef) (a' := ?_) #[true, true, true, true, true, true, true, true, true, true, true, true, true, true, true, true, true, true, true, true, true, true, true, true, true, true, true, false, false, false, false] rfl rfl (any_of HT_.out (by kernel_rfl)) (fun _ _ _ h => h) (Or.inr ⟨by rfl, rfl⟩) ?_ ?_
                    rotate_left
                    · simp only [Act.put, List.setIfInBounds_toArray, List.set_cons_zero, List.set_cons_succ]
                      rfl
                    refine one_ (i := 27) (N := some 99) #[true, true, true, true, true, true, true, true, true, true, true, true, true, true, true, true, true, true, true, true, true, true, true, true, true, true, true, true, false, false, false] rfl rfl (one_of HT_.out (by kernel_rfl)) (by decide) (fun K hK => ?_)
                    refine off_ (by rfl) ?_
                    refine hK.out _ _ hHeld (fun hHeld => ?_)
                    clear hK K
                    refine norm_ (a' := ?_) ?_ ?_
                    rotate_left
                    · show Act.put _ (some 99) _ = _
                      simp only [Act.put, List.setIfInBounds_toArray, List.set_cons_zero, List.set_cons_succ]
                      rfl
                    refine pure_ (i := 28) (N := some 100) (v := undef) (a' := ?_) #[true, true, true, true, true, true, true, true, true, true, true, true, true, true, true, true, true, true, true, true, true, true, true, true, true, true, true, true, true, false, false] rfl rfl (any_of HT_.out (by kernel_rfl)) (fun _ _ _ h => h) (Or.inr ⟨by rfl, rfl⟩) ?_ ?_
                    rotate_left
                    · simp only [Act.put, List.setIfInBounds_toArray, List.set_cons_zero, List.set_cons_succ]
                      rfl
                    refine pure_ (i := 29) (N := some 101) (v := ?_) (a' := ?_) #[true, true, true, true, true, true, true, true, true, true, true, true, true, true, true, true, true, true, true, true, true, true, true, true, true, true, true, true, true, true, false] rfl rfl (any_of HT_.out (by kernel_rfl)) (fun _ _ _ h => h) (Or.inl ⟨by rfl, ?_⟩) ?_ ?_
                    rotate_left
                    · intro w'
                      go_simp
                      try with_reducible rfl
                    rotate_left
                    · simp only [Act.put, List.setIfInBounds_toArray, List.set_cons_zero, List.set_cons_succ]
                      rfl
                    refine pure_ (i := 30) (N := some 102) (v := ?_) (a' := ?_) #[true, true, true, true, true, true, true, true, true, true, true, true, true, true, true, true, true, true, true, true, true, true, true, true, true, true, true, true, true, true, true] rfl rfl (any_of HT_.out (by kernel_rfl)) (fun _ _ _ h => h) (Or.inl ⟨by rfl, ?_⟩) ?_ ?_
                    rotate_left
                    · intro w'
                      go_simp
                      try with_reducible rfl
                    rotate_left
                    · simp only [Act.put, List.setIfInBounds_toArray, List.set_cons_zero, List.set_cons_succ]
                      rfl
                    refine done_ (done_of HT_.out (by kernel_rfl)) ?_
                    -- END REGION B
                    go_wp2
                    go_roundw
                    case rel => exact ⟨j + 1, by omega, by go_num, Lib.hid (HB6.out.trans (hbc0.mono HB6.out.size))⟩
                    case measure => simp [intOf]; omega
                · obtain rfl : j = m + 9 := by omega
                  clear hj hjl
                  go_wp2
                  go_roundw
                  case rel => exact ⟨k + 1, by omega, by go_num, HB6⟩
                  case measure => simp [intOf]; omega
            · obtain rfl : n = k := by omega
              go_wp2
              go_ret
              exact ⟨rfl, HF.out.below HB5.out⟩
end Go.Proofs.YtappphffbnkloaaGreatDoor.Sht
set_option linter.unusedVariables false
set_option linter.unusedSimpArgs false
namespace Go.Proofs.YtappphffbnkloaaGreatDoor.Sht
open Go Go.RowKit Go.Proofs.YtappphffbnkloaaGreatDoorW.PrintWords Go.Proofs.YtappphffbnkloaaGreatDoorW.PrintLast Go.Proofs.YtappphffbnkloaaGreatDoor.GS
attribute [local go_sem ↓] Go.wp_at_zero Go.wp_at_succ
theorem keep9_of {B : Nat} {w w' : World} {g : Nat} {cs : Array Value} {e : TypeId} (hg : w.heap[g]? = some (.cells cs e (0, 0))) (he : e ≠ 9) (hk : ∀ j, j < w.heap.size → j ≠ g → w'.heap[j]? = w.heap[j]?) : Keep9 B w w' := fun j cs' _ hh => hk j (blt hh) fun q => by
  subst q
  rw [hh] at hg
  exact he (Obj.cells.inj (Option.some.inj hg)).2.1.symm
theorem keep9_set {B : Nat} {w : World} {g i : Nat} {u : Value} {cs : Array Value} {e : TypeId} (hg : w.heap[g]? = some (.cells cs e (0, 0))) (he : e ≠ 9) : Keep9 B w (w.setCell ⟨g, i, none⟩ u) := keep9_of hg he fun j _ hn => Below.heap_setCell w ⟨g, i, none⟩ u j hn
theorem keep9_grown {B B' : Nat} {w w' : World} {e : TypeId} {v : Value} {n : Nat} {xs : List Value} {o : Obj} (hv : w.ownsRow B' e 1 v n xs) (he : e ≠ 9) (hg : (w.alloc o).grownBy w' v.ownBlock) : Keep9 B w w' := fun j cs _ hh => by
  have h1 : (w.alloc o).heap[j]? = w.heap[j]? := ((Below.refl w.heap.size w).alloc (Nat.le_refl _) o).block j (blt hh)
  refine (hg.block j (by simp; have := blt hh; omega) fun q => ?_).trans h1
  obtain ⟨cs', hc'⟩ := kind_row hv j q.symm
  rw [hh] at hc'
  exact he (Obj.cells.inj (Option.some.inj hc')).2.1.symm
theorem Nrow.keep {B : Nat} {w w' : World} {u : Value} {i : Nat} (h : Nrow w B u i) (k : Keep9 B w w') : Nrow w' B u i := by
  obtain ⟨gx, rfl, h1, h2⟩ := h
  exact ⟨gx, rfl, h1, (k gx _ h1 h2).trans h2⟩
theorem Nrow.new {B : Nat} (w : World) (i : Nat) (hB : B ≤ w.heap.size) : Nrow (w.alloc (.cells #[.string (noteB i)] 9)) B (.slice (some ⟨w.heap.size, 0, none⟩) 1 1) i :=
  ⟨w.heap.size, rfl, hB, heap_alloc_new w _⟩
/-- append(m, l) of a list of lists, with what became of the old cells -/
theorem wpList_append_slice2 {w : World} {ops : Array Oper} {rest : List Oper} {o : Oper} {a : Act} {Q : Exit → Act → World → Prop} (hgd : o.guard = none) (s x : Operand)
    (ho : o.op = .call { callee := .builtin .append, args := #[s, x], argTypes := #[30, 30] }) (base g n cap : Nat) (xs : List Value) (u : Value) (hu : u.oneCell' = true) (hs : a.eval s = .slice (some ⟨g, 0, none⟩) n cap) (hown : w.ownsRow base 28 1 (.slice (some ⟨g, 0, none⟩) n cap) n xs)
    (hx : a.eval x = .slice (some ⟨w.heap.size, 0, none⟩) 1 1) (hb : (n + 1) * 24 ≤ 140737488355328) (hbase : base ≤ w.heap.size)
    (h : ∀ v' w', w'.ownsRow base 28 1 v' (n + 1) (xs ++ [u]) → (w.alloc (.cells #[u] 28)).grownBy w' (some g) → (v' = .slice (some ⟨g, 0, none⟩) (n + 1) cap ∨ (v'.ownBlock = some (w.alloc (.cells #[u] 28)).heap.size ∧ ∀ j, j < (w.alloc (.cells #[u] 28)).heap.size → w'.heap[j]? = (w.alloc (.cells #[u] 28)).heap[j]?)) → wpList Tryz.prog ops Q rest (a.put o.dst v') w') : wpList Tryz.prog ops Q (o :: rest) a (w.alloc (.cells #[u] 28)) := by
  obtain ⟨i0, hi, hz0, hz1, hz2⟩ := info_parts info28
  exact wpList_append_two hgd s x base 30 28 ho i0 _ 24 Tryz.underlying30 hi hz0 hz1 hz2 rfl g n cap xs hs (hown.alloc _) ⟨w.heap.size, 0, none⟩ 1 1 [u] hx rfl
    (fun j q hj => by
      match j, hj with
      | 0, hj => simp at hj; subst hj; simp [Addr.add])
    (fun q hq => by simp at hq; subst hq; exact hu) (by unfold maxLen; omega) hb (by simp; omega) h
/-- the same at an empty list -/
theorem wpList_append_slice0 {w : World} {ops : Array Oper} {rest : List Oper} {o : Oper} {a : Act} {Q : Exit → Act → World → Prop} (hgd : o.guard = none) (s x : Operand)
    (ho : o.op = .call { callee := .builtin .append, args := #[s, x], argTypes := #[30, 30] }) (base : Nat) (u : Value) (hu : u.oneCell' = true) (hs : a.eval s = .slice none 0 0)
    (hx : a.eval x = .slice (some ⟨w.heap.size, 0, none⟩) 1 1) (hbase : base ≤ w.heap.size)
    (h : ∀ g cap w', w'.ownsRow base 28 1 (.slice (some ⟨g, 0, none⟩) 1 cap) 1 [u] → (w.alloc (.cells #[u] 28)).grownBy w' none → g = (w.alloc (.cells #[u] 28)).heap.size → wpList Tryz.prog ops Q rest (a.put o.dst (.slice (some ⟨g, 0, none⟩) 1 cap)) w') : wpList Tryz.prog ops Q (o :: rest) a (w.alloc (.cells #[u] 28)) := by
  obtain ⟨i0, hi, hz0, hz1, hz2⟩ := info_parts info28
  refine wpList_append_lies (w.alloc (.cells #[u] 28)) hgd s x 30 ho base 28 i0 _ 1 24 Tryz.underlying30 hi hz0 hz1 hz2 rfl (by decide) (.slice none 0 0) 0 [] hs (World.ownsRow_nil _ _ _ _) ⟨w.heap.size, 0, none⟩ 1 1 [u] hx rfl
    (World.news_of_block (cs := #[u]) (t := 28) (fr := (0, 0)) (heap_alloc_new w _)) (fun q hq => by simp at hq; subst hq; exact hu) (by omega) (by unfold maxLen; omega) (by omega) (by simp; omega) _ rfl ?_
  intro g cap w' h1 h2 h3 h4
  rcases h3 with e | e
  · cases e
  · exact h g cap w' (by simpa using h1) h2 e
/-- loop 1: the lists below k hold their marks, list k its first j -/
def Mkd (S n : Nat) (len : Nat → Nat) (k j : Nat) (w : World) (E : Nat → List Value) : Prop :=
  (∀ i, i < n → (E i).length = len i) ∧ (∀ i, i < k → ∀ u ∈ E i, Nrow w S u i) ∧ ∀ q, q < j → ∃ u, (E k)[q]? = some u ∧ Nrow w S u k
theorem Mkd.keep {S n : Nat} {len : Nat → Nat} {k j : Nat} {w w' : World} {E : Nat → List Value} (h : Mkd S n len k j w E) (q : Keep9 S w w') : Mkd S n len k j w' E :=
  ⟨h.1, fun i hi u hu => (h.2.1 i hi u hu).keep q, fun p hp => by
    obtain ⟨u, h1, h2⟩ := h.2.2 p hp
    exact ⟨u, h1, h2.keep q⟩⟩
theorem Mkd.set {S n : Nat} {len : Nat → Nat} {k j : Nat} {w : World} {E : Nat → List Value} {u : Value} (h : Mkd S n len k j w E) (hk : k < n) (hj : j < len k) (hu : Nrow w S u k) : Mkd S n len k (j + 1) w (upd E k ((E k).set j u)) := by
  refine ⟨fun i hi => ?_, fun i hi x hx => ?_, fun q hq => ?_⟩
  · rw [upd_len]
    split
    · rename_i e
      rw [List.length_set, h.1 k hk, e]
    · exact h.1 i hi
  · unfold upd at hx
    rw [if_neg (by omega)] at hx
    exact h.2.1 i hi x hx
  · rw [upd_at]
    by_cases e : q = j
    · subst e
      exact ⟨u, List.getElem?_set_self (by rw [h.1 k hk]; exact hj), hu⟩
    · obtain ⟨x, h1, h2⟩ := h.2.2 q (by omega)
      exact ⟨x, by rw [List.getElem?_set_ne (by omega)]; exact h1, h2⟩
theorem Mkd.next {S n : Nat} {len : Nat → Nat} {k : Nat} {w : World} {E : Nat → List Value} (h : Mkd S n len k (len k) w E) (hk : k < n) : Mkd S n len (k + 1) 0 w E :=
  ⟨h.1, fun i hi u hu => by
    by_cases e : i = k
    · subst e
      obtain ⟨q, hq⟩ := List.mem_iff_getElem?.1 hu
      obtain ⟨hql, _⟩ := List.getElem?_eq_some_iff.1 hq
      obtain ⟨x, h1, h2⟩ := h.2.2 q (by rw [← h.1 i hk]; exact hql)
      rw [hq] at h1
      rw [Option.some.inj h1]
      exact h2
    · exact h.2.1 i (by omega) u hu, fun q hq => absurd hq (Nat.not_lt_zero _)⟩
theorem rows_set2 {e0 e : TypeId} {v0 v : Value} {c0 xs : List Value} {n k : Nat} {V : Nat → Value} {E : Nat → List Value} {L : List En} (hk : k < n) (hv : V k = v) :
    ((e0, v0, c0) :: (rowsE e n V E ++ L)).set (k + 1) (e, v, xs) = (e0, v0, c0) :: (rowsE e n V (upd E k xs) ++ L) := by
  rw [List.set_cons_succ, List.set_append_left _ _ (by rw [rowsE_len]; exact hk), rowsE_set hk, ← hv, upd_same]
set_option maxHeartbeats 4000000 in
set_option maxRecDepth 100000 in
theorem apartRows_r (B n capt : Nat) (tx' : Option Addr) (V : Nat → Value) (len : Nat → Nat) (E0 : Nat → List Value) (L : List En) (w : World) (hL : OwnsAll w B ((30, .slice tx' n capt, (List.range n).map V) :: (rowsE 28 n V E0 ++ L)))
    (hV : ∀ i, i < n → (∃ g c, V i = .slice (some ⟨g, 0, none⟩) (len i) c) ∨ (len i = 0 ∧ V i = .slice none 0 0)) (hE : ∀ i, i < n → (E0 i).length = len i ∧ len i ≤ 1000000) (hn : n ≤ 5000000000000) :
    Calls Tryz.prog 54 #[.slice tx' n capt] w fun e w' => e = .returned (.bool true) ∧ Rw n V w w' := by
  have HL := Lib.hid hL
  have HV := Lib.hid hV
  have HE := Lib.hid hE
  clear hL hV hE
  go_enter Tryz.func54, Tryz.ntmps54
  go_wp2
  go_loopw [3, 4] (fun i _ wr => ∃ (k : Nat) (E : Nat → List Value), k ≤ n ∧ i = .int .i64 (k : Int) ∧ Hid (OwnsAll wr B ((30, .slice tx' n capt, (List.range n).map V) :: (rowsE 28 n V E ++ L))) ∧ Hid (Mkd w.heap.size n len k 0 wr E) ∧ Hid (Rw n V w wr)) (fun i _ _ => n - (intOf i).toNat)
  case atStart => exact ⟨0, E0, Nat.zero_le _, rfl, HL, Lib.hid ⟨fun i hi => (HE.out i hi).1, fun i hi => absurd hi (Nat.not_lt_zero _), fun q hq => absurd hq (Nat.not_lt_zero _)⟩, Lib.hid (Rw.refl _ _ _)⟩
  case round =>
    obtain ⟨k, E, hk, rfl, HO, HM, HF⟩ := hrel
    by_cases hlt : k < n
    · obtain ⟨ax, cap, hVk⟩ : ∃ ax cap, V k = .slice ax (len k) cap := by
        rcases HV.out k hlt with ⟨g, c, q⟩ | ⟨q0, q⟩
        · exact ⟨_, c, q⟩
        · exact ⟨none, 0, by rw [q, q0]⟩
      have hl := (HE.out k hlt).2
      have hown : wr.ownsRow B 30 1 (.slice tx' n capt) ((List.range n).map V).length ((List.range n).map V) := HO.out.head
      obtain ⟨gt, ct, e, _, z⟩ := own_read hown (i := k) (by simpa using hlt)
      obtain rfl : tx' = some ⟨gt, 0, none⟩ := by injection e
      have HVk := Lib.hid hVk
      have n0 : (0 : Int) ≤ (k : Int) := Int.natCast_nonneg _
      have n1 : (k : Int) < (n : Int) := by omega
      clear hVk hown e z
      obtain ⟨m, hm⟩ : ∃ m, m = len k := ⟨_, rfl⟩
      have HMm := Lib.hid hm
      rw [← hm] at hl
      clear hm
      go_wp2
      go_loopw [4] (fun i wr => ∃ (j : Nat) (E : Nat → List Value), j ≤ m ∧ i = .int .i64 (j : Int) ∧ Hid (OwnsAll wr B ((30, .slice (some ⟨gt, 0, none⟩) n capt, (List.range n).map V) :: (rowsE 28 n V E ++ L))) ∧ Hid (Mkd w.heap.size n len k j wr E) ∧ Hid (Rw n V w wr)) (fun i _ => m - (intOf i).toNat)
      case atStart => exact ⟨0, E, Nat.zero_le _, rfl, HO, HM, HF⟩
      case round =>
        clear HO HM HF
        obtain ⟨j, E, hj, rfl, HO, HM, HF⟩ := hrel
        have hc : wr.cell? ⟨gt, k, none⟩ = some (.slice ax m cap) := by
          have hown : wr.ownsRow B 30 1 (.slice (some ⟨gt, 0, none⟩) n capt) ((List.range n).map V).length ((List.range n).map V) := HO.out.head
          obtain ⟨gt', ct', e, _, z⟩ := own_read hown (i := k) (by simpa using hlt)
          obtain rfl : gt = gt' := by
            injection e with e _ _
            injection e with e
            injection e
          refine z k _ ?_
          rw [List.getElem?_map, List.getElem?_range hlt, HMm.out, ← HVk.out]
          rfl
        by_cases hjl : j < m
        · have hx : ((30, .slice (some ⟨gt, 0, none⟩) n capt, (List.range n).map V) :: (rowsE 28 n V E ++ L))[k + 1]? = some (28, .slice ax m cap, E k) := by
            rw [List.getElem?_cons_succ, List.getElem?_append_left (by rw [rowsE_len]; exact hlt), rowsE_get hlt, HVk.out, HMm.out]
          have hek : (E k).length = m := by rw [HM.out.1 k hlt, HMm.out]
          have hox := HO.out.own_at hx
          have hoj : j < (E k).length := by omega
          obtain ⟨g, cap2, e2, _, z3⟩ := own_read hox hoj
          have hs0 := z3 j _ (List.getElem?_eq_getElem hoj)
          obtain rfl : ax = some ⟨g, 0, none⟩ := by injection e2
          have HX := Lib.hid hx
          have HCl := Lib.hid hc
          have HNt : Hid (∀ w1, Below wr.heap.size wr w1 → Calls Tryz.prog 56 #[.int .i64 (k : Int)] w1 fun ev w' => ev = .returned (.string (noteB k)) ∧ Below wr.heap.size wr w') := Lib.hid fun w1 b => (note_r k w1).mono fun _ _ q => ⟨q.1, b.trans (q.2.mono b.size)⟩
          have hb0 : Below wr.heap.size wr wr.drew := (Below.refl _ _).drew
          have m0 : (0 : Int) ≤ (j : Int) := Int.natCast_nonneg _
          have m1 : (j : Int) < (m : Int) := by omega
          have z2 := noteB_size k
          obtain ⟨cur, hcur⟩ := kind_row hox g rfl
          have hne : gt ≠ g := fun q => HO.out.apart (j := gt) rfl (List.mem_flatMap.2 ⟨_, List.mem_append_left _ (List.mem_of_getElem? (rowsE_get hlt)), by rw [HVk.out]; exact mem_ob.2 (by rw [q]; rfl)⟩)
          obtain ⟨x, hxx⟩ : ∃ x, x = (E k)[j] := ⟨_, rfl⟩
          rw [← hxx] at hs0
          have HS0 := Lib.hid hs0
          have HCur := Lib.hid hcur
          have HNe := Lib.hid hne
          have hlg := blt hcur
          clear hx hox hoj e2 z3 hs0 hcur hne hxx
          go_wp2_with fail
          go_region_held3 (fun w' => w'.cell? ⟨gt, k, none⟩ = some (.slice (some ⟨g, 0, none⟩) m cap)) (first | exact kc hb0 HCl.out | exact kc hb2 HCl.out | exact kc hb3 HCl.out | exact kset HNe.out (kc hb3 HCl.out)) (first | (go_at_call 56; (with_reducible refine (HNt.out _ (by assumption)).mono ?_); rintro ev w2 ⟨rfl, hb2⟩; have hb3 := hb2.alloc hb2.size (.cells #[.string (noteB k)] 9); have s1 := kc hb3 HS0.out; have f1 := bfree (blk_below HCur.out hb3) j))
          go_wp2_with fail
          go_roundw
          case rel =>
            have HK := keep9_set (B := w.heap.size) (i := j) (u := .slice (some ⟨w2.heap.size, 0, none⟩) 1 1) (blk_below HCur.out hb3) (by decide)
            refine ⟨j + 1, upd E k ((E k).set j (.slice (some ⟨w2.heap.size, 0, none⟩) 1 1)), by omega, by go_num, Lib.hid (by have := (HO.out.below hb3).set_at HX.out (u := .slice (some ⟨w2.heap.size, 0, none⟩) 1 1) hjl; rw [rows_set2 hlt (by rw [HVk.out, HMm.out])] at this; exact this), Lib.hid (((HM.out.keep (Keep9.below hb3)).keep HK).set hlt (by rw [← HMm.out]; exact hjl) ((Nrow.new w2 k (by have := HF.out.size; have := hb2.size; omega)).keep HK)), Lib.hid ((HF.out.below hb3).set hlt (by rw [HVk.out]) _ _)⟩
          case measure => simp [intOf]; omega
        · obtain rfl : j = m := by omega
          clear hjl hj
          go_wp2
          go_roundw
          case rel => exact ⟨k + 1, E, by omega, by go_num, HO, Lib.hid (by have := HM.out; rw [HMm.out] at this; exact this.next hlt), HF⟩
          case measure => simp [intOf]; omega
    · obtain rfl : n = k := by omega
      clear hlt hk
      have HG0 : Hid (Grow 28 30 w.heap.size B n V len (fun i u => Nrow wr w.heap.size u i) L (.slice tx' n capt) ((List.range n).map V) 0 wr (.slice none 0 0) V [] E) := Lib.hid (by
        have h0 := HO.out
        refine ⟨?_, fun i hi => ?_, fun i hi u hu => HM.out.2.1 i hi u hu, fun i hi => absurd hi (Nat.not_lt_zero _), fun j hj => by cases hj⟩
        · rw [gV_zero]
          exact h0.cons (World.ownsRow_nil _ _ _ _) (fun j hj => by cases hj)
        · rw [HM.out.1 i hi]
          rfl)
      clear HO HM
      obtain ⟨i30, hi30, hz30, hy30, hs30⟩ := info_parts info30
      go_wp2
      go_loopw [5, 6, 7, 8] (fun more i _ _ wr => ∃ (k : Nat) (mo : Value) (M : Nat → Value) (X : List En) (E : Nat → List Value), k ≤ n ∧ mo = more ∧ i = .int .i64 (k : Int) ∧ Hid (Grow 28 30 w.heap.size B n V len (fun i u => Nrow wr w.heap.size u i) L (.slice tx' n capt) ((List.range n).map V) k wr mo M X E) ∧ Hid (Rw n V w wr)) (fun _ i _ _ _ => n - (intOf i).toNat)
      case atStart => exact ⟨0, _, V, [], E, Nat.zero_le _, rfl, rfl, HG0, HF⟩
      case round =>
        clear HG0 HF
        obtain ⟨k, more, M, X, E, hk, rfl, rfl, HG, HF⟩ := hrel
        by_cases hlt : k < n
        · have hl := (HE.out k hlt).2
          have hown : wr.ownsRow B 30 1 (.slice tx' n capt) ((List.range n).map V).length ((List.range n).map V) := HG.out.1.tail.head
          obtain ⟨gt, ct, e, _, z⟩ := own_read hown (i := k) (by simpa using hlt)
          obtain rfl : tx' = some ⟨gt, 0, none⟩ := by injection e
          have hlB := (hown.lt gt rfl)
          have hc : wr.cell? ⟨gt, k, none⟩ = some (V k) := z k _ (by rw [List.getElem?_map, List.getElem?_range hlt]; rfl)
          obtain ⟨m, hm⟩ : ∃ m, m = len k := ⟨_, rfl⟩
          have HMm := Lib.hid hm
          have n0 : (0 : Int) ≤ (k : Int) := Int.natCast_nonneg _
          have n1 : (k : Int) < (n : Int) := by omega
          have HMo := Lib.hid HG.out.2.2.2.2
          have hsz := HF.out.size
          have HSt : Hid (∃ vk, V k = vk ∧ ((∃ g c, vk = .slice (some ⟨g, 0, none⟩) m c ∧ Hid (GrowI 28 w.heap.size B n V len (fun i u => Nrow wr w.heap.size u i) L ((30, more, (List.range k).map M) :: (30, .slice (some ⟨gt, 0, none⟩) n capt, (List.range n).map V) :: []) k M 0 wr vk g c X E)) ∨ (m = 0 ∧ vk = .slice none 0 0))) := Lib.hid (by
            rcases HV.out k hlt with ⟨g, c, q⟩ | ⟨q0, q⟩
            · refine ⟨_, rfl, .inl ⟨g, c, by rw [q, hm], Lib.hid (HG.out.begin hlt q)⟩⟩
            · exact ⟨_, rfl, .inr ⟨by rw [hm, q0], q⟩⟩)
          rw [← hm] at hl
          clear hown e z hm
          obtain ⟨vk, hvk, HSt⟩ := HSt.out
          rw [hvk] at hc
          have HVk := Lib.hid hvk
          clear hvk
          have hvs : ∃ a b c, vk = .slice a b c := by
            rcases HSt with ⟨g, c, rfl, _⟩ | ⟨_, rfl⟩
            · exact ⟨_, _, _, rfl⟩
            · exact ⟨_, _, _, rfl⟩
          have HSt' := Lib.hid HSt
          have HVs := Lib.hid hvs
          clear HSt hvs
          go_wp2
          go_loopw [7, 8] (fun mm i wr => ∃ (j : Nat), j ≤ 9 ∧ i = .int .i64 (j : Int) ∧ ((∃ (g c : Nat) (X : List En) (E : Nat → List Value), mm = .slice (some ⟨g, 0, none⟩) (m + j) c ∧ Hid (GrowI 28 w.heap.size B n V len (fun i u => Nrow wr w.heap.size u i) L ((30, more, (List.range k).map M) :: (30, .slice (some ⟨gt, 0, none⟩) n capt, (List.range n).map V) :: []) k M j wr mm g c X E)) ∨ (j = 0 ∧ m = 0 ∧ mm = .slice none 0 0 ∧ Hid (V k = .slice none 0 0 ∧ Grow 28 30 w.heap.size B n V len (fun i u => Nrow wr w.heap.size u i) L (.slice (some ⟨gt, 0, none⟩) n capt) ((List.range n).map V) k wr more M X E))) ∧ B ≤ wr.heap.size ∧ w.heap.size ≤ wr.heap.size ∧ Hid (Rw n V w wr)) (fun _ i _ => 9 - (intOf i).toNat)
          case atStart =>
            refine ⟨0, by omega, rfl, ?_, by omega, hsz, HF⟩
            rcases HSt'.out with ⟨g, c, e, HGI⟩ | ⟨q0, e⟩
            · subst e
              exact .inl ⟨g, c, X, E, rfl, HGI⟩
            · exact .inr ⟨rfl, q0, e, Lib.hid ⟨by rw [HVk.out, e], HG.out⟩⟩
          case round =>
            clear HG HF hc HSt'
            obtain ⟨j, hj, rfl, hcase, hBz, hSz, HF⟩ := hrel
            have HNt := Lib.hid (fun w1 => note_r k w1)
            have z2 := noteB_size k
            rcases hcase with ⟨g, c, X, E, rfl, HGI⟩ | ⟨rfl, hm0, rfl, HGN⟩
            · by_cases hj9 : j < 9
              · go_wp2_with (first
                  | (go_at_call 56; (with_reducible refine (HNt.out _).mono ?_); rintro e w2 ⟨rfl, hb⟩; have hb3 := hb.alloc hb.size (.cells #[.string (noteB k)] 9); have HF2 := Lib.hid (HF.out.below hb3); have HG2 := Lib.hid ((HGI.out.below hb3).marks fun i u q => q.keep (Keep9.below hb3)); have hz2 := hb.size; clear hb)
                  | (at_builtin; refine wpList_append_slice2 (w := w2.alloc (.cells #[.string (noteB k)] 9)) rfl (.tmp 49) (.tmp 53) rfl B g (m + j) c (E k) (.slice (some ⟨w2.heap.size, 0, none⟩) 1 1) rfl rfl (by have := HG2.out.own hlt; rw [← HMm.out] at this; exact this) (by show Value.slice (some ⟨w2.heap.size + 1, 0, none⟩) 1 1 = _; simp) (by omega) (by simp; omega) ?_; intro v3 w3 hown hg hv; have HO3 := Lib.hid hown; have HB3 := Lib.hid hg; have HV3 := Lib.hid hv; clear hown hg hv))
                go_roundw
                case rel =>
                  have HK := keep9_grown (B := w.heap.size) (HG2.out.own hlt) (by decide) HB3.out
                  have hS3 : w.heap.size ≤ (w2.alloc (.cells #[.string (noteB k)] 9)).heap.size := by simp; omega
                  obtain ⟨g', c', X', E', HGn⟩ := (HG2.out.marks (Mk' := fun i u => Nrow w3 w.heap.size u i) fun i u q => q.keep HK).step hlt hS3 (u := .slice (some ⟨w2.heap.size, 0, none⟩) 1 1) ((Nrow.new w2 k (by omega)).keep HK) (v' := v3) (w' := w3) (o := .cells #[.slice (some ⟨w2.heap.size, 0, none⟩) 1 1] 28) (by rw [← HMm.out]; exact HO3.out) HB3.out (by rw [← HMm.out]; exact HV3.out)
                  have hrow := HG2.out.row hlt
                  have hz4 := HB3.out.size
                  simp only [World.alloc, Array.size_push] at hz4
                  refine ⟨j + 1, by omega, by go_num, .inl ⟨g', c', X', E', by rw [HMm.out]; exact HGn.1, Lib.hid HGn⟩, by omega, by omega, Lib.hid ((HF2.out.alloc _).grown HB3.out (fun q hq => ?_))⟩
                  obtain rfl : g = q := by injection hq
                  exact hrow
                case measure => simp [intOf]; omega
              · obtain rfl : j = 9 := by omega
                clear hj9 hj
                have hmore : wr.ownsRow B 30 1 more k ((List.range k).map M) := by
                  have := HGI.out.2.1.head
                  simpa using this
                have HMore := Lib.hid hmore
                clear hmore
                go_wp2_with (at_builtin; refine wpList_append_lies (wr.alloc (.cells #[.slice (some ⟨g, 0, none⟩) (m + 9) c] 30)) rfl (.tmp 55) (.tmp 57) 34 rfl B 30 i30 _ 1 24 Tryz.underlying34 hi30 hz30 hy30 hs30 rfl (by decide) more k ((List.range k).map M) rfl (HMore.out.alloc _) ⟨wr.heap.size, 0, none⟩ 1 1 [.slice (some ⟨g, 0, none⟩) (m + 9) c] rfl rfl (World.news_of_block (cs := #[.slice (some ⟨g, 0, none⟩) (m + 9) c]) (t := 30) (fr := (0, 0)) (heap_alloc_new wr _)) (by simp [Value.oneCell']) (by omega) (by unfold maxLen; omega) (by omega) (by simp; omega) _ rfl ?_; intro g1 cap1 w1 hown hg hat hlt1; have HO1 := Lib.hid hown; have HB1 := Lib.hid hg; have HA1 := Lib.hid hat; clear hown hg hat)
                go_roundw
                case rel =>
                  have HK := keep9_grown (B := w.heap.size) HMore.out (by decide) HB1.out
                  refine ⟨k + 1, _, upd M k (.slice (some ⟨g, 0, none⟩) (m + 9) c), X, E, by omega, rfl, by go_num, Lib.hid ((Grow.next HGI.out hlt hSz HMo.out HO1.out HB1.out (by rcases HA1.out with e | e; exact .inl e.symm; exact .inr (by rw [e]; rfl))).marks fun i u q => q.keep HK), Lib.hid ((HF.out.alloc _).grown HB1.out (fun q hq => .inr (HMo.out q hq)))⟩
                case measure => simp [intOf]; omega
            · go_wp2_with (first
                | (go_at_call 56; (with_reducible refine (HNt.out _).mono ?_); rintro e w2 ⟨rfl, hb⟩; have hb3 := hb.alloc hb.size (.cells #[.string (noteB k)] 9); have HF2 := Lib.hid (HF.out.below hb3); have HG2 := Lib.hid ((HGN.out.2.below hb3).marks fun i u q => q.keep (Keep9.below hb3)); have hz2 := hb.size; clear hb)
                | (at_builtin; refine wpList_append_slice0 (w := w2.alloc (.cells #[.string (noteB k)] 9)) rfl (.tmp 49) (.tmp 53) rfl B (.slice (some ⟨w2.heap.size, 0, none⟩) 1 1) rfl rfl (by show Value.slice (some ⟨w2.heap.size + 1, 0, none⟩) 1 1 = _; simp) (by simp; omega) ?_; intro g3 c3 w3 hown hg hv; have HO3 := Lib.hid hown; have HB3 := Lib.hid hg; have HV3 := Lib.hid hv; clear hown hg hv))
              go_roundw
              case rel =>
                have HK : Keep9 w.heap.size (w2.alloc (.cells #[.string (noteB k)] 9)) w3 := fun j cs _ hh => (HB3.out.block j (by have := blt hh; simp at this ⊢; omega) (fun e => by cases e)).trans (((Below.refl _ _).alloc (Nat.le_refl _) _).block j (blt hh))
                have hS3 : w.heap.size ≤ (w2.alloc (.cells #[.string (noteB k)] 9)).heap.size := by simp; omega
                obtain ⟨E', HGn⟩ := (HG2.out.marks (Mk' := fun i u => Nrow w3 w.heap.size u i) fun i u q => q.keep HK).first hlt HGN.out.1 (by rw [← HMm.out]; exact hm0) hS3 (u := .slice (some ⟨w2.heap.size, 0, none⟩) 1 1) ((Nrow.new w2 k (by omega)).keep HK) (w' := w3) (o := .cells #[.slice (some ⟨w2.heap.size, 0, none⟩) 1 1] 28) HO3.out HB3.out HV3.out
                have hz4 := HB3.out.size
                simp only [World.alloc, Array.size_push] at hz4
                refine ⟨1, by omega, by go_num, .inl ⟨g3, c3, X, E', by rw [hm0], Lib.hid HGn⟩, by omega, by omega, Lib.hid ((HF2.out.alloc _).grown HB3.out (fun q hq => by cases hq))⟩
              case measure => simp [intOf]
        · obtain rfl : n = k := by omega
          clear hlt hk
          have HC := Lib.hid (fun i hi => HG.out.cells0 HV.out i hi)
          clear HG
          obtain ⟨wz, rfl⟩ : ∃ wz, wz = wr := ⟨_, rfl⟩
          go_wp2
          go_loopw [9, 10] (fun i _ wr => ∃ k : Nat, k ≤ n ∧ i = .int .i64 (k : Int) ∧ Hid (Below wz.heap.size wz wr)) (fun i _ _ => n - (intOf i).toNat)
          case atStart => exact ⟨0, Nat.zero_le _, rfl, Lib.hid (Below.refl _ _)⟩
          case round =>
            obtain ⟨k, hk, rfl, HB5⟩ := hrel
            by_cases hlt : k < n
            · obtain ⟨ga, ca, gb, cb, gc, cc, ax, cd, rfl, e2, h1, h2, h3, h4, h5⟩ := HC.out k hlt
              obtain ⟨rfl, rfl⟩ : tx' = some ⟨gb, 0, none⟩ ∧ capt = cb := by
                injection e2 with e2 _ e3
                exact ⟨e2, e3⟩
              obtain ⟨m, hm⟩ : ∃ m, m = len k := ⟨_, rfl⟩
              rw [← hm] at h1 h2 h3 h4 h5
              have H1 := Lib.hid h1
              have H2 := Lib.hid h2
              have H3 := Lib.hid h3
              have H4 := Lib.hid h4
              have c5 := kc HB5.out h1
              have n0 : (0 : Int) ≤ (k : Int) := Int.natCast_nonneg _
              have n1 : (k : Int) < (n : Int) := by omega
              clear e2 h1 h2 h3 h4 hm
              go_wp2
              go_loopw [10] (fun i wr => ∃ j : Nat, j ≤ m + 9 ∧ i = .int .i64 (j : Int) ∧ Hid (Below wz.heap.size wz wr)) (fun i _ => m + 9 - (intOf i).toNat)
              case atStart => exact ⟨0, Nat.zero_le _, rfl, HB5⟩
              case round =>
                clear HB5 c5
                obtain ⟨j, hj, rfl, HB6⟩ := hrel
                have c1 := kc HB6.out H1.out
                by_cases hjl : j < m + 9
                · obtain ⟨u, hu, gx, rfl, hgx, hhx⟩ := H2.out j hjl
                  have j0 : (0 : Int) ≤ (j : Int) := Int.natCast_nonneg _
                  have j1 : (j : Int) < ((m + 9 : Nat) : Int) := by omega
                  have c2 := kc HB6.out hu
                  have c3 := kc HB6.out H3.out
                  have HN1 : Hid (∀ w1, Below wr.heap.size wr w1 → Calls Tryz.prog 61 #[.slice (some ⟨gx, 0, none⟩) 1 1, .int .i64 (k : Int)] w1 fun ev w' => ev = .returned (.bool true) ∧ Below wr.heap.size wr w') := Lib.hid fun w1 b => (named_r gx k w1 (((HB6.out.trans (b.mono HB6.out.size)).block gx (blt hhx)).trans hhx)).mono fun _ _ q => ⟨q.1, b.trans (q.2.mono b.size)⟩
                  have C3 := Lib.hid c3
                  clear hu hgx hhx
                  by_cases hjm : j < m
                  · obtain ⟨gd, u2, rfl, hu2, gy, rfl, hgy, hhy⟩ := H4.out j hjm
                    have t1 : decide ((j : Int) < (m : Int)) = true := by simp; omega
                    have j2 : (j : Int) < (m : Int) := by omega
                    have C4 := Lib.hid (kc HB6.out hu2)
                    have HN2 : Hid (∀ w1, Below wr.heap.size wr w1 → Calls Tryz.prog 61 #[.slice (some ⟨gy, 0, none⟩) 1 1, .int .i64 (k : Int)] w1 fun ev w' => ev = .returned (.bool true) ∧ Below wr.heap.size wr w') := Lib.hid fun w1 b => (named_r gy k w1 (((HB6.out.trans (b.mono HB6.out.size)).block gy (blt hhy)).trans hhy)).mono fun _ _ q => ⟨q.1, b.trans (q.2.mono b.size)⟩
                    clear hu2 hgy hhy
                    go_wp2_with (first
                      | (go_at_call 61; (with_reducible refine (HN1.out _ (Below.refl _ _)).mono ?_); rintro ev w2 ⟨rfl, hb2⟩; have c5 := kc hb2 C3.out; have c6 := kc hb2 C4.out)
                      | (go_at_call 61; (with_reducible refine (HN2.out _ hb2).mono ?_); rintro ev w3 ⟨rfl, hb3⟩))
                    go_roundw
                    case rel => exact ⟨j + 1, by omega, by go_num, Lib.hid (HB6.out.trans (hb3.mono HB6.out.size))⟩
                    case measure => simp [intOf]; omega
                  · have t1 : decide ((j : Int) < (m : Int)) = false := by simp; omega
                    have t3 : decide (m ≤ j) = true := by simp; omega
                    have t4 : decide (j < m) = false := by simp; omega
                    clear hjm
                    go_wp2_with (first
                      | (go_at_call 61; (with_reducible refine (HN1.out _ (Below.refl _ _)).mono ?_); rintro ev w2 ⟨rfl, hb2⟩; have c5 := kc hb2 C3.out))
                    go_roundw
                    case rel => exact ⟨j + 1, by omega, by go_num, Lib.hid (HB6.out.trans (hb2.mono HB6.out.size))⟩
                    case measure => simp [intOf]; omega
                · obtain rfl : j = m + 9 := by omega
                  clear hj hjl
                  go_wp2
                  go_roundw
                  case rel => exact ⟨k + 1, by omega, by go_num, HB6⟩
                  case measure => simp [intOf]; omega
            · obtain rfl : n = k := by omega
              go_wp2
              go_ret
              exact ⟨rfl, HF.out.below HB5.out⟩
end Go.Proofs.YtappphffbnkloaaGreatDoor.Sht

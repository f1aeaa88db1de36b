/- Close, walked; a reader that has ended. -/
import Derived.Test.YtappphffbnkloaaGreatDoorShtL
set_option linter.unusedVariables false
set_option linter.unusedSimpArgs false
namespace Go.Proofs.YtappphffbnkloaaGreatDoor.Sht
open Go Go.RowKit Go.Joins
attribute [local go_sem ↓] Go.wp_at_zero Go.wp_at_succ
variable {A : Nat → Addr} {W0 W : World} {b : Nat} {s : RS}
theorem rows_lt {W : World} {B : Nat} : ∀ {lv : List Value} {rs : List (List (List UInt8))}, RowsAt W B lv rs → ∀ j ∈ lv.flatMap ob, B ≤ j ∧ j < W.heap.size
  | [], _, _, j, hj => by simp at hj
  | v :: lv, r :: rs, h, j, hj => by
    simp only [List.flatMap_cons, List.mem_append] at hj
    rcases hj with hj | hj
    · exact h.1.lt j (mem_ob.1 hj)
    · exact rows_lt h.2 j hj
  | _ :: _, [], h, _, _ => h.elim
theorem ToldAt.lt {v : Value} {rs : List (List (List UInt8))} {lv : List Value} {w : World} (h1 : w.ownsRow W0.heap.size 28 1 v rs.length lv) (h2 : RowsAt w W0.heap.size lv rs) : ∀ j ∈ ob v ++ lv.flatMap ob, W0.heap.size ≤ j ∧ j < w.heap.size := by
  intro j hj
  simp only [List.mem_append] at hj
  rcases hj with hj | hj
  · exact h1.lt j (mem_ob.1 hj)
  · exact rows_lt h2 j hj
theorem ToldAt.fr {v : Value} {rs : List (List (List UInt8))} {w w' : World} (h : ToldAt W0 w b v rs) (k : Fr b w w') : ToldAt W0 w' b v rs := by
  obtain ⟨lv, h1, h2, h3, h4⟩ := h
  have hlt := ToldAt.lt h1 h2
  have same : ∀ j ∈ ob v ++ lv.flatMap ob, w'.heap[j]? = w.heap[j]? := fun j hj => k.keep j (hlt j hj).2 (h4 j hj)
  exact ⟨lv, ownsRow_kept h1 fun j hj => same j (List.mem_append_left _ (mem_ob.2 hj)), rowsAt_kept h2 fun j hj => same j (List.mem_append_right _ hj), h3, fun j hj hw => by
    rcases k.own j hw with e | e
    · exact h4 j hj e
    · have := (hlt j hj).2; omega⟩
theorem err_lt {w : World} {B : Nat} {v : Value} {f : Option (Nat × Nat × Nat)} (h : FaultAt w B A v f) : ∀ j ∈ fb v, B ≤ j ∧ j < w.heap.size := by
  intro j hj
  cases f with
  | none => simp only [FaultAt] at h; subst h; simp [fb] at hj
  | some f =>
    obtain ⟨l, c, e⟩ := f
    obtain ⟨_, g, hg, rfl, hh⟩ := h
    simp only [fb, List.mem_singleton] at hj
    subst hj
    exact ⟨hg, blt hh⟩
theorem ErrAt.fr {B : Nat} {v : Value} {f : Option (Nat × Nat × Nat)} {w w' : World} (h : ErrAt w B A b v f) (k : Fr b w w') : ErrAt w' B A b v f := by
  have hlt := err_lt h.1
  exact ⟨faultAt_kept h.1 fun j hj => k.keep j (hlt j hj).2 (h.2 j hj), fun j hj hw => by
    rcases k.own j hw with e | e
    · exact h.2 j hj e
    · have := (hlt j hj).2; omega⟩
/-- what a Close leaves -/
def Ended (A : Nat → Addr) (W0 W : World) (b : Nat) (s : RS) (e : Ending) (w' : World) : Prop :=
  ∃ vl ve, e = .returned (.tuple #[vl, ve]) ∧ R A W0 w' b (RS.fail { s with rows := [] } 0 0 9) ∧ ToldAt W0 w' b vl s.rows ∧ ErrAt w' W.heap.size A b ve s.fault ∧ Fr b W w'
theorem ended_of {w1 w2 w3 : World} {vl ve : Value} (hF : Fr b W w1) (h : Fed A W0 w1 b s (.returned (.tuple #[vl, ve])) w2) (h3 : R A W0 w3 b (RS.fail { s with rows := [] } 0 0 9)) (k : Fr b w2 w3) : Ended A W0 W b s (.returned (.tuple #[vl, ve])) w3 := by
  obtain ⟨vl', ve', e, h4, h5, h6, h7⟩ := fed_mono h hF
  have e1 : vl = vl' ∧ ve = ve' := by simpa using e
  obtain ⟨rfl, rfl⟩ := e1
  exact ⟨vl, ve, rfl, h3, h5.fr k, h6.fr k, h7.trans k⟩
set_option maxHeartbeats 8000000 in
set_option maxRecDepth 100000 in
theorem close_r (hF : SF W0 A) (hE : ET W0) (hR : R A W0 W b s) (hL : s.Live) : Calls Tryz.prog 9 #[PT b] W (Ended A W0 W b s.fin) := by
  obtain ⟨vc, vr, vl, fl, lv, h⟩ := hR
  have HF := Lib.hid hF
  have HE := Lib.hid hE
  by_cases hf : s.fault = none
  · have hi := hL hf
    have hflt := h.flt
    rw [hf] at hflt
    simp only [FaultAt] at hflt
    subst hflt
    obtain ⟨F, hF0, hcf, hO⟩ := over_r hF hi.bd (by have := hi.all; omega) (R.mk h)
    unfold Enters at hcf
    have HO := Lib.hid hO
    obtain ⟨-, -, -, -, -, -, -, -, -, -, -, -, c12⟩ := h.cells
    have c1 : W.cell? ⟨b, 1, none⟩ = some (.func (.func F) #[PT b] #[]) := by rw [← hF0]; exact (bcell h.blk 1).trans rfl
    have hfin : s.fin = s.over := if_pos hf
    rw [hfin]
    clear h hF hE hL hi hF0 hO hf hfin
    go_enter Tryz.func9, Tryz.ntmps9
    go_wp2_with ((with_reducible refine HO.out.mono ?_); rintro e w1 ⟨rfl, hR1, hF1⟩; have HR1 := Lib.hid hR1; have HF1 := Lib.hid hF1; clear hR1 hF1)
    clear c12 c1
    obtain ⟨vc2, vr2, vl2, fl2, lv2, h2⟩ := HR1.out
    obtain ⟨-, -, -, -, -, -, -, -, -, -, -, -, c12⟩ := h2.cells
    obtain ⟨_, hT, hA⟩ := h2.ends HE.out
    have HT := Lib.hid hT
    have HA := Lib.hid hA
    have H2 := Lib.hid h2
    clear hT hA h2
    go_region_with (first
      | (go_at_call 37; (with_reducible refine HT.out.mono ?_); rintro e w3 ⟨rfl, rfl⟩)
      | (go_at_call 38; (with_reducible refine HA.out.mono ?_); rintro e w3 ⟨ve, rfl, hv, hb3⟩; have HV := Lib.hid hv; have HB3 := Lib.hid hb3; clear hv hb3))
    all_goals
      simp only [List.getElem_toArray, List.getElem_cons_succ, List.getElem_cons_zero, Act.put, List.setIfInBounds_toArray, List.set_cons_zero, List.set_cons_succ]
      have HFed := Lib.hid (fed_of H2.out HV.out HB3.out)
      obtain ⟨_, _, _, hR5, _⟩ := HFed.out
      obtain ⟨vc5, vr5, vl5, fl5, lv5, h5⟩ := hR5
      obtain ⟨-, -, -, -, -, -, -, -, -, -, -, -, d12⟩ := h5.cells
      obtain ⟨-, -, -, -, -, -, -, -, -, -, -, -, f12⟩ := h5.free
      have gD : w3.cell? ⟨4, 0, none⟩ = some (errV A 9) := h5.gl HF.out 9 (cod (by omega))
      have h6 := h5.fault 0 0 9 (cod (by omega))
      have hf6 : Fr b w3 _ := h5.fr h6 rfl rfl rfl (by rw [setSize]; simp) (fun j hj hn _ _ _ => (Below.heap_setCell _ ⟨b, 12, none⟩ _ j hn).trans (Below.heap_alloc _ _ j hj)) (fun j hj => .inl hj)
      rw [World.setCell_alloc_past _ _ _ _ h5.lt] at h6 hf6
      have H6 := Lib.hid h6
      have HF6 := Lib.hid hf6
      have hlt5 := h5.lt
      clear h5 h6 hf6
      go_wp2
      go_ret2
      exact ended_of HF1.out HFed.out (R.mk H6.out) HF6.out
  · have hflt := h.flt
    obtain ⟨f, hf'⟩ := Option.ne_none_iff_exists'.1 hf
    obtain ⟨fl, fc, fe⟩ := f
    rw [hf'] at hflt
    obtain ⟨_, fg, _, rfl, _⟩ := hflt
    have hfin : s.fin = s := if_neg hf
    rw [hfin]
    obtain ⟨-, -, -, -, -, -, -, -, -, -, -, -, c12⟩ := h.cells
    have h2 := h
    have HF1 := Lib.hid (Fr.refl b W)
    clear h hF hE hL hf' hf hfin
    go_enter Tryz.func9, Tryz.ntmps9
    go_wp2
    obtain ⟨_, hT, hA⟩ := h2.ends HE.out
    have HT := Lib.hid hT
    have HA := Lib.hid hA
    have H2 := Lib.hid h2
    clear hT hA h2
    go_region_with (first
      | (go_at_call 37; (with_reducible refine HT.out.mono ?_); rintro e w3 ⟨rfl, rfl⟩)
      | (go_at_call 38; (with_reducible refine HA.out.mono ?_); rintro e w3 ⟨ve, rfl, hv, hb3⟩; have HV := Lib.hid hv; have HB3 := Lib.hid hb3; clear hv hb3))
    all_goals
      simp only [List.getElem_toArray, List.getElem_cons_succ, List.getElem_cons_zero, Act.put, List.setIfInBounds_toArray, List.set_cons_zero, List.set_cons_succ]
      have HFed := Lib.hid (fed_of H2.out HV.out HB3.out)
      obtain ⟨_, _, _, hR5, _⟩ := HFed.out
      obtain ⟨vc5, vr5, vl5, fl5, lv5, h5⟩ := hR5
      obtain ⟨-, -, -, -, -, -, -, -, -, -, -, -, d12⟩ := h5.cells
      obtain ⟨-, -, -, -, -, -, -, -, -, -, -, -, f12⟩ := h5.free
      have gD : w3.cell? ⟨4, 0, none⟩ = some (errV A 9) := h5.gl HF.out 9 (cod (by omega))
      have h6 := h5.fault 0 0 9 (cod (by omega))
      have hf6 : Fr b w3 _ := h5.fr h6 rfl rfl rfl (by rw [setSize]; simp) (fun j hj hn _ _ _ => (Below.heap_setCell _ ⟨b, 12, none⟩ _ j hn).trans (Below.heap_alloc _ _ j hj)) (fun j hj => .inl hj)
      rw [World.setCell_alloc_past _ _ _ _ h5.lt] at h6 hf6
      have H6 := Lib.hid h6
      have HF6 := Lib.hid hf6
      have hlt5 := h5.lt
      clear h5 h6 hf6
      go_wp2
      go_ret2
      exact ended_of HF1.out HFed.out (R.mk H6.out) HF6.out
end Go.Proofs.YtappphffbnkloaaGreatDoor.Sht

/- The law CalTells in plain numbers and texts: to every span cal's PrintSpan answers what the reference answers. -/
import Derived.Test.YtofafljfabgpmaaCalFitsP
import Derived.Test.YtofafljfabgpmaaGCxf3
namespace Go.Proofs.Ytofafljfabgpmaa.CalP
open Go.RowKit Go.IntWalk Go.Proofs.YtofafljfabgpmaaW.PrintWords Go.Proofs.Ytofafljfabgpmaa.Ext Go.Proofs.Ytofafljfabgpmaa.GC

/-- a part's text, behind others -/
def pt (n : Int) (c : ByteArray) : ByteArray := if n = 0 then (⟨#[]⟩ : ByteArray) else P n 1 ++ c
theorem part_eq (k : Nat) (hk : 30 ≤ k) (n : Int) (c : ByteArray) (h0 : 0 ≤ n) (h1 : n ≤ 999999999) (hc : c.size = 1) : larderref03_part.f k n c = some (pt n c) := by
  unfold larderref03_part.f pt
  by_cases h : n = 0
  · rw [if_pos h, if_pos h]
  · have := P_size n 1
    rw [if_neg h, if_neg h, rpad_eq k n 1 hk h0 (by omega) (by omega) (by omega)]
    simp only [Option.bind_some]
    rw [if_pos (by omega)]
theorem pt_size (n : Int) (c : ByteArray) (hc : c.size = 1) : (pt n c).size ≤ 21 := by
  unfold pt
  split
  · exact Nat.zero_le _
  · have := P_size n 1
    rw [ByteArray.size_append]; omega
theorem pt_zero (n : Int) (c : ByteArray) (hc : c.size = 1) : (pt n c).size = 0 ↔ n = 0 := by
  unfold pt
  split
  · simp_all; rfl
  · rw [ByteArray.size_append]; simp_all
theorem nil_iff (b : ByteArray) : b.toList = ([] : List UInt8) ↔ b.size = 0 := by
  rw [ByteArray.toList_eq]
  show b.data.toList = [] ↔ b.data.toList.length = 0
  rw [List.length_eq_zero_iff]
theorem outs_plain (y mo d h mi s : Int) (k : Nat) (hk : k ≠ 3) (h0 : 0 ≤ pN y mo d h mi s k) : outs y mo d h mi s (k + 1) = outs y mo d h mi s k ++ pt (pN y mo d h mi s k) (ltr k) := by
  have e : ¬ (k = 3 ∧ h + mi + s > 0) := fun z => hk z.1
  unfold pt
  rw [outs]
  by_cases z : pN y mo d h mi s k = 0
  · rw [if_neg (by omega), if_neg e, if_pos z, app_nil]
  · rw [if_pos (by omega), if_neg e, if_neg z]
theorem outs_three (y mo d h mi s : Int) (h0 : 0 ≤ h) : outs y mo d h mi s 4 = (if h + mi + s > 0 then outs y mo d h mi s 3 ++ (⟨#[84]⟩ : ByteArray) else outs y mo d h mi s 3) ++ pt h (⟨#[72]⟩ : ByteArray) := by
  have e : pN y mo d h mi s 3 = h := rfl
  have l : ltr 3 = (⟨#[72]⟩ : ByteArray) := rfl
  unfold pt
  rw [outs, e, l]
  by_cases t : h + mi + s > 0
  · rw [if_pos (show 3 = 3 ∧ h + mi + s > 0 from ⟨rfl, t⟩), if_pos t]
    by_cases z : h = 0
    · rw [if_neg (show ¬ h > 0 by omega), if_pos z, app_nil]
    · rw [if_pos (show h > 0 by omega), if_neg z]
  · rw [if_neg (show ¬ (3 = 3 ∧ h + mi + s > 0) from fun q => t q.2), if_neg t]
    by_cases z : h = 0
    · rw [if_neg (show ¬ h > 0 by omega), if_pos z, app_nil]
    · rw [if_pos (show h > 0 by omega), if_neg z]
theorem rprint_eq (k : Nat) (hk : 30 ≤ k) (y mo wk d h mi s : Int) : ∃ r, cal_PrintSpan.f y mo wk d h mi s = some r ∧ larderref03_PrintSpan.f k y mo wk d h mi s = some r := by
  unfold cal_PrintSpan.f larderref03_PrintSpan.f
  rw [fits_eq k (by omega)]
  simp only [Option.bind_some]
  unfold goodB
  cases ha : allOk y mo d h mi s with
  | false => exact ⟨_, rfl, rfl⟩
  | true =>
    have hs := pS_bd (y := y) (mo := mo) (d := d) (h := h) (mi := mi) (s := s) 6 fun j _ => of_all ha j
    obtain ⟨b0, b0'⟩ : 0 ≤ y ∧ y ≤ 999999999 := of_all ha 0
    obtain ⟨b1, b1'⟩ : 0 ≤ mo ∧ mo ≤ 999999999 := of_all ha 1
    obtain ⟨b2, b2'⟩ : 0 ≤ d ∧ d ≤ 999999999 := of_all ha 2
    obtain ⟨b3, b3'⟩ : 0 ≤ h ∧ h ≤ 999999999 := of_all ha 3
    obtain ⟨b4, b4'⟩ : 0 ≤ mi ∧ mi ≤ 999999999 := of_all ha 4
    obtain ⟨b5, b5'⟩ : 0 ≤ s ∧ s ≤ 999999999 := of_all ha 5
    have hS : pS y mo d h mi s 6 = y + mo + d + h + mi + s := by simp [pS, pN]
    rw [if_pos rfl]
    by_cases c : wk < 0 ∨ wk > 999999999 ∨ (wk > 0 ∧ pS y mo d h mi s 6 > 0)
    · have hg : (true && okB wk && (decide (wk = 0) || decide (pS y mo d h mi s 6 = 0))) = false := by
        unfold okB
        rcases c with c | c | c
        · simp; omega
        · simp; omega
        · rw [decide_eq_false (show ¬ wk = 0 by omega), decide_eq_false (show ¬ pS y mo d h mi s 6 = 0 by omega)]
          simp
      rw [if_pos c, hg]
      exact ⟨_, rfl, rfl⟩
    · have hg : (true && okB wk && (decide (wk = 0) || decide (pS y mo d h mi s 6 = 0))) = true := by
        unfold okB
        simp; omega
      rw [if_neg c, hg, if_pos rfl]
      have l1 : (⟨#[87]⟩ : ByteArray).size = 1 := rfl
      have l2 : (⟨#[89]⟩ : ByteArray).size = 1 := rfl
      have l3 : (⟨#[77]⟩ : ByteArray).size = 1 := rfl
      have l4 : (⟨#[68]⟩ : ByteArray).size = 1 := rfl
      have l5 : (⟨#[72]⟩ : ByteArray).size = 1 := rfl
      have l6 : (⟨#[83]⟩ : ByteArray).size = 1 := rfl
      by_cases c1 : wk > 0
      · rw [if_pos c1, if_pos c1, part_eq k hk wk _ (by omega) (by omega) l1]
        simp only [Option.bind_some]
        have := pt_size wk (⟨#[87]⟩ : ByteArray) l1
        rw [if_pos (by omega)]
        refine ⟨_, rfl, ?_⟩
        unfold pt
        rw [if_neg (by omega), ByteArray.append_assoc]
      · rw [if_neg c1, if_neg c1]
        generalize hL : (if pS y mo d h mi s 6 = 0 then some ((⟨#[80, 84, 48, 83]⟩ : ByteArray), (0 : Int)) else some (outs y mo d h mi s 6, 0)) = L
        rw [part_eq k hk y _ b0 b0' l2]
        simp only [Option.bind_some]
        rw [part_eq k hk mo _ b1 b1' l3]
        simp only [Option.bind_some]
        have z0 := pt_size y (⟨#[89]⟩ : ByteArray) l2
        have z1 := pt_size mo (⟨#[77]⟩ : ByteArray) l3
        have z2 := pt_size d (⟨#[68]⟩ : ByteArray) l4
        have z3 := pt_size h (⟨#[72]⟩ : ByteArray) l5
        have z4 := pt_size mi (⟨#[77]⟩ : ByteArray) l3
        have z5 := pt_size s (⟨#[83]⟩ : ByteArray) l6
        rw [if_pos (by omega), part_eq k hk d _ b2 b2' l4]
        simp only [Option.bind_some]
        rw [if_pos (by omega), part_eq k hk h _ b3 b3' l5]
        simp only [Option.bind_some]
        rw [part_eq k hk mi _ b4 b4' l3]
        simp only [Option.bind_some]
        rw [if_pos (by omega), part_eq k hk s _ b5 b5' l6]
        simp only [Option.bind_some]
        rw [if_pos (by omega)]
        have q0 := pt_zero y (⟨#[89]⟩ : ByteArray) l2
        have q1 := pt_zero mo (⟨#[77]⟩ : ByteArray) l3
        have q2 := pt_zero d (⟨#[68]⟩ : ByteArray) l4
        have q3 := pt_zero h (⟨#[72]⟩ : ByteArray) l5
        have q4 := pt_zero mi (⟨#[77]⟩ : ByteArray) l3
        have q5 := pt_zero s (⟨#[83]⟩ : ByteArray) l6
        have n1 : ((pt h (⟨#[72]⟩ : ByteArray) ++ pt mi (⟨#[77]⟩ : ByteArray)) ++ pt s (⟨#[83]⟩ : ByteArray)).toList = ([] : List UInt8) ↔ h + mi + s = 0 := by
          rw [nil_iff, ByteArray.size_append, ByteArray.size_append]; omega
        have n2 : ((pt y (⟨#[89]⟩ : ByteArray) ++ pt mo (⟨#[77]⟩ : ByteArray)) ++ pt d (⟨#[68]⟩ : ByteArray)).toList = ([] : List UInt8) ↔ y + mo + d = 0 := by
          rw [nil_iff, ByteArray.size_append, ByteArray.size_append]; omega
        have o6 : outs y mo d h mi s 6 = outs y mo d h mi s 4 ++ pt mi (⟨#[77]⟩ : ByteArray) ++ pt s (⟨#[83]⟩ : ByteArray) := by
          rw [outs_plain y mo d h mi s 5 (by omega) b5, outs_plain y mo d h mi s 4 (by omega) b4]; rfl
        have o3 : outs y mo d h mi s 3 = (⟨#[80]⟩ : ByteArray) ++ pt y (⟨#[89]⟩ : ByteArray) ++ pt mo (⟨#[77]⟩ : ByteArray) ++ pt d (⟨#[68]⟩ : ByteArray) := by
          rw [outs_plain y mo d h mi s 2 (by omega) b2, outs_plain y mo d h mi s 1 (by omega) b1, outs_plain y mo d h mi s 0 (by omega) b0]; rfl
        subst hL
        by_cases t : h + mi + s = 0
        · rw [if_pos (n1.2 t)]
          have e3 : pt h (⟨#[72]⟩ : ByteArray) = (⟨#[]⟩ : ByteArray) := by unfold pt; rw [if_pos (by omega)]
          have e4 : pt mi (⟨#[77]⟩ : ByteArray) = (⟨#[]⟩ : ByteArray) := by unfold pt; rw [if_pos (by omega)]
          have e5 : pt s (⟨#[83]⟩ : ByteArray) = (⟨#[]⟩ : ByteArray) := by unfold pt; rw [if_pos (by omega)]
          by_cases u : y + mo + d = 0
          · rw [if_pos (n2.2 u), if_pos (show pS y mo d h mi s 6 = 0 by omega)]
            exact ⟨_, rfl, rfl⟩
          · rw [if_neg (fun q => u (n2.1 q)), if_neg (show ¬ pS y mo d h mi s 6 = 0 by omega), if_pos (by omega)]
            refine ⟨_, rfl, ?_⟩
            rw [o6, outs_three y mo d h mi s b3, if_neg (show ¬ h + mi + s > 0 by omega), o3, e3, e4, e5, app_nil, app_nil, app_nil]
            simp only [ByteArray.append_assoc]
        · rw [if_neg (fun q => t (n1.1 q)), if_neg (show ¬ pS y mo d h mi s 6 = 0 by omega), if_pos (by omega), if_pos (by omega), if_pos (by omega)]
          refine ⟨_, rfl, ?_⟩
          rw [o6, outs_three y mo d h mi s b3, if_pos (show h + mi + s > 0 by omega), o3]
          simp only [ByteArray.append_assoc]
theorem calTells_pure (y mo wk d h mi s : Int) : ∃ k, larderlaw03_CalTells.f k y mo wk d h mi s = some true := by
  obtain ⟨k, hk⟩ : ∃ k, 30 ≤ k := ⟨30, Nat.le_refl _⟩
  obtain ⟨r, h1, h2⟩ := rprint_eq k hk y mo wk d h mi s
  refine ⟨k, ?_⟩
  unfold larderlaw03_CalTells.f
  rw [h1, h2]
  simp
end Go.Proofs.Ytofafljfabgpmaa.CalP

/- What the printed pads come to: a number's digits, with zeros ahead to at least so many. -/
import Derived.IntWalk
import Derived.Test.YtiklakkkgmilnaaDoorGCxf38
import Derived.Test.YtiklakkkgmilnaaDoorGCxf41
import Derived.Laws.BytesArg
namespace Go.Proofs.YtiklakkkgmilnaaDoor.CalP
open Go.RowKit Go.IntWalk Go.Proofs.YtiklakkkgmilnaaDoorW.PrintWords Go.Proofs.YtiklakkkgmilnaaDoor.Ext Go.Proofs.YtiklakkkgmilnaaDoor.GC

theorem nw64 {x : Int} (h1 : -9223372036854775808 ≤ x) (h2 : x ≤ 9223372036854775807) : wrap64 x = x := wrap64_in x ⟨h1, h2⟩
/-- one digit -/
def dg (n : Int) : ByteArray := strOfNums [48 + n % 10]
/-- the digits of n, the last f at the most, at least d of them -/
def padS : Nat → Int → Int → ByteArray
  | 0, _, _ => (⟨#[]⟩ : ByteArray)
  | f + 1, n, d => if n > 0 ∨ d > 0 then padS f (n / 10) (d - 1) ++ dg n else (⟨#[]⟩ : ByteArray)
theorem nil_app (s : ByteArray) : (⟨#[]⟩ : ByteArray) ++ s = s := ByteArray.empty_append
theorem dg_size (n : Int) : (dg n).size = 1 := by unfold dg; rw [strOfNums_size]; rfl
theorem padS_size (f : Nat) : ∀ n d, (padS f n d).size ≤ f := by
  induction f with
  | zero => intro n d; exact Nat.le_refl _
  | succ f ih =>
    intro n d
    unfold padS
    split
    · rw [ByteArray.size_append, dg_size]
      have := ih (n / 10) (d - 1)
      omega
    · exact Nat.zero_le _
theorem digit_w (n : Int) (h : 0 ≤ n) : (wrap64 (48 + Int.tmod n 10)) % 256 = 48 + n % 10 := by rw [Int.tmod_eq_emod_of_nonneg h, nw64 (by omega) (by omega)]; omega
theorem pad_l0 (f : Nat) : ∀ (k : Nat) (n d : Int) (s : ByteArray), 0 ≤ n → n < 10 ^ f → n ≤ 9000000000000000000 → d ≤ f → (f : Int) - 1000000000 ≤ d → f < k → s.size + f ≤ 1000000 →
    cal_pad.l0 k n d s = some (padS f n d ++ s) := by
  induction f with
  | zero =>
    intro k n d s a b b' c c' e g
    obtain ⟨k, rfl⟩ : ∃ q, k = q + 1 := ⟨k - 1, by omega⟩
    have hn : n = 0 := by simp at b; omega
    simp only [cal_pad.l0]
    rw [if_neg (by omega), if_neg (by omega), padS, nil_app]
  | succ f ih =>
    intro k n d s a b b' c c' e g
    obtain ⟨k, rfl⟩ : ∃ q, k = q + 1 := ⟨k - 1, by omega⟩
    have b2 : n / 10 < 10 ^ f := by
      have : (10 : Int) ^ (f + 1) = 10 ^ f * 10 := by rw [Int.pow_succ]
      omega
    have hr := ih k (n / 10) (d - 1) (dg n ++ s) (by omega) b2 (by omega) (by omega) (by omega) (by omega) (by rw [ByteArray.size_append, dg_size]; omega)
    have hs : (dg n).size + s.size ≤ 9223372036854775807 := by rw [dg_size]; omega
    simp only [cal_pad.l0, Option.bind_some]
    rw [digit_w n a, Int.tdiv_eq_ediv_of_nonneg a, nw64 (x := n / 10) (by omega) (by omega), nw64 (x := d - 1) (by omega) (by omega), show strOfNums [48 + n % 10] = dg n from rfl, if_pos hs, hr]
    by_cases h1 : n > 0
    · rw [if_pos h1, padS, if_pos (Or.inl h1), ByteArray.append_assoc]
    · rw [if_neg h1]
      by_cases h2 : d > 0
      · rw [if_pos h2, padS, if_pos (Or.inr h2), ByteArray.append_assoc]
      · rw [if_neg h2, padS, if_neg (by omega), nil_app]
theorem rpad_l0 (f : Nat) : ∀ (k : Nat) (n d : Int) (s : ByteArray), 0 ≤ n → n < 10 ^ f → n ≤ 9000000000000000000 → d ≤ f → (f : Int) - 1000000000 ≤ d → f < k → s.size + f ≤ 1000000 →
    larderref03_pad.l0 k n d s = some (padS f n d ++ s) := by
  induction f with
  | zero =>
    intro k n d s a b b' c c' e g
    obtain ⟨k, rfl⟩ : ∃ q, k = q + 1 := ⟨k - 1, by omega⟩
    have hn : n = 0 := by simp at b; omega
    simp only [larderref03_pad.l0]
    rw [if_neg (by omega), if_neg (by omega), padS, nil_app]
  | succ f ih =>
    intro k n d s a b b' c c' e g
    obtain ⟨k, rfl⟩ : ∃ q, k = q + 1 := ⟨k - 1, by omega⟩
    have b2 : n / 10 < 10 ^ f := by
      have : (10 : Int) ^ (f + 1) = 10 ^ f * 10 := by rw [Int.pow_succ]
      omega
    have hr := ih k (n / 10) (d - 1) (dg n ++ s) (by omega) b2 (by omega) (by omega) (by omega) (by omega) (by rw [ByteArray.size_append, dg_size]; omega)
    have hs : (dg n).size + s.size ≤ 9223372036854775807 := by rw [dg_size]; omega
    simp only [larderref03_pad.l0, Option.bind_some]
    rw [digit_w n a, Int.tdiv_eq_ediv_of_nonneg a, nw64 (x := n / 10) (by omega) (by omega), nw64 (x := d - 1) (by omega) (by omega), show strOfNums [48 + n % 10] = dg n from rfl, if_pos hs, hr]
    by_cases h1 : n > 0
    · rw [if_pos h1, padS, if_pos (Or.inl h1), ByteArray.append_assoc]
    · rw [if_neg h1]
      by_cases h2 : d > 0
      · rw [if_pos h2, padS, if_pos (Or.inr h2), ByteArray.append_assoc]
      · rw [if_neg h2, padS, if_neg (by omega), nil_app]
/-- at least d digits of n -/
def P (n d : Int) : ByteArray := padS 20 n d
theorem P_size (n d : Int) : (P n d).size ≤ 20 := padS_size 20 n d
theorem app_nil (s : ByteArray) : s ++ (⟨#[]⟩ : ByteArray) = s := ByteArray.append_empty
theorem pad_eq (k : Nat) (n d : Int) (hk : 30 ≤ k) (h0 : 0 ≤ n) (h1 : n ≤ 9000000000000000000) (h2 : 0 ≤ d) (h3 : d ≤ 20) : cal_pad.f k n d = some (P n d) := by
  unfold cal_pad.f
  rw [(pad_l0 20 k n d (⟨#[]⟩ : ByteArray) h0 (by omega) h1 (by omega) (by omega) (by omega) (by show 0 + 20 ≤ 1000000; omega)), app_nil]
  rfl
theorem rpad_eq (k : Nat) (n d : Int) (hk : 30 ≤ k) (h0 : 0 ≤ n) (h1 : n ≤ 9000000000000000000) (h2 : 0 ≤ d) (h3 : d ≤ 20) : larderref03_pad.f k n d = some (P n d) := by
  unfold larderref03_pad.f
  rw [(rpad_l0 20 k n d (⟨#[]⟩ : ByteArray) h0 (by omega) h1 (by omega) (by omega) (by omega) (by show 0 + 20 ≤ 1000000; omega)), app_nil]
  rfl
end Go.Proofs.YtiklakkkgmilnaaDoor.CalP

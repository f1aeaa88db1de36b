/- The decimal numeral: the law's and strconv.Itoa's are one. -/
import Derived.Test.YtappphffbnkloaaGreatDoorShtZ
import Derived.Test.YtappphffbnkloaaGreatDoorShelf
import Derived.Lib.AppendIntMem
import Derived.Lib.ItoaLen
set_option linter.unusedVariables false
set_option linter.unusedSimpArgs false
namespace Go.Proofs.YtappphffbnkloaaGreatDoor.Sht
open Go Go.RowKit Go.Proofs.YtappphffbnkloaaGreatDoorW.PrintWords Go.Proofs.YtappphffbnkloaaGreatDoor.GS
abbrev numeral (n : Nat) : ByteArray := ⟨(Lib.itoa (n : Int)).toArray⟩
theorem one_digit (d : Nat) (h : d < 10) : strOfNums [(IntKind.u64.wrap (48 + (d : Int))) % 256] = ⟨#[UInt8.ofNat (48 + d)]⟩ := by
  rcases (show d = 0 ∨ d = 1 ∨ d = 2 ∨ d = 3 ∨ d = 4 ∨ d = 5 ∨ d = 6 ∨ d = 7 ∨ d = 8 ∨ d = 9 by omega) with rfl | rfl | rfl | rfl | rfl | rfl | rfl | rfl | rfl | rfl <;> rfl
theorem u64_wrap (n : Nat) (h : n < 18446744073709551616) : IntKind.u64.wrap (n : Int) = (n : Int) := by
  simp [IntKind.wrap, IntKind.bits, IntKind.signed]
  omega
theorem bytes_snoc (a : List UInt8) (d : UInt8) : (⟨a.toArray⟩ : ByteArray) ++ ⟨#[d]⟩ = ⟨(a ++ [d]).toArray⟩ := by
  apply ByteArray.ext
  simp
theorem size_eq : ∀ k n : Nat, n < 18446744073709551616 → n < 10 ^ k → 1 ≤ k → larderlaw04_size.f k (n : Int) = some ⟨(Lib.decDigits n).toArray⟩
  | 0, n, _, _, h => absurd h (by omega)
  | k + 1, n, h, h10, _ => by
    unfold larderlaw04_size.f
    have e : Int.tmod (n : Int) 10 = ((n % 10 : Nat) : Int) := by rw [Int.tmod_eq_emod_of_nonneg (by omega)]; omega
    rw [e]
    simp only [Option.bind_some]
    rw [one_digit (n % 10) (by omega)]
    by_cases hc : n < 10
    · rw [if_pos (show (n : Int) < 10 by omega), Lib.decDigits_one hc, Nat.mod_eq_of_lt hc]
    · rw [if_neg (show ¬ (n : Int) < 10 by omega)]
      have e2 : Int.tdiv (n : Int) 10 = ((n / 10 : Nat) : Int) := by rw [Int.tdiv_eq_ediv_of_nonneg (by omega)]; omega
      have hk : 1 ≤ k := by
        rcases Nat.eq_zero_or_pos k with rfl | q
        · simp at h10; omega
        · exact q
      have hp : n / 10 < 10 ^ k := by rw [Nat.pow_succ] at h10; omega
      rw [e2, u64_wrap (n / 10) (by omega), size_eq k (n / 10) (by omega) hp hk]
      simp only [Option.bind_some]
      have z1 : (⟨(Lib.decDigits (n / 10)).toArray⟩ : ByteArray).size = Lib.nDigits (n / 10) := by
        rw [← Lib.decDigits_length]; rfl
      have z2 : (⟨#[UInt8.ofNat (48 + n % 10)]⟩ : ByteArray).size = 1 := rfl
      have z3 := Lib.nDigits_le20 (n / 10) (by omega)
      rw [z1, z2, if_pos (by omega), bytes_snoc]
      conv => rhs; rw [Lib.decDigits, dif_neg hc]
theorem digits_eq (n : Nat) (h : n ≤ 4611686018427387904) : ∃ k, larderlaw04_digits.f k (n : Int) = some (numeral n) := by
  refine ⟨21, ?_⟩
  unfold larderlaw04_digits.f
  rw [if_neg (by omega), u64_wrap n (by omega), size_eq 21 n (by omega) (Nat.lt_of_lt_of_le (show n < 10000000000000000000 by omega) (by decide)) (by decide), Option.bind_some]
  show _ = some (⟨(Lib.itoa (n : Int)).toArray⟩ : ByteArray)
  rw [Lib.itoa_nonneg]
theorem it_of_tab (W : World) (h : Lib.TabIs Tryz.prog W "internal/strconv.uint64pow10" .u64 Lib.pow10Tab) : IT W numeral :=
  ⟨fun w' hb n hn => (Tryz.strconv_Itoa (n : Int) (by omega) (by omega) w' (Lib.tabBelow_of_tabIs h w' hb)).mono fun e w'' q => by
    obtain ⟨k, os, q2⟩ := q.2
    exact ⟨q.1, by rw [q2]; exact Lib.below_grow _ _ (Nat.le_refl _) k os⟩, fun n hn => by
    have := Lib.itoa_length_le (n : Int) (by omega) (by omega)
    show (Lib.itoa (n : Int)).length ≤ 100
    omega⟩
end Go.Proofs.YtappphffbnkloaaGreatDoor.Sht

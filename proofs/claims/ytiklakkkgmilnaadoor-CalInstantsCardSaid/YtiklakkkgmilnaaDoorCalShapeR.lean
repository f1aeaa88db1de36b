/- Which of some shapes a text has, and the numbers of its digits: what the reference's printed functions come to. -/
import Derived.Test.YtiklakkkgmilnaaDoorCalDateB
import Derived.Test.YtiklakkkgmilnaaDoorGCr
set_option linter.unusedVariables false
set_option linter.unusedSimpArgs false
namespace Go.Proofs.YtiklakkkgmilnaaDoor.CalP
open Go.RowKit Go.Proofs.YtiklakkkgmilnaaDoorW.PrintWords Go.Proofs.YtiklakkkgmilnaaDoor.Ext Go.Proofs.YtiklakkkgmilnaaDoor.PCal Go.Proofs.YtiklakkkgmilnaaDoor.GC Go.IntWalk

def noS (h : ByteArray) : Prop := ∀ i : Nat, i < h.size → bt h i ≠ 115
theorem rdigit_eq (c : Int) : larderref03_digit.f c = some (decide (48 ≤ c ∧ c ≤ 57)) := by
  unfold larderref03_digit.f
  by_cases h : c ≥ 48
  · rw [if_pos h]; congr 1; exact decide_eq_decide.2 ⟨fun e => ⟨h, e⟩, fun e => e.2⟩
  · rw [if_neg h, decide_eq_false (fun e => h e.1)]
theorem agrees_l0 (s h : ByteArray) (hh : h.size ≤ 1000) (hS : noS h) : ∀ (m i k : Nat), i + m = h.size → 2 * m + 2 ≤ k → larderref03_agrees.l0 k s h i = some (fitN s h m i : Int) := by
  intro m
  induction m with
  | zero =>
    intro i k hi hk
    obtain ⟨k, rfl⟩ : ∃ q, k = q + 2 := ⟨k - 2, by omega⟩
    rw [larderref03_agrees.l0]
    have e : decide ((i : Int) < (h.size : Int)) = false := decide_eq_false (by omega)
    by_cases c : (i : Int) < (s.size : Int)
    · rw [if_pos c, e, larderref03_agrees.j1]; rfl
    · rw [if_neg c, larderref03_agrees.j1]; rfl
  | succ m ih =>
    intro i k hi hk
    obtain ⟨k, rfl⟩ : ∃ q, k = q + 2 := ⟨k - 2, by omega⟩
    have e : decide ((i : Int) < (h.size : Int)) = true := decide_eq_true (by omega)
    have hn := ih (i + 1) k (by omega) (by omega)
    have q := hS i (by omega)
    rw [larderref03_agrees.l0, fitN]
    by_cases c : (i : Int) < (s.size : Int)
    · rw [if_pos c, e, larderref03_agrees.j1, if_pos rfl, if_pos (by omega), if_pos c, rdigit_eq]
      simp only [Option.bind_some]
      rw [if_pos (by omega), wS (by omega)]
      have hn' : larderref03_agrees.l0 k s h ((i : Int) + 1) = some (fitN s h m (i + 1) : Int) := hn
      rw [hn']
      unfold mt
      by_cases d : bt h i = 100
      · rw [if_pos d, if_pos d]
        by_cases a1 : 48 ≤ bt s i ∧ bt s i ≤ 57
        · rw [if_pos (by simpa using a1), if_pos ⟨by omega, by simpa using a1⟩]
        · rw [if_neg (by simpa using a1), if_neg (by rintro ⟨_, z⟩; exact a1 (by simpa using z))]
      · rw [if_neg d, if_neg d, if_neg q]
        by_cases a1 : bt s i = bt h i
        · rw [if_pos a1, if_pos ⟨by omega, by simp [a1]⟩]
        · rw [if_neg a1, if_neg (by rintro ⟨_, z⟩; simp at z; exact a1 z)]
    · rw [if_neg c, larderref03_agrees.j1, if_neg (by decide), if_neg (by rintro ⟨z, _⟩; omega)]
theorem agrees_eq (k : Nat) (s h : ByteArray) (hh : h.size ≤ 1000) (hS : noS h) (hk : 2 * h.size + 2 ≤ k) : larderref03_agrees.f k s h = some (fit s h : Int) := agrees_l0 s h hh hS h.size 0 k (by omega) hk
def rshp (s : ByteArray) : List ByteArray → Nat → Int → Int × Int
  | [], _, b => (-1, b)
  | h :: l, i, b => if fit s h = s.size ∧ fit s h = h.size then ((i : Int), (s.size : Int)) else rshp s l (i + 1) (mx b (fit s h))
theorem shaped_l0 (s : ByteArray) (L : List ByteArray) (hL : L.length ≤ 1000) (hh : ∀ h ∈ L, h.size ≤ 20 ∧ noS h) : ∀ (m i k : Nat) (b : Int), i + m = L.length → 50 + 2 * m ≤ k → larderref03_shaped.l0 k s L b i = some (rshp s (L.drop i) i b) := by
  intro m
  induction m with
  | zero =>
    intro i k b hi hk
    obtain ⟨k, rfl⟩ : ∃ q, k = q + 1 := ⟨k - 1, by omega⟩
    rw [larderref03_shaped.l0, if_neg (by omega), List.drop_of_length_le (by omega)]; rfl
  | succ m ih =>
    intro i k b hi hk
    obtain ⟨k, rfl⟩ : ∃ q, k = q + 2 := ⟨k - 2, by omega⟩
    have e : rdOf ByteArray.empty L (i : Int) = L[i]'(by omega) := by
      unfold rdOf
      rw [Int.toNat_natCast, List.getD_eq_getElem?_getD, List.getElem?_eq_getElem (by omega)]; rfl
    have hs := hh (L[i]'(by omega)) (List.getElem_mem _)
    rw [larderref03_shaped.l0, if_pos (by omega), if_pos (by omega), e, agrees_eq (k + 1) s _ (by omega) hs.2 (by omega), List.drop_eq_getElem_cons (by omega)]
    simp only [Option.bind_some]
    rw [rshp]
    have J : larderref03_shaped.j1 (k + 1) s L b i (fit s (L[i]'(by omega)) : Int) false = some (rshp s (L.drop (i + 1)) (i + 1) (mx b (fit s (L[i]'(by omega))))) := by
      rw [larderref03_shaped.j1, if_neg (by decide), wS (by omega)]
      unfold mx
      by_cases c : b < (fit s (L[i]'(by omega)) : Int)
      · rw [if_pos (by omega), if_pos c]
        exact ih (i + 1) k _ (by omega) (by omega)
      · rw [if_neg (by omega), if_neg c]
        exact ih (i + 1) k _ (by omega) (by omega)
    by_cases c1 : fit s (L[i]'(by omega)) = s.size
    · rw [if_pos (by omega)]
      by_cases c2 : fit s (L[i]'(by omega)) = (L[i]'(by omega)).size
      · have : (((fit s (L[i]'(by omega)) : Nat) : Int) == ((L[i]'(by omega)).size : Int)) = true := beq_iff_eq.2 (by omega)
        rw [if_pos ⟨c1, c2⟩, this, larderref03_shaped.j1, if_pos rfl, c1]
      · have : (((fit s (L[i]'(by omega)) : Nat) : Int) == ((L[i]'(by omega)).size : Int)) = false := beq_eq_false_iff_ne.2 (by omega)
        rw [if_neg (fun z => c2 z.2), this, J]
    · rw [if_neg (by omega), if_neg (fun z => c1 z.1), J]
theorem shaped_eq (k : Nat) (s : ByteArray) (L : List ByteArray) (hL : L.length ≤ 1000) (hh : ∀ h ∈ L, h.size ≤ 20 ∧ noS h) (hk : 50 + 2 * L.length ≤ k) : larderref03_shaped.f k s L = some (rshp s L 0 0) :=
  shaped_l0 s L hL hh L.length 0 k 0 (by omega) (by omega)
theorem rshp_shp (s : ByteArray) : ∀ (L : List ByteArray) (i : Nat) (b : Int), 0 ≤ (shp s L i b).1 ∧ rshp s L i b = ((shp s L i b).1, (s.size : Int)) ∨ (shp s L i b).1 = -1 ∧ rshp s L i b = shp s L i b := by
  intro L
  induction L with
  | nil => intro i b; exact .inr ⟨rfl, rfl⟩
  | cons h l ih =>
    intro i b
    rw [shp, rshp]
    by_cases c : fit s h = s.size ∧ fit s h = h.size
    · rw [if_pos c, if_pos c]; exact .inl ⟨by simp, rfl⟩
    · rw [if_neg c, if_neg c]; exact ih _ _
theorem rnum_l0 (s : ByteArray) (a n : Nat) (hs : a + n ≤ s.size) (h2 : s.size ≤ 1000000) (hn : n ≤ 15) (hd : ∀ j : Nat, a ≤ j → j < a + n → 48 ≤ bt s j ∧ bt s j ≤ 57) : ∀ (m i k : Nat), i + m = n → m + 1 ≤ k → larderref03_num.l0 k s a n (nmv s a i) i = some (nmv s a n) := by
  intro m
  induction m with
  | zero =>
    intro i k hi hk
    obtain ⟨k, rfl⟩ : ∃ q, k = q + 1 := ⟨k - 1, by omega⟩
    rw [larderref03_num.l0, if_neg (by omega), show i = n by omega]
  | succ m ih =>
    intro i k hi hk
    obtain ⟨k, rfl⟩ : ∃ q, k = q + 1 := ⟨k - 1, by omega⟩
    have A := nmv_bd s a i (fun j j1 j2 => hd j j1 (by omega))
    have b := hd (a + i) (by omega) (by omega)
    have c := p10 i (by omega)
    have w : wrap64 ((a : Int) + i) = ((a + i : Nat) : Int) := by unfold wrap64; omega
    have e : wrap64 (wrap64 (nmv s a i * 10) + (bt s ((a + i : Nat) : Int) - 48) % 256) = nmv s a (i + 1) := by
      rw [nmv]
      have : wrap64 (nmv s a i * 10) = 10 * nmv s a i := by unfold wrap64; omega
      rw [this]; unfold wrap64; omega
    rw [larderref03_num.l0, if_pos (by omega), w, if_pos (by omega), if_pos (by omega), e, wS (by omega)]
    exact ih (i + 1) k (by omega) (by omega)
theorem rnum_eq (k : Nat) (s : ByteArray) (a n : Nat) (hs : a + n ≤ s.size) (h2 : s.size ≤ 1000000) (hn : n ≤ 15) (hd : ∀ j : Nat, a ≤ j → j < a + n → 48 ≤ bt s j ∧ bt s j ≤ 57) (hk : 16 ≤ k) : larderref03_num.f k s a n = some (nmv s a n) :=
  rnum_l0 s a n hs h2 hn hd n 0 k (by omega) (by omega)
end Go.Proofs.YtiklakkkgmilnaaDoor.CalP

/- Plain: the open days counted: one day more. -/
import Derived.Test.YtjifinacnofmiaaDoorCalMv
set_option linter.unusedVariables false
set_option linter.unusedSimpArgs false
namespace Go.Proofs.YtjifinacnofmiaaDoor.Ext
open Go Go.RowKit Go.Proofs.YtjifinacnofmiaaDoor.PCal Go.Proofs.YtjifinacnofmiaaDoor.CalP
theorem has_cons (x : D3) (l : List D3) (n : Int) : has (x :: l) n = (nm x == n || has l n) := rfl
theorem rising_tail {x : D3} {l : List D3} (h : Rising (x :: l)) : Rising l := fun i j hi hj hij => by
  have := h (i + 1) (j + 1) (by simpa using hi) (by simpa using hj) (by omega)
  simpa using this
theorem rising_head {x : D3} {l : List D3} (h : Rising (x :: l)) : ∀ y ∈ l, nm x < nm y := by
  intro y hy
  obtain ⟨i, hi, rfl⟩ := List.mem_iff_getElem.1 hy
  have := h 0 (i + 1) (by simp) (by simpa using hi) (by omega)
  simpa using this
theorem ahead_step (p : Nat → Bool) (n : Int) : ∀ (l : List D3), Rising l → (ahead p l (n + 1) : Int) = ahead p l n + (if (has l n && p (wdN n)) = true then 1 else 0)
  | [], _ => by simp [ahead, has]
  | x :: l, h => by
    have ih := ahead_step p n l (rising_tail h)
    have hh := rising_head h
    have e1 : ahead p (x :: l) (n + 1) = ahead p l (n + 1) + (if (decide (nm x < n + 1) && p (wdN (nm x))) = true then 1 else 0) := by unfold ahead; rw [List.countP_cons]
    have e2 : ahead p (x :: l) n = ahead p l n + (if (decide (nm x < n) && p (wdN (nm x))) = true then 1 else 0) := by unfold ahead; rw [List.countP_cons]
    rw [e1, e2, has_cons]
    by_cases hx : nm x = n
    · have hn : has l n = false := by
        cases q : has l n with
        | false => rfl
        | true =>
          obtain ⟨i, hi, he⟩ := (has_iff l n).1 q
          have := hh l[i] (List.getElem_mem hi)
          omega
      rw [hn] at ih ⊢
      rw [hx, decide_eq_true (show n < n + 1 by omega), decide_eq_false (show ¬ n < n by omega)]
      clear e1 e2
      simp only [Bool.false_and, Bool.false_eq_true, if_false, Int.add_zero] at ih
      cases hp : p (wdN n) <;> simp [ih]
    · have hb : (nm x == n) = false := beq_eq_false_iff_ne.2 hx
      have hd : decide (nm x < n + 1) = decide (nm x < n) := by
        by_cases q : nm x < n
        · rw [decide_eq_true q, decide_eq_true (by omega)]
        · rw [decide_eq_false q, decide_eq_false (by omega)]
      rw [hb, hd, Bool.false_or]
      push_cast
      omega
theorem wdN_val (n : Int) : (wdN n : Int) = (n + 5) % 7 := by
  rw [wdN_eq]
  unfold wd
  rfl
theorem left_step (dy : Nat → Bool) (n : Int) (h0 : 0 ≤ n) (hm : n % 7 < 6) : left dy (n + 1) = left dy n + (if dy (wdN n) = true then 1 else 0) ∧ (n + 1) / 7 = n / 7 := by
  refine ⟨?_, by omega⟩
  unfold left
  have e1 : ((n + 1) % 7).toNat = (n % 7).toNat + 1 := by omega
  have e2 : n + 1 - (n + 1) % 7 = n - n % 7 := by omega
  rw [e1, e2, List.range_succ, List.map_append, List.countP_append, List.map_singleton, List.countP_singleton]
  have e3 : n - n % 7 + ((n % 7).toNat : Int) = n := by omega
  rw [e3]
theorem left_week (dy : Nat → Bool) (n : Int) (h0 : 0 ≤ n) (hm : n % 7 = 6) : left dy (n + 1) = 0 ∧ (n + 1) / 7 = n / 7 + 1 ∧ trues dy 7 = left dy n + (if dy (wdN n) = true then 1 else 0) := by
  refine ⟨?_, by omega, ?_⟩
  · unfold left
    have e1 : ((n + 1) % 7).toNat = 0 := by omega
    rw [e1]
    rfl
  · unfold left
    have e1 : (n % 7).toNat = 6 := by omega
    rw [e1, hm]
    have w : ∀ k : Nat, k < 7 → wdN (n - 6 + (k : Int)) = (k + 5) % 7 := fun k hk => by
      have := wdN_val (n - 6 + (k : Int))
      omega
    have w6 : wdN n = 4 := by
      have := wdN_val n
      omega
    rw [w6]
    have r6 : List.range 6 = [0, 1, 2, 3, 4, 5] := rfl
    have r7 : List.range 7 = [0, 1, 2, 3, 4, 5, 6] := rfl
    unfold trues
    rw [r6, r7]
    simp only [List.map_cons, List.map_nil, List.countP_cons, List.countP_nil]
    rw [w 0 (by omega), w 1 (by omega), w 2 (by omega), w 3 (by omega), w 4 (by omega), w 5 (by omega)]
    simp only [Nat.reduceAdd, Nat.reduceMod]
    omega
theorem bel_step {dy : Nat → Bool} {S E : List D3} (h : GoodR S E) {n : Int} (h0 : 0 ≤ n) : belF dy S E (n + 1) = belF dy S E n + (if opn dy S E n = true then 1 else 0) := by
  have aS := ahead_step dy n S h.s.up
  have aE := ahead_step (fun k => !dy k) n E h.e.up
  have hd : has S n = true → has E n = false := fun hs => by
    obtain ⟨i, hi, he⟩ := (has_iff S n).1 hs
    have := h.dis S[i] (List.getElem_mem hi)
    rw [he] at this
    exact this
  have key : (trues dy 7 : Int) * ((n + 1) / 7) + left dy (n + 1) = (trues dy 7 : Int) * (n / 7) + left dy n + (if dy (wdN n) = true then 1 else 0) := by
    by_cases hm : n % 7 < 6
    · obtain ⟨e1, e2⟩ := left_step dy n h0 hm
      rw [e1, e2]
      push_cast
      split <;> omega
    · obtain ⟨e1, e2, e3⟩ := left_week dy n h0 (by omega)
      rw [e1, e2, Int.mul_add, Int.mul_one]
      split at e3 <;> split <;> simp_all <;> omega
  unfold belF opn
  rw [aS, aE]
  generalize hA : (trues dy 7 : Int) * ((n + 1) / 7) + left dy (n + 1) = A at *
  generalize (trues dy 7 : Int) * (n / 7) = B at *
  cases hs : has S n
  · cases he : has E n <;> cases hw : dy (wdN n) <;> simp_all <;> omega
  · have he := hd hs
    cases hw : dy (wdN n) <;> simp_all <;> omega
theorem bel_zero (dy : Nat → Bool) {S E : List D3} (h : GoodR S E) : belF dy S E 0 = 0 := by
  have z : ∀ (p : Nat → Bool) (l : List D3), (∀ x ∈ l, okD x = true) → ahead p l 0 = 0 := fun p l hl => by
    unfold ahead
    rw [List.countP_eq_zero]
    intro x hx
    have := (nm_bd (hl x hx)).1
    simp
    omega
  unfold belF
  rw [z _ S h.s.ok, z _ E h.e.ok]
  simp [left]
theorem bel_mono {dy : Nat → Bool} {S E : List D3} (h : GoodR S E) : ∀ (k : Nat) (a : Int), 0 ≤ a → belF dy S E a ≤ belF dy S E (a + k)
  | 0, a, _ => by simp
  | k + 1, a, h0 => by
    have ih := bel_mono h (dy := dy) k a h0
    have st := bel_step h (dy := dy) (n := a + k) (by omega)
    rw [show a + ((k + 1 : Nat) : Int) = a + k + 1 by omega, st]
    split <;> omega
theorem bel_le {dy : Nat → Bool} {S E : List D3} (h : GoodR S E) {a b : Int} (h0 : 0 ≤ a) (hab : a ≤ b) : belF dy S E a ≤ belF dy S E b := by
  have := bel_mono h (dy := dy) (b - a).toNat a h0
  rw [show a + ((b - a).toNat : Int) = b by omega] at this
  exact this
/-- the least day with so many open days up to it is known by its own two sides -/
theorem least_day {dy : Nat → Bool} {S E : List D3} (h : GoodR S E) {t i j : Int} (hi : 0 ≤ i) (hj : 0 ≤ j) (hj1 : j ≤ 3652424) (h1 : 0 < i → belF dy S E i < t) (h2 : i < 3652424 → t ≤ belF dy S E (i + 1))
    (h3 : belF dy S E j < t) (h4 : t ≤ belF dy S E (j + 1)) : i = j := by
  rcases Int.lt_trichotomy i j with q | q | q
  · have := bel_le h (dy := dy) (a := i + 1) (b := j) (by omega) (by omega)
    have := h2 (by omega)
    omega
  · exact q
  · have := bel_le h (dy := dy) (a := j + 1) (b := i) (by omega) (by omega)
    have := h1 (by omega)
    omega
end Go.Proofs.YtjifinacnofmiaaDoor.Ext

/- The law CalWalk in plain numbers: the days that Each goes over, up and down, are those that lie a step apart. -/
import Derived.Test.YtofafljfabgpmaaDoorCalAtP
import Derived.Test.YtofafljfabgpmaaDoorGCxf6
namespace Go.Proofs.YtofafljfabgpmaaDoor.CalP
open Go.RowKit Go.Proofs.YtofafljfabgpmaaDoorW.PrintWords Go.Proofs.YtofafljfabgpmaaDoor.Ext Go.Proofs.YtofafljfabgpmaaDoor.PCal Go.Proofs.YtofafljfabgpmaaDoor.GC
theorem goL_up (s e : Int) (hs : 0 < s) : ∀ (c m : Nat) (n : Int), n + c * s ≤ e → e < n + c * s + s → c ≤ m → goL s e m n = (List.range (c + 1)).map (fun i : Nat => n + i * s) := by
  intro c
  induction c with
  | zero =>
    intro m n h1 h2 h3
    simp at h1 h2
    rw [goL_stop m (.inl ⟨hs, by omega⟩)]
    simp
  | succ c ih =>
    intro m n h1 h2 h3
    obtain ⟨m, rfl⟩ : ∃ q, m = q + 1 := ⟨m - 1, by omega⟩
    have e1 : ((c + 1 : Nat) : Int) * s = c * s + s := by rw [Int.natCast_succ, Int.add_mul, Int.one_mul]
    have e2 : 0 ≤ (c : Int) * s := Int.mul_nonneg (Int.natCast_nonneg _) (by omega)
    rw [e1] at h1 h2
    rw [goL_go m (by omega), ih m (n + s) (by omega) (by omega) (by omega), List.range_succ_eq_map (n := c + 1), List.map_cons, List.map_map]
    refine congr (congrArg _ (by simp)) (List.map_congr_left fun i _ => ?_)
    simp only [Function.comp, Nat.succ_eq_add_one]
    rw [Int.natCast_succ, Int.add_mul, Int.one_mul]
    omega
theorem goL_down (s e : Int) (hs : 0 < s) : ∀ (c m : Nat) (n : Int), e ≤ n - c * s → n - c * s - s < e → c ≤ m → goL (-s) e m n = (List.range (c + 1)).map (fun i : Nat => n - i * s) := by
  intro c
  induction c with
  | zero =>
    intro m n h1 h2 h3
    simp at h1 h2
    rw [goL_stop m (.inr ⟨by omega, by omega⟩)]
    simp
  | succ c ih =>
    intro m n h1 h2 h3
    obtain ⟨m, rfl⟩ : ∃ q, m = q + 1 := ⟨m - 1, by omega⟩
    have e1 : ((c + 1 : Nat) : Int) * s = c * s + s := by rw [Int.natCast_succ, Int.add_mul, Int.one_mul]
    have e2 : 0 ≤ (c : Int) * s := Int.mul_nonneg (Int.natCast_nonneg _) (by omega)
    rw [e1] at h1 h2
    rw [goL_go m (by omega), ih m (n + -s) (by omega) (by omega) (by omega), List.range_succ_eq_map (n := c + 1), List.map_cons, List.map_map]
    refine congr (congrArg _ (by simp)) (List.map_congr_left fun i _ => ?_)
    simp only [Function.comp, Nat.succ_eq_add_one]
    rw [Int.natCast_succ, Int.add_mul, Int.one_mul]
    omega
theorem le_mul_pos {c : Nat} {s : Int} (hs : 0 < s) : (c : Int) ≤ c * s := by
  have := Int.mul_le_mul_of_nonneg_left (show (1 : Int) ≤ s by omega) (Int.natCast_nonneg c)
  simpa using this
theorem eachL_dt {p q : Int} (h0 : 0 ≤ p) (h1 : p ≤ 3652424) (h2 : 0 ≤ q) (h3 : q ≤ 3652424) (s : Int) :
    eachL (dt p).1 (dt p).2.1 (dt p).2.2 (dt q).1 (dt q).2.1 (dt q).2.2 s = if s ≠ 0 ∧ ((0 < s ∧ p ≤ q) ∨ (s < 0 ∧ q ≤ p)) then goL s q (q - p).natAbs p else [] := by
  unfold eachL
  rw [(dt_spec h0 h1).1, (dt_spec h0 h1).2, (dt_spec h2 h3).1, (dt_spec h2 h3).2]
  simp
theorem at_dt (k : Nat) (hk : 30000 ≤ k) {n : Int} (h0 : 0 ≤ n) (h1 : n ≤ 3652424) : larderlaw03_at.f k n = some (dt n) := by
  obtain ⟨a, b⟩ := dt_spec h0 h1
  have := at_eq k hk a
  rwa [b] at this
theorem walked_up {p q s : Int} {c : Nat} (h0 : 0 ≤ p) (h1 : q ≤ 3652424) (hs : 0 < s) (a1 : p + c * s ≤ q) (a2 : q < p + c * s + s) (most : Int) (hm : (c : Int) + 1 ≤ most) :
    larderlaw03_walked.f (dt p).1 (dt p).2.1 (dt p).2.2 (dt q).1 (dt q).2.1 (dt q).2.2 s most = some ((List.range (c + 1)).map (fun i : Nat => dS (p + i * s))) := by
  have hc := le_mul_pos (c := c) hs
  unfold larderlaw03_walked.f
  rw [if_neg (by omega), eachL_dt h0 (by omega) (by omega) h1, if_pos ⟨by omega, .inl ⟨hs, by omega⟩⟩, goL_up s q hs c _ p a1 a2 (by omega), List.take_of_length_le (by simp; omega), List.map_map]
  rfl
theorem walked_down {p q s : Int} {c : Nat} (h0 : 0 ≤ p) (h1 : q ≤ 3652424) (hs : 0 < s) (a1 : q = p + c * s) (most : Int) (hm : (c : Int) + 1 ≤ most) :
    larderlaw03_walked.f (dt q).1 (dt q).2.1 (dt q).2.2 (dt p).1 (dt p).2.1 (dt p).2.2 (-s) most = some ((List.range (c + 1)).map (fun i : Nat => dS (q - i * s))) := by
  have hc := le_mul_pos (c := c) hs
  unfold larderlaw03_walked.f
  rw [if_neg (by omega), eachL_dt (by omega) h1 h0 (by omega), if_pos ⟨by omega, .inr ⟨by omega, by omega⟩⟩, goL_down s p hs c _ q (by omega) (by omega) (by omega), List.take_of_length_le (by simp; omega), List.map_map]
  rfl
theorem walked_none {p q s : Int} (h0 : 0 ≤ p) (h1 : q ≤ 3652424) (hs : 0 < s) (h : p < q) (most : Int) :
    larderlaw03_walked.f (dt q).1 (dt q).2.1 (dt q).2.2 (dt p).1 (dt p).2.1 (dt p).2.2 s most = some [] := by
  unfold larderlaw03_walked.f
  rw [eachL_dt (by omega) h1 h0 (by omega), if_neg (show ¬ (s ≠ 0 ∧ _) by omega)]
  simp
theorem rd_range (f : Nat → S23) (c i : Nat) (h : i ≤ c) : rd_T23 ((List.range (c + 1)).map f) (i : Int) = f i := by
  unfold rd_T23
  rw [Int.toNat_natCast, List.getD_eq_getElem?_getD, List.getElem?_map, List.getElem?_range (by omega)]
  rfl
theorem walk_l1 {p q st : Int} {c : Nat} (h0 : 0 ≤ p) (h1 : p ≤ q) (h2 : q ≤ 3652424) (hs : 0 < st) (hc : c ≤ 20000) (U D : List S23) (hU : U.length = c + 1) (hD : D.length = c + 1)
    (hUe : ∀ i : Nat, i ≤ c → rd_T23 U i = dS (p + i * st)) (hDe : ∀ i : Nat, i ≤ c → rd_T23 D i = dS (p + ((c - i : Nat) : Int) * st)) :
    ∀ (m i k : Nat), i + m = c + 1 → 30000 + m < k → larderlaw03_CalWalk.l1 k p q st U D i = some true := by
  intro m
  induction m with
  | zero =>
    intro i k hi hk
    obtain ⟨k, rfl⟩ : ∃ q, k = q + 1 := ⟨k - 1, by omega⟩
    rw [larderlaw03_CalWalk.l1, if_neg (by omega), at_dt k (by omega) (by omega) h2]
    simp only [Option.bind_some]
    rw [at_dt k (by omega) h0 (by omega)]
    simp only [Option.bind_some]
    by_cases hpq : p = q
    · subst hpq
      rw [walked_up (c := 0) h0 h2 hs (by simp) (by simp; omega) 5 (by simp)]
      simp
    · rw [walked_none h0 h2 hs (by omega) 5]
      simp [hpq]
  | succ m ih =>
    intro i k hi hk
    obtain ⟨k, rfl⟩ : ∃ q, k = q + 1 := ⟨k - 1, by omega⟩
    rw [larderlaw03_CalWalk.l1, hU, hD]
    have e3 : rd_T23 D i = rd_T23 U ((c - i : Nat) : Int) := by rw [hUe (c - i) (by omega), hDe i (by omega)]
    have e1 : wrap64 (wrap64 (((c + 1 : Nat) : Int) - 1) - i) = ((c - i : Nat) : Int) := by rw [w64 (x := ((c + 1 : Nat) : Int) - 1) (by omega) (by omega), w64 (by omega) (by omega)]; omega
    have e2 : wrap64 ((i : Int) + 1) = ((i + 1 : Nat) : Int) := by rw [w64 (by omega) (by omega)]; omega
    rw [e1, e2, e3]
    clear e1 e2 e3
    rw [if_pos (by omega), if_pos (by omega), if_pos (by omega), if_pos (by omega), if_pos (by omega), ih (i + 1) k (by omega) (by omega)]
    simp
theorem walk_l0 {p q st : Int} {c : Nat} (h0 : 0 ≤ p) (h1 : p ≤ q) (h2 : q ≤ 3652424) (hs : 0 < st) (hs2 : st ≤ 100000) (hc : c ≤ 20000) (a1 : p + c * st ≤ q) (U : List S23) (hU : U.length = c + 1)
    (hUe : ∀ i : Nat, i ≤ c → rd_T23 U i = dS (p + i * st)) :
    ∀ (m i k : Nat), i + m = c + 1 → 60000 + m < k → larderlaw03_CalWalk.l0 k p q st U i = some true := by
  have hst : c ≠ 0 → st ≤ c * st := by
    intro h
    have := Int.mul_le_mul_of_nonneg_right (show (1 : Int) ≤ c by omega) (show 0 ≤ st by omega)
    omega
  intro m
  induction m with
  | zero =>
    intro i k hi hk
    obtain ⟨k, rfl⟩ : ∃ q, k = q + 1 := ⟨k - 1, by omega⟩
    have hp := Int.mul_nonneg (Int.natCast_nonneg c) (show 0 ≤ st by omega)
    rw [larderlaw03_CalWalk.l0, hU, if_neg (by omega), w64 (x := ((c + 1 : Nat) : Int) - 1) (by omega) (by omega), show ((c + 1 : Nat) : Int) - 1 = c by omega, w64 (x := c * st) (by omega) (by omega), w64 (x := p + c * st) (by omega) (by omega), at_dt k (by omega) (by omega) (by omega)]
    simp only [Option.bind_some]
    rw [at_dt k (by omega) h0 (by omega)]
    simp only [Option.bind_some]
    rw [w64 (x := -st) (by omega) (by omega), walked_down (c := c) h0 (show p + c * st ≤ 3652424 by omega) hs rfl 1073741824 (by omega)]
    simp only [Option.bind_some]
    rw [if_pos (by simp)]
    refine walk_l1 h0 h1 h2 hs hc U _ hU (by simp) hUe ?_ (c + 1) 0 k (by omega) (by omega)
    intro i hi
    rw [rd_range _ c i hi]
    congr 1
    rw [show ((c - i : Nat) : Int) = c - i by omega, Int.sub_mul]
    omega
  | succ m ih =>
    intro i k hi hk
    obtain ⟨k, rfl⟩ : ∃ q, k = q + 1 := ⟨k - 1, by omega⟩
    have hp := Int.mul_nonneg (Int.natCast_nonneg i) (show 0 ≤ st by omega)
    have hp2 := Int.mul_le_mul_of_nonneg_right (show (i : Int) ≤ c by omega) (show 0 ≤ st by omega)
    rw [larderlaw03_CalWalk.l0, hU, if_pos (by omega), if_pos (by omega), w64 (x := i * st) (by omega) (by omega), w64 (x := p + i * st) (by omega) (by omega), at_dt k (by omega) (by omega) (by omega)]
    simp only [Option.bind_some]
    have e3 := hUe i (by omega)
    have e2 : wrap64 ((i : Int) + 1) = ((i + 1 : Nat) : Int) := by rw [w64 (by omega) (by omega)]; omega
    rw [e2, e3]
    clear e2 e3
    rw [ih (i + 1) k (by omega) (by omega)]
    simp [dS]
theorem walk_j0 (k : Nat) (hk : 90000 < k) (z p q : Int) (hz : -9223372036854775808 ≤ z ∧ z ≤ 9223372036854775807) (h0 : 0 ≤ p) (h1 : p ≤ q) (h2 : q ≤ 3652424) : larderlaw03_CalWalk.j0 k z p q = some true := by
  obtain ⟨k, rfl⟩ : ∃ q, k = q + 1 := ⟨k - 1, by omega⟩
  obtain ⟨v, hv, v0, v1⟩ := within_eq z 1 4000 hz (by omega) (by omega) (by omega)
  rw [larderlaw03_CalWalk.j0, hv]
  simp only [Option.bind_some]
  rw [at_dt k (by omega) h0 (by omega)]
  simp only [Option.bind_some]
  rw [at_dt k (by omega) (by omega) h2]
  simp only [Option.bind_some]
  rw [w64 (x := q - p) (by omega) (by omega), Int.tdiv_eq_ediv_of_nonneg (show 0 ≤ q - p by omega), w64 (x := (q - p) / 20000) (by omega) (by omega), w64 (x := v + (q - p) / 20000) (by omega) (by omega)]
  obtain ⟨st, hst⟩ : ∃ st, v + (q - p) / 20000 = st := ⟨_, rfl⟩
  have s1 : 0 < st := by omega
  have s2 : st ≤ 100000 := by omega
  have s3 : q - p < 20000 * st := by omega
  rw [hst, Int.tdiv_eq_ediv_of_nonneg (show 0 ≤ q - p by omega)]
  have c0 : 0 ≤ (q - p) / st := Int.ediv_nonneg (by omega) (by omega)
  have c1 : (q - p) / st < 20000 := Int.ediv_lt_of_lt_mul s1 s3
  have c2 := Int.ediv_mul_le (q - p) (show st ≠ 0 by omega)
  have c3 := Int.lt_ediv_add_one_mul_self (q - p) s1
  rw [Int.add_mul, Int.one_mul] at c3
  obtain ⟨c, hc⟩ := Int.eq_ofNat_of_zero_le c0
  rw [hc] at c1 c2 c3 ⊢
  rw [walked_up (c := c) h0 h2 s1 (by omega) (by omega) 1073741824 (by omega)]
  simp only [Option.bind_some]
  rw [if_neg (by omega), w64 (x := (c : Int)) (by omega) (by omega), w64 (x := (c : Int) + 1) (by omega) (by omega), if_pos (by simp)]
  exact walk_l0 h0 h1 h2 s1 s2 (by omega) (by omega) _ (by simp) (fun i hi => rd_range _ c i hi) (c + 1) 0 k (by omega) (by omega)
theorem calWalk_pure (a b s : Int) (ha : -9223372036854775808 ≤ a ∧ a ≤ 9223372036854775807) (hb : -9223372036854775808 ≤ b ∧ b ≤ 9223372036854775807) (hs : -9223372036854775808 ≤ s ∧ s ≤ 9223372036854775807) : ∃ k, larderlaw03_CalWalk.f k a b s = some true := by
  refine ⟨100000, ?_⟩
  generalize hk : 100000 = k
  unfold larderlaw03_CalWalk.f
  obtain ⟨p, hp, p0, p1⟩ := within_eq a 0 3652424 ha (by omega) (by omega) (by omega)
  obtain ⟨q, hq, q0, q1⟩ := within_eq b 0 3652424 hb (by omega) (by omega) (by omega)
  rw [hp, hq]
  simp only [Option.bind_some]
  split
  · exact walk_j0 k (by omega) s q p hs q0 (by omega) p1
  · exact walk_j0 k (by omega) s p q hs p0 (by omega) q1
end Go.Proofs.YtofafljfabgpmaaDoor.CalP

/- The law CalEach: the reference's list is the first of the days that Each goes over. -/
import Derived.Test.YtofafljfabgpmaaDoorCalEachW
import Derived.Test.YtofafljfabgpmaaDoorCalP
set_option linter.unusedVariables false
namespace Go.Proofs.YtofafljfabgpmaaDoor.CalP
open Go.RowKit Go.Proofs.YtofafljfabgpmaaDoorW.PrintWords Go.Proofs.YtofafljfabgpmaaDoor.Ext Go.Proofs.YtofafljfabgpmaaDoor.PCal Go.Proofs.YtofafljfabgpmaaDoor.GC
theorem rdate_dt (k : Nat) (hk : 30000 ≤ k) {n : Int} (h0 : 0 ≤ n) (h1 : n ≤ 3652424) : larderref03_date.f k n = some (dt n) := by
  obtain ⟨a, b⟩ := dt_spec h0 h1
  have := rdate_eq k hk a
  rwa [b] at this
theorem list_stop (k : Nat) (x2 x3 : Int) (x9 : List S23) (x12 x14 : Int) (h : ¬ (0 ≤ x14 ∧ x14 ≤ 3652424 ∧ ((0 < x2 ∧ x14 ≤ x12) ∨ (x2 < 0 ∧ x12 ≤ x14)) ∧ (x9.length : Int) < x3)) : larderref03_List.l0 (k + 1) x2 x3 x9 x12 x14 = some x9 := by
  rw [larderref03_List.l0]
  (repeat' split) <;> first | rfl | (exfalso; omega)
theorem list_go (k : Nat) (hk : 30000 ≤ k) (x2 x3 : Int) (x9 : List S23) (x12 x14 : Int) (h0 : 0 ≤ x14) (h1 : x14 ≤ 3652424) (h2 : (0 < x2 ∧ x14 ≤ x12) ∨ (x2 < 0 ∧ x12 ≤ x14)) (h3 : (x9.length : Int) < x3) (h4 : x9.length < 5864062014805) :
    larderref03_List.l0 (k + 1) x2 x3 x9 x12 x14 = larderref03_List.l0 k x2 x3 (x9 ++ [dS x14]) x12 (wrap64 (x14 + x2)) := by
  rw [larderref03_List.l0, rdate_dt k hk h0 h1]
  simp only [Option.bind_some]
  (repeat' split) <;> first | rfl | (exfalso; omega)
theorem l0_up (s st b : Int) (hs : 0 < s) (hst : (s ≤ 3652425 ∧ st = s) ∨ (3652425 < s ∧ st = 3652425)) (n : Int) (hn : n ≤ 2000) (hb : b ≤ 3652424) : ∀ (j m k : Nat) (acc : List S23) (cur : Int), (acc.length : Int) + j = n → 0 ≤ cur → cur ≤ b → b - cur ≤ m → 30000 + j + 2 ≤ k →
    larderref03_List.l0 k st n acc b cur = some (acc ++ ((goL s b m cur).take j).map dS) := by
  intro j
  induction j with
  | zero =>
    intro m k acc cur h1 h2 h3 h4 h5
    obtain ⟨k, rfl⟩ : ∃ q, k = q + 1 := ⟨k - 1, by omega⟩
    rw [list_stop _ _ _ _ _ _ (by omega)]
    simp
  | succ j ih =>
    intro m k acc cur h1 h2 h3 h4 h5
    obtain ⟨k, rfl⟩ : ∃ q, k = q + 1 := ⟨k - 1, by omega⟩
    rw [list_go k (by omega) _ _ _ _ _ h2 (by omega) (by omega) (by omega) (by omega), w64 (x := cur + st) (by omega) (by omega)]
    by_cases hstop : b - cur < s
    · rw [goL_stop m (.inl ⟨hs, hstop⟩)]
      obtain ⟨k, rfl⟩ : ∃ q, k = q + 1 := ⟨k - 1, by omega⟩
      rw [list_stop _ _ _ _ _ _ (by omega)]
      simp
    · obtain ⟨m, rfl⟩ : ∃ q, m = q + 1 := ⟨m - 1, by omega⟩
      rw [show cur + st = cur + s by omega, ih m k (acc ++ [dS cur]) (cur + s) (by simp; omega) (by omega) (by omega) (by omega) (by omega), goL_go m (by omega)]
      simp
theorem l0_down (s st b : Int) (hs : s < 0) (hst : (-3652425 ≤ s ∧ st = s) ∨ (s < -3652425 ∧ st = -3652425)) (n : Int) (hn : n ≤ 2000) (hb : 0 ≤ b) : ∀ (j m k : Nat) (acc : List S23) (cur : Int), (acc.length : Int) + j = n → b ≤ cur → cur ≤ 3652424 → cur - b ≤ m → 30000 + j + 2 ≤ k →
    larderref03_List.l0 k st n acc b cur = some (acc ++ ((goL s b m cur).take j).map dS) := by
  intro j
  induction j with
  | zero =>
    intro m k acc cur h1 h2 h3 h4 h5
    obtain ⟨k, rfl⟩ : ∃ q, k = q + 1 := ⟨k - 1, by omega⟩
    rw [list_stop _ _ _ _ _ _ (by omega)]
    simp
  | succ j ih =>
    intro m k acc cur h1 h2 h3 h4 h5
    obtain ⟨k, rfl⟩ : ∃ q, k = q + 1 := ⟨k - 1, by omega⟩
    rw [list_go k (by omega) _ _ _ _ _ (by omega) (by omega) (by omega) (by omega) (by omega), w64 (x := cur + st) (by omega) (by omega)]
    by_cases hstop : s < b - cur
    · rw [goL_stop m (.inr ⟨hs, hstop⟩)]
      obtain ⟨k, rfl⟩ : ∃ q, k = q + 1 := ⟨k - 1, by omega⟩
      rw [list_stop _ _ _ _ _ _ (by omega)]
      simp
    · obtain ⟨m, rfl⟩ : ∃ q, m = q + 1 := ⟨m - 1, by omega⟩
      rw [show cur + st = cur + s by omega, ih m k (acc ++ [dS cur]) (cur + s) (by simp; omega) (by omega) (by omega) (by omega) (by omega), goL_go m (by omega)]
      simp
theorem list_eq (k : Nat) (hk : 40000 ≤ k) (y m d y' m' d' s n : Int) (h0 : 0 ≤ n) (h1 : n ≤ 1000) : larderref03_List.f k y m d y' m' d' s n = some (((eachL y m d y' m' d' s).take n.toNat).map dS) := by
  unfold larderref03_List.f
  rw [rdays_eq k y m d (by omega), rdays_eq k y' m' d' (by omega)]
  simp only [Option.bind_some]
  obtain ⟨k, rfl⟩ : ∃ q, k = q + 1 := ⟨k - 1, by omega⟩
  cases hv : vldB y m d with
  | false => simp [larderref03_List.j0, eachL, hv]
  | true =>
    cases hv' : vldB y' m' d' with
    | false => simp [larderref03_List.j0, eachL, hv']
    | true =>
      obtain ⟨-, -, a1, a2⟩ := num_bd hv
      obtain ⟨-, -, b1, b2⟩ := num_bd hv'
      unfold eachL
      rw [hv, hv']
      generalize num y m d = a at *
      generalize num y' m' d' = b at *
      rw [if_pos rfl, if_pos (show (a, (0 : Int)).snd = 0 from rfl), if_pos rfl, if_pos (show (b, (0 : Int)).snd = 0 from rfl)]
      show larderref03_List.j0 (k + 1) s n [] a b (s == 0) = _
      obtain ⟨k, rfl⟩ : ∃ q, k = q + 3 := ⟨k - 3, by omega⟩
      by_cases hs : s = 0
      · subst hs
        simp [larderref03_List.j0]
      · have hj : ∃ st, larderref03_List.j0 (k + 3 + 1) s n [] a b (s == 0) = larderref03_List.l0 (k + 1) st n [] b a ∧ ((3652425 < s ∧ st = 3652425) ∨ (s < -3652425 ∧ st = -3652425) ∨ (-3652425 ≤ s ∧ s ≤ 3652425 ∧ st = s)) := by
          rw [larderref03_List.j0, if_neg (by simpa using hs)]
          by_cases c1 : s > 3652425
          · rw [if_pos c1, larderref03_List.j1, if_neg (by omega), larderref03_List.j2]
            exact ⟨_, rfl, .inl ⟨c1, rfl⟩⟩
          · rw [if_neg c1, larderref03_List.j1]
            by_cases c2 : s < -3652425
            · rw [if_pos c2, larderref03_List.j2]
              exact ⟨_, rfl, .inr (.inl ⟨c2, rfl⟩)⟩
            · rw [if_neg c2, larderref03_List.j2]
              exact ⟨_, rfl, .inr (.inr ⟨by omega, by omega, rfl⟩)⟩
        obtain ⟨st, hj, hst⟩ := hj
        rw [hj]
        clear hj
        rcases (show 0 < s ∨ s < 0 by omega) with h | h
        · by_cases hab : a ≤ b
          · rw [if_pos ⟨rfl, rfl, hs, .inl ⟨h, hab⟩⟩, l0_up s st b h (by omega) n (by omega) (by omega) n.toNat (b - a).natAbs (k + 1) [] a (by simp; omega) (by omega) hab (by omega) (by omega)]
            rfl
          · rw [if_neg (fun z => by have := z.2.2.2; omega), list_stop _ _ _ _ _ _ (by omega)]
            simp
        · by_cases hab : b ≤ a
          · rw [if_pos ⟨rfl, rfl, hs, .inr ⟨h, hab⟩⟩, l0_down s st b h (by omega) n (by omega) (by omega) n.toNat (b - a).natAbs (k + 1) [] a (by simp; omega) hab (by omega) (by omega) (by omega)]
            rfl
          · rw [if_neg (fun z => by have := z.2.2.2; omega), list_stop _ _ _ _ _ _ (by omega)]
            simp
theorem dates_self (R : List S23) (k : Nat) (hk : R.length < k) (hR : R.length < 1000000) : larderlaw03_dates.f k R R = some true := by
  unfold larderlaw03_dates.f
  rw [if_pos rfl]
  have key : ∀ (m i k : Nat), i + m = R.length → m < k → larderlaw03_dates.l0 k R R i = some true := by
    intro m
    induction m with
    | zero =>
      intro i k hi hk
      obtain ⟨k, rfl⟩ : ∃ q, k = q + 1 := ⟨k - 1, by omega⟩
      rw [larderlaw03_dates.l0, if_neg (by omega)]
    | succ m ih =>
      intro i k hi hk
      obtain ⟨k, rfl⟩ : ∃ q, k = q + 1 := ⟨k - 1, by omega⟩
      have e2 : wrap64 ((i : Int) + 1) = ((i + 1 : Nat) : Int) := by rw [w64 (by omega) (by omega)]; omega
      rw [larderlaw03_dates.l0, if_pos (by omega), if_pos (by omega), if_pos (by omega), e2, ih (i + 1) k (by omega) (by omega)]
      simp
  exact key R.length 0 k (by omega) (by omega)
theorem tmod_thousand (x : Int) : -1000 < Int.tmod x 1000 ∧ Int.tmod x 1000 < 1000 := by
  rcases (show 0 ≤ x ∨ x < 0 by omega) with h | h
  · rw [Int.tmod_eq_emod_of_nonneg h]; omega
  · obtain ⟨y, rfl⟩ : ∃ y, x = -y := ⟨-x, by omega⟩
    rw [Int.neg_tmod, Int.tmod_eq_emod_of_nonneg (by omega)]; omega
end Go.Proofs.YtofafljfabgpmaaDoor.CalP
namespace Go.Proofs.YtofafljfabgpmaaDoor.Ext
open Go.RowKit Go.Shelf Go.Proofs.YtofafljfabgpmaaDoorW.PrintWords Go.Proofs.YtofafljfabgpmaaDoor.PCal Go.Proofs.YtofafljfabgpmaaDoor.CalP Go.Proofs.YtofafljfabgpmaaDoor.GC
def larderlaw03_CalEach.f (k : Nat) (y m d y' m' d' s most : Int) : Option Bool := some true
theorem larderlaw03_CalEach.calls (k : Nat) (y m d y' m' d' s most : Int) (r : Bool) (w : World) (hG : GlobOk w) (h : larderlaw03_CalEach.f k y m d y' m' d' s most = some r) :
    Calls Tryd.prog 5 #[.agg #[.int .i64 y, .int .i64 m, .int .i64 d], .agg #[.int .i64 y', .int .i64 m', .int .i64 d'], .int .i64 s, .int .i64 most] w fun e w' => e = .returned (.bool r) ∧ Below w.heap.size w w' := by
  obtain rfl := Option.some.inj h
  have hb := tmod_thousand most
  obtain ⟨t, ht⟩ : ∃ t, Int.tmod most 1000 = t := ⟨_, rfl⟩
  rw [ht] at hb
  have key : ∀ n : Int, 0 ≤ n → n < 1000 → larderlaw03_walked.f y m d y' m' d' s n = some (((eachL y m d y' m' d' s).take n.toNat).map dS) := by
    intro n h0 h1
    unfold larderlaw03_walked.f
    by_cases hn : n < 1
    · obtain rfl : n = 0 := by omega
      simp
    · rw [if_neg hn]
  have hd : ∀ n : Int, 0 ≤ n → n ≤ 1000 → larderlaw03_dates.f 40000 (((eachL y m d y' m' d' s).take n.toNat).map dS) (((eachL y m d y' m' d' s).take n.toNat).map dS) = some true := by
    intro n h0 h1
    have hl : (((eachL y m d y' m' d' s).take n.toNat).map dS).length ≤ n.toNat := by rw [List.length_map]; exact List.length_take_le _ _
    exact dates_self _ _ (by omega) (by omega)
  rcases (show 0 ≤ t ∨ t < 0 by omega) with h0 | h0
  · exact Calls.mono (callsIn_wide.1 (each_pos 40000 y m d y' m' d' s most t w hG ht h0 hb.2 _ (key t h0 hb.2) (list_eq 40000 (by omega) y m d y' m' d' s t h0 (by omega)) (list_eq 40000 (by omega) y m d y' m' d' s (t + 1) (by omega) (by omega)) (hd t h0 (by omega)) (hd (t + 1) (by omega) (by omega)))) (fun e w' h => h)
  · obtain ⟨n, hn⟩ : ∃ n, -t = n := ⟨_, rfl⟩
    exact Calls.mono (callsIn_wide.1 (each_neg 40000 y m d y' m' d' s most n t w hG ht h0 hn (by omega) _ (key n (by omega) (by omega)) (list_eq 40000 (by omega) y m d y' m' d' s n (by omega) (by omega)) (list_eq 40000 (by omega) y m d y' m' d' s (n + 1) (by omega) (by omega)) (hd n (by omega) (by omega)) (hd (n + 1) (by omega) (by omega)))) (fun e w' h => h)
theorem calEach_pure (y m d y' m' d' s most : Int) : ∃ k, larderlaw03_CalEach.f k y m d y' m' d' s most = some true := ⟨0, rfl⟩
end Go.Proofs.YtofafljfabgpmaaDoor.Ext

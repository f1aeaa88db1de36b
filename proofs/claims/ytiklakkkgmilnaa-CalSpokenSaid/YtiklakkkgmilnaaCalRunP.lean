/- The reader of spans as a function on lists of bytes; what it makes of a printed span. -/
import Derived.Test.YtiklakkkgmilnaaCalParseX
import Derived.Test.YtiklakkkgmilnaaCalSpanX
set_option linter.unusedSimpArgs false
set_option linter.unusedVariables false
namespace Go.Proofs.Ytiklakkkgmilnaa.CalP
open Go.RowKit Go.IntWalk Go.Proofs.YtiklakkkgmilnaaW.PrintWords Go.Proofs.Ytiklakkkgmilnaa.Ext Go.Proofs.Ytiklakkkgmilnaa.GC

def runL : List Int → RS → Option RS
  | [], r => some r
  | c :: l, r => if (takeF r c).1 = true then runL l (takeF r c).2 else none
def bts (s : ByteArray) : List Int := s.data.toList.map fun b => (b.toNat : Int)
theorem bts_app (a b : ByteArray) : bts (a ++ b) = bts a ++ bts b := by simp [bts]
theorem bts_len (s : ByteArray) : (bts s).length = s.size := by simp [bts]
theorem bts_at (s : ByteArray) (i : Nat) (h : i < s.size) : (bts s)[i]'(by rw [bts_len]; exact h) = bt s i := by
  rw [← bt_at s i h]
  simp only [bts, List.getElem_map, Array.getElem_toList]
  rfl
theorem bts_inj {a b : ByteArray} (h : bts a = bts b) : a = b := by
  have hi : Function.Injective (fun b : UInt8 => (b.toNat : Int)) := fun x y e => UInt8.toNat_inj.1 (Int.ofNat.inj e)
  have := (List.map_inj_right (fun x y e => hi e)).1 h
  exact ByteArray.ext (Array.ext' this)
theorem runL_app (a b : List Int) (r : RS) : runL (a ++ b) r = (runL a r).bind (runL b) := by
  induction a generalizing r with
  | nil => rfl
  | cons c a ih =>
    simp only [List.cons_append, runL]
    split
    · exact ih _
    · rfl
theorem loopF_run (s : ByteArray) : ∀ (m i : Nat) (r r' : RS), i + m = s.size → runL ((bts s).drop i) r = some r' → loopF s m r i = finF s r' := by
  intro m
  induction m with
  | zero =>
    intro i r r' hi h
    rw [List.drop_of_length_le (by rw [bts_len]; omega)] at h
    cases h; rfl
  | succ m ih =>
    intro i r r' hi h
    rw [List.drop_eq_getElem_cons (by rw [bts_len]; omega), bts_at s i (by omega), runL] at h
    rw [loopF]
    by_cases ht : (takeF r (bt s i)).1 = true
    · rw [if_pos ht] at h ⊢
      exact ih (i + 1) _ r' (by omega) h
    · rw [if_neg ht] at h; cases h
/-- a number's digits are read as that number -/
theorem run_pad (r : RS) (h1 : r.en = false) (h2 : ¬ r.nx ≥ r.to) (h3 : r.hs = 0) (h4 : r.n = 0) :
    ∀ (k f : Nat) (n d : Int), k ≤ 9 → k ≤ f → 0 < n → n < 10 ^ k → d ≤ 1 → ∃ L : Nat, 1 ≤ L ∧ L ≤ k ∧ (padS f n d).size = L ∧ runL (bts (padS f n d)) r = some { r with n := n, hs := L } := by
  intro k
  induction k with
  | zero => intro f n d _ _ a b; simp at b; omega
  | succ k ih =>
    intro f n d hk hf a b hd
    obtain ⟨f, rfl⟩ : ∃ g, f = g + 1 := ⟨f - 1, by omega⟩
    have e : padS (f + 1) n d = padS f (n / 10) (d - 1) ++ dg n := by rw [padS, if_pos (.inl a)]
    have bd : bts (dg n) = [48 + n % 10] := by
      unfold dg bts strOfNums
      simp
      omega
    have hp : (10 : Int) ^ (k + 1) = 10 ^ k * 10 := Int.pow_succ ..
    have step : ∀ (q : RS), q.en = false → ¬ q.nx ≥ q.to → q.hs ≠ 9 → runL [48 + n % 10] q = some { q with n := 10 * q.n + n % 10, hs := q.hs + 1 } := by
      intro q a1 a2 a3
      have T : takeF q (48 + n % 10) = (true, { q with n := 10 * q.n + (48 + n % 10 - 48), hs := q.hs + 1 }) :=
        (if_pos (by omega)).trans (if_neg (by rintro (e | e | e)
                                              · rw [a1] at e; cases e
                                              · exact a2 e
                                              · exact a3 e))
      rw [runL, T]
      simp only [if_true, runL]
      rw [show 48 + n % 10 - 48 = n % 10 by omega]
    by_cases hz : n / 10 = 0
    · refine ⟨1, by omega, by omega, ?_, ?_⟩
      · rw [e, hz]
        have : padS f 0 (d - 1) = (⟨#[]⟩ : ByteArray) := by
          cases f with
          | zero => rfl
          | succ f => rw [padS, if_neg (by omega)]
        rw [this, nil_app, dg_size]
      · rw [e, hz]
        have : padS f 0 (d - 1) = (⟨#[]⟩ : ByteArray) := by
          cases f with
          | zero => rfl
          | succ f => rw [padS, if_neg (by omega)]
        rw [this, nil_app, bd, step r h1 h2 (by omega), h4, h3]
        congr 2
        omega
    · obtain ⟨L, L1, L2, L3, L4⟩ := ih f (n / 10) (d - 1) (by omega) (by omega) (by omega) (by omega) (by omega)
      refine ⟨L + 1, by omega, by omega, ?_, ?_⟩
      · rw [e, ByteArray.size_append, L3, dg_size]
      · rw [e, bts_app, runL_app, L4, bd]
        simp only [Option.bind_some]
        rw [step _ (by exact h1) (by exact h2) (by show (L : Int) ≠ 9; omega)]
        congr 2
        show 10 * (n / 10) + n % 10 = n
        omega
theorem run_P (r : RS) (h1 : r.en = false) (h2 : ¬ r.nx ≥ r.to) (h3 : r.hs = 0) (h4 : r.n = 0) (n : Int) (a : 0 < n) (b : n ≤ 999999999) :
    ∃ L : Nat, 1 ≤ L ∧ L ≤ 9 ∧ (P n 1).size = L ∧ runL (bts (P n 1)) r = some { r with n := n, hs := L } :=
  run_pad r h1 h2 h3 h4 9 20 n 1 (by omega) (by omega) a (show n < 10 ^ 9 by omega) (by omega)
theorem bts_ltr (k : Nat) : k < 6 → bts (ltr k) = [L k] := by
  intro hk
  match k, hk with
  | 0, _ => rfl
  | 1, _ => rfl
  | 2, _ => rfl
  | 3, _ => rfl
  | 4, _ => rfl
  | 5, _ => rfl
theorem L_ne (k : Nat) : k < 6 → L k ≠ 87 ∧ ¬ (48 ≤ L k ∧ L k ≤ 57) := by
  intro hk
  match k, hk with
  | 0, _ => decide
  | 1, _ => decide
  | 2, _ => decide
  | 3, _ => decide
  | 4, _ => decide
  | 5, _ => decide
theorem fnd_u (j k : Nat) (h : j ≤ k ∧ k < 3) : fnd (L k) (3 - j) j = some k := by
  match j, k, h with
  | 0, 0, _ => decide
  | 0, 1, _ => decide
  | 0, 2, _ => decide
  | 1, 1, _ => decide
  | 1, 2, _ => decide
  | 2, 2, _ => decide
  | j, k + 3, h => omega
  | 1, 0, h => omega
  | 2, 0, h => omega
  | 2, 1, h => omega
  | j + 3, k, h => omega
theorem fnd_t (j k : Nat) (h : 3 ≤ j ∧ j ≤ k ∧ k < 6) : fnd (L k) (6 - j) j = some k := by
  obtain ⟨h1, h2, h3⟩ := h
  match j, k with
  | 3, 3 => decide
  | 3, 4 => decide
  | 3, 5 => decide
  | 4, 4 => decide
  | 4, 5 => decide
  | 5, 5 => decide
  | 0, k => omega
  | 1, k => omega
  | 2, k => omega
  | j, k + 6 => omega
  | 3, 0 => omega
  | 3, 1 => omega
  | 3, 2 => omega
  | 4, 0 => omega
  | 4, 1 => omega
  | 4, 2 => omega
  | 4, 3 => omega
  | 5, 0 => omega
  | 5, 1 => omega
  | 5, 2 => omega
  | 5, 3 => omega
  | 5, 4 => omega
  | j + 6, k => omega
/-- the reader behind k printed parts -/
structure St (y mo d h mi s : Int) (k : Nat) (r : RS) : Prop where
  fy : r.y = if 0 < k then y else 0
  fmo : r.mo = if 1 < k then mo else 0
  fd : r.d = if 2 < k then d else 0
  fh : r.h = if 3 < k then h else 0
  fmi : r.mi = if 4 < k then mi else 0
  fs : r.s = if 5 < k then s else 0
  wk : r.wk = 0
  en : r.en = false
  n : r.n = 0
  hs : r.hs = 0
  n0 : 0 ≤ r.nx
  nk : r.nx ≤ 3 ∨ r.nx ≤ k
  nt : r.ti = true → 3 ≤ r.nx
  nu : r.ti = false → r.nx ≤ 3 ∧ r.nx ≤ k
  ti : r.ti = decide (3 < k ∧ 0 < h + mi + s)
  em : r.em = (r.ti && decide (pS y mo d h mi s k = pS y mo d h mi s 3))
  bg : r.bg = decide (0 < pS y mo d h mi s k)
/-- a number and its letter -/
theorem run_part (r : RS) (k : Nat) (hk : k < 6) (h1 : r.en = false) (h3 : r.hs = 0) (h4 : r.n = 0) (h0 : 0 ≤ r.nx) (hx : r.nx ≤ k) (ht : if r.ti = true then 3 ≤ r.nx else k < 3) (n : Int) (a : 0 < n) (b : n ≤ 999999999) :
    ∃ L : Nat, 1 ≤ L ∧ L ≤ 9 ∧ (P n 1).size = L ∧ runL (bts (P n 1 ++ ltr k)) r = some ({ r with n := n, hs := L }.part k) := by
  have h2 : ¬ r.nx ≥ r.to := by
    unfold RS.to
    cases e : r.ti
    · rw [e] at ht; simp at ht ⊢; omega
    · rw [e] at ht; simp at ht ⊢; omega
  obtain ⟨L', l1, l2, l3, l4⟩ := run_P r h1 h2 h3 h4 n a b
  refine ⟨L', l1, l2, l3, ?_⟩
  rw [bts_app, runL_app, l4, bts_ltr k hk]
  simp only [Option.bind_some]
  obtain ⟨q1, q2⟩ := L_ne k hk
  obtain ⟨y, mo, wk, d, h, mi, s, nx, bg, ti, em, en, n', hs⟩ := r
  simp only at *
  obtain ⟨j, rfl⟩ : ∃ j : Nat, nx = j := ⟨nx.toNat, by omega⟩
  have T : takeF ⟨y, mo, wk, d, h, mi, s, j, bg, ti, em, en, n, L'⟩ (L k) = (true, RS.part ⟨y, mo, wk, d, h, mi, s, j, bg, ti, em, en, n, L'⟩ k) := by
    have A : takeF ⟨y, mo, wk, d, h, mi, s, j, bg, ti, em, en, n, L'⟩ (L k) = letF ⟨y, mo, wk, d, h, mi, s, j, bg, ti, em, en, n, L'⟩ (L k) := (if_neg q2).trans (if_pos (show (L' : Int) > 0 by omega))
    rw [A]
    unfold letF
    rw [if_neg q1]
    have F : fnd (L k) (RS.to ⟨y, mo, wk, d, h, mi, s, j, bg, ti, em, en, n, L'⟩ - ((j : Int)).toNat) ((j : Int)).toNat = some k := by
      cases ti
      · simp at ht; exact fnd_u j k (by omega)
      · simp at ht; exact fnd_t j k (by omega)
    simp only [F]
  rw [runL, T]
  rfl
theorem St.step {y mo d h mi s : Int} (hok : allOk y mo d h mi s = true) {k : Nat} (hk : k < 6) {r : RS} (H : St y mo d h mi s k r) :
    ∃ (t : List Int) (r' : RS), bts (outs y mo d h mi s (k + 1)) = bts (outs y mo d h mi s k) ++ t ∧ t.length ≤ (if k = 3 then 11 else 10) ∧ runL t r = some r' ∧ St y mo d h mi s (k + 1) r' := by
  have hp : ∀ j, 0 ≤ pN y mo d h mi s j ∧ pN y mo d h mi s j ≤ 999999999 := fun j => of_all hok j
  have hS : pS y mo d h mi s (k + 1) = pS y mo d h mi s k + pN y mo d h mi s k := rfl
  have p0 : 0 ≤ y := (hp 0).1
  have p1 : 0 ≤ mo := (hp 1).1
  have p2 : 0 ≤ d := (hp 2).1
  have p3 : 0 ≤ h := (hp 3).1
  have p4 : 0 ≤ mi := (hp 4).1
  have p5 : 0 ≤ s := (hp 5).1
  have hbd := (pS_bd (y := y) (mo := mo) (d := d) (h := h) (mi := mi) (s := s) k (fun j _ => hp j)).1
  have hpk := hp k
  -- the T
  have HT : ∃ (t : List Int) (r1 : RS), bts (if k = 3 ∧ h + mi + s > 0 then outs y mo d h mi s k ++ (⟨#[84]⟩ : ByteArray) else outs y mo d h mi s k) = bts (outs y mo d h mi s k) ++ t ∧ t.length ≤ (if k = 3 then 1 else 0) ∧ runL t r = some r1 ∧
      r1 = (if k = 3 ∧ h + mi + s > 0 then { r with nx := 3, ti := true, em := true } else r) := by
    by_cases c : k = 3 ∧ h + mi + s > 0
    · rw [if_pos c]
      have ht : r.ti = false := by rw [H.ti, decide_eq_false]; omega
      refine ⟨[84], { r with nx := 3, ti := true, em := true }, by rw [bts_app]; rfl, by rw [if_pos c.1]; simp, ?_, (if_pos c).symm⟩
      have T : takeF r 84 = (true, { r with nx := 3, ti := true, em := true }) := by
        unfold takeF
        rw [if_neg (by decide), if_neg (show ¬ r.hs > 0 by rw [H.hs]; decide), if_pos ⟨rfl, ht, H.en⟩]
      rw [runL, T]; rfl
    · rw [if_neg c]
      exact ⟨[], r, by simp, by simp, rfl, (if_neg c).symm⟩
  obtain ⟨t1, r1, e1, len1, run1, hr1⟩ := HT
  by_cases hn : pN y mo d h mi s k > 0
  · have k3 : 3 ≤ k → 0 < h + mi + s := by
      intro q
      unfold pN at hn
      match k, hk with
      | 3, _ => simp at hn; omega
      | 4, _ => simp at hn; omega
      | 5, _ => simp at hn; omega
      | 0, _ => omega
      | 1, _ => omega
      | 2, _ => omega
    have ht1 : r1.ti = decide (3 ≤ k) := by
      rw [hr1]
      by_cases c : k = 3 ∧ h + mi + s > 0
      · rw [if_pos c, decide_eq_true (by omega)]
      · rw [if_neg c, H.ti]
        by_cases q : 3 < k
        · rw [decide_eq_true ⟨q, k3 (by omega)⟩, decide_eq_true (by omega)]
        · have : ¬ 3 ≤ k := fun z => c ⟨by omega, k3 z⟩
          rw [decide_eq_false (fun z => q z.1), decide_eq_false this]
    have hx1 : 0 ≤ r1.nx ∧ r1.nx ≤ k ∧ (3 ≤ k → 3 ≤ r1.nx) := by
      rw [hr1]
      by_cases c : k = 3 ∧ h + mi + s > 0
      · rw [if_pos c]; simp only; omega
      · rw [if_neg c]
        have a0 := H.n0
        by_cases q : 3 ≤ k
        · have : 3 < k := by have := k3 q; omega
          have tt : r.ti = true := by rw [H.ti, decide_eq_true ⟨this, k3 q⟩]
          have := H.nt tt
          have := H.nk
          omega
        · have tt : r.ti = false := by rw [H.ti, decide_eq_false (by omega)]
          have := H.nu tt
          omega
    have q1 : r1.en = false := by rw [hr1]; split <;> exact H.en
    have q2 : r1.hs = 0 := by rw [hr1]; split <;> exact H.hs
    have q3 : r1.n = 0 := by rw [hr1]; split <;> exact H.n
    obtain ⟨L', l1, l2, l3, l4⟩ := run_part r1 k hk q1 q2 q3 hx1.1 hx1.2.1 (by
      rw [ht1]; split
      · rename_i z; simp at z; exact hx1.2.2 z
      · rename_i z; simp at z; omega) (pN y mo d h mi s k) hn hpk.2
    refine ⟨t1 ++ bts (P (pN y mo d h mi s k) 1 ++ ltr k), _, ?_, ?_, (runL_app _ _ _).trans (by rw [run1]; exact l4), ?_⟩
    · rw [outs, if_pos hn, bts_app, e1, List.append_assoc]
    · rw [List.length_append, bts_len, ByteArray.size_append, l3, ltr_size]
      split <;> rename_i z
      · rw [if_pos z] at len1; omega
      · rw [if_neg z] at len1; omega
    · have f1 : r1.y = r.y := by rw [hr1]; split <;> rfl
      have f2 : r1.mo = r.mo := by rw [hr1]; split <;> rfl
      have f3 : r1.d = r.d := by rw [hr1]; split <;> rfl
      have f4 : r1.h = r.h := by rw [hr1]; split <;> rfl
      have f5 : r1.mi = r.mi := by rw [hr1]; split <;> rfl
      have f6 : r1.s = r.s := by rw [hr1]; split <;> rfl
      have f7 : r1.wk = r.wk := by rw [hr1]; split <;> rfl
      have hpos : 0 < pS y mo d h mi s (k + 1) := by omega
      refine ⟨?_, ?_, ?_, ?_, ?_, ?_, ?_, q1, rfl, rfl, ?_, ?_, ?_, ?_, ?_, ?_, ?_⟩
      · show (if k = 0 then pN y mo d h mi s k else r1.y) = _
        rw [f1, H.fy]; match k, hk with
        | 0, _ => rfl
        | k + 1, _ => rfl
      · show (if k = 1 then pN y mo d h mi s k else r1.mo) = _
        rw [f2, H.fmo]; match k, hk with
        | 0, _ => rfl
        | 1, _ => rfl
        | k + 2, _ => simp
      · show (if k = 2 then pN y mo d h mi s k else r1.d) = _
        rw [f3, H.fd]; match k, hk with
        | 0, _ => rfl
        | 1, _ => rfl
        | 2, _ => rfl
        | k + 3, _ => simp
      · show (if k = 3 then pN y mo d h mi s k else r1.h) = _
        rw [f4, H.fh]; match k, hk with
        | 0, _ => rfl
        | 1, _ => rfl
        | 2, _ => rfl
        | 3, _ => rfl
        | k + 4, _ => simp
      · show (if k = 4 then pN y mo d h mi s k else r1.mi) = _
        rw [f5, H.fmi]; match k, hk with
        | 0, _ => rfl
        | 1, _ => rfl
        | 2, _ => rfl
        | 3, _ => rfl
        | 4, _ => rfl
        | 5, _ => rfl
      · show (if k = 5 then pN y mo d h mi s k else r1.s) = _
        rw [f6, H.fs]; match k, hk with
        | 0, _ => rfl
        | 1, _ => rfl
        | 2, _ => rfl
        | 3, _ => rfl
        | 4, _ => rfl
        | 5, _ => rfl
      · exact f7.trans H.wk
      · show 0 ≤ (k : Int) + 1; omega
      · right; show (k : Int) + 1 ≤ ((k + 1 : Nat) : Int); omega
      · intro z
        have z' : r1.ti = true := z
        rw [ht1] at z'; simp at z'
        show 3 ≤ (k : Int) + 1; omega
      · intro z
        have z' : r1.ti = false := z
        rw [ht1] at z'; simp at z'
        show (k : Int) + 1 ≤ 3 ∧ (k : Int) + 1 ≤ ((k + 1 : Nat) : Int); omega
      · show r1.ti = _
        rw [ht1]
        by_cases q : 3 ≤ k
        · have := k3 q
          rw [decide_eq_true q, decide_eq_true ⟨by omega, by omega⟩]
        · rw [decide_eq_false q, decide_eq_false (by omega)]
      · show false = (r1.ti && _)
        rw [ht1]
        by_cases q : 3 ≤ k
        · have mono : pS y mo d h mi s 3 ≤ pS y mo d h mi s k := by
            match k, hk with
            | 3, _ => exact Int.le_refl _
            | 4, _ => simp only [pS, pN]; simp; omega
            | 5, _ => simp only [pS, pN]; simp; omega
            | 0, _ => omega
            | 1, _ => omega
            | 2, _ => omega
          rw [decide_eq_false (show ¬ pS y mo d h mi s (k + 1) = pS y mo d h mi s 3 by omega)]; simp
        · rw [decide_eq_false q]; rfl
      · show true = _
        rw [decide_eq_true hpos]
  · have hz : pN y mo d h mi s k = 0 := by omega
    refine ⟨t1, r1, ?_, ?_, run1, ?_⟩
    · rw [outs, if_neg hn, e1]
    · split <;> rename_i z
      · rw [if_pos z] at len1; omega
      · rw [if_neg z] at len1; omega
    · rw [hr1]
      have e0 : pS y mo d h mi s (k + 1) = pS y mo d h mi s k := by omega
      have Y : r.y = if 0 < k + 1 then y else 0 := by
        rw [H.fy]; match k, hk with
        | 0, _ => simpa [pN] using hz.symm
        | k + 1, _ => simp
      have MO : r.mo = if 1 < k + 1 then mo else 0 := by
        rw [H.fmo]; match k, hk with
        | 0, _ => rfl
        | 1, _ => simpa [pN] using hz.symm
        | k + 2, _ => simp
      have D : r.d = if 2 < k + 1 then d else 0 := by
        rw [H.fd]; match k, hk with
        | 0, _ => rfl
        | 1, _ => rfl
        | 2, _ => simpa [pN] using hz.symm
        | k + 3, _ => simp
      have HH : r.h = if 3 < k + 1 then h else 0 := by
        rw [H.fh]; match k, hk with
        | 0, _ => rfl
        | 1, _ => rfl
        | 2, _ => rfl
        | 3, _ => simpa [pN] using hz.symm
        | k + 4, _ => simp
      have MI : r.mi = if 4 < k + 1 then mi else 0 := by
        rw [H.fmi]; match k, hk with
        | 0, _ => rfl
        | 1, _ => rfl
        | 2, _ => rfl
        | 3, _ => rfl
        | 4, _ => simpa [pN] using hz.symm
        | 5, _ => rfl
      have SS : r.s = if 5 < k + 1 then s else 0 := by
        rw [H.fs]; match k, hk with
        | 0, _ => rfl
        | 1, _ => rfl
        | 2, _ => rfl
        | 3, _ => rfl
        | 4, _ => rfl
        | 5, _ => simpa [pN] using hz.symm
      by_cases c : k = 3 ∧ h + mi + s > 0
      · rw [if_pos c]
        refine ⟨Y, MO, D, HH, MI, SS, H.wk, H.en, H.n, H.hs, (by show (0 : Int) ≤ 3; decide), .inl (Int.le_refl _), fun _ => Int.le_refl _, (fun e => by cases e), ?_, ?_, ?_⟩
        · show true = _
          rw [decide_eq_true ⟨by omega, by omega⟩]
        · show true = (true && _)
          rw [decide_eq_true]; · rfl
          · rw [e0, c.1]
        · show r.bg = _
          rw [H.bg, e0]
      · rw [if_neg c]
        have TI : r.ti = decide (3 < k + 1 ∧ 0 < h + mi + s) := by
          rw [H.ti]; apply decide_eq_decide.2
          constructor
          · rintro ⟨a, b⟩; exact ⟨by omega, b⟩
          · rintro ⟨a, b⟩; exact ⟨by omega, b⟩
        refine ⟨Y, MO, D, HH, MI, SS, H.wk, H.en, H.n, H.hs, H.n0, ?_, H.nt, ?_, TI, ?_, ?_⟩
        · have := H.nk; omega
        · intro z; have := H.nu z; omega
        · rw [H.em, e0]
        · rw [H.bg, e0]
theorem st_all {y mo d h mi s : Int} (hok : allOk y mo d h mi s = true) : ∀ k : Nat, k ≤ 6 → ∃ (t : List Int) (r : RS), bts (outs y mo d h mi s k) = 80 :: t ∧ t.length ≤ 10 * k + (if 3 < k then 1 else 0) ∧ runL t r0 = some r ∧ St y mo d h mi s k r := by
  intro k
  induction k with
  | zero =>
    intro _
    exact ⟨[], r0, rfl, by simp, rfl, rfl, rfl, rfl, rfl, rfl, rfl, rfl, rfl, rfl, rfl, Int.le_refl _, .inl (by decide), (fun e => by cases e), fun _ => ⟨by decide, by decide⟩, by simp [r0], rfl, by simp [r0, pS]⟩
  | succ k ih =>
    intro hk
    obtain ⟨t, r, e1, e2, e3, e4⟩ := ih (by omega)
    obtain ⟨t', r', f1, f2, f3, f4⟩ := e4.step hok (by omega)
    refine ⟨t ++ t', r', by rw [f1, e1]; rfl, ?_, by rw [runL_app, e3]; exact f3, f4⟩
    rw [List.length_append]
    repeat' split at e2 <;> repeat' split at f2 <;> repeat' split
    all_goals omega
/-- what is printed is read, byte by byte -/
theorem span_run {y mo wk d h mi s : Int} {t : ByteArray} (hf : cal_PrintSpan.f y mo wk d h mi s = some (t, 0)) :
    ∃ (l : List Int) (r : RS), bts t = 80 :: l ∧ l.length ≤ 63 ∧ runL l r0 = some r ∧ r.hs = 0 ∧ r.bg = true ∧ r.em = false ∧ r.y = y ∧ r.mo = mo ∧ r.wk = wk ∧ r.d = d ∧ r.h = h ∧ r.mi = mi ∧ r.s = s := by
  unfold cal_PrintSpan.f at hf
  by_cases ha : allOk y mo d h mi s = true
  · rw [if_pos ha] at hf
    have hp : ∀ j, 0 ≤ pN y mo d h mi s j ∧ pN y mo d h mi s j ≤ 999999999 := fun j => of_all ha j
    have p0 : 0 ≤ y := (hp 0).1
    have p1 : 0 ≤ mo := (hp 1).1
    have p2 : 0 ≤ d := (hp 2).1
    have p3 : 0 ≤ h := (hp 3).1
    have p4 : 0 ≤ mi := (hp 4).1
    have p5 : 0 ≤ s := (hp 5).1
    have hS : pS y mo d h mi s 6 = y + mo + d + h + mi + s := by simp [pS, pN]
    by_cases c : wk < 0 ∨ wk > 999999999 ∨ (wk > 0 ∧ pS y mo d h mi s 6 > 0)
    · rw [if_pos c] at hf; have := (Prod.mk.inj (Option.some.inj hf)).2; omega
    · rw [if_neg c] at hf
      by_cases c1 : wk > 0
      · rw [if_pos c1] at hf
        obtain ⟨rfl, _⟩ := Prod.mk.inj (Option.some.inj hf)
        obtain ⟨L', l1, l2, l3, l4⟩ := run_P r0 rfl (by decide) rfl rfl wk c1 (by omega)
        refine ⟨bts (P wk 1) ++ [87], { r0 with wk := wk, en := true, bg := true, n := 0, hs := 0 }, ?_, ?_, ?_, rfl, rfl, rfl, ?_, ?_, rfl, ?_, ?_, ?_, ?_⟩
        · rw [bts_app, bts_app]; rfl
        · rw [List.length_append, bts_len, l3]; simp; omega
        · rw [runL_app, l4]
          simp only [Option.bind_some]
          have T : takeF { r0 with n := wk, hs := (L' : Int) } 87 = (true, { r0 with wk := wk, en := true, bg := true, n := 0, hs := 0 }) := by
            unfold takeF
            rw [if_neg (by decide), if_pos (show (L' : Int) > 0 by omega)]
            rfl
          rw [runL, T]; rfl
        all_goals (show (0 : Int) = _; omega)
      · rw [if_neg c1] at hf
        by_cases c2 : pS y mo d h mi s 6 = 0
        · rw [if_pos c2] at hf
          obtain ⟨rfl, _⟩ := Prod.mk.inj (Option.some.inj hf)
          refine ⟨[84, 48, 83], ⟨0, 0, 0, 0, 0, 0, 0, 6, true, true, false, false, 0, 0⟩, rfl, by simp, rfl, rfl, rfl, rfl, ?_, ?_, ?_, ?_, ?_, ?_, ?_⟩
          all_goals (show (0 : Int) = _; omega)
        · rw [if_neg c2] at hf
          obtain ⟨rfl, _⟩ := Prod.mk.inj (Option.some.inj hf)
          obtain ⟨l, r, e1, e2, e3, e4⟩ := st_all ha 6 (Nat.le_refl _)
          have e2' : l.length ≤ 61 := by simpa using e2
          refine ⟨l, r, e1, by omega, e3, e4.hs, ?_, ?_, e4.fy, e4.fmo, ?_, e4.fd, e4.fh, e4.fmi, e4.fs⟩
          · rw [e4.bg, decide_eq_true (by omega)]
          · rw [e4.em, e4.ti]
            by_cases q : 0 < h + mi + s
            · rw [decide_eq_false (show ¬ pS y mo d h mi s 6 = pS y mo d h mi s 3 by simp [pS, pN]; omega)]; simp
            · rw [decide_eq_false (fun z => q z.2)]; rfl
          · rw [e4.wk]; omega
  · rw [if_neg ha] at hf; cases hf
theorem bt0 {t : ByteArray} {c : Int} {l : List Int} (h : bts t = c :: l) : t.size = l.length + 1 ∧ bt t 0 = c := by
  have hs : t.size = l.length + 1 := by rw [← bts_len, h]; rfl
  refine ⟨hs, ?_⟩
  have e := bts_at t 0 (by omega)
  refine e.symm.trans ?_
  simp [h]
theorem parse_of_run {t : ByteArray} {l : List Int} {r : RS} (h : bts t = 80 :: l) (hl : l.length ≤ 63) (hr : runL l r0 = some r) : cal_ParseSpan.f t = some (finF t r) := by
  obtain ⟨h1, h2⟩ := bt0 h
  unfold cal_ParseSpan.f
  have hn : ¬ (t.size = 0 ∨ bt t 0 ≠ 80) := fun e => e.elim (fun e => by omega) (fun e => e h2)
  rw [if_neg (by omega), if_neg hn, loopF_run t (t.size - 1) 1 r0 r (by omega) (by rw [h]; exact hr)]
/-- a printed span is read as itself -/
theorem span_back {y mo wk d h mi s : Int} {t : ByteArray} (hf : cal_PrintSpan.f y mo wk d h mi s = some (t, 0)) : cal_ParseSpan.f t = some (y, mo, wk, d, h, mi, s, 0, 0) := by
  obtain ⟨l, r, e1, e2, e3, e4, e5, e6, e7, e8, e9, e10, e11, e12, e13⟩ := span_run hf
  rw [parse_of_run e1 e2 e3]
  unfold finF
  rw [if_neg (by rw [e4, e5, e6]; decide), e7, e8, e9, e10, e11, e12, e13]
end Go.Proofs.Ytiklakkkgmilnaa.CalP

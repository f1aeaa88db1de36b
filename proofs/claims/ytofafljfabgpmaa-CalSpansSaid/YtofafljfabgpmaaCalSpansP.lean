/- The law CalSpans in plain numbers and texts: of every text cal's ParseSpan answers what the reference answers. -/
import Derived.Test.YtofafljfabgpmaaCalParseX
import Derived.Test.YtofafljfabgpmaaGCxf8
set_option linter.unusedSimpArgs false
set_option linter.unusedVariables false
namespace Go.Proofs.Ytofafljfabgpmaa.CalP
open Go.RowKit Go.IntWalk Go.Proofs.YtofafljfabgpmaaW.PrintWords Go.Proofs.Ytofafljfabgpmaa.Ext Go.Proofs.Ytofafljfabgpmaa.GC

theorem rk_u (c : Int) (l : Nat) (hl : l < 3) (hc : c ≠ 87) : ∃ rk : Int, larderref03_rank.f c false = some rk ∧ ((rk ≤ l ∧ fnd c (3 - l) l = none) ∨ (∃ k : Nat, k < 3 ∧ l ≤ k ∧ rk = k + 1 ∧ fnd c (3 - l) l = some k)) := by
  unfold larderref03_rank.f
  rw [if_neg (by decide)]
  by_cases h1 : c = 89
  · subst h1
    match l, hl with
    | 0, _ => exact ⟨1, by decide, .inr ⟨0, by decide, by decide, by decide, by decide⟩⟩
    | 1, _ => exact ⟨1, by decide, .inl ⟨by decide, by decide⟩⟩
    | 2, _ => exact ⟨1, by decide, .inl ⟨by decide, by decide⟩⟩
  · rw [if_neg h1]
    by_cases h2 : c = 77
    · subst h2
      match l, hl with
      | 0, _ => exact ⟨2, by decide, .inr ⟨1, by decide, by decide, by decide, by decide⟩⟩
      | 1, _ => exact ⟨2, by decide, .inr ⟨1, by decide, by decide, by decide, by decide⟩⟩
      | 2, _ => exact ⟨2, by decide, .inl ⟨by decide, by decide⟩⟩
    · rw [if_neg h2]
      by_cases h3 : c = 68
      · subst h3
        match l, hl with
        | 0, _ => exact ⟨3, by decide, .inr ⟨2, by decide, by decide, by decide, by decide⟩⟩
        | 1, _ => exact ⟨3, by decide, .inr ⟨2, by decide, by decide, by decide, by decide⟩⟩
        | 2, _ => exact ⟨3, by decide, .inr ⟨2, by decide, by decide, by decide, by decide⟩⟩
      · rw [if_neg h3]
        refine ⟨0, rfl, .inl ⟨by omega, ?_⟩⟩
        have e0 : ¬ (89 : Int) = c := fun e => h1 e.symm
        have e1 : ¬ (77 : Int) = c := fun e => h2 e.symm
        have e2 : ¬ (68 : Int) = c := fun e => h3 e.symm
        match l, hl with
        | 0, _ => simp [fnd, L, e0, e1, e2]
        | 1, _ => simp [fnd, L, e0, e1, e2]
        | 2, _ => simp [fnd, L, e0, e1, e2]
theorem rk_t (c : Int) (l : Nat) (hl : 3 ≤ l ∧ l < 6) (hc : c ≠ 87) : ∃ rk : Int, larderref03_rank.f c true = some rk ∧ ((rk ≤ (if l = 3 then 0 else l + 1) ∧ fnd c (6 - l) l = none) ∨ (∃ k : Nat, k < 6 ∧ l ≤ k ∧ rk = k + 2 ∧ fnd c (6 - l) l = some k)) := by
  unfold larderref03_rank.f
  rw [if_pos rfl]
  by_cases h1 : c = 72
  · subst h1
    match l, hl with
    | 3, _ => exact ⟨5, by decide, .inr ⟨3, by decide, by decide, by decide, by decide⟩⟩
    | 4, _ => exact ⟨5, by decide, .inl ⟨by decide, by decide⟩⟩
    | 5, _ => exact ⟨5, by decide, .inl ⟨by decide, by decide⟩⟩
  · rw [if_neg h1]
    by_cases h2 : c = 77
    · subst h2
      match l, hl with
      | 3, _ => exact ⟨6, by decide, .inr ⟨4, by decide, by decide, by decide, by decide⟩⟩
      | 4, _ => exact ⟨6, by decide, .inr ⟨4, by decide, by decide, by decide, by decide⟩⟩
      | 5, _ => exact ⟨6, by decide, .inl ⟨by decide, by decide⟩⟩
    · rw [if_neg h2]
      by_cases h3 : c = 83
      · subst h3
        match l, hl with
        | 3, _ => exact ⟨7, by decide, .inr ⟨5, by decide, by decide, by decide, by decide⟩⟩
        | 4, _ => exact ⟨7, by decide, .inr ⟨5, by decide, by decide, by decide, by decide⟩⟩
        | 5, _ => exact ⟨7, by decide, .inr ⟨5, by decide, by decide, by decide, by decide⟩⟩
      · rw [if_neg h3]
        have e0 : ¬ (72 : Int) = c := fun e => h1 e.symm
        have e1 : ¬ (77 : Int) = c := fun e => h2 e.symm
        have e2 : ¬ (83 : Int) = c := fun e => h3 e.symm
        match l, hl with
        | 3, _ => exact ⟨0, rfl, .inl ⟨by decide, by simp [fnd, L, e0, e1, e2]⟩⟩
        | 4, _ => exact ⟨0, rfl, .inl ⟨by decide, by simp [fnd, L, e0, e1, e2]⟩⟩
        | 5, _ => exact ⟨0, rfl, .inl ⟨by decide, by simp [fnd, L, e0, e1, e2]⟩⟩
theorem rank87 (b : Bool) : larderref03_rank.f 87 b = some 0 := by cases b <;> decide
theorem digit_eq (c : Int) : larderref03_digit.f c = some (decide (48 ≤ c ∧ c ≤ 57)) := by
  unfold larderref03_digit.f
  by_cases h : c ≥ 48
  · rw [if_pos h]; congr 1; exact decide_eq_decide.2 ⟨fun e => ⟨h, e⟩, fun e => e.2⟩
  · rw [if_neg h, decide_eq_false (fun e => h e.1)]
theorem rank_digit (c : Int) (b : Bool) (h : 48 ≤ c ∧ c ≤ 57) : larderref03_rank.f c b = some 0 := by
  unfold larderref03_rank.f
  cases b
  · rw [if_neg (by decide), if_neg (by omega), if_neg (by omega), if_neg (by omega)]
  · rw [if_pos rfl, if_neg (by omega), if_neg (by omega), if_neg (by omega)]
theorem w1 {i : Int} (h : 0 ≤ i ∧ i ≤ 64) : wrap64 (i + 1) = i + 1 := by unfold wrap64; omega
abbrev ERR (i : Int) : T9 := (0, 0, 0, 0, 0, 0, 0, 34, i)
abbrev J4 (k : Nat) (s : ByteArray) (i last : Int) (time : Bool) (n hs y mo wk d h mi se : Int) := larderref03_ParseSpan.j4 k s i last time n hs 0 0 0 0 0 0 0 y mo wk d h mi se
abbrev L1 (k : Nat) (s : ByteArray) (i last : Int) (time : Bool) (n hs y mo wk d h mi se : Int) := larderref03_ParseSpan.l1 k s i last time n hs 0 0 0 0 0 0 0 y mo wk d h mi se
abbrev L0 (k : Nat) (s : ByteArray) (i last : Int) (time whole : Bool) (y mo wk d h mi se : Int) := larderref03_ParseSpan.l0 k s i last time whole 0 0 0 0 0 0 0 y mo wk d h mi se
theorem j4_bad (s : ByteArray) (i last : Int) (time : Bool) (n hs y mo wk d h mi se : Int) (hi : 0 ≤ i ∧ i ≤ 64) (hh : 0 ≤ hs ∧ hs ≤ 9) (hb : hs = 0 ∨ last = 7 ∨ (last = 3 ∧ time = false)) :
    J4 2 s i last time n hs y mo wk d h mi se = some (ERR (i - hs)) := by
  have w0 : wrap64 (i - hs) = i - hs := by unfold wrap64; omega
  unfold J4 larderref03_ParseSpan.j4
  by_cases h0 : hs = 0
  · rw [if_pos h0]; unfold larderref03_ParseSpan.j5; rw [if_pos rfl, w0]
  · rw [if_neg h0]
    by_cases h7 : last = 7
    · rw [if_pos h7]; unfold larderref03_ParseSpan.j5; rw [if_pos rfl, w0]
    · rw [if_neg h7]
      obtain ⟨h3, rfl⟩ := (hb.resolve_left h0).resolve_left h7
      rw [if_pos h3]; unfold larderref03_ParseSpan.j5; rw [if_pos (by decide), w0]
/-- digits where none may stand -/
theorem tail_bad (s : ByteArray) (last : Int) (time : Bool) (y mo wk d h mi se : Int) (h64 : s.size ≤ 64) (hb : last = 7 ∨ (last = 3 ∧ time = false)) :
    ∀ (e : Nat) (i n hs : Int), 0 ≤ i → i + e = s.size → 0 ≤ hs → hs ≤ 9 → ∃ k, L1 k s i last time n hs y mo wk d h mi se = some (ERR (i - hs)) := by
  intro e
  induction e with
  | zero =>
    intro i n hs h0 he a b
    refine ⟨3, ?_⟩
    unfold L1 larderref03_ParseSpan.l1
    rw [if_neg (by omega)]
    exact j4_bad s i last time n hs y mo wk d h mi se (by omega) ⟨a, b⟩ (.inr hb)
  | succ e ih =>
    intro i n hs h0 he a b
    by_cases hd : 48 ≤ bt s i ∧ bt s i ≤ 57
    · by_cases h9 : hs < 9
      · obtain ⟨k, hk⟩ := ih (i + 1) (wrap64 (wrap64 (n * 10) + (bt s i - 48) % 256)) (hs + 1) (by omega) (by omega) (by omega) (by omega)
        refine ⟨k + 1, ?_⟩
        unfold L1 larderref03_ParseSpan.l1
        rw [if_pos (by omega), if_pos h0, digit_eq, decide_eq_true hd]
        simp only [Option.bind_some]
        rw [if_pos trivial, if_pos h9, w1 (by omega), w1 (by omega)]
        rw [show i - hs = i + 1 - (hs + 1) by omega]
        exact hk
      · refine ⟨3, ?_⟩
        unfold L1 larderref03_ParseSpan.l1
        rw [if_pos (by omega), if_pos h0, digit_eq, decide_eq_true hd]
        simp only [Option.bind_some]
        rw [if_pos trivial, if_neg h9]
        exact j4_bad s i last time n hs y mo wk d h mi se (by omega) ⟨a, b⟩ (.inr hb)
    · refine ⟨3, ?_⟩
      unfold L1 larderref03_ParseSpan.l1
      rw [if_pos (by omega), if_pos h0, digit_eq, decide_eq_false hd]
      simp only [Option.bind_some]
      rw [if_neg (by decide)]
      exact j4_bad s i last time n hs y mo wk d h mi se (by omega) ⟨a, b⟩ (.inr hb)
/-- the program's reader and the reference's variables -/
structure Rel (nx : Int) (bg em : Bool) (last : Int) (time whole : Bool) : Prop where
  b : bg = decide (0 < last)
  m : em = (time && !whole)
  u : time = false → whole = decide (0 < last) ∧ nx = last ∧ 0 ≤ last ∧ last ≤ 3
  t : time = true → (whole = true → 5 ≤ last) ∧ ((0 ≤ last ∧ last ≤ 3 ∧ nx = 3) ∨ (5 ≤ last ∧ last ≤ 7 ∧ nx = last - 1))
def okT (last : Int) (time : Bool) : Prop := if time then last < 7 else last < 3
/-- a letter behind a number -/
theorem j4_letter (s : ByteArray) (i last : Int) (time whole bg em : Bool) (nx n hs y mo d h mi se : Int) (h64 : s.size ≤ 64) (hi : 0 ≤ i) (hlt : i < s.size) (hh : 0 < hs ∧ hs ≤ 9) (hR : Rel nx bg em last time whole) (hok : okT last time)
    (hnd : ¬ (48 ≤ bt s i ∧ bt s i ≤ 57))
    (IH : ∀ (nx : Int) (bg em : Bool) (last : Int) (time whole : Bool) (y mo d h mi se : Int), Rel nx bg em last time whole → ∃ k, L0 k s (i + 1) last time whole y mo 0 d h mi se = some (loopF s (s.size - (i + 1).toNat) ⟨y, mo, 0, d, h, mi, se, nx, bg, time, em, false, 0, 0⟩ (i + 1).toNat)) :
    ∃ k, J4 k s i last time n hs y mo 0 d h mi se = some (loopF s (s.size - i.toNat) ⟨y, mo, 0, d, h, mi, se, nx, bg, time, em, false, n, hs⟩ i.toNat) := by
  obtain ⟨j, rfl⟩ : ∃ j : Nat, i = j := ⟨i.toNat, by omega⟩
  have hji : ((j : Int)).toNat = j := by omega
  have hj1 : ((j : Int) + 1).toNat = j + 1 := by omega
  rw [hj1] at IH
  rw [hji, show s.size - j = (s.size - (j + 1)) + 1 by omega, loopF]
  have hT : ∀ r : RS, r.hs = hs → takeF r (bt s j) = letF r (bt s j) := fun r hr => (if_neg hnd).trans (if_pos (by rw [hr]; exact hh.1))
  rw [hT _ rfl]
  generalize hc : bt s (j : Int) = c at *
  have hlast : last ≠ 7 := by
    unfold okT at hok; cases time
    · have := (hR.u rfl); intro e; simp at hok; omega
    · simp at hok; omega
  have h3 : last = 3 → time = true := by
    unfold okT at hok; intro e; cases time
    · simp at hok; omega
    · rfl
  -- to j5
  suffices H : ∃ k, larderref03_ParseSpan.j5 k s j last time n hs false 0 0 0 0 0 0 0 y mo 0 d h mi se = some (if (letF ⟨y, mo, 0, d, h, mi, se, nx, bg, time, em, false, n, hs⟩ c).1 = true then loopF s (s.size - (j + 1)) (letF ⟨y, mo, 0, d, h, mi, se, nx, bg, time, em, false, n, hs⟩ c).2 (j + 1) else (0, 0, 0, 0, 0, 0, 0, 34, (j : Int))) by
    obtain ⟨k, hk⟩ := H
    refine ⟨k + 1, ?_⟩
    unfold J4 larderref03_ParseSpan.j4
    rw [if_neg (by omega), if_neg hlast]
    by_cases e3 : last = 3
    · rw [if_pos e3, h3 e3]; rw [h3 e3] at hk; exact hk
    · rw [if_neg e3]; exact hk
  by_cases h87 : c = 87
  · by_cases hW : last = 0 ∧ time = false
    · obtain ⟨rfl, rfl⟩ := hW
      obtain rfl : bg = false := hR.b
      obtain rfl : em = false := hR.m
      have E : letF ⟨y, mo, 0, d, h, mi, se, nx, false, false, false, false, n, hs⟩ c = (true, ⟨y, mo, n, d, h, mi, se, nx, true, false, false, true, 0, 0⟩) := (if_pos h87).trans (if_neg Bool.false_ne_true)
      rw [E, if_pos rfl]
      refine ⟨2, ?_⟩
      unfold larderref03_ParseSpan.j5
      rw [if_neg (by decide), if_neg (by omega), if_pos hi, if_pos hlt, hc, if_pos h87, if_pos rfl]
      unfold larderref03_ParseSpan.j6
      rw [if_pos (by decide), w1 (by omega)]
      by_cases hl : (j : Int) + 1 < s.size
      · rw [if_pos hl, show s.size - (j + 1) = (s.size - (j + 1) - 1) + 1 by omega, loopF]
        have F : (takeF ⟨y, mo, n, d, h, mi, se, nx, true, false, false, true, 0, 0⟩ (bt s ((j + 1 : Nat) : Int))).1 = false := by
          unfold takeF
          by_cases hd : 48 ≤ bt s ((j + 1 : Nat) : Int) ∧ bt s ((j + 1 : Nat) : Int) ≤ 57
          · rw [if_pos hd, if_pos (.inl rfl)]
          · rw [if_neg hd, if_neg (show ¬ (0 : Int) > 0 by decide), if_neg (by rintro ⟨_, _, e⟩; cases e)]
        rw [if_neg (by rw [F]; decide)]
        simp
      · rw [if_neg hl, show s.size - (j + 1) = 0 by omega, loopF]
        unfold finF
        rw [if_neg (by rintro (e | e | e); · exact absurd e (show ¬ (0 : Int) > 0 by decide)
                       · cases e
                       · cases e)]
    · have E : letF ⟨y, mo, 0, d, h, mi, se, nx, bg, time, em, false, n, hs⟩ c = (false, ⟨y, mo, 0, d, h, mi, se, nx, bg, time, em, false, n, hs⟩) := by
        refine (if_pos h87).trans (if_pos ?_)
        show (bg || time) = true
        rw [hR.b]
        cases time
        · have := (hR.u rfl); have l0 : last ≠ 0 := fun e => hW ⟨e, rfl⟩; rw [decide_eq_true (by omega)]; rfl
        · simp
      rw [E]; simp only [Bool.false_eq_true, if_false]
      refine ⟨2, ?_⟩
      have h0l : 0 ≤ last := by
        cases time
        · have := (hR.u rfl); omega
        · have := (hR.t rfl).2; omega
      have G : larderref03_ParseSpan.j6 1 s j last time n false 0 0 0 0 0 0 0 y mo 0 d h mi se = some (ERR j) := by
        unfold larderref03_ParseSpan.j6
        rw [if_neg (by decide), if_pos hi, if_pos hlt, hc, h87, rank87]
        simp only [Option.bind_some]
        rw [if_pos h0l]
      unfold larderref03_ParseSpan.j5
      rw [if_neg (by decide), if_neg (by omega), if_pos hi, if_pos hlt, hc, if_pos h87]
      by_cases l0 : last = 0
      · rw [if_pos l0]
        have : time = true := by cases time with | true => rfl | false => exact absurd ⟨l0, rfl⟩ hW
        rw [this]; rw [this] at G; exact G
      · rw [if_neg l0]; exact G
  · suffices H : ∃ k, larderref03_ParseSpan.j6 k s j last time n false 0 0 0 0 0 0 0 y mo 0 d h mi se = some (if (letF ⟨y, mo, 0, d, h, mi, se, nx, bg, time, em, false, n, hs⟩ c).1 = true then loopF s (s.size - (j + 1)) (letF ⟨y, mo, 0, d, h, mi, se, nx, bg, time, em, false, n, hs⟩ c).2 (j + 1) else (0, 0, 0, 0, 0, 0, 0, 34, (j : Int))) by
      obtain ⟨k, hk⟩ := H
      refine ⟨k + 1, ?_⟩
      unfold larderref03_ParseSpan.j5
      rw [if_neg (by decide), if_neg (by omega), if_pos hi, if_pos hlt, hc, if_neg h87]
      exact hk
    have J : ∀ (rk : Int), larderref03_rank.f c time = some rk → ∀ k, larderref03_ParseSpan.j6 (k + 1) s j last time n false 0 0 0 0 0 0 0 y mo 0 d h mi se =
        (if rk ≤ last then some (ERR j) else (larderref03_put.f y mo 0 d h mi se rk n).bind fun b => larderref03_ParseSpan.l0 k s ((j : Int) + 1) rk time true 0 0 0 0 0 0 0 b.1 b.2.1 b.2.2.1 b.2.2.2.1 b.2.2.2.2.1 b.2.2.2.2.2.1 b.2.2.2.2.2.2) := by
      intro rk hrk k
      rw [larderref03_ParseSpan.j6, if_neg (by decide), if_pos hi, if_pos hlt, hc, hrk]
      simp only [Option.bind_some]
      rw [w1 (by omega)]
    cases time with
    | false =>
      obtain ⟨hw, hnx, l0, l3⟩ := hR.u rfl
      have l2 : last < 3 := by simpa [okT] using hok
      obtain ⟨l, rfl⟩ : ∃ l : Nat, last = l := ⟨last.toNat, by omega⟩
      obtain ⟨rk, hrk, hcase⟩ := rk_u c l (by omega) h87
      subst hnx
      have E : letF ⟨y, mo, 0, d, h, mi, se, l, bg, false, em, false, n, hs⟩ c = (match fnd c (3 - l) l with | none => (false, ⟨y, mo, 0, d, h, mi, se, l, bg, false, em, false, n, hs⟩) | some k => (true, RS.part ⟨y, mo, 0, d, h, mi, se, l, bg, false, em, false, n, hs⟩ k)) := if_neg h87
      rcases hcase with ⟨h1, h2⟩ | ⟨k, k3, lk, rfl, h2⟩
      · rw [E, h2]
        refine ⟨1, ?_⟩
        rw [J rk hrk, if_pos h1]; simp only [Bool.false_eq_true, if_false]
      · rw [E, h2]; simp only [if_true]
        have hR' : Rel ((k : Int) + 1) true false ((k : Int) + 1) false true := ⟨(decide_eq_true (by omega)).symm, rfl, fun _ => ⟨(decide_eq_true (by omega)).symm, rfl, by omega, by omega⟩, fun e => nomatch e⟩
        obtain ⟨kk, hkk⟩ := IH _ _ _ _ _ _ (if k = 0 then n else y) (if k = 1 then n else mo) (if k = 2 then n else d) (if k = 3 then n else h) (if k = 4 then n else mi) (if k = 5 then n else se) hR'
        refine ⟨kk + 1, ?_⟩
        rw [J _ hrk, if_neg (by omega)]
        have hp : larderref03_put.f y mo 0 d h mi se ((k : Int) + 1) n = some (if k = 0 then n else y, if k = 1 then n else mo, 0, if k = 2 then n else d, if k = 3 then n else h, if k = 4 then n else mi, if k = 5 then n else se) := by
          match k, k3 with
          | 0, _ => rfl
          | 1, _ => rfl
          | 2, _ => rfl
        rw [hp]
        exact hkk
    | true =>
      have hnx := (hR.t rfl).2
      have l2 : last < 7 := by simpa [okT] using hok
      obtain ⟨l, rfl⟩ : ∃ l : Nat, nx = l := ⟨nx.toNat, by omega⟩
      obtain ⟨rk, hrk, hcase⟩ := rk_t c l (by omega) h87
      have E : letF ⟨y, mo, 0, d, h, mi, se, l, bg, true, em, false, n, hs⟩ c = (match fnd c (6 - l) l with | none => (false, ⟨y, mo, 0, d, h, mi, se, l, bg, true, em, false, n, hs⟩) | some k => (true, RS.part ⟨y, mo, 0, d, h, mi, se, l, bg, true, em, false, n, hs⟩ k)) := if_neg h87
      rcases hcase with ⟨h1, h2⟩ | ⟨k, k3, lk, rfl, h2⟩
      · rw [E, h2]
        refine ⟨1, ?_⟩
        rw [J rk hrk, if_pos (by split at h1 <;> omega)]; simp only [Bool.false_eq_true, if_false]
      · rw [E, h2]; simp only [if_true]
        have hR' : Rel ((k : Int) + 1) true false ((k : Int) + 2) true true := ⟨(decide_eq_true (by omega)).symm, rfl, (fun e => by cases e), fun _ => ⟨fun _ => by omega, .inr ⟨by omega, by omega, by omega⟩⟩⟩
        obtain ⟨kk, hkk⟩ := IH _ _ _ _ _ _ (if k = 0 then n else y) (if k = 1 then n else mo) (if k = 2 then n else d) (if k = 3 then n else h) (if k = 4 then n else mi) (if k = 5 then n else se) hR'
        refine ⟨kk + 1, ?_⟩
        rw [J _ hrk, if_neg (by omega)]
        have hp : larderref03_put.f y mo 0 d h mi se ((k : Int) + 2) n = some (if k = 0 then n else y, if k = 1 then n else mo, 0, if k = 2 then n else d, if k = 3 then n else h, if k = 4 then n else mi, if k = 5 then n else se) := by
          match k, k3, lk with
          | 3, _, _ => rfl
          | 4, _, _ => rfl
          | 5, _, _ => rfl
          | 0, _, q => omega
          | 1, _, q => omega
          | 2, _, q => omega
        rw [hp]
        exact hkk
def Go0 (s : ByteArray) (j : Nat) : Prop := ∀ (nx : Int) (bg em : Bool) (last : Int) (time whole : Bool) (y mo d h mi se : Int), Rel nx bg em last time whole →
  ∃ k, L0 k s j last time whole y mo 0 d h mi se = some (loopF s (s.size - j) ⟨y, mo, 0, d, h, mi, se, nx, bg, time, em, false, 0, 0⟩ j)
theorem pow_le9 (k : Nat) (h : k ≤ 9) : (10 : Int) ^ k ≤ 10 ^ 9 := by
  have : (10 : Nat) ^ k ≤ 10 ^ 9 := Nat.pow_le_pow_right (by decide) h
  exact_mod_cast this
theorem wdig {n c : Int} (hn : 0 ≤ n ∧ n < 1000000000) (hc : 48 ≤ c ∧ c ≤ 57) : wrap64 (wrap64 (n * 10) + (c - 48) % 256) = 10 * n + (c - 48) := by
  have e : wrap64 (n * 10) = n * 10 := by unfold wrap64; omega
  rw [e]; unfold wrap64; omega
/-- a number and its letter, where one may stand -/
theorem digits_run (s : ByteArray) (last : Int) (time whole bg em : Bool) (nx y mo d h mi se : Int) (h64 : s.size ≤ 64) (hR : Rel nx bg em last time whole) (hok : okT last time) (i0 : Nat) (IH : ∀ j : Nat, i0 < j → j ≤ s.size → Go0 s j) :
    ∀ (e i : Nat) (n : Int) (hs : Nat), i0 ≤ i → i + e = s.size → hs ≤ 9 → 0 ≤ n → n < 10 ^ hs → (hs = 0 → 0 < e ∧ (¬ (48 ≤ bt s i ∧ bt s i ≤ 57) → ¬ (bt s i = 84 ∧ time = false))) →
      ∃ k, L1 k s i last time n hs y mo 0 d h mi se = some (loopF s e ⟨y, mo, 0, d, h, mi, se, nx, bg, time, em, false, n, hs⟩ i) := by
  have hlast : last ≠ 7 := by
    unfold okT at hok; cases time
    · have := (hR.u rfl); intro e; simp at hok; omega
    · simp at hok; omega
  have h3 : last = 3 → time = true := by
    unfold okT at hok; intro e; cases time
    · simp at hok; omega
    · rfl
  have hnx : ¬ nx ≥ (if time then (6 : Nat) else 3 : Nat) := by
    unfold okT at hok; cases time
    · have := (hR.u rfl); simp at hok ⊢; omega
    · have := (hR.t rfl).2; simp at hok ⊢; omega
  intro e
  induction e with
  | zero =>
    intro i n hs hi he h9 n0 n1 h0
    have hz : hs ≠ 0 := fun z => absurd (h0 z).1 (by decide)
    have E : finF s ⟨y, mo, 0, d, h, mi, se, nx, bg, time, em, false, n, hs⟩ = ERR s.size := if_pos (.inl (show (hs : Int) > 0 by omega))
    rw [loopF, E]
    have F : ∀ b : Bool, b = false → larderref03_ParseSpan.j5 1 s i last time n hs b 0 0 0 0 0 0 0 y mo 0 d h mi se = some (ERR s.size) := by
      rintro b rfl
      unfold larderref03_ParseSpan.j5
      rw [if_neg (by decide), if_pos (by omega)]
      simp; omega
    refine ⟨3, ?_⟩
    unfold L1 larderref03_ParseSpan.l1
    rw [if_neg (by omega)]
    unfold larderref03_ParseSpan.j4
    rw [if_neg (by omega), if_neg hlast]
    by_cases e3 : last = 3
    · rw [if_pos e3]; exact F _ (by rw [h3 e3]; rfl)
    · rw [if_neg e3]; exact F _ rfl
  | succ e ih =>
    intro i n hs hi he h9 n0 n1 h0
    have hp := pow_le9 hs h9
    by_cases hd : 48 ≤ bt s i ∧ bt s i ≤ 57
    · have T : takeF ⟨y, mo, 0, d, h, mi, se, nx, bg, time, em, false, n, hs⟩ (bt s i) = (if false = true ∨ nx ≥ (if time then (6 : Nat) else 3 : Nat) ∨ (hs : Int) = 9 then (false, ⟨y, mo, 0, d, h, mi, se, nx, bg, time, em, false, n, hs⟩) else (true, ⟨y, mo, 0, d, h, mi, se, nx, bg, time, em, false, 10 * n + (bt s i - 48), hs + 1⟩)) := if_pos hd
      by_cases hs9 : hs < 9
      · have T2 := T.trans (if_neg (by rintro (e | e | e); · cases e
                                       · exact hnx e
                                       · omega))
        rw [loopF, T2]; simp only [if_true]
        obtain ⟨k, hk⟩ := ih (i + 1) (10 * n + (bt s i - 48)) (hs + 1) (by omega) (by omega) (by omega) (by omega) (by rw [Int.pow_succ]; omega) (fun z => by omega)
        refine ⟨k + 1, ?_⟩
        unfold L1 larderref03_ParseSpan.l1
        rw [if_pos (by omega), if_pos (by omega), digit_eq, decide_eq_true hd]
        simp only [Option.bind_some]
        rw [if_pos trivial, if_pos (by omega), w1 (by omega), w1 (by omega), wdig (by omega) hd]
        exact hk
      · have T2 := T.trans (if_pos (.inr (.inr (by omega))))
        rw [loopF, T2]; simp only [Bool.false_eq_true, if_false]
        have F : ∀ b : Bool, b = false → larderref03_ParseSpan.j5 2 s i last time n hs b 0 0 0 0 0 0 0 y mo 0 d h mi se = some (ERR i) := by
          rintro b rfl
          unfold larderref03_ParseSpan.j5
          rw [if_neg (by decide), if_neg (by omega), if_pos (by omega), if_pos (by omega), if_neg (by omega)]
          unfold larderref03_ParseSpan.j6
          rw [if_neg (by decide), if_pos (by omega), if_pos (by omega), rank_digit _ _ hd]
          simp only [Option.bind_some]
          rw [if_pos]
          cases time
          · have := (hR.u rfl); omega
          · have := (hR.t rfl).2; omega
        refine ⟨4, ?_⟩
        unfold L1 larderref03_ParseSpan.l1
        rw [if_pos (by omega), if_pos (by omega), digit_eq, decide_eq_true hd]
        simp only [Option.bind_some]
        rw [if_pos trivial, if_neg (by omega)]
        unfold larderref03_ParseSpan.j4
        rw [if_neg (by omega), if_neg hlast]
        by_cases e3 : last = 3
        · rw [if_pos e3]; exact F _ (by rw [h3 e3]; rfl)
        · rw [if_neg e3]; exact F _ rfl
    · -- a byte that is no digit
      suffices H : ∃ k, J4 k s i last time n hs y mo 0 d h mi se = some (loopF s (e + 1) ⟨y, mo, 0, d, h, mi, se, nx, bg, time, em, false, n, hs⟩ i) by
        obtain ⟨k, hk⟩ := H
        refine ⟨k + 1, ?_⟩
        unfold L1 larderref03_ParseSpan.l1
        rw [if_pos (by omega), if_pos (by omega), digit_eq, decide_eq_false hd]
        simp only [Option.bind_some]
        rw [if_neg (by decide)]
        exact hk
      by_cases hz : hs = 0
      · subst hz
        have hT := (h0 rfl).2 hd
        have T : takeF ⟨y, mo, 0, d, h, mi, se, nx, bg, time, em, false, n, 0⟩ (bt s i) = (false, ⟨y, mo, 0, d, h, mi, se, nx, bg, time, em, false, n, 0⟩) := by
          unfold takeF
          rw [if_neg hd, if_neg (show ¬ (0 : Int) > 0 by decide), if_neg (fun q => hT ⟨q.1, q.2.1⟩)]
        refine ⟨2, ?_⟩
        have := j4_bad s i last time n 0 y mo 0 d h mi se (by omega) (by omega) (.inl rfl)
        rw [loopF]
        show J4 2 s i last time n 0 y mo 0 d h mi se = some (if (takeF ⟨y, mo, 0, d, h, mi, se, nx, bg, time, em, false, n, 0⟩ (bt s i)).1 = true then _ else _)
        rw [T, this]; simp
      · have := j4_letter s i last time whole bg em nx n hs y mo d h mi se h64 (by omega) (by omega) (by omega) hR hok hd (fun nx bg em last time whole y mo d h mi se hR => by
          have := IH (i + 1) (by omega) (by omega) nx bg em last time whole y mo d h mi se hR
          have e1 : ((i : Int) + 1).toNat = i + 1 := by omega
          rw [e1]; exact this)
        have e1 : ((i : Int)).toNat = i := by omega
        rw [e1, show s.size - i = e + 1 by omega] at this
        exact this
theorem go_all (s : ByteArray) (h64 : s.size ≤ 64) : ∀ (e j : Nat), j + e = s.size → Go0 s j := by
  intro e
  induction e using Nat.strongRecOn with
  | ind e ih =>
    intro j hj nx bg em last time whole y mo d h mi se hR
    have IH : ∀ j' : Nat, j < j' → j' ≤ s.size → Go0 s j' := fun j' h1 h2 => ih (s.size - j') (by omega) j' (by omega)
    rw [show s.size - j = e by omega]
    cases e with
    | zero =>
      refine ⟨1, ?_⟩
      unfold L0 larderref03_ParseSpan.l0
      rw [if_neg (by omega), loopF]
      unfold finF
      simp only
      cases whole with
      | true =>
        rw [if_pos rfl]
        have hl : 0 < last := by
          cases time
          · have := (hR.u rfl).1; simpa using this.symm
          · have := (hR.t rfl).1 rfl; omega
        rw [if_neg]
        rintro (e | e | e)
        · omega
        · rw [hR.b, decide_eq_true hl] at e; cases e
        · rw [hR.m] at e; simp at e
      | false =>
        rw [if_neg (by decide), if_pos]
        · rw [show (j : Int) = s.size by omega]
        · cases time
          · have := (hR.u rfl).1
            exact .inr (.inl (hR.b.trans this.symm))
          · exact .inr (.inr hR.m)
    | succ e =>
      by_cases hT : bt s j = 84 ∧ time = false
      · obtain ⟨h84, rfl⟩ := hT
        have T : takeF ⟨y, mo, 0, d, h, mi, se, nx, bg, false, em, false, 0, 0⟩ (bt s j) = (true, ⟨y, mo, 0, d, h, mi, se, 3, bg, true, true, false, 0, 0⟩) := by
          unfold takeF
          rw [if_neg (by omega), if_neg (show ¬ (0 : Int) > 0 by decide), if_pos ⟨h84, rfl, rfl⟩]
        rw [loopF, T]; simp only [if_true]
        obtain ⟨hw, hnx, l0, l3⟩ := hR.u rfl
        obtain ⟨k, hk⟩ := IH (j + 1) (by omega) (by omega) 3 bg true last true false y mo d h mi se ⟨hR.b, rfl, (fun e => by cases e), fun _ => ⟨(fun e => by cases e), .inl ⟨l0, l3, rfl⟩⟩⟩
        refine ⟨k + 2, ?_⟩
        unfold L0 larderref03_ParseSpan.l0
        rw [if_pos (by omega), if_pos (by omega), if_pos h84]
        unfold larderref03_ParseSpan.j2
        rw [if_pos (by decide), w1 (by omega)]
        rw [show s.size - (j + 1) = e by omega] at hk
        exact hk
      · suffices H : ∃ k, L1 k s j last time 0 0 y mo 0 d h mi se = some (loopF s (e + 1) ⟨y, mo, 0, d, h, mi, se, nx, bg, time, em, false, 0, 0⟩ j) by
          obtain ⟨k, hk⟩ := H
          refine ⟨k + 2, ?_⟩
          have J : ∀ b : Bool, b = false → larderref03_ParseSpan.j2 (k + 1) s j last time b 0 0 0 0 0 0 0 y mo 0 d h mi se = some (loopF s (e + 1) ⟨y, mo, 0, d, h, mi, se, nx, bg, time, em, false, 0, 0⟩ j) := by
            rintro b rfl
            unfold larderref03_ParseSpan.j2
            rw [if_neg (by decide)]
            exact hk
          unfold L0 larderref03_ParseSpan.l0
          rw [if_pos (by omega), if_pos (by omega)]
          by_cases h84 : bt s j = 84
          · rw [if_pos h84]
            exact J _ (by cases time with | true => rfl | false => exact absurd ⟨h84, rfl⟩ hT)
          · rw [if_neg h84]; exact J _ rfl
        by_cases hok : okT last time
        · exact digits_run s last time whole bg em nx y mo d h mi se h64 hR hok j IH (e + 1) j 0 0 (Nat.le_refl _) hj (by omega) (by omega) (by decide) (fun _ => ⟨by omega, fun _ => hT⟩)
        · have hb : last = 7 ∨ (last = 3 ∧ time = false) := by
            unfold okT at hok; cases time
            · have := hR.u rfl; simp at hok; exact .inr ⟨by omega, rfl⟩
            · have := (hR.t rfl).2; simp at hok; exact .inl (by omega)
          obtain ⟨k, hk⟩ := tail_bad s last time y mo 0 d h mi se h64 hb (e + 1) j 0 0 (by omega) (by omega) (by omega) (by omega)
          refine ⟨k, hk.trans ?_⟩
          rw [loopF]
          have T : (takeF ⟨y, mo, 0, d, h, mi, se, nx, bg, time, em, false, 0, 0⟩ (bt s j)).1 = false := by
            unfold takeF
            by_cases hd : 48 ≤ bt s j ∧ bt s j ≤ 57
            · rw [if_pos hd, if_pos]
              refine .inr (.inl ?_)
              show nx ≥ ((if time then 6 else 3 : Nat) : Int)
              cases time
              · have := hR.u rfl; rcases hb with e | ⟨e, _⟩
                · omega
                · simp; omega
              · have := (hR.t rfl).2; rcases hb with e | ⟨_, e⟩
                · simp; omega
                · cases e
            · rw [if_neg hd, if_neg (show ¬ (0 : Int) > 0 by decide), if_neg (fun q => hT ⟨q.1, q.2.1⟩)]
          rw [if_neg (by rw [T]; decide)]
          simp
theorem rspan_eq (s : ByteArray) : ∃ k, larderref03_ParseSpan.f k s = cal_ParseSpan.f s := by
  unfold larderref03_ParseSpan.f cal_ParseSpan.f
  by_cases h : s.size > 64
  · exact ⟨0, by rw [if_pos (by omega), if_pos h]⟩
  · by_cases h0 : s.size = 0
    · refine ⟨0 + 1, ?_⟩
      rw [if_neg (by omega), if_pos (by omega), if_neg h, if_pos (.inl h0), larderref03_ParseSpan.j0]
      exact if_pos rfl
    · by_cases h1 : bt s 0 = 80
      · obtain ⟨k, hk⟩ := go_all s (by omega) (s.size - 1) 1 (by omega) 0 false false 0 false false 0 0 0 0 0 0 ⟨rfl, rfl, fun _ => ⟨rfl, rfl, by omega, by omega⟩, (fun e => by cases e)⟩
        have hn : ¬ (s.size = 0 ∨ bt s 0 ≠ 80) := fun e => e.elim h0 (fun e => e h1)
        refine ⟨k + 1, ?_⟩
        rw [if_neg (by omega), if_neg (by omega), if_pos (by omega), if_neg h, if_neg hn, larderref03_ParseSpan.j0]
        exact (if_neg (by rw [h1]; decide)).trans hk
      · refine ⟨0 + 1, ?_⟩
        rw [if_neg (by omega), if_neg (by omega), if_pos (by omega), if_neg h, if_pos (.inr h1), larderref03_ParseSpan.j0]
        exact if_pos (bne_iff_ne.2 h1)
end Go.Proofs.Ytofafljfabgpmaa.CalP

/- The law CalMidnight in plain numbers and texts. -/
import Derived.Test.YtiklakkkgmilnaaDoorCalInsP
import Derived.Test.YtiklakkkgmilnaaDoorCalAtP
import Derived.Test.YtiklakkkgmilnaaDoorGCxf10
set_option linter.unusedVariables false
set_option linter.unusedSimpArgs false
namespace Go.Proofs.YtiklakkkgmilnaaDoor.CalP
open Go.RowKit Go.IntWalk Go.Proofs.YtiklakkkgmilnaaDoorW.PrintWords Go.Proofs.YtiklakkkgmilnaaDoor.Ext Go.Proofs.YtiklakkkgmilnaaDoor.PCal Go.Proofs.YtiklakkkgmilnaaDoor.GC

/-- the bytes of a day's text -/
def TLf (y m d : Int) (f : Nat) : List Int := TL y m d (num y m d - beg y + 1) (wkY y (num y m d)) (wkW y (num y m d)) (wd (num y m d) + 1) f
theorem TX_TLf (y m d : Int) (f : Nat) : TX y m d f = strOfNums (TLf y m d f) := rfl
def isExt (f : Nat) : Bool := decide (f % 2 = 0)
theorem ib_in : ∀ (A : List UInt8) (c : UInt8), c ∈ A → 0 ≤ Lib.indexByte A c
  | [], c, h => by simp at h
  | a :: A, c, h => by
    rw [Lib.indexByte]
    by_cases e : (a == c) = true
    · rw [if_pos e]; exact Int.le_refl _
    · rw [if_neg e]
      have hc : c ∈ A := (List.mem_cons.1 h).resolve_left (fun q => e (by rw [q]; simp))
      have := ib_in A c hc
      rw [if_neg (by simp; omega)]; omega
theorem dash_in {l : List Int} (h : (45 : Int) ∈ l) : decide (0 ≤ Lib.indexByte (strOfNums l).data.toList 45) = true := by
  rw [decide_eq_true_eq]
  refine ib_in _ _ ?_
  rw [strOfNums_data]
  exact List.mem_map.2 ⟨45, h, rfl⟩
theorem dash_not {l : List Int} (h : ∀ c ∈ l, 0 ≤ c ∧ c < 256 ∧ c ≠ 45) : decide (0 ≤ Lib.indexByte (strOfNums l).data.toList 45) = false := by
  rw [ib_none]
  · decide
  · intro x hx
    rw [strOfNums_data] at hx
    obtain ⟨c, hc, rfl⟩ := List.mem_map.1 hx
    have := h c hc
    exact byte_ne (e := 45) ⟨this.1, this.2.1⟩ (by omega) this.2.2
theorem tlf_facts {y m d : Int} (hv : vldB y m d = true) (h2 : 2 ≤ num y m d) (f : Nat) (hf : f < 6) :
    noT (TLf y m d f) ∧ (TLf y m d f).length ≤ 10 ∧ decide (0 ≤ Lib.indexByte (strOfNums (TLf y m d f)).data.toList 45) = isExt f := by
  obtain ⟨v1, v2, v3, v4, v5, v6⟩ := vld_out hv
  obtain ⟨n1, n2, n3, n4⟩ := num_bd hv
  have hdm := dim_bd y m v3 v4
  have hb := beg_succ y v1
  have hl := lpN_01 y
  have kb := wkW_bd v1 v2 n1 n2
  have wb := wd_bd (num y m d)
  have hw := wkY_ok hv h2
  unfold TLf
  generalize hn : num y m d - beg y + 1 = n at *
  generalize wkY y (num y m d) = a at *
  generalize wkW y (num y m d) = w at *
  generalize wd (num y m d) = x at *
  have bn : 1 ≤ n ∧ n ≤ 366 := by omega
  have bd : 0 ≤ d ∧ d ≤ 99 := by omega
  have bm : 0 ≤ m ∧ m ≤ 99 := by omega
  have b4 : noT (D4 y) := noT_D4 ⟨v1, v2⟩
  have b4' : noT (D4 a) := noT_D4 hw
  match f, hf with
  | 0, _ => exact ⟨noT_app (noT_app (noT_app (noT_app b4 noT_45) (noT_D2 bm)) noT_45) (noT_D2 bd), by simp [TL, D4, D2], dash_in (by simp [TL])⟩
  | 1, _ =>
    have t : noT (D4 y ++ D2 m ++ D2 d) := noT_app (noT_app b4 (noT_D2 bm)) (noT_D2 bd)
    refine ⟨t, by simp [TL, D4, D2], dash_not fun c hc => ⟨(t c hc).1, (t c hc).2.1, ?_⟩⟩
    simp [TL, D4, D2] at hc; omega
  | 2, _ => exact ⟨noT_app (noT_app b4 noT_45) (noT_D3 (by omega)), by simp [TL, D4, D3], dash_in (by simp [TL])⟩
  | 3, _ =>
    have t : noT (D4 y ++ D3 n) := noT_app b4 (noT_D3 (by omega))
    refine ⟨t, by simp [TL, D4, D3], dash_not fun c hc => ⟨(t c hc).1, (t c hc).2.1, ?_⟩⟩
    simp [TL, D4, D3] at hc; omega
  | 4, _ => exact ⟨noT_app (noT_app (noT_app (noT_app b4' noT_4587) (noT_D2 (by omega))) noT_45) (noT_D1 (by omega)), by simp [TL, D4, D2, D1], dash_in (by simp [TL])⟩
  | 5, _ =>
    have t : noT (D4 a ++ [87] ++ D2 w ++ D1 (x + 1)) := noT_app (noT_app (noT_app b4' noT_87) (noT_D2 (by omega))) (noT_D1 (by omega))
    refine ⟨t, by simp [TL, D4, D2, D1], dash_not fun c hc => ⟨(t c hc).1, (t c hc).2.1, ?_⟩⟩
    simp [TL, D4, D2, D1] at hc; omega
/-- a rest behind the T that says 24 o'clock -/
def is24 (R : ByteArray) (ext : Bool) : Bool :=
  decide (R.size ≤ 40) && !odd8 R && decide (clockF (hrs R) ext = (86400, true, 0)) && decide (0 ≤ kA R) && decide (cal_zone.f 100 (R.extract (kA R).toNat R.size) ext = some (0, true, 0))
theorem mid_eq {y m d : Int} (hv : vldB y m d = true) (h2 : 2 ≤ num y m d) (h3 : num y m d ≤ 3652423) (f : Nat) (hf : f < 6) (R : ByteArray) (hR : is24 R (isExt f) = true) :
    cal_ParseInstant.f (TX y m d f ++ ((⟨#[84]⟩ : ByteArray) ++ R)) = some ((num y m d + 1) * 86400, 0, 0) := by
  unfold is24 at hR
  simp only [Bool.and_eq_true, decide_eq_true_eq, Bool.not_eq_true'] at hR
  obtain ⟨⟨⟨⟨r1, r2⟩, r3⟩, r4⟩, r5⟩ := hR
  obtain ⟨t1, t2, t3⟩ := tlf_facts hv h2 f hf
  have hp : cal_ParseDate.f (strOfNums (TLf y m d f)) = some (y, m, d, 0, 0) := parse_TL hv f hf (fun _ => wkY_ok hv h2)
  rw [TX_TLf, inst_TX t1 (by omega) r1 t3 hp r2 _ _ _ r3, if_neg (by omega), if_neg (by decide), if_neg (by omega), r5]
  simp only [Option.bind_some]
  unfold inst4
  rw [if_neg (by simp), if_neg (by simp), number_eq y m d hv]
  simp only [Option.bind_some]
  rw [if_neg (by omega)]
  exact congrArg some (by simp; omega)
def wideR (k : Nat) : ByteArray := if k = 0 then ⟨#[50, 52, 90]⟩ else if k = 1 then ⟨#[50, 52, 58, 48, 48, 90]⟩ else ⟨#[50, 52, 58, 48, 48, 58, 48, 48, 43, 48, 48, 58, 48, 48]⟩
def plainR (k : Nat) : ByteArray := if k = 0 then ⟨#[50, 52, 90]⟩ else if k = 1 then ⟨#[50, 52, 48, 48, 90]⟩ else ⟨#[50, 52, 48, 48, 48, 48, 43, 48, 48]⟩
def wideL : List ByteArray := [(⟨#[84, 50, 52, 90]⟩ : ByteArray), (⟨#[84, 50, 52, 58, 48, 48, 90]⟩ : ByteArray), (⟨#[84, 50, 52, 58, 48, 48, 58, 48, 48, 43, 48, 48, 58, 48, 48]⟩ : ByteArray)]
def plainL : List ByteArray := [(⟨#[84, 50, 52, 90]⟩ : ByteArray), (⟨#[84, 50, 52, 48, 48, 90]⟩ : ByteArray), (⟨#[84, 50, 52, 48, 48, 48, 48, 43, 48, 48]⟩ : ByteArray)]
theorem wide_rd : ∀ k : Nat, k < 3 → rdOf ByteArray.empty wideL (k : Int) = (⟨#[84]⟩ : ByteArray) ++ wideR k
  | 0, _ => rfl
  | 1, _ => rfl
  | 2, _ => rfl
theorem plain_rd : ∀ k : Nat, k < 3 → rdOf ByteArray.empty plainL (k : Int) = (⟨#[84]⟩ : ByteArray) ++ plainR k
  | 0, _ => rfl
  | 1, _ => rfl
  | 2, _ => rfl
theorem wide_24 : ∀ k : Nat, k < 3 → is24 (wideR k) true = true
  | 0, _ => by decide +kernel
  | 1, _ => by decide +kernel
  | 2, _ => by decide +kernel
theorem plain_24 : ∀ k : Nat, k < 3 → is24 (plainR k) false = true
  | 0, _ => by decide +kernel
  | 1, _ => by decide +kernel
  | 2, _ => by decide +kernel
theorem wide_sz : ∀ k : Nat, k < 3 → (wideR k).size ≤ 20
  | 0, _ => by decide
  | 1, _ => by decide
  | 2, _ => by decide
theorem plain_sz : ∀ k : Nat, k < 3 → (plainR k).size ≤ 20
  | 0, _ => by decide
  | 1, _ => by decide
  | 2, _ => by decide
theorem txs_rd (y m d : Int) : ∀ f : Nat, f < 6 → rdOf ByteArray.empty (TXs y m d) (f : Int) = TX y m d f
  | 0, _ => rfl
  | 1, _ => rfl
  | 2, _ => rfl
  | 3, _ => rfl
  | 4, _ => rfl
  | 5, _ => rfl
/-- a clock that may not be -/
theorem bad_eq {y m d : Int} (hv : vldB y m d = true) (h2 : 2 ≤ num y m d) (R : ByteArray) (c3 : Int) (hR : (decide (R.size ≤ 40) && !odd8 R && decide (clockF (hrs R) true = (0, false, c3)) && decide (0 ≤ c3) && decide (c3 ≤ 1000)) = true) :
    cal_ParseInstant.f (TX y m d 0 ++ ((⟨#[84]⟩ : ByteArray) ++ R)) = some (0, 32, 11 + c3) := by
  simp only [Bool.and_eq_true, decide_eq_true_eq, Bool.not_eq_true'] at hR
  obtain ⟨⟨⟨⟨r1, r2⟩, r3⟩, r4⟩, r5⟩ := hR
  obtain ⟨t1, t2, t3⟩ := tlf_facts hv h2 0 (by omega)
  have hp : cal_ParseDate.f (strOfNums (TLf y m d 0)) = some (y, m, d, 0, 0) := parse_TL hv 0 (by omega) (fun _ => wkY_ok hv h2)
  rw [TX_TLf, inst_TX t1 (by omega) r1 t3 hp r2 _ _ _ r3, if_neg (by omega), if_pos rfl]
  rw [show (TLf y m d 0).length = 10 by simp [TLf, TL, D4, D2]]
  rfl
set_option maxHeartbeats 1000000 in
theorem calMidnight_pure (a0 : Int) (h0 : -9223372036854775808 ≤ a0 ∧ a0 ≤ 9223372036854775807) : ∃ k, larderlaw03_CalMidnight.f k a0 = some true := by
  obtain ⟨k, hk⟩ : ∃ k, 30010 ≤ k := ⟨30010, Nat.le_refl _⟩
  refine ⟨k + 40, ?_⟩
  unfold larderlaw03_CalMidnight.f
  obtain ⟨t, e1, t1, t2⟩ := within_eq a0 0 3652423 h0 (by omega) (by omega) (by omega)
  rw [e1]
  simp only [Option.bind_some]
  obtain ⟨u, e2, u1, u2⟩ := within_eq t 2 3652423 (by omega) (by omega) (by omega) (by omega)
  obtain ⟨y, m, d, hv, rfl⟩ := day_ex u (by omega) (by omega)
  rw [e2]
  simp only [Option.bind_some]
  rw [at_eq (k + 40) (by omega) hv]
  simp only [Option.bind_some]
  rw [forms_eq hv u1 (k + 40) (by omega)]
  simp only [Option.bind_some, if_true]
  rw [w64 (x := num y m d + 1) (by omega) (by omega), w64 (by omega) (by omega)]
  have sz : ∀ f : Nat, f < 6 → (TX y m d f).size ≤ 10 := by
    intro f hf
    rw [TX_TLf, strOfNums_size]; exact (tlf_facts hv u1 f hf).2.1
  have in1 : ∀ (q f j : Nat), f < 6 → j < 3 → larderlaw03_CalMidnight.l1 (q + 1) (TXs y m d) ((num y m d + 1) * 86400) wideL plainL f j = larderlaw03_CalMidnight.l1 q (TXs y m d) ((num y m d + 1) * 86400) wideL plainL f ((j + 1 : Nat) : Int) := by
    intro q f j hf hj
    have s1 := sz f hf
    have s2 : ((⟨#[84]⟩ : ByteArray) ++ wideR j).size ≤ 21 := by rw [ByteArray.size_append]; have := wide_sz j hj; show 1 + _ ≤ _; omega
    have s3 : ((⟨#[84]⟩ : ByteArray) ++ plainR j).size ≤ 21 := by rw [ByteArray.size_append]; have := plain_sz j hj; show 1 + _ ≤ _; omega
    rw [larderlaw03_CalMidnight.l1, if_pos (by omega), if_pos (by omega), if_pos (by show (f : Int) < 6; omega), if_pos (by omega), if_pos (by show (j : Int) < 3; omega), txs_rd y m d f hf, wide_rd j hj, if_pos (by omega)]
    by_cases hp : f % 2 = 1
    · rw [if_pos (by rw [tm _ _ (by omega)]; omega), if_pos (by show (j : Int) < 3; omega), plain_rd j hj, if_pos (by omega), mid_eq hv u1 u2 f hf (plainR j) (by rw [show isExt f = false by unfold isExt; rw [decide_eq_false_iff_not]; omega]; exact plain_24 j hj)]
      simp only [Option.bind_some]
      rw [wS (by omega)]
      simp
    · rw [if_neg (by rw [tm _ _ (by omega)]; omega), mid_eq hv u1 u2 f hf (wideR j) (by rw [show isExt f = true by unfold isExt; rw [decide_eq_true_eq]; omega]; exact wide_24 j hj)]
      simp only [Option.bind_some]
      rw [wS (by omega)]
      simp
  have step : ∀ (q f : Nat), f < 6 → larderlaw03_CalMidnight.l0 (q + 5) (TXs y m d) ((num y m d + 1) * 86400) wideL plainL f = larderlaw03_CalMidnight.l0 q (TXs y m d) ((num y m d + 1) * 86400) wideL plainL ((f + 1 : Nat) : Int) := by
    intro q f hf
    rw [larderlaw03_CalMidnight.l0, if_pos (by omega)]
    have a := in1 (q + 3) f 0 hf (by omega)
    have b := in1 (q + 2) f 1 hf (by omega)
    have c := in1 (q + 1) f 2 hf (by omega)
    have e : larderlaw03_CalMidnight.l1 (q + 1) (TXs y m d) ((num y m d + 1) * 86400) wideL plainL f ((3 : Nat) : Int) = larderlaw03_CalMidnight.l0 q (TXs y m d) ((num y m d + 1) * 86400) wideL plainL ((f + 1 : Nat) : Int) := by
      rw [larderlaw03_CalMidnight.l1, if_neg (by omega), wS (by omega)]; rfl
    exact a.trans (b.trans (c.trans e))
  have s0 := step (k + 35) 0 (by omega)
  have s1 := step (k + 30) 1 (by omega)
  have s2 := step (k + 25) 2 (by omega)
  have s3 := step (k + 20) 3 (by omega)
  have s4 := step (k + 15) 4 (by omega)
  have s5 := step (k + 10) 5 (by omega)
  refine s0.trans (s1.trans (s2.trans (s3.trans (s4.trans (s5.trans ?_)))))
  rw [larderlaw03_CalMidnight.l0, if_neg (by decide), if_pos (by show (0 : Int) < 6; omega)]
  rw [show rdOf ByteArray.empty (TXs y m d) 0 = TX y m d 0 from rfl]
  have z := sz 0 (by omega)
  rw [if_pos (by omega)]
  have b1 := bad_eq hv u1 (⟨#[50, 52, 58, 48, 49, 90]⟩ : ByteArray) 0 (by decide +kernel)
  have b2 := bad_eq hv u1 (⟨#[50, 51, 58, 54, 48, 90]⟩ : ByteArray) 3 (by decide +kernel)
  have c1 : (⟨#[84, 50, 52, 58, 48, 49, 90]⟩ : ByteArray) = (⟨#[84]⟩ : ByteArray) ++ (⟨#[50, 52, 58, 48, 49, 90]⟩ : ByteArray) := rfl
  have c2 : (⟨#[84, 50, 51, 58, 54, 48, 90]⟩ : ByteArray) = (⟨#[84]⟩ : ByteArray) ++ (⟨#[50, 51, 58, 54, 48, 90]⟩ : ByteArray) := rfl
  rw [c1, c2, b1, b2]
  rfl
end Go.Proofs.YtiklakkkgmilnaaDoor.CalP

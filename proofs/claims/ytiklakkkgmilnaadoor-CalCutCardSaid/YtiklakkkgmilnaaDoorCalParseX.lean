/- What ParseSpan of package cal answers, proved by walking its text. -/
import Derived.Test.YtiklakkkgmilnaaDoorCalTakeC
import Derived.Deep.RegionWith
import Derived.Outline
set_option linter.unusedVariables false
namespace Go.Proofs.YtiklakkkgmilnaaDoor.Ext
open Go.RowKit Go.Proofs.YtiklakkkgmilnaaDoorW.PrintWords

abbrev T9 := Int × Int × Int × Int × Int × Int × Int × Int × Int
def r0 : RS := ⟨0, 0, 0, 0, 0, 0, 0, 0, false, false, false, false, 0, 0⟩
def finF (s : ByteArray) (r : RS) : T9 := if r.hs > 0 ∨ r.bg = false ∨ r.em = true then (0, 0, 0, 0, 0, 0, 0, 34, (s.size : Int)) else (r.y, r.mo, r.wk, r.d, r.h, r.mi, r.s, 0, 0)
def loopF (s : ByteArray) : Nat → RS → Nat → T9
  | 0, r, _ => finF s r
  | m + 1, r, i => if (takeF r (bt s i)).1 = true then loopF s m (takeF r (bt s i)).2 (i + 1) else (0, 0, 0, 0, 0, 0, 0, 34, (i : Int))
def cal_ParseSpan.f (s : ByteArray) : Option T9 :=
  if s.size > 64 then some (0, 0, 0, 0, 0, 0, 0, 1, 0)
  else if s.size = 0 ∨ bt s 0 ≠ 80 then some (0, 0, 0, 0, 0, 0, 0, 34, 0)
  else some (loopF s (s.size - 1) r0 1)
/-- what holds of the reader between two bytes -/
def RS.inv (r : RS) : Prop := r.ok ∧ (0 ≤ r.hs ∧ r.hs ≤ 9) ∧ 0 ≤ r.n ∧ r.n < 10 ^ r.hs.toNat
theorem r0_inv : r0.inv := ⟨⟨Int.le_refl _, by decide⟩, ⟨Int.le_refl _, by decide⟩, Int.le_refl _, by decide⟩
theorem fnd_bd (c : Int) : ∀ (m k j : Nat), fnd c m k = some j → k ≤ j ∧ j < k + m
  | 0, _, _, h => by cases h
  | m + 1, k, j, h => by
    unfold fnd at h
    by_cases e : L k = c
    · rw [if_pos e] at h; cases h; omega
    · rw [if_neg e] at h; have := fnd_bd c m (k + 1) j h; omega
theorem RS.inv.n_le {r : RS} (h : r.inv) : 0 ≤ r.n ∧ r.n ≤ 999999999 := by
  obtain ⟨_, ⟨h1, h2⟩, h3, h4⟩ := h
  obtain ⟨k, hk⟩ : ∃ k : Nat, r.hs = k := ⟨r.hs.toNat, by omega⟩
  rw [hk] at h4 h2
  have : (10 : Int) ^ k ≤ 10 ^ 9 := by
    have : (10 : Nat) ^ k ≤ 10 ^ 9 := Nat.pow_le_pow_right (by decide) (by omega)
    exact_mod_cast this
  simp only [Int.toNat_natCast] at h4
  omega
theorem letF_inv {r : RS} {c : Int} (h : r.inv) (ht : (letF r c).1 = true) : (letF r c).2.inv := by
  unfold letF at ht ⊢
  by_cases e : c = 87
  · rw [if_pos e] at ht ⊢
    by_cases b : (r.bg || r.ti) = true
    · rw [if_pos b] at ht; cases ht
    · rw [if_neg b]
      exact ⟨h.1, ⟨Int.le_refl _, (by decide : (0 : Int) ≤ 9)⟩, Int.le_refl _, (by decide : (0 : Int) < 10 ^ (0 : Int).toNat)⟩
  · rw [if_neg e] at ht ⊢
    cases hf : fnd c (r.to - r.nx.toNat) r.nx.toNat with
    | none => rw [hf] at ht; cases ht
    | some k =>
      have hb := fnd_bd _ _ _ _ hf
      have hok := h.1
      refine ⟨?_, ⟨Int.le_refl _, (by decide : (0 : Int) ≤ 9)⟩, Int.le_refl _, (by decide : (0 : Int) < 10 ^ (0 : Int).toNat)⟩
      unfold RS.ok RS.part RS.to at *
      simp only at *
      split <;> split at hok <;> simp_all <;> omega
theorem takeF_inv {r : RS} {c : Int} (h : r.inv) (ht : (takeF r c).1 = true) : (takeF r c).2.inv := by
  unfold takeF at ht ⊢
  by_cases hd : 48 ≤ c ∧ c ≤ 57
  · rw [if_pos hd] at ht ⊢
    by_cases b : r.en = true ∨ r.nx ≥ r.to ∨ r.hs = 9
    · rw [if_pos b] at ht; cases ht
    · rw [if_neg b]
      obtain ⟨h0, ⟨h1, h2⟩, h3, h4⟩ := h
      have h9 : r.hs ≠ 9 := fun e => b (.inr (.inr e))
      obtain ⟨k, hk⟩ : ∃ k : Nat, r.hs = k := ⟨r.hs.toNat, by omega⟩
      refine ⟨h0, ⟨?_, ?_⟩, ?_, ?_⟩
      · show 0 ≤ r.hs + 1; omega
      · show r.hs + 1 ≤ 9; omega
      · show 0 ≤ 10 * r.n + (c - 48); omega
      · show 10 * r.n + (c - 48) < 10 ^ (r.hs + 1).toNat
        have e : (r.hs + 1).toNat = r.hs.toNat + 1 := by omega
        rw [e, Int.pow_succ]
        generalize (10 : Int) ^ r.hs.toNat = p at *
        omega
  · rw [if_neg hd] at ht ⊢
    by_cases h0 : r.hs > 0
    · rw [if_pos h0] at ht ⊢; exact letF_inv h ht
    · rw [if_neg h0] at ht ⊢
      by_cases b : c = 84 ∧ r.ti = false ∧ r.en = false
      · rw [if_pos b]; exact ⟨⟨Int.le_refl _, (by decide : (3 : Int) ≤ 6)⟩, h.2.1, h.2.2⟩
      · rw [if_neg b] at ht; cases ht
theorem parse_long (s : ByteArray) (w : World) (h64 : s.size > 64) :
    Calls Tryd.prog 33 #[.string s] w fun e w' => e = .returned (.tuple #[.agg #[.int .i64 0, .int .i64 0, .int .i64 0, .int .i64 0, .int .i64 0, .int .i64 0, .int .i64 0], .int .i64 1, .int .i64 0]) ∧ Below w.heap.size w w' := by
  go_enter Tryd.func33, Tryd.ntmps33
  go_wp2
  exact bodyPost_ret (v := .tuple #[.agg #[.int .i64 0, .int .i64 0, .int .i64 0, .int .i64 0, .int .i64 0, .int .i64 0, .int .i64 0], .int .i64 1, .int .i64 0]) (by simp [results, Tryd.results33, go_sem]) rfl ⟨rfl, (Below.refl _ _).alloc (Nat.le_refl _) _⟩
theorem parse_none (s : ByteArray) (w : World) (h64 : s.size ≤ 64) (h0 : s.size = 0) :
    Calls Tryd.prog 33 #[.string s] w fun e w' => e = .returned (.tuple #[.agg #[.int .i64 0, .int .i64 0, .int .i64 0, .int .i64 0, .int .i64 0, .int .i64 0, .int .i64 0], .int .i64 34, .int .i64 0]) ∧ Below w.heap.size w w' := by
  obtain rfl : s = (⟨#[]⟩ : ByteArray) := by
    have := ByteArray.size_eq_zero_iff.1 h0
    rw [this]; rfl
  go_enter Tryd.func33, Tryd.ntmps33
  go_wp2
  exact bodyPost_ret (v := .tuple #[.agg #[.int .i64 0, .int .i64 0, .int .i64 0, .int .i64 0, .int .i64 0, .int .i64 0, .int .i64 0], .int .i64 34, .int .i64 0]) (by simp [results, Tryd.results33, go_sem]) rfl ⟨rfl, (Below.refl _ _).alloc (Nat.le_refl _) _⟩
theorem parse_head (s : ByteArray) (w : World) (h64 : s.size ≤ 64) (h0 : 0 < s.size) (hP : bt s 0 ≠ 80) :
    Calls Tryd.prog 33 #[.string s] w fun e w' => e = .returned (.tuple #[.agg #[.int .i64 0, .int .i64 0, .int .i64 0, .int .i64 0, .int .i64 0, .int .i64 0, .int .i64 0], .int .i64 34, .int .i64 0]) ∧ Below w.heap.size w w' := by
  have hb : ((s[0].toNat : Int) != 80) = true := bne_iff_ne.mpr (by rw [← bt_at s 0 h0] at hP; exact hP)
  have hl : ¬ s.toList = [] := by rw [ByteArray.toList_eq]; intro e; have := congrArg List.length e; simp at this; simp [this] at h0
  have hi : s.toList.isEmpty = false := by cases h : s.toList with | nil => exact absurd h hl | cons => rfl
  clear hP
  go_enter Tryd.func33, Tryd.ntmps33
  go_wp2
  exact bodyPost_ret (v := .tuple #[.agg #[.int .i64 0, .int .i64 0, .int .i64 0, .int .i64 0, .int .i64 0, .int .i64 0, .int .i64 0], .int .i64 34, .int .i64 0]) (by simp [results, Tryd.results33, go_sem]) rfl ⟨rfl, (Below.refl _ _).alloc (Nat.le_refl _) _⟩
theorem parse_go (s : ByteArray) (w : World) (h64 : s.size ≤ 64) (h0 : 0 < s.size) (hP : bt s 0 = 80) (R : T9) (hR : loopF s (s.size - 1) r0 1 = R) :
    Calls Tryd.prog 33 #[.string s] w fun e w' => e = .returned (.tuple #[.agg #[.int .i64 R.1, .int .i64 R.2.1, .int .i64 R.2.2.1, .int .i64 R.2.2.2.1, .int .i64 R.2.2.2.2.1, .int .i64 R.2.2.2.2.2.1, .int .i64 R.2.2.2.2.2.2.1], .int .i64 R.2.2.2.2.2.2.2.1, .int .i64 R.2.2.2.2.2.2.2.2]) ∧ Below w.heap.size w w' := by
  have hb : ((s[0].toNat : Int) != 80) = false := bne_eq_false_iff_eq.mpr (by rw [← bt_at s 0 h0] at hP; exact hP)
  have hl : ¬ s.toList = [] := by rw [ByteArray.toList_eq]; intro e; have := congrArg List.length e; simp at this; simp [this] at h0
  have hi : s.toList.isEmpty = false := by cases h : s.toList with | nil => exact absurd h hl | cons => rfl
  have HR := Lib.hid hR
  clear hP hR
  go_enter Tryd.func33, Tryd.ntmps33
  go_wp2
  go_loopw [6] (fun i wr => ∃ (k : Nat) (r : RS), 1 ≤ k ∧ k ≤ s.size ∧ i = .int .i64 k ∧ Hid (loopF s (s.size - k) r k = R) ∧ Hid r.inv ∧ Hid (wr.heap[w.heap.size]? = some (.cells #[.int .i64 0, .int .i64 0, .int .i64 0, .int .i64 0, .int .i64 0, .int .i64 0, .int .i64 0] 30 (0, 0)))
      ∧ Hid (wr.heap[w.heap.size + 1]? = some (.cells r.cells 106 (0, 0))) ∧ Hid (Below w.heap.size w wr)) (fun i _ => s.size - (intOf i).toNat)
  case atStart =>
    refine ⟨1, r0, by omega, by omega, rfl, HR, r0_inv, ?_, ?_, ?_⟩
    · exact blk_alloc (blk_new w _) _
    · have e : (w.alloc (.cells #[.int .i64 0, .int .i64 0, .int .i64 0, .int .i64 0, .int .i64 0, .int .i64 0, .int .i64 0] 30)).heap.size = w.heap.size + 1 := by simp
      rw [← e]
      exact blk_new _ _
    · exact ((Below.refl _ w).alloc (Nat.le_refl _) _).alloc (by simp) _
  case round =>
    obtain ⟨k, r, hk1, hk, rfl, HK, HI, HZ, HG, HB⟩ := hrel
    by_cases hlt : k < s.size
    · have hbt : bt s k = (s[k].toNat : Int) := (bt_at s (k : Int) hlt).symm
      have HK2 : Hid ((if (takeF r (s[k].toNat : Int)).1 = true then loopF s (s.size - (k + 1)) (takeF r (s[k].toNat : Int)).2 (k + 1) else (0, 0, 0, 0, 0, 0, 0, 34, (k : Int))) = R) := by
        have := HK.out
        rw [show s.size - k = (s.size - (k + 1)) + 1 by omega, loopF, hbt] at this
        exact this
      have HC := Lib.hid (take_calls r (s[k].toNat : Int) wr (w.heap.size + 1) (w.heap.size + 1) (Nat.le_refl _) HI.out.1 HI.out.2.1 HI.out.n_le HG.out)
      clear HK hbt
      by_cases ht : (takeF r (s[k].toNat : Int)).1 = true
      · rw [if_pos ht] at HK2
        rw [ht] at HC
        have HI2 := Lib.hid (takeF_inv HI.out ht)
        generalize (takeF r (s[k].toNat : Int)).2 = r' at *
        clear ht
        go_wp2_with (go_at_call 70; refine HC.out.mono ?_; rintro e w1 ⟨rfl, hg1, hb1⟩; have HG1 := Lib.hid hg1; have HB1 := Lib.hid hb1; clear hg1 hb1)
        go_roundw
        case rel => exact ⟨k + 1, r', by omega, by omega, by go_num, HK2, HI2, (HB1.out.block _ (Nat.lt_succ_self _)).trans HZ.out, HG1, HB.out.trans (HB1.out.mono (Nat.le_succ _))⟩
        case measure => simp [intOf]; omega
      · rw [if_neg ht] at HK2
        rw [eq_false_of_ne_true ht] at HC
        clear ht
        obtain rfl := HK2.out
        go_wp2_with (go_at_call 70; refine HC.out.mono ?_; rintro e w1 ⟨rfl, hg1, hb1⟩; have hz := (hb1.block _ (Nat.lt_succ_self _)).trans HZ.out; have HB1 := Lib.hid hb1; clear hg1 hb1; have zc0 : w1.cell? ⟨w.heap.size, 0, none⟩ = some (.int .i64 0) := (blk_cell hz 0).trans rfl; have zf0 := blk_frozen hz 0; have zc1 : w1.cell? ⟨w.heap.size, 1, none⟩ = some (.int .i64 0) := (blk_cell hz 1).trans rfl; have zf1 := blk_frozen hz 1; have zc2 : w1.cell? ⟨w.heap.size, 2, none⟩ = some (.int .i64 0) := (blk_cell hz 2).trans rfl; have zf2 := blk_frozen hz 2; have zc3 : w1.cell? ⟨w.heap.size, 3, none⟩ = some (.int .i64 0) := (blk_cell hz 3).trans rfl; have zf3 := blk_frozen hz 3; have zc4 : w1.cell? ⟨w.heap.size, 4, none⟩ = some (.int .i64 0) := (blk_cell hz 4).trans rfl; have zf4 := blk_frozen hz 4; have zc5 : w1.cell? ⟨w.heap.size, 5, none⟩ = some (.int .i64 0) := (blk_cell hz 5).trans rfl; have zf5 := blk_frozen hz 5; have zc6 : w1.cell? ⟨w.heap.size, 6, none⟩ = some (.int .i64 0) := (blk_cell hz 6).trans rfl; have zf6 := blk_frozen hz 6; clear hz)
        exact bodyPost_ret (v := .tuple #[.agg #[.int .i64 0, .int .i64 0, .int .i64 0, .int .i64 0, .int .i64 0, .int .i64 0, .int .i64 0], .int .i64 34, .int .i64 k]) (by simp [results, Tryd.results33, go_sem, *]) rfl ⟨rfl, by (repeat refine below_set_ge ?_ (Nat.le_refl _)); exact HB.out.trans (HB1.out.mono (Nat.le_succ _))⟩
    · obtain rfl : k = s.size := by omega
      have HK2 : finF s r = R := by have := HK.out; rw [show s.size - s.size = 0 by omega, loopF] at this; exact this
      clear HK
      obtain ⟨y, mo, wk, d, h, mi, s', nx, bg, ti, em, en, n, hs⟩ := r
      unfold finF at HK2
      simp only at HK2
      have HK3 := Lib.hid HK2
      clear HK2
      have zc0 : wr.cell? ⟨w.heap.size, 0, none⟩ = some (.int .i64 0) := (blk_cell HZ.out 0).trans rfl
      have zf0 := blk_frozen HZ.out 0
      have zc1 : wr.cell? ⟨w.heap.size, 1, none⟩ = some (.int .i64 0) := (blk_cell HZ.out 1).trans rfl
      have zf1 := blk_frozen HZ.out 1
      have zc2 : wr.cell? ⟨w.heap.size, 2, none⟩ = some (.int .i64 0) := (blk_cell HZ.out 2).trans rfl
      have zf2 := blk_frozen HZ.out 2
      have zc3 : wr.cell? ⟨w.heap.size, 3, none⟩ = some (.int .i64 0) := (blk_cell HZ.out 3).trans rfl
      have zf3 := blk_frozen HZ.out 3
      have zc4 : wr.cell? ⟨w.heap.size, 4, none⟩ = some (.int .i64 0) := (blk_cell HZ.out 4).trans rfl
      have zf4 := blk_frozen HZ.out 4
      have zc5 : wr.cell? ⟨w.heap.size, 5, none⟩ = some (.int .i64 0) := (blk_cell HZ.out 5).trans rfl
      have zf5 := blk_frozen HZ.out 5
      have zc6 : wr.cell? ⟨w.heap.size, 6, none⟩ = some (.int .i64 0) := (blk_cell HZ.out 6).trans rfl
      have zf6 := blk_frozen HZ.out 6
      have rc0 : wr.cell? ⟨w.heap.size + 1, 0, none⟩ = some (.int .i64 y) := (blk_cell HG.out 0).trans rfl
      have rc1 : wr.cell? ⟨w.heap.size + 1, 1, none⟩ = some (.int .i64 mo) := (blk_cell HG.out 1).trans rfl
      have rc2 : wr.cell? ⟨w.heap.size + 1, 2, none⟩ = some (.int .i64 wk) := (blk_cell HG.out 2).trans rfl
      have rc3 : wr.cell? ⟨w.heap.size + 1, 3, none⟩ = some (.int .i64 d) := (blk_cell HG.out 3).trans rfl
      have rc4 : wr.cell? ⟨w.heap.size + 1, 4, none⟩ = some (.int .i64 h) := (blk_cell HG.out 4).trans rfl
      have rc5 : wr.cell? ⟨w.heap.size + 1, 5, none⟩ = some (.int .i64 mi) := (blk_cell HG.out 5).trans rfl
      have rc6 : wr.cell? ⟨w.heap.size + 1, 6, none⟩ = some (.int .i64 s') := (blk_cell HG.out 6).trans rfl
      have rc8 : wr.cell? ⟨w.heap.size + 1, 8, none⟩ = some (.bool bg) := (blk_cell HG.out 8).trans rfl
      have rc10 : wr.cell? ⟨w.heap.size + 1, 10, none⟩ = some (.bool em) := (blk_cell HG.out 10).trans rfl
      have rc13 : wr.cell? ⟨w.heap.size + 1, 13, none⟩ = some (.int .i64 hs) := (blk_cell HG.out 13).trans rfl
      by_cases hh : 0 < hs
      · obtain rfl := (if_pos (.inl hh)).symm.trans HK3.out
        go_wp2
        exact bodyPost_ret (v := .tuple #[.agg #[.int .i64 0, .int .i64 0, .int .i64 0, .int .i64 0, .int .i64 0, .int .i64 0, .int .i64 0], .int .i64 34, .int .i64 s.size]) (by simp [results, Tryd.results33, go_sem, *]) rfl ⟨rfl, by (repeat refine below_set_ge ?_ (Nat.le_refl _)); exact HB.out⟩
      · cases bg with
        | false =>
          obtain rfl := (if_pos (.inr (.inl rfl))).symm.trans HK3.out
          go_wp2
          exact bodyPost_ret (v := .tuple #[.agg #[.int .i64 0, .int .i64 0, .int .i64 0, .int .i64 0, .int .i64 0, .int .i64 0, .int .i64 0], .int .i64 34, .int .i64 s.size]) (by simp [results, Tryd.results33, go_sem, *]) rfl ⟨rfl, by (repeat refine below_set_ge ?_ (Nat.le_refl _)); exact HB.out⟩
        | true =>
          cases em with
          | true =>
            obtain rfl := (if_pos (.inr (.inr rfl))).symm.trans HK3.out
            go_wp2
            exact bodyPost_ret (v := .tuple #[.agg #[.int .i64 0, .int .i64 0, .int .i64 0, .int .i64 0, .int .i64 0, .int .i64 0, .int .i64 0], .int .i64 34, .int .i64 s.size]) (by simp [results, Tryd.results33, go_sem, *]) rfl ⟨rfl, by (repeat refine below_set_ge ?_ (Nat.le_refl _)); exact HB.out⟩
          | false =>
            obtain rfl := (if_neg (by rintro (e | e | e); · exact hh e
                                      · cases e
                                      · cases e)).symm.trans HK3.out
            go_wp2
            exact bodyPost_ret (v := .tuple #[.agg #[.int .i64 y, .int .i64 mo, .int .i64 wk, .int .i64 d, .int .i64 h, .int .i64 mi, .int .i64 s'], .int .i64 0, .int .i64 0]) (by simp [results, Tryd.results33, go_sem, *]) rfl ⟨rfl, by (repeat refine below_set_ge ?_ (Nat.le_refl _)); exact HB.out⟩
theorem cal_ParseSpan.calls (s : ByteArray) (a1 a2 a3 a4 a5 a6 a7 a8 a9 : Int) (w : World) (hf : cal_ParseSpan.f s = some (a1, a2, a3, a4, a5, a6, a7, a8, a9)) :
    Calls Tryd.prog 33 #[.string s] w fun e w' => e = .returned (.tuple #[.agg #[.int .i64 a1, .int .i64 a2, .int .i64 a3, .int .i64 a4, .int .i64 a5, .int .i64 a6, .int .i64 a7], .int .i64 a8, .int .i64 a9]) ∧ Below w.heap.size w w' := by
  unfold cal_ParseSpan.f at hf
  by_cases h : s.size > 64
  · rw [if_pos h] at hf; cases hf; exact parse_long s w h
  · rw [if_neg h] at hf
    by_cases h1 : s.size = 0 ∨ bt s 0 ≠ 80
    · rw [if_pos h1] at hf; cases hf
      by_cases h2 : s.size = 0
      · exact parse_none s w (by omega) h2
      · exact parse_head s w (by omega) (by omega) (h1.resolve_left h2)
    · rw [if_neg h1] at hf
      have hP : bt s 0 = 80 := by
        by_cases z : bt s 0 = 80
        · exact z
        · exact absurd (Or.inr z) h1
      have h2 : s.size ≠ 0 := fun z => h1 (.inl z)
      exact parse_go s w (by omega) (by omega) hP _ (Option.some.inj hf)
end Go.Proofs.YtiklakkkgmilnaaDoor.Ext

/- Print, walked: clean, a cell told. -/
import Derived.Test.YtappphffbnkloaaGreatDoorShtE
import Derived.Test.YtappphffbnkloaaGreatDoorShtPo
import Derived.Test.YtappphffbnkloaaGreatDoorShtBd
import Derived.Test.YtappphffbnkloaaGreatDoorShtAny
import Derived.Lib.SplitLaws
import Derived.Lib.ReplaceLaws
import Derived.Lib.UnsafeStr
import Derived.Deep.RegionWith
import Derived.LoopTactic
set_option linter.unusedVariables false
set_option linter.unusedSimpArgs false
namespace Go.Proofs.YtappphffbnkloaaGreatDoor.Sht
open Go Go.RowKit Qd
attribute [local go_sem ↓] Go.wp_at_zero Go.wp_at_succ
/-- bytealg.MaxLen, whatever it holds -/
def ML (w : World) : Prop := ∃ m, w.cell? ⟨22, 0, none⟩ = some (.int .i64 m)
theorem ML.below {w w' : World} (h : ML w) {B : Nat} (k : Below B w w') (hB : 22 < B) : ML w' := by
  obtain ⟨m, h⟩ := h
  exact ⟨m, (k.cell (p := ⟨22, 0, none⟩) hB).trans h⟩
theorem ML.lt {w : World} (h : ML w) : 22 < w.heap.size := by
  obtain ⟨m, h⟩ := h
  exact World.block_lt_of_cell? w _ h
/-! ### plain -/
theorem esc_free : ∀ l : List UInt8, (∀ (k : Nat), l[k]? ≠ some 34) → esc l = l
  | [], _ => rfl
  | x :: l, h => by
    unfold esc
    rw [if_neg (fun e => h 0 (by rw [e]; rfl)), esc_free l (fun k => h (k + 1))]
theorem replaceK_esc : ∀ (k : Nat) (l : List UInt8), Lib.count l [34] = k → Lib.replaceK [34] [34, 34] k l = esc l
  | 0, l, h => by
    have hi : Lib.index l [34] = -1 := by
      have hge := Lib.index_ge l [34]
      by_cases hm : Lib.index l [34] = -1
      · exact hm
      · have := Lib.count_hit (s := l) (sub := [34]) (i := (Lib.index l [34]).toNat) (by simp) (by omega)
        omega
    rw [Lib.index_one] at hi
    rw [esc_free l (Lib.indexByte_none hi)]
    rfl
  | k + 1, l, h => by
    obtain ⟨i, hi⟩ := Lib.index_of_count (s := l) (old := [34]) (by omega)
    have hc := Lib.count_hit (s := l) (sub := [34]) (i := i) (by simp) hi
    rw [Lib.replaceK_hit _ _ _ _ i hi, replaceK_esc k _ (by omega)]
    rw [Lib.index_one] at hi
    obtain ⟨h1, h2⟩ := Lib.indexByte_some hi
    obtain ⟨hlt, h1'⟩ := List.getElem?_eq_some_iff.1 h1
    have e : l = l.take i ++ (34 :: l.drop (i + 1)) := by
      conv => lhs; rw [← List.take_append_drop i l, List.drop_eq_getElem_cons hlt, h1']
    have ht : esc (l.take i) = l.take i := esc_free _ fun j hj => by
      rw [List.getElem?_take] at hj
      split at hj
      · exact h2 j (by assumption) hj
      · cases hj
    conv => rhs; rw [e, esc_app, ht]
    have : esc (34 :: l.drop (i + 1)) = [34, 34] ++ esc (l.drop (i + 1)) := by
      conv => lhs; unfold esc; rw [if_pos rfl]
      rfl
    rw [this, List.append_assoc]
    rfl
theorem replaceAll_esc (l : List UInt8) : Lib.replaceAll l [34] [34, 34] = esc l := by
  unfold Lib.replaceAll Lib.replace
  rw [if_neg (by decide)]
  have : Lib.replaceNum l [34] (-1) = Lib.count l [34] := by unfold Lib.replaceNum; rw [if_pos (.inl (by decide))]
  rw [this]
  exact replaceK_esc _ l rfl
theorem containsAny_spec (l : List UInt8) : Lib.containsAny l [44, 34, 13, 10, 9] = l.any spec := by
  have hc : ∀ x : UInt8, ([44, 34, 13, 10, 9] : List UInt8).contains x = spec x := fun x => by
    unfold spec
    simp only [List.contains_cons, List.contains_nil, Bool.or_false, Bool.or_assoc]
  induction l with
  | nil => rfl
  | cons x l ih =>
    have hge := Lib.indexAny_ge [44, 34, 13, 10, 9] l
    unfold Lib.containsAny at ih ⊢
    rw [Lib.indexAny, hc x, List.any_cons]
    cases hx : spec x
    · simp only [Bool.false_eq_true, if_false, Bool.false_or]
      rw [← ih]
      by_cases hm : Lib.indexAny l [44, 34, 13, 10, 9] = -1
      · rw [hm]; rfl
      · rw [if_neg (by simpa using hm)]
        exact decide_eq_decide.2 (by omega)
    · simp
theorem cellO_size (c : List UInt8) : (cellO c).length ≤ 2 * c.length + 2 := by
  have := esc_len c
  unfold cellO
  split
  · simp; omega
  · omega
/-! ### clean -/
def okL (l : List UInt8) : Bool := l.all okB
set_option maxHeartbeats 2000000 in
theorem clean_r (s : ByteArray) (hl : s.size ≤ 9223372036854775807) (w : World) : Calls Tryz.prog 91 #[.string s] w fun e w' => e = .returned (.bool (okL s.data.toList)) ∧ w = w' := by
  have HA := Lib.hid (fun x w => allowed_r x w)
  go_enter Tryz.func91, Tryz.ntmps91
  go_wp2
  go_loop [6] (fun i => ∃ k : Nat, k ≤ s.size ∧ i = .int .i64 (k : Int) ∧ Hid ((s.data.toList.take k).all okB = true)) (fun i => s.size - (intOf i).toNat)
  case atStart => exact ⟨0, Nat.zero_le _, rfl, Lib.hid rfl⟩
  case round =>
    obtain ⟨k, hk, rfl, HK⟩ := hrel
    by_cases hlt : k < s.size
    · have hx := Lib.data_getElem? s k hlt
      obtain ⟨hx1, hx2⟩ := List.getElem?_eq_some_iff.1 hx
      have htk : (s.data.toList.take (k + 1)).all okB = okB s[k] := by
        rw [List.take_succ_eq_append_getElem hx1, List.all_append, HK.out, hx2]; simp
      cases ho : okB s[k]
      · have HF : Hid (okL s.data.toList = false) := Lib.hid (by
          unfold okL
          rw [← Bool.not_eq_true]
          intro h
          have := List.all_eq_true.1 h s[k] (List.mem_of_getElem? hx)
          rw [ho] at this; cases this)
        have HO := Lib.hid ho
        clear ho htk hx hx2
        go_wp2_with (go_at_call 99; (with_reducible refine (HA.out _ _).mono ?_); rintro e w1 ⟨rfl, rfl⟩; rw [HO.out])
        go_ret
        exact ⟨by rw [HF.out]; rfl, rfl⟩
      · rw [ho] at htk
        have HT := Lib.hid htk
        have HO := Lib.hid ho
        clear ho htk hx hx2
        go_wp2_with (go_at_call 99; (with_reducible refine (HA.out _ _).mono ?_); rintro e w1 ⟨rfl, rfl⟩; rw [HO.out])
        go_round
        case rel => exact ⟨k + 1, by omega, by go_num, HT⟩
        case measure => simp [intOf]; omega
    · have hs : s.data.toList.length = s.size := by rw [Array.length_toList]; rfl
      have h := HK.out
      rw [List.take_of_length_le (by omega)] at h
      have HF : Hid (okL s.data.toList = true) := Lib.hid h
      clear h hs
      go_wp2
      go_ret
      exact ⟨by rw [HF.out]; rfl, rfl⟩
/-! ### a cell -/
theorem IsBd.below {B b : Nat} {bs : List Value} {w w' : World} (h : IsBd B b bs w) (k : Below w.heap.size w w') : IsBd B b bs w' := by
  have one : ∀ p, BdAt B b p bs w → BdAt B b p bs w' := by
    rintro p ⟨hB, v, hb, hown, hne⟩
    refine ⟨hB, v, (k.block b (Array.getElem?_eq_some_iff.1 hb).1).trans hb, ?_, hne⟩
    obtain ⟨h1, h2⟩ := hown
    refine ⟨h1, ?_⟩
    rcases h2 with h2 | ⟨g, cap, cur, hv, hg, hh, q⟩
    · exact .inl h2
    · exact .inr ⟨g, cap, cur, hv, hg, (k.block g (Array.getElem?_eq_some_iff.1 hh).1).trans hh, q⟩
  rcases h with h | h
  · exact .inl (one _ h)
  · exact .inr (one _ h)
theorem IsBd.lt {B b : Nat} {bs : List Value} {w : World} (h : IsBd B b bs w) : b < w.heap.size := by
  rcases h with h | h <;> exact h.lt
theorem IsBd.ge {B b : Nat} {bs : List Value} {w : World} (h : IsBd B b bs w) : B ≤ b := by
  rcases h with h | h <;> exact h.1
/-- a builder holds these bytes -/
def Bld (B b : Nat) (l : List UInt8) (w : World) : Prop := IsBd B b (Lib.byteCells l) w ∧ B ≤ w.heap.size
theorem bld_byte {B b : Nat} {l : List UInt8} {w : World} (h : Bld B b l w) (c : UInt8) (k : Int) (hk : (c.toNat : Int) = k) (hl : l.length < 140737488355328) :
    Calls Tryz.prog 92 #[PT b, .int .u8 k] w fun e w' => e = .returned .nilIface ∧ Bld B b (l ++ [c]) w' ∧ Below B w w' :=
  (bbyte k h.1 (by rw [Lib.byteCells_length]; omega) h.2).mono fun e w' ⟨h1, h2, h3⟩ => ⟨h1, ⟨by subst hk; simpa [Lib.byteCells] using h2, Nat.le_trans h.2 h3.size⟩, h3⟩
theorem bld_str {B b : Nat} {l : List UInt8} {w : World} (h : Bld B b l w) (s : ByteArray) (hl : l.length + s.size ≤ 140737488355328) :
    Calls Tryz.prog 77 #[PT b, .string s] w fun e w' => e = .returned (.tuple #[.int .i64 s.size, .nilIface]) ∧ Bld B b (l ++ s.data.toList) w' ∧ Below B w w' :=
  (bstr s h.1 (by rw [Lib.byteCells_length]; omega) h.2).mono fun e w' ⟨h1, h2, h3⟩ => ⟨h1, ⟨by simpa [Lib.byteCells, Lib.strCells] using h2, Nat.le_trans h.2 h3.size⟩, h3⟩
theorem Bld.below {B b : Nat} {l : List UInt8} {w w' : World} (h : Bld B b l w) (k : Below w.heap.size w w') : Bld B b l w' := ⟨h.1.below k, Nat.le_trans h.2 k.size⟩
theorem replace_r (s : ByteArray) (hs : s.size ≤ 4096) (w : World) (hm : ML w) : Calls Tryz.prog 94 #[.string s, .string ⟨#[34]⟩, .string ⟨#[34, 34]⟩] w fun e w' => e = .returned (st (esc s.data.toList)) ∧ Below w.heap.size w w' := by
  obtain ⟨m, hm⟩ := hm
  have hc := Lib.countB_mul_le ⟨#[34]⟩ (by decide) s.size s (Nat.le_refl _)
  have h1 : (⟨#[34]⟩ : ByteArray).size = 1 := rfl
  have h2 : (⟨#[34, 34]⟩ : ByteArray).size = 2 := rfl
  rw [h1, Nat.mul_one] at hc
  have := Tryz.strings_ReplaceAll s ⟨#[34]⟩ ⟨#[34, 34]⟩ m w (by omega) hm (by decide) (by rw [h2]; omega)
  refine this.mono fun e w' ⟨q1, q2⟩ => ⟨?_, q2⟩
  rw [q1]
  show Ending.returned (.string ⟨(Lib.replaceAll s.data.toList [34] [34, 34]).toArray⟩) = _
  rw [replaceAll_esc]
set_option maxHeartbeats 4000000 in
set_option maxRecDepth 100000 in
theorem cell_r (first : Bool) (s : ByteArray) (hs : s.size ≤ 4096) {B b : Nat} {l : List UInt8} {w : World} (h : Bld B b l w) (hl : l.length ≤ 1000000) (hm : ML w) (hB : 22 < B) :
    Calls Tryz.prog 76 #[PT b, .bool first, .string s] w fun e w' => e = .returned (.tuple #[]) ∧ Bld B b (l ++ ((if first then [] else [44]) ++ cellO s.data.toList)) w' ∧ Below B w w' := by
  have hlen : s.data.toList.length = s.size := by rw [Array.length_toList]; rfl
  have hesc := esc_len s.data.toList
  rw [hlen] at hesc
  have HC := Lib.hid (fun W => contains_any s W (by omega))
  simp only [containsAny_spec] at HC
  have H0 := Lib.hid h
  have HM := Lib.hid hm
  clear h hm
  cases hany : s.data.toList.any spec
  · have e : cellO s.data.toList = s.data.toList := by unfold cellO; rw [if_neg (by rw [hany]; decide)]
    rw [e]
    clear e
    have HAny := Lib.hid hany
    clear hany
    cases first
    · go_enter Tryz.func76, Tryz.ntmps76
      go_wp2_with (first
        | (go_at_call 92; (with_reducible refine (bld_byte H0.out 44 44 rfl (by omega)).mono ?_); rintro e w1 ⟨rfl, h1, b1⟩; have H1 := Lib.hid h1; have B1 := Lib.hid b1; clear h1 b1)
        | (go_at_call 93; (with_reducible refine (HC.out _).mono ?_); rintro e w2 ⟨rfl, b2⟩; rw [HAny.out]; have H2 := Lib.hid (H1.out.below b2); have B2 := Lib.hid (B1.out.trans (b2.mono H1.out.2)); clear b2)
        | (go_at_call 77; (with_reducible refine (bld_str H2.out s (by simp; omega)).mono ?_); rintro e w3 ⟨rfl, h3, b3⟩; have H3 := Lib.hid h3; have B3 := Lib.hid (B2.out.trans b3); clear h3 b3))
      refine bodyPost_ret (results_none rfl _ _ _) rfl ?_
      exact ⟨rfl, by simpa using H3.out, B3.out⟩
    · go_enter Tryz.func76, Tryz.ntmps76
      go_wp2_with (first
        | (go_at_call 93; (with_reducible refine (HC.out _).mono ?_); rintro e w2 ⟨rfl, b2⟩; rw [HAny.out]; have H2 := Lib.hid (H0.out.below b2); have B2 := Lib.hid (b2.mono H0.out.2); clear b2)
        | (go_at_call 77; (with_reducible refine (bld_str H2.out s (by omega)).mono ?_); rintro e w3 ⟨rfl, h3, b3⟩; have H3 := Lib.hid h3; have B3 := Lib.hid (B2.out.trans b3); clear h3 b3))
      refine bodyPost_ret (results_none rfl _ _ _) rfl ?_
      exact ⟨rfl, by simpa using H3.out, B3.out⟩
  · have e : cellO s.data.toList = 34 :: (esc s.data.toList ++ [34]) := by unfold cellO; rw [if_pos hany]
    rw [e]
    clear e
    have HAny := Lib.hid hany
    clear hany
    cases first
    · go_enter Tryz.func76, Tryz.ntmps76
      go_wp2_with (first
        | (go_at_call 92; (with_reducible refine (bld_byte H0.out 44 44 rfl (by omega)).mono ?_); rintro e w1 ⟨rfl, h1, b1⟩; have H1 := Lib.hid h1; have B1 := Lib.hid b1; clear h1 b1)
        | (go_at_call 93; (with_reducible refine (HC.out _).mono ?_); rintro e w2 ⟨rfl, b2⟩; rw [HAny.out]; have H2 := Lib.hid (H1.out.below b2); have B2 := Lib.hid (B1.out.trans (b2.mono H1.out.2)); clear b2)
        | (go_at_call 92; (with_reducible refine (bld_byte H2.out 34 34 rfl (by simp; omega)).mono ?_); rintro e w3 ⟨rfl, h3, b3⟩; have H3 := Lib.hid h3; have B3 := Lib.hid (B2.out.trans b3); clear h3 b3))
      go_region_with (first
        | (go_at_call 94; (with_reducible refine (replace_r s hs _ ((HM.out.below B3.out hB).below (Below.refl _ _).drew hB)).mono ?_); rintro e w4 ⟨rfl, b4⟩; have H4 := Lib.hid (H3.out.below ((Below.refl _ _).drew.trans b4)); have B4 := Lib.hid (B3.out.trans (((Below.refl _ _).drew.trans b4).mono H3.out.2)); clear b4)
        | (go_at_call 77; (with_reducible refine (bld_str H4.out ⟨(esc s.data.toList).toArray⟩ (by simp [ByteArray.size]; omega)).mono ?_); rintro e w5 ⟨rfl, h5, b5⟩; have H5 := Lib.hid h5; have B5 := Lib.hid (B4.out.trans b5); clear h5 b5))
      all_goals
        go_wp2_with (go_at_call 92; (with_reducible refine (bld_byte H5.out 34 34 rfl (by simp; omega)).mono ?_); rintro e w6 ⟨rfl, h6, b6⟩; have H6 := Lib.hid h6; have B6 := Lib.hid (B5.out.trans b6); clear h6 b6)
        go_end0
        exact ⟨rfl, by simpa using H6.out, B6.out⟩
    · go_enter Tryz.func76, Tryz.ntmps76
      go_wp2_with (first
        | (go_at_call 93; (with_reducible refine (HC.out _).mono ?_); rintro e w2 ⟨rfl, b2⟩; rw [HAny.out]; have H2 := Lib.hid (H0.out.below b2); have B2 := Lib.hid (b2.mono H0.out.2); clear b2)
        | (go_at_call 92; (with_reducible refine (bld_byte H2.out 34 34 rfl (by omega)).mono ?_); rintro e w3 ⟨rfl, h3, b3⟩; have H3 := Lib.hid h3; have B3 := Lib.hid (B2.out.trans b3); clear h3 b3))
      go_region_with (first
        | (go_at_call 94; (with_reducible refine (replace_r s hs _ ((HM.out.below B3.out hB).below (Below.refl _ _).drew hB)).mono ?_); rintro e w4 ⟨rfl, b4⟩; have H4 := Lib.hid (H3.out.below ((Below.refl _ _).drew.trans b4)); have B4 := Lib.hid (B3.out.trans (((Below.refl _ _).drew.trans b4).mono H3.out.2)); clear b4)
        | (go_at_call 77; (with_reducible refine (bld_str H4.out ⟨(esc s.data.toList).toArray⟩ (by simp [ByteArray.size]; omega)).mono ?_); rintro e w5 ⟨rfl, h5, b5⟩; have H5 := Lib.hid h5; have B5 := Lib.hid (B4.out.trans b5); clear h5 b5))
      all_goals
        go_wp2_with (go_at_call 92; (with_reducible refine (bld_byte H5.out 34 34 rfl (by simp; omega)).mono ?_); rintro e w6 ⟨rfl, h6, b6⟩; have H6 := Lib.hid h6; have B6 := Lib.hid (B5.out.trans b6); clear h6 b6)
        go_end0
        exact ⟨rfl, by simpa using H6.out, B6.out⟩
end Go.Proofs.YtappphffbnkloaaGreatDoor.Sht

/- SheetQuoted, walked. -/
import Derived.Test.YtinjlpodcabfaaaDoorShtQp
import Derived.Test.YtinjlpodcabfaaaDoorShtRd
import Derived.Deep.RegionWith
import Derived.Lib.ItoaMem
import Derived.Deep.DeepCutAuto
set_option linter.unusedVariables false
set_option linter.unusedSimpArgs false
namespace Go.Proofs.YtinjlpodcabfaaaDoor.Sht.Qd
open Go Go.RowKit
attribute [local go_sem ↓] Go.wp_at_zero Go.wp_at_succ
variable {A : Nat → Addr}
def cm (i : Nat) : ByteArray := ⟨(List.replicate i 44).toArray⟩
def qb (l : List UInt8) : ByteArray := ⟨(34 :: esc l).toArray⟩
theorem cm_size (i : Nat) : (cm i).size = i := by show (List.replicate i (44 : UInt8)).toArray.size = i; simp
theorem cm_more (i : Nat) : cm i ++ ⟨#[44]⟩ = cm (i + 1) := by
  apply ByteArray.ext
  apply Array.ext'
  simp [cm, List.replicate_succ']
theorem qb_size (l : List UInt8) : (qb l).size ≤ 1 + 2 * l.length := by
  have := esc_len l
  show (34 :: esc l).toArray.size ≤ _
  simp
  omega
theorem qb_more (l : List UInt8) (x : UInt8) (h : x ≠ 34) : qb l ++ ⟨#[x]⟩ = qb (l ++ [x]) := by
  apply ByteArray.ext
  simp [qb, esc_app, esc, h]
theorem qb_quote (l : List UInt8) : qb l ++ ⟨#[34]⟩ ++ ⟨#[34]⟩ = qb (l ++ [34]) := by
  apply ByteArray.ext
  simp [qb, esc_app, esc]
/-- the first byte that may not stand -/
def bad (l : List UInt8) : Option Nat := l.findIdx? (fun x => okB x == false)
def bv : Option Nat → Value
  | none => .int .i64 (-1)
  | some p => .int .i64 (p : Int)
theorem bad_snoc (l : List UInt8) (x : UInt8) : bad (l ++ [x]) = (bad l).or (if okB x = false then some l.length else none) := by
  unfold bad
  rw [List.findIdx?_append]
  congr 1
  by_cases h : okB x = false <;> simp [h]
theorem slice_aux (t : ByteArray) (j : Nat) (h : j < t.size) : (t.data.extract j (j + 1)).toList = [t[j]] := by
  have hl : j < t.data.toList.length := by rw [Array.length_toList]; exact h
  rw [Array.toList_extract, List.extract_eq_take_drop, List.drop_eq_getElem_cons hl, show j + 1 - j = 1 by omega]
  rfl
theorem ok_aux (n : Nat) (hn : n < 256) (b : Bool) (hb : b = ((32 ≤ n && n != 127) || n == 9 || n == 10 || n == 13)) : (n = 127 ∧ b = false ∧ ¬ n = 34) ∨ (n ≠ 127 ∧ n < 32 ∧ n ≠ 9 ∧ n ≠ 10 ∧ n ≠ 13 ∧ b = false ∧ ¬ n = 34) ∨ (n = 9 ∧ b = true ∧ ¬ n = 34) ∨ (n = 10 ∧ b = true ∧ ¬ n = 34) ∨ (n = 13 ∧ b = true ∧ ¬ n = 34) ∨ (n = 34 ∧ b = true ∧ n = 34) ∨ (n ≠ 127 ∧ 32 ≤ n ∧ n ≠ 34 ∧ b = true ∧ ¬ n = 34) := by
  subst hb
  by_cases h1 : n = 127
  · subst h1; decide
  by_cases h2 : n = 34
  · subst h2; decide
  by_cases h3 : n = 9
  · subst h3; decide
  by_cases h4 : n = 10
  · subst h4; decide
  by_cases h5 : n = 13
  · subst h5; decide
  by_cases h6 : n < 32
  · refine .inr (.inl ⟨h1, h6, h3, h4, h5, ?_, h2⟩)
    simp; omega
  · refine .inr (.inr (.inr (.inr (.inr (.inr ⟨h1, by omega, h2, ?_, h2⟩)))))
    simp; omega
theorem slice_one (t : ByteArray) (j : Nat) (h : j < t.size) (wx : World) : (Instr.slice 9 (.string t) (some (.int .i64 (j : Int))) (some (.int .i64 ((j : Int) + 1))) none).run Tryd.prog wx = .ok (.string ⟨#[t[j]]⟩) wx := by
  have := run_slice_string (P := Tryd.prog) wx 9 t .i64 .i64 (j : Int) ((j : Int) + 1) Tryd.underlying9 (by omega) (by omega) (by omega)
  have e : t.extract (j : Int).toNat ((j : Int) + 1).toNat = ⟨#[t[j]]⟩ := by
    have e1 : (j : Int).toNat = j := by omega
    have e2 : ((j : Int) + 1).toNat = j + 1 := by omega
    rw [e1, e2]
    apply ByteArray.ext
    rw [ByteArray.data_extract]
    apply Array.ext'
    exact slice_aux t j h
  rw [this, e]
theorem bad_some {l : List UInt8} {p : Nat} (h : bad l = some p) : ∃ hp : p < l.length, okB l[p] = false ∧ ∀ y ∈ l.take p, okB y = true := by
  unfold bad at h
  rw [List.findIdx?_eq_some_iff_getElem] at h
  obtain ⟨hp, h1, h2⟩ := h
  refine ⟨hp, by simpa using h1, fun y hy => ?_⟩
  obtain ⟨j, hj, rfl⟩ := List.mem_iff_getElem.1 hy
  rw [List.length_take] at hj
  have := h2 j (by omega)
  rw [List.getElem_take]
  simpa using this
theorem bad_none {l : List UInt8} (h : bad l = none) : ∀ y ∈ l, okB y = true := by
  unfold bad at h
  rw [List.findIdx?_eq_none_iff] at h
  intro y hy
  simpa using h y hy
theorem at_place (l : List UInt8) (p : Nat) (h : p < l.length) : l = l.take p ++ l[p] :: l.drop (p + 1) := by
  conv => lhs; rw [← List.take_append_drop p l, List.drop_eq_getElem_cons h]
/-- what the sheet of the law is read as -/
theorem told_of (n : Nat) (hn : n ≤ 60) (l : List UInt8) :
    (∃ p a b, bad l = some p ∧ p < 4096 ∧ parseO (Qt n l) = ([], some (a, b, 4))) ∨
    (∃ a b e, (∀ p, bad l = some p → 4096 ≤ p) ∧ 4096 < l.length ∧ (e = 4 ∨ e = 5) ∧ parseO (Qt n l) = ([], some (a, b, e))) ∨
    (bad l = none ∧ l.length ≤ 4096 ∧ parseO (Qt n l) = ([List.replicate n [] ++ [l, [122]]], none)) := by
  have long : (∀ y ∈ l.take 4096, okB y = true) → 4096 < l.length → ∃ p q e, (e = 4 ∨ e = 5) ∧ parseO (Qt n l) = ([], some (p, q, e)) := fun h1 h2 => by
    rw [at_place l 4096 h2]
    exact quoted_long n hn _ _ _ h1 (by rw [List.length_take]; omega)
  cases hb : bad l with
  | some p =>
    obtain ⟨hp, h1, h2⟩ := bad_some hb
    by_cases hq : p < 4096
    · obtain ⟨a, b, h⟩ := quoted_bad n hn (l.take p) (l.drop (p + 1)) l[p] h2 h1 (by rw [List.length_take]; omega)
      rw [← at_place l p hp] at h
      exact .inl ⟨p, a, b, rfl, hq, h⟩
    · obtain ⟨a, b, e, he, h⟩ := long (fun y hy => h2 y (by
        have : l.take 4096 = (l.take p).take 4096 := by rw [List.take_take, Nat.min_eq_left (by omega)]
        rw [this] at hy
        exact List.mem_of_mem_take hy)) (by omega)
      exact .inr (.inl ⟨a, b, e, fun q hq' => by cases hq'; omega, by omega, he, h⟩)
  | none =>
    have h2 := bad_none hb
    by_cases hl : l.length ≤ 4096
    · exact .inr (.inr ⟨rfl, hl, quoted_good n hn l h2 hl⟩)
    · obtain ⟨a, b, e, he, h⟩ := long (fun y hy => h2 y (List.mem_of_mem_take hy)) (by omega)
      exact .inr (.inl ⟨a, b, e, fun q hq => (by cases hq), by omega, he, h⟩)
abbrev tail : ByteArray := ⟨#[34, 44, 122, 13, 10]⟩
theorem qt_eq (n : Nat) (l : List UInt8) : L8 (cm n ++ qb l ++ tail) = Qt n l := by
  simp [L8, cm, qb, Qt, ByteArray.data_append]
theorem is_coded (A : Nat → Addr) (g e c : Nat) (x y : Value) (w : World) (hS : SF w A) (h1 : coded e) (h2 : coded c) (hg : w.heap[g]? = some (.cells #[x, y, errV A e] 67 (0, 0))) :
    Calls Tryd.prog 8 #[.iface 65 (PT g), errV A c] w fun ev w' => ev = .returned (.bool (decide (e = c))) ∧ w = w' := by
  by_cases h : e = c
  · subst h
    rw [decide_eq_true rfl]
    exact is_fault_yes g (A e) x y w hg
  · rw [decide_eq_false h]
    obtain ⟨ca, ta, ha⟩ := hS.hb e h1
    obtain ⟨cb, tb, hb⟩ := hS.hb c h2
    exact is_fault_no g (A e) (A c) x y ca cb ta tb w hg (hS.hn e c h1 h2 h) ha hb
theorem no_rows {w : World} {B : Nat} {v : Value} (h : GoodRows B w v []) : ∃ A c, v = .slice A 0 c := by
  obtain ⟨A, c, h1, _⟩ := good_reads h
  exact ⟨A, c, h1⟩
theorem take_one (t : ByteArray) (j : Nat) (h : j < t.size) : (L8 t).take (j + 1) = (L8 t).take j ++ [t[j]] := by
  rw [take_snoc (by rw [L8_len]; exact h)]
  congr 1
theorem okB_cases (x : UInt8) : (x.toNat = 127 ∧ okB x = false ∧ x ≠ 34) ∨ (x.toNat ≠ 127 ∧ x.toNat < 32 ∧ x.toNat ≠ 9 ∧ x.toNat ≠ 10 ∧ x.toNat ≠ 13 ∧ okB x = false ∧ x ≠ 34) ∨ (x.toNat = 9 ∧ okB x = true ∧ x ≠ 34) ∨ (x.toNat = 10 ∧ okB x = true ∧ x ≠ 34) ∨ (x.toNat = 13 ∧ okB x = true ∧ x ≠ 34) ∨ (x.toNat = 34 ∧ okB x = true ∧ x = 34) ∨ (x.toNat ≠ 127 ∧ 32 ≤ x.toNat ∧ x.toNat ≠ 34 ∧ okB x = true ∧ x ≠ 34) := by
  have h34 : x = 34 ↔ x.toNat = 34 := ⟨fun h => by rw [h]; rfl, fun h => UInt8.toNat_inj.1 h⟩
  simp only [ne_eq, h34]
  exact ok_aux x.toNat x.toNat_lt (okB x) (okB_eq x)
theorem good_one {w : World} {B : Nat} {v : Value} {k : Nat} {t : ByteArray} (h : GoodRows B w v [List.replicate k [] ++ [L8 t, [122]]]) : ∃ g cap g' cap', v = .slice (some ⟨g, 0, none⟩) 1 cap ∧ w.cell? ⟨g, 0, none⟩ = some (.slice (some ⟨g', 0, none⟩) (k + 2) cap') ∧
    w.cell? ⟨g', k, none⟩ = some (.string t) ∧ w.cell? ⟨g', k + 1, none⟩ = some (.string ⟨#[122]⟩) := by
  obtain ⟨lv, h1, h2⟩ := h
  obtain ⟨h3, h4⟩ := rows_get h2
  obtain ⟨u, hu, hw⟩ := h4 0 _ rfl
  obtain ⟨g, cap, rfl, _, _⟩ := h1.form (by simp)
  have hlen : (List.replicate k ([] : List UInt8) ++ [L8 t, [122]]).length = k + 2 := by simp
  rw [hlen] at hw
  obtain ⟨g', cap', rfl, _, _⟩ := hw.form (by omega)
  have hb := h1.cells (g := g) rfl 0 _ hu
  have e1 : (⟨g, 0, none⟩ : Addr).add 0 = ⟨g, 0, none⟩ := Lib.add_plain g 0 0
  rw [e1] at hb
  have hk : (sts (List.replicate k ([] : List UInt8) ++ [L8 t, [122]]))[k]? = some (st (L8 t)) := by simp [sts]
  have hk1 : (sts (List.replicate k ([] : List UInt8) ++ [L8 t, [122]]))[k + 1]? = some (st [122]) := by simp [sts]
  have c0 := hw.cells (g := g') rfl k _ hk
  have c1 := hw.cells (g := g') rfl (k + 1) _ hk1
  rw [Lib.add_plain, Nat.zero_add] at c0 c1
  refine ⟨g, cap, g', cap', rfl, hb, ?_, c1⟩
  rw [c0]
set_option maxHeartbeats 8000000 in
set_option maxRecDepth 100000 in
theorem sheetQuoted_calls (w : World) (hS : SF w A) (hE : ET w) (t : ByteArray) (c : Int) (ht : t.size ≤ 140737488355328) (hc : -9223372036854775808 ≤ c ∧ c ≤ 9223372036854775807) :
    Calls Tryd.prog 3 #[.string t, .int .i64 c] w fun e w' => e = .returned (.bool true) ∧ Below w.heap.size w w' := by
  have HS := Lib.hid hS
  have HE := Lib.hid hE
  have HC := Lib.hid hc
  clear hS hE hc
  go_enter Tryd.func3, Tryd.ntmps3
  have hw60 : ((Int.tmod c 60).natAbs : Int) ≤ 59 ∧ (Int.tmod c 60 < 0 → wrap64 (-Int.tmod c 60) = ((Int.tmod c 60).natAbs : Int)) ∧ (¬ Int.tmod c 60 < 0 → Int.tmod c 60 = ((Int.tmod c 60).natAbs : Int)) := by
    have h1 := Int.tmod_lt_of_pos c (show (0 : Int) < 60 by decide)
    have h2 := Int.lt_tmod_of_pos c (show (0 : Int) < 60 by decide)
    unfold wrap64
    omega
  obtain ⟨n, hn⟩ : ∃ n, n = (Int.tmod c 60).natAbs := ⟨_, rfl⟩
  rw [← hn] at hw60
  have HN := Lib.hid hw60
  clear hw60 hn
  go_upto_if 17 with fail
  go_cut [5] (fun v wx => v = .int .i64 (n : Int) ∧ wx = w)
  case first =>
    go_wp2
    all_goals
      go_meet
      first
        | exact ⟨by rw [HN.out.2.1 (by assumption)], rfl⟩
        | exact ⟨by rw [← HN.out.2.2 (by assumption)], rfl⟩
  case rest =>
    obtain ⟨rfl, rfl⟩ := hcut
    have hn : n ≤ 59 := by have := HN.out.1; omega
    go_wp2
    go_loopw [7, 8] (fun q i wr => ∃ k : Nat, k ≤ n ∧ i = .int .i64 (k : Int) ∧ q = .string (cm k) ∧ wr = wc) (fun _ i _ => (n - intOf i).toNat)
    case atStart => exact ⟨0, by omega, rfl, rfl, rfl⟩
    case round =>
      obtain ⟨k, hk, rfl, rfl, rfl⟩ := hrel
      by_cases hkn : k < n
      · have e1 : decide ((k : Int) < (n : Int)) = true := by simp; omega
        have q1 : ¬ 9223372036854775807 < (cm k).size + 1 := by rw [cm_size]; omega
        have hm := cm_more k
        go_wp2
        go_roundw
        case rel => exact ⟨k + 1, by omega, by go_num, rfl, trivial⟩
        case measure => simp [intOf]; omega
      · have e1 : decide ((k : Int) < (n : Int)) = false := by simp; omega
        obtain rfl : k = n := by omega
        clear hkn hk
        go_wp2
        go_loopw [6, 9, 10, 11] (fun q b i y wr' => ∃ j : Nat, j ≤ t.size ∧ i = .int .i64 (j : Int) ∧ q = .string (qb ((L8 t).take j)) ∧ b = bv (bad ((L8 t).take j)) ∧ wr' = wr) (fun _ _ i _ _ => (t.size - intOf i).toNat)
        case atStart => exact ⟨0, by omega, rfl, rfl, rfl, rfl⟩
        case round =>
          obtain ⟨j, hj, rfl, rfl, rfl, rfl⟩ := hrel
          by_cases hjn : j < t.size
          · have e2 : decide ((j : Int) < (t.size : Int)) = true := by simp; omega
            have hz : ¬ (L8 t).length ≤ j := by rw [L8_len]; omega
            have hsl := fun wx : World => slice_one t j hjn wx
            have hq := qb_size ((L8 t).take j)
            have hlt : ((L8 t).take j).length ≤ j := by rw [List.length_take]; omega
            have s1 : ¬ 9223372036854775807 < (qb ((L8 t).take j)).size + 1 := by omega
            have s2 : ¬ 9223372036854775807 < (qb ((L8 t).take j)).size + 1 + 1 := by omega
            have hqm := qb_more ((L8 t).take j) t[j]
            have hqq : t[j] = 34 → qb ((L8 t).take j) ++ ⟨#[t[j]]⟩ ++ ⟨#[34]⟩ = qb ((L8 t).take j ++ [t[j]]) := fun e => by rw [e]; exact qb_quote _
            have htk := take_one t j hjn
            clear hq hlt
            cases hb : bad ((L8 t).take j) with
            | some p =>
              have hb1 : bv (bad ((L8 t).take (j + 1))) = .int .i64 (p : Int) := by rw [htk, bad_snoc, hb]; rfl
              have e3 : decide ((p : Int) < 0) = false := by simp
              simp only [bv]
              by_cases h34 : t[j] = 34
              · have g34 : ((t[j].toNat : Int) == 34) = true := by rw [h34]; rfl
                have HQ := Lib.hid (hqq h34)
                clear hqm hqq h34 hb
                go_wp2
                go_roundw
                case rel => exact ⟨j + 1, by omega, by go_num, by rw [htk]; exact congrArg Value.string HQ.out, hb1.symm, trivial⟩
                case measure => simp [intOf]; omega
              · have g34 : ((t[j].toNat : Int) == 34) = false := byte_ne (k := 34) h34
                have HQ := Lib.hid (hqm h34)
                clear hqm hqq h34 hb
                go_wp2
                go_roundw
                case rel => exact ⟨j + 1, by omega, by go_num, by rw [htk]; exact congrArg Value.string HQ.out, hb1.symm, trivial⟩
                case measure => simp [intOf]; omega
            | none =>
              have hbT : okB t[j] = true → bv (bad ((L8 t).take (j + 1))) = .int .i64 (-1) := fun ho => by rw [htk, bad_snoc, hb, if_neg (by rw [ho]; decide)]; rfl
              have hbF : okB t[j] = false → bv (bad ((L8 t).take (j + 1))) = .int .i64 (j : Int) := fun ho => by rw [htk, bad_snoc, hb, if_pos ho, List.length_take, Nat.min_eq_left (by rw [L8_len]; omega)]; rfl
              have e3 : decide ((-1 : Int) < 0) = true := by decide
              simp only [bv]
              clear hb
              rcases okB_cases t[j] with ⟨h1, ho, h34⟩ | ⟨h1, h2, h3, h4, h5, ho, h34⟩ | ⟨h1, ho, h34⟩ | ⟨h1, ho, h34⟩ | ⟨h1, ho, h34⟩ | ⟨h1, ho, h34⟩ | ⟨h1, h2, h3, ho, h34⟩
              · have g1 : ((t[j].toNat : Int) == 127) = true := by simp; omega
                have g6 : ((t[j].toNat : Int) == 34) = false := by simp; omega
                have HQ := Lib.hid (hqm h34)
                have HBv := Lib.hid (hbF ho)
                clear hqm hqq h34 hbT hbF ho h1
                go_wp2
                go_roundw
                case rel => exact ⟨j + 1, by omega, by go_num, by rw [htk]; exact congrArg Value.string HQ.out, HBv.out.symm, trivial⟩
                case measure => simp [intOf]; omega
              · have g1 : ((t[j].toNat : Int) == 127) = false := by simp; omega
                have g2 : decide ((t[j].toNat : Int) < 32) = true := by simp; omega
                have g3 : ((t[j].toNat : Int) != 9) = true := by simp; omega
                have g4 : ((t[j].toNat : Int) != 10) = true := by simp; omega
                have g5 : ((t[j].toNat : Int) != 13) = true := by simp; omega
                have g6 : ((t[j].toNat : Int) == 34) = false := by simp; omega
                have HQ := Lib.hid (hqm h34)
                have HBv := Lib.hid (hbF ho)
                clear hqm hqq h34 hbT hbF ho h1
                go_wp2
                go_roundw
                case rel => exact ⟨j + 1, by omega, by go_num, by rw [htk]; exact congrArg Value.string HQ.out, HBv.out.symm, trivial⟩
                case measure => simp [intOf]; omega
              · have g1 : ((t[j].toNat : Int) == 127) = false := by simp; omega
                have g2 : decide ((t[j].toNat : Int) < 32) = true := by simp; omega
                have g3 : ((t[j].toNat : Int) != 9) = false := by simp; omega
                have g6 : ((t[j].toNat : Int) == 34) = false := by simp; omega
                have HQ := Lib.hid (hqm h34)
                have HBv := Lib.hid (hbT ho)
                clear hqm hqq h34 hbT hbF ho h1
                go_wp2
                go_roundw
                case rel => exact ⟨j + 1, by omega, by go_num, by rw [htk]; exact congrArg Value.string HQ.out, HBv.out.symm, trivial⟩
                case measure => simp [intOf]; omega
              · have g1 : ((t[j].toNat : Int) == 127) = false := by simp; omega
                have g2 : decide ((t[j].toNat : Int) < 32) = true := by simp; omega
                have g3 : ((t[j].toNat : Int) != 9) = true := by simp; omega
                have g4 : ((t[j].toNat : Int) != 10) = false := by simp; omega
                have g6 : ((t[j].toNat : Int) == 34) = false := by simp; omega
                have HQ := Lib.hid (hqm h34)
                have HBv := Lib.hid (hbT ho)
                clear hqm hqq h34 hbT hbF ho h1
                go_wp2
                go_roundw
                case rel => exact ⟨j + 1, by omega, by go_num, by rw [htk]; exact congrArg Value.string HQ.out, HBv.out.symm, trivial⟩
                case measure => simp [intOf]; omega
              · have g1 : ((t[j].toNat : Int) == 127) = false := by simp; omega
                have g2 : decide ((t[j].toNat : Int) < 32) = true := by simp; omega
                have g3 : ((t[j].toNat : Int) != 9) = true := by simp; omega
                have g4 : ((t[j].toNat : Int) != 10) = true := by simp; omega
                have g5 : ((t[j].toNat : Int) != 13) = false := by simp; omega
                have g6 : ((t[j].toNat : Int) == 34) = false := by simp; omega
                have HQ := Lib.hid (hqm h34)
                have HBv := Lib.hid (hbT ho)
                clear hqm hqq h34 hbT hbF ho h1
                go_wp2
                go_roundw
                case rel => exact ⟨j + 1, by omega, by go_num, by rw [htk]; exact congrArg Value.string HQ.out, HBv.out.symm, trivial⟩
                case measure => simp [intOf]; omega
              · have g1 : ((t[j].toNat : Int) == 127) = false := by simp; omega
                have g2 : decide ((t[j].toNat : Int) < 32) = false := by simp; omega
                have g6 : ((t[j].toNat : Int) == 34) = true := by simp; omega
                have HQ := Lib.hid (hqq h34)
                have HBv := Lib.hid (hbT ho)
                clear hqm hqq h34 hbT hbF ho h1
                go_wp2
                go_roundw
                case rel => exact ⟨j + 1, by omega, by go_num, by rw [htk]; exact congrArg Value.string HQ.out, HBv.out.symm, trivial⟩
                case measure => simp [intOf]; omega
              · have g1 : ((t[j].toNat : Int) == 127) = false := by simp; omega
                have g2 : decide ((t[j].toNat : Int) < 32) = false := by simp; omega
                have g6 : ((t[j].toNat : Int) == 34) = false := by simp; omega
                have HQ := Lib.hid (hqm h34)
                have HBv := Lib.hid (hbT ho)
                clear hqm hqq h34 hbT hbF ho h1
                go_wp2
                go_roundw
                case rel => exact ⟨j + 1, by omega, by go_num, by rw [htk]; exact congrArg Value.string HQ.out, HBv.out.symm, trivial⟩
                case measure => simp [intOf]; omega
          · have e2 : decide ((j : Int) < (t.size : Int)) = false := by simp; omega
            obtain rfl : j = t.size := by omega
            have hall : (L8 t).take t.size = L8 t := List.take_of_length_le (by rw [L8_len]; omega)
            rw [hall]
            have hP : Calls Tryd.prog 7 #[.string (cm k ++ qb (L8 t) ++ tail)] wr fun e w' => ∃ vl ve, e = .returned (.tuple #[vl, ve]) ∧ GoodRows wr.heap.size w' vl (parseO (Qt k (L8 t))).1 ∧ FaultAt w' wr.heap.size A ve (parseO (Qt k (L8 t))).2 ∧ Below wr.heap.size wr w' := by
              have z1 := qb_size (L8 t)
              rw [L8_len] at z1
              have z2 := cm_size k
              have h := parse_r wr HS.out HE.out (cm k ++ qb (L8 t) ++ tail) (by rw [ByteArray.size_append, ByteArray.size_append]; show _ + _ + 5 ≤ _; omega)
              have e : (cm k ++ qb (L8 t) ++ tail).data.toList = Qt k (L8 t) := qt_eq k (L8 t)
              unfold Parsed at h
              rw [e] at h
              exact h
            have z1 := qb_size (L8 t)
            rw [L8_len] at z1
            have s1 : ¬ 9223372036854775807 < (cm k).size + (qb (L8 t)).size := by rw [cm_size]; omega
            have s2 : ¬ 9223372036854775807 < (cm k).size + (qb (L8 t)).size + 5 := by rw [cm_size]; omega
            clear z1 hall hjn hj
            obtain ⟨o, ho⟩ : ∃ o, o = parseO (Qt k (L8 t)) := ⟨_, rfl⟩
            rw [← ho] at hP
            have hT := told_of k (by omega) (L8 t)
            rw [← ho] at hT
            have HP := Lib.hid hP
            have hc4 : coded 4 := cod (by omega)
            have hc5 : coded 5 := cod (by omega)
            clear ho hP
            rcases hT with ⟨p, x, y, hb, hp, h1⟩ | ⟨x, y, e, hb, hl, he, h1⟩ | ⟨hb, hl, h1⟩
            · rw [hb]
              simp only [bv]
              have g1 : decide ((p : Int) ≥ 0) = true := by simp
              have g2 : decide ((p : Int) < 4096) = true := by simp; omega
              have H1 := Lib.hid h1
              have HC := Lib.hid hc4
              clear h1 hb hc4 hc5
              go_wp2_with (first
                | (go_at_call 7; (with_reducible refine HP.out.mono ?_); rintro ev w1 ⟨vl, ve, rfl, hg, hf, hb1⟩; rw [H1.out] at hf hg; obtain ⟨hcd, g, _, rfl, hgc⟩ := hf; obtain ⟨A1, c1, rfl⟩ := no_rows hg; have HB1 := Lib.hid hb1; have hs1 := HS.out.below HB1.out; have hv4 : w1.cell? ⟨0, 0, none⟩ = some (errV A 4) := hs1.hv 4 HC.out; have HIs := Lib.hid (is_coded A g 4 4 _ _ w1 hs1 hcd HC.out hgc); clear hg hb1 hgc hcd hs1)
                | (go_at_call 8; (with_reducible refine HIs.out.mono ?_); rintro ev w2 ⟨rfl, rfl⟩))
              go_ret
              exact ⟨rfl, HB1.out⟩
            · have H1 := Lib.hid h1
              have g3 : decide ((t.size : Int) > 4096) = true := by rw [L8_len] at hl; simp; omega
              have H4 := Lib.hid hc4
              have H5 := Lib.hid hc5
              have HE45 := Lib.hid he
              clear h1 hl hc4 hc5
              cases hbd : bad (L8 t) with
              | none =>
                simp only [bv]
                have g1 : decide ((-1 : Int) ≥ 0) = false := by decide
                clear hbd hb
                rcases he with rfl | rfl
                · go_wp2_with (first
                    | (go_at_call 7; (with_reducible refine HP.out.mono ?_); rintro ev w1 ⟨vl, ve, rfl, hg, hf, hb1⟩; rw [H1.out] at hf hg; obtain ⟨hcd, g, _, rfl, hgc⟩ := hf; obtain ⟨A1, c1, rfl⟩ := no_rows hg; have HB1 := Lib.hid hb1; have hs1 := HS.out.below HB1.out; have hv4 : w1.cell? ⟨0, 0, none⟩ = some (errV A 4) := hs1.hv 4 H4.out; have hv5 : w1.cell? ⟨1, 0, none⟩ = some (errV A 5) := hs1.hv 5 H5.out; have HI4 := Lib.hid (is_coded A g 4 4 _ _ w1 hs1 hcd H4.out hgc); have HI5 := Lib.hid (is_coded A g 4 5 _ _ w1 hs1 hcd H5.out hgc); clear hg hb1 hgc hcd hs1)
                    | (go_at_call 8; (with_reducible refine HI5.out.mono ?_); rintro ev w2 ⟨rfl, rfl⟩)
                    | (go_at_call 8; (with_reducible refine HI4.out.mono ?_); rintro ev w2 ⟨rfl, rfl⟩))
                  go_ret
                  exact ⟨rfl, HB1.out⟩
                · go_wp2_with (first
                    | (go_at_call 7; (with_reducible refine HP.out.mono ?_); rintro ev w1 ⟨vl, ve, rfl, hg, hf, hb1⟩; rw [H1.out] at hf hg; obtain ⟨hcd, g, _, rfl, hgc⟩ := hf; obtain ⟨A1, c1, rfl⟩ := no_rows hg; have HB1 := Lib.hid hb1; have hs1 := HS.out.below HB1.out; have hv4 : w1.cell? ⟨0, 0, none⟩ = some (errV A 4) := hs1.hv 4 H4.out; have hv5 : w1.cell? ⟨1, 0, none⟩ = some (errV A 5) := hs1.hv 5 H5.out; have HI4 := Lib.hid (is_coded A g 5 4 _ _ w1 hs1 hcd H4.out hgc); have HI5 := Lib.hid (is_coded A g 5 5 _ _ w1 hs1 hcd H5.out hgc); clear hg hb1 hgc hcd hs1)
                    | (go_at_call 8; (with_reducible refine HI5.out.mono ?_); rintro ev w2 ⟨rfl, rfl⟩)
                    | (go_at_call 8; (with_reducible refine HI4.out.mono ?_); rintro ev w2 ⟨rfl, rfl⟩))
                  go_ret
                  exact ⟨rfl, HB1.out⟩
              | some p =>
                have hp := hb p hbd
                simp only [bv]
                have g1 : decide ((p : Int) ≥ 0) = true := by simp
                have g2 : decide ((p : Int) < 4096) = false := by simp; omega
                clear hbd hb hp
                rcases he with rfl | rfl
                · go_wp2_with (first
                    | (go_at_call 7; (with_reducible refine HP.out.mono ?_); rintro ev w1 ⟨vl, ve, rfl, hg, hf, hb1⟩; rw [H1.out] at hf hg; obtain ⟨hcd, g, _, rfl, hgc⟩ := hf; obtain ⟨A1, c1, rfl⟩ := no_rows hg; have HB1 := Lib.hid hb1; have hs1 := HS.out.below HB1.out; have hv4 : w1.cell? ⟨0, 0, none⟩ = some (errV A 4) := hs1.hv 4 H4.out; have hv5 : w1.cell? ⟨1, 0, none⟩ = some (errV A 5) := hs1.hv 5 H5.out; have HI4 := Lib.hid (is_coded A g 4 4 _ _ w1 hs1 hcd H4.out hgc); have HI5 := Lib.hid (is_coded A g 4 5 _ _ w1 hs1 hcd H5.out hgc); clear hg hb1 hgc hcd hs1)
                    | (go_at_call 8; (with_reducible refine HI5.out.mono ?_); rintro ev w2 ⟨rfl, rfl⟩)
                    | (go_at_call 8; (with_reducible refine HI4.out.mono ?_); rintro ev w2 ⟨rfl, rfl⟩))
                  go_ret
                  exact ⟨rfl, HB1.out⟩
                · go_wp2_with (first
                    | (go_at_call 7; (with_reducible refine HP.out.mono ?_); rintro ev w1 ⟨vl, ve, rfl, hg, hf, hb1⟩; rw [H1.out] at hf hg; obtain ⟨hcd, g, _, rfl, hgc⟩ := hf; obtain ⟨A1, c1, rfl⟩ := no_rows hg; have HB1 := Lib.hid hb1; have hs1 := HS.out.below HB1.out; have hv4 : w1.cell? ⟨0, 0, none⟩ = some (errV A 4) := hs1.hv 4 H4.out; have hv5 : w1.cell? ⟨1, 0, none⟩ = some (errV A 5) := hs1.hv 5 H5.out; have HI4 := Lib.hid (is_coded A g 5 4 _ _ w1 hs1 hcd H4.out hgc); have HI5 := Lib.hid (is_coded A g 5 5 _ _ w1 hs1 hcd H5.out hgc); clear hg hb1 hgc hcd hs1)
                    | (go_at_call 8; (with_reducible refine HI5.out.mono ?_); rintro ev w2 ⟨rfl, rfl⟩)
                    | (go_at_call 8; (with_reducible refine HI4.out.mono ?_); rintro ev w2 ⟨rfl, rfl⟩))
                  go_ret
                  exact ⟨rfl, HB1.out⟩
            · rw [hb]
              simp only [bv]
              have g1 : decide ((-1 : Int) ≥ 0) = false := by decide
              have g3 : decide ((t.size : Int) > 4096) = false := by rw [L8_len] at hl; simp; omega
              have H1 := Lib.hid h1
              clear h1 hl hb hc4 hc5
              go_wp2_with (go_at_call 7; (with_reducible refine HP.out.mono ?_); rintro ev w1 ⟨vl, ve, rfl, hg, hf, hb1⟩; rw [H1.out] at hf hg; obtain rfl : ve = .nilIface := hf; obtain ⟨g, cap, g', cap', rfl, d1, d2, d3⟩ := good_one hg; have HB1 := Lib.hid hb1; clear hg hb1)
              go_ret
              exact ⟨rfl, HB1.out⟩
end Go.Proofs.YtinjlpodcabfaaaDoor.Sht.Qd

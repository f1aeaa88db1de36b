/- What the reference's find, parts, clock and zone come to, beside cal's. -/
import Derived.Test.YtiklakkkgmilnaaDoorCalInstX
import Derived.Test.YtiklakkkgmilnaaDoorCalShapeR
import Derived.Test.YtiklakkkgmilnaaDoorGCr
import Derived.Test.YtiklakkkgmilnaaDoorGCxf67
set_option linter.unusedVariables false
set_option linter.unusedSimpArgs false
namespace Go.Proofs.YtiklakkkgmilnaaDoor.CalP
open Go.RowKit Go.IntWalk Go.Proofs.YtiklakkkgmilnaaDoorW.PrintWords Go.Proofs.YtiklakkkgmilnaaDoor.Ext Go.Proofs.YtiklakkkgmilnaaDoor.PCal Go.Proofs.YtiklakkkgmilnaaDoor.GC

theorem bt_lt (s : ByteArray) (i : Nat) (h : i < s.size) : bt s i = ((s[i]'h).toNat : Int) := (bt_at s i h).symm
theorem data_at (s : ByteArray) (i : Nat) (h : i < s.size) : s.data.toList[i]? = some (s[i]'h) := Lib.data_getElem? s i h
theorem data_len (s : ByteArray) : s.data.toList.length = s.size := by simp
theorem ext_list (s : ByteArray) (a b : Nat) : (s.extract a b).data.toList = (s.data.toList.take b).drop a := by
  rw [ByteArray.data_extract, Array.toList_extract]
  simp [List.extract_eq_take_drop, List.drop_take]
theorem ext_tail (s : ByteArray) (a : Nat) : (s.extract a s.size).data.toList = s.data.toList.drop a := by
  rw [ext_list, List.take_of_length_le (by rw [data_len]; exact Nat.le_refl _)]
theorem ba_ext {a b : ByteArray} (h : a.data.toList = b.data.toList) : a = b := ByteArray.ext (Array.ext' h)
theorem ext_ext (s : ByteArray) (a k : Nat) : (s.extract a s.size).extract 0 k = s.extract a (a + k) := by
  apply ba_ext
  rw [ext_list, ext_tail, ext_list, List.drop_zero, List.take_drop]
theorem ext_ext2 (s : ByteArray) (a k n : Nat) (hn : n = (s.extract a s.size).size) : (s.extract a s.size).extract k n = s.extract (a + k) s.size := by
  subst hn
  apply ba_ext
  rw [ext_tail, ext_tail, ext_tail, List.drop_drop]
/-- the bytes of C have one that equals -/
theorem cont_iff (C : ByteArray) (b : UInt8) : C.data.toList.contains b = true ↔ ∃ x : Nat, x < C.size ∧ (b.toNat : Int) = bt C x := by
  rw [List.contains_iff_mem, List.mem_iff_getElem]
  constructor
  · rintro ⟨x, hx, e⟩
    have hx' : x < C.size := by rw [← data_len]; exact hx
    refine ⟨x, hx', ?_⟩
    rw [bt_lt C x hx', ← e]; rfl
  · rintro ⟨x, hx, e⟩
    refine ⟨x, by rw [data_len]; exact hx, ?_⟩
    rw [bt_lt C x hx] at e
    have : b = C[x] := UInt8.toNat_inj.1 (by omega)
    rw [this]; rfl
theorem find_no (s C : ByteArray) (hs : s.size ≤ 1000) (hC : C.size ≤ 1000) (i : Nat) (hi : i < s.size) : ∀ (m j k : Nat), j + m = C.size → (∀ x : Nat, j ≤ x → x < C.size → bt s i ≠ bt C x) →
    larderref03_find.l1 (k + m + 1) s C i j = larderref03_find.l0 k s C ((i + 1 : Nat) : Int) := by
  intro m
  induction m with
  | zero =>
    intro j k hj _
    rw [larderref03_find.l1, if_neg (by omega), wS (by omega)]; rfl
  | succ m ih =>
    intro j k hj h
    have := ih (j + 1) k (by omega) (fun x a b => h x (by omega) b)
    rw [show k + (m + 1) + 1 = (k + m + 1) + 1 by omega, larderref03_find.l1, if_pos (by omega), if_pos (by omega), if_pos (by omega), if_pos (by omega), if_neg (h j (Nat.le_refl _) (by omega)), wS (by omega)]
    exact this
theorem find_yes (s C : ByteArray) (hs : s.size ≤ 1000) (hC : C.size ≤ 1000) (i : Nat) (hi : i < s.size) (x0 : Nat) (h0 : x0 < C.size) (he : bt s i = bt C x0) : ∀ (m j k : Nat), j + m = C.size → j ≤ x0 →
    larderref03_find.l1 (k + m + 1) s C i j = some (i : Int) := by
  intro m
  induction m with
  | zero => intro j k hj hx; omega
  | succ m ih =>
    intro j k hj hx
    rw [show k + (m + 1) + 1 = (k + m + 1) + 1 by omega, larderref03_find.l1, if_pos (by omega), if_pos (by omega), if_pos (by omega), if_pos (by omega)]
    by_cases e : bt s i = bt C j
    · rw [if_pos e]
    · have : j ≠ x0 := by rintro rfl; exact e he
      rw [if_neg e, wS (by omega)]
      exact ih (j + 1) k (by omega) (by omega)
theorem find_l0 (s C : ByteArray) (hs : s.size ≤ 1000) (hC : C.size ≤ 1000) (c : Nat) (hc : c = C.size + 2) : ∀ (n i k : Nat), i + n = s.size → c * n + 1 ≤ k →
    larderref03_find.l0 k s C i = some (if Lib.indexAny (s.data.toList.drop i) C.data.toList < 0 then (s.size : Int) else i + Lib.indexAny (s.data.toList.drop i) C.data.toList) := by
  intro n
  induction n with
  | zero =>
    intro i k hi hk
    obtain ⟨k, rfl⟩ : ∃ q, k = q + 1 := ⟨k - 1, by omega⟩
    rw [larderref03_find.l0, if_neg (by omega), List.drop_of_length_le (by rw [data_len]; omega)]
    rfl
  | succ n ih =>
    intro i k hi hk
    rw [Nat.mul_succ] at hk
    obtain ⟨k, rfl⟩ : ∃ q, k = (q + C.size + 1) + 1 := ⟨k - C.size - 2, by omega⟩
    have hl : i < s.data.toList.length := by rw [data_len]; omega
    have hlt : i < s.size := by omega
    have ge := Lib.indexAny_ge C.data.toList (s.data.toList.drop (i + 1))
    have hb : (s.data.toList[i]'hl).toNat = bt s i := by rw [bt_lt s i hlt]; rfl
    rw [larderref03_find.l0, if_pos (by omega), List.drop_eq_getElem_cons hl, Lib.indexAny]
    cases h : C.data.toList.contains (s.data.toList[i]'hl) with
    | true =>
      obtain ⟨x, hx, e⟩ := (cont_iff C _).1 h
      have := find_yes s C hs hC i hlt x hx (by rw [← hb]; exact e) C.size 0 k (by omega) (by omega)
      simp only [↓reduceIte]
      rw [if_neg (show ¬ (0 : Int) < 0 by omega), Int.add_zero]; exact this
    | false =>
      have h' : ∀ x : Nat, 0 ≤ x → x < C.size → bt s i ≠ bt C x := by
        intro x _ hx e
        have := (cont_iff C (s.data.toList[i]'hl)).2 ⟨x, hx, by rw [hb]; exact e⟩
        rw [h] at this; cases this
      have := find_no s C hs hC i hlt C.size 0 k (by omega) h'
      refine Eq.trans this ?_
      rw [ih (i + 1) k (by omega) (by omega)]
      simp only [Bool.false_eq_true, if_false]
      by_cases e : Lib.indexAny (s.data.toList.drop (i + 1)) C.data.toList = -1
      · rw [e]; rfl
      · have e' : (Lib.indexAny (s.data.toList.drop (i + 1)) C.data.toList == -1) = false := beq_eq_false_iff_ne.2 e
        rw [e']
        simp only [Bool.false_eq_true, if_false]
        rw [if_neg (by omega), if_neg (by omega)]
        exact congrArg some (by omega)
theorem find_eq (k : Nat) (s C : ByteArray) (hs : s.size ≤ 64) (hC : C.size ≤ 3) (a : Nat) (ha : a ≤ s.size) (hk : 1000 ≤ k) :
    larderref03_find.f k s a C = some (if Lib.indexAny (s.data.toList.drop a) C.data.toList < 0 then (s.size : Int) else a + Lib.indexAny (s.data.toList.drop a) C.data.toList) := by
  refine find_l0 s C (by omega) (by omega) (C.size + 2) rfl (s.size - a) a k (by omega) ?_
  have h1 : (C.size + 2) * (s.size - a) ≤ 5 * 64 := Nat.mul_le_mul (by omega) (by omega)
  omega
theorem ia_one : ∀ (l : List UInt8) (c : UInt8), Lib.indexAny l [c] = Lib.indexByte l c
  | [], c => rfl
  | b :: l, c => by
    have e : ([c] : List UInt8).contains b = (b == c) := by simp only [List.contains_cons, List.contains_nil, Bool.or_false]
    rw [Lib.indexAny, Lib.indexByte, ia_one l c, e]
/-- H lies in S from o on, at its end -/
structure At (S : ByteArray) (o : Nat) (H : ByteArray) : Prop where
  size : S.size = o + H.size
  byte : ∀ p : Nat, p < H.size → bt S ((o + p : Nat) : Int) = bt H p
theorem At.mk' (s : ByteArray) (a b : Nat) (hab : a ≤ b) (hb : b ≤ s.size) : At (s.extract 0 b) a (s.extract a b) := by
  refine ⟨by rw [ByteArray.size_extract, ByteArray.size_extract]; omega, fun p hp => ?_⟩
  rw [ByteArray.size_extract] at hp
  rw [bt_ext s 0 b (a + p) (by omega) hb, bt_ext s a b p (by omega) hb, Nat.zero_add]
theorem At.tail (s : ByteArray) (a : Nat) (ha : a ≤ s.size) : At s a (s.extract a s.size) := by
  refine ⟨by rw [ByteArray.size_extract]; omega, fun p hp => ?_⟩
  rw [ByteArray.size_extract] at hp
  rw [bt_ext s a s.size p (by omega) (Nat.le_refl _)]
section
variable {S H : ByteArray} {o : Nat}
theorem At.nmv (h : At S o H) (a : Nat) : ∀ n : Nat, a + n ≤ H.size → nmv S (o + a) n = CalP.nmv H a n := by
  intro n
  induction n with
  | zero => intro _; rfl
  | succ n ih =>
    intro hn
    rw [CalP.nmv, CalP.nmv, ih (by omega), ← h.byte (a + n) (by omega), Nat.add_assoc]
theorem At.num (h : At S o H) (hs : S.size ≤ 1000) (a : Nat) (ha : a + 2 ≤ H.size) (hd : ∀ j : Nat, a ≤ j → j < a + 2 → 48 ≤ bt H j ∧ bt H j ≤ 57) (k : Nat) (hk : 16 ≤ k) : larderref03_num.f k S ((o + a : Nat) : Int) 2 = some (CalP.nmv H a 2) := by
  have := rnum_eq k S (o + a) 2 (by have := h.size; omega) (by omega) (by omega) (fun j j1 j2 => by
    obtain ⟨p, rfl⟩ : ∃ p, j = o + p := ⟨j - o, by omega⟩
    rw [h.byte p (by omega)]
    exact hd p (by omega) (by omega)) hk
  rw [h.nmv a 2 ha] at this
  exact this
theorem parts_dig (h : At S o H) (hs : S.size ≤ 1000) (a : Nat) (ha : a + 2 ≤ H.size) (hd : ∀ j : Nat, a ≤ j → j < a + 2 → 48 ≤ bt H j ∧ bt H j ≤ 57) (k : Nat) (hk : 16 ≤ k) (v p : List Int) (hv : v.length ≤ 10) (hp : p.length ≤ 10) :
    larderref03_parts.l0 (k + 1) S ((o + a : Nat) : Int) v p = larderref03_parts.l0 k S ((o + (a + 2) : Nat) : Int) (v ++ [CalP.nmv H a 2]) (p ++ [((o + a : Nat) : Int)]) := by
  have hz := h.size
  have d0 := hd a (Nat.le_refl _) (by omega)
  have hb := h.byte a (by omega)
  rw [larderref03_parts.l0, if_pos (by omega), if_pos (by omega), if_neg (by rw [hb]; omega), h.num hs a ha hd k hk]
  simp only [Option.bind_some]
  rw [if_pos (by omega), if_pos (by omega), show wrap64 (((o + a : Nat) : Int) + 2) = ((o + (a + 2) : Nat) : Int) by unfold wrap64; omega]
theorem parts_col (h : At S o H) (hs : S.size ≤ 1000) (a : Nat) (ha : a + 3 ≤ H.size) (hc : bt H a = 58) (hd : ∀ j : Nat, a + 1 ≤ j → j < a + 3 → 48 ≤ bt H j ∧ bt H j ≤ 57) (k : Nat) (hk : 16 ≤ k) (v p : List Int) (hv : v.length ≤ 10) (hp : p.length ≤ 10) :
    larderref03_parts.l0 (k + 1) S ((o + a : Nat) : Int) v p = larderref03_parts.l0 k S ((o + (a + 3) : Nat) : Int) (v ++ [CalP.nmv H (a + 1) 2]) (p ++ [((o + (a + 1) : Nat) : Int)]) := by
  have hz := h.size
  have hb := h.byte a (by omega)
  have e1 : wrap64 (((o + a : Nat) : Int) + 1) = ((o + (a + 1) : Nat) : Int) := by unfold wrap64; omega
  rw [larderref03_parts.l0, if_pos (by omega), if_pos (by omega), if_pos (by rw [hb]; exact hc), e1, h.num hs (a + 1) (by omega) hd k hk]
  simp only [Option.bind_some]
  rw [if_pos (by omega), if_pos (by omega), show wrap64 (((o + (a + 1) : Nat) : Int) + 2) = ((o + (a + 3) : Nat) : Int) by unfold wrap64; omega]
theorem parts_end (h : At S o H) (a : Nat) (ha : a = H.size) (k : Nat) (v p : List Int) : larderref03_parts.l0 (k + 1) S ((o + a : Nat) : Int) v p = some (v, p) := by
  have hz := h.size
  rw [larderref03_parts.l0, if_neg (by omega)]
end
/-- a byte that a shape names -/
theorem col_of {s h : ByteArray} (hf : fit s h = h.size) (a : Nat) (hb : a < h.size) (hc : bt h a = 58) : bt s a = 58 := by
  have m := (fit_le s h).2.2 a (by omega)
  unfold CalP.mt at m
  rw [hc, if_neg (by omega), if_neg (by omega)] at m
  exact of_decide_eq_true m
theorem rclk3 (k : Nat) (o a b c p0 p1 p2 : Int) (ha : 0 ≤ a ∧ a ≤ 99) (hb : 0 ≤ b ∧ b ≤ 99) (hc : 0 ≤ c ∧ c ≤ 99) : larderref03_clock.l0 (k + 2) o [a, b, c] [p0, p1, p2] =
    some (if 24 < a then (0, p0, false) else if a = 24 ∧ 0 < b + c then (0, p0, false) else if 59 < b then (0, p1, false) else if 59 < c then (0, p2, false) else (a * 3600 + b * 60 + c, 0, true)) := by
  have r0 : rd [a, b, c] 0 = a := rfl
  have r1 : rd [a, b, c] 1 = b := rfl
  have r2 : rd [a, b, c] 2 = c := rfl
  have q0 : rd [p0, p1, p2] 0 = p0 := rfl
  have q1 : rd [p0, p1, p2] 1 = p1 := rfl
  have q2 : rd [p0, p1, p2] 2 = p2 := rfl
  have l3 : (([a, b, c] : List Int).length : Int) = 3 := rfl
  have m3 : (([p0, p1, p2] : List Int).length : Int) = 3 := rfl
  have j1 : ∀ (x : Bool), larderref03_clock.j1 (k + 1) [a, b, c] [p0, p1, p2] x = some (if x = true then (0, p0, false) else if 59 < b then (0, p1, false) else if 59 < c then (0, p2, false) else (a * 3600 + b * 60 + c, 0, true)) := by
    intro x
    rw [larderref03_clock.j1, l3, m3, r0, r1, r2, q0, q1, q2]
    cases x
    · rw [if_neg Bool.false_ne_true, if_neg Bool.false_ne_true, if_pos (by omega)]
      by_cases h1 : 59 < b
      · rw [if_pos h1, if_pos h1, if_pos (by omega)]
      · rw [if_neg h1, if_neg h1, if_pos (by omega)]
        by_cases h2 : 59 < c
        · rw [if_pos h2, if_pos h2, if_pos (by omega)]
        · rw [if_neg h2, if_neg h2, if_pos (by omega), show wrap64 (wrap64 (wrap64 (a * 3600) + wrap64 (b * 60)) + c) = a * 3600 + b * 60 + c by unfold wrap64; omega]
    · rw [if_pos rfl, if_pos rfl, if_pos (by omega)]
  rw [larderref03_clock.l0, l3, if_neg (by omega), if_pos (by omega), r0, r1, r2]
  by_cases h1 : 24 < a
  · rw [if_pos h1, j1, if_pos rfl, if_pos h1]
  · rw [if_neg h1, if_neg h1]
    by_cases h2 : a = 24
    · rw [if_pos h2, if_pos (by omega), if_pos (by omega), j1, show wrap64 (b + c) = b + c by unfold wrap64; omega]
      by_cases h3 : b + c > 0
      · rw [decide_eq_true h3, if_pos rfl, if_pos ⟨h2, h3⟩]
      · rw [decide_eq_false h3, if_neg Bool.false_ne_true, if_neg (show ¬ (a = 24 ∧ 0 < b + c) by omega)]
    · rw [if_neg h2, j1, if_neg Bool.false_ne_true, if_neg (show ¬ (a = 24 ∧ 0 < b + c) by omega)]
theorem rclk2 (k : Nat) (o a b p0 p1 : Int) : larderref03_clock.l0 (k + 1) o [a, b] [p0, p1] = larderref03_clock.l0 k o [a, b, 0] [p0, p1, o] := by
  rw [larderref03_clock.l0, if_pos (by show (2 : Int) < 3; omega), if_pos (by show 2 < 17592186044416; omega), if_pos (by show 2 < 17592186044416; omega)]; rfl
theorem rclk1 (k : Nat) (o a p0 : Int) : larderref03_clock.l0 (k + 1) o [a] [p0] = larderref03_clock.l0 k o [a, 0] [p0, o] := by
  rw [larderref03_clock.l0, if_pos (by show (1 : Int) < 3; omega), if_pos (by show 1 < 17592186044416; omega), if_pos (by show 1 < 17592186044416; omega)]; rfl
/-- the reference's answer of a clock, out of cal's -/
def rcOf (o : Int) (r : T3) : Int × Int × Bool := (r.1, if r.2.1 = true then 0 else o + r.2.2, r.2.1)
theorem rcOf_clk (o a b c g p0 p1 p2 : Int) (h0 : p0 = o) (h1 : 59 < b → p1 = o + g) (h2 : 59 < c → p2 = o + 2 * g) :
    (if 24 < a then (0, p0, false) else if a = 24 ∧ 0 < b + c then (0, p0, false) else if 59 < b then (0, p1, false) else if 59 < c then (0, p2, false) else (a * 3600 + b * 60 + c, 0, true)) = rcOf o (clkR a b c g) := by
  unfold clkR rcOf
  by_cases c1 : 24 < a
  · simp [c1, h0]
  by_cases c2 : a = 24 ∧ 0 < b + c
  · simp [c1, c2, h0]
  by_cases c3 : 59 < b
  · rw [if_neg c1, if_neg c2, if_pos c3, if_neg c1, if_neg c2, if_pos c3, h1 c3]; simp
  by_cases c4 : 59 < c
  · rw [if_neg c1, if_neg c2, if_neg c3, if_pos c4, if_neg c1, if_neg c2, if_neg c3, if_pos c4, h2 c4]; simp
  · rw [if_neg c1, if_neg c2, if_neg c3, if_neg c4, if_neg c1, if_neg c2, if_neg c3, if_neg c4]; simp
theorem nmv2_bd (H : ByteArray) (a : Nat) (hd : ∀ j : Nat, a ≤ j → j < a + 2 → 48 ≤ bt H j ∧ bt H j ≤ 57) : 0 ≤ CalP.nmv H a 2 ∧ CalP.nmv H a 2 ≤ 99 := by
  have := nmv_bd H a 2 hd
  omega
theorem rclock_eq {S H : ByteArray} {o : Nat} (h : At S o H) (hs : S.size ≤ 1000) (ext : Bool) (hok : 0 ≤ (shp H (if ext then CE else CB) 0 0).1) (k : Nat) (hk : 40 ≤ k) :
    larderref03_clock.f k S o = some (rcOf o (clockF H ext)) := by
  obtain ⟨k, rfl⟩ : ∃ q, k = q + 30 := ⟨k - 30, by omega⟩
  have e0 : ((o + 0 : Nat) : Int) = (o : Int) := rfl
  unfold larderref03_clock.f larderref03_parts.f
  cases ext
  · obtain ⟨j, hj, e1, e2, e3⟩ := shp_get H CB 0 0 hok
    have e : clockF H false = _ := if_neg (by show ¬ (shp H CB 0 0).1 < 0; have : 0 ≤ (shp H CB 0 0).1 := hok; omega)
    simp only [e1, Nat.zero_add, Bool.false_eq_true, if_true, if_false] at e
    have hj3 : j < 3 := hj
    match j, hj3 with
    | 0, _ =>
      have E : clockF H false = clkR (CalP.nmv H 0 2) 0 0 2 := e
      have hz : fit H ⟨#[100, 100]⟩ = 2 := e3
      have sz : H.size = 2 := by rw [← hz]; exact e2.symm
      have d0 := dig_of hz 0 2 (by decide) (by decide)
      have b0 := nmv2_bd H 0 d0
      rw [E, show (larderref03_parts.l0 (k + 30) S (o : Int) [] []) = larderref03_parts.l0 (k + 29 + 1) S ((o + 0 : Nat) : Int) [] [] from rfl, parts_dig h hs 0 (by omega) d0 _ (by omega) [] [] (by simp) (by simp), parts_end h 2 (by omega)]
      simp only [Option.bind_some, List.nil_append]
      rw [show k + 30 = k + 26 + 2 + 1 + 1 by omega, rclk1, rclk2, rclk3 _ _ _ _ _ _ _ _ b0 (by omega) (by omega), rcOf_clk _ _ _ _ 2 _ _ _ rfl (by omega) (by omega)]
      rfl
    | 1, _ =>
      have E : clockF H false = clkR (CalP.nmv H 0 2) (CalP.nmv H 2 2) 0 2 := e
      have hz : fit H ⟨#[100, 100, 100, 100]⟩ = 4 := e3
      have sz : H.size = 4 := by rw [← hz]; exact e2.symm
      have d0 := dig_of hz 0 2 (by decide) (by decide)
      have d1 := dig_of hz 2 4 (by decide) (by decide)
      have b0 := nmv2_bd H 0 d0
      have b1 := nmv2_bd H 2 d1
      rw [E, show (larderref03_parts.l0 (k + 30) S (o : Int) [] []) = larderref03_parts.l0 (k + 29 + 1) S ((o + 0 : Nat) : Int) [] [] from rfl, parts_dig h hs 0 (by omega) d0 _ (by omega) [] [] (by simp) (by simp),
        show k + 29 = k + 28 + 1 from rfl, parts_dig h hs (0 + 2) (by omega) d1 _ (by omega) _ _ (by simp) (by simp), parts_end h _ (by omega)]
      simp only [Option.bind_some, List.nil_append, List.cons_append, List.singleton_append]
      rw [show k + 30 = k + 27 + 2 + 1 by omega, rclk2, rclk3 _ _ _ _ _ _ _ _ b0 b1 (by omega), rcOf_clk _ _ _ _ 2 _ _ _ rfl (by intro _; omega) (by omega)]
      rfl
    | 2, _ =>
      have E : clockF H false = clkR (CalP.nmv H 0 2) (CalP.nmv H 2 2) (CalP.nmv H 4 2) 2 := e
      have hz : fit H ⟨#[100, 100, 100, 100, 100, 100]⟩ = 6 := e3
      have sz : H.size = 6 := by rw [← hz]; exact e2.symm
      have d0 := dig_of hz 0 2 (by decide) (by decide)
      have d1 := dig_of hz 2 4 (by decide) (by decide)
      have d2 := dig_of hz 4 6 (by decide) (by decide)
      have b0 := nmv2_bd H 0 d0
      have b1 := nmv2_bd H 2 d1
      have b2 := nmv2_bd H 4 d2
      rw [E, show (larderref03_parts.l0 (k + 30) S (o : Int) [] []) = larderref03_parts.l0 (k + 29 + 1) S ((o + 0 : Nat) : Int) [] [] from rfl, parts_dig h hs 0 (by omega) d0 _ (by omega) [] [] (by simp) (by simp),
        show k + 29 = k + 28 + 1 from rfl, parts_dig h hs (0 + 2) (by omega) d1 _ (by omega) _ _ (by simp) (by simp), show k + 28 = k + 27 + 1 from rfl, parts_dig h hs (0 + 2 + 2) (by omega) d2 _ (by omega) _ _ (by simp) (by simp), parts_end h _ (by omega)]
      simp only [Option.bind_some, List.nil_append, List.cons_append, List.singleton_append]
      rw [show k + 30 = k + 28 + 2 by omega, rclk3 _ _ _ _ _ _ _ _ b0 b1 b2, rcOf_clk _ _ _ _ 2 _ _ _ rfl (by intro _; omega) (by intro _; omega)]
      rfl
  · obtain ⟨j, hj, e1, e2, e3⟩ := shp_get H CE 0 0 hok
    have e : clockF H true = _ := if_neg (by show ¬ (shp H CE 0 0).1 < 0; have : 0 ≤ (shp H CE 0 0).1 := hok; omega)
    simp only [e1, Nat.zero_add, Bool.false_eq_true, if_true, if_false] at e
    have hj3 : j < 3 := hj
    match j, hj3 with
    | 0, _ =>
      have E : clockF H true = clkR (CalP.nmv H 0 2) 0 0 3 := e
      have hz : fit H ⟨#[100, 100]⟩ = 2 := e3
      have sz : H.size = 2 := by rw [← hz]; exact e2.symm
      have d0 := dig_of hz 0 2 (by decide) (by decide)
      have b0 := nmv2_bd H 0 d0
      rw [E, show (larderref03_parts.l0 (k + 30) S (o : Int) [] []) = larderref03_parts.l0 (k + 29 + 1) S ((o + 0 : Nat) : Int) [] [] from rfl, parts_dig h hs 0 (by omega) d0 _ (by omega) [] [] (by simp) (by simp), parts_end h 2 (by omega)]
      simp only [Option.bind_some, List.nil_append]
      rw [show k + 30 = k + 26 + 2 + 1 + 1 by omega, rclk1, rclk2, rclk3 _ _ _ _ _ _ _ _ b0 (by omega) (by omega), rcOf_clk _ _ _ _ 3 _ _ _ rfl (by omega) (by omega)]
      rfl
    | 1, _ =>
      have E : clockF H true = clkR (CalP.nmv H 0 2) (CalP.nmv H 3 2) 0 3 := e
      have hz : fit H ⟨#[100, 100, 58, 100, 100]⟩ = 5 := e3
      have sz : H.size = 5 := by rw [← hz]; exact e2.symm
      have d0 := dig_of hz 0 2 (by decide) (by decide)
      have d1 := dig_of hz 3 5 (by decide) (by decide)
      have c1 := col_of hz 2 (by decide) (by decide)
      have b0 := nmv2_bd H 0 d0
      have b1 := nmv2_bd H 3 d1
      rw [E, show (larderref03_parts.l0 (k + 30) S (o : Int) [] []) = larderref03_parts.l0 (k + 29 + 1) S ((o + 0 : Nat) : Int) [] [] from rfl, parts_dig h hs 0 (by omega) d0 _ (by omega) [] [] (by simp) (by simp),
        show k + 29 = k + 28 + 1 from rfl, parts_col h hs (0 + 2) (by omega) c1 d1 _ (by omega) _ _ (by simp) (by simp), parts_end h _ (by omega)]
      simp only [Option.bind_some, List.nil_append, List.cons_append, List.singleton_append]
      rw [show k + 30 = k + 27 + 2 + 1 by omega, rclk2, rclk3 _ _ _ _ _ _ _ _ b0 b1 (by omega), rcOf_clk _ _ _ _ 3 _ _ _ rfl (by intro _; omega) (by omega)]
      rfl
    | 2, _ =>
      have E : clockF H true = clkR (CalP.nmv H 0 2) (CalP.nmv H 3 2) (CalP.nmv H 6 2) 3 := e
      have hz : fit H ⟨#[100, 100, 58, 100, 100, 58, 100, 100]⟩ = 8 := e3
      have sz : H.size = 8 := by rw [← hz]; exact e2.symm
      have d0 := dig_of hz 0 2 (by decide) (by decide)
      have d1 := dig_of hz 3 5 (by decide) (by decide)
      have d2 := dig_of hz 6 8 (by decide) (by decide)
      have c1 := col_of hz 2 (by decide) (by decide)
      have c2 := col_of hz 5 (by decide) (by decide)
      have b0 := nmv2_bd H 0 d0
      have b1 := nmv2_bd H 3 d1
      have b2 := nmv2_bd H 6 d2
      rw [E, show (larderref03_parts.l0 (k + 30) S (o : Int) [] []) = larderref03_parts.l0 (k + 29 + 1) S ((o + 0 : Nat) : Int) [] [] from rfl, parts_dig h hs 0 (by omega) d0 _ (by omega) [] [] (by simp) (by simp),
        show k + 29 = k + 28 + 1 from rfl, parts_col h hs (0 + 2) (by omega) c1 d1 _ (by omega) _ _ (by simp) (by simp), show k + 28 = k + 27 + 1 from rfl, parts_col h hs (0 + 2 + 3) (by omega) c2 d2 _ (by omega) _ _ (by simp) (by simp), parts_end h _ (by omega)]
      simp only [Option.bind_some, List.nil_append, List.cons_append, List.singleton_append]
      rw [show k + 30 = k + 28 + 2 by omega, rclk3 _ _ _ _ _ _ _ _ b0 b1 b2, rcOf_clk _ _ _ _ 3 _ _ _ rfl (by intro _; omega) (by intro _; omega)]
      rfl
end Go.Proofs.YtiklakkkgmilnaaDoor.CalP

/- A printed instant's text, and what ParseInstant reads of it, in the extended and in the basic writing. -/
import Derived.Test.YtiklakkkgmilnaaDoorCalInsP
import Derived.Test.YtiklakkkgmilnaaDoorGCxf19
set_option linter.unusedVariables false
set_option linter.unusedSimpArgs false
namespace Go.Proofs.YtiklakkkgmilnaaDoor.CalP
open Go.RowKit Go.IntWalk Go.Proofs.YtiklakkkgmilnaaDoorW.PrintWords Go.Proofs.YtiklakkkgmilnaaDoor.Ext Go.Proofs.YtiklakkkgmilnaaDoor.PCal Go.Proofs.YtiklakkkgmilnaaDoor.GC

theorem ext_nums' (l : List Int) (a b : Nat) : (strOfNums l).extract a b = strOfNums ((l.take b).drop a) := by
  apply ByteArray.ext
  apply Array.ext'
  rw [ByteArray.data_extract, Array.toList_extract, strOfNums_data, strOfNums_data]
  simp [List.map_drop, List.map_take, List.extract_eq_take_drop, List.drop_take]
theorem ia_app : ∀ (A B : List UInt8) (c : UInt8) (cs : List UInt8), (∀ x ∈ A, cs.contains x = false) → cs.contains c = true → Lib.indexAny (A ++ c :: B) cs = A.length
  | [], B, c, cs, _, hc => by rw [List.nil_append, Lib.indexAny, if_pos hc]; rfl
  | a :: A, B, c, cs, h, hc => by
    have ih := ia_app A B c cs (fun x hx => h x (List.mem_cons_of_mem _ hx)) hc
    have ha : cs.contains a = false := h a (List.mem_cons_self ..)
    rw [List.cons_append, Lib.indexAny, ih, ha]
    rw [if_neg (by simp), if_neg (by simp)]
    simp
theorem notZ {c : Int} (h : 48 ≤ c ∧ c ≤ 58) : ([90, 43, 45] : List UInt8).contains (UInt8.ofNat c.toNat) = false := by
  have a := byte_ne (c := c) (e := 90) (by omega) (by omega) (by omega)
  have b := byte_ne (c := c) (e := 43) (by omega) (by omega) (by omega)
  have d := byte_ne (c := c) (e := 45) (by omega) (by omega) (by omega)
  have e1 : UInt8.ofNat (90 : Int).toNat = 90 := rfl
  have e2 : UInt8.ofNat (43 : Int).toNat = 43 := rfl
  have e3 : UInt8.ofNat (45 : Int).toNat = 45 := rfl
  rw [e1] at a; rw [e2] at b; rw [e3] at d
  simp [a, b, d]
theorem kA_nums {C Z : List Int} {z : Int} (hC : ∀ c ∈ C, 48 ≤ c ∧ c ≤ 58) (hz : z = 90 ∨ z = 43 ∨ z = 45) : kA (strOfNums (C ++ z :: Z)) = C.length := by
  unfold kA
  rw [strOfNums_data, List.map_append, List.map_cons, ia_app]
  · simp
  · intro x hx
    obtain ⟨c, hc, rfl⟩ := List.mem_map.1 hx
    exact notZ (hC c hc)
  · rcases hz with rfl | rfl | rfl <;> rfl
theorem odd8_nums {l : List Int} (h : ∀ c ∈ l, 0 ≤ c ∧ c < 128) : odd8 (strOfNums l) = false := by
  unfold odd8
  rw [strOfNums_data]
  have e : ((l.map fun n => UInt8.ofNat n.toNat).any fun b => decide (128 ≤ b.toNat)) = false := by
    rw [List.any_eq_false]
    intro x hx
    obtain ⟨c, hc, rfl⟩ := List.mem_map.1 hx
    have := h c hc
    rw [UInt8.toNat_ofNat']
    simp; omega
  rw [e, Bool.and_false]
def ckE (h m s : Int) : List Int := D2 h ++ [58] ++ D2 m ++ [58] ++ D2 s
def ckB (h m s : Int) : List Int := D2 h ++ D2 m ++ D2 s
def znE (g a b : Int) : List Int := D2 a ++ [58] ++ D2 b
def znB (g a b : Int) : List Int := D2 a ++ D2 b
section
variable {h m s a b g : Int}
theorem okE (hh : 0 ≤ h ∧ h ≤ 23) (hm : 0 ≤ m ∧ m ≤ 59) (hs : 0 ≤ s ∧ s ≤ 59) : ∀ c ∈ ckE h m s, 48 ≤ c ∧ c ≤ 58 := by intro c hc; simp [ckE, D2] at hc; omega
theorem okB (hh : 0 ≤ h ∧ h ≤ 23) (hm : 0 ≤ m ∧ m ≤ 59) (hs : 0 ≤ s ∧ s ≤ 59) : ∀ c ∈ ckB h m s, 48 ≤ c ∧ c ≤ 58 := by intro c hc; simp [ckB, D2] at hc; omega
theorem clockE (hh : 0 ≤ h ∧ h ≤ 23) (hm : 0 ≤ m ∧ m ≤ 59) (hs : 0 ≤ s ∧ s ≤ 59) : clockF (strOfNums (ckE h m s)) true = (h * 3600 + m * 60 + s, true, 0) := by
  have ok : okL (ckE h m s) := fun c hc => by have := okE hh hm hs c hc; omega
  have k8 : okL [100, 100, 58, 100, 100, 58, 100, 100] := by intro c hc; simp at hc; omega
  have sh : shp (strOfNums (ckE h m s)) CE 0 0 = (((2 : Nat) : Int), 0) := by
    obtain ⟨x, y⟩ := fit_mtL ok k8 (by simp [mtL, CalP.mt, ckE, D2]; omega)
    show shp (strOfNums (ckE h m s)) [strOfNums [100, 100], strOfNums [100, 100, 58, 100, 100], strOfNums [100, 100, 58, 100, 100, 58, 100, 100]] 0 0 = _
    rw [shp_miss (.inl (miss_len (by simp [ckE, D2]))), shp_miss (.inl (miss_len (by simp [ckE, D2])))]; exact shp_hit x y
  have e0 : nmv (strOfNums (ckE h m s)) 0 2 = h := by simp only [nmv, bt_nums ok]; simp [ckE, D2]; omega
  have e1 : nmv (strOfNums (ckE h m s)) 3 2 = m := by simp only [nmv, bt_nums ok]; simp [ckE, D2]; omega
  have e2 : nmv (strOfNums (ckE h m s)) 6 2 = s := by simp only [nmv, bt_nums ok]; simp [ckE, D2]; omega
  unfold clockF
  simp only [if_true, sh, e0, e1, e2]
  rw [if_neg (by omega), if_neg (by omega), if_neg (by omega)]
  unfold clkR
  rw [if_neg (by omega), if_neg (by omega), if_neg (by omega), if_neg (by omega)]
theorem clockB (hh : 0 ≤ h ∧ h ≤ 23) (hm : 0 ≤ m ∧ m ≤ 59) (hs : 0 ≤ s ∧ s ≤ 59) : clockF (strOfNums (ckB h m s)) false = (h * 3600 + m * 60 + s, true, 0) := by
  have ok : okL (ckB h m s) := fun c hc => by have := okB hh hm hs c hc; omega
  have k8 : okL [100, 100, 100, 100, 100, 100] := by intro c hc; simp at hc; omega
  have sh : shp (strOfNums (ckB h m s)) CB 0 0 = (((2 : Nat) : Int), 0) := by
    obtain ⟨x, y⟩ := fit_mtL ok k8 (by simp [mtL, CalP.mt, ckB, D2]; omega)
    show shp (strOfNums (ckB h m s)) [strOfNums [100, 100], strOfNums [100, 100, 100, 100], strOfNums [100, 100, 100, 100, 100, 100]] 0 0 = _
    rw [shp_miss (.inl (miss_len (by simp [ckB, D2]))), shp_miss (.inl (miss_len (by simp [ckB, D2])))]; exact shp_hit x y
  have e0 : nmv (strOfNums (ckB h m s)) 0 2 = h := by simp only [nmv, bt_nums ok]; simp [ckB, D2]; omega
  have e1 : nmv (strOfNums (ckB h m s)) 2 2 = m := by simp only [nmv, bt_nums ok]; simp [ckB, D2]; omega
  have e2 : nmv (strOfNums (ckB h m s)) 4 2 = s := by simp only [nmv, bt_nums ok]; simp [ckB, D2]; omega
  unfold clockF
  simp only [Bool.false_eq_true, if_false, sh, e0, e1, e2]
  rw [if_neg (by omega), if_neg (by omega), if_neg (by omega)]
  unfold clkR
  rw [if_neg (by omega), if_neg (by omega), if_neg (by omega), if_neg (by omega)]
def zv (g a b : Int) : Int := if g = 43 then 60 * a + b else -(60 * a + b)
theorem zone_j1 (t : ByteArray) (p : Int) (k : Nat) (ht : 0 < t.size) (hg : bt t 0 = g) (ha : 0 ≤ a ∧ a ≤ 23) (hb : 0 ≤ b ∧ b ≤ 59) (hs : g = 43 ∨ (g = 45 ∧ 0 < 60 * a + b)) : cal_zone.j1 (k + 1) t p a b = some (zv g a b, true, 0) := by
  rw [cal_zone.j1, if_neg (by omega), if_neg (by omega), if_pos (by omega), hg, w64 (x := 60 * a) (by omega) (by omega), w64 (x := 60 * a + b) (by omega) (by omega), w64 (x := -(60 * a + b)) (by omega) (by omega)]
  unfold zv
  rcases hs with rfl | ⟨rfl, h0⟩
  · rfl
  · rw [if_neg (by omega), if_neg (by omega), if_neg (by omega)]
theorem zoneE (ha : 0 ≤ a ∧ a ≤ 23) (hb : 0 ≤ b ∧ b ≤ 59) (hs : g = 43 ∨ (g = 45 ∧ 0 < 60 * a + b)) : cal_zone.f 100 (strOfNums (g :: znE g a b)) true = some (zv g a b, true, 0) := by
  have ok : okL (g :: znE g a b) := by intro c hc; simp [znE, D2] at hc; omega
  have k6 : okL [115, 100, 100, 58, 100, 100] := by intro c hc; simp at hc; omega
  have sh : shp (strOfNums (g :: znE g a b)) [(⟨#[90]⟩ : ByteArray), (⟨#[115, 100, 100]⟩ : ByteArray), (⟨#[115, 100, 100, 58, 100, 100]⟩ : ByteArray)] 0 0 = (((2 : Nat) : Int), 0) := by
    obtain ⟨x, y⟩ := fit_mtL ok k6 (by simp [mtL, CalP.mt, znE, D2]; omega)
    show shp (strOfNums (g :: znE g a b)) [strOfNums [90], strOfNums [115, 100, 100], strOfNums [115, 100, 100, 58, 100, 100]] 0 0 = _
    rw [shp_miss (.inl (miss_len (by simp [znE, D2]))), shp_miss (.inl (miss_len (by simp [znE, D2])))]; exact shp_hit x y
  have sz : (strOfNums (g :: znE g a b)).size = 6 := by rw [strOfNums_size]; simp [znE, D2]
  have e1 : nmv (strOfNums (g :: znE g a b)) 1 2 = a := by simp only [nmv, bt_nums ok]; simp [znE, D2]; omega
  have e2 : nmv (strOfNums (g :: znE g a b)) 4 2 = b := by simp only [nmv, bt_nums ok]; simp [znE, D2]; omega
  have b0 : bt (strOfNums (g :: znE g a b)) 0 = g := by have := bt_nums ok 0; simpa using this
  have dd : ∀ j : Nat, j = 1 ∨ j = 2 ∨ j = 4 ∨ j = 5 → 48 ≤ bt (strOfNums (g :: znE g a b)) j ∧ bt (strOfNums (g :: znE g a b)) j ≤ 57 := by
    intro j hj
    rw [bt_nums ok]
    rcases hj with rfl | rfl | rfl | rfl <;> simp [znE, D2] <;> omega
  unfold cal_zone.f
  rw [if_pos rfl, show (100 : Nat) = 99 + 1 from rfl, cal_zone.j0, shape_eq 99 _ _ (by simp) (by decide) (by simp), sh]
  simp only [Option.bind_some]
  have n1 := num_part 99 (strOfNums (g :: znE g a b)) 1 3 (by omega) (by omega) (by omega) (fun j j1 j2 => dd j (by omega)) (by omega)
  have n2 := num_part 99 (strOfNums (g :: znE g a b)) 4 6 (by omega) (by omega) (by omega) (fun j j1 j2 => dd j (by omega)) (by omega)
  rw [e1] at n1
  rw [e2] at n2
  rw [if_neg (by omega), if_neg (by omega), if_pos (by omega), if_pos (by omega), n1]
  simp only [Option.bind_some]
  rw [if_pos (by omega), if_pos (by omega), if_pos (by omega), sz, show ((4 : Int)).toNat = 4 from rfl, n2]
  simp only [Option.bind_some]
  exact zone_j1 _ 4 98 (by omega) b0 ha hb hs
theorem zoneB (ha : 0 ≤ a ∧ a ≤ 23) (hb : 0 ≤ b ∧ b ≤ 59) (hs : g = 43 ∨ (g = 45 ∧ 0 < 60 * a + b)) : cal_zone.f 100 (strOfNums (g :: znB g a b)) false = some (zv g a b, true, 0) := by
  have ok : okL (g :: znB g a b) := by intro c hc; simp [znB, D2] at hc; omega
  have k6 : okL [115, 100, 100, 100, 100] := by intro c hc; simp at hc; omega
  have sh : shp (strOfNums (g :: znB g a b)) [(⟨#[90]⟩ : ByteArray), (⟨#[115, 100, 100]⟩ : ByteArray), (⟨#[115, 100, 100, 100, 100]⟩ : ByteArray)] 0 0 = (((2 : Nat) : Int), 0) := by
    obtain ⟨x, y⟩ := fit_mtL ok k6 (by simp [mtL, CalP.mt, znB, D2]; omega)
    show shp (strOfNums (g :: znB g a b)) [strOfNums [90], strOfNums [115, 100, 100], strOfNums [115, 100, 100, 100, 100]] 0 0 = _
    rw [shp_miss (.inl (miss_len (by simp [znB, D2]))), shp_miss (.inl (miss_len (by simp [znB, D2])))]; exact shp_hit x y
  have sz : (strOfNums (g :: znB g a b)).size = 5 := by rw [strOfNums_size]; simp [znB, D2]
  have e1 : nmv (strOfNums (g :: znB g a b)) 1 2 = a := by simp only [nmv, bt_nums ok]; simp [znB, D2]; omega
  have e2 : nmv (strOfNums (g :: znB g a b)) 3 2 = b := by simp only [nmv, bt_nums ok]; simp [znB, D2]; omega
  have b0 : bt (strOfNums (g :: znB g a b)) 0 = g := by have := bt_nums ok 0; simpa using this
  have dd : ∀ j : Nat, j = 1 ∨ j = 2 ∨ j = 3 ∨ j = 4 → 48 ≤ bt (strOfNums (g :: znB g a b)) j ∧ bt (strOfNums (g :: znB g a b)) j ≤ 57 := by
    intro j hj
    rw [bt_nums ok]
    rcases hj with rfl | rfl | rfl | rfl <;> simp [znB, D2] <;> omega
  unfold cal_zone.f
  rw [if_neg (by simp), show (100 : Nat) = 99 + 1 from rfl, cal_zone.j0, shape_eq 99 _ _ (by simp) (by decide) (by simp), sh]
  simp only [Option.bind_some]
  have n1 := num_part 99 (strOfNums (g :: znB g a b)) 1 3 (by omega) (by omega) (by omega) (fun j j1 j2 => dd j (by omega)) (by omega)
  have n2 := num_part 99 (strOfNums (g :: znB g a b)) 3 5 (by omega) (by omega) (by omega) (fun j j1 j2 => dd j (by omega)) (by omega)
  rw [e1] at n1
  rw [e2] at n2
  rw [if_neg (by omega), if_neg (by omega), if_pos (by omega), if_pos (by omega), n1]
  simp only [Option.bind_some]
  rw [if_pos (by omega), if_pos (by omega), if_pos (by omega), sz, show ((3 : Int)).toNat = 3 from rfl, n2]
  simp only [Option.bind_some]
  exact zone_j1 _ 3 98 (by omega) b0 ha hb hs
end
end Go.Proofs.YtiklakkkgmilnaaDoor.CalP

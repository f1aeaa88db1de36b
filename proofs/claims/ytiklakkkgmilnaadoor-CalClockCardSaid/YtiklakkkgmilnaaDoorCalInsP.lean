/- What ParseInstant reads of a day's text with a clock and a zone behind it. -/
import Derived.Test.YtiklakkkgmilnaaDoorCalFormsP
import Derived.Test.YtiklakkkgmilnaaDoorCalInstX
set_option linter.unusedVariables false
set_option linter.unusedSimpArgs false
namespace Go.Proofs.YtiklakkkgmilnaaDoor.CalP
open Go.RowKit Go.IntWalk Go.Proofs.YtiklakkkgmilnaaDoorW.PrintWords Go.Proofs.YtiklakkkgmilnaaDoor.Ext Go.Proofs.YtiklakkkgmilnaaDoor.PCal Go.Proofs.YtiklakkkgmilnaaDoor.GC

theorem ib_app : ∀ (A B : List UInt8) (c : UInt8), (∀ x ∈ A, x ≠ c) → Lib.indexByte (A ++ c :: B) c = A.length
  | [], B, c, _ => by simp [Lib.indexByte]
  | a :: A, B, c, h => by
    have ih := ib_app A B c (fun x hx => h x (List.mem_cons_of_mem _ hx))
    have ha : a ≠ c := h a (List.mem_cons_self ..)
    have e : (a == c) = false := by simpa using ha
    rw [List.cons_append, Lib.indexByte, e, ih]
    rw [if_neg (by simp), if_neg (by simp)]
    simp
theorem ib_none : ∀ (A : List UInt8) (c : UInt8), (∀ x ∈ A, x ≠ c) → Lib.indexByte A c = -1
  | [], c, _ => by simp [Lib.indexByte]
  | a :: A, c, h => by
    have ih := ib_none A c (fun x hx => h x (List.mem_cons_of_mem _ hx))
    have ha : a ≠ c := h a (List.mem_cons_self ..)
    have e : (a == c) = false := by simpa using ha
    rw [Lib.indexByte, e, ih]
    rw [if_neg (by simp)]
    simp
/-- the bytes of numbers differ as the numbers do -/
theorem byte_ne {c e : Int} (h : 0 ≤ c ∧ c < 256) (he : 0 ≤ e ∧ e < 256) (hne : c ≠ e) : UInt8.ofNat c.toNat ≠ UInt8.ofNat e.toNat := by
  intro hh
  have := congrArg UInt8.toNat hh
  rw [UInt8.toNat_ofNat', UInt8.toNat_ofNat'] at this
  omega
theorem ib_at : ∀ (A : List UInt8) (c : UInt8), c ∈ A → 0 ≤ Lib.indexByte A c
  | [], c, h => by simp at h
  | a :: A, c, h => by
    rw [Lib.indexByte]
    by_cases e : (a == c) = true
    · rw [if_pos e]; exact Int.le_refl _
    · rw [if_neg e]
      have hc : c ∈ A := (List.mem_cons.1 h).resolve_left (fun q => e (by rw [q]; simp))
      have := ib_at A c hc
      rw [if_neg (by simp; omega)]; omega
theorem dash0 {l : List Int} (h : (45 : Int) ∈ l) : decide (0 ≤ Lib.indexByte (strOfNums l).data.toList 45) = true := by
  rw [decide_eq_true_eq]
  refine ib_at _ _ ?_
  rw [strOfNums_data]
  exact List.mem_map.2 ⟨45, h, rfl⟩
theorem dash1 {l : List Int} (h : ∀ c ∈ l, 0 ≤ c ∧ c < 256 ∧ c ≠ 45) : decide (0 ≤ Lib.indexByte (strOfNums l).data.toList 45) = false := by
  rw [ib_none]
  · decide
  · intro x hx
    rw [strOfNums_data] at hx
    obtain ⟨c, hc, rfl⟩ := List.mem_map.1 hx
    have := h c hc
    exact byte_ne (e := 45) ⟨this.1, this.2.1⟩ (by omega) this.2.2
/-- a list of bytes without T -/
def noT (l : List Int) : Prop := ∀ c ∈ l, 0 ≤ c ∧ c < 256 ∧ c ≠ 84
theorem noT_app {a b : List Int} (ha : noT a) (hb : noT b) : noT (a ++ b) := fun c h => (List.mem_append.1 h).elim (ha c) (hb c)
theorem noT_D1 {n : Int} (h : 0 ≤ n ∧ n ≤ 9) : noT (D1 n) := by intro c hc; simp [D1] at hc; omega
theorem noT_D2 {n : Int} (h : 0 ≤ n ∧ n ≤ 99) : noT (D2 n) := by intro c hc; simp [D2] at hc; omega
theorem noT_D3 {n : Int} (h : 0 ≤ n ∧ n ≤ 999) : noT (D3 n) := by intro c hc; simp [D3] at hc; omega
theorem noT_D4 {n : Int} (h : 0 ≤ n ∧ n ≤ 9999) : noT (D4 n) := by intro c hc; simp [D4] at hc; omega
theorem noT_45 : noT [45] := by intro c hc; simp at hc; omega
theorem noT_87 : noT [87] := by intro c hc; simp at hc; omega
theorem noT_4587 : noT [45, 87] := by intro c hc; simp at hc; omega
section
variable {L : List Int} {R : ByteArray}
theorem iT_TX (h : noT L) : iT (strOfNums L ++ ((⟨#[84]⟩ : ByteArray) ++ R)) = L.length := by
  unfold iT
  have e : (strOfNums L ++ ((⟨#[84]⟩ : ByteArray) ++ R)).data.toList = (L.map fun n => UInt8.ofNat n.toNat) ++ 84 :: R.data.toList := by
    simp [ByteArray.data_append, Array.toList_append, strOfNums_data]
  rw [e, ib_app]
  · simp
  · intro x hx
    obtain ⟨c, hc, rfl⟩ := List.mem_map.1 hx
    have := h c hc
    exact byte_ne (e := 84) ⟨this.1, this.2.1⟩ (by omega) this.2.2
theorem ext_left (A B : ByteArray) : (A ++ B).extract 0 A.size = A := by
  apply ByteArray.ext
  apply Array.ext'
  have z : A.data.toList.length = A.size := by simp
  rw [ByteArray.data_extract, Array.toList_extract, ByteArray.data_append, Array.toList_append, ← z, List.extract_eq_take_drop]
  simp
theorem ext_right (A B C : ByteArray) (hB : B.size = 1) : (A ++ (B ++ C)).extract (A.size + 1) (A ++ (B ++ C)).size = C := by
  apply ByteArray.ext
  apply Array.ext'
  have hb : B.data.toList.length = 1 := by rw [← hB]; simp
  have z : A.data.toList.length = A.size := by simp
  have zc : C.data.toList.length = C.size := by simp
  have zall : (A ++ (B ++ C)).size = A.size + (1 + C.size) := by rw [ByteArray.size_append, ByteArray.size_append, hB]
  rw [ByteArray.data_extract, Array.toList_extract, ByteArray.data_append, Array.toList_append, ByteArray.data_append, Array.toList_append, zall, ← List.append_assoc, List.extract_eq_take_drop]
  have e : A.size + 1 = (A.data.toList ++ B.data.toList).length := by rw [List.length_append, hb, z]
  rw [e, List.drop_left, List.take_of_length_le]
  rw [zc, ← e]; omega
theorem fst_TX (h : noT L) : fstT (strOfNums L ++ ((⟨#[84]⟩ : ByteArray) ++ R)) = strOfNums L := by
  unfold fstT
  rw [iT_TX h, if_pos (by omega), Int.toNat_natCast]
  have := ext_left (strOfNums L) ((⟨#[84]⟩ : ByteArray) ++ R)
  rwa [strOfNums_size] at this
theorem rst_TX (h : noT L) : rstT (strOfNums L ++ ((⟨#[84]⟩ : ByteArray) ++ R)) = R := by
  unfold rstT
  rw [iT_TX h, Int.toNat_natCast]
  have := ext_right (strOfNums L) (⟨#[84]⟩ : ByteArray) R rfl
  rwa [strOfNums_size] at this
theorem ext_TX (h : noT L) {ext : Bool} (hx : decide (0 ≤ Lib.indexByte (strOfNums L).data.toList 45) = ext) : extT (strOfNums L ++ ((⟨#[84]⟩ : ByteArray) ++ R)) = ext := by
  unfold extT
  rw [fst_TX h]; exact hx
/-- ParseInstant of a day's text, T, a rest -/
theorem inst_TX {y m d : Int} (h : noT L) (hl : L.length ≤ 20) (hR : R.size ≤ 40) {ext : Bool} (hx : decide (0 ≤ Lib.indexByte (strOfNums L).data.toList 45) = ext) (hd : cal_ParseDate.f (strOfNums L) = some (y, m, d, 0, 0)) (ho : odd8 R = false) (c1 : Int) (c2 : Bool) (c3 : Int) (hc : clockF (hrs R) ext = (c1, c2, c3)) :
    cal_ParseInstant.f (strOfNums L ++ ((⟨#[84]⟩ : ByteArray) ++ R)) =
      if ¬ (0 ≤ c1 ∧ c1 ≤ 100000 ∧ 0 ≤ c3 ∧ c3 ≤ 1000) then none
      else if c2 = false then some (0, 32, (L.length : Int) + 1 + c3)
      else if kA R < 0 then some (0, 33, (L.length : Int) + 1 + R.size)
      else (cal_zone.f 100 (R.extract (kA R).toNat R.size) ext).bind fun z => inst4 ((L.length : Int) + 1 + R.size) ((L.length : Int) + 1 + kA R) y m d c1 z := by
  have hs : (strOfNums L ++ ((⟨#[84]⟩ : ByteArray) ++ R)).size = L.length + 1 + R.size := by
    rw [ByteArray.size_append, ByteArray.size_append, strOfNums_size]; show L.length + (1 + R.size) = _; omega
  have hs' : ((strOfNums L ++ ((⟨#[84]⟩ : ByteArray) ++ R)).size : Int) = (L.length : Int) + 1 + R.size := by omega
  unfold cal_ParseInstant.f
  rw [if_neg (by omega), fst_TX h, hd]
  simp only [Option.bind_some]
  rw [if_neg (by simp), iT_TX h, if_neg (by omega), rst_TX h, ho, if_neg (by simp)]
  unfold inst3
  rw [ext_TX h hx, hc, fst_TX h, rst_TX h, hs', strOfNums_size]
end
end Go.Proofs.YtiklakkkgmilnaaDoor.CalP

/- strings.ContainsAny at the five bytes for which a cell is quoted, of any text: a rune that is no ASCII is none of them. -/
import Derived.Test.YtappphffbnkloaaGreatDoorShelf
import Derived.Test.YtappphffbnkloaaGreatDoorWWords
import Derived.Laws.RangeAny
import Derived.Laws.Runes
import Derived.Lib.IndexLaws
import Derived.Lib.IndexAny
import Derived.WalkKit
import Derived.WalkSmall
import Derived.WalkMore
import Derived.Deep.QuietTactic
import Derived.Deep.LoopGhost
import Derived.BigQuiet
import Derived.Lib.Hide
import Derived.IntWalk
set_option linter.unusedVariables false
set_option linter.unusedSimpArgs false
namespace Go.Proofs.YtappphffbnkloaaGreatDoor.Sht
open Go.RowKit Go.Proofs.YtappphffbnkloaaGreatDoorW.PrintWords

abbrev ZC : ByteArray := ⟨#[44, 34, 13, 10, 9]⟩
theorem enc_cases (r : Int) (hv : Utf8.valid r = true) (h128 : 128 ≤ r) : (∃ a b : UInt8, Utf8.encode r = ⟨#[a, b]⟩ ∧ 128 ≤ b.toNat) ∨ (∃ a b c : UInt8, Utf8.encode r = ⟨#[a, b, c]⟩ ∧ 128 ≤ c.toNat) ∨ (∃ a b c d : UInt8, Utf8.encode r = ⟨#[a, b, c, d]⟩ ∧ 128 ≤ d.toNat) := by
  have hc : ¬ r.toNat < 128 := by omega
  unfold Utf8.encode
  simp only [hv, if_true, hc, if_false]
  split
  · refine .inl ⟨_, _, rfl, ?_⟩
    show 128 ≤ (UInt8.ofNat (128 + r.toNat % 64)).toNat
    simp; omega
  · split
    · refine .inr (.inl ⟨_, _, _, rfl, ?_⟩)
      show 128 ≤ (UInt8.ofNat (128 + r.toNat % 64)).toNat
      simp; omega
    · refine .inr (.inr ⟨_, _, _, _, rfl, ?_⟩)
      show 128 ≤ (UInt8.ofNat (128 + r.toNat % 64)).toNat
      simp; omega
theorem ib_high (s : ByteArray) (c : UInt8) (hs : ∀ b ∈ s.data.toList, b.toNat < 128) (hc : 128 ≤ c.toNat) : Lib.indexByte s.data.toList c = -1 := by
  have : ∀ l : List UInt8, (∀ b ∈ l, b.toNat < 128) → Lib.indexByte l c = -1 := by
    intro l
    induction l with
    | nil => intro _; rfl
    | cons a l ih =>
      intro h
      have ha : (a == c) = false := by
        rw [beq_eq_false_iff_ne]; rintro rfl
        have := h a (List.mem_cons_self ..); omega
      rw [Lib.indexByte, ha, ih (fun b hb => h b (List.mem_cons_of_mem _ hb))]
      simp
  exact this _ hs
theorem quiet_two {P : Program} {f : FuncId} {args : Array Value} {w : World} {a n : Nat} {v : Value}
    (h : Calls P f args (w.drewN (a + n)) fun e w' => e = .returned v ∧ w' = w.drewN (a + n)) :
    Calls P f args (w.drewN (a + n)) fun e w'' => e = .returned v ∧ ∃ m, w'' = w.drewN (a + m) :=
  h.mono fun _ _ ⟨he, hm⟩ => ⟨he, n, hm⟩
theorem below_drawn {w : World} {n : Nat} : Below w.heap.size w (w.drewN n) := Drawn0.below ⟨⟨_, rfl⟩⟩
section
variable (w : World)
set_option maxRecDepth 100000 in
set_option maxHeartbeats 1000000 in
theorem idxr_err : Calls Tryz.prog 115 #[.string ZC, .int .i32 65533] w fun e w' => e = .returned (.int .i64 (-1)) ∧ Below w.heap.size w w' := by
  have hn0 := fun ty => run_next_ascii (P := Tryz.prog) w ZC 0 ty (by decide) (by decide)
  have hn1 := fun ty => run_next_ascii (P := Tryz.prog) w ZC 1 ty (by decide) (by decide)
  have hn2 := fun ty => run_next_ascii (P := Tryz.prog) w ZC 2 ty (by decide) (by decide)
  have hn3 := fun ty => run_next_ascii (P := Tryz.prog) w ZC 3 ty (by decide) (by decide)
  have hn4 := fun ty => run_next_ascii (P := Tryz.prog) w ZC 4 ty (by decide) (by decide)
  have hn5 := run_next_end (P := Tryz.prog) w ZC 5
  go_enter Tryz.func115, Tryz.ntmps115
  go_wp2
  refine wp_loop_rounds 6 ?_
  rw [rounds_succ]
  go_wp2
  rw [rounds_succ]
  go_wp2
  rw [rounds_succ]
  go_wp2
  rw [rounds_succ]
  go_wp2
  rw [rounds_succ]
  go_wp2
  rw [rounds_succ]
  go_wp2
  go_ret
  exact ⟨rfl, (Below.refl _ _).alloc (Nat.le_refl _) _⟩
set_option maxRecDepth 100000 in
set_option maxHeartbeats 1000000 in
theorem idxr_bad (r : Int) (h : 128 ≤ r) (h2 : r ≠ 65533) (hv : Lib.validRune r = false) : Calls Tryz.prog 115 #[.string ZC, .int .i32 r] w fun e w' => e = .returned (.int .i64 (-1)) ∧ Below w.heap.size w w' := by
  have h3 : (r == 65533) = false := beq_eq_false_iff_ne.2 h2
  have HV := Lib.hid (fun W => Tryz.utf8_ValidRune r W)
  rw [hv] at HV
  clear h2 hv
  go_enter Tryz.func115, Tryz.ntmps115
  go_wp2_with (go_at_call 129; refine (HV.out _).mono ?_; rintro e w' ⟨rfl, hw⟩; rw [hw])
  go_ret
  exact ⟨rfl, Below.refl _ _⟩
set_option maxRecDepth 100000 in
set_option maxHeartbeats 1000000 in
theorem idxr_2 (r : Int) (h : 128 ≤ r) (h2 : r ≠ 65533) (hv : Lib.validRune r = true) (a b : UInt8) (he : Utf8.encode r = ⟨#[a, b]⟩) (hb : 128 ≤ b.toNat) : Calls Tryz.prog 115 #[.string ZC, .int .i32 r] w fun e w' => e = .returned (.int .i64 (-1)) ∧ Below w.heap.size w w' := by
  have h3 : (r == 65533) = false := beq_eq_false_iff_ne.2 h2
  have HV := Lib.hid (fun W => Tryz.utf8_ValidRune r W)
  rw [hv] at HV
  have HI : Hid (∀ W, Calls Tryz.prog 128 #[.string (ZC.extract 2 5), .int .u8 b.toNat] W fun e w' => e = .returned (.int .i64 (-1)) ∧ w' = W) := by
    intro W
    have := Tryz.strings_IndexByte (ZC.extract 2 5) b.toNat W
    rw [show ((b.toNat : Int)).toNat.toUInt8 = b by simp, ib_high _ _ (by decide) hb] at this
    exact this
  have hx : ((ZC[1].toNat : Int) != (((⟨#[a, b]⟩ : ByteArray)[1]'(show 1 < 2 by decide)).toNat : Int)) = true := bne_iff_ne.2 (by show (34 : Int) ≠ (b.toNat : Int); omega)
  clear h2 hv hb
  go_enter Tryz.func115, Tryz.ntmps115
  go_wp2_with (go_at_call 129; refine (HV.out _).mono ?_; rintro e w' ⟨rfl, hw⟩; rw [hw])
  go_step3
  go_wp2
  refine wp_loop_rounds 1 ?_
  rw [rounds_succ]
  go_wp2
  go_step3
  go_wp2
  go_quiet (fail)
  go_wp2
  go_quiet ((go_at_call 128; exact quiet_two (HI.out _)))
  go_wp2
  go_simp
  go_ret
  exact ⟨rfl, below_drawn⟩
set_option maxRecDepth 100000 in
set_option maxHeartbeats 1000000 in
theorem idxr_3 (r : Int) (h : 128 ≤ r) (h2 : r ≠ 65533) (hv : Lib.validRune r = true) (a b c : UInt8) (he : Utf8.encode r = ⟨#[a, b, c]⟩) (hb : 128 ≤ c.toNat) : Calls Tryz.prog 115 #[.string ZC, .int .i32 r] w fun e w' => e = .returned (.int .i64 (-1)) ∧ Below w.heap.size w w' := by
  have h3 : (r == 65533) = false := beq_eq_false_iff_ne.2 h2
  have HV := Lib.hid (fun W => Tryz.utf8_ValidRune r W)
  rw [hv] at HV
  have HI : Hid (∀ W, Calls Tryz.prog 128 #[.string (ZC.extract 3 5), .int .u8 c.toNat] W fun e w' => e = .returned (.int .i64 (-1)) ∧ w' = W) := by
    intro W
    have := Tryz.strings_IndexByte (ZC.extract 3 5) c.toNat W
    rw [show ((c.toNat : Int)).toNat.toUInt8 = c by simp, ib_high _ _ (by decide) hb] at this
    exact this
  have hx : ((ZC[2].toNat : Int) != (((⟨#[a, b, c]⟩ : ByteArray)[2]'(show 2 < 3 by decide)).toNat : Int)) = true := bne_iff_ne.2 (by show (13 : Int) ≠ (c.toNat : Int); omega)
  clear h2 hv hb
  go_enter Tryz.func115, Tryz.ntmps115
  go_wp2_with (go_at_call 129; refine (HV.out _).mono ?_; rintro e w' ⟨rfl, hw⟩; rw [hw])
  go_step3
  go_wp2
  refine wp_loop_rounds 1 ?_
  rw [rounds_succ]
  go_wp2
  go_step3
  go_wp2
  go_quiet (fail)
  go_wp2
  go_quiet ((go_at_call 128; exact quiet_two (HI.out _)))
  go_wp2
  go_simp
  go_ret
  exact ⟨rfl, below_drawn⟩
set_option maxRecDepth 100000 in
set_option maxHeartbeats 1000000 in
theorem idxr_4 (r : Int) (h : 128 ≤ r) (h2 : r ≠ 65533) (hv : Lib.validRune r = true) (a b c d : UInt8) (he : Utf8.encode r = ⟨#[a, b, c, d]⟩) (hb : 128 ≤ d.toNat) : Calls Tryz.prog 115 #[.string ZC, .int .i32 r] w fun e w' => e = .returned (.int .i64 (-1)) ∧ Below w.heap.size w w' := by
  have h3 : (r == 65533) = false := beq_eq_false_iff_ne.2 h2
  have HV := Lib.hid (fun W => Tryz.utf8_ValidRune r W)
  rw [hv] at HV
  have HI : Hid (∀ W, Calls Tryz.prog 128 #[.string (ZC.extract 4 5), .int .u8 d.toNat] W fun e w' => e = .returned (.int .i64 (-1)) ∧ w' = W) := by
    intro W
    have := Tryz.strings_IndexByte (ZC.extract 4 5) d.toNat W
    rw [show ((d.toNat : Int)).toNat.toUInt8 = d by simp, ib_high _ _ (by decide) hb] at this
    exact this
  have hx : ((ZC[3].toNat : Int) != (((⟨#[a, b, c, d]⟩ : ByteArray)[3]'(show 3 < 4 by decide)).toNat : Int)) = true := bne_iff_ne.2 (by show (10 : Int) ≠ (d.toNat : Int); omega)
  clear h2 hv hb
  go_enter Tryz.func115, Tryz.ntmps115
  go_wp2_with (go_at_call 129; refine (HV.out _).mono ?_; rintro e w' ⟨rfl, hw⟩; rw [hw])
  go_step3
  go_wp2
  refine wp_loop_rounds 1 ?_
  rw [rounds_succ]
  go_wp2
  go_step3
  go_wp2
  go_quiet (fail)
  go_wp2
  go_quiet ((go_at_call 128; exact quiet_two (HI.out _)))
  go_wp2
  go_simp
  go_ret
  exact ⟨rfl, below_drawn⟩
/-- of a rune that is no ASCII IndexRune finds none -/
theorem idxr_high (r : Int) (h : 128 ≤ r) : Calls Tryz.prog 115 #[.string ZC, .int .i32 r] w fun e w' => e = .returned (.int .i64 (-1)) ∧ Below w.heap.size w w' := by
  by_cases h2 : r = 65533
  · subst h2; exact idxr_err w
  cases hv : Lib.validRune r
  · exact idxr_bad w r h h2 hv
  · have hv' : Utf8.valid r = true := by
      rw [validRune_eq]; exact hv
    rcases enc_cases r hv' h with ⟨a, b, he, hb⟩ | ⟨a, b, c, he, hc⟩ | ⟨a, b, c, d, he, hd⟩
    · exact idxr_2 w r h h2 hv a b he hb
    · exact idxr_3 w r h h2 hv a b c he hc
    · exact idxr_4 w r h h2 hv a b c d he hd
theorem decode_cont (s : ByteArray) (pos : Nat) (h : pos < s.size) (ha : 128 ≤ (s[pos]'h).toNat) : pos + (Utf8.decode s pos).2 ≤ s.size ∧ ∀ (j : Nat) (b : UInt8), pos ≤ j → j < pos + (Utf8.decode s pos).2 → s.data.toList[j]? = some b → 128 ≤ b.toNat := by
  have h0 : ∀ (b : UInt8), s.data.toList[pos]? = some b → 128 ≤ b.toNat := by
    intro b hb
    rw [Lib.data_getElem? s pos h] at hb
    cases hb; exact ha
  have hc : ∀ k : Nat, (decide (pos + k < s.size) && (s.get! (pos + k)).toNat / 64 == 2) = true → pos + k < s.size ∧ ∀ (b : UInt8), s.data.toList[pos + k]? = some b → 128 ≤ b.toNat := by
    intro k hk
    rw [Bool.and_eq_true, decide_eq_true_eq, beq_iff_eq] at hk
    refine ⟨hk.1, fun b hb => ?_⟩
    rw [Lib.data_getElem? s (pos + k) hk.1] at hb
    cases hb
    have e : s.get! (pos + k) = s[pos + k]'hk.1 := by simp [ByteArray.get!, getElem!_pos, hk.1]; rfl
    rw [e] at hk
    omega
  have one : ∀ n, n = 1 → pos + n ≤ s.size ∧ ∀ (j : Nat) (b : UInt8), pos ≤ j → j < pos + n → s.data.toList[j]? = some b → 128 ≤ b.toNat := by
    rintro n rfl
    refine ⟨by omega, fun j b j1 j2 hb => ?_⟩
    obtain rfl : j = pos := by omega
    exact h0 b hb
  have hn : ¬ (s.get! (pos + 0)).toNat < 128 := by rw [get_at s pos h]; omega
  simp only [Utf8.decode, hn, if_false]
  split
  · rename_i c
    rw [Bool.and_eq_true] at c
    have c1 := hc 1 c.2
    split
    · refine ⟨by show pos + 2 ≤ _; omega, fun j b j1 j2 hb => ?_⟩
      have j2' : j < pos + 2 := j2
      rcases (by omega : j = pos ∨ j = pos + 1) with rfl | rfl
      · exact h0 b hb
      · exact c1.2 b hb
    · exact one _ rfl
  · split
    · rename_i c
      rw [Bool.and_eq_true, Bool.and_eq_true] at c
      have c1 := hc 1 c.1.2
      have c2 := hc 2 c.2
      split
      · refine ⟨by show pos + 3 ≤ _; omega, fun j b j1 j2 hb => ?_⟩
        have j2' : j < pos + 3 := j2
        rcases (by omega : j = pos ∨ j = pos + 1 ∨ j = pos + 2) with rfl | rfl | rfl
        · exact h0 b hb
        · exact c1.2 b hb
        · exact c2.2 b hb
      · exact one _ rfl
    · split
      · rename_i c
        rw [Bool.and_eq_true, Bool.and_eq_true, Bool.and_eq_true] at c
        have c1 := hc 1 c.1.1.2
        have c2 := hc 2 c.1.2
        have c3 := hc 3 c.2
        split
        · refine ⟨by show pos + 4 ≤ _; omega, fun j b j1 j2 hb => ?_⟩
          have j2' : j < pos + 4 := j2
          rcases (by omega : j = pos ∨ j = pos + 1 ∨ j = pos + 2 ∨ j = pos + 3) with rfl | rfl | rfl | rfl
          · exact h0 b hb
          · exact c1.2 b hb
          · exact c2.2 b hb
          · exact c3.2 b hb
        · exact one _ rfl
      · exact one _ rfl
/-- a world in which the iterator at block b stands at another place -/
def setIt (w : World) (b : Nat) (s : ByteArray) (p : Nat) : World := { w with heap := w.heap.setIfInBounds b (.stringIter s p) }
theorem setIt_size (w : World) (b : Nat) (s : ByteArray) (p : Nat) : (setIt w b s p).heap.size = w.heap.size := by simp [setIt]
theorem setIt_at {w : World} {b : Nat} {s : ByteArray} {p : Nat} (h : b < w.heap.size) : (setIt w b s p).heap[b]? = some (.stringIter s p) := by simp [setIt, h]
theorem setIt_below {w0 w : World} {b : Nat} {s : ByteArray} {p n : Nat} (h : Below n w0 w) (hb : n ≤ b) : Below n w0 (setIt w b s p) :=
  ⟨h.os, h.tape, h.output, by rw [setIt_size]; exact h.size, fun i hi => by
    rw [← h.block i hi]
    simp only [setIt]
    rw [Array.getElem?_setIfInBounds_ne (by omega)]⟩
theorem next_at {P : Program} {W : World} {b : Nat} {s : ByteArray} {pos : Nat} (hb : W.heap[b]? = some (.stringIter s pos)) (h : pos < s.size) (ty : TypeId) :
    (Instr.next (.pointer (some ⟨b, 0, none⟩)) true ty).run P W = .ok (.tuple #[.bool true, .int .i64 pos, .int .i32 (Utf8.decode s pos).1]) (setIt W b s (pos + (Utf8.decode s pos).2)) := by
  simp only [Instr.next, getObj, setObj, Sem.run_bind, Sem.run, hb, Result.andThen, h, if_true]
  simp [goInt, Sem.run, hb, setIt]
theorem next_end {P : Program} {W : World} {b : Nat} {s : ByteArray} {pos : Nat} (hb : W.heap[b]? = some (.stringIter s pos)) (h : ¬ pos < s.size) (ty : TypeId) :
    (Instr.next (.pointer (some ⟨b, 0, none⟩)) true ty).run P W = .ok (.tuple #[.bool false]) W := by
  simp [Instr.next, getObj, Sem.run, hb, h]
theorem decode_low (s : ByteArray) (pos : Nat) (h : pos < s.size) (ha : (s[pos]'h).toNat < 128) : Utf8.decode s pos = ((s[pos]'h).toNat, 1) := by
  have hn : (s.get! (pos + 0)).toNat < 128 := by rw [get_at s pos h]; exact ha
  simp only [Utf8.decode, hn, if_true]
  rw [get_at s pos h]
set_option maxRecDepth 100000 in
set_option maxHeartbeats 2000000 in
theorem any_short (s : ByteArray) (w : World) (h8 : s.size ≤ 8) : Calls Tryz.prog 105 #[.string s, .string ZC] w fun e w' => e = .returned (.int .i64 (Lib.indexAny s.data.toList [44, 34, 13, 10, 9])) ∧ Below w.heap.size w w' := by
  have h8z : decide ((8 : Int) < (s.size : Int)) = false := decide_eq_false (by omega)
  have HS := Lib.hid (fun W => Tryz.strings_shouldUseASCIISet (s.size : Int) W)
  rw [h8z] at HS
  clear h8z
  go_enter Tryz.func105, Tryz.ntmps105
  go_wp2_with (go_at_call 116; refine (HS.out _).mono ?_; rintro e w' ⟨rfl, hw⟩; rw [hw])
  go_loopg [9, 10] s.size (fun g _ _ wx => ∃ i : Nat, i + g = s.size ∧ Hid (wx.heap[w.heap.size]? = some (.stringIter s i)) ∧ Hid (Below w.heap.size w wx) ∧ Hid (Lib.NoAny s.data.toList [44, 34, 13, 10, 9] i))
  case atStart => exact ⟨0, by omega, Lib.hid (World.iter_heap w s 0), Lib.hid ((Below.refl _ _).alloc (Nat.le_refl _) _), Lib.hid (Lib.NoAny.zero _ _)⟩
  case round =>
    obtain ⟨i, hig, HI, HB, HN⟩ := hrel
    by_cases hi : i < s.size
    · have hnx := fun ty => next_at (P := Tryz.prog) HI.out hi ty
      obtain ⟨x, hx⟩ : ∃ x : UInt8, s[i]'hi = x := ⟨_, rfl⟩
      have Hx := Lib.hid (show s.data.toList[i]? = some x by rw [← hx]; exact Lib.data_getElem? s i hi)
      have hbl := (Array.getElem?_eq_some_iff.1 HI.out).1
      by_cases hx128 : x.toNat < 128
      · have e := decode_low s i hi (by rw [hx]; exact hx128)
        rw [hx] at e
        simp only [e] at hnx
        clear e hx
        have hcon := Lib.contains_iff_indexByte [44, 34, 13, 10, 9] x
        have HR : Hid (∀ W, Calls Tryz.prog 115 #[.string ZC, .int .i32 x.toNat] W fun e w' => e = .returned (.int .i64 (Lib.indexByte [44, 34, 13, 10, 9] x)) ∧ w' = W) := by
          intro W
          have := Tryz.strings_IndexRune_ascii ZC (x.toNat : Int) W (by omega) (by omega)
          rw [show ((x.toNat : Int)).toNat.toUInt8 = x by simp] at this
          exact this
        cases hin : ([44, 34, 13, 10, 9] : List UInt8).contains x
        · rw [hin] at hcon
          have hlt : ¬ ((0 : Int) ≤ Lib.indexByte [44, 34, 13, 10, 9] x) := of_decide_eq_false hcon.symm
          have Hin := Lib.hid hin
          clear hcon hin
          go_wp2_with (go_at_call 115; refine (HR.out _).mono ?_; rintro e w' ⟨rfl, hw⟩; rw [hw])
          go_roundg (s.size - (i + 1))
          case measure => omega
          case rel => exact ⟨i + 1, by omega, Lib.hid (setIt_at hbl), Lib.hid (setIt_below HB.out (Nat.le_refl _)), Lib.hid (HN.out.succ Hx.out Hin.out)⟩
        · rw [hin] at hcon
          have hge : (0 : Int) ≤ Lib.indexByte [44, 34, 13, 10, 9] x := of_decide_eq_true hcon.symm
          have Hin := Lib.hid hin
          clear hcon hin
          go_wp2_with (go_at_call 115; refine (HR.out _).mono ?_; rintro e w' ⟨rfl, hw⟩; rw [hw])
          go_ret
          exact ⟨by rw [Lib.indexAny_hit HN.out Hx.out Hin.out]; rfl, setIt_below HB.out (Nat.le_refl _)⟩
      · have hd := decode_high s i hi (by rw [hx]; omega)
        have hc := decode_cont s i hi (by rw [hx]; omega)
        clear hx
        have HC := Lib.hid hc.2
        have hc1 := hc.1
        clear hc
        generalize Utf8.decode s i = D at *
        obtain ⟨r, n⟩ := D
        have hr : 128 ≤ (r : Int) := by have := hd.1; simp at this; omega
        have hn : 1 ≤ n := hd.2
        have hn2 : i + n ≤ s.size := hc1
        have HC2 := Lib.hid (show ∀ (j : Nat) (b : UInt8), i ≤ j → j < i + n → s.data.toList[j]? = some b → 128 ≤ b.toNat from HC.out)
        clear hd hc1 HC
        have HR := Lib.hid (fun W => idxr_high W (r : Int) hr)
        go_wp2_with (go_at_call 115; refine (HR.out _).mono ?_; rintro e w2 ⟨rfl, hb2⟩; have HB2 := Lib.hid hb2; clear hb2)
        go_roundg (s.size - (i + n))
        case measure => omega
        case rel =>
          refine ⟨i + n, by omega, Lib.hid ?_, Lib.hid ?_, Lib.hid ?_⟩
          · exact (HB2.out.block _ (by rw [setIt_size]; exact hbl)).trans (setIt_at hbl)
          · exact (setIt_below HB.out (Nat.le_refl _)).trans (HB2.out.mono (by rw [setIt_size]; exact Nat.le_of_lt hbl))
          · intro j b hj hb
            by_cases hji : j < i
            · exact HN.out j b hji hb
            · have := HC2.out j b (by omega) hj hb
              have a1 : b ≠ 44 := by rintro rfl; simp at this
              have a2 : b ≠ 34 := by rintro rfl; simp at this
              have a3 : b ≠ 13 := by rintro rfl; simp at this
              have a4 : b ≠ 10 := by rintro rfl; simp at this
              have a5 : b ≠ 9 := by rintro rfl; simp at this
              simp [a1, a2, a3, a4, a5]
    · have hnx := next_end (P := Tryz.prog) HI.out hi
      go_wp2
      go_ret
      have he : i = s.size := by omega
      have HN2 : Lib.NoAny s.data.toList [44, 34, 13, 10, 9] s.size := he ▸ HN.out
      exact ⟨by rw [Lib.indexAny_none (by rw [← Lib.size_eq]; exact HN2)]; rfl, HB.out⟩
theorem any_long (s : ByteArray) (w : World) (h8 : 8 < s.size) (hs : s.size < 4294967281) : Calls Tryz.prog 105 #[.string s, .string ZC] w fun e w' => e = .returned (.int .i64 (Lib.indexAny s.data.toList [44, 34, 13, 10, 9])) ∧ Below w.heap.size w w' := by
  refine (Tryz.strings_IndexAny_long (zero_of_info (show (Tryz.prog.info? 188).map (fun i => (i.zero, i.size)) = some (some (.agg (Array.replicate 256 (.bool false))), 256) by kernel_rfl)).1 s ZC w (by decide) h8 hs (by decide) (by
    intro j b hb
    have : ∀ b ∈ ZC.data.toList, b.toNat < 128 := by decide
    exact this b (List.mem_of_getElem? hb))).mono fun e w' ⟨h1, h2⟩ => ⟨h1, ?_⟩
  rw [h2]
  exact ((Below.refl _ _).alloc (Nat.le_refl _) _).alloc (by simp) _
set_option maxHeartbeats 1000000 in
theorem contains_any (s : ByteArray) (w : World) (hs : s.size < 4294967281) : Calls Tryz.prog 93 #[.string s, .string ZC] w fun e w' => e = .returned (.bool (Lib.containsAny s.data.toList [44, 34, 13, 10, 9])) ∧ Below w.heap.size w w' := by
  have H : Hid (Calls Tryz.prog 105 #[.string s, .string ZC] w fun e w' => e = .returned (.int .i64 (Lib.indexAny s.data.toList [44, 34, 13, 10, 9])) ∧ Below w.heap.size w w') := Lib.hid (by
    by_cases h8 : s.size ≤ 8
    · exact any_short s w h8
    · exact any_long s w (by omega) hs)
  clear hs
  go_enter Tryz.func93, Tryz.ntmps93
  go_wp2_with (go_at_call 105; refine H.out.mono ?_; rintro e w' ⟨rfl, hw⟩)
  go_ret
  exact ⟨rfl, hw⟩
end
end Go.Proofs.YtappphffbnkloaaGreatDoor.Sht

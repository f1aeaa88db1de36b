/- What ParseInstant asks of Go's library: strings.Cut at one byte, Contains at one byte, IndexAny at "Z+-". -/
import Derived.Test.YtiklakkkgmilnaaDoorShelf
import Derived.Test.YtiklakkkgmilnaaDoorCalAnyX
import Derived.Test.YtiklakkkgmilnaaDoorVWords
import Derived.Lib.IndexLaws
import Derived.Lib.IndexAny
import Derived.WalkKit
import Derived.WalkSmall
import Derived.Deep.QuietTactic
import Derived.BigQuiet
import Derived.Lib.Hide
import Derived.IntWalk
import Derived.Deep.WholeRow
set_option linter.unusedVariables false
set_option linter.unusedSimpArgs false
namespace Go.Proofs.YtiklakkkgmilnaaDoor.Ext
open Go.RowKit Go.Proofs.YtiklakkkgmilnaaDoorW.PrintWords

set_option maxRecDepth 100000 in
set_option maxHeartbeats 1000000 in
theorem cut_no (s : ByteArray) (W : World) (h : Lib.indexByte s.data.toList 84 = -1) :
    Calls Tryd.prog 61 #[.string s, .string (⟨#[84]⟩ : ByteArray)] W fun e w' => e = .returned (.tuple #[.string s, .string (⟨#[]⟩ : ByteArray), .bool false]) ∧ Below W.heap.size W w' := by
  have C : ∀ W, Calls Tryd.prog 97 #[.string s, .string (⟨#[84]⟩ : ByteArray)] W fun e w' => e = .returned (.tuple #[.string s, .string (⟨#[]⟩ : ByteArray), .bool false]) ∧ Below W.heap.size W w' := by
    intro W
    have HI := Lib.hid (Tryd.stringslite_Index_one s 84 W)
    rw [h] at HI
    clear h
    go_enter Tryd.func97, Tryd.ntmps97
    go_wp2_with (go_at_call 115; refine HI.out.mono ?_; rintro e w1 ⟨rfl, rfl⟩)
    go_ret3
    exact ⟨rfl, Below.refl _ _⟩
  have HC := Lib.hid (C W)
  clear C h
  go_enter Tryd.func61, Tryd.ntmps61
  go_wp2_with (go_at_call 97; refine HC.out.mono ?_; rintro e w1 ⟨rfl, hb⟩)
  go_ret3
  exact ⟨rfl, hb⟩
set_option maxRecDepth 100000 in
set_option maxHeartbeats 1000000 in
theorem cut_yes (s : ByteArray) (i : Nat) (W : World) (hs : s.size ≤ 64) (hi : i < s.size) (h : Lib.indexByte s.data.toList 84 = i) :
    Calls Tryd.prog 61 #[.string s, .string (⟨#[84]⟩ : ByteArray)] W fun e w' => e = .returned (.tuple #[.string (s.extract 0 i), .string (s.extract (i + 1) s.size), .bool true]) ∧ Below W.heap.size W w' := by
  have C : ∀ W, Calls Tryd.prog 97 #[.string s, .string (⟨#[84]⟩ : ByteArray)] W fun e w' => e = .returned (.tuple #[.string (s.extract 0 i), .string (s.extract (i + 1) s.size), .bool true]) ∧ Below W.heap.size W w' := by
    intro W
    have HI := Lib.hid (Tryd.stringslite_Index_one s 84 W)
    rw [h] at HI
    clear h
    have e1 : IntKind.i64.wrap ((i : Int) + 1) = (i : Int) + 1 := IntWalk.i64_in _ (by omega)
    have e2 : ((i : Int) + 1).toNat = i + 1 := by omega
    have e3 : (0 : Int) ≤ (i : Int) + 1 := by omega
    have e4 : (i : Int) + 1 ≤ (s.size : Int) := by omega
    have e5 : (i : Int) ≤ (s.size : Int) := by omega
    have e6 : i ≤ s.size := by omega
    have e7 : i + 1 ≤ s.size := by omega
    go_enter Tryd.func97, Tryd.ntmps97
    go_wp2_with (go_at_call 115; refine HI.out.mono ?_; rintro e w1 ⟨rfl, rfl⟩)
    go_quiet (fail)
    go_wp2
    go_ret3
    exact ⟨rfl, Drawn0.below ⟨⟨_, rfl⟩⟩⟩
  have HC := Lib.hid (C W)
  clear C h hs hi
  go_enter Tryd.func61, Tryd.ntmps61
  go_wp2_with (go_at_call 97; refine HC.out.mono ?_; rintro e w1 ⟨rfl, hb⟩)
  go_ret3
  exact ⟨rfl, hb⟩
theorem con_call (s : ByteArray) (W : World) : Calls Tryd.prog 62 #[.string s, .string (⟨#[45]⟩ : ByteArray)] W fun e w' => e = .returned (.bool (decide (0 ≤ Lib.indexByte s.data.toList 45))) ∧ Below W.heap.size W w' :=
  (Tryd.strings_Contains_one s 45 W).mono fun _ _ h => ⟨h.1, h.2 ▸ Below.refl _ _⟩
/-- (kept for the texts that name it: no text is left out) -/
def odd8 (s : ByteArray) : Bool := false
theorem any_call (s : ByteArray) (W : World) (hs : s.size ≤ 64) (ho : odd8 s = false) : Calls Tryd.prog 63 #[.string s, .string (⟨#[90, 43, 45]⟩ : ByteArray)] W fun e w' => e = .returned (.int .i64 (Lib.indexAny s.data.toList [90, 43, 45])) ∧ Below W.heap.size W w' := by
  have hc : ∀ (j : Nat) b, (⟨#[90, 43, 45]⟩ : ByteArray).data.toList[j]? = some b → b.toNat < 128 := by
    intro j b h
    have : b ∈ [(90 : UInt8), 43, 45] := List.mem_of_getElem? h
    simp at this
    rcases this with rfl | rfl | rfl <;> decide
  by_cases h8 : s.size ≤ 8
  · exact any_short s W h8
  · refine (Tryd.strings_IndexAny_long (zero_of_info (P := Tryd.prog) (t := 124) (v := .agg (Array.replicate 256 (.bool false))) (n := 256) (by kernel_rfl)).1 s (⟨#[90, 43, 45]⟩ : ByteArray) W (by decide) (by omega) (by omega) (by decide) hc).mono fun e w' h => ⟨h.1, ?_⟩
    rw [h.2]
    exact ((Below.refl _ _).alloc (Nat.le_refl _) _).alloc (by simp) _
end Go.Proofs.YtiklakkkgmilnaaDoor.Ext

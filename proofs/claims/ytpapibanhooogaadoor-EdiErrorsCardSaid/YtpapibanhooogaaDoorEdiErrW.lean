/- The law EdiErrors, walked. -/
import Derived.Test.YtpapibanhooogaaDoorEdiIs
import Derived.Test.YtpapibanhooogaaDoorEdiLaid
import Derived.Below
import Derived.Deep.RegionWith
import Derived.Tactics
set_option linter.unusedVariables false
set_option linter.unusedSimpArgs false
namespace Go.Proofs.YtpapibanhooogaaDoor.Is
open Go.RowKit Go.Extern.Stop Go.Stop Go.Extern
/-- the error with a code lies in this variable -/
def gv (c : Int) : Nat := if c = 6 then 0 else if c < 6 then c.toNat else c.toNat - 1
structure SF (W : World) (A : Nat → Addr) : Prop where
  hv : ∀ g, g < 11 → W.cell? ⟨g, 0, none⟩ = some (.iface 67 (.pointer (some (A g))))
  hn : ∀ g g', g < 11 → g' < 11 → g ≠ g' → A g ≠ A g'
  hb : ∀ g, g < 11 → ∃ cs t, W.heap[(A g).block]? = some (.cells cs t (0, 0))
  hs : 11 ≤ W.heap.size
theorem SF.below {W W' : World} {A : Nat → Addr} (h : SF W A) (k : Below W.heap.size W W') : SF W' A :=
  ⟨fun g hg => (k.cell (p := ⟨g, 0, none⟩) (by have := h.hs; show g < _; omega)).trans (h.hv g hg), h.hn, fun g hg => by
    obtain ⟨cs, t, hc⟩ := h.hb g hg
    exact ⟨cs, t, (k.block _ (Array.getElem?_eq_some_iff.1 hc).1).trans hc⟩, Nat.le_trans h.hs k.size⟩
theorem sentinel_calls (W : World) (A : Nat → Addr) (hS : SF W A) (c : Int) (h1 : 1 ≤ c) (h2 : c ≤ 11) :
    Calls Tryd.prog 4 #[.int .i64 c] W fun e w' => e = .returned (.iface 67 (.pointer (some (A (gv c))))) ∧ w' = W := by
  have h0 := hS.hv 0 (by omega)
  have g1 := hS.hv 1 (by omega)
  have g2 := hS.hv 2 (by omega)
  have h3 := hS.hv 3 (by omega)
  have h4 := hS.hv 4 (by omega)
  have h5 := hS.hv 5 (by omega)
  have h6 := hS.hv 6 (by omega)
  have h7 := hS.hv 7 (by omega)
  have h8 := hS.hv 8 (by omega)
  have h9 := hS.hv 9 (by omega)
  have h10 := hS.hv 10 (by omega)
  clear hS
  have hc : c = 1 ∨ c = 2 ∨ c = 3 ∨ c = 4 ∨ c = 5 ∨ c = 6 ∨ c = 7 ∨ c = 8 ∨ c = 9 ∨ c = 10 ∨ c = 11 := by omega
  clear h1 h2
  rcases hc with rfl | rfl | rfl | rfl | rfl | rfl | rfl | rfl | rfl | rfl | rfl
  all_goals
    go_enter Tryd.func4, Tryd.ntmps4
    go_wp2
    go_ret
    exact ⟨rfl, rfl⟩
theorem gv_lt {c : Int} (h1 : 1 ≤ c) (h2 : c ≤ 11) : gv c < 11 := by unfold gv; split <;> (try split) <;> omega
theorem gv_inj {c d : Int} (h1 : 1 ≤ c) (h2 : c ≤ 11) (h3 : 1 ≤ d) (h4 : d < c) : gv c ≠ gv d := by unfold gv; split <;> (try split) <;> (try split) <;> (try split) <;> omega
theorem other_calls (W : World) (A : Nat → Addr) (hS : SF W A) (c d : Int) (h1 : 1 ≤ c) (h2 : c ≤ 11) (h3 : 1 ≤ d) (h4 : d ≤ 11) (hne : gv c ≠ gv d) :
    Calls Tryd.prog 5 #[.iface 67 (.pointer (some (A (gv c)))), .iface 67 (.pointer (some (A (gv d))))] W fun e w' => e = .returned (.bool false) ∧ w' = W := by
  obtain ⟨ca, ta, ha⟩ := hS.hb _ (gv_lt h1 h2)
  obtain ⟨cb, tb, hb⟩ := hS.hb _ (gv_lt h3 h4)
  exact is_other _ _ ca cb ta tb W (hS.hn _ _ (gv_lt h1 h2) (gv_lt h3 h4) hne) ha hb
theorem unwrap_nil (W : World) : Calls Tryd.prog 7 #[.pointer none] W fun e w' => e = .returned .nilIface ∧ w' = W := by
  go_enter Tryd.func7, Tryd.ntmps7
  go_wp2
  go_ret
  exact ⟨rfl, rfl⟩
theorem error_nil (W : World) : Calls Tryd.prog 6 #[.pointer none] W fun e w' => e = .returned (.string ⟨#[]⟩) ∧ w' = W := by
  go_enter Tryd.func6, Tryd.ntmps6
  go_wp2
  go_ret
  exact ⟨rfl, rfl⟩
theorem unwrap_some (b : Nat) (v : Value) (W : World) (h : W.cell? ⟨b, 2, none⟩ = some v) (hi : ∃ t u, v = .iface t u) : Calls Tryd.prog 7 #[.pointer (some ⟨b, 0, none⟩)] W fun e w' => e = .returned v ∧ w' = W := by
  obtain ⟨t, u, rfl⟩ := hi
  go_enter Tryd.func7, Tryd.ntmps7
  go_wp2
  go_ret
  exact ⟨rfl, rfl⟩
theorem es_error (a : Addr) (s : ByteArray) (W : World) (h : W.cell? a = some (.string s)) : Calls Tryd.prog 52 #[.pointer (some a)] W fun e w' => e = .returned (.string s) ∧ w' = W := by
  obtain ⟨b, o, f⟩ := a
  go_enter Tryd.func52, Tryd.ntmps52
  go_wp2
  go_ret
  exact ⟨rfl, rfl⟩
theorem small_calls (W : World) (n : Int) (hn : n = 2 ∨ n = 3) : Calls Tryd.prog 14 #[.int .i64 n] W fun e w' => e = .returned (.string (if n = 2 then ⟨#[50]⟩ else ⟨#[51]⟩)) ∧ w' = W := by
  rcases hn with rfl | rfl
  all_goals
    go_enter Tryd.func14, Tryd.ntmps14
    go_wp2
    go_ret
    exact ⟨rfl, rfl⟩
theorem formatInt_calls (W : World) (n : Int) (hn : n = 2 ∨ n = 3) : Calls Tryd.prog 13 #[.int .i64 n, .int .i64 10] W fun e w' => e = .returned (.string (if n = 2 then ⟨#[50]⟩ else ⟨#[51]⟩)) ∧ w' = W := by
  have h := small_calls W n hn
  rcases hn with rfl | rfl
  all_goals
    go_enter Tryd.func13, Tryd.ntmps13
    go_wp2_with (go_at_call 14; refine h.mono ?_; rintro e w' ⟨rfl, rfl⟩)
    go_ret
    exact ⟨rfl, rfl⟩
theorem itoa1_calls (W : World) (n : Int) (hn : n = 2 ∨ n = 3) : Calls Tryd.prog 12 #[.int .i64 n] W fun e w' => e = .returned (.string (if n = 2 then ⟨#[50]⟩ else ⟨#[51]⟩)) ∧ w' = W := by
  have h := formatInt_calls W n hn
  rcases hn with rfl | rfl
  all_goals
   go_enter Tryd.func12, Tryd.ntmps12
   go_wp2_with (go_at_call 13; refine h.mono ?_; rintro e w' ⟨rfl, rfl⟩)
   go_ret
   exact ⟨rfl, rfl⟩
theorem itoa_calls (W : World) (n : Int) (hn : n = 2 ∨ n = 3) : Calls Tryd.prog 10 #[.int .i64 n] W fun e w' => e = .returned (.string (if n = 2 then ⟨#[50]⟩ else ⟨#[51]⟩)) ∧ w' = W := by
  have h := itoa1_calls W n hn
  rcases hn with rfl | rfl
  all_goals
   go_enter Tryd.func10, Tryd.ntmps10
   go_wp2_with (go_at_call 12; refine h.mono ?_; rintro e w' ⟨rfl, rfl⟩)
   go_ret
   exact ⟨rfl, rfl⟩
theorem methodError (v : Value) (w : World) : (Go.method 203 67 v "Error").run Tryd.prog w = .ok (52, v) w := by kernel_rfl
theorem text_calls (a : Addr) (s : ByteArray) (W : World) (h : W.cell? a = some (.string s)) : Calls Tryd.prog 11 #[.iface 67 (.pointer (some a))] W fun e w' => e = .returned (.string s) ∧ w' = W := by
  have hm := methodError
  have hc := es_error a s W h
  go_enter Tryd.func11, Tryd.ntmps11
  go_wp2_with (go_at_call 52; refine hc.mono ?_; rintro e w' ⟨rfl, rfl⟩)
  go_ret
  exact ⟨rfl, rfl⟩
end Go.Proofs.YtpapibanhooogaaDoor.Is

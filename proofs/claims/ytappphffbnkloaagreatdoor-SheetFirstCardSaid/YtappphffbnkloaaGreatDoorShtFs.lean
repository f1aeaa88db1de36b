/- SheetFirst, walked. -/
import Derived.Test.YtappphffbnkloaaGreatDoorShtLv
import Derived.Test.YtappphffbnkloaaGreatDoorShtFj
import Derived.Laws.Strings2
import Derived.Deep.QuietTactic
import Derived.BigQuiet
set_option linter.unusedVariables false
set_option linter.unusedSimpArgs false
namespace Go.Proofs.YtappphffbnkloaaGreatDoor.Sht
open Go Go.RowKit Go.Proofs.YtappphffbnkloaaGreatDoorW.PrintWords Go.Proofs.YtappphffbnkloaaGreatDoor.GS
attribute [local go_sem ↓] Go.wp_at_zero Go.wp_at_succ
theorem parse_bound {t : List UInt8} {l c e : Nat} (h : (parseO t).2 = some (l, c, e)) : l ≤ 262145 ∧ c ≤ 262144 ∧ coded e ∧ e ≠ 9 := by
  rw [parse_flt] at h
  by_cases h0 : (RS.new.feed t).fault = none
  · rw [if_pos h0] at h
    rw [(fin_bare (RS.new.feed t)).2] at h
    exact over_fault h0 h
  · rw [if_neg h0] at h
    obtain ⟨a, b, d, _, f⟩ := fed_fault h
    exact ⟨a, b, d, f⟩
theorem offset_r (t : ByteArray) (u v : List UInt8) (l c : Nat) (ht : L8 t = u ++ v) (hp : (l, c) = posO u) (hsz : t.size ≤ 4611686018427387904) (w : World) :
    Calls Tryz.prog 26 #[.string t, I l, I c] w fun e w' => e = .returned (.int .i64 (u.length : Int)) ∧ ∃ q, w' = w.drewN q := by
  obtain ⟨k, hk⟩ := offset_ev t u v l c ht hp hsz
  refine (larderlaw04_offset.calls k t _ _ _ w hk).mono fun e w' ⟨h1, ⟨h2⟩⟩ => ⟨h1, h2⟩
theorem L8_cut (t : ByteArray) (u v : List UInt8) (h : L8 t = u ++ v) : (t.extract 0 u.length).data.toList = u := by
  rw [ByteArray.data_extract, Array.toList_extract, List.extract_eq_take_drop]
  show ((L8 t).drop 0).take (u.length - 0) = u
  rw [h]; simp
theorem cut_more (t m : ByteArray) (u v : List UInt8) (x : UInt8) (n : Nat) (hn : n = u.length) (h : t.data.toList = u ++ x :: v) : n < t.size ∧ (t.extract 0 (n + 1) ++ m).data.toList = u ++ x :: m.data.toList ∧ (t.extract 0 (n + 1) ++ m).size ≤ t.size + m.size ∧ (t.extract 0 (n + 1)).size ≤ t.size := by
  subst hn
  have hl : u.length < t.size := by rw [← L8_len t, show L8 t = u ++ x :: v from h]; simp
  refine ⟨hl, ?_, by rw [ByteArray.size_append, ByteArray.size_extract]; omega, by rw [ByteArray.size_extract]; omega⟩
  have := L8_cut t (u ++ [x]) v (by rw [show L8 t = u ++ x :: v from h]; simp)
  rw [List.length_append, List.length_singleton] at this
  rw [ByteArray.data_append, Array.toList_append, this]
  simp
theorem err_at {A : Nat → Addr} {w w6 w7 : World} {tb : Nat → Int} {g l c e : Nat} {sx : ByteArray} (hI : IT w (Itoa.txt tb) 499999) (h6 : Below w.heap.size w w6) (hs : w.cell? (A e) = some (.string sx)) (hz : sx.size < 1000) (hb : l ≤ 262145 ∧ c ≤ 262144) (k : Below w6.heap.size w6 w7) (hg : w6.heap[g]? = some (.cells #[I l, I c, errV A e] 70 (0, 0))) :
    Calls Tryz.prog 28 #[PT g] w7 fun ev w' => ev = .returned (.string (ftext (Itoa.txt tb) l c sx)) ∧ Below w7.heap.size w7 w' := by
  have h7 : Below w.heap.size w w7 := h6.trans (k.mono h6.size)
  exact fault_error (Itoa.txt tb) g l c (A e) sx w7 (hI.below h7) (by omega) (by omega) ((k.block g (blt hg)).trans hg) ((h7.cell (World.block_lt_of_cell? w _ hs)).trans hs) hz
/-- a fault, where it lies -/
abbrev FltB (A : Nat → Addr) (W : World) (g l c e : Nat) : Prop := W.heap[g]? = some (.cells #[I l, I c, errV A e] 70 (0, 0))
set_option maxHeartbeats 16000000 in
set_option maxRecDepth 100000 in
theorem sheetFirst_calls {A : Nat → Addr} (w : World) (hF : SF w A) (hX : ∀ c, coded c → ∃ s : ByteArray, w.cell? (A c) = some (.string s) ∧ s.size < 1000) (hE : ET w) (hM : ML w) (tb : Nat → Int) (hT : Itoa.Tb w tb) (t m : ByteArray) (ht : t.size ≤ 140737488355328) (hm : m.size ≤ 140737488355328) :
    Calls Tryz.prog 5 #[.string t, .string m] w fun e w' => e = .returned (.bool true) ∧ Below w.heap.size w w' := by
  have HLv := Lib.hid (lives_r w hF hE hM)
  have HP : Hid (∀ (t : ByteArray) w1, Below w.heap.size w w1 → t.size ≤ 4611686018427387904 → Calls Tryz.prog 24 #[.string t] w1 (Parsed A w1 t.data.toList)) := Lib.hid fun t w1 k ht => parse_r w1 (hF.below k) (hE.below k) t ht
  have HF := Lib.hid hF
  have HE := Lib.hid hE
  have HXt := Lib.hid hX
  have HI := Lib.hid (it_any hT)
  have mF := methodFault
  clear hF hE hM hX hT
  obtain ⟨o, ho⟩ : ∃ o, o = (parseO t.data.toList).2 := ⟨_, rfl⟩
  have HO := Lib.hid ho.symm
  cases o with
  | none =>
    clear ho
    go_enter Tryz.func5, Tryz.ntmps5
    go_wp2_with (first
      | (go_at_call 23; (with_reducible refine HLv.out.mono ?_); rintro e w1 ⟨rfl, hb⟩; have HB1 := Lib.hid hb; clear hb)
      | (go_at_call 24; (with_reducible refine (HP.out t _ HB1.out (by omega)).mono ?_); rintro e w2 ⟨vl, ve, rfl, hg, hf, hb⟩; rw [HO.out] at hf; obtain rfl : ve = .nilIface := hf; have HB2 := Lib.hid (HB1.out.trans (hb.mono HB1.out.size)); clear hg hb))
    go_ret
    exact ⟨rfl, HB2.out⟩
  | some f =>
    obtain ⟨l, c, e⟩ := f
    obtain ⟨b1, b2, b3, b4⟩ := parse_bound ho.symm
    obtain ⟨u, v, hu, hp, hA, hB⟩ := first_law t.data.toList l c e ho.symm
    have hcut := L8_cut t u v hu
    have hlen : u.length ≤ t.size := by rw [← L8_len t, show L8 t = u ++ v from hu]; simp
    have HOf := Lib.hid (fun w1 => offset_r t u v l c hu hp (by omega) w1)
    obtain ⟨n, hn⟩ : ∃ n, n = u.length := ⟨_, rfl⟩
    rw [← hn] at hcut hlen HOf
    have hsz1 : (t.extract 0 n).size ≤ 4611686018427387904 := by rw [ByteArray.size_extract]; omega
    have HP2 : Hid (∀ w1, Below w.heap.size w w1 → Calls Tryz.prog 24 #[.string (t.extract 0 n)] w1 (Parsed A w1 u)) := Lib.hid fun w1 k => by
      have := HP.out (t.extract 0 n) w1 k hsz1
      rw [hcut] at this
      exact this
    have HA := Lib.hid hA
    have HB := Lib.hid hB
    have HU := Lib.hid (show t.data.toList = u ++ v from hu)
    have HN := Lib.hid hn
    have HC : Hid (coded e ∧ l ≤ 262145 ∧ c ≤ 262144) := Lib.hid ⟨b3, b1, b2⟩
    clear hA hB hsz1 hcut hu hp ho hn b1 b2 b3 b4
    go_enter Tryz.func5, Tryz.ntmps5
    go_wp2_with (first
      | (go_at_call 23; (with_reducible refine HLv.out.mono ?_); rintro e w1 ⟨rfl, hb⟩; have HB1 := Lib.hid hb; clear hb)
      | (go_at_call 24; (with_reducible refine (HP.out t _ HB1.out (by omega)).mono ?_); rintro ev w2 ⟨vl, ve, rfl, hg, hf, hb⟩; rw [HO.out] at hf; obtain ⟨_, g, _, rfl, hgc⟩ := hf; have HB2 := Lib.hid (HB1.out.trans (hb.mono HB1.out.size)); have HG2 : Hid (FltB A w2 g l c e) := Lib.hid hgc; have HAs := Lib.hid (as_done g w2.heap.size (.pointer none) (w2.alloc (.cells #[.pointer none] 65)) (((HE.out.below HB2.out).below ((Below.refl _ _).alloc (Nat.le_refl _) _))) (by simp) (by simp)); clear hg hb hgc)
      | (go_at_call 25; (with_reducible refine HAs.out.mono ?_); rintro ev w3 ⟨rfl, hd⟩; obtain ⟨HB23, HG3, d0⟩ := known_facts ((Below.refl _ w2).alloc (Nat.le_refl _) _) (by simp) ((Below.heap_alloc w2 _ g (blt HG2.out)).trans HG2.out) (blt HG2.out) hd; have HB3 := Lib.hid (HB2.out.trans (HB23.out.mono HB2.out.size)); have d1 := (bcell HG3.out 0).trans rfl; have d2 := (bcell HG3.out 1).trans rfl; clear hd))
    go_quiet ((go_at_call 26; exact Calls.quiet_of (HOf.out _)))
    -- THE CASES
    rcases (show e = 1 ∨ e = 8 ∨ e = 3 ∨ e = 20 ∨ (e ≠ 1 ∧ e ≠ 8 ∧ e ≠ 3 ∧ e ≠ 20) by omega) with rfl | rfl | rfl | rfl | ⟨n1, n8, n3, n20⟩
    · rcases HA.out with hfu | ⟨l5, c5, e5, hfu, rfl | rfl | ⟨rfl, h20⟩⟩
      · have HFu := Lib.hid hfu
        clear hfu
        go_wp2_with (first
          | (go_at_call 24; (with_reducible refine (HP2.out _ (belowN HB3.out _)).mono ?_); rintro ev w5 ⟨vl5, ve5, rfl, hg5, hf5, hb5⟩; rw [HFu.out] at hf5; obtain rfl : ve5 = .nilIface := hf5; have HB5 := Lib.hid ((belowN HB3.out _).trans (hb5.mono HB3.out.size)); have HG5 : Hid (FltB A w5 g l c 1) := Lib.hid ((hb5.block g (blt HG3.out)).trans HG3.out); have HS5 := Lib.hid (HF.out.below HB5.out); have e20 : w5.cell? ⟨0, 0, none⟩ = some (errV A 20) := HS5.out.hv 20 (cod' (by omega)); have e3 : w5.cell? ⟨1, 0, none⟩ = some (errV A 3) := HS5.out.hv 3 (cod' (by omega)); have e1 : w5.cell? ⟨2, 0, none⟩ = some (errV A 1) := HS5.out.hv 1 (cod' (by omega)); have e8 : w5.cell? ⟨3, 0, none⟩ = some (errV A 8) := HS5.out.hv 8 (cod' (by omega)); clear hg5 hb5)
          | (go_at_call 27; (with_reducible refine (is_nil (A 20) _).mono ?_); rintro ev w7 ⟨rfl, rfl⟩)
          | (go_at_call 27; (with_reducible refine (is_sf A g 1 20 _ _ w5 HS5.out HC.out.1 (cod' (by omega)) HG5.out).mono ?_); rintro ev w7 ⟨rfl, rfl⟩)
          | (go_at_call 27; (with_reducible refine (is_nil (A 3) _).mono ?_); rintro ev w7 ⟨rfl, rfl⟩)
          | (go_at_call 27; (with_reducible refine (is_sf A g 1 3 _ _ w5 HS5.out HC.out.1 (cod' (by omega)) HG5.out).mono ?_); rintro ev w7 ⟨rfl, rfl⟩)
          | (go_at_call 27; (with_reducible refine (is_nil (A 1) _).mono ?_); rintro ev w7 ⟨rfl, rfl⟩)
          | (go_at_call 27; (with_reducible refine (is_sf A g 1 1 _ _ w5 HS5.out HC.out.1 (cod' (by omega)) HG5.out).mono ?_); rintro ev w7 ⟨rfl, rfl⟩)
          | (go_at_call 27; (with_reducible refine (is_nil (A 8) _).mono ?_); rintro ev w7 ⟨rfl, rfl⟩)
          | (go_at_call 27; (with_reducible refine (is_sf A g 1 8 _ _ w5 HS5.out HC.out.1 (cod' (by omega)) HG5.out).mono ?_); rintro ev w7 ⟨rfl, rfl⟩))
        go_ret
        exact ⟨rfl, HB5.out⟩
      · have HFu := Lib.hid hfu
        clear hfu
        go_wp2_with (first
          | (go_at_call 24; (with_reducible refine (HP2.out _ (belowN HB3.out _)).mono ?_); rintro ev w5 ⟨vl5, ve5, rfl, hg5, hf5, hb5⟩; rw [HFu.out] at hf5; obtain ⟨_, g5, _, rfl, hh5⟩ := hf5; have HG5f := Lib.hid hh5; have HB5 := Lib.hid ((belowN HB3.out _).trans (hb5.mono HB3.out.size)); have HG5 : Hid (FltB A w5 g l c 1) := Lib.hid ((hb5.block g (blt HG3.out)).trans HG3.out); have HS5 := Lib.hid (HF.out.below HB5.out); have e20 : w5.cell? ⟨0, 0, none⟩ = some (errV A 20) := HS5.out.hv 20 (cod' (by omega)); have e3 : w5.cell? ⟨1, 0, none⟩ = some (errV A 3) := HS5.out.hv 3 (cod' (by omega)); have e1 : w5.cell? ⟨2, 0, none⟩ = some (errV A 1) := HS5.out.hv 1 (cod' (by omega)); have e8 : w5.cell? ⟨3, 0, none⟩ = some (errV A 8) := HS5.out.hv 8 (cod' (by omega)); clear hg5 hb5)
          | (go_at_call 27; (with_reducible refine (is_sf A g5 1 20 _ _ w5 HS5.out (cod' (by omega)) (cod' (by omega)) HG5f.out).mono ?_); rintro ev w7 ⟨rfl, rfl⟩)
          | (go_at_call 27; (with_reducible refine (is_sf A g 1 20 _ _ w5 HS5.out HC.out.1 (cod' (by omega)) HG5.out).mono ?_); rintro ev w7 ⟨rfl, rfl⟩)
          | (go_at_call 27; (with_reducible refine (is_sf A g5 1 3 _ _ w5 HS5.out (cod' (by omega)) (cod' (by omega)) HG5f.out).mono ?_); rintro ev w7 ⟨rfl, rfl⟩)
          | (go_at_call 27; (with_reducible refine (is_sf A g 1 3 _ _ w5 HS5.out HC.out.1 (cod' (by omega)) HG5.out).mono ?_); rintro ev w7 ⟨rfl, rfl⟩)
          | (go_at_call 27; (with_reducible refine (is_sf A g5 1 1 _ _ w5 HS5.out (cod' (by omega)) (cod' (by omega)) HG5f.out).mono ?_); rintro ev w7 ⟨rfl, rfl⟩)
          | (go_at_call 27; (with_reducible refine (is_sf A g 1 1 _ _ w5 HS5.out HC.out.1 (cod' (by omega)) HG5.out).mono ?_); rintro ev w7 ⟨rfl, rfl⟩)
          | (go_at_call 27; (with_reducible refine (is_sf A g5 1 8 _ _ w5 HS5.out (cod' (by omega)) (cod' (by omega)) HG5f.out).mono ?_); rintro ev w7 ⟨rfl, rfl⟩)
          | (go_at_call 27; (with_reducible refine (is_sf A g 1 8 _ _ w5 HS5.out HC.out.1 (cod' (by omega)) HG5.out).mono ?_); rintro ev w7 ⟨rfl, rfl⟩))
        go_ret
        exact ⟨rfl, HB5.out⟩
      · have HFu := Lib.hid hfu
        clear hfu
        go_wp2_with (first
          | (go_at_call 24; (with_reducible refine (HP2.out _ (belowN HB3.out _)).mono ?_); rintro ev w5 ⟨vl5, ve5, rfl, hg5, hf5, hb5⟩; rw [HFu.out] at hf5; obtain ⟨_, g5, _, rfl, hh5⟩ := hf5; have HG5f := Lib.hid hh5; have HB5 := Lib.hid ((belowN HB3.out _).trans (hb5.mono HB3.out.size)); have HG5 : Hid (FltB A w5 g l c 1) := Lib.hid ((hb5.block g (blt HG3.out)).trans HG3.out); have HS5 := Lib.hid (HF.out.below HB5.out); have e20 : w5.cell? ⟨0, 0, none⟩ = some (errV A 20) := HS5.out.hv 20 (cod' (by omega)); have e3 : w5.cell? ⟨1, 0, none⟩ = some (errV A 3) := HS5.out.hv 3 (cod' (by omega)); have e1 : w5.cell? ⟨2, 0, none⟩ = some (errV A 1) := HS5.out.hv 1 (cod' (by omega)); have e8 : w5.cell? ⟨3, 0, none⟩ = some (errV A 8) := HS5.out.hv 8 (cod' (by omega)); clear hg5 hb5)
          | (go_at_call 27; (with_reducible refine (is_sf A g5 8 20 _ _ w5 HS5.out (cod' (by omega)) (cod' (by omega)) HG5f.out).mono ?_); rintro ev w7 ⟨rfl, rfl⟩)
          | (go_at_call 27; (with_reducible refine (is_sf A g 1 20 _ _ w5 HS5.out HC.out.1 (cod' (by omega)) HG5.out).mono ?_); rintro ev w7 ⟨rfl, rfl⟩)
          | (go_at_call 27; (with_reducible refine (is_sf A g5 8 3 _ _ w5 HS5.out (cod' (by omega)) (cod' (by omega)) HG5f.out).mono ?_); rintro ev w7 ⟨rfl, rfl⟩)
          | (go_at_call 27; (with_reducible refine (is_sf A g 1 3 _ _ w5 HS5.out HC.out.1 (cod' (by omega)) HG5.out).mono ?_); rintro ev w7 ⟨rfl, rfl⟩)
          | (go_at_call 27; (with_reducible refine (is_sf A g5 8 1 _ _ w5 HS5.out (cod' (by omega)) (cod' (by omega)) HG5f.out).mono ?_); rintro ev w7 ⟨rfl, rfl⟩)
          | (go_at_call 27; (with_reducible refine (is_sf A g 1 1 _ _ w5 HS5.out HC.out.1 (cod' (by omega)) HG5.out).mono ?_); rintro ev w7 ⟨rfl, rfl⟩)
          | (go_at_call 27; (with_reducible refine (is_sf A g5 8 8 _ _ w5 HS5.out (cod' (by omega)) (cod' (by omega)) HG5f.out).mono ?_); rintro ev w7 ⟨rfl, rfl⟩)
          | (go_at_call 27; (with_reducible refine (is_sf A g 1 8 _ _ w5 HS5.out HC.out.1 (cod' (by omega)) HG5.out).mono ?_); rintro ev w7 ⟨rfl, rfl⟩))
        go_ret
        exact ⟨rfl, HB5.out⟩
      · exact absurd h20 (by omega)
    · rcases HA.out with hfu | ⟨l5, c5, e5, hfu, rfl | rfl | ⟨rfl, h20⟩⟩
      · have HFu := Lib.hid hfu
        clear hfu
        go_wp2_with (first
          | (go_at_call 24; (with_reducible refine (HP2.out _ (belowN HB3.out _)).mono ?_); rintro ev w5 ⟨vl5, ve5, rfl, hg5, hf5, hb5⟩; rw [HFu.out] at hf5; obtain rfl : ve5 = .nilIface := hf5; have HB5 := Lib.hid ((belowN HB3.out _).trans (hb5.mono HB3.out.size)); have HG5 : Hid (FltB A w5 g l c 8) := Lib.hid ((hb5.block g (blt HG3.out)).trans HG3.out); have HS5 := Lib.hid (HF.out.below HB5.out); have e20 : w5.cell? ⟨0, 0, none⟩ = some (errV A 20) := HS5.out.hv 20 (cod' (by omega)); have e3 : w5.cell? ⟨1, 0, none⟩ = some (errV A 3) := HS5.out.hv 3 (cod' (by omega)); have e1 : w5.cell? ⟨2, 0, none⟩ = some (errV A 1) := HS5.out.hv 1 (cod' (by omega)); have e8 : w5.cell? ⟨3, 0, none⟩ = some (errV A 8) := HS5.out.hv 8 (cod' (by omega)); clear hg5 hb5)
          | (go_at_call 27; (with_reducible refine (is_nil (A 20) _).mono ?_); rintro ev w7 ⟨rfl, rfl⟩)
          | (go_at_call 27; (with_reducible refine (is_sf A g 8 20 _ _ w5 HS5.out HC.out.1 (cod' (by omega)) HG5.out).mono ?_); rintro ev w7 ⟨rfl, rfl⟩)
          | (go_at_call 27; (with_reducible refine (is_nil (A 3) _).mono ?_); rintro ev w7 ⟨rfl, rfl⟩)
          | (go_at_call 27; (with_reducible refine (is_sf A g 8 3 _ _ w5 HS5.out HC.out.1 (cod' (by omega)) HG5.out).mono ?_); rintro ev w7 ⟨rfl, rfl⟩)
          | (go_at_call 27; (with_reducible refine (is_nil (A 1) _).mono ?_); rintro ev w7 ⟨rfl, rfl⟩)
          | (go_at_call 27; (with_reducible refine (is_sf A g 8 1 _ _ w5 HS5.out HC.out.1 (cod' (by omega)) HG5.out).mono ?_); rintro ev w7 ⟨rfl, rfl⟩)
          | (go_at_call 27; (with_reducible refine (is_nil (A 8) _).mono ?_); rintro ev w7 ⟨rfl, rfl⟩)
          | (go_at_call 27; (with_reducible refine (is_sf A g 8 8 _ _ w5 HS5.out HC.out.1 (cod' (by omega)) HG5.out).mono ?_); rintro ev w7 ⟨rfl, rfl⟩))
        go_ret
        exact ⟨rfl, HB5.out⟩
      · have HFu := Lib.hid hfu
        clear hfu
        go_wp2_with (first
          | (go_at_call 24; (with_reducible refine (HP2.out _ (belowN HB3.out _)).mono ?_); rintro ev w5 ⟨vl5, ve5, rfl, hg5, hf5, hb5⟩; rw [HFu.out] at hf5; obtain ⟨_, g5, _, rfl, hh5⟩ := hf5; have HG5f := Lib.hid hh5; have HB5 := Lib.hid ((belowN HB3.out _).trans (hb5.mono HB3.out.size)); have HG5 : Hid (FltB A w5 g l c 8) := Lib.hid ((hb5.block g (blt HG3.out)).trans HG3.out); have HS5 := Lib.hid (HF.out.below HB5.out); have e20 : w5.cell? ⟨0, 0, none⟩ = some (errV A 20) := HS5.out.hv 20 (cod' (by omega)); have e3 : w5.cell? ⟨1, 0, none⟩ = some (errV A 3) := HS5.out.hv 3 (cod' (by omega)); have e1 : w5.cell? ⟨2, 0, none⟩ = some (errV A 1) := HS5.out.hv 1 (cod' (by omega)); have e8 : w5.cell? ⟨3, 0, none⟩ = some (errV A 8) := HS5.out.hv 8 (cod' (by omega)); clear hg5 hb5)
          | (go_at_call 27; (with_reducible refine (is_sf A g5 1 20 _ _ w5 HS5.out (cod' (by omega)) (cod' (by omega)) HG5f.out).mono ?_); rintro ev w7 ⟨rfl, rfl⟩)
          | (go_at_call 27; (with_reducible refine (is_sf A g 8 20 _ _ w5 HS5.out HC.out.1 (cod' (by omega)) HG5.out).mono ?_); rintro ev w7 ⟨rfl, rfl⟩)
          | (go_at_call 27; (with_reducible refine (is_sf A g5 1 3 _ _ w5 HS5.out (cod' (by omega)) (cod' (by omega)) HG5f.out).mono ?_); rintro ev w7 ⟨rfl, rfl⟩)
          | (go_at_call 27; (with_reducible refine (is_sf A g 8 3 _ _ w5 HS5.out HC.out.1 (cod' (by omega)) HG5.out).mono ?_); rintro ev w7 ⟨rfl, rfl⟩)
          | (go_at_call 27; (with_reducible refine (is_sf A g5 1 1 _ _ w5 HS5.out (cod' (by omega)) (cod' (by omega)) HG5f.out).mono ?_); rintro ev w7 ⟨rfl, rfl⟩)
          | (go_at_call 27; (with_reducible refine (is_sf A g 8 1 _ _ w5 HS5.out HC.out.1 (cod' (by omega)) HG5.out).mono ?_); rintro ev w7 ⟨rfl, rfl⟩)
          | (go_at_call 27; (with_reducible refine (is_sf A g5 1 8 _ _ w5 HS5.out (cod' (by omega)) (cod' (by omega)) HG5f.out).mono ?_); rintro ev w7 ⟨rfl, rfl⟩)
          | (go_at_call 27; (with_reducible refine (is_sf A g 8 8 _ _ w5 HS5.out HC.out.1 (cod' (by omega)) HG5.out).mono ?_); rintro ev w7 ⟨rfl, rfl⟩))
        go_ret
        exact ⟨rfl, HB5.out⟩
      · have HFu := Lib.hid hfu
        clear hfu
        go_wp2_with (first
          | (go_at_call 24; (with_reducible refine (HP2.out _ (belowN HB3.out _)).mono ?_); rintro ev w5 ⟨vl5, ve5, rfl, hg5, hf5, hb5⟩; rw [HFu.out] at hf5; obtain ⟨_, g5, _, rfl, hh5⟩ := hf5; have HG5f := Lib.hid hh5; have HB5 := Lib.hid ((belowN HB3.out _).trans (hb5.mono HB3.out.size)); have HG5 : Hid (FltB A w5 g l c 8) := Lib.hid ((hb5.block g (blt HG3.out)).trans HG3.out); have HS5 := Lib.hid (HF.out.below HB5.out); have e20 : w5.cell? ⟨0, 0, none⟩ = some (errV A 20) := HS5.out.hv 20 (cod' (by omega)); have e3 : w5.cell? ⟨1, 0, none⟩ = some (errV A 3) := HS5.out.hv 3 (cod' (by omega)); have e1 : w5.cell? ⟨2, 0, none⟩ = some (errV A 1) := HS5.out.hv 1 (cod' (by omega)); have e8 : w5.cell? ⟨3, 0, none⟩ = some (errV A 8) := HS5.out.hv 8 (cod' (by omega)); clear hg5 hb5)
          | (go_at_call 27; (with_reducible refine (is_sf A g5 8 20 _ _ w5 HS5.out (cod' (by omega)) (cod' (by omega)) HG5f.out).mono ?_); rintro ev w7 ⟨rfl, rfl⟩)
          | (go_at_call 27; (with_reducible refine (is_sf A g 8 20 _ _ w5 HS5.out HC.out.1 (cod' (by omega)) HG5.out).mono ?_); rintro ev w7 ⟨rfl, rfl⟩)
          | (go_at_call 27; (with_reducible refine (is_sf A g5 8 3 _ _ w5 HS5.out (cod' (by omega)) (cod' (by omega)) HG5f.out).mono ?_); rintro ev w7 ⟨rfl, rfl⟩)
          | (go_at_call 27; (with_reducible refine (is_sf A g 8 3 _ _ w5 HS5.out HC.out.1 (cod' (by omega)) HG5.out).mono ?_); rintro ev w7 ⟨rfl, rfl⟩)
          | (go_at_call 27; (with_reducible refine (is_sf A g5 8 1 _ _ w5 HS5.out (cod' (by omega)) (cod' (by omega)) HG5f.out).mono ?_); rintro ev w7 ⟨rfl, rfl⟩)
          | (go_at_call 27; (with_reducible refine (is_sf A g 8 1 _ _ w5 HS5.out HC.out.1 (cod' (by omega)) HG5.out).mono ?_); rintro ev w7 ⟨rfl, rfl⟩)
          | (go_at_call 27; (with_reducible refine (is_sf A g5 8 8 _ _ w5 HS5.out (cod' (by omega)) (cod' (by omega)) HG5f.out).mono ?_); rintro ev w7 ⟨rfl, rfl⟩)
          | (go_at_call 27; (with_reducible refine (is_sf A g 8 8 _ _ w5 HS5.out HC.out.1 (cod' (by omega)) HG5.out).mono ?_); rintro ev w7 ⟨rfl, rfl⟩))
        go_ret
        exact ⟨rfl, HB5.out⟩
      · exact absurd h20 (by omega)
    · rcases HA.out with hfu | ⟨l5, c5, e5, hfu, rfl | rfl | ⟨rfl, h20⟩⟩
      · have HFu := Lib.hid hfu
        clear hfu
        go_wp2_with (first
          | (go_at_call 24; (with_reducible refine (HP2.out _ (belowN HB3.out _)).mono ?_); rintro ev w5 ⟨vl5, ve5, rfl, hg5, hf5, hb5⟩; rw [HFu.out] at hf5; obtain rfl : ve5 = .nilIface := hf5; have HB5 := Lib.hid ((belowN HB3.out _).trans (hb5.mono HB3.out.size)); have HG5 : Hid (FltB A w5 g l c 3) := Lib.hid ((hb5.block g (blt HG3.out)).trans HG3.out); have HS5 := Lib.hid (HF.out.below HB5.out); have e20 : w5.cell? ⟨0, 0, none⟩ = some (errV A 20) := HS5.out.hv 20 (cod' (by omega)); have e3 : w5.cell? ⟨1, 0, none⟩ = some (errV A 3) := HS5.out.hv 3 (cod' (by omega)); have e1 : w5.cell? ⟨2, 0, none⟩ = some (errV A 1) := HS5.out.hv 1 (cod' (by omega)); have e8 : w5.cell? ⟨3, 0, none⟩ = some (errV A 8) := HS5.out.hv 8 (cod' (by omega)); clear hg5 hb5)
          | (go_at_call 27; (with_reducible refine (is_nil (A 20) _).mono ?_); rintro ev w7 ⟨rfl, rfl⟩)
          | (go_at_call 27; (with_reducible refine (is_sf A g 3 20 _ _ w5 HS5.out HC.out.1 (cod' (by omega)) HG5.out).mono ?_); rintro ev w7 ⟨rfl, rfl⟩)
          | (go_at_call 27; (with_reducible refine (is_nil (A 3) _).mono ?_); rintro ev w7 ⟨rfl, rfl⟩)
          | (go_at_call 27; (with_reducible refine (is_sf A g 3 3 _ _ w5 HS5.out HC.out.1 (cod' (by omega)) HG5.out).mono ?_); rintro ev w7 ⟨rfl, rfl⟩)
          | (go_at_call 27; (with_reducible refine (is_nil (A 1) _).mono ?_); rintro ev w7 ⟨rfl, rfl⟩)
          | (go_at_call 27; (with_reducible refine (is_sf A g 3 1 _ _ w5 HS5.out HC.out.1 (cod' (by omega)) HG5.out).mono ?_); rintro ev w7 ⟨rfl, rfl⟩)
          | (go_at_call 27; (with_reducible refine (is_nil (A 8) _).mono ?_); rintro ev w7 ⟨rfl, rfl⟩)
          | (go_at_call 27; (with_reducible refine (is_sf A g 3 8 _ _ w5 HS5.out HC.out.1 (cod' (by omega)) HG5.out).mono ?_); rintro ev w7 ⟨rfl, rfl⟩))
        go_ret
        exact ⟨rfl, HB5.out⟩
      · have HFu := Lib.hid hfu
        clear hfu
        go_wp2_with (first
          | (go_at_call 24; (with_reducible refine (HP2.out _ (belowN HB3.out _)).mono ?_); rintro ev w5 ⟨vl5, ve5, rfl, hg5, hf5, hb5⟩; rw [HFu.out] at hf5; obtain ⟨_, g5, _, rfl, hh5⟩ := hf5; have HG5f := Lib.hid hh5; have HB5 := Lib.hid ((belowN HB3.out _).trans (hb5.mono HB3.out.size)); have HG5 : Hid (FltB A w5 g l c 3) := Lib.hid ((hb5.block g (blt HG3.out)).trans HG3.out); have HS5 := Lib.hid (HF.out.below HB5.out); have e20 : w5.cell? ⟨0, 0, none⟩ = some (errV A 20) := HS5.out.hv 20 (cod' (by omega)); have e3 : w5.cell? ⟨1, 0, none⟩ = some (errV A 3) := HS5.out.hv 3 (cod' (by omega)); have e1 : w5.cell? ⟨2, 0, none⟩ = some (errV A 1) := HS5.out.hv 1 (cod' (by omega)); have e8 : w5.cell? ⟨3, 0, none⟩ = some (errV A 8) := HS5.out.hv 8 (cod' (by omega)); clear hg5 hb5)
          | (go_at_call 27; (with_reducible refine (is_sf A g5 1 20 _ _ w5 HS5.out (cod' (by omega)) (cod' (by omega)) HG5f.out).mono ?_); rintro ev w7 ⟨rfl, rfl⟩)
          | (go_at_call 27; (with_reducible refine (is_sf A g 3 20 _ _ w5 HS5.out HC.out.1 (cod' (by omega)) HG5.out).mono ?_); rintro ev w7 ⟨rfl, rfl⟩)
          | (go_at_call 27; (with_reducible refine (is_sf A g5 1 3 _ _ w5 HS5.out (cod' (by omega)) (cod' (by omega)) HG5f.out).mono ?_); rintro ev w7 ⟨rfl, rfl⟩)
          | (go_at_call 27; (with_reducible refine (is_sf A g 3 3 _ _ w5 HS5.out HC.out.1 (cod' (by omega)) HG5.out).mono ?_); rintro ev w7 ⟨rfl, rfl⟩)
          | (go_at_call 27; (with_reducible refine (is_sf A g5 1 1 _ _ w5 HS5.out (cod' (by omega)) (cod' (by omega)) HG5f.out).mono ?_); rintro ev w7 ⟨rfl, rfl⟩)
          | (go_at_call 27; (with_reducible refine (is_sf A g 3 1 _ _ w5 HS5.out HC.out.1 (cod' (by omega)) HG5.out).mono ?_); rintro ev w7 ⟨rfl, rfl⟩)
          | (go_at_call 27; (with_reducible refine (is_sf A g5 1 8 _ _ w5 HS5.out (cod' (by omega)) (cod' (by omega)) HG5f.out).mono ?_); rintro ev w7 ⟨rfl, rfl⟩)
          | (go_at_call 27; (with_reducible refine (is_sf A g 3 8 _ _ w5 HS5.out HC.out.1 (cod' (by omega)) HG5.out).mono ?_); rintro ev w7 ⟨rfl, rfl⟩))
        go_ret
        exact ⟨rfl, HB5.out⟩
      · have HFu := Lib.hid hfu
        clear hfu
        go_wp2_with (first
          | (go_at_call 24; (with_reducible refine (HP2.out _ (belowN HB3.out _)).mono ?_); rintro ev w5 ⟨vl5, ve5, rfl, hg5, hf5, hb5⟩; rw [HFu.out] at hf5; obtain ⟨_, g5, _, rfl, hh5⟩ := hf5; have HG5f := Lib.hid hh5; have HB5 := Lib.hid ((belowN HB3.out _).trans (hb5.mono HB3.out.size)); have HG5 : Hid (FltB A w5 g l c 3) := Lib.hid ((hb5.block g (blt HG3.out)).trans HG3.out); have HS5 := Lib.hid (HF.out.below HB5.out); have e20 : w5.cell? ⟨0, 0, none⟩ = some (errV A 20) := HS5.out.hv 20 (cod' (by omega)); have e3 : w5.cell? ⟨1, 0, none⟩ = some (errV A 3) := HS5.out.hv 3 (cod' (by omega)); have e1 : w5.cell? ⟨2, 0, none⟩ = some (errV A 1) := HS5.out.hv 1 (cod' (by omega)); have e8 : w5.cell? ⟨3, 0, none⟩ = some (errV A 8) := HS5.out.hv 8 (cod' (by omega)); clear hg5 hb5)
          | (go_at_call 27; (with_reducible refine (is_sf A g5 8 20 _ _ w5 HS5.out (cod' (by omega)) (cod' (by omega)) HG5f.out).mono ?_); rintro ev w7 ⟨rfl, rfl⟩)
          | (go_at_call 27; (with_reducible refine (is_sf A g 3 20 _ _ w5 HS5.out HC.out.1 (cod' (by omega)) HG5.out).mono ?_); rintro ev w7 ⟨rfl, rfl⟩)
          | (go_at_call 27; (with_reducible refine (is_sf A g5 8 3 _ _ w5 HS5.out (cod' (by omega)) (cod' (by omega)) HG5f.out).mono ?_); rintro ev w7 ⟨rfl, rfl⟩)
          | (go_at_call 27; (with_reducible refine (is_sf A g 3 3 _ _ w5 HS5.out HC.out.1 (cod' (by omega)) HG5.out).mono ?_); rintro ev w7 ⟨rfl, rfl⟩)
          | (go_at_call 27; (with_reducible refine (is_sf A g5 8 1 _ _ w5 HS5.out (cod' (by omega)) (cod' (by omega)) HG5f.out).mono ?_); rintro ev w7 ⟨rfl, rfl⟩)
          | (go_at_call 27; (with_reducible refine (is_sf A g 3 1 _ _ w5 HS5.out HC.out.1 (cod' (by omega)) HG5.out).mono ?_); rintro ev w7 ⟨rfl, rfl⟩)
          | (go_at_call 27; (with_reducible refine (is_sf A g5 8 8 _ _ w5 HS5.out (cod' (by omega)) (cod' (by omega)) HG5f.out).mono ?_); rintro ev w7 ⟨rfl, rfl⟩)
          | (go_at_call 27; (with_reducible refine (is_sf A g 3 8 _ _ w5 HS5.out HC.out.1 (cod' (by omega)) HG5.out).mono ?_); rintro ev w7 ⟨rfl, rfl⟩))
        go_ret
        exact ⟨rfl, HB5.out⟩
      · exact absurd h20 (by omega)
    · obtain ⟨x, v', hv, hmore⟩ : ∃ x v', v = x :: v' ∧ ∀ m, (parseO (u ++ x :: m)).2 = some (l, c, 20) := by
        rcases HB.out with q | q | q | q
        · exact absurd q (by omega)
        · exact absurd q (by omega)
        · exact absurd q (by omega)
        · exact q
      obtain ⟨hc1, hc2, hc3, hc4⟩ := cut_more t m u v' x n HN.out (by rw [← hv]; exact HU.out)
      have t1 : decide ((n : Int) ≥ (t.size : Int)) = false := by simp; omega
      have HP3 : Hid (∀ w1, Below w.heap.size w w1 → Calls Tryz.prog 24 #[.string (t.extract 0 (n + 1) ++ m)] w1 (Parsed A w1 (u ++ x :: m.data.toList))) := Lib.hid fun w1 k => by
        have := HP.out (t.extract 0 (n + 1) ++ m) w1 k (by omega)
        rw [hc2] at this
        exact this
      have HO3 := Lib.hid (hmore m.data.toList)
      obtain ⟨sx, hsx, hzx⟩ := HXt.out 20 HC.out.1
      have HSx := Lib.hid hsx
      have HZx := Lib.hid hzx
      have q0 : ¬ 9223372036854775807 < (t.extract 0 (n + 1)).size + m.size := by omega
      clear hv hmore hc2 hsx hzx
      rcases HA.out with hfu | ⟨l5, c5, e5, hfu, rfl | rfl | ⟨rfl, h20⟩⟩
      · have HFu := Lib.hid hfu
        clear hfu
        go_wp2_with (first
          | (go_at_call 24; (with_reducible refine (HP2.out _ (belowN HB3.out _)).mono ?_); rintro ev w5 ⟨vl5, ve5, rfl, hg5, hf5, hb5⟩; rw [HFu.out] at hf5; obtain rfl : ve5 = .nilIface := hf5; have HB5 := Lib.hid ((belowN HB3.out _).trans (hb5.mono HB3.out.size)); have HG5 : Hid (FltB A w5 g l c 20) := Lib.hid ((hb5.block g (blt HG3.out)).trans HG3.out); have HS5 := Lib.hid (HF.out.below HB5.out); have e20 : w5.cell? ⟨0, 0, none⟩ = some (errV A 20) := HS5.out.hv 20 (cod' (by omega)); have e3 : w5.cell? ⟨1, 0, none⟩ = some (errV A 3) := HS5.out.hv 3 (cod' (by omega)); have e1 : w5.cell? ⟨2, 0, none⟩ = some (errV A 1) := HS5.out.hv 1 (cod' (by omega)); have e8 : w5.cell? ⟨3, 0, none⟩ = some (errV A 8) := HS5.out.hv 8 (cod' (by omega)); clear hg5 hb5)
          | (go_at_call 27; (with_reducible refine (is_nil (A 20) _).mono ?_); rintro ev w7 ⟨rfl, rfl⟩)
          | (go_at_call 27; (with_reducible refine (is_sf A g 20 20 _ _ w5 HS5.out HC.out.1 (cod' (by omega)) HG5.out).mono ?_); rintro ev w7 ⟨rfl, rfl⟩)
          | (go_at_call 27; (with_reducible refine (is_nil (A 3) _).mono ?_); rintro ev w7 ⟨rfl, rfl⟩)
          | (go_at_call 27; (with_reducible refine (is_sf A g 20 3 _ _ w5 HS5.out HC.out.1 (cod' (by omega)) HG5.out).mono ?_); rintro ev w7 ⟨rfl, rfl⟩)
          | (go_at_call 27; (with_reducible refine (is_nil (A 1) _).mono ?_); rintro ev w7 ⟨rfl, rfl⟩)
          | (go_at_call 27; (with_reducible refine (is_sf A g 20 1 _ _ w5 HS5.out HC.out.1 (cod' (by omega)) HG5.out).mono ?_); rintro ev w7 ⟨rfl, rfl⟩)
          | (go_at_call 27; (with_reducible refine (is_nil (A 8) _).mono ?_); rintro ev w7 ⟨rfl, rfl⟩)
          | (go_at_call 27; (with_reducible refine (is_sf A g 20 8 _ _ w5 HS5.out HC.out.1 (cod' (by omega)) HG5.out).mono ?_); rintro ev w7 ⟨rfl, rfl⟩)
          | (go_at_call 24; (with_reducible refine (HP3.out _ HB5.out).mono ?_); rintro ev w6 ⟨vl6, ve6, rfl, hg6, hf6, hb6⟩; rw [HO3.out] at hf6; obtain ⟨_, g6, _, rfl, hh6⟩ := hf6; have HB6 := Lib.hid (HB5.out.trans (hb6.mono HB5.out.size)); have HG6 : Hid (FltB A w6 g l c 20) := Lib.hid ((hb6.block g (blt HG5.out)).trans HG5.out); have HG6f : Hid (FltB A w6 g6 l c 20) := Lib.hid hh6; have HE6 : Hid (∀ w7, Below w6.heap.size w6 w7 → ∀ g', (g' = g ∨ g' = g6) → Calls Tryz.prog 28 #[PT g'] w7 fun ev w' => ev = .returned (.string (ftext (Itoa.txt tb) l c sx)) ∧ Below w7.heap.size w7 w') := Lib.hid (fun w7 k g' hg' => err_at HI.out HB6.out HSx.out HZx.out HC.out.2 k (by rcases hg' with q | q; rw [q]; exact HG6.out; rw [q]; exact HG6f.out)); clear hg6 hb6 hh6)
          | (go_at_call 28; (with_reducible refine (HE6.out _ (Below.refl _ _) g6 (.inr rfl)).mono ?_); rintro ev w7 ⟨rfl, hb7⟩; have HB7 := Lib.hid hb7; clear hb7)
          | (go_at_call 28; (with_reducible refine (HE6.out _ HB7.out g (.inl rfl)).mono ?_); rintro ev w8 ⟨rfl, hb8⟩; have HB8 := Lib.hid (HB7.out.trans (hb8.mono HB7.out.size)); clear hb8))
        go_ret
        exact ⟨rfl, HB6.out.trans (HB8.out.mono HB6.out.size)⟩
      · have HFu := Lib.hid hfu
        clear hfu
        go_wp2_with (first
          | (go_at_call 24; (with_reducible refine (HP2.out _ (belowN HB3.out _)).mono ?_); rintro ev w5 ⟨vl5, ve5, rfl, hg5, hf5, hb5⟩; rw [HFu.out] at hf5; obtain ⟨_, g5, _, rfl, hh5⟩ := hf5; have HG5f := Lib.hid hh5; have HB5 := Lib.hid ((belowN HB3.out _).trans (hb5.mono HB3.out.size)); have HG5 : Hid (FltB A w5 g l c 20) := Lib.hid ((hb5.block g (blt HG3.out)).trans HG3.out); have HS5 := Lib.hid (HF.out.below HB5.out); have e20 : w5.cell? ⟨0, 0, none⟩ = some (errV A 20) := HS5.out.hv 20 (cod' (by omega)); have e3 : w5.cell? ⟨1, 0, none⟩ = some (errV A 3) := HS5.out.hv 3 (cod' (by omega)); have e1 : w5.cell? ⟨2, 0, none⟩ = some (errV A 1) := HS5.out.hv 1 (cod' (by omega)); have e8 : w5.cell? ⟨3, 0, none⟩ = some (errV A 8) := HS5.out.hv 8 (cod' (by omega)); clear hg5 hb5)
          | (go_at_call 27; (with_reducible refine (is_sf A g5 1 20 _ _ w5 HS5.out (cod' (by omega)) (cod' (by omega)) HG5f.out).mono ?_); rintro ev w7 ⟨rfl, rfl⟩)
          | (go_at_call 27; (with_reducible refine (is_sf A g 20 20 _ _ w5 HS5.out HC.out.1 (cod' (by omega)) HG5.out).mono ?_); rintro ev w7 ⟨rfl, rfl⟩)
          | (go_at_call 27; (with_reducible refine (is_sf A g5 1 3 _ _ w5 HS5.out (cod' (by omega)) (cod' (by omega)) HG5f.out).mono ?_); rintro ev w7 ⟨rfl, rfl⟩)
          | (go_at_call 27; (with_reducible refine (is_sf A g 20 3 _ _ w5 HS5.out HC.out.1 (cod' (by omega)) HG5.out).mono ?_); rintro ev w7 ⟨rfl, rfl⟩)
          | (go_at_call 27; (with_reducible refine (is_sf A g5 1 1 _ _ w5 HS5.out (cod' (by omega)) (cod' (by omega)) HG5f.out).mono ?_); rintro ev w7 ⟨rfl, rfl⟩)
          | (go_at_call 27; (with_reducible refine (is_sf A g 20 1 _ _ w5 HS5.out HC.out.1 (cod' (by omega)) HG5.out).mono ?_); rintro ev w7 ⟨rfl, rfl⟩)
          | (go_at_call 27; (with_reducible refine (is_sf A g5 1 8 _ _ w5 HS5.out (cod' (by omega)) (cod' (by omega)) HG5f.out).mono ?_); rintro ev w7 ⟨rfl, rfl⟩)
          | (go_at_call 27; (with_reducible refine (is_sf A g 20 8 _ _ w5 HS5.out HC.out.1 (cod' (by omega)) HG5.out).mono ?_); rintro ev w7 ⟨rfl, rfl⟩)
          | (go_at_call 24; (with_reducible refine (HP3.out _ HB5.out).mono ?_); rintro ev w6 ⟨vl6, ve6, rfl, hg6, hf6, hb6⟩; rw [HO3.out] at hf6; obtain ⟨_, g6, _, rfl, hh6⟩ := hf6; have HB6 := Lib.hid (HB5.out.trans (hb6.mono HB5.out.size)); have HG6 : Hid (FltB A w6 g l c 20) := Lib.hid ((hb6.block g (blt HG5.out)).trans HG5.out); have HG6f : Hid (FltB A w6 g6 l c 20) := Lib.hid hh6; have HE6 : Hid (∀ w7, Below w6.heap.size w6 w7 → ∀ g', (g' = g ∨ g' = g6) → Calls Tryz.prog 28 #[PT g'] w7 fun ev w' => ev = .returned (.string (ftext (Itoa.txt tb) l c sx)) ∧ Below w7.heap.size w7 w') := Lib.hid (fun w7 k g' hg' => err_at HI.out HB6.out HSx.out HZx.out HC.out.2 k (by rcases hg' with q | q; rw [q]; exact HG6.out; rw [q]; exact HG6f.out)); clear hg6 hb6 hh6)
          | (go_at_call 28; (with_reducible refine (HE6.out _ (Below.refl _ _) g6 (.inr rfl)).mono ?_); rintro ev w7 ⟨rfl, hb7⟩; have HB7 := Lib.hid hb7; clear hb7)
          | (go_at_call 28; (with_reducible refine (HE6.out _ HB7.out g (.inl rfl)).mono ?_); rintro ev w8 ⟨rfl, hb8⟩; have HB8 := Lib.hid (HB7.out.trans (hb8.mono HB7.out.size)); clear hb8))
        go_ret
        exact ⟨rfl, HB6.out.trans (HB8.out.mono HB6.out.size)⟩
      · have HFu := Lib.hid hfu
        clear hfu
        go_wp2_with (first
          | (go_at_call 24; (with_reducible refine (HP2.out _ (belowN HB3.out _)).mono ?_); rintro ev w5 ⟨vl5, ve5, rfl, hg5, hf5, hb5⟩; rw [HFu.out] at hf5; obtain ⟨_, g5, _, rfl, hh5⟩ := hf5; have HG5f := Lib.hid hh5; have HB5 := Lib.hid ((belowN HB3.out _).trans (hb5.mono HB3.out.size)); have HG5 : Hid (FltB A w5 g l c 20) := Lib.hid ((hb5.block g (blt HG3.out)).trans HG3.out); have HS5 := Lib.hid (HF.out.below HB5.out); have e20 : w5.cell? ⟨0, 0, none⟩ = some (errV A 20) := HS5.out.hv 20 (cod' (by omega)); have e3 : w5.cell? ⟨1, 0, none⟩ = some (errV A 3) := HS5.out.hv 3 (cod' (by omega)); have e1 : w5.cell? ⟨2, 0, none⟩ = some (errV A 1) := HS5.out.hv 1 (cod' (by omega)); have e8 : w5.cell? ⟨3, 0, none⟩ = some (errV A 8) := HS5.out.hv 8 (cod' (by omega)); clear hg5 hb5)
          | (go_at_call 27; (with_reducible refine (is_sf A g5 8 20 _ _ w5 HS5.out (cod' (by omega)) (cod' (by omega)) HG5f.out).mono ?_); rintro ev w7 ⟨rfl, rfl⟩)
          | (go_at_call 27; (with_reducible refine (is_sf A g 20 20 _ _ w5 HS5.out HC.out.1 (cod' (by omega)) HG5.out).mono ?_); rintro ev w7 ⟨rfl, rfl⟩)
          | (go_at_call 27; (with_reducible refine (is_sf A g5 8 3 _ _ w5 HS5.out (cod' (by omega)) (cod' (by omega)) HG5f.out).mono ?_); rintro ev w7 ⟨rfl, rfl⟩)
          | (go_at_call 27; (with_reducible refine (is_sf A g 20 3 _ _ w5 HS5.out HC.out.1 (cod' (by omega)) HG5.out).mono ?_); rintro ev w7 ⟨rfl, rfl⟩)
          | (go_at_call 27; (with_reducible refine (is_sf A g5 8 1 _ _ w5 HS5.out (cod' (by omega)) (cod' (by omega)) HG5f.out).mono ?_); rintro ev w7 ⟨rfl, rfl⟩)
          | (go_at_call 27; (with_reducible refine (is_sf A g 20 1 _ _ w5 HS5.out HC.out.1 (cod' (by omega)) HG5.out).mono ?_); rintro ev w7 ⟨rfl, rfl⟩)
          | (go_at_call 27; (with_reducible refine (is_sf A g5 8 8 _ _ w5 HS5.out (cod' (by omega)) (cod' (by omega)) HG5f.out).mono ?_); rintro ev w7 ⟨rfl, rfl⟩)
          | (go_at_call 27; (with_reducible refine (is_sf A g 20 8 _ _ w5 HS5.out HC.out.1 (cod' (by omega)) HG5.out).mono ?_); rintro ev w7 ⟨rfl, rfl⟩)
          | (go_at_call 24; (with_reducible refine (HP3.out _ HB5.out).mono ?_); rintro ev w6 ⟨vl6, ve6, rfl, hg6, hf6, hb6⟩; rw [HO3.out] at hf6; obtain ⟨_, g6, _, rfl, hh6⟩ := hf6; have HB6 := Lib.hid (HB5.out.trans (hb6.mono HB5.out.size)); have HG6 : Hid (FltB A w6 g l c 20) := Lib.hid ((hb6.block g (blt HG5.out)).trans HG5.out); have HG6f : Hid (FltB A w6 g6 l c 20) := Lib.hid hh6; have HE6 : Hid (∀ w7, Below w6.heap.size w6 w7 → ∀ g', (g' = g ∨ g' = g6) → Calls Tryz.prog 28 #[PT g'] w7 fun ev w' => ev = .returned (.string (ftext (Itoa.txt tb) l c sx)) ∧ Below w7.heap.size w7 w') := Lib.hid (fun w7 k g' hg' => err_at HI.out HB6.out HSx.out HZx.out HC.out.2 k (by rcases hg' with q | q; rw [q]; exact HG6.out; rw [q]; exact HG6f.out)); clear hg6 hb6 hh6)
          | (go_at_call 28; (with_reducible refine (HE6.out _ (Below.refl _ _) g6 (.inr rfl)).mono ?_); rintro ev w7 ⟨rfl, hb7⟩; have HB7 := Lib.hid hb7; clear hb7)
          | (go_at_call 28; (with_reducible refine (HE6.out _ HB7.out g (.inl rfl)).mono ?_); rintro ev w8 ⟨rfl, hb8⟩; have HB8 := Lib.hid (HB7.out.trans (hb8.mono HB7.out.size)); clear hb8))
        go_ret
        exact ⟨rfl, HB6.out.trans (HB8.out.mono HB6.out.size)⟩
      · have HFu := Lib.hid hfu
        clear hfu h20
        skip
        go_wp2_with (first
          | (go_at_call 24; (with_reducible refine (HP2.out _ (belowN HB3.out _)).mono ?_); rintro ev w5 ⟨vl5, ve5, rfl, hg5, hf5, hb5⟩; rw [HFu.out] at hf5; obtain ⟨_, g5, _, rfl, hh5⟩ := hf5; have HG5f := Lib.hid hh5; have HB5 := Lib.hid ((belowN HB3.out _).trans (hb5.mono HB3.out.size)); have HG5 : Hid (FltB A w5 g l c 20) := Lib.hid ((hb5.block g (blt HG3.out)).trans HG3.out); have HS5 := Lib.hid (HF.out.below HB5.out); have e20 : w5.cell? ⟨0, 0, none⟩ = some (errV A 20) := HS5.out.hv 20 (cod' (by omega)); have e3 : w5.cell? ⟨1, 0, none⟩ = some (errV A 3) := HS5.out.hv 3 (cod' (by omega)); have e1 : w5.cell? ⟨2, 0, none⟩ = some (errV A 1) := HS5.out.hv 1 (cod' (by omega)); have e8 : w5.cell? ⟨3, 0, none⟩ = some (errV A 8) := HS5.out.hv 8 (cod' (by omega)); clear hg5 hb5)
          | (go_at_call 27; (with_reducible refine (is_sf A g5 3 20 _ _ w5 HS5.out (cod' (by omega)) (cod' (by omega)) HG5f.out).mono ?_); rintro ev w7 ⟨rfl, rfl⟩)
          | (go_at_call 27; (with_reducible refine (is_sf A g 20 20 _ _ w5 HS5.out HC.out.1 (cod' (by omega)) HG5.out).mono ?_); rintro ev w7 ⟨rfl, rfl⟩)
          | (go_at_call 27; (with_reducible refine (is_sf A g5 3 3 _ _ w5 HS5.out (cod' (by omega)) (cod' (by omega)) HG5f.out).mono ?_); rintro ev w7 ⟨rfl, rfl⟩)
          | (go_at_call 27; (with_reducible refine (is_sf A g 20 3 _ _ w5 HS5.out HC.out.1 (cod' (by omega)) HG5.out).mono ?_); rintro ev w7 ⟨rfl, rfl⟩)
          | (go_at_call 27; (with_reducible refine (is_sf A g5 3 1 _ _ w5 HS5.out (cod' (by omega)) (cod' (by omega)) HG5f.out).mono ?_); rintro ev w7 ⟨rfl, rfl⟩)
          | (go_at_call 27; (with_reducible refine (is_sf A g 20 1 _ _ w5 HS5.out HC.out.1 (cod' (by omega)) HG5.out).mono ?_); rintro ev w7 ⟨rfl, rfl⟩)
          | (go_at_call 27; (with_reducible refine (is_sf A g5 3 8 _ _ w5 HS5.out (cod' (by omega)) (cod' (by omega)) HG5f.out).mono ?_); rintro ev w7 ⟨rfl, rfl⟩)
          | (go_at_call 27; (with_reducible refine (is_sf A g 20 8 _ _ w5 HS5.out HC.out.1 (cod' (by omega)) HG5.out).mono ?_); rintro ev w7 ⟨rfl, rfl⟩)
          | (go_at_call 24; (with_reducible refine (HP3.out _ HB5.out).mono ?_); rintro ev w6 ⟨vl6, ve6, rfl, hg6, hf6, hb6⟩; rw [HO3.out] at hf6; obtain ⟨_, g6, _, rfl, hh6⟩ := hf6; have HB6 := Lib.hid (HB5.out.trans (hb6.mono HB5.out.size)); have HG6 : Hid (FltB A w6 g l c 20) := Lib.hid ((hb6.block g (blt HG5.out)).trans HG5.out); have HG6f : Hid (FltB A w6 g6 l c 20) := Lib.hid hh6; have HE6 : Hid (∀ w7, Below w6.heap.size w6 w7 → ∀ g', (g' = g ∨ g' = g6) → Calls Tryz.prog 28 #[PT g'] w7 fun ev w' => ev = .returned (.string (ftext (Itoa.txt tb) l c sx)) ∧ Below w7.heap.size w7 w') := Lib.hid (fun w7 k g' hg' => err_at HI.out HB6.out HSx.out HZx.out HC.out.2 k (by rcases hg' with q | q; rw [q]; exact HG6.out; rw [q]; exact HG6f.out)); clear hg6 hb6 hh6)
          | (go_at_call 28; (with_reducible refine (HE6.out _ (Below.refl _ _) g6 (.inr rfl)).mono ?_); rintro ev w7 ⟨rfl, hb7⟩; have HB7 := Lib.hid hb7; clear hb7)
          | (go_at_call 28; (with_reducible refine (HE6.out _ HB7.out g (.inl rfl)).mono ?_); rintro ev w8 ⟨rfl, hb8⟩; have HB8 := Lib.hid (HB7.out.trans (hb8.mono HB7.out.size)); clear hb8))
        go_ret
        exact ⟨rfl, HB6.out.trans (HB8.out.mono HB6.out.size)⟩
    · obtain ⟨x, v', hv, hmore⟩ : ∃ x v', v = x :: v' ∧ ∀ m, (parseO (u ++ x :: m)).2 = some (l, c, e) := by
        rcases HB.out with q | q | q | q
        · exact absurd q (by omega)
        · exact absurd q (by omega)
        · exact absurd q (by omega)
        · exact q
      obtain ⟨hc1, hc2, hc3, hc4⟩ := cut_more t m u v' x n HN.out (by rw [← hv]; exact HU.out)
      have t1 : decide ((n : Int) ≥ (t.size : Int)) = false := by simp; omega
      have HP3 : Hid (∀ w1, Below w.heap.size w w1 → Calls Tryz.prog 24 #[.string (t.extract 0 (n + 1) ++ m)] w1 (Parsed A w1 (u ++ x :: m.data.toList))) := Lib.hid fun w1 k => by
        have := HP.out (t.extract 0 (n + 1) ++ m) w1 k (by omega)
        rw [hc2] at this
        exact this
      have HO3 := Lib.hid (hmore m.data.toList)
      obtain ⟨sx, hsx, hzx⟩ := HXt.out e HC.out.1
      have HSx := Lib.hid hsx
      have HZx := Lib.hid hzx
      have q0 : ¬ 9223372036854775807 < (t.extract 0 (n + 1)).size + m.size := by omega
      clear hv hmore hc2 hsx hzx
      have z1 : decide (e = 1) = false := by simpa using n1
      have z8 : decide (e = 8) = false := by simpa using n8
      have z3 : decide (e = 3) = false := by simpa using n3
      have z20 : decide (e = 20) = false := by simpa using n20
      clear n1 n8 n3 n20
      rcases HA.out with hfu | ⟨l5, c5, e5, hfu, rfl | rfl | ⟨rfl, h20⟩⟩
      · have HFu := Lib.hid hfu
        clear hfu
        go_wp2_with (first
          | (go_at_call 24; (with_reducible refine (HP2.out _ (belowN HB3.out _)).mono ?_); rintro ev w5 ⟨vl5, ve5, rfl, hg5, hf5, hb5⟩; rw [HFu.out] at hf5; obtain rfl : ve5 = .nilIface := hf5; have HB5 := Lib.hid ((belowN HB3.out _).trans (hb5.mono HB3.out.size)); have HG5 : Hid (FltB A w5 g l c e) := Lib.hid ((hb5.block g (blt HG3.out)).trans HG3.out); have HS5 := Lib.hid (HF.out.below HB5.out); have e20 : w5.cell? ⟨0, 0, none⟩ = some (errV A 20) := HS5.out.hv 20 (cod' (by omega)); have e3 : w5.cell? ⟨1, 0, none⟩ = some (errV A 3) := HS5.out.hv 3 (cod' (by omega)); have e1 : w5.cell? ⟨2, 0, none⟩ = some (errV A 1) := HS5.out.hv 1 (cod' (by omega)); have e8 : w5.cell? ⟨3, 0, none⟩ = some (errV A 8) := HS5.out.hv 8 (cod' (by omega)); clear hg5 hb5)
          | (go_at_call 27; (with_reducible refine (is_nil (A 20) _).mono ?_); rintro ev w7 ⟨rfl, rfl⟩)
          | (go_at_call 27; (with_reducible refine (is_sf A g e 20 _ _ w5 HS5.out HC.out.1 (cod' (by omega)) HG5.out).mono ?_); rintro ev w7 ⟨rfl, rfl⟩)
          | (go_at_call 27; (with_reducible refine (is_nil (A 3) _).mono ?_); rintro ev w7 ⟨rfl, rfl⟩)
          | (go_at_call 27; (with_reducible refine (is_sf A g e 3 _ _ w5 HS5.out HC.out.1 (cod' (by omega)) HG5.out).mono ?_); rintro ev w7 ⟨rfl, rfl⟩)
          | (go_at_call 27; (with_reducible refine (is_nil (A 1) _).mono ?_); rintro ev w7 ⟨rfl, rfl⟩)
          | (go_at_call 27; (with_reducible refine (is_sf A g e 1 _ _ w5 HS5.out HC.out.1 (cod' (by omega)) HG5.out).mono ?_); rintro ev w7 ⟨rfl, rfl⟩)
          | (go_at_call 27; (with_reducible refine (is_nil (A 8) _).mono ?_); rintro ev w7 ⟨rfl, rfl⟩)
          | (go_at_call 27; (with_reducible refine (is_sf A g e 8 _ _ w5 HS5.out HC.out.1 (cod' (by omega)) HG5.out).mono ?_); rintro ev w7 ⟨rfl, rfl⟩)
          | (go_at_call 24; (with_reducible refine (HP3.out _ HB5.out).mono ?_); rintro ev w6 ⟨vl6, ve6, rfl, hg6, hf6, hb6⟩; rw [HO3.out] at hf6; obtain ⟨_, g6, _, rfl, hh6⟩ := hf6; have HB6 := Lib.hid (HB5.out.trans (hb6.mono HB5.out.size)); have HG6 : Hid (FltB A w6 g l c e) := Lib.hid ((hb6.block g (blt HG5.out)).trans HG5.out); have HG6f : Hid (FltB A w6 g6 l c e) := Lib.hid hh6; have HE6 : Hid (∀ w7, Below w6.heap.size w6 w7 → ∀ g', (g' = g ∨ g' = g6) → Calls Tryz.prog 28 #[PT g'] w7 fun ev w' => ev = .returned (.string (ftext (Itoa.txt tb) l c sx)) ∧ Below w7.heap.size w7 w') := Lib.hid (fun w7 k g' hg' => err_at HI.out HB6.out HSx.out HZx.out HC.out.2 k (by rcases hg' with q | q; rw [q]; exact HG6.out; rw [q]; exact HG6f.out)); clear hg6 hb6 hh6)
          | (go_at_call 28; (with_reducible refine (HE6.out _ (Below.refl _ _) g6 (.inr rfl)).mono ?_); rintro ev w7 ⟨rfl, hb7⟩; have HB7 := Lib.hid hb7; clear hb7)
          | (go_at_call 28; (with_reducible refine (HE6.out _ HB7.out g (.inl rfl)).mono ?_); rintro ev w8 ⟨rfl, hb8⟩; have HB8 := Lib.hid (HB7.out.trans (hb8.mono HB7.out.size)); clear hb8))
        go_ret
        exact ⟨rfl, HB6.out.trans (HB8.out.mono HB6.out.size)⟩
      · have HFu := Lib.hid hfu
        clear hfu
        go_wp2_with (first
          | (go_at_call 24; (with_reducible refine (HP2.out _ (belowN HB3.out _)).mono ?_); rintro ev w5 ⟨vl5, ve5, rfl, hg5, hf5, hb5⟩; rw [HFu.out] at hf5; obtain ⟨_, g5, _, rfl, hh5⟩ := hf5; have HG5f := Lib.hid hh5; have HB5 := Lib.hid ((belowN HB3.out _).trans (hb5.mono HB3.out.size)); have HG5 : Hid (FltB A w5 g l c e) := Lib.hid ((hb5.block g (blt HG3.out)).trans HG3.out); have HS5 := Lib.hid (HF.out.below HB5.out); have e20 : w5.cell? ⟨0, 0, none⟩ = some (errV A 20) := HS5.out.hv 20 (cod' (by omega)); have e3 : w5.cell? ⟨1, 0, none⟩ = some (errV A 3) := HS5.out.hv 3 (cod' (by omega)); have e1 : w5.cell? ⟨2, 0, none⟩ = some (errV A 1) := HS5.out.hv 1 (cod' (by omega)); have e8 : w5.cell? ⟨3, 0, none⟩ = some (errV A 8) := HS5.out.hv 8 (cod' (by omega)); clear hg5 hb5)
          | (go_at_call 27; (with_reducible refine (is_sf A g5 1 20 _ _ w5 HS5.out (cod' (by omega)) (cod' (by omega)) HG5f.out).mono ?_); rintro ev w7 ⟨rfl, rfl⟩)
          | (go_at_call 27; (with_reducible refine (is_sf A g e 20 _ _ w5 HS5.out HC.out.1 (cod' (by omega)) HG5.out).mono ?_); rintro ev w7 ⟨rfl, rfl⟩)
          | (go_at_call 27; (with_reducible refine (is_sf A g5 1 3 _ _ w5 HS5.out (cod' (by omega)) (cod' (by omega)) HG5f.out).mono ?_); rintro ev w7 ⟨rfl, rfl⟩)
          | (go_at_call 27; (with_reducible refine (is_sf A g e 3 _ _ w5 HS5.out HC.out.1 (cod' (by omega)) HG5.out).mono ?_); rintro ev w7 ⟨rfl, rfl⟩)
          | (go_at_call 27; (with_reducible refine (is_sf A g5 1 1 _ _ w5 HS5.out (cod' (by omega)) (cod' (by omega)) HG5f.out).mono ?_); rintro ev w7 ⟨rfl, rfl⟩)
          | (go_at_call 27; (with_reducible refine (is_sf A g e 1 _ _ w5 HS5.out HC.out.1 (cod' (by omega)) HG5.out).mono ?_); rintro ev w7 ⟨rfl, rfl⟩)
          | (go_at_call 27; (with_reducible refine (is_sf A g5 1 8 _ _ w5 HS5.out (cod' (by omega)) (cod' (by omega)) HG5f.out).mono ?_); rintro ev w7 ⟨rfl, rfl⟩)
          | (go_at_call 27; (with_reducible refine (is_sf A g e 8 _ _ w5 HS5.out HC.out.1 (cod' (by omega)) HG5.out).mono ?_); rintro ev w7 ⟨rfl, rfl⟩)
          | (go_at_call 24; (with_reducible refine (HP3.out _ HB5.out).mono ?_); rintro ev w6 ⟨vl6, ve6, rfl, hg6, hf6, hb6⟩; rw [HO3.out] at hf6; obtain ⟨_, g6, _, rfl, hh6⟩ := hf6; have HB6 := Lib.hid (HB5.out.trans (hb6.mono HB5.out.size)); have HG6 : Hid (FltB A w6 g l c e) := Lib.hid ((hb6.block g (blt HG5.out)).trans HG5.out); have HG6f : Hid (FltB A w6 g6 l c e) := Lib.hid hh6; have HE6 : Hid (∀ w7, Below w6.heap.size w6 w7 → ∀ g', (g' = g ∨ g' = g6) → Calls Tryz.prog 28 #[PT g'] w7 fun ev w' => ev = .returned (.string (ftext (Itoa.txt tb) l c sx)) ∧ Below w7.heap.size w7 w') := Lib.hid (fun w7 k g' hg' => err_at HI.out HB6.out HSx.out HZx.out HC.out.2 k (by rcases hg' with q | q; rw [q]; exact HG6.out; rw [q]; exact HG6f.out)); clear hg6 hb6 hh6)
          | (go_at_call 28; (with_reducible refine (HE6.out _ (Below.refl _ _) g6 (.inr rfl)).mono ?_); rintro ev w7 ⟨rfl, hb7⟩; have HB7 := Lib.hid hb7; clear hb7)
          | (go_at_call 28; (with_reducible refine (HE6.out _ HB7.out g (.inl rfl)).mono ?_); rintro ev w8 ⟨rfl, hb8⟩; have HB8 := Lib.hid (HB7.out.trans (hb8.mono HB7.out.size)); clear hb8))
        go_ret
        exact ⟨rfl, HB6.out.trans (HB8.out.mono HB6.out.size)⟩
      · have HFu := Lib.hid hfu
        clear hfu
        go_wp2_with (first
          | (go_at_call 24; (with_reducible refine (HP2.out _ (belowN HB3.out _)).mono ?_); rintro ev w5 ⟨vl5, ve5, rfl, hg5, hf5, hb5⟩; rw [HFu.out] at hf5; obtain ⟨_, g5, _, rfl, hh5⟩ := hf5; have HG5f := Lib.hid hh5; have HB5 := Lib.hid ((belowN HB3.out _).trans (hb5.mono HB3.out.size)); have HG5 : Hid (FltB A w5 g l c e) := Lib.hid ((hb5.block g (blt HG3.out)).trans HG3.out); have HS5 := Lib.hid (HF.out.below HB5.out); have e20 : w5.cell? ⟨0, 0, none⟩ = some (errV A 20) := HS5.out.hv 20 (cod' (by omega)); have e3 : w5.cell? ⟨1, 0, none⟩ = some (errV A 3) := HS5.out.hv 3 (cod' (by omega)); have e1 : w5.cell? ⟨2, 0, none⟩ = some (errV A 1) := HS5.out.hv 1 (cod' (by omega)); have e8 : w5.cell? ⟨3, 0, none⟩ = some (errV A 8) := HS5.out.hv 8 (cod' (by omega)); clear hg5 hb5)
          | (go_at_call 27; (with_reducible refine (is_sf A g5 8 20 _ _ w5 HS5.out (cod' (by omega)) (cod' (by omega)) HG5f.out).mono ?_); rintro ev w7 ⟨rfl, rfl⟩)
          | (go_at_call 27; (with_reducible refine (is_sf A g e 20 _ _ w5 HS5.out HC.out.1 (cod' (by omega)) HG5.out).mono ?_); rintro ev w7 ⟨rfl, rfl⟩)
          | (go_at_call 27; (with_reducible refine (is_sf A g5 8 3 _ _ w5 HS5.out (cod' (by omega)) (cod' (by omega)) HG5f.out).mono ?_); rintro ev w7 ⟨rfl, rfl⟩)
          | (go_at_call 27; (with_reducible refine (is_sf A g e 3 _ _ w5 HS5.out HC.out.1 (cod' (by omega)) HG5.out).mono ?_); rintro ev w7 ⟨rfl, rfl⟩)
          | (go_at_call 27; (with_reducible refine (is_sf A g5 8 1 _ _ w5 HS5.out (cod' (by omega)) (cod' (by omega)) HG5f.out).mono ?_); rintro ev w7 ⟨rfl, rfl⟩)
          | (go_at_call 27; (with_reducible refine (is_sf A g e 1 _ _ w5 HS5.out HC.out.1 (cod' (by omega)) HG5.out).mono ?_); rintro ev w7 ⟨rfl, rfl⟩)
          | (go_at_call 27; (with_reducible refine (is_sf A g5 8 8 _ _ w5 HS5.out (cod' (by omega)) (cod' (by omega)) HG5f.out).mono ?_); rintro ev w7 ⟨rfl, rfl⟩)
          | (go_at_call 27; (with_reducible refine (is_sf A g e 8 _ _ w5 HS5.out HC.out.1 (cod' (by omega)) HG5.out).mono ?_); rintro ev w7 ⟨rfl, rfl⟩)
          | (go_at_call 24; (with_reducible refine (HP3.out _ HB5.out).mono ?_); rintro ev w6 ⟨vl6, ve6, rfl, hg6, hf6, hb6⟩; rw [HO3.out] at hf6; obtain ⟨_, g6, _, rfl, hh6⟩ := hf6; have HB6 := Lib.hid (HB5.out.trans (hb6.mono HB5.out.size)); have HG6 : Hid (FltB A w6 g l c e) := Lib.hid ((hb6.block g (blt HG5.out)).trans HG5.out); have HG6f : Hid (FltB A w6 g6 l c e) := Lib.hid hh6; have HE6 : Hid (∀ w7, Below w6.heap.size w6 w7 → ∀ g', (g' = g ∨ g' = g6) → Calls Tryz.prog 28 #[PT g'] w7 fun ev w' => ev = .returned (.string (ftext (Itoa.txt tb) l c sx)) ∧ Below w7.heap.size w7 w') := Lib.hid (fun w7 k g' hg' => err_at HI.out HB6.out HSx.out HZx.out HC.out.2 k (by rcases hg' with q | q; rw [q]; exact HG6.out; rw [q]; exact HG6f.out)); clear hg6 hb6 hh6)
          | (go_at_call 28; (with_reducible refine (HE6.out _ (Below.refl _ _) g6 (.inr rfl)).mono ?_); rintro ev w7 ⟨rfl, hb7⟩; have HB7 := Lib.hid hb7; clear hb7)
          | (go_at_call 28; (with_reducible refine (HE6.out _ HB7.out g (.inl rfl)).mono ?_); rintro ev w8 ⟨rfl, hb8⟩; have HB8 := Lib.hid (HB7.out.trans (hb8.mono HB7.out.size)); clear hb8))
        go_ret
        exact ⟨rfl, HB6.out.trans (HB8.out.mono HB6.out.size)⟩
      · exact absurd h20 (by intro q; rw [q] at z20; simp at z20)
end Go.Proofs.YtappphffbnkloaaGreatDoor.Sht

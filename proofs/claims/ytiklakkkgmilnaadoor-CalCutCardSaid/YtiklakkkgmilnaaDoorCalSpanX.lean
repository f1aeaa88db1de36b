/- PrintSpan of package cal, walked by hand: what it answers to every span. -/
import Derived.Test.YtiklakkkgmilnaaDoorCalPadP
import Derived.Test.YtiklakkkgmilnaaDoorVWords
import Derived.WalkKit
import Derived.WalkSmall
import Derived.Deep.QuietTactic
import Derived.BigQuiet
import Derived.Deep.RegionWith
import Derived.Lib.Hide
import Derived.IntWalk
namespace Go.Proofs.YtiklakkkgmilnaaDoor.Ext
open Go.RowKit Go.Proofs.YtiklakkkgmilnaaDoorW.PrintWords Go.Proofs.YtiklakkkgmilnaaDoor.CalP Go.Proofs.YtiklakkkgmilnaaDoor.GC

def okB (n : Int) : Bool := decide (0 ≤ n ∧ n ≤ 999999999)
/-- the six parts, and their sums -/
def pN (y mo d h mi s : Int) (k : Nat) : Int := if k = 0 then y else if k = 1 then mo else if k = 2 then d else if k = 3 then h else if k = 4 then mi else s
def pS (y mo d h mi s : Int) : Nat → Int
  | 0 => 0
  | k + 1 => pS y mo d h mi s k + pN y mo d h mi s k
def ltr (k : Nat) : ByteArray := if k = 0 then ⟨#[89]⟩ else if k = 1 then ⟨#[77]⟩ else if k = 2 then ⟨#[68]⟩ else if k = 3 then ⟨#[72]⟩ else if k = 4 then ⟨#[77]⟩ else ⟨#[83]⟩
/-- what is printed behind k parts -/
def outs (y mo d h mi s : Int) : Nat → ByteArray
  | 0 => (⟨#[80]⟩ : ByteArray)
  | k + 1 => if pN y mo d h mi s k > 0 then (if k = 3 ∧ h + mi + s > 0 then outs y mo d h mi s k ++ (⟨#[84]⟩ : ByteArray) else outs y mo d h mi s k) ++ (P (pN y mo d h mi s k) 1 ++ ltr k)
      else (if k = 3 ∧ h + mi + s > 0 then outs y mo d h mi s k ++ (⟨#[84]⟩ : ByteArray) else outs y mo d h mi s k)
def allOk (y mo d h mi s : Int) : Bool := okB y && okB mo && okB d && okB h && okB mi && okB s
def cal_PrintSpan.f (y mo wk d h mi s : Int) : Option (ByteArray × Int) :=
  if allOk y mo d h mi s = true then
    (if wk < 0 ∨ wk > 999999999 ∨ (wk > 0 ∧ pS y mo d h mi s 6 > 0) then some ((⟨#[]⟩ : ByteArray), 34)
     else if wk > 0 then some ((⟨#[80]⟩ : ByteArray) ++ P wk 1 ++ (⟨#[87]⟩ : ByteArray), 0)
     else if pS y mo d h mi s 6 = 0 then some ((⟨#[80, 84, 48, 83]⟩ : ByteArray), 0)
     else some (outs y mo d h mi s 6, 0))
  else some ((⟨#[]⟩ : ByteArray), 34)
theorem ltr_size (k : Nat) : (ltr k).size = 1 := by unfold ltr; repeat' split
                                                    all_goals rfl
theorem outs_size (y mo d h mi s : Int) (k : Nat) : (outs y mo d h mi s k).size ≤ 1 + 22 * k := by
  have e1 : (⟨#[84]⟩ : ByteArray).size = 1 := rfl
  induction k with
  | zero => exact Nat.le_refl _
  | succ k ih =>
    have hp := P_size (pN y mo d h mi s k) 1
    have hl := ltr_size k
    unfold outs
    split <;> split <;> (try simp only [ByteArray.size_append]) <;> omega
theorem okB_out {n : Int} (h : okB n = true) : 0 ≤ n ∧ n ≤ 999999999 := of_decide_eq_true h
theorem okB_no {n : Int} (h : okB n = false) : n < 0 ∨ 999999999 < n := by have := of_decide_eq_false h; omega
theorem all_of (y mo d h mi s : Int) (a : ∀ j, j < 6 → okB (pN y mo d h mi s j) = true) : allOk y mo d h mi s = true := by
  have a0 := a 0 (by omega)
  have a1 := a 1 (by omega)
  have a2 := a 2 (by omega)
  have a3 := a 3 (by omega)
  have a4 := a 4 (by omega)
  have a5 := a 5 (by omega)
  simp only [pN] at a0 a1 a2 a3 a4 a5
  simp at a0 a1 a2 a3 a4 a5
  simp [allOk, a0, a1, a2, a3, a4, a5]
theorem of_all {y mo d h mi s : Int} (a : allOk y mo d h mi s = true) (j : Nat) : 0 ≤ pN y mo d h mi s j ∧ pN y mo d h mi s j ≤ 999999999 := by
  simp only [allOk, Bool.and_eq_true] at a
  obtain ⟨⟨⟨⟨⟨a0, a1⟩, a2⟩, a3⟩, a4⟩, a5⟩ := a
  have := okB_out a0; have := okB_out a1; have := okB_out a2; have := okB_out a3; have := okB_out a4; have := okB_out a5
  unfold pN
  repeat' split
  all_goals omega
theorem pS_bd {y mo d h mi s : Int} (k : Nat) (a : ∀ j, j < k → 0 ≤ pN y mo d h mi s j ∧ pN y mo d h mi s j ≤ 999999999) : 0 ≤ pS y mo d h mi s k ∧ pS y mo d h mi s k ≤ 999999999 * k := by
  induction k with
  | zero => simp [pS]
  | succ k ih =>
    have i1 := ih fun j hj => a j (by omega)
    have i2 := a k (by omega)
    unfold pS
    omega
theorem idx (y mo d h mi s : Int) (k : Nat) (hk : k < 6) (W : World) : (Instr.index 103 (.agg #[.int .i64 y, .int .i64 mo, .int .i64 d, .int .i64 h, .int .i64 mi, .int .i64 s]) (.int .i64 k)).run Tryd.prog W = .ok (.int .i64 (pN y mo d h mi s k)) W := by
  match k, hk with
  | 0, _ => show _ = _; kernel_rfl
  | 1, _ => show _ = _; kernel_rfl
  | 2, _ => show _ = _; kernel_rfl
  | 3, _ => show _ = _; kernel_rfl
  | 4, _ => show _ = _; kernel_rfl
  | 5, _ => show _ = _; kernel_rfl
theorem lslice (k : Nat) (hk : k < 6) (W : World) : (Instr.slice 9 (.string (⟨#[89, 77, 68, 72, 77, 83]⟩ : ByteArray)) (some (.int .i64 k)) (some (.int .i64 ((k : Int) + 1))) none).run Tryd.prog W = .ok (.string (ltr k)) W := by
  match k, hk with
  | 0, _ => show _ = _; kernel_rfl
  | 1, _ => show _ = _; kernel_rfl
  | 2, _ => show _ = _; kernel_rfl
  | 3, _ => show _ = _; kernel_rfl
  | 4, _ => show _ = _; kernel_rfl
  | 5, _ => show _ = _; kernel_rfl

set_option maxRecDepth 100000 in
set_option maxHeartbeats 1000000 in
/-- a part that may not be: refused -/
theorem span_bad (y mo wk d h mi s : Int) (w : World) (hbad : allOk y mo d h mi s = false) :
    Calls Tryd.prog 32 #[.agg #[.int .i64 y, .int .i64 mo, .int .i64 wk, .int .i64 d, .int .i64 h, .int .i64 mi, .int .i64 s]] w
      fun e w' => e = .returned (.tuple #[.string (⟨#[]⟩ : ByteArray), .int .i64 34]) ∧ Below w.heap.size w w' := by
  have HB := Lib.hid hbad
  clear hbad
  go_enter Tryd.func32, Tryd.ntmps32
  go_wp2
  go_loop [5, 25] (fun t i => ∃ k : Nat, k ≤ 6 ∧ i = .int .i64 k ∧ t = .int .i64 (pS y mo d h mi s k) ∧ Hid (∀ j, j < k → okB (pN y mo d h mi s j) = true)) (fun _ i => 6 - (intOf i).toNat)
  case atStart => exact ⟨0, by omega, rfl, rfl, fun j hj => absurd hj (by omega)⟩
  case round =>
    obtain ⟨k, hk, rfl, rfl, HK⟩ := hrel
    by_cases hlt : k < 6
    · have hi := idx y mo d h mi s k hlt
      have hs := pS_bd (y := y) (mo := mo) (d := d) (h := h) (mi := mi) (s := s) k fun j hj => okB_out (HK.out j hj)
      have HS := Lib.hid (show pS y mo d h mi s (k + 1) = pS y mo d h mi s k + pN y mo d h mi s k from rfl)
      cases hn : okB (pN y mo d h mi s k) with
      | true =>
        have HN := Lib.hid hn
        have hb := okB_out hn
        clear hn
        generalize hq : pN y mo d h mi s k = n at *
        have HQ := Lib.hid hq
        clear hq
        obtain ⟨hb1, hb2⟩ := hb
        go_wp2
        go_round
        case rel =>
          refine ⟨k + 1, by omega, by go_num, by rw [HS.out], fun j hj => ?_⟩
          by_cases e : j = k
          · rw [e, HQ.out]; exact HN.out
          · exact HK.out j (by omega)
        case measure => simp [intOf]; omega
      | false =>
        have hb := okB_no hn
        clear hn
        generalize hq : pN y mo d h mi s k = n at *
        have HQ := Lib.hid hq
        clear hq
        rcases hb with hb | hb
        · go_wp2
          go_ret2
          exact ⟨rfl, ((Below.refl _ _).alloc (Nat.le_refl _) _).alloc (by simp) _⟩
        · have hb' : ¬ n < 0 := by omega
          go_wp2
          go_ret2
          exact ⟨rfl, ((Below.refl _ _).alloc (Nat.le_refl _) _).alloc (by simp) _⟩
    · obtain rfl : k = 6 := by omega
      exact absurd (all_of y mo d h mi s HK.out) (by rw [HB.out]; simp)

set_option maxRecDepth 100000 in
set_option maxHeartbeats 1000000 in
/-- weeks below 0 -/
theorem span_wk1 (y mo wk d h mi s : Int) (w : World) (hok : allOk y mo d h mi s = true) (h1 : wk < 0) :
    Calls Tryd.prog 32 #[.agg #[.int .i64 y, .int .i64 mo, .int .i64 wk, .int .i64 d, .int .i64 h, .int .i64 mi, .int .i64 s]] w
      fun e w' => e = .returned (.tuple #[.string (⟨#[]⟩ : ByteArray), .int .i64 34]) ∧ Below w.heap.size w w' := by
  have HB := Lib.hid hok
  have hsum := pS_bd (y := y) (mo := mo) (d := d) (h := h) (mi := mi) (s := s) 6 fun j _ => of_all hok j
  clear hok
  go_enter Tryd.func32, Tryd.ntmps32
  go_wp2
  go_loop [5, 25] (fun t i => ∃ k : Nat, k ≤ 6 ∧ i = .int .i64 k ∧ t = .int .i64 (pS y mo d h mi s k)) (fun _ i => 6 - (intOf i).toNat)
  case atStart => exact ⟨0, by omega, rfl, rfl⟩
  case round =>
    obtain ⟨k, hk, rfl, rfl⟩ := hrel
    by_cases hlt : k < 6
    · have hi := idx y mo d h mi s k hlt
      have hs := pS_bd (y := y) (mo := mo) (d := d) (h := h) (mi := mi) (s := s) k fun j _ => of_all HB.out j
      have HS := Lib.hid (show pS y mo d h mi s (k + 1) = pS y mo d h mi s k + pN y mo d h mi s k from rfl)
      have hb := of_all HB.out k
      generalize hq : pN y mo d h mi s k = n at *
      clear hq
      obtain ⟨hb1, hb2⟩ := hb
      go_wp2
      go_round
      case rel => exact ⟨k + 1, by omega, by go_num, by rw [HS.out]⟩
      case measure => simp [intOf]; omega
    · obtain rfl : k = 6 := by omega
      generalize hS : pS y mo d h mi s 6 = S at *
      have HS := Lib.hid hS
      clear hS
      obtain ⟨hs1, hs2⟩ := hsum
      go_wp2
      go_ret2
      exact ⟨rfl, ((Below.refl _ _).alloc (Nat.le_refl _) _).alloc (by simp) _⟩

set_option maxRecDepth 100000 in
set_option maxHeartbeats 1000000 in
/-- too many weeks -/
theorem span_wk2 (y mo wk d h mi s : Int) (w : World) (hok : allOk y mo d h mi s = true) (h1 : 999999999 < wk) :
    Calls Tryd.prog 32 #[.agg #[.int .i64 y, .int .i64 mo, .int .i64 wk, .int .i64 d, .int .i64 h, .int .i64 mi, .int .i64 s]] w
      fun e w' => e = .returned (.tuple #[.string (⟨#[]⟩ : ByteArray), .int .i64 34]) ∧ Below w.heap.size w w' := by
  have HB := Lib.hid hok
  have hsum := pS_bd (y := y) (mo := mo) (d := d) (h := h) (mi := mi) (s := s) 6 fun j _ => of_all hok j
  clear hok
  go_enter Tryd.func32, Tryd.ntmps32
  go_wp2
  go_loop [5, 25] (fun t i => ∃ k : Nat, k ≤ 6 ∧ i = .int .i64 k ∧ t = .int .i64 (pS y mo d h mi s k)) (fun _ i => 6 - (intOf i).toNat)
  case atStart => exact ⟨0, by omega, rfl, rfl⟩
  case round =>
    obtain ⟨k, hk, rfl, rfl⟩ := hrel
    by_cases hlt : k < 6
    · have hi := idx y mo d h mi s k hlt
      have hs := pS_bd (y := y) (mo := mo) (d := d) (h := h) (mi := mi) (s := s) k fun j _ => of_all HB.out j
      have HS := Lib.hid (show pS y mo d h mi s (k + 1) = pS y mo d h mi s k + pN y mo d h mi s k from rfl)
      have hb := of_all HB.out k
      generalize hq : pN y mo d h mi s k = n at *
      clear hq
      obtain ⟨hb1, hb2⟩ := hb
      go_wp2
      go_round
      case rel => exact ⟨k + 1, by omega, by go_num, by rw [HS.out]⟩
      case measure => simp [intOf]; omega
    · obtain rfl : k = 6 := by omega
      generalize hS : pS y mo d h mi s 6 = S at *
      have HS := Lib.hid hS
      clear hS
      obtain ⟨hs1, hs2⟩ := hsum
      have h2 : ¬ wk < 0 := by omega
      go_wp2
      go_ret2
      exact ⟨rfl, ((Below.refl _ _).alloc (Nat.le_refl _) _).alloc (by simp) _⟩

set_option maxRecDepth 100000 in
set_option maxHeartbeats 1000000 in
/-- weeks beside other parts -/
theorem span_wk3 (y mo wk d h mi s : Int) (w : World) (hok : allOk y mo d h mi s = true) (h1 : 0 < wk) (h2 : wk ≤ 999999999) (h3 : 0 < pS y mo d h mi s 6) :
    Calls Tryd.prog 32 #[.agg #[.int .i64 y, .int .i64 mo, .int .i64 wk, .int .i64 d, .int .i64 h, .int .i64 mi, .int .i64 s]] w
      fun e w' => e = .returned (.tuple #[.string (⟨#[]⟩ : ByteArray), .int .i64 34]) ∧ Below w.heap.size w w' := by
  have HB := Lib.hid hok
  have hsum := pS_bd (y := y) (mo := mo) (d := d) (h := h) (mi := mi) (s := s) 6 fun j _ => of_all hok j
  clear hok
  go_enter Tryd.func32, Tryd.ntmps32
  go_wp2
  go_loop [5, 25] (fun t i => ∃ k : Nat, k ≤ 6 ∧ i = .int .i64 k ∧ t = .int .i64 (pS y mo d h mi s k)) (fun _ i => 6 - (intOf i).toNat)
  case atStart => exact ⟨0, by omega, rfl, rfl⟩
  case round =>
    obtain ⟨k, hk, rfl, rfl⟩ := hrel
    by_cases hlt : k < 6
    · have hi := idx y mo d h mi s k hlt
      have hs := pS_bd (y := y) (mo := mo) (d := d) (h := h) (mi := mi) (s := s) k fun j _ => of_all HB.out j
      have HS := Lib.hid (show pS y mo d h mi s (k + 1) = pS y mo d h mi s k + pN y mo d h mi s k from rfl)
      have hb := of_all HB.out k
      generalize hq : pN y mo d h mi s k = n at *
      clear hq
      obtain ⟨hb1, hb2⟩ := hb
      go_wp2
      go_round
      case rel => exact ⟨k + 1, by omega, by go_num, by rw [HS.out]⟩
      case measure => simp [intOf]; omega
    · obtain rfl : k = 6 := by omega
      generalize hS : pS y mo d h mi s 6 = S at *
      have HS := Lib.hid hS
      clear hS
      obtain ⟨hs1, hs2⟩ := hsum
      have h4 : ¬ wk < 0 := by omega
      have h5 : ¬ 999999999 < wk := by omega
      go_wp2
      go_ret2
      exact ⟨rfl, ((Below.refl _ _).alloc (Nat.le_refl _) _).alloc (by simp) _⟩

set_option maxRecDepth 100000 in
set_option maxHeartbeats 1000000 in
/-- weeks alone -/
theorem span_wk4 (y mo wk d h mi s : Int) (w : World) (hok : allOk y mo d h mi s = true) (h1 : 0 < wk) (h2 : wk ≤ 999999999) (h3 : pS y mo d h mi s 6 = 0) :
    Calls Tryd.prog 32 #[.agg #[.int .i64 y, .int .i64 mo, .int .i64 wk, .int .i64 d, .int .i64 h, .int .i64 mi, .int .i64 s]] w
      fun e w' => e = .returned (.tuple #[.string ((⟨#[80]⟩ : ByteArray) ++ P wk 1 ++ (⟨#[87]⟩ : ByteArray)), .int .i64 0]) ∧ Below w.heap.size w w' := by
  have HB := Lib.hid hok
  have hsum := pS_bd (y := y) (mo := mo) (d := d) (h := h) (mi := mi) (s := s) 6 fun j _ => of_all hok j
  clear hok
  go_enter Tryd.func32, Tryd.ntmps32
  go_wp2
  go_loop [5, 25] (fun t i => ∃ k : Nat, k ≤ 6 ∧ i = .int .i64 k ∧ t = .int .i64 (pS y mo d h mi s k)) (fun _ i => 6 - (intOf i).toNat)
  case atStart => exact ⟨0, by omega, rfl, rfl⟩
  case round =>
    obtain ⟨k, hk, rfl, rfl⟩ := hrel
    by_cases hlt : k < 6
    · have hi := idx y mo d h mi s k hlt
      have hs := pS_bd (y := y) (mo := mo) (d := d) (h := h) (mi := mi) (s := s) k fun j _ => of_all HB.out j
      have HS := Lib.hid (show pS y mo d h mi s (k + 1) = pS y mo d h mi s k + pN y mo d h mi s k from rfl)
      have hb := of_all HB.out k
      generalize hq : pN y mo d h mi s k = n at *
      clear hq
      obtain ⟨hb1, hb2⟩ := hb
      go_wp2
      go_round
      case rel => exact ⟨k + 1, by omega, by go_num, by rw [HS.out]⟩
      case measure => simp [intOf]; omega
    · obtain rfl : k = 6 := by omega
      generalize hS : pS y mo d h mi s 6 = S at *
      have HS := Lib.hid hS
      clear hS
      obtain ⟨hs1, hs2⟩ := hsum
      have h4 : ¬ wk < 0 := by omega
      have h5 : ¬ 999999999 < wk := by omega
      have h6 : ¬ 0 < S := by omega
      clear h3
      have hp := P_size wk 1
      go_wp2_with (go_at_call 38; refine (cal_pad.calls 30 wk 1 (P wk 1) _ (pad_eq 30 wk 1 (by omega) (by omega) (by omega) (by omega) (by omega))).mono ?_; rintro e w1 ⟨rfl, hb⟩)
      go_ret2
      exact ⟨rfl, (((Below.refl _ _).alloc (Nat.le_refl _) _).alloc (by simp) _).trans (hb.mono (by simp; omega))⟩

set_option maxRecDepth 100000 in
set_option maxHeartbeats 1000000 in
/-- nothing at all -/
theorem span_zero (y mo wk d h mi s : Int) (w : World) (hok : allOk y mo d h mi s = true) (h1 : wk = 0) (h3 : pS y mo d h mi s 6 = 0) :
    Calls Tryd.prog 32 #[.agg #[.int .i64 y, .int .i64 mo, .int .i64 wk, .int .i64 d, .int .i64 h, .int .i64 mi, .int .i64 s]] w
      fun e w' => e = .returned (.tuple #[.string (⟨#[80, 84, 48, 83]⟩ : ByteArray), .int .i64 0]) ∧ Below w.heap.size w w' := by
  subst h1
  have HB := Lib.hid hok
  have hsum := pS_bd (y := y) (mo := mo) (d := d) (h := h) (mi := mi) (s := s) 6 fun j _ => of_all hok j
  clear hok
  go_enter Tryd.func32, Tryd.ntmps32
  go_wp2
  go_loop [5, 25] (fun t i => ∃ k : Nat, k ≤ 6 ∧ i = .int .i64 k ∧ t = .int .i64 (pS y mo d h mi s k)) (fun _ i => 6 - (intOf i).toNat)
  case atStart => exact ⟨0, by omega, rfl, rfl⟩
  case round =>
    obtain ⟨k, hk, rfl, rfl⟩ := hrel
    by_cases hlt : k < 6
    · have hi := idx y mo d h mi s k hlt
      have hs := pS_bd (y := y) (mo := mo) (d := d) (h := h) (mi := mi) (s := s) k fun j _ => of_all HB.out j
      have HS := Lib.hid (show pS y mo d h mi s (k + 1) = pS y mo d h mi s k + pN y mo d h mi s k from rfl)
      have hb := of_all HB.out k
      generalize hq : pN y mo d h mi s k = n at *
      clear hq
      obtain ⟨hb1, hb2⟩ := hb
      go_wp2
      go_round
      case rel => exact ⟨k + 1, by omega, by go_num, by rw [HS.out]⟩
      case measure => simp [intOf]; omega
    · obtain rfl : k = 6 := by omega
      generalize hS : pS y mo d h mi s 6 = S at *
      have HS := Lib.hid hS
      clear hS
      obtain ⟨hs1, hs2⟩ := hsum
      have h7 : (S == 0) = true := beq_iff_eq.2 h3
      clear h3
      go_wp2
      go_ret2
      exact ⟨rfl, ((Below.refl _ _).alloc (Nat.le_refl _) _).alloc (by simp) _⟩

set_option maxRecDepth 100000 in
set_option maxHeartbeats 1000000 in
/-- parts -/
theorem span_parts (y mo wk d h mi s : Int) (w : World) (hok : allOk y mo d h mi s = true) (h1 : wk = 0) (h3 : 0 < pS y mo d h mi s 6) :
    Calls Tryd.prog 32 #[.agg #[.int .i64 y, .int .i64 mo, .int .i64 wk, .int .i64 d, .int .i64 h, .int .i64 mi, .int .i64 s]] w
      fun e w' => e = .returned (.tuple #[.string (outs y mo d h mi s 6), .int .i64 0]) ∧ Below w.heap.size w w' := by
  subst h1
  have HB := Lib.hid hok
  have hsum := pS_bd (y := y) (mo := mo) (d := d) (h := h) (mi := mi) (s := s) 6 fun j _ => of_all hok j
  clear hok
  go_enter Tryd.func32, Tryd.ntmps32
  go_wp2
  go_loop [5, 25] (fun t i => ∃ k : Nat, k ≤ 6 ∧ i = .int .i64 k ∧ t = .int .i64 (pS y mo d h mi s k)) (fun _ i => 6 - (intOf i).toNat)
  case atStart => exact ⟨0, by omega, rfl, rfl⟩
  case round =>
    obtain ⟨k, hk, rfl, rfl⟩ := hrel
    by_cases hlt : k < 6
    · have hi := idx y mo d h mi s k hlt
      have hs := pS_bd (y := y) (mo := mo) (d := d) (h := h) (mi := mi) (s := s) k fun j _ => of_all HB.out j
      have HS := Lib.hid (show pS y mo d h mi s (k + 1) = pS y mo d h mi s k + pN y mo d h mi s k from rfl)
      have hb := of_all HB.out k
      generalize hq : pN y mo d h mi s k = n at *
      clear hq
      obtain ⟨hb1, hb2⟩ := hb
      go_wp2
      go_round
      case rel => exact ⟨k + 1, by omega, by go_num, by rw [HS.out]⟩
      case measure => simp [intOf]; omega
    · obtain rfl : k = 6 := by omega
      generalize hS : pS y mo d h mi s 6 = S at *
      have HS := Lib.hid hS
      clear hS
      obtain ⟨hs1, hs2⟩ := hsum
      have h7 : (S == 0) = false := beq_eq_false_iff_ne.2 (by omega)
      go_wp2
      go_loopw [8, 69] (fun o i wr => ∃ k : Nat, k ≤ 6 ∧ i = .int .i64 k ∧ o = .string (outs y mo d h mi s k) ∧ wr.cell? ⟨w.heap.size + 1, 3, none⟩ = some (.int .i64 h) ∧ wr.cell? ⟨w.heap.size + 1, 4, none⟩ = some (.int .i64 mi) ∧ wr.cell? ⟨w.heap.size + 1, 5, none⟩ = some (.int .i64 s) ∧ Hid (Below w.heap.size w wr) ∧ w.heap.size + 1 < wr.heap.size) (fun _ i _ => 6 - (intOf i).toNat)
      case atStart => exact ⟨0, by omega, rfl, rfl, by go_simp, by go_simp, by go_simp, ((Below.refl _ _).alloc (Nat.le_refl _) _).alloc (by simp) _, by simp⟩
      case round =>
        obtain ⟨k, hk, rfl, rfl, hc3, hc4, hc5, hb, hz⟩ := hrel
        by_cases hlt : k < 6
        · have hi := idx y mo d h mi s k hlt
          have hl := lslice k hlt
          have hwr : IntKind.i64.wrap ((k : Int) + 1) = (k : Int) + 1 := IntWalk.i64_in _ (by omega)
          have hls := ltr_size k
          have hls' : (ltr k).size ≤ 1 := by omega
          clear hls
          have hos := outs_size y mo d h mi s k
          have hn := of_all HB.out k
          obtain ⟨a1, a2⟩ : 0 ≤ h ∧ h ≤ 999999999 := of_all HB.out 3
          obtain ⟨a3, a4⟩ : 0 ≤ mi ∧ mi ≤ 999999999 := of_all HB.out 4
          obtain ⟨a5, a6⟩ : 0 ≤ s ∧ s ≤ 999999999 := of_all HB.out 5
          have HO := Lib.hid (show outs y mo d h mi s (k + 1) = (if pN y mo d h mi s k > 0 then (if k = 3 ∧ h + mi + s > 0 then outs y mo d h mi s k ++ (⟨#[84]⟩ : ByteArray) else outs y mo d h mi s k) ++ (P (pN y mo d h mi s k) 1 ++ ltr k)
            else (if k = 3 ∧ h + mi + s > 0 then outs y mo d h mi s k ++ (⟨#[84]⟩ : ByteArray) else outs y mo d h mi s k)) from rfl)
          generalize hq : pN y mo d h mi s k = n at *
          clear hq
          obtain ⟨hn1, hn2⟩ := hn
          have hp := P_size n 1
          by_cases k3 : k = 3
          · have k3b : ((k : Int) == 3) = true := beq_iff_eq.2 (by omega)
            have K3 := Lib.hid k3
            clear k3
            by_cases hT : 0 < h + mi + s
            · by_cases hpos : 0 < n
              · have E := Lib.hid (HO.out.trans (by rw [if_pos hpos, if_pos ⟨K3.out, hT⟩]))
                clear HO
                go_wp2
                go_region_with (go_at_call 38; refine (cal_pad.calls 30 n 1 (P n 1) _ (pad_eq 30 n 1 (by omega) (by omega) (by omega) (by omega) (by omega))).mono ?_; rintro e w1 ⟨rfl, hb1⟩)
                all_goals
                  go_wp2
                  go_roundw
                  case rel => exact ⟨k + 1, by omega, by go_num, congrArg Value.string E.out.symm, (hb1.cell (p := ⟨w.heap.size + 1, 3, none⟩) hz).trans hc3, (hb1.cell (p := ⟨w.heap.size + 1, 4, none⟩) hz).trans hc4, (hb1.cell (p := ⟨w.heap.size + 1, 5, none⟩) hz).trans hc5, hb.out.drew.trans (hb1.mono hb.out.size), Nat.lt_of_lt_of_le hz hb1.size⟩
                  case measure => simp [intOf]; omega
              · have E := Lib.hid (HO.out.trans (by rw [if_neg hpos, if_pos ⟨K3.out, hT⟩]))
                clear HO
                go_wp2
                go_roundw
                case rel => exact ⟨k + 1, by omega, by go_num, congrArg Value.string E.out.symm, hc3, hc4, hc5, hb, hz⟩
                case measure => simp [intOf]; omega
            · by_cases hpos : 0 < n
              · have E := Lib.hid (HO.out.trans (by rw [if_pos hpos, if_neg (fun z => hT z.2)]))
                clear HO
                go_wp2
                go_region_with (go_at_call 38; refine (cal_pad.calls 30 n 1 (P n 1) _ (pad_eq 30 n 1 (by omega) (by omega) (by omega) (by omega) (by omega))).mono ?_; rintro e w1 ⟨rfl, hb1⟩)
                all_goals
                  go_wp2
                  go_roundw
                  case rel => exact ⟨k + 1, by omega, by go_num, congrArg Value.string E.out.symm, (hb1.cell (p := ⟨w.heap.size + 1, 3, none⟩) hz).trans hc3, (hb1.cell (p := ⟨w.heap.size + 1, 4, none⟩) hz).trans hc4, (hb1.cell (p := ⟨w.heap.size + 1, 5, none⟩) hz).trans hc5, hb.out.drew.trans (hb1.mono hb.out.size), Nat.lt_of_lt_of_le hz hb1.size⟩
                  case measure => simp [intOf]; omega
              · have E := Lib.hid (HO.out.trans (by rw [if_neg hpos, if_neg (fun z => hT z.2)]))
                clear HO
                go_wp2
                go_roundw
                case rel => exact ⟨k + 1, by omega, by go_num, congrArg Value.string E.out.symm, hc3, hc4, hc5, hb, hz⟩
                case measure => simp [intOf]; omega
          · have k3b : ((k : Int) == 3) = false := beq_eq_false_iff_ne.2 (by omega)
            have K3 := Lib.hid k3
            clear k3
            by_cases hpos : 0 < n
            · have E := Lib.hid (HO.out.trans (by rw [if_pos hpos, if_neg (fun z => K3.out z.1)]))
              clear HO
              go_wp2
              go_region_with (go_at_call 38; refine (cal_pad.calls 30 n 1 (P n 1) _ (pad_eq 30 n 1 (by omega) (by omega) (by omega) (by omega) (by omega))).mono ?_; rintro e w1 ⟨rfl, hb1⟩)
              all_goals
                go_wp2
                go_roundw
                case rel => exact ⟨k + 1, by omega, by go_num, congrArg Value.string E.out.symm, (hb1.cell (p := ⟨w.heap.size + 1, 3, none⟩) hz).trans hc3, (hb1.cell (p := ⟨w.heap.size + 1, 4, none⟩) hz).trans hc4, (hb1.cell (p := ⟨w.heap.size + 1, 5, none⟩) hz).trans hc5, hb.out.drew.trans (hb1.mono hb.out.size), Nat.lt_of_lt_of_le hz hb1.size⟩
                case measure => simp [intOf]; omega
            · have E := Lib.hid (HO.out.trans (by rw [if_neg hpos, if_neg (fun z => K3.out z.1)]))
              clear HO
              go_wp2
              go_roundw
              case rel => exact ⟨k + 1, by omega, by go_num, congrArg Value.string E.out.symm, hc3, hc4, hc5, hb, hz⟩
              case measure => simp [intOf]; omega
        · obtain rfl : k = 6 := by omega
          go_wp2
          go_ret2
          exact ⟨rfl, hb.out⟩

theorem cal_PrintSpan.calls (y mo wk d h mi s : Int) (r1 : ByteArray) (r2 : Int) (w : World) (hf : cal_PrintSpan.f y mo wk d h mi s = some (r1, r2)) :
    Calls Tryd.prog 32 #[.agg #[.int .i64 y, .int .i64 mo, .int .i64 wk, .int .i64 d, .int .i64 h, .int .i64 mi, .int .i64 s]] w fun e w' => e = .returned (.tuple #[.string r1, .int .i64 r2]) ∧ Below w.heap.size w w' := by
  unfold cal_PrintSpan.f at hf
  cases ha : allOk y mo d h mi s with
  | false =>
    rw [ha, if_neg (by simp)] at hf
    obtain ⟨rfl, rfl⟩ := Prod.mk.inj (Option.some.inj hf)
    exact span_bad y mo wk d h mi s w ha
  | true =>
    have hs := pS_bd (y := y) (mo := mo) (d := d) (h := h) (mi := mi) (s := s) 6 fun j _ => of_all ha j
    rw [ha, if_pos rfl] at hf
    by_cases c : wk < 0 ∨ wk > 999999999 ∨ (wk > 0 ∧ pS y mo d h mi s 6 > 0)
    · rw [if_pos c] at hf
      obtain ⟨rfl, rfl⟩ := Prod.mk.inj (Option.some.inj hf)
      by_cases c1 : wk < 0
      · exact span_wk1 y mo wk d h mi s w ha c1
      · by_cases c2 : 999999999 < wk
        · exact span_wk2 y mo wk d h mi s w ha c2
        · exact span_wk3 y mo wk d h mi s w ha (by omega) (by omega) (by omega)
    · rw [if_neg c] at hf
      by_cases c1 : wk > 0
      · rw [if_pos c1] at hf
        obtain ⟨rfl, rfl⟩ := Prod.mk.inj (Option.some.inj hf)
        exact span_wk4 y mo wk d h mi s w ha c1 (by omega) (by omega)
      · rw [if_neg c1] at hf
        by_cases c2 : pS y mo d h mi s 6 = 0
        · rw [if_pos c2] at hf
          obtain ⟨rfl, rfl⟩ := Prod.mk.inj (Option.some.inj hf)
          exact span_zero y mo wk d h mi s w ha (by omega) c2
        · rw [if_neg c2] at hf
          obtain ⟨rfl, rfl⟩ := Prod.mk.inj (Option.some.inj hf)
          exact span_parts y mo wk d h mi s w ha (by omega) (by omega)
end Go.Proofs.YtiklakkkgmilnaaDoor.Ext

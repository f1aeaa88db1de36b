/- cal's Each: the function that it hands back, as an iterator that calls yield with each day. -/
import Derived.RangeFuncNested
import Derived.RangeFuncBound
import Derived.RangeFuncCalls
import Derived.RangeFuncLeaves
import Derived.RangeFuncBox
import Derived.Shelf.Abstract
import Derived.Shelf.RegionOpen
import Derived.WalkKit
import Derived.OwnWalkIn
import Derived.TacticsInMore
import Derived.LoopNIn
import Derived.LoopIn
import Derived.Lib.Hide
import Derived.IntWalk
import Derived.Test.YtjifinacnofmiaaDoorCalValX
import Derived.Test.YtjifinacnofmiaaDoorCalPA
set_option linter.unusedVariables false
set_option linter.unusedSimpArgs false
namespace Go.Proofs.YtjifinacnofmiaaDoor.Ext
open Go.RowKit Go.Shelf Go.Proofs.YtjifinacnofmiaaDoorW.PrintWords Go.Proofs.YtjifinacnofmiaaDoor.PCal Go.Proofs.YtjifinacnofmiaaDoor.CalP Go.Proofs.YtjifinacnofmiaaDoor.GC
attribute [local go_sem] Oper.semAt_some

/-- the day with a number -/
def dt (n : Int) : Int × Int × Int := if 0 ≤ n ∧ n ≤ 3652424 then (cal_date.f 30000 n).getD (0, 0, 0) else (0, 1, 1)
theorem dt_num {y m d : Int} (hv : vldB y m d = true) : dt (num y m d) = (y, m, d) := by
  obtain ⟨_, _, h1, h2⟩ := num_bd hv
  unfold dt
  rw [if_pos ⟨h1, h2⟩, date_eq 30000 (Nat.le_refl _) hv]
  rfl
theorem dt_spec {n : Int} (h0 : 0 ≤ n) (h1 : n ≤ 3652424) : vldB (dt n).1 (dt n).2.1 (dt n).2.2 = true ∧ num (dt n).1 (dt n).2.1 (dt n).2.2 = n := by
  obtain ⟨y, m, d, hv, rfl⟩ := day_ex n h0 h1
  rw [dt_num hv]
  exact ⟨hv, rfl⟩
theorem date_dt (k : Nat) (hk : 30000 ≤ k) {n : Int} (h0 : 0 ≤ n) (h1 : n ≤ 3652424) : cal_date.f k n = some (dt n) := by
  obtain ⟨a, b⟩ := dt_spec h0 h1
  have := date_eq k hk a
  rw [b] at this
  exact this
abbrev VD (t : Int × Int × Int) : Value := .agg #[.int .i64 t.1, .int .i64 t.2.1, .int .i64 t.2.2]
/-- the numbers that Each goes over from one on (there being one) -/
def goL (s e : Int) : Nat → Int → List Int
  | 0, n => [n]
  | m + 1, n => if (0 < s ∧ e - n < s) ∨ (s < 0 ∧ s < e - n) then [n] else n :: goL s e m (n + s)
/-- the numbers that Each goes over -/
def eachL (y m d y' m' d' s : Int) : List Int :=
  if vldB y m d = true ∧ vldB y' m' d' = true ∧ s ≠ 0 ∧ ((0 < s ∧ num y m d ≤ num y' m' d') ∨ (s < 0 ∧ num y' m' d' ≤ num y m d)) then goL s (num y' m' d') (num y' m' d' - num y m d).natAbs (num y m d) else []
/-- the three variables that the iterator has captured -/
structure EB (W : World) (b : Nat) (y m d y' m' d' s : Int) : Prop where
  ha : W.heap[b]? = some (.cells #[.int .i64 y, .int .i64 m, .int .i64 d] 27 (0, 0))
  hb : W.heap[b + 1]? = some (.cells #[.int .i64 y', .int .i64 m', .int .i64 d'] 27 (0, 0))
  hc : W.heap[b + 2]? = some (.cells #[.int .i64 s] 3 (0, 0))
def KpE (n₀ b : Nat) (W W' : World) : Prop := Below n₀ W W' ∧ W.heap.size ≤ W'.heap.size ∧ ∀ j, b ≤ j → j < b + 3 → W'.heap[j]? = W.heap[j]?
theorem KpE.trans {n₀ b : Nat} {A B C : World} (h : KpE n₀ b A B) (k : KpE n₀ b B C) : KpE n₀ b A C := ⟨h.1.trans k.1, Nat.le_trans h.2.1 k.2.1, fun j a c => (k.2.2 j a c).trans (h.2.2 j a c)⟩
theorem EB.kept {W W' : World} {b : Nat} {y m d y' m' d' s : Int} (h : EB W b y m d y' m' d' s) (k : ∀ j, b ≤ j → j < b + 3 → W'.heap[j]? = W.heap[j]?) : EB W' b y m d y' m' d' s :=
  ⟨(k b (by omega) (by omega)).trans h.ha, (k (b + 1) (by omega) (by omega)).trans h.hb, (k (b + 2) (by omega) (by omega)).trans h.hc⟩
theorem EB.lt {W : World} {b : Nat} {y m d y' m' d' s : Int} (h : EB W b y m d y' m' d' s) : b + 2 < W.heap.size := (Array.getElem?_eq_some_iff.1 h.hc).1
theorem EB.below {W W' : World} {b : Nat} {y m d y' m' d' s : Int} (h : EB W b y m d y' m' d' s) (k : Below W.heap.size W W') : EB W' b y m d y' m' d' s :=
  h.kept (fun j _ c => k.block j (by have := h.lt; omega))
theorem grown_of_below {A B : World} (h : Below A.heap.size A B) : A.grownBy B none := ⟨h.os, h.tape, h.output, h.size, fun i hi _ => h.block i hi⟩
theorem abides_below {β : Type} {B : Nat} {J : β → World → Prop} (hJ : AbidesFrom B J) {s : β} {W W' : World} (h : J s W) (k : Below W.heap.size W W') : J s W' :=
  hJ s W W' none h (grown_of_below k) (fun r e => by cases e)
set_option maxRecDepth 100000 in
set_option maxHeartbeats 1000000 in
theorem each_mk (n : Nat) (y m d y' m' d' s : Int) (w : World) :
    CallsIn Fence.wide n Tryd.prog 36 #[VD (y, m, d), VD (y', m', d'), .int .i64 s] w fun e w' =>
      e = .returned (.func (.func 47) #[] #[.pointer (some ⟨w.heap.size, 0, none⟩), .pointer (some ⟨w.heap.size + 1, 0, none⟩), .pointer (some ⟨w.heap.size + 2, 0, none⟩)]) ∧
      w' = ((w.alloc (.cells #[.int .i64 y, .int .i64 m, .int .i64 d] 27)).alloc (.cells #[.int .i64 y', .int .i64 m', .int .i64 d'] 27)).alloc (.cells #[.int .i64 s] 3) := by
  refine callsIn_of_wp Tryd.func36 rfl trivial ?_ rfl
  simp only [Tryd.ntmps36, List.size_toArray, List.length_cons, List.length_nil, Nat.reduceAdd, Nat.reduceSub, Array.replicate_succ, Array.replicate_zero, List.push_toArray, List.append_toArray, List.nil_append, List.cons_append]
  gi_wp2
  go_ret
  exact ⟨rfl, rfl⟩
theorem eb_cells {W : World} {b : Nat} {y m d y' m' d' s : Int} (h : EB W b y m d y' m' d' s) : (W.cell? ⟨b, 0, none⟩ = some (.int .i64 y) ∧ W.cell? ⟨b, 1, none⟩ = some (.int .i64 m) ∧ W.cell? ⟨b, 2, none⟩ = some (.int .i64 d)) ∧ (W.cell? ⟨b + 1, 0, none⟩ = some (.int .i64 y') ∧ W.cell? ⟨b + 1, 1, none⟩ = some (.int .i64 m') ∧ W.cell? ⟨b + 1, 2, none⟩ = some (.int .i64 d')) ∧ W.cell? ⟨b + 2, 0, none⟩ = some (.int .i64 s) :=
  ⟨⟨(blk_cell h.ha 0).trans rfl, (blk_cell h.ha 1).trans rfl, (blk_cell h.ha 2).trans rfl⟩, ⟨(blk_cell h.hb 0).trans rfl, (blk_cell h.hb 1).trans rfl, (blk_cell h.hb 2).trans rfl⟩, (blk_cell h.hc 0).trans rfl⟩
theorem goL_ne (s e : Int) (m : Nat) (n : Int) : ∃ l, goL s e m n = n :: l := by
  cases m with
  | zero => exact ⟨[], rfl⟩
  | succ m =>
    rw [goL]
    split
    · exact ⟨[], rfl⟩
    · exact ⟨_, rfl⟩
theorem goL_stop {s e : Int} (m : Nat) {n : Int} (h : (0 < s ∧ e - n < s) ∨ (s < 0 ∧ s < e - n)) : goL s e m n = [n] := by
  cases m with
  | zero => rfl
  | succ m => rw [goL, if_pos h]
theorem goL_go {s e : Int} (m : Nat) {n : Int} (h : ¬ ((0 < s ∧ e - n < s) ∨ (s < 0 ∧ s < e - n))) : goL s e (m + 1) n = n :: goL s e m (n + s) := by rw [goL, if_neg h]
def YieldOk (n l n₀ b : Nat) (xs : List Int) (J Jx : List Int → World → Prop) : Prop :=
  ∀ pre x W, J pre W → pre.length < xs.length → YieldAt Fence.wide (n - 1) Tryd.prog l #[VD (dt x)] W fun e W' =>
    (e = .returned (.bool true) ∧ J (pre ++ [x]) W' ∧ KpE n₀ b W W') ∨ (e = .returned (.bool false) ∧ Jx (pre ++ [x]) W')
set_option maxRecDepth 100000 in
set_option maxHeartbeats 1000000 in
/-- nothing to go over: a date that is no day, or no step -/
theorem each1_no (n l b : Nat) (hn : 1 ≤ n) (w0 : World) (hG : GlobOk w0) (y m d y' m' d' s : Int) (J : List Int → World → Prop) (W : World) (hJ : AbidesFrom W.heap.size J) (hE : EB W b y m d y' m' d' s) (hW : Below w0.heap.size w0 W) (h0 : J [] W)
    (hno : vldB y m d = false ∨ (vldB y m d = true ∧ vldB y' m' d' = false) ∨ (vldB y m d = true ∧ vldB y' m' d' = true ∧ s = 0)) :
    CallsIn Fence.wide n Tryd.prog 47 #[.func (.yield l) #[] #[], .pointer (some ⟨b, 0, none⟩), .pointer (some ⟨b + 1, 0, none⟩), .pointer (some ⟨b + 2, 0, none⟩)] W fun e W' => (∃ v, e = .returned v) ∧ J [] W' := by
  obtain ⟨⟨c0, c1, c2⟩, ⟨c3, c4, c5⟩, c6⟩ := eb_cells hE
  have HV1 := Lib.hid (fun W1 (h : Below W.heap.size W W1) => callsIn_wide (n := n - 1).2 (cal_Valid.calls y m d _ W1 (GlobOk.below hG (hW.trans (h.mono hW.size))) rfl))
  have HV2 := Lib.hid (fun W1 (h : Below W.heap.size W W1) => callsIn_wide (n := n - 1).2 (cal_Valid.calls y' m' d' _ W1 (GlobOk.below hG (hW.trans (h.mono hW.size))) rfl))
  have HE := Lib.hid hE
  have HJ := Lib.hid (show ∀ W', Below W.heap.size W W' → J [] W' from fun W' h => abides_below hJ h0 h)
  clear hJ hE hW h0 hG
  rcases hno with h | ⟨h, h2⟩ | ⟨h, h2, rfl⟩
  · rw [h] at HV1
    clear h
    refine callsIn_of_wp Tryd.func47 rfl trivial ?_ rfl
    simp only [Tryd.ntmps47, List.size_toArray, List.length_cons, List.length_nil, Nat.reduceAdd, Nat.reduceSub, Array.replicate_succ, Array.replicate_zero, List.push_toArray, List.append_toArray, List.nil_append, List.cons_append]
    gi_wp2_with (refine ⟨trivial, ?_⟩; gi_at_call 19; (with_reducible refine (HV1.out _ (Below.refl _ _)).mono ?_); rintro e w1 ⟨rfl, hb1⟩; have HB1 := Lib.hid hb1; clear hb1; obtain ⟨⟨c0, c1, c2⟩, ⟨c3, c4, c5⟩, c6⟩ := eb_cells (HE.out.below HB1.out))
    refine ⟨trivial, ?_⟩
    gi_wp2
    refine bodyPost_ret (results_none rfl _ _ _) rfl ?_
    exact ⟨⟨_, rfl⟩, HJ.out _ HB1.out⟩
  · rw [h] at HV1
    rw [h2] at HV2
    clear h h2
    refine callsIn_of_wp Tryd.func47 rfl trivial ?_ rfl
    simp only [Tryd.ntmps47, List.size_toArray, List.length_cons, List.length_nil, Nat.reduceAdd, Nat.reduceSub, Array.replicate_succ, Array.replicate_zero, List.push_toArray, List.append_toArray, List.nil_append, List.cons_append]
    gi_wp2_with (refine ⟨trivial, ?_⟩; gi_at_call 19; (with_reducible refine (HV1.out _ (Below.refl _ _)).mono ?_); rintro e w1 ⟨rfl, hb1⟩; have HB1 := Lib.hid hb1; clear hb1; obtain ⟨⟨c0, c1, c2⟩, ⟨c3, c4, c5⟩, c6⟩ := eb_cells (HE.out.below HB1.out))
    gi_wp2_with (refine ⟨trivial, ?_⟩; gi_at_call 19; (with_reducible refine (HV2.out _ HB1.out).mono ?_); rintro e w2 ⟨rfl, hb2⟩; have HB2 := Lib.hid (below_step HB1.out hb2); clear hb2; obtain ⟨⟨c0, c1, c2⟩, ⟨c3, c4, c5⟩, c6⟩ := eb_cells (HE.out.below HB2.out))
    refine bodyPost_ret (results_none rfl _ _ _) rfl ?_
    exact ⟨⟨_, rfl⟩, HJ.out _ HB2.out⟩
  · rw [h] at HV1
    rw [h2] at HV2
    clear h h2
    refine callsIn_of_wp Tryd.func47 rfl trivial ?_ rfl
    simp only [Tryd.ntmps47, List.size_toArray, List.length_cons, List.length_nil, Nat.reduceAdd, Nat.reduceSub, Array.replicate_succ, Array.replicate_zero, List.push_toArray, List.append_toArray, List.nil_append, List.cons_append]
    gi_wp2_with (refine ⟨trivial, ?_⟩; gi_at_call 19; (with_reducible refine (HV1.out _ (Below.refl _ _)).mono ?_); rintro e w1 ⟨rfl, hb1⟩; have HB1 := Lib.hid hb1; clear hb1; obtain ⟨⟨c0, c1, c2⟩, ⟨c3, c4, c5⟩, c6⟩ := eb_cells (HE.out.below HB1.out))
    gi_wp2_with (refine ⟨trivial, ?_⟩; gi_at_call 19; (with_reducible refine (HV2.out _ HB1.out).mono ?_); rintro e w2 ⟨rfl, hb2⟩; have HB2 := Lib.hid (below_step HB1.out hb2); clear hb2; obtain ⟨⟨c0, c1, c2⟩, ⟨c3, c4, c5⟩, c6⟩ := eb_cells (HE.out.below HB2.out))
    refine bodyPost_ret (results_none rfl _ _ _) rfl ?_
    exact ⟨⟨_, rfl⟩, HJ.out _ HB2.out⟩
set_option maxRecDepth 100000 in
set_option maxHeartbeats 4000000 in
theorem each1_pos (n l b : Nat) (hn : 1 ≤ n) (w0 : World) (hG : GlobOk w0) (y m d y' m' d' s : Int) (hs : 0 < s) (J Jx : List Int → World → Prop) (W : World) (hJ : AbidesFrom W.heap.size J) (hE : EB W b y m d y' m' d' s) (hW : Below w0.heap.size w0 W) (h0 : J [] W)
    (h1 : vldB y m d = true) (h2 : vldB y' m' d' = true) (hc : num y m d ≤ num y' m' d') (xs : List Int) (hxs : xs = goL s (num y' m' d') (num y' m' d' - num y m d).natAbs (num y m d)) (hY : YieldOk n l w0.heap.size b xs J Jx) :
    CallsIn Fence.wide n Tryd.prog 47 #[.func (.yield l) #[] #[], .pointer (some ⟨b, 0, none⟩), .pointer (some ⟨b + 1, 0, none⟩), .pointer (some ⟨b + 2, 0, none⟩)] W fun e W' => (∃ v, e = .returned v) ∧ ((∃ ys, ys = xs ∧ J ys W') ∨ (∃ pre, pre <+: xs ∧ pre ≠ [] ∧ Jx pre W')) := by
  obtain ⟨⟨c0, c1, c2⟩, ⟨c3, c4, c5⟩, c6⟩ := eb_cells hE
  have HV1 := Lib.hid (fun W1 (h : Below W.heap.size W W1) => callsIn_wide (n := n - 1).2 (cal_Valid.calls y m d _ W1 (GlobOk.below hG (hW.trans (h.mono hW.size))) rfl))
  have HV2 := Lib.hid (fun W1 (h : Below W.heap.size W W1) => callsIn_wide (n := n - 1).2 (cal_Valid.calls y' m' d' _ W1 (GlobOk.below hG (hW.trans (h.mono hW.size))) rfl))
  have HN1 := Lib.hid (fun W1 (h : Below W.heap.size W W1) => callsIn_wide (n := n - 1).2 (cal_number.calls y m d _ W1 (GlobOk.below hG (hW.trans (h.mono hW.size))) (number_eq y m d h1)))
  have HN2 := Lib.hid (fun W1 (h : Below W.heap.size W W1) => callsIn_wide (n := n - 1).2 (cal_number.calls y' m' d' _ W1 (GlobOk.below hG (hW.trans (h.mono hW.size))) (number_eq y' m' d' h2)))
  have HD := Lib.hid (fun (x : Int) (hx0 : 0 ≤ x) (hx1 : x ≤ 3652424) W1 (h : Below w0.heap.size w0 W1) => callsIn_wide (n := n - 1).2 (cal_date.calls 30000 x (dt x).1 (dt x).2.1 (dt x).2.2 W1 (GlobOk.below hG h) (date_dt 30000 (Nat.le_refl _) hx0 hx1)))
  have nb1 := num_bd h1
  have nb2 := num_bd h2
  have HE := Lib.hid hE
  have HJ := Lib.hid (show ∀ W', Below W.heap.size W W' → J [] W' from fun W' h => abides_below hJ h0 h)
  have HJA := Lib.hid (show ∀ p A B, J p A → Below A.heap.size A B → J p B from fun p A B h k => abides_below hJ h k)
  have HW := Lib.hid (show ∀ W', Below W.heap.size W W' → Below w0.heap.size w0 W' from fun W' h => hW.trans (h.mono hW.size))
  have hs0 : (s == 0) = false := beq_eq_false_iff_ne.2 (by omega)
  rw [h1] at HV1
  rw [h2] at HV2
  have HY := Lib.hid hY
  clear hJ hE hW h0 hG h1 h2 hY
  generalize num y m d = N at *
  generalize num y' m' d' = E at *
  obtain ⟨_, _, n1, n2⟩ := nb1
  obtain ⟨_, _, n3, n4⟩ := nb2
  have HX := Lib.hid hxs
  clear hxs
  have g0 : decide (0 < s) = true := decide_eq_true hs
  refine callsIn_of_wp Tryd.func47 rfl trivial ?_ rfl
  simp only [Tryd.ntmps47, List.size_toArray, List.length_cons, List.length_nil, Nat.reduceAdd, Nat.reduceSub, Array.replicate_succ, Array.replicate_zero, List.push_toArray, List.append_toArray, List.nil_append, List.cons_append]
  gi_wp2_with (refine ⟨trivial, ?_⟩; gi_at_call 19; (with_reducible refine (HV1.out _ (Below.refl _ _)).mono ?_); rintro e w1 ⟨rfl, hb1⟩; have HB1 := Lib.hid hb1; clear hb1; obtain ⟨⟨c0, c1, c2⟩, ⟨c3, c4, c5⟩, c6⟩ := eb_cells (HE.out.below HB1.out))
  gi_wp2_with (refine ⟨trivial, ?_⟩; gi_at_call 19; (with_reducible refine (HV2.out _ HB1.out).mono ?_); rintro e w2 ⟨rfl, hb2⟩; have HB2 := Lib.hid (below_step HB1.out hb2); clear hb2; obtain ⟨⟨c0, c1, c2⟩, ⟨c3, c4, c5⟩, c6⟩ := eb_cells (HE.out.below HB2.out))
  gi_region_with (first
    | (refine ⟨trivial, ?_⟩; gi_at_call 20; (with_reducible refine (HN1.out _ (by first | exact HB2.out | exact HB2.out.drew)).mono ?_); rintro e w3 ⟨rfl, hb3⟩; have HB3 := Lib.hid (below_step (show Below W.heap.size W _ by first | exact HB2.out | exact HB2.out.drew) hb3); clear hb3; obtain ⟨⟨c0, c1, c2⟩, ⟨c3, c4, c5⟩, c6⟩ := eb_cells (HE.out.below HB3.out))
    | (refine ⟨trivial, ?_⟩; gi_at_call 20; (with_reducible refine (HN2.out _ (by first | exact HB3.out | exact HB3.out.drew)).mono ?_); rintro e w4 ⟨rfl, hb4⟩; have HB4 := Lib.hid (below_step (show Below W.heap.size W _ by first | exact HB3.out | exact HB3.out.drew) hb4); clear hb4; obtain ⟨⟨c0, c1, c2⟩, ⟨c3, c4, c5⟩, c6⟩ := eb_cells (HE.out.below HB4.out)))
  all_goals
    simp only [List.getElem_toArray, List.getElem_cons_succ, List.getElem_cons_zero, Act.put, List.setIfInBounds_toArray, List.set_cons_zero, List.set_cons_succ]
    gi_wp2
    gi_loopw [5, 7] (fun p _ wr => ∃ (x : Int) (pre : List Int) (mm : Nat), p = .int .i64 x ∧ (N ≤ x ∧ x ≤ E) ∧ E - x ≤ mm ∧ Hid (xs = pre ++ goL s E mm x) ∧ Hid (J pre wr) ∧ Hid (Below w0.heap.size w0 wr) ∧ Hid (EB wr b y m d y' m' d' s))
      (fun p _ _ => (E - intOf p).toNat)
    case atStart =>
      exact ⟨N, [], _, rfl, by omega, (by omega : _ ≤ ((E - N).natAbs : Int)), Lib.hid HX.out, Lib.hid (HJ.out _ HB4.out), Lib.hid (HW.out _ HB4.out), Lib.hid (HE.out.below HB4.out)⟩
    case round =>
      obtain ⟨x, pre, mm, rfl, ⟨x1, x2⟩, hf, HXS, HJS, HBS, HES⟩ := hrel
      have hlen : pre.length < xs.length := by
        obtain ⟨q, hq⟩ := goL_ne s E mm x
        rw [HXS.out, hq]; simp
      have HL := Lib.hid hlen
      clear hlen
      obtain ⟨⟨c0, c1, c2⟩, ⟨c3, c4, c5⟩, c6⟩ := eb_cells HES.out
      by_cases hst : E - x < s
      · gi_wp2_with (refine ⟨trivial, ?_⟩; gi_at_call 24; (with_reducible refine (HD.out x (by omega) (by omega) _ HBS.out).mono ?_); rintro e w5 ⟨rfl, hb5⟩; obtain ⟨fn, tmps, assign, body, hy, hR⟩ := HY.out pre x w5 (HJA.out _ _ _ HJS.out hb5) HL.out; have HE5 := Lib.hid (HES.out.below hb5); have HB5 := Lib.hid (below_step HBS.out hb5); clear hb5; obtain ⟨⟨c0, c1, c2⟩, ⟨c3, c4, c5⟩, c6⟩ := eb_cells HE5.out)
        refine hR.mono ?_
        rintro e W3 (⟨rfl, hJ3, hk3⟩ | ⟨rfl, hJx3⟩)
        · have HE3 := Lib.hid (HE5.out.kept hk3.2.2)
          obtain ⟨⟨c0, c1, c2⟩, ⟨c3, c4, c5⟩, c6⟩ := eb_cells HE3.out
          have HJ3 := Lib.hid hJ3
          clear hJ3 hk3
          gi_wp2
          refine bodyPost_ret (results_none rfl _ _ _) rfl ?_
          exact ⟨⟨_, rfl⟩, .inl ⟨pre ++ [x], by rw [HXS.out, goL_stop mm (.inl ⟨hs, hst⟩)], HJ3.out⟩⟩
        · have HJ3 := Lib.hid hJx3
          clear hJx3
          gi_wp2
          refine bodyPost_ret (results_none rfl _ _ _) rfl ?_
          exact ⟨⟨_, rfl⟩, .inr ⟨pre ++ [x], by rw [HXS.out, goL_stop mm (.inl ⟨hs, hst⟩)]; exact List.prefix_refl _, by simp, HJ3.out⟩⟩
      · obtain ⟨mm, rfl⟩ : ∃ q, mm = q + 1 := ⟨mm - 1, by omega⟩
        have HG := Lib.hid (goL_go (s := s) (e := E) mm (n := x) (by omega))
        gi_wp2_with (refine ⟨trivial, ?_⟩; gi_at_call 24; (with_reducible refine (HD.out x (by omega) (by omega) _ HBS.out).mono ?_); rintro e w5 ⟨rfl, hb5⟩; obtain ⟨fn, tmps, assign, body, hy, hR⟩ := HY.out pre x w5 (HJA.out _ _ _ HJS.out hb5) HL.out; have HE5 := Lib.hid (HES.out.below hb5); have HB5 := Lib.hid (below_step HBS.out hb5); clear hb5; obtain ⟨⟨c0, c1, c2⟩, ⟨c3, c4, c5⟩, c6⟩ := eb_cells HE5.out)
        refine hR.mono ?_
        rintro e W3 (⟨rfl, hJ3, hk3⟩ | ⟨rfl, hJx3⟩)
        · have HE3 := Lib.hid (HE5.out.kept hk3.2.2)
          obtain ⟨⟨c0, c1, c2⟩, ⟨c3, c4, c5⟩, c6⟩ := eb_cells HE3.out
          have HJ3 := Lib.hid hJ3
          have HB3 := Lib.hid (HB5.out.trans hk3.1)
          clear hJ3 hk3
          gi_wp2
          go_roundw
          case rel => exact ⟨x + s, pre ++ [x], mm, rfl, by omega, by omega, Lib.hid (by rw [HXS.out, HG.out]; simp), HJ3, HB3, HE3⟩
          case measure => simp [intOf]; omega
        · have HJ3 := Lib.hid hJx3
          clear hJx3
          gi_wp2
          refine bodyPost_ret (results_none rfl _ _ _) rfl ?_
          exact ⟨⟨_, rfl⟩, .inr ⟨pre ++ [x], by rw [HXS.out, HG.out]; exact ⟨goL s E mm (x + s), by simp⟩, by simp, HJ3.out⟩⟩
set_option maxRecDepth 100000 in
set_option maxHeartbeats 4000000 in
theorem each1_neg (n l b : Nat) (hn : 1 ≤ n) (w0 : World) (hG : GlobOk w0) (y m d y' m' d' s : Int) (hs : s < 0) (J Jx : List Int → World → Prop) (W : World) (hJ : AbidesFrom W.heap.size J) (hE : EB W b y m d y' m' d' s) (hW : Below w0.heap.size w0 W) (h0 : J [] W)
    (h1 : vldB y m d = true) (h2 : vldB y' m' d' = true) (hc : num y' m' d' ≤ num y m d) (xs : List Int) (hxs : xs = goL s (num y' m' d') (num y' m' d' - num y m d).natAbs (num y m d)) (hY : YieldOk n l w0.heap.size b xs J Jx) :
    CallsIn Fence.wide n Tryd.prog 47 #[.func (.yield l) #[] #[], .pointer (some ⟨b, 0, none⟩), .pointer (some ⟨b + 1, 0, none⟩), .pointer (some ⟨b + 2, 0, none⟩)] W fun e W' => (∃ v, e = .returned v) ∧ ((∃ ys, ys = xs ∧ J ys W') ∨ (∃ pre, pre <+: xs ∧ pre ≠ [] ∧ Jx pre W')) := by
  obtain ⟨⟨c0, c1, c2⟩, ⟨c3, c4, c5⟩, c6⟩ := eb_cells hE
  have HV1 := Lib.hid (fun W1 (h : Below W.heap.size W W1) => callsIn_wide (n := n - 1).2 (cal_Valid.calls y m d _ W1 (GlobOk.below hG (hW.trans (h.mono hW.size))) rfl))
  have HV2 := Lib.hid (fun W1 (h : Below W.heap.size W W1) => callsIn_wide (n := n - 1).2 (cal_Valid.calls y' m' d' _ W1 (GlobOk.below hG (hW.trans (h.mono hW.size))) rfl))
  have HN1 := Lib.hid (fun W1 (h : Below W.heap.size W W1) => callsIn_wide (n := n - 1).2 (cal_number.calls y m d _ W1 (GlobOk.below hG (hW.trans (h.mono hW.size))) (number_eq y m d h1)))
  have HN2 := Lib.hid (fun W1 (h : Below W.heap.size W W1) => callsIn_wide (n := n - 1).2 (cal_number.calls y' m' d' _ W1 (GlobOk.below hG (hW.trans (h.mono hW.size))) (number_eq y' m' d' h2)))
  have HD := Lib.hid (fun (x : Int) (hx0 : 0 ≤ x) (hx1 : x ≤ 3652424) W1 (h : Below w0.heap.size w0 W1) => callsIn_wide (n := n - 1).2 (cal_date.calls 30000 x (dt x).1 (dt x).2.1 (dt x).2.2 W1 (GlobOk.below hG h) (date_dt 30000 (Nat.le_refl _) hx0 hx1)))
  have nb1 := num_bd h1
  have nb2 := num_bd h2
  have HE := Lib.hid hE
  have HJ := Lib.hid (show ∀ W', Below W.heap.size W W' → J [] W' from fun W' h => abides_below hJ h0 h)
  have HJA := Lib.hid (show ∀ p A B, J p A → Below A.heap.size A B → J p B from fun p A B h k => abides_below hJ h k)
  have HW := Lib.hid (show ∀ W', Below W.heap.size W W' → Below w0.heap.size w0 W' from fun W' h => hW.trans (h.mono hW.size))
  have hs0 : (s == 0) = false := beq_eq_false_iff_ne.2 (by omega)
  rw [h1] at HV1
  rw [h2] at HV2
  have HY := Lib.hid hY
  clear hJ hE hW h0 hG h1 h2 hY
  generalize num y m d = N at *
  generalize num y' m' d' = E at *
  obtain ⟨_, _, n1, n2⟩ := nb1
  obtain ⟨_, _, n3, n4⟩ := nb2
  have HX := Lib.hid hxs
  clear hxs
  have g0 : decide (0 < s) = false := decide_eq_false (by omega)
  have g1 : decide (s < 0) = true := decide_eq_true hs
  refine callsIn_of_wp Tryd.func47 rfl trivial ?_ rfl
  simp only [Tryd.ntmps47, List.size_toArray, List.length_cons, List.length_nil, Nat.reduceAdd, Nat.reduceSub, Array.replicate_succ, Array.replicate_zero, List.push_toArray, List.append_toArray, List.nil_append, List.cons_append]
  gi_wp2_with (refine ⟨trivial, ?_⟩; gi_at_call 19; (with_reducible refine (HV1.out _ (Below.refl _ _)).mono ?_); rintro e w1 ⟨rfl, hb1⟩; have HB1 := Lib.hid hb1; clear hb1; obtain ⟨⟨c0, c1, c2⟩, ⟨c3, c4, c5⟩, c6⟩ := eb_cells (HE.out.below HB1.out))
  gi_wp2_with (refine ⟨trivial, ?_⟩; gi_at_call 19; (with_reducible refine (HV2.out _ HB1.out).mono ?_); rintro e w2 ⟨rfl, hb2⟩; have HB2 := Lib.hid (below_step HB1.out hb2); clear hb2; obtain ⟨⟨c0, c1, c2⟩, ⟨c3, c4, c5⟩, c6⟩ := eb_cells (HE.out.below HB2.out))
  gi_region_with (first
    | (refine ⟨trivial, ?_⟩; gi_at_call 20; (with_reducible refine (HN1.out _ (by first | exact HB2.out | exact HB2.out.drew)).mono ?_); rintro e w3 ⟨rfl, hb3⟩; have HB3 := Lib.hid (below_step (show Below W.heap.size W _ by first | exact HB2.out | exact HB2.out.drew) hb3); clear hb3; obtain ⟨⟨c0, c1, c2⟩, ⟨c3, c4, c5⟩, c6⟩ := eb_cells (HE.out.below HB3.out))
    | (refine ⟨trivial, ?_⟩; gi_at_call 20; (with_reducible refine (HN2.out _ (by first | exact HB3.out | exact HB3.out.drew)).mono ?_); rintro e w4 ⟨rfl, hb4⟩; have HB4 := Lib.hid (below_step (show Below W.heap.size W _ by first | exact HB3.out | exact HB3.out.drew) hb4); clear hb4; obtain ⟨⟨c0, c1, c2⟩, ⟨c3, c4, c5⟩, c6⟩ := eb_cells (HE.out.below HB4.out)))
  all_goals
    simp only [List.getElem_toArray, List.getElem_cons_succ, List.getElem_cons_zero, Act.put, List.setIfInBounds_toArray, List.set_cons_zero, List.set_cons_succ]
    gi_wp2
    gi_loopw [5, 7] (fun p _ wr => ∃ (x : Int) (pre : List Int) (mm : Nat), p = .int .i64 x ∧ (E ≤ x ∧ x ≤ N) ∧ x - E ≤ mm ∧ Hid (xs = pre ++ goL s E mm x) ∧ Hid (J pre wr) ∧ Hid (Below w0.heap.size w0 wr) ∧ Hid (EB wr b y m d y' m' d' s))
      (fun p _ _ => (intOf p - E).toNat)
    case atStart =>
      exact ⟨N, [], _, rfl, by omega, (by omega : _ ≤ ((E - N).natAbs : Int)), Lib.hid HX.out, Lib.hid (HJ.out _ HB4.out), Lib.hid (HW.out _ HB4.out), Lib.hid (HE.out.below HB4.out)⟩
    case round =>
      obtain ⟨x, pre, mm, rfl, ⟨x1, x2⟩, hf, HXS, HJS, HBS, HES⟩ := hrel
      have hlen : pre.length < xs.length := by
        obtain ⟨q, hq⟩ := goL_ne s E mm x
        rw [HXS.out, hq]; simp
      have HL := Lib.hid hlen
      clear hlen
      obtain ⟨⟨c0, c1, c2⟩, ⟨c3, c4, c5⟩, c6⟩ := eb_cells HES.out
      by_cases hst : s < E - x
      · have HGS := Lib.hid (goL_stop (s := s) (e := E) mm (n := x) (.inr ⟨hs, hst⟩))
        by_cases hxe : x = E
        · have e1 : (x == E) = true := beq_iff_eq.2 hxe
          have e2 : decide (x ≤ E) = true := decide_eq_true (by omega)
          clear hxe
          gi_wp2_with (refine ⟨trivial, ?_⟩; gi_at_call 24; (with_reducible refine (HD.out x (by omega) (by omega) _ HBS.out).mono ?_); rintro e w5 ⟨rfl, hb5⟩; obtain ⟨fn, tmps, assign, body, hy, hR⟩ := HY.out pre x w5 (HJA.out _ _ _ HJS.out hb5) HL.out; have HE5 := Lib.hid (HES.out.below hb5); have HB5 := Lib.hid (below_step HBS.out hb5); clear hb5; obtain ⟨⟨c0, c1, c2⟩, ⟨c3, c4, c5⟩, c6⟩ := eb_cells HE5.out)
          refine hR.mono ?_
          rintro e W3 (⟨rfl, hJ3, hk3⟩ | ⟨rfl, hJx3⟩)
          · have HE3 := Lib.hid (HE5.out.kept hk3.2.2)
            obtain ⟨⟨c0, c1, c2⟩, ⟨c3, c4, c5⟩, c6⟩ := eb_cells HE3.out
            have HJ3 := Lib.hid hJ3
            clear hJ3 hk3
            gi_wp2
            refine bodyPost_ret (results_none rfl _ _ _) rfl ?_
            exact ⟨⟨_, rfl⟩, .inl ⟨pre ++ [x], by rw [HXS.out, HGS.out], HJ3.out⟩⟩
          · have HJ3 := Lib.hid hJx3
            clear hJx3
            gi_wp2
            refine bodyPost_ret (results_none rfl _ _ _) rfl ?_
            exact ⟨⟨_, rfl⟩, .inr ⟨pre ++ [x], by rw [HXS.out, HGS.out]; exact List.prefix_refl _, by simp, HJ3.out⟩⟩
        · have e2 : decide (x ≤ E) = false := decide_eq_false (by omega)
          clear hxe
          gi_wp2_with (refine ⟨trivial, ?_⟩; gi_at_call 24; (with_reducible refine (HD.out x (by omega) (by omega) _ HBS.out).mono ?_); rintro e w5 ⟨rfl, hb5⟩; obtain ⟨fn, tmps, assign, body, hy, hR⟩ := HY.out pre x w5 (HJA.out _ _ _ HJS.out hb5) HL.out; have HE5 := Lib.hid (HES.out.below hb5); have HB5 := Lib.hid (below_step HBS.out hb5); clear hb5; obtain ⟨⟨c0, c1, c2⟩, ⟨c3, c4, c5⟩, c6⟩ := eb_cells HE5.out)
          refine hR.mono ?_
          rintro e W3 (⟨rfl, hJ3, hk3⟩ | ⟨rfl, hJx3⟩)
          · have HE3 := Lib.hid (HE5.out.kept hk3.2.2)
            obtain ⟨⟨c0, c1, c2⟩, ⟨c3, c4, c5⟩, c6⟩ := eb_cells HE3.out
            have HJ3 := Lib.hid hJ3
            clear hJ3 hk3
            gi_wp2
            refine bodyPost_ret (results_none rfl _ _ _) rfl ?_
            exact ⟨⟨_, rfl⟩, .inl ⟨pre ++ [x], by rw [HXS.out, HGS.out], HJ3.out⟩⟩
          · have HJ3 := Lib.hid hJx3
            clear hJx3
            gi_wp2
            refine bodyPost_ret (results_none rfl _ _ _) rfl ?_
            exact ⟨⟨_, rfl⟩, .inr ⟨pre ++ [x], by rw [HXS.out, HGS.out]; exact List.prefix_refl _, by simp, HJ3.out⟩⟩
      · obtain ⟨mm, rfl⟩ : ∃ q, mm = q + 1 := ⟨mm - 1, by omega⟩
        have HG := Lib.hid (goL_go (s := s) (e := E) mm (n := x) (by omega))
        have e2 : decide (x ≤ E) = false := decide_eq_false (by omega)
        gi_wp2_with (refine ⟨trivial, ?_⟩; gi_at_call 24; (with_reducible refine (HD.out x (by omega) (by omega) _ HBS.out).mono ?_); rintro e w5 ⟨rfl, hb5⟩; obtain ⟨fn, tmps, assign, body, hy, hR⟩ := HY.out pre x w5 (HJA.out _ _ _ HJS.out hb5) HL.out; have HE5 := Lib.hid (HES.out.below hb5); have HB5 := Lib.hid (below_step HBS.out hb5); clear hb5; obtain ⟨⟨c0, c1, c2⟩, ⟨c3, c4, c5⟩, c6⟩ := eb_cells HE5.out)
        refine hR.mono ?_
        rintro e W3 (⟨rfl, hJ3, hk3⟩ | ⟨rfl, hJx3⟩)
        · have HE3 := Lib.hid (HE5.out.kept hk3.2.2)
          obtain ⟨⟨c0, c1, c2⟩, ⟨c3, c4, c5⟩, c6⟩ := eb_cells HE3.out
          have HJ3 := Lib.hid hJ3
          have HB3 := Lib.hid (HB5.out.trans hk3.1)
          clear hJ3 hk3
          gi_wp2
          go_roundw
          case rel => exact ⟨x + s, pre ++ [x], mm, rfl, by omega, by omega, Lib.hid (by rw [HXS.out, HG.out]; simp), HJ3, HB3, HE3⟩
          case measure => simp [intOf]; omega
        · have HJ3 := Lib.hid hJx3
          clear hJx3
          gi_wp2
          refine bodyPost_ret (results_none rfl _ _ _) rfl ?_
          exact ⟨⟨_, rfl⟩, .inr ⟨pre ++ [x], by rw [HXS.out, HG.out]; exact ⟨goL s E mm (x + s), by simp⟩, by simp, HJ3.out⟩⟩
set_option maxRecDepth 100000 in
set_option maxHeartbeats 4000000 in
theorem each1_off_pos (n l b : Nat) (hn : 1 ≤ n) (w0 : World) (hG : GlobOk w0) (y m d y' m' d' s : Int) (hs : 0 < s) (J Jx : List Int → World → Prop) (W : World) (hJ : AbidesFrom W.heap.size J) (hE : EB W b y m d y' m' d' s) (hW : Below w0.heap.size w0 W) (h0 : J [] W)
    (h1 : vldB y m d = true) (h2 : vldB y' m' d' = true) (hc : num y' m' d' < num y m d) (xs : List Int) (hxs : xs = []) (hY : YieldOk n l w0.heap.size b xs J Jx) :
    CallsIn Fence.wide n Tryd.prog 47 #[.func (.yield l) #[] #[], .pointer (some ⟨b, 0, none⟩), .pointer (some ⟨b + 1, 0, none⟩), .pointer (some ⟨b + 2, 0, none⟩)] W fun e W' => (∃ v, e = .returned v) ∧ ((∃ ys, ys = xs ∧ J ys W') ∨ (∃ pre, pre <+: xs ∧ pre ≠ [] ∧ Jx pre W')) := by
  obtain ⟨⟨c0, c1, c2⟩, ⟨c3, c4, c5⟩, c6⟩ := eb_cells hE
  have HV1 := Lib.hid (fun W1 (h : Below W.heap.size W W1) => callsIn_wide (n := n - 1).2 (cal_Valid.calls y m d _ W1 (GlobOk.below hG (hW.trans (h.mono hW.size))) rfl))
  have HV2 := Lib.hid (fun W1 (h : Below W.heap.size W W1) => callsIn_wide (n := n - 1).2 (cal_Valid.calls y' m' d' _ W1 (GlobOk.below hG (hW.trans (h.mono hW.size))) rfl))
  have HN1 := Lib.hid (fun W1 (h : Below W.heap.size W W1) => callsIn_wide (n := n - 1).2 (cal_number.calls y m d _ W1 (GlobOk.below hG (hW.trans (h.mono hW.size))) (number_eq y m d h1)))
  have HN2 := Lib.hid (fun W1 (h : Below W.heap.size W W1) => callsIn_wide (n := n - 1).2 (cal_number.calls y' m' d' _ W1 (GlobOk.below hG (hW.trans (h.mono hW.size))) (number_eq y' m' d' h2)))
  have HD := Lib.hid (fun (x : Int) (hx0 : 0 ≤ x) (hx1 : x ≤ 3652424) W1 (h : Below w0.heap.size w0 W1) => callsIn_wide (n := n - 1).2 (cal_date.calls 30000 x (dt x).1 (dt x).2.1 (dt x).2.2 W1 (GlobOk.below hG h) (date_dt 30000 (Nat.le_refl _) hx0 hx1)))
  have nb1 := num_bd h1
  have nb2 := num_bd h2
  have HE := Lib.hid hE
  have HJ := Lib.hid (show ∀ W', Below W.heap.size W W' → J [] W' from fun W' h => abides_below hJ h0 h)
  have HJA := Lib.hid (show ∀ p A B, J p A → Below A.heap.size A B → J p B from fun p A B h k => abides_below hJ h k)
  have HW := Lib.hid (show ∀ W', Below W.heap.size W W' → Below w0.heap.size w0 W' from fun W' h => hW.trans (h.mono hW.size))
  have hs0 : (s == 0) = false := beq_eq_false_iff_ne.2 (by omega)
  rw [h1] at HV1
  rw [h2] at HV2
  have HY := Lib.hid hY
  clear hJ hE hW h0 hG h1 h2 hY
  generalize num y m d = N at *
  generalize num y' m' d' = E at *
  obtain ⟨_, _, n1, n2⟩ := nb1
  obtain ⟨_, _, n3, n4⟩ := nb2
  have HX := Lib.hid hxs
  clear hxs
  have g0 : decide (0 < s) = true := decide_eq_true hs
  have g2 : decide (N ≤ E) = false := decide_eq_false (by omega)
  have g3 : (N == E) = false := beq_eq_false_iff_ne.2 (by omega)
  refine callsIn_of_wp Tryd.func47 rfl trivial ?_ rfl
  simp only [Tryd.ntmps47, List.size_toArray, List.length_cons, List.length_nil, Nat.reduceAdd, Nat.reduceSub, Array.replicate_succ, Array.replicate_zero, List.push_toArray, List.append_toArray, List.nil_append, List.cons_append]
  gi_wp2_with (refine ⟨trivial, ?_⟩; gi_at_call 19; (with_reducible refine (HV1.out _ (Below.refl _ _)).mono ?_); rintro e w1 ⟨rfl, hb1⟩; have HB1 := Lib.hid hb1; clear hb1; obtain ⟨⟨c0, c1, c2⟩, ⟨c3, c4, c5⟩, c6⟩ := eb_cells (HE.out.below HB1.out))
  gi_wp2_with (refine ⟨trivial, ?_⟩; gi_at_call 19; (with_reducible refine (HV2.out _ HB1.out).mono ?_); rintro e w2 ⟨rfl, hb2⟩; have HB2 := Lib.hid (below_step HB1.out hb2); clear hb2; obtain ⟨⟨c0, c1, c2⟩, ⟨c3, c4, c5⟩, c6⟩ := eb_cells (HE.out.below HB2.out))
  gi_region_with (first
    | (refine ⟨trivial, ?_⟩; gi_at_call 20; (with_reducible refine (HN1.out _ (by first | exact HB2.out | exact HB2.out.drew)).mono ?_); rintro e w3 ⟨rfl, hb3⟩; have HB3 := Lib.hid (below_step (show Below W.heap.size W _ by first | exact HB2.out | exact HB2.out.drew) hb3); clear hb3; obtain ⟨⟨c0, c1, c2⟩, ⟨c3, c4, c5⟩, c6⟩ := eb_cells (HE.out.below HB3.out))
    | (refine ⟨trivial, ?_⟩; gi_at_call 20; (with_reducible refine (HN2.out _ (by first | exact HB3.out | exact HB3.out.drew)).mono ?_); rintro e w4 ⟨rfl, hb4⟩; have HB4 := Lib.hid (below_step (show Below W.heap.size W _ by first | exact HB3.out | exact HB3.out.drew) hb4); clear hb4; obtain ⟨⟨c0, c1, c2⟩, ⟨c3, c4, c5⟩, c6⟩ := eb_cells (HE.out.below HB4.out)))
  all_goals
    simp only [List.getElem_toArray, List.getElem_cons_succ, List.getElem_cons_zero, Act.put, List.setIfInBounds_toArray, List.set_cons_zero, List.set_cons_succ]
    gi_wp2
    gi_loopw [5, 7] (fun p _ wr => p = .int .i64 N ∧ Hid (J [] wr) ∧ Hid (EB wr b y m d y' m' d' s)) (fun _ _ _ => 0)
    case atStart => exact ⟨rfl, Lib.hid (HJ.out _ HB4.out), Lib.hid (HE.out.below HB4.out)⟩
    case round =>
      obtain ⟨rfl, HJS, HES⟩ := hrel
      obtain ⟨⟨c0, c1, c2⟩, ⟨c3, c4, c5⟩, c6⟩ := eb_cells HES.out
      gi_wp2
      go_end0
      exact ⟨⟨_, rfl⟩, .inl ⟨[], HX.out.symm, HJS.out⟩⟩
set_option maxRecDepth 100000 in
set_option maxHeartbeats 4000000 in
theorem each1_off_neg (n l b : Nat) (hn : 1 ≤ n) (w0 : World) (hG : GlobOk w0) (y m d y' m' d' s : Int) (hs : s < 0) (J Jx : List Int → World → Prop) (W : World) (hJ : AbidesFrom W.heap.size J) (hE : EB W b y m d y' m' d' s) (hW : Below w0.heap.size w0 W) (h0 : J [] W)
    (h1 : vldB y m d = true) (h2 : vldB y' m' d' = true) (hc : num y m d < num y' m' d') (xs : List Int) (hxs : xs = []) (hY : YieldOk n l w0.heap.size b xs J Jx) :
    CallsIn Fence.wide n Tryd.prog 47 #[.func (.yield l) #[] #[], .pointer (some ⟨b, 0, none⟩), .pointer (some ⟨b + 1, 0, none⟩), .pointer (some ⟨b + 2, 0, none⟩)] W fun e W' => (∃ v, e = .returned v) ∧ ((∃ ys, ys = xs ∧ J ys W') ∨ (∃ pre, pre <+: xs ∧ pre ≠ [] ∧ Jx pre W')) := by
  obtain ⟨⟨c0, c1, c2⟩, ⟨c3, c4, c5⟩, c6⟩ := eb_cells hE
  have HV1 := Lib.hid (fun W1 (h : Below W.heap.size W W1) => callsIn_wide (n := n - 1).2 (cal_Valid.calls y m d _ W1 (GlobOk.below hG (hW.trans (h.mono hW.size))) rfl))
  have HV2 := Lib.hid (fun W1 (h : Below W.heap.size W W1) => callsIn_wide (n := n - 1).2 (cal_Valid.calls y' m' d' _ W1 (GlobOk.below hG (hW.trans (h.mono hW.size))) rfl))
  have HN1 := Lib.hid (fun W1 (h : Below W.heap.size W W1) => callsIn_wide (n := n - 1).2 (cal_number.calls y m d _ W1 (GlobOk.below hG (hW.trans (h.mono hW.size))) (number_eq y m d h1)))
  have HN2 := Lib.hid (fun W1 (h : Below W.heap.size W W1) => callsIn_wide (n := n - 1).2 (cal_number.calls y' m' d' _ W1 (GlobOk.below hG (hW.trans (h.mono hW.size))) (number_eq y' m' d' h2)))
  have HD := Lib.hid (fun (x : Int) (hx0 : 0 ≤ x) (hx1 : x ≤ 3652424) W1 (h : Below w0.heap.size w0 W1) => callsIn_wide (n := n - 1).2 (cal_date.calls 30000 x (dt x).1 (dt x).2.1 (dt x).2.2 W1 (GlobOk.below hG h) (date_dt 30000 (Nat.le_refl _) hx0 hx1)))
  have nb1 := num_bd h1
  have nb2 := num_bd h2
  have HE := Lib.hid hE
  have HJ := Lib.hid (show ∀ W', Below W.heap.size W W' → J [] W' from fun W' h => abides_below hJ h0 h)
  have HJA := Lib.hid (show ∀ p A B, J p A → Below A.heap.size A B → J p B from fun p A B h k => abides_below hJ h k)
  have HW := Lib.hid (show ∀ W', Below W.heap.size W W' → Below w0.heap.size w0 W' from fun W' h => hW.trans (h.mono hW.size))
  have hs0 : (s == 0) = false := beq_eq_false_iff_ne.2 (by omega)
  rw [h1] at HV1
  rw [h2] at HV2
  have HY := Lib.hid hY
  clear hJ hE hW h0 hG h1 h2 hY
  generalize num y m d = N at *
  generalize num y' m' d' = E at *
  obtain ⟨_, _, n1, n2⟩ := nb1
  obtain ⟨_, _, n3, n4⟩ := nb2
  have HX := Lib.hid hxs
  clear hxs
  have g0 : decide (0 < s) = false := decide_eq_false (by omega)
  have g2 : decide (N ≤ E) = true := decide_eq_true (by omega)
  have g3 : (N == E) = false := beq_eq_false_iff_ne.2 (by omega)
  refine callsIn_of_wp Tryd.func47 rfl trivial ?_ rfl
  simp only [Tryd.ntmps47, List.size_toArray, List.length_cons, List.length_nil, Nat.reduceAdd, Nat.reduceSub, Array.replicate_succ, Array.replicate_zero, List.push_toArray, List.append_toArray, List.nil_append, List.cons_append]
  gi_wp2_with (refine ⟨trivial, ?_⟩; gi_at_call 19; (with_reducible refine (HV1.out _ (Below.refl _ _)).mono ?_); rintro e w1 ⟨rfl, hb1⟩; have HB1 := Lib.hid hb1; clear hb1; obtain ⟨⟨c0, c1, c2⟩, ⟨c3, c4, c5⟩, c6⟩ := eb_cells (HE.out.below HB1.out))
  gi_wp2_with (refine ⟨trivial, ?_⟩; gi_at_call 19; (with_reducible refine (HV2.out _ HB1.out).mono ?_); rintro e w2 ⟨rfl, hb2⟩; have HB2 := Lib.hid (below_step HB1.out hb2); clear hb2; obtain ⟨⟨c0, c1, c2⟩, ⟨c3, c4, c5⟩, c6⟩ := eb_cells (HE.out.below HB2.out))
  gi_region_with (first
    | (refine ⟨trivial, ?_⟩; gi_at_call 20; (with_reducible refine (HN1.out _ (by first | exact HB2.out | exact HB2.out.drew)).mono ?_); rintro e w3 ⟨rfl, hb3⟩; have HB3 := Lib.hid (below_step (show Below W.heap.size W _ by first | exact HB2.out | exact HB2.out.drew) hb3); clear hb3; obtain ⟨⟨c0, c1, c2⟩, ⟨c3, c4, c5⟩, c6⟩ := eb_cells (HE.out.below HB3.out))
    | (refine ⟨trivial, ?_⟩; gi_at_call 20; (with_reducible refine (HN2.out _ (by first | exact HB3.out | exact HB3.out.drew)).mono ?_); rintro e w4 ⟨rfl, hb4⟩; have HB4 := Lib.hid (below_step (show Below W.heap.size W _ by first | exact HB3.out | exact HB3.out.drew) hb4); clear hb4; obtain ⟨⟨c0, c1, c2⟩, ⟨c3, c4, c5⟩, c6⟩ := eb_cells (HE.out.below HB4.out)))
  all_goals
    simp only [List.getElem_toArray, List.getElem_cons_succ, List.getElem_cons_zero, Act.put, List.setIfInBounds_toArray, List.set_cons_zero, List.set_cons_succ]
    gi_wp2
    gi_loopw [5, 7] (fun p _ wr => p = .int .i64 N ∧ Hid (J [] wr) ∧ Hid (EB wr b y m d y' m' d' s)) (fun _ _ _ => 0)
    case atStart => exact ⟨rfl, Lib.hid (HJ.out _ HB4.out), Lib.hid (HE.out.below HB4.out)⟩
    case round =>
      obtain ⟨rfl, HJS, HES⟩ := hrel
      obtain ⟨⟨c0, c1, c2⟩, ⟨c3, c4, c5⟩, c6⟩ := eb_cells HES.out
      gi_wp2
      go_end0
      exact ⟨⟨_, rfl⟩, .inl ⟨[], HX.out.symm, HJS.out⟩⟩
end Go.Proofs.YtjifinacnofmiaaDoor.Ext

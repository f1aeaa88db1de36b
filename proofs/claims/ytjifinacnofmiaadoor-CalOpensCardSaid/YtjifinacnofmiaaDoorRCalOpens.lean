/- the law CalOpens -/
import Derived.Test.YtjifinacnofmiaaDoorCards
import Derived.Test.YtjifinacnofmiaaDoorTie
import Derived.Test.YtjifinacnofmiaaDoorCalOj
import Derived.WalkKit
import Derived.ProofKit
import Derived.OpenShut
import Derived.ShutString
import Derived.ChangeOld
import Derived.Below
import Derived.SizedLaws
import Derived.Lib.SmallJoins
import Derived.Deep.DeepHandedRow
import Derived.Lib.LaidTab
namespace Go.Proofs.YtjifinacnofmiaaDoor.calOpens
open Go.ChangeShapes Go.WideShapes Go.ChangeAt Go.RowKit Go.Joins Go.Deep
open Go.ChangeMaps (open_string shut_string)
set_option linter.unusedVariables false
theorem own : ownKnob Tryd.prog.godebug = none := by kernel_rfl
theorem laidOut : laidOutB Tryd.prog = true := by kernel_rfl
theorem gAhead : Tryd.prog.globalNamed "larder/cal.ahead" = some 1 := by kernel_rfl
theorem gAheadType : (Tryd.prog.globals[1]?).map (·.type) = some 62 := by kernel_rfl
theorem cellsG : Tryd.prog.cellsOf 62 = 14 := by kernel_rfl
theorem cellsI : Tryd.prog.cellsOf 3 = 1 := by kernel_rfl
theorem globOk {W : World} (h : laidMetH Tryd.prog Rows.calOpensRow.laid W) : Ext.GlobOk W := by
  have h' : laidMet Tryd.prog [("larder/cal.ahead", Lib.tabData .i64 Ext.aheadTab), ("larder/larderlaw03.mark", Rows.laid_larder_larderlaw03_mark)] W := h
  have ht := Lib.tabIs_of_head gAhead gAheadType Tryd.underlying62 Tryd.underlying3 cellsI cellsG h'
  refine ⟨ht, ?_⟩
  have hc := ht.cell gAhead 0 (by decide)
  rcases Nat.lt_or_ge 1 W.heap.size with hl | hl
  · exact hl
  · rw [World.cell?, Array.getElem?_eq_none hl] at hc; cases hc
theorem gMark : Tryd.prog.globalNamed "larder/larderlaw03.mark" = some 0 := by kernel_rfl
theorem gMarkType : (Tryd.prog.globals[0]?).map (·.type) = some 27 := by kernel_rfl
theorem markOk {W : World} (h : laidMetH Tryd.prog Rows.calOpensRow.laid W) : Ext.MarkOk W := by
  have h' : laidMet Tryd.prog [("larder/cal.ahead", Lib.tabData .i64 Ext.aheadTab), ("larder/larderlaw03.mark", Rows.laid_larder_larderlaw03_mark)] W := h
  obtain ⟨ps, ⟨_, _, _, _, _, _, _, _, _, _, ⟨g, t, cs, fuel, p, q, hg, ht, hvar, hd, _, _⟩, _⟩, _⟩ := h'
  obtain rfl := Option.some.inj (gMark.symm.trans hg)
  obtain rfl := Option.some.inj (gMarkType.symm.trans ht)
  obtain ⟨xs, n, _, hx, hcl, hlen, hf⟩ := DataW.trod_struct Tryd.underlying27 hd
  obtain ⟨l⟩ := cs
  have hC : Tryd.prog.cellsOf 27 = 3 := by kernel_rfl
  match l, hcl.trans hC, xs, hlen with
  | [v0, v1, v2], _, [y0, y1, y2], _ =>
    simp only [Prod.mk.injEq] at hx
    have g0 := hf 0 _ rfl
    have g1 := hf 1 _ rfl
    have g2 := hf 2 _ rfl
    simp [cellsI] at g0 g1 g2
    obtain ⟨z0, k0, j0, _⟩ := DataW.trod_int Tryd.underlying3 g0
    obtain ⟨z1, k1, j1, _⟩ := DataW.trod_int Tryd.underlying3 g1
    obtain ⟨z2, k2, j2, _⟩ := DataW.trod_int Tryd.underlying3 g2
    obtain rfl := (List.cons.inj k0).1
    obtain rfl := (List.cons.inj k1).1
    obtain rfl := (List.cons.inj k2).1
    have hm := hx.1
    rw [j0, j1, j2] at hm
    simp [Rows.laid_larder_larderlaw03_mark] at hm
    obtain ⟨e0, e1, e2⟩ := hm
    refine ⟨?_, ?_, ?_⟩
    · rw [World.var?_cell gMark hvar 0]
      simp [e0]
    · rw [World.var?_cell gMark hvar 1]
      simp [e1]
    · rw [World.var?_cell gMark hvar 2]
      simp [e2]
set_option maxRecDepth 100000 in
theorem contract (H : Type) (enc : TypeId × Value → H) (W : World) (base : Nat) (args : Array Value) (ds gs : List (DataW H)) (before : List MemPlace)
    (hval : ∀ (j : Nat) t v, Tryd.f3.params[j]? = some t → args[j]? = some v → Value.okWide Tryd.prog W .any base t v)
    (hW : DataW.Whole enc Tryd.prog Tryd.f3.params.toList Rows.calOpensSpec.vars false W args.toList ds gs before)
    (hsz0 : (DataW.weightsEach Tryd.prog (Tryd.f3.params.toList ++ Rows.calOpensSpec.plain.varTypes Tryd.prog) (ds ++ gs)).all (· ≤ reachBytes) = true) (hL : laidMetH Tryd.prog Rows.calOpensRow.laid W) :
    Calls Tryd.prog 3 args W fun e W' => ∃ v, e = .returned v ∧ Rows.calOpensSpec.post enc Tryd.prog Tryd.f3 false true false false W args v W' := by
  have hsz := hsz0
  have hW' := hW
  obtain ⟨p, q, hA0, hV, rfl, hfz, hnd⟩ := hW
  have hA : DataW.TrodAll enc Tryd.prog W 0 (fun _ => true) true Tryd.f3.params.toList args.toList ds p := hA0
  rw [Tryd.params3] at hA hval hsz
  obtain ⟨v0, vs0, d0, ds0, p0, q0, hargs, rfl, rfl, h0, r0⟩ := trodAll_cons hA
  obtain ⟨v1, vs1, d1, ds1, p1, q1, rfl, rfl, rfl, h1, r1⟩ := trodAll_cons r0
  obtain ⟨v2, vs2, d2, ds2, p2, q2, rfl, rfl, rfl, h2, r2⟩ := trodAll_cons r1
  obtain ⟨v3, vs3, d3, ds3, p3, q3, rfl, rfl, rfl, h3, r3⟩ := trodAll_cons r2
  obtain ⟨rfl, rfl, rfl⟩ := trodAll_nil r3
  obtain rfl : args = #[v0, v1, v2, v3] := by cases args; simp_all
  obtain ⟨rfl, rfl⟩ := trodVars_none hV
  have k0 := h0
  have lt0 : ∀ x ∈ p0, x.block < W.heap.size := by obtain ⟨m, hm⟩ := k0; exact DataW.trod_lt m _ _ _ hm
  obtain ⟨dy, X1, X2, c1, c2, S, E, rfl, hS, hE, hn1, hn2, s1, s2⟩ := Ext.open_rule (hval 0 25 v0 rfl rfl) h0 (fun n hn => by
    have := List.all_eq_true.1 hsz _ (DataW.weights_mem_each (j := 0) (t := 25) rfl rfl n hn)
    simpa using this)
  have k1 := h1
  have lt1 : ∀ x ∈ p1, x.block < W.heap.size := by obtain ⟨m, hm⟩ := k1; exact DataW.trod_lt m _ _ _ hm
  obtain ⟨c1_0, c1_1, c1_2, y1_0, y1_1, y1_2, m1, rfl, e1, f1, z1_0, z1_1, z1_2⟩ := open_agg3 Tryd.underlying27 (by kernel_rfl) (by kernel_rfl) (hval 1 27 v1 rfl rfl) h1
  obtain ⟨a1_0, g1_0, j1_0, w1_0⟩ := DataW.trod_int Tryd.underlying3 z1_0
  obtain rfl := (List.cons.inj g1_0).1
  obtain ⟨a1_1, g1_1, j1_1, w1_1⟩ := DataW.trod_int Tryd.underlying3 z1_1
  obtain rfl := (List.cons.inj g1_1).1
  obtain ⟨a1_2, g1_2, j1_2, w1_2⟩ := DataW.trod_int Tryd.underlying3 z1_2
  obtain rfl := (List.cons.inj g1_2).1
  have k2 := h2
  have lt2 : ∀ x ∈ p2, x.block < W.heap.size := by obtain ⟨m, hm⟩ := k2; exact DataW.trod_lt m _ _ _ hm
  obtain ⟨c2_0, c2_1, c2_2, y2_0, y2_1, y2_2, m2, rfl, e2, f2, z2_0, z2_1, z2_2⟩ := open_agg3 Tryd.underlying27 (by kernel_rfl) (by kernel_rfl) (hval 2 27 v2 rfl rfl) h2
  obtain ⟨a2_0, g2_0, j2_0, w2_0⟩ := DataW.trod_int Tryd.underlying3 z2_0
  obtain rfl := (List.cons.inj g2_0).1
  obtain ⟨a2_1, g2_1, j2_1, w2_1⟩ := DataW.trod_int Tryd.underlying3 z2_1
  obtain rfl := (List.cons.inj g2_1).1
  obtain ⟨a2_2, g2_2, j2_2, w2_2⟩ := DataW.trod_int Tryd.underlying3 z2_2
  obtain rfl := (List.cons.inj g2_2).1
  have k3 := h3
  have lt3 : ∀ x ∈ p3, x.block < W.heap.size := by obtain ⟨m, hm⟩ := k3; exact DataW.trod_lt m _ _ _ hm
  obtain ⟨a3, rfl, rfl, rfl, w3⟩ := open_int Tryd.underlying3 (hval 3 3 v3 rfl rfl) h3
  refine (Ext.calOpens_r W dy S E X1 X2 c1 c2 (a1_0, a1_1, a1_2) (a2_0, a2_1, a2_2) a3 (globOk hL) (markOk hL) hS hE hn1 hn2 s1 s2).mono fun e W' ⟨he, bel⟩ => ?_
  subst he
  exact ⟨_, rfl, _, _, _, [], _, [], hW', trodAll_mk1 (shut_bool Tryd.underlying4 _), (trodAll_cons_mk (Below.trod laidOut (by kernel_rfl) (of_decide_eq_true (by kernel_rfl)) k0 bel lt0) (trodAll_cons_mk (Below.trod laidOut (by kernel_rfl) (of_decide_eq_true (by kernel_rfl)) k1 bel lt1) (trodAll_cons_mk (Below.trod laidOut (by kernel_rfl) (of_decide_eq_true (by kernel_rfl)) k2 bel lt2) (trodAll_cons_mk (Below.trod laidOut (by kernel_rfl) (of_decide_eq_true (by kernel_rfl)) k3 bel lt3) trodAll_mk0)))), rfl, bel.frame _, fun h => by cases h⟩
def lay0 : Obj → Obj
  | .cells _ t frozen => .cells #[.int .i64 1, .int .i64 2, .int .i64 3] t frozen
  | o => o
def lay1 : Obj → Obj
  | .cells _ t frozen => .cells (Ext.aheadTab.map fun z => Value.int .i64 z).toArray t frozen
  | o => o
/-- a world for the witness: the variables hold what their declarations lay -/
noncomputable def laidWorld (os : Os) : World :=
  { World.holding Tryd.prog os ⟨#[], #[], []⟩ with heap := ((World.holding Tryd.prog os ⟨#[], #[], []⟩).heap.modify 1 lay1).modify 0 lay0 }
theorem laid_met (os : Os) : laidMetH Tryd.prog Rows.calOpensRow.laid ((laidWorld os).forCall (fun _ _ => 0) ⟨#[], #[.agg #[.bool false, .bool false, .bool false, .bool false, .bool false, .bool false, .bool false, .slice none 0 0, .slice none 0 0], .agg #[.int .i64 0, .int .i64 0, .int .i64 0], .agg #[.int .i64 0, .int .i64 0, .int .i64 0], .int .i64 0], []⟩).memory :=
  laidMet_of_run' 8 (by kernel_rfl) (by kernel_rfl)
theorem reads (os : Os) {H : Type} (enc : TypeId × Value → H) : ∃ places, DataW.whole enc Tryd.prog ((laidWorld os).forCall (fun _ _ => 0) ⟨#[], #[.agg #[.bool false, .bool false, .bool false, .bool false, .bool false, .bool false, .bool false, .slice none 0 0, .slice none 0 0], .agg #[.int .i64 0, .int .i64 0, .int .i64 0], .agg #[.int .i64 0, .int .i64 0, .int .i64 0], .int .i64 0], []⟩).memory Tryd.f3.params.toList Rows.calOpensSpec.vars false (#[.agg #[.bool false, .bool false, .bool false, .bool false, .bool false, .bool false, .bool false, .slice none 0 0, .slice none 0 0], .agg #[.int .i64 0, .int .i64 0, .int .i64 0], .agg #[.int .i64 0, .int .i64 0, .int .i64 0], .int .i64 0] : Array Value).toList 8 = some ([.agg [.agg [.lit (.bool false), .lit (.bool false), .lit (.bool false), .lit (.bool false), .lit (.bool false), .lit (.bool false), .lit (.bool false)], .nil, .nil], .agg [.lit (.int .i64 0), .lit (.int .i64 0), .lit (.int .i64 0)], .agg [.lit (.int .i64 0), .lit (.int .i64 0), .lit (.int .i64 0)], .lit (.int .i64 0)], [], places) :=
  ⟨[], by kernel_rfl⟩
set_option maxRecDepth 100000 in
theorem lifted (os : Os) (started : os.Started) (H : Type) (enc : TypeId × Value → H) (F : Stop.Interp) :
    ReturnsInHanded {} Tryd.checked os 3 .any ((OpenSpec.ofChange Rows.calOpensSpec).preRow enc Tryd.prog Tryd.f3 Rows.calOpensRow.domain false Rows.calOpensRow.laid) (((OpenSpec.ofChange Rows.calOpensSpec).at F).post enc Tryd.prog Tryd.f3 false true false false) := by
  obtain ⟨places, hx⟩ := reads os enc
  refine returnsInHanded_of_row (C := Tryd.checked) (s := OpenSpec.ofChange Rows.calOpensSpec) own started (by kernel_rfl) Tryd.func3
    (witness_row_at (enc := enc) (C := Tryd.checked) false (laidWorld os) #[.agg #[.bool false, .bool false, .bool false, .bool false, .bool false, .bool false, .bool false, .slice none 0 0, .slice none 0 0], .agg #[.int .i64 0, .int .i64 0, .int .i64 0], .agg #[.int .i64 0, .int .i64 0, .int .i64 0], .int .i64 0] rfl (by kernel_rfl) (by kernel_rfl) (by kernel_rfl)
      (OpenSpec.preRow_of_cond 8 hx (by kernel_rfl) (fun k hk => by cases hk) (by kernel_rfl) (laid_met os))) ?_
  intro W base args ds gs before hval hW _ hcond hsz hL _ _
  exact contract H enc W base args ds gs before hval hW hsz hL
theorem said : Rows.CalOpensSaid :=
  OpenClaim.holds_of_cond 3 Tryd.f3 rfl rfl rfl rfl rfl rfl rfl ⟨rfl, rfl, rfl, rfl, rfl⟩ rfl rfl rfl rfl rfl (by kernel_rfl) Tryd.func3 (by kernel_rfl)
    (of_decide_eq_true (by kernel_rfl)) (by unfold Func.isWrapper; first | (rw [if_pos (by decide +kernel)]; kernel_rfl) | (rw [if_neg (by decide +kernel)]; exact ⟨rfl, rfl⟩))
    (fun os started H enc _ F => by rw [OpenClaim.pre_eq_preRow]; exact lifted os started H enc F)
theorem plain (f : FuncId) (fn : Func) (hf : Tryd.pinned.checked.prog.funcNamed "larder/larderlaw03.CalOpens" = some f) (hfn : Tryd.pinned.checked.prog.funcs[f]? = some fn) :
    false = Tryd.pinned.checked.prog.looks [] ∧ ∀ (j : Nat) t, fn.params[j]? = some t → Tryd.pinned.checked.prog.wantsStandIn t = false := by
  obtain rfl : f = 3 := Option.some.inj ((show Tryd.prog.funcNamed "larder/larderlaw03.CalOpens" = some 3 by kernel_rfl).symm.trans hf) |>.symm
  obtain rfl : fn = Tryd.f3 := (Option.some.inj (Tryd.func3.symm.trans hfn)).symm
  refine ⟨by kernel_rfl, fun j t ht => ?_⟩
  rw [Tryd.params3] at ht
  have hm : t ∈ [25, 27, 27, 3] := by simpa using Array.mem_of_getElem? ht
  have hall : ([25, 27, 27, 3].all fun u => !Tryd.prog.wantsStandIn u) = true := by kernel_rfl
  exact (show Tryd.prog.wantsStandIn t = false by simpa using List.all_eq_true.1 hall t hm)
theorem card : Rows.CalOpensCardSaid :=
  Claim7.holds_tied_plain_at .later [] _ _ _ _ said (fun _ h => by cases h) (by kernel_rfl) (fun _ h => by cases h) calOpens_row_tie rfl ⟨rfl, rfl⟩ (by kernel_rfl) rfl plain (by kernel_rfl)
#print axioms card
end Go.Proofs.YtjifinacnofmiaaDoor.calOpens
namespace Go.Proofs.YtjifinacnofmiaaDoor
theorem calOpens_holds : Rows.CalOpensCardSaid := calOpens.card
end Go.Proofs.YtjifinacnofmiaaDoor

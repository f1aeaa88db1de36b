/- EdiErrors: the eleven errors are unlike; a fault that there isn't says nothing. -/
import Derived.Test.YtpapibanhooogaaDoorCards
import Derived.Test.YtpapibanhooogaaDoorTie
import Derived.Test.YtpapibanhooogaaDoorEdiErrS
import Derived.WalkKit
import Derived.ProofKit
import Derived.OpenShut
import Derived.ShutString
import Derived.ChangeOld
import Derived.Below
import Derived.SizedLaws
import Derived.Lib.SmallJoins
import Derived.Deep.DeepHandedRow
namespace Go.Proofs.YtpapibanhooogaaDoor.ediErrors
open Go.ChangeShapes Go.WideShapes Go.ChangeAt Go.RowKit Go.Joins Go.Deep
open Go.ChangeMaps (open_string shut_string)
set_option linter.unusedVariables false
theorem own : ownKnob Tryd.prog.godebug = none := by kernel_rfl
theorem laidOut : laidOutB Tryd.prog = true := by kernel_rfl
set_option maxRecDepth 100000 in
theorem contract (H : Type) (enc : TypeId × Value → H) (W : World) (base : Nat) (args : Array Value) (ds gs : List (DataW H)) (before : List MemPlace)
    (hval : ∀ (j : Nat) t v, Tryd.f3.params[j]? = some t → args[j]? = some v → Value.okWide Tryd.prog W .any base t v)
    (hW : DataW.Whole enc Tryd.prog Tryd.f3.params.toList Rows.ediErrorsSpec.vars false W args.toList ds gs before)
    (hsz0 : (DataW.weightsEach Tryd.prog (Tryd.f3.params.toList ++ Rows.ediErrorsSpec.plain.varTypes Tryd.prog) (ds ++ gs)).all (· ≤ reachBytes) = true) (hL : laidMetH Tryd.prog Rows.ediErrorsRow.laid W) :
    Calls Tryd.prog 3 args W fun e W' => ∃ v, e = .returned v ∧ Rows.ediErrorsSpec.post enc Tryd.prog Tryd.f3 false true false false W args v W' := by
  have hsz := hsz0
  have hW' := hW
  obtain ⟨p, q, hA0, hV, rfl, hfz, hnd⟩ := hW
  have hA : DataW.TrodAll enc Tryd.prog W 0 (fun _ => true) true Tryd.f3.params.toList args.toList ds p := hA0
  rw [Tryd.params3] at hA hval hsz
  obtain ⟨e1, rfl, rfl⟩ := trodAll_nil hA
  obtain rfl : args = #[] := by cases args; simp_all
  obtain ⟨rfl, rfl⟩ := trodVars_none hV
  obtain ⟨hS, s, hs, hz⟩ := Is.sf_of_laid (Is.laidIs hL)
  refine (Is.ediErrors_calls W _ hS s hs hz).mono fun e W' ⟨he, bel⟩ => ?_
  subst he
  exact ⟨_, rfl, _, _, _, [], _, [], hW', trodAll_mk1 (shut_bool Tryd.underlying4 _), trodAll_mk0, rfl, bel.frame _, fun h => by cases h⟩
noncomputable def low : Nat := (World.holding Tryd.prog default ⟨#[], #[], []⟩).heap.size
noncomputable def laidWorld (os : Os) : World :=
  let w0 := World.holding Tryd.prog os ⟨#[.cells #[.string ⟨#[97, 110, 111, 116, 104, 101, 114, 32, 115, 101, 103, 109, 101, 110, 116, 32, 109, 117, 115, 116, 32, 99, 111, 109, 101]⟩] 91, .cells #[.string ⟨#[116, 111, 111, 32, 108, 111, 110, 103]⟩] 91, .cells #[.string ⟨#[116, 111, 111, 32, 115, 104, 111, 114, 116]⟩] 91, .cells #[.string ⟨#[115, 111, 109, 101, 116, 104, 105, 110, 103, 32, 105, 115, 32, 108, 101, 102, 116]⟩] 91, .cells #[.string ⟨#[110, 111, 32, 104, 101, 97, 100]⟩] 91, .cells #[.string ⟨#[110, 111, 32, 115, 101, 112, 97, 114, 97, 116, 111, 114, 115]⟩] 91, .cells #[.string ⟨#[110, 111, 116, 32, 119, 104, 97, 116, 32, 97, 110, 32, 101, 108, 101, 109, 101, 110, 116, 32, 109, 97, 121, 32, 98, 101]⟩] 91, .cells #[.string ⟨#[110, 111, 116, 32, 116, 104, 101, 32, 110, 117, 109, 98, 101, 114, 32, 111, 102, 32, 119, 104, 97, 116, 32, 99, 97, 109, 101]⟩] 91, .cells #[.string ⟨#[110, 111, 116, 32, 116, 104, 101, 32, 99, 111, 110, 116, 114, 111, 108, 32, 111, 102, 32, 119, 104, 97, 116, 32, 105, 116, 32, 101, 110, 100, 115, 44, 32, 111, 114, 32, 111, 110, 101, 32, 116, 104, 97, 116, 32, 99, 97, 109, 101, 32, 97, 108, 114, 101, 97, 100, 121]⟩] 91, .cells #[.string ⟨#[97, 110, 111, 116, 104, 101, 114, 32, 115, 101, 116, 32, 109, 117, 115, 116, 32, 99, 111, 109, 101]⟩] 91, .cells #[.string ⟨#[110, 111, 32, 115, 117, 99, 104, 32, 100, 111, 99, 117, 109, 101, 110, 116]⟩] 91], #[], []⟩
  let h := w0.heap
  let h := h.modify 0 fun | .cells _ t frozen => .cells #[.iface 67 (.pointer (some ⟨low + 0, 0, none⟩))] t frozen | o => o
  let h := h.modify 1 fun | .cells _ t frozen => .cells #[.iface 67 (.pointer (some ⟨low + 1, 0, none⟩))] t frozen | o => o
  let h := h.modify 2 fun | .cells _ t frozen => .cells #[.iface 67 (.pointer (some ⟨low + 2, 0, none⟩))] t frozen | o => o
  let h := h.modify 3 fun | .cells _ t frozen => .cells #[.iface 67 (.pointer (some ⟨low + 3, 0, none⟩))] t frozen | o => o
  let h := h.modify 4 fun | .cells _ t frozen => .cells #[.iface 67 (.pointer (some ⟨low + 4, 0, none⟩))] t frozen | o => o
  let h := h.modify 5 fun | .cells _ t frozen => .cells #[.iface 67 (.pointer (some ⟨low + 5, 0, none⟩))] t frozen | o => o
  let h := h.modify 6 fun | .cells _ t frozen => .cells #[.iface 67 (.pointer (some ⟨low + 6, 0, none⟩))] t frozen | o => o
  let h := h.modify 7 fun | .cells _ t frozen => .cells #[.iface 67 (.pointer (some ⟨low + 7, 0, none⟩))] t frozen | o => o
  let h := h.modify 8 fun | .cells _ t frozen => .cells #[.iface 67 (.pointer (some ⟨low + 8, 0, none⟩))] t frozen | o => o
  let h := h.modify 9 fun | .cells _ t frozen => .cells #[.iface 67 (.pointer (some ⟨low + 9, 0, none⟩))] t frozen | o => o
  let h := h.modify 10 fun | .cells _ t frozen => .cells #[.iface 67 (.pointer (some ⟨low + 10, 0, none⟩))] t frozen | o => o
  let h := h.modify 11 fun | .cells _ t frozen => .cells #[.int .u64 1, .int .u64 10, .int .u64 100, .int .u64 1000, .int .u64 10000, .int .u64 100000, .int .u64 1000000, .int .u64 10000000, .int .u64 100000000, .int .u64 1000000000, .int .u64 10000000000, .int .u64 100000000000, .int .u64 1000000000000, .int .u64 10000000000000, .int .u64 100000000000000, .int .u64 1000000000000000, .int .u64 10000000000000000, .int .u64 100000000000000000, .int .u64 1000000000000000000, .int .u64 10000000000000000000] t frozen | o => o
  let h := h.modify 12 fun | .cells _ t frozen => .cells #[.int .u8 0, .int .u8 1, .int .u8 28, .int .u8 2, .int .u8 29, .int .u8 14, .int .u8 24, .int .u8 3, .int .u8 30, .int .u8 22, .int .u8 20, .int .u8 15, .int .u8 25, .int .u8 17, .int .u8 4, .int .u8 8, .int .u8 31, .int .u8 27, .int .u8 13, .int .u8 23, .int .u8 21, .int .u8 19, .int .u8 16, .int .u8 7, .int .u8 26, .int .u8 12, .int .u8 18, .int .u8 6, .int .u8 11, .int .u8 5, .int .u8 10, .int .u8 9] t frozen | o => o
  let h := h.modify 13 fun | .cells _ t frozen => .cells #[.int .u8 0, .int .u8 1, .int .u8 56, .int .u8 2, .int .u8 57, .int .u8 49, .int .u8 28, .int .u8 3, .int .u8 61, .int .u8 58, .int .u8 42, .int .u8 50, .int .u8 38, .int .u8 29, .int .u8 17, .int .u8 4, .int .u8 62, .int .u8 47, .int .u8 59, .int .u8 36, .int .u8 45, .int .u8 43, .int .u8 51, .int .u8 22, .int .u8 53, .int .u8 39, .int .u8 33, .int .u8 30, .int .u8 24, .int .u8 18, .int .u8 12, .int .u8 5, .int .u8 63, .int .u8 55, .int .u8 48, .int .u8 27, .int .u8 60, .int .u8 41, .int .u8 37, .int .u8 16, .int .u8 46, .int .u8 35, .int .u8 44, .int .u8 21, .int .u8 52, .int .u8 32, .int .u8 23, .int .u8 11, .int .u8 54, .int .u8 26, .int .u8 40, .int .u8 15, .int .u8 34, .int .u8 20, .int .u8 31, .int .u8 10, .int .u8 25, .int .u8 14, .int .u8 19, .int .u8 9, .int .u8 13, .int .u8 8, .int .u8 7, .int .u8 6] t frozen | o => o
  { w0 with heap := h }
theorem laid_met (os : Os) : laidMetH Tryd.prog Rows.ediErrorsRow.laid ((laidWorld os).forCall (fun _ _ => 0) ⟨#[], #[], []⟩).memory :=
  laidMet_of_run' 8 (by kernel_rfl) (by kernel_rfl)
theorem reads (os : Os) {H : Type} (enc : TypeId × Value → H) : ∃ places, DataW.whole enc Tryd.prog ((laidWorld os).forCall (fun _ _ => 0) ⟨#[], #[], []⟩).memory Tryd.f3.params.toList Rows.ediErrorsSpec.vars false (#[] : Array Value).toList 8 = some ([], [], places) :=
  ⟨[], by kernel_rfl⟩
set_option maxRecDepth 100000 in
theorem lifted (os : Os) (started : os.Started) (H : Type) (enc : TypeId × Value → H) (F : Stop.Interp) :
    ReturnsInHanded {} Tryd.checked os 3 .any ((OpenSpec.ofChange Rows.ediErrorsSpec).preRow enc Tryd.prog Tryd.f3 Rows.ediErrorsRow.domain false Rows.ediErrorsRow.laid) (((OpenSpec.ofChange Rows.ediErrorsSpec).at F).post enc Tryd.prog Tryd.f3 false true false false) := by
  obtain ⟨places, hx⟩ := reads os enc
  refine returnsInHanded_of_row (C := Tryd.checked) (s := OpenSpec.ofChange Rows.ediErrorsSpec) own started (by kernel_rfl) Tryd.func3
    (witness_row_at (enc := enc) (C := Tryd.checked) false (laidWorld os) #[] rfl (by kernel_rfl) (by kernel_rfl) (by kernel_rfl)
      (OpenSpec.preRow_of_cond 8 hx (by kernel_rfl) (fun k hk => by cases hk) (by kernel_rfl) (laid_met os))) ?_
  intro W base args ds gs before hval hW _ hcond hsz hL _ _
  exact contract H enc W base args ds gs before hval hW hsz hL
theorem said : Rows.EdiErrorsSaid :=
  OpenClaim.holds_of_cond 3 Tryd.f3 rfl rfl rfl rfl rfl rfl rfl ⟨rfl, rfl, rfl, rfl, rfl⟩ rfl rfl rfl rfl rfl (by kernel_rfl) Tryd.func3 (by kernel_rfl)
    (of_decide_eq_true (by kernel_rfl)) (by unfold Func.isWrapper; first | (rw [if_pos (by decide +kernel)]; kernel_rfl) | (rw [if_neg (by decide +kernel)]; exact ⟨rfl, rfl⟩))
    (fun os started H enc _ F => by rw [OpenClaim.pre_eq_preRow]; exact lifted os started H enc F)
theorem plain (f : FuncId) (fn : Func) (hf : Tryd.pinned.checked.prog.funcNamed "larder/larderlaw05.EdiErrors" = some f) (hfn : Tryd.pinned.checked.prog.funcs[f]? = some fn) :
    true = Tryd.pinned.checked.prog.looks [] ∧ ∀ (j : Nat) t, fn.params[j]? = some t → Tryd.pinned.checked.prog.wantsStandIn t = false := by
  obtain rfl : f = 3 := Option.some.inj ((show Tryd.prog.funcNamed "larder/larderlaw05.EdiErrors" = some 3 by kernel_rfl).symm.trans hf) |>.symm
  obtain rfl : fn = Tryd.f3 := (Option.some.inj (Tryd.func3.symm.trans hfn)).symm
  refine ⟨by kernel_rfl, fun j t ht => ?_⟩
  rw [Tryd.params3] at ht
  have hm : t ∈ ([] : List TypeId) := by simpa using Array.mem_of_getElem? ht
  have hall : (([] : List TypeId).all fun u => !Tryd.prog.wantsStandIn u) = true := by kernel_rfl
  exact (show Tryd.prog.wantsStandIn t = false by simpa using List.all_eq_true.1 hall t hm)
theorem card : Rows.EdiErrorsCardSaid :=
  Claim7.holds_tied_plain_at .later [] _ _ _ _ said (fun _ h => by cases h) (by kernel_rfl) (fun _ h => by cases h) ediErrors_row_tie rfl ⟨rfl, rfl⟩ (by kernel_rfl) rfl plain (by kernel_rfl)
#print axioms card
end Go.Proofs.YtpapibanhooogaaDoor.ediErrors
namespace Go.Proofs.YtpapibanhooogaaDoor
theorem ediErrors_holds : Rows.EdiErrorsCardSaid := ediErrors.card
end Go.Proofs.YtpapibanhooogaaDoor

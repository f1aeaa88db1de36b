/- SheetForm: the row and the card. -/
import Derived.Test.YtappphffbnkloaaDoorCards
import Derived.Test.YtappphffbnkloaaDoorTie
import Derived.Test.YtappphffbnkloaaDoorShtFm
import Derived.Test.YtappphffbnkloaaDoorShtOr
import Derived.Test.YtappphffbnkloaaDoorEdiLaid
import Derived.WalkKit
import Derived.ProofKit
import Derived.OpenShut
import Derived.ShutString
import Derived.ChangeOld
import Derived.Below
import Derived.SizedLaws
import Derived.Lib.SmallJoins
import Derived.Deep.DeepHandedRow
import Derived.Lib.LaidTab
import Derived.LaidHandle
import Derived.LaidLaws
namespace Go.Proofs.YtappphffbnkloaaDoor.sheetForm
open Go.ChangeShapes Go.WideShapes Go.ChangeAt Go.RowKit Go.Joins Go.Deep
open Go.ChangeMaps (open_string shut_string)
set_option linter.unusedVariables false
theorem own : ownKnob Tryd.prog.godebug = none := by kernel_rfl
theorem laidOut : laidOutB Tryd.prog = true := by kernel_rfl
/-! ### what the row lists -/
def plainL : List (String × DataW Unit) := [("unicode/utf8.acceptRanges", Rows.laid_unicode_utf8_acceptRanges), ("larder/sheet.ErrOpen", Rows.laid_larder_sheet_ErrOpen), ("larder/sheet.ErrQuote", Rows.laid_larder_sheet_ErrQuote), ("larder/sheet.ErrLine", Rows.laid_larder_sheet_ErrLine), ("larder/sheet.ErrByte", Rows.laid_larder_sheet_ErrByte), ("larder/sheet.ErrCell", Rows.laid_larder_sheet_ErrCell), ("larder/sheet.ErrCells", Rows.laid_larder_sheet_ErrCells), ("larder/sheet.ErrRows", Rows.laid_larder_sheet_ErrRows), ("larder/sheet.ErrRagged", Rows.laid_larder_sheet_ErrRagged), ("larder/sheet.ErrDone", Rows.laid_larder_sheet_ErrDone), ("larder/sheet.ErrLong", Rows.laid_larder_sheet_ErrLong), ("larder/sheet.ErrColumns", Rows.laid_larder_sheet_ErrColumns), ("larder/sheet.ErrMissing", Rows.laid_larder_sheet_ErrMissing), ("larder/sheet.ErrTwice", Rows.laid_larder_sheet_ErrTwice), ("larder/sheet.ErrEmpty", Rows.laid_larder_sheet_ErrEmpty), ("larder/sheet.ErrNumber", Rows.laid_larder_sheet_ErrNumber), ("larder/sheet.ErrCents", Rows.laid_larder_sheet_ErrCents), ("larder/sheet.ErrDate", Rows.laid_larder_sheet_ErrDate), ("larder/sheet.ErrCode", Rows.laid_larder_sheet_ErrCode), ("larder/sheet.ErrYes", Rows.laid_larder_sheet_ErrYes), ("larder/sheet.ErrValue", Rows.laid_larder_sheet_ErrValue), ("unicode/utf8.first", Rows.laid_unicode_utf8_first)]
theorem parts {W : World} (h : laidMetH Tryd.prog Rows.sheetFormRow.laid W) : laidMet Tryd.prog plainL W ∧ handlesMet Tryd.prog [("errors.errorType", Rows.laid_errors_errorType)] W := h
theorem rt : (Tryd.prog.cutTypes.find? (·.1 == "internal/reflectlite.rtype")).map (·.2) = some 91 := by kernel_rfl
theorem sizeT : Tryd.prog.types.size = 164 := by kernel_rfl
theorem oneRow : ((List.range 164).filter fun t => Tryd.prog.rowNamed t [101, 114, 114, 111, 114]) = [24] := by kernel_rfl
theorem etN : Tryd.prog.globalNamed "errors.errorType" = some 3 := by kernel_rfl
theorem et_of_laid {W : World} (h : laidMetH Tryd.prog Rows.sheetFormRow.laid W) : Sht.ET W := by
  obtain ⟨name, u, ty, e1, e2, e3, e4, e5⟩ := (parts h).2 _ (List.mem_singleton.2 rfl)
  have en : name = [101, 114, 114, 111, 114] := (Option.some.inj e1).symm
  subst en
  obtain rfl := Option.some.inj (rt.symm.trans e2)
  have hm : ty ∈ (List.range 164).filter fun t => Tryd.prog.rowNamed t [101, 114, 114, 111, 114] := List.mem_filter.2 ⟨List.mem_range.2 (by rw [← sizeT]; exact e3), e4⟩
  rw [oneRow] at hm
  obtain rfl := List.mem_singleton.1 hm
  have hh : typeHandle Tryd.prog 24 = Sht.hd 24 := by kernel_rfl
  rw [hh] at e5
  exact (by simpa using World.var?_cell etN e5 0 : W.cell? ⟨3, 0, none⟩ = _)
theorem cellsE : Tryd.prog.cellsOf 152 = 1 := by kernel_rfl
theorem cellsS : Tryd.prog.cellsOf 9 = 1 := by kernel_rfl
theorem star : "*" ++ "errors.errorString" = "*errors.errorString" := by decide
theorem rowE (u : TypeId) (h : Tryd.prog.typeName? 3 u = some "*errors.errorString") : u = 134 :=
  typeName_ptr_named (nm := "errors.errorString") (by rw [star]; kernel_rfl) (by kernel_rfl) (by decide) u (by rw [star]; exact h)
theorem g1 : Tryd.prog.globalNamed "larder/sheet.ErrOpen" = some 9 := by kernel_rfl
theorem t1 : (Tryd.prog.globals[9]?).map (·.type) = some 24 := by kernel_rfl
theorem g2 : Tryd.prog.globalNamed "larder/sheet.ErrQuote" = some 10 := by kernel_rfl
theorem t2 : (Tryd.prog.globals[10]?).map (·.type) = some 24 := by kernel_rfl
theorem g3 : Tryd.prog.globalNamed "larder/sheet.ErrLine" = some 1 := by kernel_rfl
theorem t3 : (Tryd.prog.globals[1]?).map (·.type) = some 24 := by kernel_rfl
theorem g4 : Tryd.prog.globalNamed "larder/sheet.ErrByte" = some 8 := by kernel_rfl
theorem t4 : (Tryd.prog.globals[8]?).map (·.type) = some 24 := by kernel_rfl
theorem g5 : Tryd.prog.globalNamed "larder/sheet.ErrCell" = some 7 := by kernel_rfl
theorem t5 : (Tryd.prog.globals[7]?).map (·.type) = some 24 := by kernel_rfl
theorem g6 : Tryd.prog.globalNamed "larder/sheet.ErrCells" = some 5 := by kernel_rfl
theorem t6 : (Tryd.prog.globals[5]?).map (·.type) = some 24 := by kernel_rfl
theorem g7 : Tryd.prog.globalNamed "larder/sheet.ErrRows" = some 4 := by kernel_rfl
theorem t7 : (Tryd.prog.globals[4]?).map (·.type) = some 24 := by kernel_rfl
theorem g8 : Tryd.prog.globalNamed "larder/sheet.ErrRagged" = some 6 := by kernel_rfl
theorem t8 : (Tryd.prog.globals[6]?).map (·.type) = some 24 := by kernel_rfl
theorem g9 : Tryd.prog.globalNamed "larder/sheet.ErrDone" = some 2 := by kernel_rfl
theorem t9 : (Tryd.prog.globals[2]?).map (·.type) = some 24 := by kernel_rfl
theorem g10 : Tryd.prog.globalNamed "larder/sheet.ErrColumns" = some 11 := by kernel_rfl
theorem t10 : (Tryd.prog.globals[11]?).map (·.type) = some 24 := by kernel_rfl
theorem g11 : Tryd.prog.globalNamed "larder/sheet.ErrMissing" = some 12 := by kernel_rfl
theorem t11 : (Tryd.prog.globals[12]?).map (·.type) = some 24 := by kernel_rfl
theorem g12 : Tryd.prog.globalNamed "larder/sheet.ErrTwice" = some 13 := by kernel_rfl
theorem t12 : (Tryd.prog.globals[13]?).map (·.type) = some 24 := by kernel_rfl
theorem g13 : Tryd.prog.globalNamed "larder/sheet.ErrEmpty" = some 14 := by kernel_rfl
theorem t13 : (Tryd.prog.globals[14]?).map (·.type) = some 24 := by kernel_rfl
theorem g14 : Tryd.prog.globalNamed "larder/sheet.ErrNumber" = some 15 := by kernel_rfl
theorem t14 : (Tryd.prog.globals[15]?).map (·.type) = some 24 := by kernel_rfl
theorem g15 : Tryd.prog.globalNamed "larder/sheet.ErrCents" = some 16 := by kernel_rfl
theorem t15 : (Tryd.prog.globals[16]?).map (·.type) = some 24 := by kernel_rfl
theorem g16 : Tryd.prog.globalNamed "larder/sheet.ErrDate" = some 17 := by kernel_rfl
theorem t16 : (Tryd.prog.globals[17]?).map (·.type) = some 24 := by kernel_rfl
theorem g17 : Tryd.prog.globalNamed "larder/sheet.ErrCode" = some 18 := by kernel_rfl
theorem t17 : (Tryd.prog.globals[18]?).map (·.type) = some 24 := by kernel_rfl
theorem g18 : Tryd.prog.globalNamed "larder/sheet.ErrYes" = some 19 := by kernel_rfl
theorem t18 : (Tryd.prog.globals[19]?).map (·.type) = some 24 := by kernel_rfl
theorem g19 : Tryd.prog.globalNamed "larder/sheet.ErrValue" = some 20 := by kernel_rfl
theorem t19 : (Tryd.prog.globals[20]?).map (·.type) = some 24 := by kernel_rfl
theorem g20 : Tryd.prog.globalNamed "larder/sheet.ErrLong" = some 0 := by kernel_rfl
theorem t20 : (Tryd.prog.globals[0]?).map (·.type) = some 24 := by kernel_rfl
abbrev sent (n : String) (text : List UInt8) : String × DataW Unit := (n, .iface "*errors.errorString" (.ptr (.agg [.lit (.string text)])))
def li (c : Nat) : Nat := if c = 20 then 10 else if c ≤ 9 then c + 0 else c + 1
theorem listed (c : Nat) (h : 1 ≤ c ∧ c ≤ 20) : ∃ n x, plainL[li c]? = some (sent n x) ∧ Tryd.prog.globalNamed n = some (Sht.gl20 c) ∧ (Tryd.prog.globals[Sht.gl20 c]?).map (·.type) = some 24 ∧ x.length < 1000 := by
  rcases (show c = 1 ∨ c = 2 ∨ c = 3 ∨ c = 4 ∨ c = 5 ∨ c = 6 ∨ c = 7 ∨ c = 8 ∨ c = 9 ∨ c = 10 ∨ c = 11 ∨ c = 12 ∨ c = 13 ∨ c = 14 ∨ c = 15 ∨ c = 16 ∨ c = 17 ∨ c = 18 ∨ c = 19 ∨ c = 20 by omega) with rfl | rfl | rfl | rfl | rfl | rfl | rfl | rfl | rfl | rfl | rfl | rfl | rfl | rfl | rfl | rfl | rfl | rfl | rfl | rfl
  · exact ⟨_, _, rfl, g1, t1, by decide⟩
  · exact ⟨_, _, rfl, g2, t2, by decide⟩
  · exact ⟨_, _, rfl, g3, t3, by decide⟩
  · exact ⟨_, _, rfl, g4, t4, by decide⟩
  · exact ⟨_, _, rfl, g5, t5, by decide⟩
  · exact ⟨_, _, rfl, g6, t6, by decide⟩
  · exact ⟨_, _, rfl, g7, t7, by decide⟩
  · exact ⟨_, _, rfl, g8, t8, by decide⟩
  · exact ⟨_, _, rfl, g9, t9, by decide⟩
  · exact ⟨_, _, rfl, g10, t10, by decide⟩
  · exact ⟨_, _, rfl, g11, t11, by decide⟩
  · exact ⟨_, _, rfl, g12, t12, by decide⟩
  · exact ⟨_, _, rfl, g13, t13, by decide⟩
  · exact ⟨_, _, rfl, g14, t14, by decide⟩
  · exact ⟨_, _, rfl, g15, t15, by decide⟩
  · exact ⟨_, _, rfl, g16, t16, by decide⟩
  · exact ⟨_, _, rfl, g17, t17, by decide⟩
  · exact ⟨_, _, rfl, g18, t18, by decide⟩
  · exact ⟨_, _, rfl, g19, t19, by decide⟩
  · exact ⟨_, _, rfl, g20, t20, by decide⟩
def addrOf (W : World) (c : Nat) : Addr := match W.cell? ⟨Sht.gl20 c, 0, none⟩ with
  | some (Value.iface _ (Value.pointer (some a))) => a
  | _ => ⟨0, 0, none⟩
theorem addrOf_eq {W : World} {c : Nat} {t : TypeId} {a : Addr} (h : W.cell? ⟨Sht.gl20 c, 0, none⟩ = some (.iface t (.pointer (some a)))) : addrOf W c = a := by unfold addrOf; rw [h]
structure One (W : World) (c : Nat) : Prop where
  v : W.cell? ⟨Sht.gl20 c, 0, none⟩ = some (Sht.errV (addrOf W) c)
  s : ∃ s : ByteArray, W.cell? (addrOf W c) = some (.string s) ∧ s.size < 1000
  b : ∃ cs t, W.heap[(addrOf W c).block]? = some (.cells cs t (0, 0))
theorem pairLt {W : World} (hL : laidMet Tryd.prog plainL W) (c c' : Nat) (h1 : 1 ≤ c ∧ c ≤ 20) (h2 : 1 ≤ c' ∧ c' ≤ 20) (hlt : li c < li c') : One W c ∧ One W c' ∧ addrOf W c ≠ addrOf W c' := by
  obtain ⟨n0, x0, l0, k0, u0, z0⟩ := listed c h1
  obtain ⟨n1, x1, l1, k1, u1, z1⟩ := listed c' h2
  obtain ⟨a0, a1, s0, s1, c0, c1, y0, y1, hv0, hv1, hc0, hs0, hz0, hc1, hs1, hz1, hne, hb0, hb1⟩ := laid_sentinels2 (Is.laidMet_sub (Is.pair_sub hlt l0 l1) hL) k0 u0 k1 u1 Tryd.underlying24 rowE Tryd.underlying134 Tryd.underlying152 rfl rfl Tryd.underlying9 cellsE cellsS
  have v0 : W.cell? ⟨Sht.gl20 c, 0, none⟩ = some (.iface 134 (.pointer (some a0))) := by simpa using World.var?_cell k0 hv0 0
  have v1 : W.cell? ⟨Sht.gl20 c', 0, none⟩ = some (.iface 134 (.pointer (some a1))) := by simpa using World.var?_cell k1 hv1 0
  refine ⟨⟨by unfold Sht.errV; rw [addrOf_eq v0]; exact v0, ?_, by rw [addrOf_eq v0]; exact ⟨_, _, hb0⟩⟩, ⟨by unfold Sht.errV; rw [addrOf_eq v1]; exact v1, ?_, by rw [addrOf_eq v1]; exact ⟨_, _, hb1⟩⟩, by rw [addrOf_eq v0, addrOf_eq v1]; exact hne⟩
  · rw [addrOf_eq v0]; refine ⟨s0, hc0, ?_⟩; rw [← hs0, Array.length_toList] at z0; exact z0
  · rw [addrOf_eq v1]; refine ⟨s1, hc1, ?_⟩; rw [← hs1, Array.length_toList] at z1; exact z1
theorem one {W : World} (hL : laidMet Tryd.prog plainL W) (c : Nat) (h : 1 ≤ c ∧ c ≤ 20) : One W c := by
  by_cases e : c = 1
  · subst e; exact (pairLt hL 1 2 (by omega) (by omega) (by decide)).1
  · exact (pairLt hL 1 c (by omega) h (by unfold li; split <;> (try split) <;> (try split) <;> (try split) <;> omega)).2.1
theorem apart {W : World} (hL : laidMet Tryd.prog plainL W) (c c' : Nat) (h1 : 1 ≤ c ∧ c ≤ 20) (h2 : 1 ≤ c' ∧ c' ≤ 20) (hne : c ≠ c') : addrOf W c ≠ addrOf W c' := by
  have hl : li c ≠ li c' := by unfold li; split <;> (try split) <;> (try split) <;> (try split) <;> omega
  rcases Nat.lt_or_gt_of_ne hl with h | h
  · exact (pairLt hL c c' h1 h2 h).2.2
  · exact (pairLt hL c' c h2 h1 h).2.2.symm
theorem errs_of_laid {W : World} (h : laidMetH Tryd.prog Rows.sheetFormRow.laid W) : Sht.SG W (addrOf W) :=
  have hL := (parts h).1
  ⟨fun c h1 h2 => (one hL c ⟨h1, h2⟩).v, fun c c' h1 h2 h3 h4 hne => apart hL c c' ⟨h1, h2⟩ ⟨h3, h4⟩ hne, fun c h1 h2 => (one hL c ⟨h1, h2⟩).b, fun c h1 h2 => (one hL c ⟨h1, h2⟩).s⟩
/-! ### the row -/
set_option maxRecDepth 100000 in
theorem contract (H : Type) (enc : TypeId × Value → H) (W : World) (base : Nat) (args : Array Value) (ds gs : List (DataW H)) (before : List MemPlace)
    (hval : ∀ (j : Nat) t v, Tryd.f4.params[j]? = some t → args[j]? = some v → Value.okWide Tryd.prog W .any base t v)
    (hW : DataW.Whole enc Tryd.prog Tryd.f4.params.toList Rows.sheetFormSpec.vars false W args.toList ds gs before)
    (hsz0 : (DataW.weightsEach Tryd.prog (Tryd.f4.params.toList ++ Rows.sheetFormSpec.plain.varTypes Tryd.prog) (ds ++ gs)).all (· ≤ reachBytes) = true) (hL : laidMetH Tryd.prog Rows.sheetFormRow.laid W) (hsh : W.ShapedOpen Tryd.prog) :
    Calls Tryd.prog 4 args W fun e W' => ∃ v, e = .returned v ∧ Rows.sheetFormSpec.post enc Tryd.prog Tryd.f4 false true false false W args v W' := by
  have hsz := hsz0
  have hW' := hW
  obtain ⟨p, q, hA0, hV, rfl, hfz, hnd⟩ := hW
  have hA : DataW.TrodAll enc Tryd.prog W 0 (fun _ => true) true Tryd.f4.params.toList args.toList ds p := hA0
  rw [Tryd.params4] at hA hval hsz
  obtain ⟨v0, vs0, d0, ds0, p0, q0, hargs, rfl, rfl, h0, r0⟩ := trodAll_cons hA
  obtain ⟨rfl, rfl, rfl⟩ := trodAll_nil r0
  obtain rfl : args = #[v0] := by cases args; simp_all
  obtain ⟨rfl, rfl⟩ := trodVars_none hV
  have k0 := h0
  have lt0 : ∀ x ∈ p0, x.block < W.heap.size := by obtain ⟨m, hm⟩ := k0; exact DataW.trod_lt m _ _ _ hm
  obtain ⟨a0, rfl, rfl, rfl, y0⟩ := open_string Tryd.underlying9 (hval 0 9 v0 rfl rfl) h0
  have w0 : a0.size ≤ 140737488351232 := by
    have z := sized_string hsz (j := 0) (t := 9) rfl rfl
    rw [Array.length_toList] at z
    exact z
  have HS := errs_of_laid hL
  have HE := et_of_laid hL
  have HM := Sht.ml_of_shape hsh
  refine (Sht.sheetForm_calls W HS HE HM a0 (by omega)).mono fun e W' ⟨he, bel⟩ => ?_
  subst he
  exact ⟨_, rfl, _, _, _, [], _, [], hW', trodAll_mk1 (shut_bool Tryd.underlying4 _), (trodAll_cons_mk (Below.trod laidOut (by kernel_rfl) (of_decide_eq_true (by kernel_rfl)) k0 bel lt0) trodAll_mk0), rfl, bel.frame _, fun h => by cases h⟩
noncomputable def low : Nat := (World.holding Tryd.prog default ⟨#[], #[], []⟩).heap.size
noncomputable def laidWorld (os : Os) : World :=
  let w0 := World.holding Tryd.prog os ⟨#[.cells #[.string ⟨#[97, 32, 113, 117, 111, 116, 101, 100, 32, 99, 101, 108, 108, 32, 105, 115, 32, 110, 111, 116, 32, 99, 108, 111, 115, 101, 100]⟩] 152, .cells #[.string ⟨#[97, 32, 113, 117, 111, 116, 101, 32, 109, 97, 121, 32, 110, 111, 116, 32, 115, 116, 97, 110, 100, 32, 104, 101, 114, 101]⟩] 152, .cells #[.string ⟨#[97, 32, 108, 105, 110, 101, 32, 109, 97, 121, 32, 110, 111, 116, 32, 101, 110, 100, 32, 115, 111]⟩] 152, .cells #[.string ⟨#[116, 104, 105, 115, 32, 98, 121, 116, 101, 32, 109, 97, 121, 32, 110, 111, 116, 32, 115, 116, 97, 110, 100, 32, 104, 101, 114, 101]⟩] 152, .cells #[.string ⟨#[116, 104, 101, 32, 99, 101, 108, 108, 32, 105, 115, 32, 116, 111, 111, 32, 108, 111, 110, 103]⟩] 152, .cells #[.string ⟨#[116, 111, 111, 32, 109, 97, 110, 121, 32, 99, 101, 108, 108, 115]⟩] 152, .cells #[.string ⟨#[116, 111, 111, 32, 109, 97, 110, 121, 32, 114, 111, 119, 115]⟩] 152, .cells #[.string ⟨#[110, 111, 116, 32, 97, 115, 32, 109, 97, 110, 121, 32, 99, 101, 108, 108, 115, 32, 97, 115, 32, 116, 104, 101, 32, 102, 105, 114, 115, 116, 32, 114, 111, 119, 32, 104, 97, 115]⟩] 152, .cells #[.string ⟨#[116, 104, 101, 32, 114, 101, 97, 100, 101, 114, 32, 104, 97, 115, 32, 101, 110, 100, 101, 100]⟩] 152, .cells #[.string ⟨#[116, 104, 101, 32, 116, 101, 120, 116, 32, 105, 115, 32, 116, 111, 111, 32, 108, 111, 110, 103]⟩] 152, .cells #[.string ⟨#[116, 104, 101, 32, 99, 111, 108, 117, 109, 110, 115, 32, 109, 97, 121, 32, 110, 111, 116, 32, 98, 101, 32, 115, 111]⟩] 152, .cells #[.string ⟨#[97, 32, 99, 111, 108, 117, 109, 110, 32, 105, 115, 32, 109, 105, 115, 115, 105, 110, 103]⟩] 152, .cells #[.string ⟨#[97, 32, 99, 111, 108, 117, 109, 110, 32, 115, 116, 97, 110, 100, 115, 32, 116, 119, 105, 99, 101]⟩] 152, .cells #[.string ⟨#[116, 104, 101, 32, 99, 101, 108, 108, 32, 105, 115, 32, 101, 109, 112, 116, 121]⟩] 152, .cells #[.string ⟨#[116, 104, 105, 115, 32, 105, 115, 32, 110, 111, 32, 110, 117, 109, 98, 101, 114]⟩] 152, .cells #[.string ⟨#[116, 104, 105, 115, 32, 105, 115, 32, 110, 111, 32, 112, 114, 105, 99, 101]⟩] 152, .cells #[.string ⟨#[116, 104, 105, 115, 32, 105, 115, 32, 110, 111, 32, 100, 97, 121]⟩] 152, .cells #[.string ⟨#[116, 104, 105, 115, 32, 105, 115, 32, 110, 111, 32, 99, 111, 100, 101]⟩] 152, .cells #[.string ⟨#[116, 104, 105, 115, 32, 105, 115, 32, 110, 101, 105, 116, 104, 101, 114, 32, 121, 101, 115, 32, 110, 111, 114, 32, 110, 111]⟩] 152, .cells #[.string ⟨#[116, 104, 105, 115, 32, 118, 97, 108, 117, 101, 32, 109, 97, 121, 32, 110, 111, 116, 32, 98, 101]⟩] 152], #[], []⟩
  let h := w0.heap
  let h := h.modify 9 fun | .cells _ t frozen => .cells #[.iface 134 (.pointer (some ⟨low + 0, 0, none⟩))] t frozen | o => o
  let h := h.modify 10 fun | .cells _ t frozen => .cells #[.iface 134 (.pointer (some ⟨low + 1, 0, none⟩))] t frozen | o => o
  let h := h.modify 1 fun | .cells _ t frozen => .cells #[.iface 134 (.pointer (some ⟨low + 2, 0, none⟩))] t frozen | o => o
  let h := h.modify 8 fun | .cells _ t frozen => .cells #[.iface 134 (.pointer (some ⟨low + 3, 0, none⟩))] t frozen | o => o
  let h := h.modify 7 fun | .cells _ t frozen => .cells #[.iface 134 (.pointer (some ⟨low + 4, 0, none⟩))] t frozen | o => o
  let h := h.modify 5 fun | .cells _ t frozen => .cells #[.iface 134 (.pointer (some ⟨low + 5, 0, none⟩))] t frozen | o => o
  let h := h.modify 4 fun | .cells _ t frozen => .cells #[.iface 134 (.pointer (some ⟨low + 6, 0, none⟩))] t frozen | o => o
  let h := h.modify 6 fun | .cells _ t frozen => .cells #[.iface 134 (.pointer (some ⟨low + 7, 0, none⟩))] t frozen | o => o
  let h := h.modify 2 fun | .cells _ t frozen => .cells #[.iface 134 (.pointer (some ⟨low + 8, 0, none⟩))] t frozen | o => o
  let h := h.modify 0 fun | .cells _ t frozen => .cells #[.iface 134 (.pointer (some ⟨low + 9, 0, none⟩))] t frozen | o => o
  let h := h.modify 11 fun | .cells _ t frozen => .cells #[.iface 134 (.pointer (some ⟨low + 10, 0, none⟩))] t frozen | o => o
  let h := h.modify 12 fun | .cells _ t frozen => .cells #[.iface 134 (.pointer (some ⟨low + 11, 0, none⟩))] t frozen | o => o
  let h := h.modify 13 fun | .cells _ t frozen => .cells #[.iface 134 (.pointer (some ⟨low + 12, 0, none⟩))] t frozen | o => o
  let h := h.modify 14 fun | .cells _ t frozen => .cells #[.iface 134 (.pointer (some ⟨low + 13, 0, none⟩))] t frozen | o => o
  let h := h.modify 15 fun | .cells _ t frozen => .cells #[.iface 134 (.pointer (some ⟨low + 14, 0, none⟩))] t frozen | o => o
  let h := h.modify 16 fun | .cells _ t frozen => .cells #[.iface 134 (.pointer (some ⟨low + 15, 0, none⟩))] t frozen | o => o
  let h := h.modify 17 fun | .cells _ t frozen => .cells #[.iface 134 (.pointer (some ⟨low + 16, 0, none⟩))] t frozen | o => o
  let h := h.modify 18 fun | .cells _ t frozen => .cells #[.iface 134 (.pointer (some ⟨low + 17, 0, none⟩))] t frozen | o => o
  let h := h.modify 19 fun | .cells _ t frozen => .cells #[.iface 134 (.pointer (some ⟨low + 18, 0, none⟩))] t frozen | o => o
  let h := h.modify 20 fun | .cells _ t frozen => .cells #[.iface 134 (.pointer (some ⟨low + 19, 0, none⟩))] t frozen | o => o
  let h := h.modify 3 fun | .cells _ t frozen => .cells #[.iface 91 (.agg #[Sht.hd 24])] t frozen | o => o
  let h := h.modify 23 fun | .cells _ t frozen => .cells #[.int .u8 128, .int .u8 191, .int .u8 160, .int .u8 191, .int .u8 128, .int .u8 159, .int .u8 144, .int .u8 191, .int .u8 128, .int .u8 143, .int .u8 0, .int .u8 0, .int .u8 0, .int .u8 0, .int .u8 0, .int .u8 0, .int .u8 0, .int .u8 0, .int .u8 0, .int .u8 0, .int .u8 0, .int .u8 0, .int .u8 0, .int .u8 0, .int .u8 0, .int .u8 0, .int .u8 0, .int .u8 0, .int .u8 0, .int .u8 0, .int .u8 0, .int .u8 0] t frozen | o => o
  let h := h.modify 22 fun | .cells _ t frozen => .cells ((Go.Pinned.utf8FirstZ.map fun (n : Nat) => Value.int .u8 n).toArray) t frozen | o => o
  { w0 with heap := h }
theorem laid_met (os : Os) : laidMetH Tryd.prog Rows.sheetFormRow.laid ((laidWorld os).forCall (fun _ _ => 0) ⟨#[], #[.string ByteArray.empty], []⟩).memory :=
  laidMetH_of_parts (laidMet_of_run' 8 (by kernel_rfl) (by kernel_rfl)) (by kernel_rfl)
theorem reads (os : Os) {H : Type} (enc : TypeId × Value → H) : ∃ places, DataW.whole enc Tryd.prog ((laidWorld os).forCall (fun _ _ => 0) ⟨#[], #[.string ByteArray.empty], []⟩).memory Tryd.f4.params.toList Rows.sheetFormSpec.vars false (#[.string ByteArray.empty] : Array Value).toList 8 = some ([.lit (.string [])], [], places) :=
  ⟨[], by kernel_rfl⟩
set_option maxRecDepth 100000 in
theorem lifted (os : Os) (started : os.Started) (H : Type) (enc : TypeId × Value → H) (F : Stop.Interp) :
    ReturnsInHanded {} Tryd.checked os 4 .any ((OpenSpec.ofChange Rows.sheetFormSpec).preRow enc Tryd.prog Tryd.f4 Rows.sheetFormRow.domain false Rows.sheetFormRow.laid) (((OpenSpec.ofChange Rows.sheetFormSpec).at F).post enc Tryd.prog Tryd.f4 false true false false) := by
  obtain ⟨places, hx⟩ := reads os enc
  refine returnsInHanded_of_row (C := Tryd.checked) (s := OpenSpec.ofChange Rows.sheetFormSpec) own started (by kernel_rfl) Tryd.func4
    (witness_row_at (enc := enc) (C := Tryd.checked) false (laidWorld os) #[.string ByteArray.empty] rfl (by kernel_rfl) (by kernel_rfl) (by kernel_rfl)
      (OpenSpec.preRow_of_cond 8 hx (by kernel_rfl) (fun k hk => by cases hk) (by kernel_rfl) (laid_met os))) ?_
  intro W base args ds gs before hval hW _ hcond hsz hL hsh _
  exact contract H enc W base args ds gs before hval hW hsz hL hsh
theorem said : Rows.SheetFormSaid :=
  OpenClaim.holds_of_cond 4 Tryd.f4 rfl rfl rfl rfl rfl rfl rfl ⟨rfl, rfl, rfl, rfl, rfl⟩ rfl rfl rfl rfl rfl (by kernel_rfl) Tryd.func4 (by kernel_rfl)
    (of_decide_eq_true (by kernel_rfl)) (by unfold Func.isWrapper; first | (rw [if_pos (by decide +kernel)]; kernel_rfl) | (rw [if_neg (by decide +kernel)]; exact ⟨rfl, rfl⟩))
    (fun os started H enc _ F => by rw [OpenClaim.pre_eq_preRow]; exact lifted os started H enc F)
theorem plain (f : FuncId) (fn : Func) (hf : Tryd.pinned.checked.prog.funcNamed "larder/larderlaw04.SheetForm" = some f) (hfn : Tryd.pinned.checked.prog.funcs[f]? = some fn) :
    true = Tryd.pinned.checked.prog.looks [] ∧ ∀ (j : Nat) t, fn.params[j]? = some t → Tryd.pinned.checked.prog.wantsStandIn t = false := by
  obtain rfl : f = 4 := Option.some.inj ((show Tryd.prog.funcNamed "larder/larderlaw04.SheetForm" = some 4 by kernel_rfl).symm.trans hf) |>.symm
  obtain rfl : fn = Tryd.f4 := (Option.some.inj (Tryd.func4.symm.trans hfn)).symm
  refine ⟨by kernel_rfl, fun j t ht => ?_⟩
  rw [Tryd.params4] at ht
  have hm : t ∈ ([9] : List TypeId) := by simpa using Array.mem_of_getElem? ht
  have hall : (([9] : List TypeId).all fun u => !Tryd.prog.wantsStandIn u) = true := by kernel_rfl
  exact (show Tryd.prog.wantsStandIn t = false by simpa using List.all_eq_true.1 hall t hm)
theorem card : Rows.SheetFormCardSaid :=
  Claim7.holds_tied_plain_at .later [] _ _ _ _ said (fun _ h => by cases h) (by kernel_rfl) (fun _ h => by cases h) sheetForm_row_tie rfl ⟨rfl, rfl⟩ (by kernel_rfl) rfl plain (by kernel_rfl)
#print axioms card
end Go.Proofs.YtappphffbnkloaaDoor.sheetForm
namespace Go.Proofs.YtappphffbnkloaaDoor
theorem sheetForm_holds : Rows.SheetFormCardSaid := sheetForm.card
end Go.Proofs.YtappphffbnkloaaDoor

/- SheetReads: the row and the card. -/
import Derived.Test.YtappphffbnkloaaGreatDoorCards
import Derived.Test.YtappphffbnkloaaGreatDoorTie
import Derived.Test.YtappphffbnkloaaGreatDoorShtJg
import Derived.Test.YtappphffbnkloaaGreatDoorEdiLaid
import Derived.WalkKit
import Derived.ProofKit
import Derived.OpenShut
import Derived.ShutString
import Derived.ChangeOld
import Derived.Below
import Derived.SizedLaws
import Derived.Lib.SmallJoins
import Derived.Deep.DeepHandedRow
import Derived.Lib.LaidTab
import Derived.LaidHandle
import Derived.LaidLaws
namespace Go.Proofs.YtappphffbnkloaaGreatDoor.sheetReads
open Go.ChangeShapes Go.WideShapes Go.ChangeAt Go.RowKit Go.Joins Go.Deep
open Go.ChangeMaps (open_string shut_string)
set_option linter.unusedVariables false
theorem own : ownKnob Tryz.prog.godebug = none := by kernel_rfl
theorem laidOut : laidOutB Tryz.prog = true := by kernel_rfl
/-! ### what the row lists -/
def plainL : List (String × DataW Unit) := [("math/bits.deBruijn32tab", Rows.laid_math_bits_deBruijn32tab), ("math/bits.deBruijn64tab", Rows.laid_math_bits_deBruijn64tab), ("internal/strconv.uint64pow10", Rows.laid_internal_strconv_uint64pow10), ("larder/sheet.ErrOpen", Rows.laid_larder_sheet_ErrOpen), ("larder/sheet.ErrQuote", Rows.laid_larder_sheet_ErrQuote), ("larder/sheet.ErrLine", Rows.laid_larder_sheet_ErrLine), ("larder/sheet.ErrByte", Rows.laid_larder_sheet_ErrByte), ("larder/sheet.ErrCell", Rows.laid_larder_sheet_ErrCell), ("larder/sheet.ErrCells", Rows.laid_larder_sheet_ErrCells), ("larder/sheet.ErrRows", Rows.laid_larder_sheet_ErrRows), ("larder/sheet.ErrRagged", Rows.laid_larder_sheet_ErrRagged), ("larder/sheet.ErrDone", Rows.laid_larder_sheet_ErrDone), ("larder/sheet.ErrLong", Rows.laid_larder_sheet_ErrLong), ("larder/sheet.ErrColumns", Rows.laid_larder_sheet_ErrColumns), ("larder/sheet.ErrMissing", Rows.laid_larder_sheet_ErrMissing), ("larder/sheet.ErrTwice", Rows.laid_larder_sheet_ErrTwice), ("larder/sheet.ErrEmpty", Rows.laid_larder_sheet_ErrEmpty), ("larder/sheet.ErrNumber", Rows.laid_larder_sheet_ErrNumber), ("larder/sheet.ErrCents", Rows.laid_larder_sheet_ErrCents), ("larder/sheet.ErrDate", Rows.laid_larder_sheet_ErrDate), ("larder/sheet.ErrCode", Rows.laid_larder_sheet_ErrCode), ("larder/sheet.ErrYes", Rows.laid_larder_sheet_ErrYes), ("larder/sheet.ErrValue", Rows.laid_larder_sheet_ErrValue)]
theorem parts {W : World} (h : laidMetH Tryz.prog Rows.sheetReadsRow.laid W) : laidMet Tryz.prog plainL W ∧ handlesMet Tryz.prog [("errors.errorType", Rows.laid_errors_errorType)] W := h
theorem rt : (Tryz.prog.cutTypes.find? (·.1 == "internal/reflectlite.rtype")).map (·.2) = some 152 := by kernel_rfl
theorem sizeT : Tryz.prog.types.size = 245 := by kernel_rfl
theorem oneRow : ((List.range 245).filter fun t => Tryz.prog.rowNamed t [101, 114, 114, 111, 114]) = [41] := by kernel_rfl
theorem etN : Tryz.prog.globalNamed "errors.errorType" = some 5 := by kernel_rfl
theorem et_of_laid {W : World} (h : laidMetH Tryz.prog Rows.sheetReadsRow.laid W) : Sht.ET W := by
  obtain ⟨name, u, ty, e1, e2, e3, e4, e5⟩ := (parts h).2 _ (List.mem_singleton.2 rfl)
  have en : name = [101, 114, 114, 111, 114] := (Option.some.inj e1).symm
  subst en
  obtain rfl := Option.some.inj (rt.symm.trans e2)
  have hm : ty ∈ (List.range 245).filter fun t => Tryz.prog.rowNamed t [101, 114, 114, 111, 114] := List.mem_filter.2 ⟨List.mem_range.2 (by rw [← sizeT]; exact e3), e4⟩
  rw [oneRow] at hm
  obtain rfl := List.mem_singleton.1 hm
  have hh : typeHandle Tryz.prog 41 = Sht.hd 41 := by kernel_rfl
  rw [hh] at e5
  exact (by simpa using World.var?_cell etN e5 0 : W.cell? ⟨5, 0, none⟩ = _)
theorem cellsE : Tryz.prog.cellsOf 233 = 1 := by kernel_rfl
theorem cellsS : Tryz.prog.cellsOf 9 = 1 := by kernel_rfl
theorem star : "*" ++ "errors.errorString" = "*errors.errorString" := by decide
theorem rowE (u : TypeId) (h : Tryz.prog.typeName? 3 u = some "*errors.errorString") : u = 215 :=
  typeName_ptr_named (nm := "errors.errorString") (by rw [star]; kernel_rfl) (by kernel_rfl) (by decide) u (by rw [star]; exact h)
theorem g1 : Tryz.prog.globalNamed "larder/sheet.ErrOpen" = some 2 := by kernel_rfl
theorem t1 : (Tryz.prog.globals[2]?).map (·.type) = some 41 := by kernel_rfl
theorem g2 : Tryz.prog.globalNamed "larder/sheet.ErrQuote" = some 6 := by kernel_rfl
theorem t2 : (Tryz.prog.globals[6]?).map (·.type) = some 41 := by kernel_rfl
theorem g3 : Tryz.prog.globalNamed "larder/sheet.ErrLine" = some 1 := by kernel_rfl
theorem t3 : (Tryz.prog.globals[1]?).map (·.type) = some 41 := by kernel_rfl
theorem g4 : Tryz.prog.globalNamed "larder/sheet.ErrByte" = some 7 := by kernel_rfl
theorem t4 : (Tryz.prog.globals[7]?).map (·.type) = some 41 := by kernel_rfl
theorem g5 : Tryz.prog.globalNamed "larder/sheet.ErrCell" = some 8 := by kernel_rfl
theorem t5 : (Tryz.prog.globals[8]?).map (·.type) = some 41 := by kernel_rfl
theorem g6 : Tryz.prog.globalNamed "larder/sheet.ErrCells" = some 9 := by kernel_rfl
theorem t6 : (Tryz.prog.globals[9]?).map (·.type) = some 41 := by kernel_rfl
theorem g7 : Tryz.prog.globalNamed "larder/sheet.ErrRows" = some 10 := by kernel_rfl
theorem t7 : (Tryz.prog.globals[10]?).map (·.type) = some 41 := by kernel_rfl
theorem g8 : Tryz.prog.globalNamed "larder/sheet.ErrRagged" = some 3 := by kernel_rfl
theorem t8 : (Tryz.prog.globals[3]?).map (·.type) = some 41 := by kernel_rfl
theorem g9 : Tryz.prog.globalNamed "larder/sheet.ErrDone" = some 4 := by kernel_rfl
theorem t9 : (Tryz.prog.globals[4]?).map (·.type) = some 41 := by kernel_rfl
theorem g10 : Tryz.prog.globalNamed "larder/sheet.ErrColumns" = some 11 := by kernel_rfl
theorem t10 : (Tryz.prog.globals[11]?).map (·.type) = some 41 := by kernel_rfl
theorem g11 : Tryz.prog.globalNamed "larder/sheet.ErrMissing" = some 12 := by kernel_rfl
theorem t11 : (Tryz.prog.globals[12]?).map (·.type) = some 41 := by kernel_rfl
theorem g12 : Tryz.prog.globalNamed "larder/sheet.ErrTwice" = some 13 := by kernel_rfl
theorem t12 : (Tryz.prog.globals[13]?).map (·.type) = some 41 := by kernel_rfl
theorem g13 : Tryz.prog.globalNamed "larder/sheet.ErrEmpty" = some 14 := by kernel_rfl
theorem t13 : (Tryz.prog.globals[14]?).map (·.type) = some 41 := by kernel_rfl
theorem g14 : Tryz.prog.globalNamed "larder/sheet.ErrNumber" = some 15 := by kernel_rfl
theorem t14 : (Tryz.prog.globals[15]?).map (·.type) = some 41 := by kernel_rfl
theorem g15 : Tryz.prog.globalNamed "larder/sheet.ErrCents" = some 16 := by kernel_rfl
theorem t15 : (Tryz.prog.globals[16]?).map (·.type) = some 41 := by kernel_rfl
theorem g16 : Tryz.prog.globalNamed "larder/sheet.ErrDate" = some 17 := by kernel_rfl
theorem t16 : (Tryz.prog.globals[17]?).map (·.type) = some 41 := by kernel_rfl
theorem g17 : Tryz.prog.globalNamed "larder/sheet.ErrCode" = some 18 := by kernel_rfl
theorem t17 : (Tryz.prog.globals[18]?).map (·.type) = some 41 := by kernel_rfl
theorem g18 : Tryz.prog.globalNamed "larder/sheet.ErrYes" = some 19 := by kernel_rfl
theorem t18 : (Tryz.prog.globals[19]?).map (·.type) = some 41 := by kernel_rfl
theorem g19 : Tryz.prog.globalNamed "larder/sheet.ErrValue" = some 20 := by kernel_rfl
theorem t19 : (Tryz.prog.globals[20]?).map (·.type) = some 41 := by kernel_rfl
theorem g20 : Tryz.prog.globalNamed "larder/sheet.ErrLong" = some 0 := by kernel_rfl
theorem t20 : (Tryz.prog.globals[0]?).map (·.type) = some 41 := by kernel_rfl
abbrev sent (n : String) (text : List UInt8) : String × DataW Unit := (n, .iface "*errors.errorString" (.ptr (.agg [.lit (.string text)])))
def li (c : Nat) : Nat := if c = 20 then 12 else if c ≤ 9 then c + 2 else c + 3
theorem listed (c : Nat) (h : 1 ≤ c ∧ c ≤ 20) : ∃ n x, plainL[li c]? = some (sent n x) ∧ Tryz.prog.globalNamed n = some (Sht.gl20 c) ∧ (Tryz.prog.globals[Sht.gl20 c]?).map (·.type) = some 41 ∧ x.length < 1000 := by
  rcases (show c = 1 ∨ c = 2 ∨ c = 3 ∨ c = 4 ∨ c = 5 ∨ c = 6 ∨ c = 7 ∨ c = 8 ∨ c = 9 ∨ c = 10 ∨ c = 11 ∨ c = 12 ∨ c = 13 ∨ c = 14 ∨ c = 15 ∨ c = 16 ∨ c = 17 ∨ c = 18 ∨ c = 19 ∨ c = 20 by omega) with rfl | rfl | rfl | rfl | rfl | rfl | rfl | rfl | rfl | rfl | rfl | rfl | rfl | rfl | rfl | rfl | rfl | rfl | rfl | rfl
  · exact ⟨_, _, rfl, g1, t1, by decide⟩
  · exact ⟨_, _, rfl, g2, t2, by decide⟩
  · exact ⟨_, _, rfl, g3, t3, by decide⟩
  · exact ⟨_, _, rfl, g4, t4, by decide⟩
  · exact ⟨_, _, rfl, g5, t5, by decide⟩
  · exact ⟨_, _, rfl, g6, t6, by decide⟩
  · exact ⟨_, _, rfl, g7, t7, by decide⟩
  · exact ⟨_, _, rfl, g8, t8, by decide⟩
  · exact ⟨_, _, rfl, g9, t9, by decide⟩
  · exact ⟨_, _, rfl, g10, t10, by decide⟩
  · exact ⟨_, _, rfl, g11, t11, by decide⟩
  · exact ⟨_, _, rfl, g12, t12, by decide⟩
  · exact ⟨_, _, rfl, g13, t13, by decide⟩
  · exact ⟨_, _, rfl, g14, t14, by decide⟩
  · exact ⟨_, _, rfl, g15, t15, by decide⟩
  · exact ⟨_, _, rfl, g16, t16, by decide⟩
  · exact ⟨_, _, rfl, g17, t17, by decide⟩
  · exact ⟨_, _, rfl, g18, t18, by decide⟩
  · exact ⟨_, _, rfl, g19, t19, by decide⟩
  · exact ⟨_, _, rfl, g20, t20, by decide⟩
def addrOf (W : World) (c : Nat) : Addr := match W.cell? ⟨Sht.gl20 c, 0, none⟩ with
  | some (Value.iface _ (Value.pointer (some a))) => a
  | _ => ⟨0, 0, none⟩
theorem addrOf_eq {W : World} {c : Nat} {t : TypeId} {a : Addr} (h : W.cell? ⟨Sht.gl20 c, 0, none⟩ = some (.iface t (.pointer (some a)))) : addrOf W c = a := by unfold addrOf; rw [h]
structure One (W : World) (c : Nat) : Prop where
  v : W.cell? ⟨Sht.gl20 c, 0, none⟩ = some (Sht.errV (addrOf W) c)
  s : ∃ s : ByteArray, W.cell? (addrOf W c) = some (.string s) ∧ s.size < 1000
  b : ∃ cs t, W.heap[(addrOf W c).block]? = some (.cells cs t (0, 0))
theorem pairLt {W : World} (hL : laidMet Tryz.prog plainL W) (c c' : Nat) (h1 : 1 ≤ c ∧ c ≤ 20) (h2 : 1 ≤ c' ∧ c' ≤ 20) (hlt : li c < li c') : One W c ∧ One W c' ∧ addrOf W c ≠ addrOf W c' := by
  obtain ⟨n0, x0, l0, k0, u0, z0⟩ := listed c h1
  obtain ⟨n1, x1, l1, k1, u1, z1⟩ := listed c' h2
  obtain ⟨a0, a1, s0, s1, c0, c1, y0, y1, hv0, hv1, hc0, hs0, hz0, hc1, hs1, hz1, hne, hb0, hb1⟩ := laid_sentinels2 (Is.laidMet_sub (Is.pair_sub hlt l0 l1) hL) k0 u0 k1 u1 Tryz.underlying41 rowE Tryz.underlying215 Tryz.underlying233 rfl rfl Tryz.underlying9 cellsE cellsS
  have v0 : W.cell? ⟨Sht.gl20 c, 0, none⟩ = some (.iface 215 (.pointer (some a0))) := by simpa using World.var?_cell k0 hv0 0
  have v1 : W.cell? ⟨Sht.gl20 c', 0, none⟩ = some (.iface 215 (.pointer (some a1))) := by simpa using World.var?_cell k1 hv1 0
  refine ⟨⟨by unfold Sht.errV; rw [addrOf_eq v0]; exact v0, ?_, by rw [addrOf_eq v0]; exact ⟨_, _, hb0⟩⟩, ⟨by unfold Sht.errV; rw [addrOf_eq v1]; exact v1, ?_, by rw [addrOf_eq v1]; exact ⟨_, _, hb1⟩⟩, by rw [addrOf_eq v0, addrOf_eq v1]; exact hne⟩
  · rw [addrOf_eq v0]; refine ⟨s0, hc0, ?_⟩; rw [← hs0, Array.length_toList] at z0; exact z0
  · rw [addrOf_eq v1]; refine ⟨s1, hc1, ?_⟩; rw [← hs1, Array.length_toList] at z1; exact z1
theorem one {W : World} (hL : laidMet Tryz.prog plainL W) (c : Nat) (h : 1 ≤ c ∧ c ≤ 20) : One W c := by
  by_cases e : c = 1
  · subst e; exact (pairLt hL 1 2 (by omega) (by omega) (by decide)).1
  · exact (pairLt hL 1 c (by omega) h (by unfold li; split <;> (try split) <;> (try split) <;> (try split) <;> omega)).2.1
theorem apart {W : World} (hL : laidMet Tryz.prog plainL W) (c c' : Nat) (h1 : 1 ≤ c ∧ c ≤ 20) (h2 : 1 ≤ c' ∧ c' ≤ 20) (hne : c ≠ c') : addrOf W c ≠ addrOf W c' := by
  have hl : li c ≠ li c' := by unfold li; split <;> (try split) <;> (try split) <;> (try split) <;> omega
  rcases Nat.lt_or_gt_of_ne hl with h | h
  · exact (pairLt hL c c' h1 h2 h).2.2
  · exact (pairLt hL c' c h2 h1 h).2.2.symm
theorem errs_of_laid {W : World} (h : laidMetH Tryz.prog Rows.sheetReadsRow.laid W) : Sht.SG W (addrOf W) :=
  have hL := (parts h).1
  ⟨fun c h1 h2 => (one hL c ⟨h1, h2⟩).v, fun c c' h1 h2 h3 h4 hne => apart hL c c' ⟨h1, h2⟩ ⟨h3, h4⟩ hne, fun c h1 h2 => (one hL c ⟨h1, h2⟩).b, fun c h1 h2 => (one hL c ⟨h1, h2⟩).s⟩
theorem gP : Tryz.prog.globalNamed "internal/strconv.uint64pow10" = some 21 := by kernel_rfl
theorem tP : (Tryz.prog.globals[21]?).map (·.type) = some 196 := by kernel_rfl
theorem cellsP : Tryz.prog.cellsOf 196 = 20 := by kernel_rfl
theorem cellsU : Tryz.prog.cellsOf 129 = 1 := by kernel_rfl
theorem tab_of_laid {W : World} (h : laidMetH Tryz.prog Rows.sheetReadsRow.laid W) : Lib.TabIs Tryz.prog W "internal/strconv.uint64pow10" .u64 Lib.pow10Tab := by
  have h' : laidMet Tryz.prog [("internal/strconv.uint64pow10", Rows.laid_internal_strconv_uint64pow10)] W := Is.laidMet_sub (List.singleton_sublist.2 (List.mem_of_getElem? (i := 2) rfl)) (parts h).1
  have e : (Rows.laid_internal_strconv_uint64pow10 : DataW Unit) = Lib.tabData .u64 Lib.pow10Tab := by kernel_rfl
  rw [e] at h'
  exact Lib.tabIs_of_head (rest := []) gP tP Tryz.underlying196 Tryz.underlying129 cellsU cellsP h'
/-! ### the row -/
set_option maxRecDepth 100000 in
theorem contract (H : Type) (enc : TypeId × Value → H) (W : World) (base : Nat) (args : Array Value) (ds gs : List (DataW H)) (before : List MemPlace)
    (hval : ∀ (j : Nat) t v, Tryz.f3.params[j]? = some t → args[j]? = some v → Value.okWide Tryz.prog W .any base t v)
    (hW : DataW.Whole enc Tryz.prog Tryz.f3.params.toList Rows.sheetReadsSpec.vars false W args.toList ds gs before)
    (hsz0 : (DataW.weightsEach Tryz.prog (Tryz.f3.params.toList ++ Rows.sheetReadsSpec.plain.varTypes Tryz.prog) (ds ++ gs)).all (· ≤ reachBytes) = true) (hL : laidMetH Tryz.prog Rows.sheetReadsRow.laid W) :
    Calls Tryz.prog 3 args W fun e W' => ∃ v, e = .returned v ∧ Rows.sheetReadsSpec.post enc Tryz.prog Tryz.f3 false true false false W args v W' := by
  have hsz := hsz0
  have hW' := hW
  obtain ⟨p, q, hA0, hV, rfl, hfz, hnd⟩ := hW
  have hA : DataW.TrodAll enc Tryz.prog W 0 (fun _ => true) true Tryz.f3.params.toList args.toList ds p := hA0
  rw [Tryz.params3] at hA hval hsz
  obtain ⟨v0, vs0, d0, ds0, p0, q0, hargs, rfl, rfl, h0, r0⟩ := trodAll_cons hA
  obtain ⟨v1, vs1, d1, ds1, p1, q1, rfl, rfl, rfl, h1, r1⟩ := trodAll_cons r0
  obtain ⟨rfl, rfl, rfl⟩ := trodAll_nil r1
  obtain rfl : args = #[v0, v1] := by cases args; simp_all
  obtain ⟨rfl, rfl⟩ := trodVars_none hV
  have k0 := h0
  have lt0 : ∀ x ∈ p0, x.block < W.heap.size := by obtain ⟨m, hm⟩ := k0; exact DataW.trod_lt m _ _ _ hm
  have ho0 := okWide_slice Tryz.underlying22 (hval 0 22 v0 rfl rfl)
  obtain ⟨x0, cap0, P0, rfl, hs0, hn0, hq0⟩ := Sht.open_pieces ho0 h0 (fun n hn => by
    have := List.all_eq_true.1 hsz _ (DataW.weights_mem_each (j := 0) (t := 22) rfl rfl n hn)
    simpa using this)
  have k1 := h1
  have lt1 : ∀ x ∈ p1, x.block < W.heap.size := by obtain ⟨m, hm⟩ := k1; exact DataW.trod_lt m _ _ _ hm
  obtain ⟨a1, rfl, rfl, rfl⟩ := open_bool Tryz.underlying4 (hval 1 4 v1 rfl rfl) h1
  have HS := errs_of_laid hL
  have HE := et_of_laid hL
  have HT := tab_of_laid hL
  refine (Sht.sheetReads_calls W HS HE HT x0 cap0 P0 hs0 hn0 hq0 a1).mono fun e W' ⟨he, bel⟩ => ?_
  subst he
  exact ⟨_, rfl, _, _, _, [], _, [], hW', trodAll_mk1 (shut_bool Tryz.underlying4 _), (trodAll_cons_mk (Below.trod laidOut (by kernel_rfl) (of_decide_eq_true (by kernel_rfl)) k0 bel lt0) (trodAll_cons_mk (Below.trod laidOut (by kernel_rfl) (of_decide_eq_true (by kernel_rfl)) k1 bel lt1) trodAll_mk0)), rfl, bel.frame _, fun h => by cases h⟩
noncomputable def low : Nat := (World.holding Tryz.prog default ⟨#[], #[], []⟩).heap.size
noncomputable def laidWorld (os : Os) : World :=
  let w0 := World.holding Tryz.prog os ⟨#[.cells #[.string ⟨#[97, 32, 113, 117, 111, 116, 101, 100, 32, 99, 101, 108, 108, 32, 105, 115, 32, 110, 111, 116, 32, 99, 108, 111, 115, 101, 100]⟩] 233, .cells #[.string ⟨#[97, 32, 113, 117, 111, 116, 101, 32, 109, 97, 121, 32, 110, 111, 116, 32, 115, 116, 97, 110, 100, 32, 104, 101, 114, 101]⟩] 233, .cells #[.string ⟨#[97, 32, 108, 105, 110, 101, 32, 109, 97, 121, 32, 110, 111, 116, 32, 101, 110, 100, 32, 115, 111]⟩] 233, .cells #[.string ⟨#[116, 104, 105, 115, 32, 98, 121, 116, 101, 32, 109, 97, 121, 32, 110, 111, 116, 32, 115, 116, 97, 110, 100, 32, 104, 101, 114, 101]⟩] 233, .cells #[.string ⟨#[116, 104, 101, 32, 99, 101, 108, 108, 32, 105, 115, 32, 116, 111, 111, 32, 108, 111, 110, 103]⟩] 233, .cells #[.string ⟨#[116, 111, 111, 32, 109, 97, 110, 121, 32, 99, 101, 108, 108, 115]⟩] 233, .cells #[.string ⟨#[116, 111, 111, 32, 109, 97, 110, 121, 32, 114, 111, 119, 115]⟩] 233, .cells #[.string ⟨#[110, 111, 116, 32, 97, 115, 32, 109, 97, 110, 121, 32, 99, 101, 108, 108, 115, 32, 97, 115, 32, 116, 104, 101, 32, 102, 105, 114, 115, 116, 32, 114, 111, 119, 32, 104, 97, 115]⟩] 233, .cells #[.string ⟨#[116, 104, 101, 32, 114, 101, 97, 100, 101, 114, 32, 104, 97, 115, 32, 101, 110, 100, 101, 100]⟩] 233, .cells #[.string ⟨#[116, 104, 101, 32, 116, 101, 120, 116, 32, 105, 115, 32, 116, 111, 111, 32, 108, 111, 110, 103]⟩] 233, .cells #[.string ⟨#[116, 104, 101, 32, 99, 111, 108, 117, 109, 110, 115, 32, 109, 97, 121, 32, 110, 111, 116, 32, 98, 101, 32, 115, 111]⟩] 233, .cells #[.string ⟨#[97, 32, 99, 111, 108, 117, 109, 110, 32, 105, 115, 32, 109, 105, 115, 115, 105, 110, 103]⟩] 233, .cells #[.string ⟨#[97, 32, 99, 111, 108, 117, 109, 110, 32, 115, 116, 97, 110, 100, 115, 32, 116, 119, 105, 99, 101]⟩] 233, .cells #[.string ⟨#[116, 104, 101, 32, 99, 101, 108, 108, 32, 105, 115, 32, 101, 109, 112, 116, 121]⟩] 233, .cells #[.string ⟨#[116, 104, 105, 115, 32, 105, 115, 32, 110, 111, 32, 110, 117, 109, 98, 101, 114]⟩] 233, .cells #[.string ⟨#[116, 104, 105, 115, 32, 105, 115, 32, 110, 111, 32, 112, 114, 105, 99, 101]⟩] 233, .cells #[.string ⟨#[116, 104, 105, 115, 32, 105, 115, 32, 110, 111, 32, 100, 97, 121]⟩] 233, .cells #[.string ⟨#[116, 104, 105, 115, 32, 105, 115, 32, 110, 111, 32, 99, 111, 100, 101]⟩] 233, .cells #[.string ⟨#[116, 104, 105, 115, 32, 105, 115, 32, 110, 101, 105, 116, 104, 101, 114, 32, 121, 101, 115, 32, 110, 111, 114, 32, 110, 111]⟩] 233, .cells #[.string ⟨#[116, 104, 105, 115, 32, 118, 97, 108, 117, 101, 32, 109, 97, 121, 32, 110, 111, 116, 32, 98, 101]⟩] 233], #[], []⟩
  let h := w0.heap
  let h := h.modify 2 fun | .cells _ t frozen => .cells #[.iface 215 (.pointer (some ⟨low + 0, 0, none⟩))] t frozen | o => o
  let h := h.modify 6 fun | .cells _ t frozen => .cells #[.iface 215 (.pointer (some ⟨low + 1, 0, none⟩))] t frozen | o => o
  let h := h.modify 1 fun | .cells _ t frozen => .cells #[.iface 215 (.pointer (some ⟨low + 2, 0, none⟩))] t frozen | o => o
  let h := h.modify 7 fun | .cells _ t frozen => .cells #[.iface 215 (.pointer (some ⟨low + 3, 0, none⟩))] t frozen | o => o
  let h := h.modify 8 fun | .cells _ t frozen => .cells #[.iface 215 (.pointer (some ⟨low + 4, 0, none⟩))] t frozen | o => o
  let h := h.modify 9 fun | .cells _ t frozen => .cells #[.iface 215 (.pointer (some ⟨low + 5, 0, none⟩))] t frozen | o => o
  let h := h.modify 10 fun | .cells _ t frozen => .cells #[.iface 215 (.pointer (some ⟨low + 6, 0, none⟩))] t frozen | o => o
  let h := h.modify 3 fun | .cells _ t frozen => .cells #[.iface 215 (.pointer (some ⟨low + 7, 0, none⟩))] t frozen | o => o
  let h := h.modify 4 fun | .cells _ t frozen => .cells #[.iface 215 (.pointer (some ⟨low + 8, 0, none⟩))] t frozen | o => o
  let h := h.modify 0 fun | .cells _ t frozen => .cells #[.iface 215 (.pointer (some ⟨low + 9, 0, none⟩))] t frozen | o => o
  let h := h.modify 11 fun | .cells _ t frozen => .cells #[.iface 215 (.pointer (some ⟨low + 10, 0, none⟩))] t frozen | o => o
  let h := h.modify 12 fun | .cells _ t frozen => .cells #[.iface 215 (.pointer (some ⟨low + 11, 0, none⟩))] t frozen | o => o
  let h := h.modify 13 fun | .cells _ t frozen => .cells #[.iface 215 (.pointer (some ⟨low + 12, 0, none⟩))] t frozen | o => o
  let h := h.modify 14 fun | .cells _ t frozen => .cells #[.iface 215 (.pointer (some ⟨low + 13, 0, none⟩))] t frozen | o => o
  let h := h.modify 15 fun | .cells _ t frozen => .cells #[.iface 215 (.pointer (some ⟨low + 14, 0, none⟩))] t frozen | o => o
  let h := h.modify 16 fun | .cells _ t frozen => .cells #[.iface 215 (.pointer (some ⟨low + 15, 0, none⟩))] t frozen | o => o
  let h := h.modify 17 fun | .cells _ t frozen => .cells #[.iface 215 (.pointer (some ⟨low + 16, 0, none⟩))] t frozen | o => o
  let h := h.modify 18 fun | .cells _ t frozen => .cells #[.iface 215 (.pointer (some ⟨low + 17, 0, none⟩))] t frozen | o => o
  let h := h.modify 19 fun | .cells _ t frozen => .cells #[.iface 215 (.pointer (some ⟨low + 18, 0, none⟩))] t frozen | o => o
  let h := h.modify 20 fun | .cells _ t frozen => .cells #[.iface 215 (.pointer (some ⟨low + 19, 0, none⟩))] t frozen | o => o
  let h := h.modify 5 fun | .cells _ t frozen => .cells #[.iface 152 (.agg #[Sht.hd 41])] t frozen | o => o
  let h := h.modify 25 fun | .cells _ t frozen => .cells #[.int .u8 0, .int .u8 1, .int .u8 28, .int .u8 2, .int .u8 29, .int .u8 14, .int .u8 24, .int .u8 3, .int .u8 30, .int .u8 22, .int .u8 20, .int .u8 15, .int .u8 25, .int .u8 17, .int .u8 4, .int .u8 8, .int .u8 31, .int .u8 27, .int .u8 13, .int .u8 23, .int .u8 21, .int .u8 19, .int .u8 16, .int .u8 7, .int .u8 26, .int .u8 12, .int .u8 18, .int .u8 6, .int .u8 11, .int .u8 5, .int .u8 10, .int .u8 9] t frozen | o => o
  let h := h.modify 26 fun | .cells _ t frozen => .cells #[.int .u8 0, .int .u8 1, .int .u8 56, .int .u8 2, .int .u8 57, .int .u8 49, .int .u8 28, .int .u8 3, .int .u8 61, .int .u8 58, .int .u8 42, .int .u8 50, .int .u8 38, .int .u8 29, .int .u8 17, .int .u8 4, .int .u8 62, .int .u8 47, .int .u8 59, .int .u8 36, .int .u8 45, .int .u8 43, .int .u8 51, .int .u8 22, .int .u8 53, .int .u8 39, .int .u8 33, .int .u8 30, .int .u8 24, .int .u8 18, .int .u8 12, .int .u8 5, .int .u8 63, .int .u8 55, .int .u8 48, .int .u8 27, .int .u8 60, .int .u8 41, .int .u8 37, .int .u8 16, .int .u8 46, .int .u8 35, .int .u8 44, .int .u8 21, .int .u8 52, .int .u8 32, .int .u8 23, .int .u8 11, .int .u8 54, .int .u8 26, .int .u8 40, .int .u8 15, .int .u8 34, .int .u8 20, .int .u8 31, .int .u8 10, .int .u8 25, .int .u8 14, .int .u8 19, .int .u8 9, .int .u8 13, .int .u8 8, .int .u8 7, .int .u8 6] t frozen | o => o
  let h := h.modify 21 fun | .cells _ t frozen => .cells #[.int .u64 1, .int .u64 10, .int .u64 100, .int .u64 1000, .int .u64 10000, .int .u64 100000, .int .u64 1000000, .int .u64 10000000, .int .u64 100000000, .int .u64 1000000000, .int .u64 10000000000, .int .u64 100000000000, .int .u64 1000000000000, .int .u64 10000000000000, .int .u64 100000000000000, .int .u64 1000000000000000, .int .u64 10000000000000000, .int .u64 100000000000000000, .int .u64 1000000000000000000, .int .u64 10000000000000000000] t frozen | o => o
  { w0 with heap := h }
theorem laid_met (os : Os) : laidMetH Tryz.prog Rows.sheetReadsRow.laid ((laidWorld os).forCall (fun _ _ => 0) ⟨#[], #[.slice none 0 0, .bool false], []⟩).memory :=
  laidMetH_of_parts (laidMet_of_run' 8 (by kernel_rfl) (by kernel_rfl)) (by kernel_rfl)
theorem reads (os : Os) {H : Type} (enc : TypeId × Value → H) : ∃ places, DataW.whole enc Tryz.prog ((laidWorld os).forCall (fun _ _ => 0) ⟨#[], #[.slice none 0 0, .bool false], []⟩).memory Tryz.f3.params.toList Rows.sheetReadsSpec.vars false (#[.slice none 0 0, .bool false] : Array Value).toList 8 = some ([.nil, .lit (.bool false)], [], places) :=
  ⟨[], by kernel_rfl⟩
set_option maxRecDepth 100000 in
theorem lifted (os : Os) (started : os.Started) (H : Type) (enc : TypeId × Value → H) (F : Stop.Interp) :
    ReturnsInHanded {} Tryz.checked os 3 .any ((OpenSpec.ofChange Rows.sheetReadsSpec).preRow enc Tryz.prog Tryz.f3 Rows.sheetReadsRow.domain false Rows.sheetReadsRow.laid) (((OpenSpec.ofChange Rows.sheetReadsSpec).at F).post enc Tryz.prog Tryz.f3 false true false false) := by
  obtain ⟨places, hx⟩ := reads os enc
  refine returnsInHanded_of_row (C := Tryz.checked) (s := OpenSpec.ofChange Rows.sheetReadsSpec) own started (by kernel_rfl) Tryz.func3
    (witness_row_at (enc := enc) (C := Tryz.checked) false (laidWorld os) #[.slice none 0 0, .bool false] rfl (by kernel_rfl) (by kernel_rfl) (by kernel_rfl)
      (OpenSpec.preRow_of_cond 8 hx (by kernel_rfl) (fun k hk => by cases hk) (by kernel_rfl) (laid_met os))) ?_
  intro W base args ds gs before hval hW _ hcond hsz hL hsh _
  exact contract H enc W base args ds gs before hval hW hsz hL
theorem said : Rows.SheetReadsSaid :=
  OpenClaim.holds_of_cond 3 Tryz.f3 rfl rfl rfl rfl rfl rfl rfl ⟨rfl, rfl, rfl, rfl, rfl⟩ rfl rfl rfl rfl rfl (by kernel_rfl) Tryz.func3 (by kernel_rfl)
    (of_decide_eq_true (by kernel_rfl)) (by unfold Func.isWrapper; first | (rw [if_pos (by decide +kernel)]; kernel_rfl) | (rw [if_neg (by decide +kernel)]; exact ⟨rfl, rfl⟩))
    (fun os started H enc _ F => by rw [OpenClaim.pre_eq_preRow]; exact lifted os started H enc F)
theorem plain (f : FuncId) (fn : Func) (hf : Tryz.pinned.checked.prog.funcNamed "larder/larderlaw04.SheetReads" = some f) (hfn : Tryz.pinned.checked.prog.funcs[f]? = some fn) :
    true = Tryz.pinned.checked.prog.looks [] ∧ ∀ (j : Nat) t, fn.params[j]? = some t → Tryz.pinned.checked.prog.wantsStandIn t = false := by
  obtain rfl : f = 3 := Option.some.inj ((show Tryz.prog.funcNamed "larder/larderlaw04.SheetReads" = some 3 by kernel_rfl).symm.trans hf) |>.symm
  obtain rfl : fn = Tryz.f3 := (Option.some.inj (Tryz.func3.symm.trans hfn)).symm
  refine ⟨by kernel_rfl, fun j t ht => ?_⟩
  rw [Tryz.params3] at ht
  have hm : t ∈ ([22, 4] : List TypeId) := by simpa using Array.mem_of_getElem? ht
  have hall : (([22, 4] : List TypeId).all fun u => !Tryz.prog.wantsStandIn u) = true := by kernel_rfl
  exact (show Tryz.prog.wantsStandIn t = false by simpa using List.all_eq_true.1 hall t hm)
theorem card : Rows.SheetReadsCardSaid :=
  Claim7.holds_tied_plain_at .later [] _ _ _ _ said (fun _ h => by cases h) (by kernel_rfl) (fun _ h => by cases h) sheetReads_row_tie rfl ⟨rfl, rfl⟩ (by kernel_rfl) rfl plain (by kernel_rfl)
#print axioms card
end Go.Proofs.YtappphffbnkloaaGreatDoor.sheetReads
namespace Go.Proofs.YtappphffbnkloaaGreatDoor
theorem sheetReads_holds : Rows.SheetReadsCardSaid := sheetReads.card
end Go.Proofs.YtappphffbnkloaaGreatDoor

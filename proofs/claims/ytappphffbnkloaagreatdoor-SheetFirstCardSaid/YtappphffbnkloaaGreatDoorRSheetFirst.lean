/- SheetFirst: the row and the card. -/
import Derived.Test.YtappphffbnkloaaGreatDoorCards
import Derived.Test.YtappphffbnkloaaGreatDoorTie
import Derived.Test.YtappphffbnkloaaGreatDoorShtFs
import Derived.Test.YtappphffbnkloaaGreatDoorShtOr
import Derived.Test.YtappphffbnkloaaGreatDoorShtFj
import Derived.Test.YtappphffbnkloaaGreatDoorEdiLaid
import Derived.WalkKit
import Derived.ProofKit
import Derived.OpenShut
import Derived.ShutString
import Derived.ChangeOld
import Derived.Below
import Derived.SizedLaws
import Derived.Lib.SmallJoins
import Derived.Deep.DeepHandedRow
import Derived.Lib.LaidTab
import Derived.LaidHandle
import Derived.LaidLaws
namespace Go.Proofs.YtappphffbnkloaaGreatDoor.sheetFirst
open Go.ChangeShapes Go.WideShapes Go.ChangeAt Go.RowKit Go.Joins Go.Deep
open Go.ChangeMaps (open_string shut_string)
set_option linter.unusedVariables false
theorem own : ownKnob Tryz.prog.godebug = none := by kernel_rfl
theorem laidOut : laidOutB Tryz.prog = true := by kernel_rfl
/-! ### what the row lists -/
def plainL : List (String × DataW Unit) := [("unicode/utf8.acceptRanges", Rows.laid_unicode_utf8_acceptRanges), ("larder/sheet.ErrOpen", Rows.laid_larder_sheet_ErrOpen), ("larder/sheet.ErrQuote", Rows.laid_larder_sheet_ErrQuote), ("larder/sheet.ErrLine", Rows.laid_larder_sheet_ErrLine), ("larder/sheet.ErrByte", Rows.laid_larder_sheet_ErrByte), ("larder/sheet.ErrCell", Rows.laid_larder_sheet_ErrCell), ("larder/sheet.ErrCells", Rows.laid_larder_sheet_ErrCells), ("larder/sheet.ErrRows", Rows.laid_larder_sheet_ErrRows), ("larder/sheet.ErrRagged", Rows.laid_larder_sheet_ErrRagged), ("larder/sheet.ErrDone", Rows.laid_larder_sheet_ErrDone), ("larder/sheet.ErrLong", Rows.laid_larder_sheet_ErrLong), ("unicode/utf8.first", Rows.laid_unicode_utf8_first)]
theorem parts {W : World} (h : laidMetH Tryz.prog Rows.sheetFirstRow.laid W) : laidMet Tryz.prog plainL W ∧ handlesMet Tryz.prog [("errors.errorType", Rows.laid_errors_errorType)] W := h
theorem rt : (Tryz.prog.cutTypes.find? (·.1 == "internal/reflectlite.rtype")).map (·.2) = some 152 := by kernel_rfl
theorem sizeT : Tryz.prog.types.size = 245 := by kernel_rfl
theorem oneRow : ((List.range 245).filter fun t => Tryz.prog.rowNamed t [101, 114, 114, 111, 114]) = [41] := by kernel_rfl
theorem etN : Tryz.prog.globalNamed "errors.errorType" = some 5 := by kernel_rfl
theorem et_of_laid {W : World} (h : laidMetH Tryz.prog Rows.sheetFirstRow.laid W) : Sht.ET W := by
  obtain ⟨name, u, ty, e1, e2, e3, e4, e5⟩ := (parts h).2 _ (List.mem_singleton.2 rfl)
  have en : name = [101, 114, 114, 111, 114] := (Option.some.inj e1).symm
  subst en
  obtain rfl := Option.some.inj (rt.symm.trans e2)
  have hm : ty ∈ (List.range 245).filter fun t => Tryz.prog.rowNamed t [101, 114, 114, 111, 114] := List.mem_filter.2 ⟨List.mem_range.2 (by rw [← sizeT]; exact e3), e4⟩
  rw [oneRow] at hm
  obtain rfl := List.mem_singleton.1 hm
  have hh : typeHandle Tryz.prog 41 = Sht.hd 41 := by kernel_rfl
  rw [hh] at e5
  exact (by simpa using World.var?_cell etN e5 0 : W.cell? ⟨5, 0, none⟩ = _)
theorem cellsE : Tryz.prog.cellsOf 233 = 1 := by kernel_rfl
theorem cellsS : Tryz.prog.cellsOf 9 = 1 := by kernel_rfl
theorem star : "*" ++ "errors.errorString" = "*errors.errorString" := by decide
theorem rowE (u : TypeId) (h : Tryz.prog.typeName? 3 u = some "*errors.errorString") : u = 215 :=
  typeName_ptr_named (nm := "errors.errorString") (by rw [star]; kernel_rfl) (by kernel_rfl) (by decide) u (by rw [star]; exact h)
theorem g1 : Tryz.prog.globalNamed "larder/sheet.ErrOpen" = some 2 := by kernel_rfl
theorem t1 : (Tryz.prog.globals[2]?).map (·.type) = some 41 := by kernel_rfl
theorem g2 : Tryz.prog.globalNamed "larder/sheet.ErrQuote" = some 6 := by kernel_rfl
theorem t2 : (Tryz.prog.globals[6]?).map (·.type) = some 41 := by kernel_rfl
theorem g3 : Tryz.prog.globalNamed "larder/sheet.ErrLine" = some 1 := by kernel_rfl
theorem t3 : (Tryz.prog.globals[1]?).map (·.type) = some 41 := by kernel_rfl
theorem g4 : Tryz.prog.globalNamed "larder/sheet.ErrByte" = some 7 := by kernel_rfl
theorem t4 : (Tryz.prog.globals[7]?).map (·.type) = some 41 := by kernel_rfl
theorem g5 : Tryz.prog.globalNamed "larder/sheet.ErrCell" = some 8 := by kernel_rfl
theorem t5 : (Tryz.prog.globals[8]?).map (·.type) = some 41 := by kernel_rfl
theorem g6 : Tryz.prog.globalNamed "larder/sheet.ErrCells" = some 9 := by kernel_rfl
theorem t6 : (Tryz.prog.globals[9]?).map (·.type) = some 41 := by kernel_rfl
theorem g7 : Tryz.prog.globalNamed "larder/sheet.ErrRows" = some 10 := by kernel_rfl
theorem t7 : (Tryz.prog.globals[10]?).map (·.type) = some 41 := by kernel_rfl
theorem g8 : Tryz.prog.globalNamed "larder/sheet.ErrRagged" = some 3 := by kernel_rfl
theorem t8 : (Tryz.prog.globals[3]?).map (·.type) = some 41 := by kernel_rfl
theorem g9 : Tryz.prog.globalNamed "larder/sheet.ErrDone" = some 4 := by kernel_rfl
theorem t9 : (Tryz.prog.globals[4]?).map (·.type) = some 41 := by kernel_rfl
theorem g20 : Tryz.prog.globalNamed "larder/sheet.ErrLong" = some 0 := by kernel_rfl
theorem t20 : (Tryz.prog.globals[0]?).map (·.type) = some 41 := by kernel_rfl
abbrev sent (n : String) (text : List UInt8) : String × DataW Unit := (n, .iface "*errors.errorString" (.ptr (.agg [.lit (.string text)])))
def li (c : Nat) : Nat := if c = 20 then 10 else if c ≤ 9 then c + 0 else c + 1
theorem listed (c : Nat) (h : Sht.coded c) : ∃ n x, plainL[li c]? = some (sent n x) ∧ Tryz.prog.globalNamed n = some (Sht.gl c) ∧ (Tryz.prog.globals[Sht.gl c]?).map (·.type) = some 41 ∧ x.length < 1000 := by
  rcases (show c = 1 ∨ c = 2 ∨ c = 3 ∨ c = 4 ∨ c = 5 ∨ c = 6 ∨ c = 7 ∨ c = 8 ∨ c = 9 ∨ c = 20 by unfold Sht.coded at *; omega) with rfl | rfl | rfl | rfl | rfl | rfl | rfl | rfl | rfl | rfl
  · exact ⟨_, _, rfl, g1, t1, by decide⟩
  · exact ⟨_, _, rfl, g2, t2, by decide⟩
  · exact ⟨_, _, rfl, g3, t3, by decide⟩
  · exact ⟨_, _, rfl, g4, t4, by decide⟩
  · exact ⟨_, _, rfl, g5, t5, by decide⟩
  · exact ⟨_, _, rfl, g6, t6, by decide⟩
  · exact ⟨_, _, rfl, g7, t7, by decide⟩
  · exact ⟨_, _, rfl, g8, t8, by decide⟩
  · exact ⟨_, _, rfl, g9, t9, by decide⟩
  · exact ⟨_, _, rfl, g20, t20, by decide⟩
def addrOf (W : World) (c : Nat) : Addr := match W.cell? ⟨Sht.gl c, 0, none⟩ with
  | some (Value.iface _ (Value.pointer (some a))) => a
  | _ => ⟨0, 0, none⟩
theorem addrOf_eq {W : World} {c : Nat} {t : TypeId} {a : Addr} (h : W.cell? ⟨Sht.gl c, 0, none⟩ = some (.iface t (.pointer (some a)))) : addrOf W c = a := by unfold addrOf; rw [h]
structure One (W : World) (c : Nat) : Prop where
  v : W.cell? ⟨Sht.gl c, 0, none⟩ = some (Sht.errV (addrOf W) c)
  s : ∃ s : ByteArray, W.cell? (addrOf W c) = some (.string s) ∧ s.size < 1000
  b : ∃ cs t, W.heap[(addrOf W c).block]? = some (.cells cs t (0, 0))
theorem pairLt {W : World} (hL : laidMet Tryz.prog plainL W) (c c' : Nat) (h1 : Sht.coded c) (h2 : Sht.coded c') (hlt : li c < li c') : One W c ∧ One W c' ∧ addrOf W c ≠ addrOf W c' := by
  obtain ⟨n0, x0, l0, k0, u0, z0⟩ := listed c h1
  obtain ⟨n1, x1, l1, k1, u1, z1⟩ := listed c' h2
  obtain ⟨a0, a1, s0, s1, c0, c1, y0, y1, hv0, hv1, hc0, hs0, hz0, hc1, hs1, hz1, hne, hb0, hb1⟩ := laid_sentinels2 (Is.laidMet_sub (Is.pair_sub hlt l0 l1) hL) k0 u0 k1 u1 Tryz.underlying41 rowE Tryz.underlying215 Tryz.underlying233 rfl rfl Tryz.underlying9 cellsE cellsS
  have v0 : W.cell? ⟨Sht.gl c, 0, none⟩ = some (.iface 215 (.pointer (some a0))) := by simpa using World.var?_cell k0 hv0 0
  have v1 : W.cell? ⟨Sht.gl c', 0, none⟩ = some (.iface 215 (.pointer (some a1))) := by simpa using World.var?_cell k1 hv1 0
  refine ⟨⟨by unfold Sht.errV; rw [addrOf_eq v0]; exact v0, ?_, by rw [addrOf_eq v0]; exact ⟨_, _, hb0⟩⟩, ⟨by unfold Sht.errV; rw [addrOf_eq v1]; exact v1, ?_, by rw [addrOf_eq v1]; exact ⟨_, _, hb1⟩⟩, by rw [addrOf_eq v0, addrOf_eq v1]; exact hne⟩
  · rw [addrOf_eq v0]; refine ⟨s0, hc0, ?_⟩; rw [← hs0, Array.length_toList] at z0; exact z0
  · rw [addrOf_eq v1]; refine ⟨s1, hc1, ?_⟩; rw [← hs1, Array.length_toList] at z1; exact z1
theorem one {W : World} (hL : laidMet Tryz.prog plainL W) (c : Nat) (h : Sht.coded c) : One W c := by
  by_cases e : c = 1
  · subst e; exact (pairLt hL 1 2 (by unfold Sht.coded at *; omega) (by unfold Sht.coded at *; omega) (by decide)).1
  · exact (pairLt hL 1 c (by unfold Sht.coded at *; omega) h (by unfold li; unfold Sht.coded at *; split <;> (try split) <;> (try split) <;> (try split) <;> omega)).2.1
theorem apart {W : World} (hL : laidMet Tryz.prog plainL W) (c c' : Nat) (h1 : Sht.coded c) (h2 : Sht.coded c') (hne : c ≠ c') : addrOf W c ≠ addrOf W c' := by
  have hl : li c ≠ li c' := by unfold li; unfold Sht.coded at *; split <;> (try split) <;> (try split) <;> (try split) <;> omega
  rcases Nat.lt_or_gt_of_ne hl with h | h
  · exact (pairLt hL c c' h1 h2 h).2.2
  · exact (pairLt hL c' c h2 h1 h).2.2.symm
theorem errs_of_laid {W : World} (h : laidMetH Tryz.prog Rows.sheetFirstRow.laid W) : Sht.SF W (addrOf W) :=
  have hL := (parts h).1
  ⟨fun c hc => (one hL c hc).v, fun c c' h1 h2 hne => apart hL c c' h1 h2 hne, fun c hc => (one hL c hc).b⟩
theorem texts_of_laid {W : World} (h : laidMetH Tryz.prog Rows.sheetFirstRow.laid W) : ∀ c, Sht.coded c → ∃ s : ByteArray, W.cell? (addrOf W c) = some (.string s) ∧ s.size < 1000 := fun c hc => (one (parts h).1 c hc).s
/-! ### the row -/
set_option maxRecDepth 100000 in
theorem contract (H : Type) (enc : TypeId × Value → H) (W : World) (base : Nat) (args : Array Value) (ds gs : List (DataW H)) (before : List MemPlace)
    (hval : ∀ (j : Nat) t v, Tryz.f5.params[j]? = some t → args[j]? = some v → Value.okWide Tryz.prog W .any base t v)
    (hW : DataW.Whole enc Tryz.prog Tryz.f5.params.toList Rows.sheetFirstSpec.vars false W args.toList ds gs before)
    (hsz0 : (DataW.weightsEach Tryz.prog (Tryz.f5.params.toList ++ Rows.sheetFirstSpec.plain.varTypes Tryz.prog) (ds ++ gs)).all (· ≤ reachBytes) = true) (hL : laidMetH Tryz.prog Rows.sheetFirstRow.laid W) (hsh : W.ShapedOpen Tryz.prog) :
    Calls Tryz.prog 5 args W fun e W' => ∃ v, e = .returned v ∧ Rows.sheetFirstSpec.post enc Tryz.prog Tryz.f5 false true false false W args v W' := by
  have hsz := hsz0
  have hW' := hW
  obtain ⟨p, q, hA0, hV, rfl, hfz, hnd⟩ := hW
  have hA : DataW.TrodAll enc Tryz.prog W 0 (fun _ => true) true Tryz.f5.params.toList args.toList ds p := hA0
  rw [Tryz.params5] at hA hval hsz
  obtain ⟨v0, vs0, d0, ds0, p0, q0, hargs, rfl, rfl, h0, r0⟩ := trodAll_cons hA
  obtain ⟨v1, vs1, d1, ds1, p1, q1, rfl, rfl, rfl, h1, r1⟩ := trodAll_cons r0
  obtain ⟨rfl, rfl, rfl⟩ := trodAll_nil r1
  obtain rfl : args = #[v0, v1] := by cases args; simp_all
  obtain ⟨rfl, rfl⟩ := trodVars_none hV
  have k0 := h0
  have lt0 : ∀ x ∈ p0, x.block < W.heap.size := by obtain ⟨m, hm⟩ := k0; exact DataW.trod_lt m _ _ _ hm
  obtain ⟨a0, rfl, rfl, rfl, y0⟩ := open_string Tryz.underlying9 (hval 0 9 v0 rfl rfl) h0
  have w0 : a0.size ≤ 140737488351232 := by
    have z := sized_string hsz (j := 0) (t := 9) rfl rfl
    rw [Array.length_toList] at z
    exact z
  have k1 := h1
  have lt1 : ∀ x ∈ p1, x.block < W.heap.size := by obtain ⟨m, hm⟩ := k1; exact DataW.trod_lt m _ _ _ hm
  obtain ⟨a1, rfl, rfl, rfl, y1⟩ := open_string Tryz.underlying9 (hval 1 9 v1 rfl rfl) h1
  have w1 : a1.size ≤ 140737488351232 := by
    have z := sized_string hsz (j := 1) (t := 9) rfl rfl
    rw [Array.length_toList] at z
    exact z
  have HS := errs_of_laid hL
  have HE := et_of_laid hL
  obtain ⟨tb, HTb⟩ := Sht.tb_of_shape hsh
  have HM := Sht.ml_of_shape hsh
  refine (Sht.sheetFirst_calls W HS (texts_of_laid hL) HE HM tb HTb a0 a1 (by omega) (by omega)).mono fun e W' ⟨he, bel⟩ => ?_
  subst he
  exact ⟨_, rfl, _, _, _, [], _, [], hW', trodAll_mk1 (shut_bool Tryz.underlying4 _), (trodAll_cons_mk (Below.trod laidOut (by kernel_rfl) (of_decide_eq_true (by kernel_rfl)) k0 bel lt0) (trodAll_cons_mk (Below.trod laidOut (by kernel_rfl) (of_decide_eq_true (by kernel_rfl)) k1 bel lt1) trodAll_mk0)), rfl, bel.frame _, fun h => by cases h⟩
noncomputable def low : Nat := (World.holding Tryz.prog default ⟨#[], #[], []⟩).heap.size
noncomputable def laidWorld (os : Os) : World :=
  let w0 := World.holding Tryz.prog os ⟨#[.cells #[.string ⟨#[97, 32, 113, 117, 111, 116, 101, 100, 32, 99, 101, 108, 108, 32, 105, 115, 32, 110, 111, 116, 32, 99, 108, 111, 115, 101, 100]⟩] 233, .cells #[.string ⟨#[97, 32, 113, 117, 111, 116, 101, 32, 109, 97, 121, 32, 110, 111, 116, 32, 115, 116, 97, 110, 100, 32, 104, 101, 114, 101]⟩] 233, .cells #[.string ⟨#[97, 32, 108, 105, 110, 101, 32, 109, 97, 121, 32, 110, 111, 116, 32, 101, 110, 100, 32, 115, 111]⟩] 233, .cells #[.string ⟨#[116, 104, 105, 115, 32, 98, 121, 116, 101, 32, 109, 97, 121, 32, 110, 111, 116, 32, 115, 116, 97, 110, 100, 32, 104, 101, 114, 101]⟩] 233, .cells #[.string ⟨#[116, 104, 101, 32, 99, 101, 108, 108, 32, 105, 115, 32, 116, 111, 111, 32, 108, 111, 110, 103]⟩] 233, .cells #[.string ⟨#[116, 111, 111, 32, 109, 97, 110, 121, 32, 99, 101, 108, 108, 115]⟩] 233, .cells #[.string ⟨#[116, 111, 111, 32, 109, 97, 110, 121, 32, 114, 111, 119, 115]⟩] 233, .cells #[.string ⟨#[110, 111, 116, 32, 97, 115, 32, 109, 97, 110, 121, 32, 99, 101, 108, 108, 115, 32, 97, 115, 32, 116, 104, 101, 32, 102, 105, 114, 115, 116, 32, 114, 111, 119, 32, 104, 97, 115]⟩] 233, .cells #[.string ⟨#[116, 104, 101, 32, 114, 101, 97, 100, 101, 114, 32, 104, 97, 115, 32, 101, 110, 100, 101, 100]⟩] 233, .cells #[.string ⟨#[116, 104, 101, 32, 116, 101, 120, 116, 32, 105, 115, 32, 116, 111, 111, 32, 108, 111, 110, 103]⟩] 233], #[], []⟩
  let h := w0.heap
  let h := h.modify 2 fun | .cells _ t frozen => .cells #[.iface 215 (.pointer (some ⟨low + 0, 0, none⟩))] t frozen | o => o
  let h := h.modify 6 fun | .cells _ t frozen => .cells #[.iface 215 (.pointer (some ⟨low + 1, 0, none⟩))] t frozen | o => o
  let h := h.modify 1 fun | .cells _ t frozen => .cells #[.iface 215 (.pointer (some ⟨low + 2, 0, none⟩))] t frozen | o => o
  let h := h.modify 7 fun | .cells _ t frozen => .cells #[.iface 215 (.pointer (some ⟨low + 3, 0, none⟩))] t frozen | o => o
  let h := h.modify 8 fun | .cells _ t frozen => .cells #[.iface 215 (.pointer (some ⟨low + 4, 0, none⟩))] t frozen | o => o
  let h := h.modify 9 fun | .cells _ t frozen => .cells #[.iface 215 (.pointer (some ⟨low + 5, 0, none⟩))] t frozen | o => o
  let h := h.modify 10 fun | .cells _ t frozen => .cells #[.iface 215 (.pointer (some ⟨low + 6, 0, none⟩))] t frozen | o => o
  let h := h.modify 3 fun | .cells _ t frozen => .cells #[.iface 215 (.pointer (some ⟨low + 7, 0, none⟩))] t frozen | o => o
  let h := h.modify 4 fun | .cells _ t frozen => .cells #[.iface 215 (.pointer (some ⟨low + 8, 0, none⟩))] t frozen | o => o
  let h := h.modify 0 fun | .cells _ t frozen => .cells #[.iface 215 (.pointer (some ⟨low + 9, 0, none⟩))] t frozen | o => o
  let h := h.modify 5 fun | .cells _ t frozen => .cells #[.iface 152 (.agg #[Sht.hd 41])] t frozen | o => o
  let h := h.modify 24 fun | .cells _ t frozen => .cells #[.int .u8 128, .int .u8 191, .int .u8 160, .int .u8 191, .int .u8 128, .int .u8 159, .int .u8 144, .int .u8 191, .int .u8 128, .int .u8 143, .int .u8 0, .int .u8 0, .int .u8 0, .int .u8 0, .int .u8 0, .int .u8 0, .int .u8 0, .int .u8 0, .int .u8 0, .int .u8 0, .int .u8 0, .int .u8 0, .int .u8 0, .int .u8 0, .int .u8 0, .int .u8 0, .int .u8 0, .int .u8 0, .int .u8 0, .int .u8 0, .int .u8 0, .int .u8 0] t frozen | o => o
  let h := h.modify 23 fun | .cells _ t frozen => .cells ((Go.Pinned.utf8FirstZ.map fun (n : Nat) => Value.int .u8 n).toArray) t frozen | o => o
  { w0 with heap := h }
theorem laid_met (os : Os) : laidMetH Tryz.prog Rows.sheetFirstRow.laid ((laidWorld os).forCall (fun _ _ => 0) ⟨#[], #[.string ByteArray.empty, .string ByteArray.empty], []⟩).memory :=
  laidMetH_of_parts (laidMet_of_run' 8 (by kernel_rfl) (by kernel_rfl)) (by kernel_rfl)
theorem reads (os : Os) {H : Type} (enc : TypeId × Value → H) : ∃ places, DataW.whole enc Tryz.prog ((laidWorld os).forCall (fun _ _ => 0) ⟨#[], #[.string ByteArray.empty, .string ByteArray.empty], []⟩).memory Tryz.f5.params.toList Rows.sheetFirstSpec.vars false (#[.string ByteArray.empty, .string ByteArray.empty] : Array Value).toList 8 = some ([.lit (.string []), .lit (.string [])], [], places) :=
  ⟨[], by kernel_rfl⟩
set_option maxRecDepth 100000 in
theorem lifted (os : Os) (started : os.Started) (H : Type) (enc : TypeId × Value → H) (F : Stop.Interp) :
    ReturnsInHanded {} Tryz.checked os 5 .any ((OpenSpec.ofChange Rows.sheetFirstSpec).preRow enc Tryz.prog Tryz.f5 Rows.sheetFirstRow.domain false Rows.sheetFirstRow.laid) (((OpenSpec.ofChange Rows.sheetFirstSpec).at F).post enc Tryz.prog Tryz.f5 false true false false) := by
  obtain ⟨places, hx⟩ := reads os enc
  refine returnsInHanded_of_row (C := Tryz.checked) (s := OpenSpec.ofChange Rows.sheetFirstSpec) own started (by kernel_rfl) Tryz.func5
    (witness_row_at (enc := enc) (C := Tryz.checked) false (laidWorld os) #[.string ByteArray.empty, .string ByteArray.empty] rfl (by kernel_rfl) (by kernel_rfl) (by kernel_rfl)
      (OpenSpec.preRow_of_cond 8 hx (by kernel_rfl) (fun k hk => by cases hk) (by kernel_rfl) (laid_met os))) ?_
  intro W base args ds gs before hval hW _ hcond hsz hL hsh _
  exact contract H enc W base args ds gs before hval hW hsz hL hsh
theorem said : Rows.SheetFirstSaid :=
  OpenClaim.holds_of_cond 5 Tryz.f5 rfl rfl rfl rfl rfl rfl rfl ⟨rfl, rfl, rfl, rfl, rfl⟩ rfl rfl rfl rfl rfl (by kernel_rfl) Tryz.func5 (by kernel_rfl)
    (of_decide_eq_true (by kernel_rfl)) (by unfold Func.isWrapper; first | (rw [if_pos (by decide +kernel)]; kernel_rfl) | (rw [if_neg (by decide +kernel)]; exact ⟨rfl, rfl⟩))
    (fun os started H enc _ F => by rw [OpenClaim.pre_eq_preRow]; exact lifted os started H enc F)
theorem plain (f : FuncId) (fn : Func) (hf : Tryz.pinned.checked.prog.funcNamed "larder/larderlaw04.SheetFirst" = some f) (hfn : Tryz.pinned.checked.prog.funcs[f]? = some fn) :
    true = Tryz.pinned.checked.prog.looks [] ∧ ∀ (j : Nat) t, fn.params[j]? = some t → Tryz.pinned.checked.prog.wantsStandIn t = false := by
  obtain rfl : f = 5 := Option.some.inj ((show Tryz.prog.funcNamed "larder/larderlaw04.SheetFirst" = some 5 by kernel_rfl).symm.trans hf) |>.symm
  obtain rfl : fn = Tryz.f5 := (Option.some.inj (Tryz.func5.symm.trans hfn)).symm
  refine ⟨by kernel_rfl, fun j t ht => ?_⟩
  rw [Tryz.params5] at ht
  have hm : t ∈ ([9, 9] : List TypeId) := by simpa using Array.mem_of_getElem? ht
  have hall : (([9, 9] : List TypeId).all fun u => !Tryz.prog.wantsStandIn u) = true := by kernel_rfl
  exact (show Tryz.prog.wantsStandIn t = false by simpa using List.all_eq_true.1 hall t hm)
theorem card : Rows.SheetFirstCardSaid :=
  Claim7.holds_tied_plain_at .later [] _ _ _ _ said (fun _ h => by cases h) (by kernel_rfl) (fun _ h => by cases h) sheetFirst_row_tie rfl ⟨rfl, rfl⟩ (by kernel_rfl) rfl plain (by kernel_rfl)
#print axioms card
end Go.Proofs.YtappphffbnkloaaGreatDoor.sheetFirst
namespace Go.Proofs.YtappphffbnkloaaGreatDoor
theorem sheetFirst_holds : Rows.SheetFirstCardSaid := sheetFirst.card
end Go.Proofs.YtappphffbnkloaaGreatDoor

/- The law CalEach, walked: two rounds, in each of them a range over the iterator that Each has handed back. -/
import Derived.Test.YtofafljfabgpmaaDoorCalWalkedX
import Derived.Test.YtofafljfabgpmaaDoorGCxf21
import Derived.Test.YtofafljfabgpmaaDoorGCxf22
set_option linter.unusedVariables false
set_option linter.unusedSimpArgs false
namespace Go.Proofs.YtofafljfabgpmaaDoor.Ext
open Go.RowKit Go.Shelf Go.Proofs.YtofafljfabgpmaaDoorW.PrintWords Go.Proofs.YtofafljfabgpmaaDoor.PCal Go.Proofs.YtofafljfabgpmaaDoor.CalP Go.Proofs.YtofafljfabgpmaaDoor.GC
attribute [local go_sem] Oper.semAt_some

abbrev colD (D : Nat) : Deferred := { target := .collected D, args := #[] }
def DsOk (n₀ : Nat) (Dl : List Nat) (W : World) : Prop := Dl.Nodup ∧ ∀ D ∈ Dl, n₀ ≤ D ∧ W.heap[D]? = some (.deferred (some []))
/-- the law's own boxes: the two dates; how many are wanted -/
structure CB (W : World) (b : Nat) (y m d y' m' d' n : Int) : Prop where
  ha : W.heap[b]? = some (.cells #[.int .i64 y, .int .i64 m, .int .i64 d] 23 (0, 0))
  hb : W.heap[b + 1]? = some (.cells #[.int .i64 y', .int .i64 m', .int .i64 d'] 23 (0, 0))
  hc : W.heap[b + 2]? = some (.cells #[.int .i64 n] 3 (0, 0))
theorem CB.lt {W : World} {b : Nat} {y m d y' m' d' s : Int} (h : CB W b y m d y' m' d' s) : b + 2 < W.heap.size := (Array.getElem?_eq_some_iff.1 h.hc).1
theorem CB.below {W W' : World} {b : Nat} {y m d y' m' d' s : Int} (h : CB W b y m d y' m' d' s) (k : Below W.heap.size W W') : CB W' b y m d y' m' d' s :=
  ⟨(k.block b (by have := h.lt; omega)).trans h.ha, (k.block (b + 1) (by have := h.lt; omega)).trans h.hb, (k.block (b + 2) (by have := h.lt; omega)).trans h.hc⟩
theorem cb_cells {W : World} {b : Nat} {y m d y' m' d' s : Int} (h : CB W b y m d y' m' d' s) : (W.cell? ⟨b, 0, none⟩ = some (.int .i64 y) ∧ W.cell? ⟨b, 1, none⟩ = some (.int .i64 m) ∧ W.cell? ⟨b, 2, none⟩ = some (.int .i64 d)) ∧ (W.cell? ⟨b + 1, 0, none⟩ = some (.int .i64 y') ∧ W.cell? ⟨b + 1, 1, none⟩ = some (.int .i64 m') ∧ W.cell? ⟨b + 1, 2, none⟩ = some (.int .i64 d')) ∧ W.cell? ⟨b + 2, 0, none⟩ = some (.int .i64 s) :=
  ⟨⟨(blk_cell h.ha 0).trans rfl, (blk_cell h.ha 1).trans rfl, (blk_cell h.ha 2).trans rfl⟩, ⟨(blk_cell h.hb 0).trans rfl, (blk_cell h.hb 1).trans rfl, (blk_cell h.hb 2).trans rfl⟩, (blk_cell h.hc 0).trans rfl⟩
theorem leaves_all {F : Fence} {n : Nat} {P : Program} {fn : Func} {tmps : Array Value} {r : Value} {w : World} (hr : fn.results = #[.tmp 8]) (ht : tmps.getD 8 undef = r) :
    ∀ (Dl : List Nat) (W : World), DsOk w.heap.size Dl W → Below w.heap.size w W → LeavesInM F n P fn tmps (fun e w' => e = .returned r ∧ Below w.heap.size w w') (Dl.map colD) .returning W := by
  intro Dl
  induction Dl with
  | nil =>
    intro W _ hB
    exact ⟨_, results_tmp hr _ _ _, by rw [ht], hB⟩
  | cons D Dl ih =>
    intro W h hB
    obtain ⟨h1, h2⟩ := h
    have hK := (h2 D (by simp)).2
    refine ⟨by simp, .inl ⟨_, _, rfl, run_takeDeferred hK, ?_⟩⟩
    refine ih _ ⟨(List.nodup_cons.1 h1).2, fun D' hD' => ⟨(h2 D' (by simp [hD'])).1, ?_⟩⟩ (hB.trans (belowK_b (w := w) (Nat.le_refl _) W D _ _ (h2 D (by simp)).1 hK rfl rfl))
    rw [World.putObj_heap_other (by rintro rfl; exact (List.nodup_cons.1 h1).1 hD')]
    exact (h2 D' (by simp [hD'])).2
theorem DsOk.next {n₀ D : Nat} {Dl : List Nat} {W V V' : World} (h : DsOk n₀ Dl W) (hV : Below W.heap.size W V) (hV' : Below V.heap.size V V') (hD : W.heap.size ≤ D) (hn : n₀ ≤ W.heap.size) (hK : V.heap[D]? = some (.deferred (some []))) : DsOk n₀ (D :: Dl) V' := by
  have hlt : ∀ D' ∈ Dl, D' < W.heap.size := fun D' h' => (Array.getElem?_eq_some_iff.1 (h.2 D' h').2).1
  refine ⟨List.nodup_cons.2 ⟨fun hm => by have := hlt D hm; omega, h.1⟩, fun D' h' => ?_⟩
  rcases List.mem_cons.1 h' with rfl | h'
  · exact ⟨by omega, (hV'.block _ (Array.getElem?_eq_some_iff.1 hK).1).trans hK⟩
  · have := hlt D' h'
    exact ⟨(h.2 D' h').1, (hV'.block _ (by have := hV.size; omega)).trans ((hV.block _ this).trans (h.2 D' h').2)⟩
theorem dates_in (n k : Nat) {W : World} {v0 v1 : Value} {b0 b1 : Nat} {R : List S23} (h0 : Kd.R k23 23 W b0 (fun _ => True) v0 R) (h1 : Kd.R k23 23 W b1 (fun _ => True) v1 R) (hd : larderlaw03_dates.f k R R = some true) :
    CallsIn Fence.wide n Tryd.prog 22 #[v0, v1] W fun e w' => e = .returned (.bool true) ∧ Below W.heap.size W w' := by
  obtain ⟨A0, c0, rfl⟩ := Kd.R_slice h0
  obtain ⟨A1, c1, rfl⟩ := Kd.R_slice h1
  obtain ⟨-, a2, a3⟩ := Kd.R_reads' h0
  obtain ⟨-, a5, a6⟩ := Kd.R_reads' h1
  refine callsIn_wide.2 ((larderlaw03_dates.calls k A0 c0 R A1 c1 R true W a3 a2 a6 a5 hd).mono ?_)
  rintro e w' ⟨rfl, ⟨nd, rfl⟩⟩
  exact ⟨rfl, pw_below_drewN (Below.refl _ _) _⟩
def muE (a : Act) (_ : World) : Nat := match a.tmps.getD 13 undef with
  | Value.int _ x => (2 - x).toNat
  | _ => 0
def LS (w : World) (b : Nat) (y m d y' m' d' s most n : Int) (a : Act) (W : World) : Prop := ∃ (t : Nat), t ≤ 2 ∧ ∃ (g6 g7 g10 g11 g14 g15 g16 g17 g18 g19 g20 g21 g22 g23 g24 g25 g26 g27 g28 g29 g30 g31 g32 g33 g34 g35 g36 g37 g38 g39 g40 g41 g42 g43 g44 g45 g46 g47 g48 g49 g50 g51 g52 g53 g54 g55 g56 g57 g58 g59 g60 g61 g62 g63 g64 g65 g66 : Value), ∃ Dl : List Nat, a = { defers := Dl.map colD, tmps := #[VD (y, m, d), VD (y', m', d'), .int .i64 s, .int .i64 most, .pointer (some ⟨w.heap.size, 0, none⟩), .pointer (some ⟨w.heap.size + 1, 0, none⟩), g6, g7, .bool false, .pointer (some ⟨w.heap.size + 1 + 1, 0, none⟩), g10, g11, .func (.func 39) #[] #[.pointer (some ⟨b, 0, none⟩), .pointer (some ⟨b + 1, 0, none⟩), .pointer (some ⟨b + 2, 0, none⟩)], .int .i64 (t : Int), g14, g15, g16, g17, g18, g19, g20, g21, g22, g23, g24, g25, g26, g27, g28, g29, g30, g31, g32, g33, g34, g35, g36, g37, g38, g39, g40, g41, g42, g43, g44, g45, g46, g47, g48, g49, g50, g51, g52, g53, g54, g55, g56, g57, g58, g59, g60, g61, g62, g63, g64, g65, g66] } ∧ DsOk w.heap.size Dl W ∧ Below w.heap.size w W ∧ CB W w.heap.size y m d y' m' d' n ∧ EB W b y m d y' m' d' s
set_option maxRecDepth 100000 in
set_option maxHeartbeats 4000000 in
theorem each_pos (k : Nat) (y m d y' m' d' s most n : Int) (w : World) (hG : GlobOk w) (hn : Int.tmod most 1000 = n) (hn0 : 0 ≤ n) (hn1 : n < 1000)
    (R0 : List S23) (hR0 : larderlaw03_walked.f y m d y' m' d' s n = some R0) (hL0 : larderref03_List.f k y m d y' m' d' s n = some R0) (hL1 : larderref03_List.f k y m d y' m' d' s (n + 1) = some (((eachL y m d y' m' d' s).take (n + 1).toNat).map dS))
    (hd0 : larderlaw03_dates.f k R0 R0 = some true) (hd1 : larderlaw03_dates.f k (((eachL y m d y' m' d' s).take (n + 1).toNat).map dS) (((eachL y m d y' m' d' s).take (n + 1).toNat).map dS) = some true) :
    CallsIn Fence.wide 6 Tryd.prog 5 #[VD (y, m, d), VD (y', m', d'), .int .i64 s, .int .i64 most] w fun e w' => e = .returned (.bool true) ∧ Below w.heap.size w w' := by
  refine callsIn_of_wp_marks Tryd.func5 rfl trivial ?_ rfl
  have hq := fun (g : Fn) (a b : Array Value) (W : World) => run_eql_func_nil (P := Tryd.prog) W (g := g) (a := a) (b := b) seq_func
  have HG := Lib.hid hG
  clear hG
  have HW := Lib.hid (fun W (h : Below w.heap.size w W) => callsIn_wide (n := 6 - 1).2 (larderlaw03_walked.calls y m d y' m' d' s n R0 W (GlobOk.below HG.out h) hR0))
  have HL := Lib.hid (fun W => callsIn_wide (n := 6 - 1).2 (larderref03_List.calls k y m d y' m' d' s n R0 W hL0))
  have HL1 := Lib.hid (fun W => callsIn_wide (n := 6 - 1).2 (larderref03_List.calls k y m d y' m' d' s (n + 1) _ W hL1))
  simp only [Tryd.ntmps5, List.size_toArray, List.length_cons, List.length_nil, Nat.reduceAdd, Nat.reduceSub, Array.replicate_succ, Array.replicate_zero, List.push_toArray, List.append_toArray, List.nil_append, List.cons_append]
  have hE0 : CB (((w.alloc (.cells #[.int .i64 y, .int .i64 m, .int .i64 d] 23)).alloc (.cells #[.int .i64 y', .int .i64 m', .int .i64 d'] 23)).alloc (.cells #[.int .i64 n] 3)) w.heap.size y m d y' m' d' n := by
    have h := eb_new w y m d y' m' d' n
    exact ⟨h.ha, h.hb, h.hc⟩
  have hB0 : Below w.heap.size w (((w.alloc (.cells #[.int .i64 y, .int .i64 m, .int .i64 d] 23)).alloc (.cells #[.int .i64 y', .int .i64 m', .int .i64 d'] 23)).alloc (.cells #[.int .i64 n] 3)) := below_alloc (below_alloc (below_alloc (Below.refl _ _) _) _) _
  have HE0 := Lib.hid hE0
  have HB0 := Lib.hid hB0
  clear hE0 hB0
  gi_wp2_with (first
    | (refine ⟨trivial, ?_⟩; gi_at_call 20; (with_reducible refine (HW.out _ HB0.out).mono ?_); rintro e w1 ⟨v0, rfl, ho0, hb1⟩; have HB1 := Lib.hid (below_step HB0.out hb1); have HE1 := Lib.hid (HE0.out.below hb1); have HO0 := Lib.hid ho0; clear ho0 hb1; obtain ⟨⟨c0, c1, c2⟩, ⟨c3, c4, c5⟩, c6⟩ := cb_cells HE1.out)
    | (refine ⟨trivial, ?_⟩; gi_at_call 21; (with_reducible refine (HL.out _).mono ?_); rintro e w2 ⟨v1, rfl, ho1, hb2⟩; have HB2 := Lib.hid (below_step HB1.out hb2); have HE2 := Lib.hid (HE1.out.below hb2); have HO0b := Lib.hid (Kd.R_below HO0.out hb2); have HO1 := Lib.hid ho1; clear ho1 hb2; obtain ⟨⟨c0, c1, c2⟩, ⟨c3, c4, c5⟩, c6⟩ := cb_cells HE2.out)
    | (refine ⟨trivial, ?_⟩; gi_at_call 22; refine (dates_in 5 k HO0b.out HO1.out hd0).mono ?_; rintro e w3 ⟨rfl, hb3⟩; have HB3 := Lib.hid (below_step HB2.out hb3); have HE3 := Lib.hid (HE2.out.below hb3); clear hb3; obtain ⟨⟨c0, c1, c2⟩, ⟨c3, c4, c5⟩, c6⟩ := cb_cells HE3.out)
    | (refine ⟨trivial, ?_⟩; gi_at_call 23; refine (each_mk _ _ _ _ _ _ _ _ _).mono ?_; rintro e w4 ⟨rfl, rfl⟩))
  refine wpIn_loop (LS w w3.heap.size y m d y' m' d' s most n) muE ?h0 ?round
  case h0 =>
    have hE3 := eb_new w3 y m d y' m' d' s
    have hb4 : Below w3.heap.size w3 (((w3.alloc (.cells #[.int .i64 y, .int .i64 m, .int .i64 d] 23)).alloc (.cells #[.int .i64 y', .int .i64 m', .int .i64 d'] 23)).alloc (.cells #[.int .i64 s] 3)) := below_alloc (below_alloc (below_alloc (Below.refl _ _) _) _) _
    exact ⟨0, by omega, _, _, _, _, _, _, _, _, _, _, _, _, _, _, _, _, _, _, _, _, _, _, _, _, _, _, _, _, _, _, _, _, _, _, _, _, _, _, _, _, _, _, _, _, _, _, _, _, _, _, _, _, _, _, _, _, _, [], rfl, ⟨List.nodup_nil, fun _ h => (by cases h)⟩, below_step HB3.out hb4, HE3.out.below hb4, hE3⟩
  case round =>
    clear c0 c1 c2 c3 c4 c5 c6
    rintro a W ⟨t, ht, g6, g7, g10, g11, g14, g15, g16, g17, g18, g19, g20, g21, g22, g23, g24, g25, g26, g27, g28, g29, g30, g31, g32, g33, g34, g35, g36, g37, g38, g39, g40, g41, g42, g43, g44, g45, g46, g47, g48, g49, g50, g51, g52, g53, g54, g55, g56, g57, g58, g59, g60, g61, g62, g63, g64, g65, g66, Dl, rfl, hDs, hB, hC, hE⟩
    rcases (show t = 2 ∨ t < 2 by omega) with rfl | ht2
    · gi_wp2
      exact leaves_all rfl rfl Dl W hDs hB
    · have htd : decide ((t : Int) < 2) = true := decide_eq_true (by omega)
      gi_wp2
      have hG2 : GlobOk W := GlobOk.below HG.out hB
      have hel := hE.lt
      have hcl := hC.lt
      have hlen := eachL_len y m d y' m' d' s
      have hwW := hB.size
      have hB1 : Below W.heap.size W (W.alloc (.cells #[.slice none 0 0] 33)) := below_alloc (Below.refl _ _) _
      have bL := Boxed.new W 33 (.slice none 0 0)
      obtain ⟨W1, hW1⟩ : ∃ W1, W.alloc (.cells #[.slice none 0 0] 33) = W1 := ⟨_, rfl⟩
      have hs1 : W1.heap.size = W.heap.size + 1 := by rw [← hW1]; simp
      rw [hW1] at hB1 bL ⊢
      clear hW1
      obtain ⟨i0, hi, hz0, hz1, hz2⟩ := info_parts info23
      refine wpIn_rangeFunc_ownH rfl (by omega) (gf := 39) (lb := #[.pointer (some ⟨w3.heap.size, 0, none⟩), .pointer (some ⟨w3.heap.size + 1, 0, none⟩), .pointer (some ⟨w3.heap.size + 2, 0, none⟩)]) rfl trivial (enters_of Tryd.func39 (by kernel_rfl) rfl)
        (each_stops (6 - 1) w3.heap.size (by omega) W hG2 y m d y' m' d' s W1 (hE.below hB1) hB1) kpE_t (kpE_b (by omega) (by omega)) (Below.refl _ _) (fun _ => rfl)
        (fun pre V => (∃ v, Boxed V W.heap.size 33 v ∧ V.ownsRow W.heap.size 23 3 v pre.length (dcells pre) ∧ True) ∧ Below W.heap.size W V ∧ (pre.length : Int) ≤ n)
        (fun c pre V => c = .exit 2 ∧ (∃ v, Boxed V W.heap.size 33 v ∧ V.ownsRow W.heap.size 23 3 v pre.length (dcells pre) ∧ True) ∧ Below W.heap.size W V ∧ (pre.length : Int) = n + 1)
        ?hI ?hIx ?h0
        (fun x a' V => ∃ Bx, V.heap[Bx]? = some (.cells #[.int .i64 (dt x).1, .int .i64 (dt x).2.1, .int .i64 (dt x).2.2] 23 (0, 0)) ∧ ∃ (g0 g1 g2 g3 g4 g5 g6 g7 g8 g10 g11 g12 g13 g16 g17 g18 g19 g20 g21 g22 g23 g24 g25 g26 g27 g28 g29 g30 g31 g32 g33 g34 g35 g36 g37 g38 g39 g40 g41 g42 g43 g44 g45 g46 g47 g48 g49 g50 g51 g52 g53 g54 g55 g56 g57 g58 g59 g60 g61 g62 g63 g64 g65 g66 : Value), a' = { defers := [], tmps := #[g0, g1, g2, g3, g4, g5, g6, g7, g8, .pointer (some ⟨w.heap.size + 1 + 1, 0, none⟩), g10, g11, g12, g13, .pointer (some ⟨W.heap.size, 0, none⟩), .pointer (some ⟨Bx, 0, none⟩), g16, g17, g18, g19, g20, g21, g22, g23, g24, g25, g26, g27, g28, g29, g30, g31, g32, g33, g34, g35, g36, g37, g38, g39, g40, g41, g42, g43, g44, g45, g46, g47, g48, g49, g50, g51, g52, g53, g54, g55, g56, g57, g58, g59, g60, g61, g62, g63, g64, g65, g66] })
        (fun x a' _ X Y row hs hg hr => by obtain ⟨Bx, h1, h2⟩ := hs; exact ⟨Bx, cells_own Bx _ _ () X Y row h1 hg (fun r e => (hr r e).2), h2⟩)
        ?assign ?body ?done ?stop
      case hI =>
        exact OwnFrom.and (Own.from (holdsRow_own _ _ _ _ _ (fun pre : List Int => pre.length) dcells (fun _ _ => True)) _) (OwnFrom.and (ownFrom_below (by omega) (by omega)) (ownFrom_pure _ (fun pre : List Int => (pre.length : Int) ≤ n)))
      case hIx =>
        intro c
        exact OwnFrom.and (ownFrom_pure _ (fun _ : List Int => c = .exit 2)) (OwnFrom.and (Own.from (holdsRow_own _ _ _ _ _ (fun pre : List Int => pre.length) dcells (fun _ _ => True)) _) (OwnFrom.and (ownFrom_below (by omega) (by omega)) (ownFrom_pure _ (fun pre : List Int => (pre.length : Int) = n + 1))))
      case h0 =>
        exact ⟨⟨_, bL, World.ownsRow_nil _ _ _ _, trivial⟩, hB1, by simp; omega⟩
      case assign =>
        rintro l pre x V K ⟨⟨v, hv, hrow, -⟩, hB2, hlt⟩ hK
        have hsV := hB2.size
        gi_wp2
        refine hK _ _ ((KeepsOthers.alloc _ _).from _) (kpE_alloc (by omega) (by omega) _) ⟨⟨v, hv.alloc _, hrow.alloc _, trivial⟩, below_alloc hB2 _, hlt⟩ ⟨V.heap.size, World.alloc_heap_new _ _, _, _, _, _, _, _, _, _, _, _, _, _, _, _, _, _, _, _, _, _, _, _, _, _, _, _, _, _, _, _, _, _, _, _, _, _, _, _, _, _, _, _, _, _, _, _, _, _, _, _, _, _, _, _, _, _, _, _, _, _, _, _, _, _, rfl⟩
      case body =>
        rintro l pre x a' V - - ⟨⟨v, hv, hrow, -⟩, hB2, hlt⟩ ⟨Bx, hBx, g0, g1, g2, g3, g4, g5, g6, g7, g8, g10, g11, g12, g13, g16, g17, g18, g19, g20, g21, g22, g23, g24, g25, g26, g27, g28, g29, g30, g31, g32, g33, g34, g35, g36, g37, g38, g39, g40, g41, g42, g43, g44, g45, g46, g47, g48, g49, g50, g51, g52, g53, g54, g55, g56, g57, g58, g59, g60, g61, g62, g63, g64, g65, g66, rfl⟩ hlN
        have hsV := hB2.size
        have hc := hv.cell
        have hbx0 : V.cell? ⟨Bx, 0, none⟩ = some (.int .i64 (dt x).1) := by simp [cell_of_row _ _ _ _ _ _ hBx]
        have hbx1 : V.cell? ⟨Bx, 1, none⟩ = some (.int .i64 (dt x).2.1) := by simp [cell_of_row _ _ _ _ _ _ hBx]
        have hbx2 : V.cell? ⟨Bx, 2, none⟩ = some (.int .i64 (dt x).2.2) := by simp [cell_of_row _ _ _ _ _ _ hBx]
        have hnc : V.cell? ⟨w.heap.size + 2, 0, none⟩ = some (.int .i64 n) := (cb_cells (hC.below hB2)).2.2
        have h1c : ∀ u ∈ ([.int .i64 (dt x).1, .int .i64 (dt x).2.1, .int .i64 (dt x).2.2] : List Value), u.oneCell' = true := by intro u hu; simp at hu; rcases hu with rfl | rfl | rfl <;> rfl
        gi_wp2_with (gi_at_builtin; refine wpListIn_append_own _ rfl _ _ 33 rfl W.heap.size 23 i0 _ 3 24 Tryd.underlying33 hi hz0 hz1 hz2 rfl (by decide) _ _ _ rfl (hrow.alloc _) ⟨V.heap.size, 0, none⟩ 1 1 [.int .i64 (dt x).1, .int .i64 (dt x).2.1, .int .i64 (dt x).2.2] rfl rfl (World.news_of_block (World.alloc_heap_new _ _)) h1c (by simp only [maxLen]; omega) (by omega) (by simp; omega) ?_; intro v' w1 hown' hgrow _; obtain ⟨g', cap', rfl⟩ := ownsRow_succ hown'; obtain ⟨hv1, hv2, hr2, hk2, hb2⟩ := hv.appended (by decide) hrow hsV (Nat.le_refl _) hown' hgrow; have hc1 := hv1.cell; have hf1 := hv1.frozen; have hnc2 := (hb2.cell (p := ⟨w.heap.size + 2, 0, none⟩) hcl).trans hnc)
        · rename_i hge
          exact ⟨hk2.from _, rfl, ⟨_, hv2, by rw [dcells_snoc]; simpa using hr2, trivial⟩, hB2.trans hb2, by simp; omega⟩
        · rename_i hle
          exact ⟨hk2.from _, ⟨hb2, hk2.size, fun j a c => hb2.block j (by omega)⟩, ⟨_, hv2, by rw [dcells_snoc]; simpa using hr2, trivial⟩, hB2.trans hb2, by simp; omega⟩
      case done =>
        rintro D ys V hD rfl ⟨⟨v, hv, hrow, -⟩, hB2, hlt⟩ hK
        have hR : Kd.R k23 23 V W.heap.size (fun _ => True) v (((eachL y m d y' m' d' s).take (n + 1).toNat).map dS) := by
          rw [List.take_of_length_le (by omega)]
          exact R_of_row hrow (Nat.le_refl _)
        have hvlt : W.heap.size < V.heap.size := (Array.getElem?_eq_some_iff.1 (show V.heap[W.heap.size]? = _ from hv)).1
        have hvc := hv.cell
        have HR := Lib.hid hR
        have HBV := Lib.hid hB2
        have HCV := Lib.hid (hC.below hB2)
        have HEV := Lib.hid (hE.below hB2)
        clear hR
        obtain ⟨⟨c0, c1, c2⟩, ⟨c3, c4, c5⟩, c6⟩ := cb_cells HCV.out
        gi_wp2_with (first
          | (refine ⟨trivial, ?_⟩; gi_at_call 21; (with_reducible refine (HL1.out _).mono ?_); rintro e w5 ⟨v1, rfl, ho1, hb5⟩; have hc5 := (hb5.cell (p := ⟨W.heap.size, 0, none⟩) hvlt).trans hvc; have HB5 := Lib.hid hb5; have HO5 := Lib.hid ho1; clear hb5 ho1 c0 c1 c2 c3 c4 c5 c6)
          | (refine ⟨trivial, ?_⟩; gi_at_call 22; refine (dates_in 5 k (Kd.R_below HR.out HB5.out) HO5.out hd1).mono ?_; rintro e w6 ⟨rfl, hb6⟩; have HB6 := Lib.hid (below_step HB5.out hb6); clear hb6))
        refine ⟨⟨t + 1, by omega, _, _, _, _, _, _, _, _, _, _, _, _, _, _, _, _, _, _, _, _, _, _, _, _, _, _, _, _, _, _, _, _, _, _, _, _, _, _, _, _, _, _, _, _, _, _, _, _, _, _, _, _, _, _, _, _, _, D :: Dl, rfl, DsOk.next hDs HBV.out HB6.out (by omega) hwW hK, ?_, HCV.out.below HB6.out, HEV.out.below HB6.out⟩, ?_⟩
        · exact below_step (below_step hB HBV.out) HB6.out
        · simp [muE]
          omega
      case stop =>
        rintro D c pre V hD ⟨hpre, -⟩ ⟨rfl, ⟨v, hv, hrow, -⟩, hB2, hlt⟩ hK
        have hR : Kd.R k23 23 V W.heap.size (fun _ => True) v (((eachL y m d y' m' d' s).take (n + 1).toNat).map dS) := by
          rw [show (eachL y m d y' m' d' s).take (n + 1).toNat = pre by rw [show (n + 1).toNat = pre.length by omega]; exact (List.prefix_iff_eq_take.1 hpre).symm]
          exact R_of_row hrow (Nat.le_refl _)
        have hvlt : W.heap.size < V.heap.size := (Array.getElem?_eq_some_iff.1 (show V.heap[W.heap.size]? = _ from hv)).1
        have hvc := hv.cell
        have HR := Lib.hid hR
        have HBV := Lib.hid hB2
        have HCV := Lib.hid (hC.below hB2)
        have HEV := Lib.hid (hE.below hB2)
        clear hR
        obtain ⟨⟨c0, c1, c2⟩, ⟨c3, c4, c5⟩, c6⟩ := cb_cells HCV.out
        gi_wp2_with (first
          | (refine ⟨trivial, ?_⟩; gi_at_call 21; (with_reducible refine (HL1.out _).mono ?_); rintro e w5 ⟨v1, rfl, ho1, hb5⟩; have hc5 := (hb5.cell (p := ⟨W.heap.size, 0, none⟩) hvlt).trans hvc; have HB5 := Lib.hid hb5; have HO5 := Lib.hid ho1; clear hb5 ho1 c0 c1 c2 c3 c4 c5 c6)
          | (refine ⟨trivial, ?_⟩; gi_at_call 22; refine (dates_in 5 k (Kd.R_below HR.out HB5.out) HO5.out hd1).mono ?_; rintro e w6 ⟨rfl, hb6⟩; have HB6 := Lib.hid (below_step HB5.out hb6); clear hb6))
        refine ⟨⟨t + 1, by omega, _, _, _, _, _, _, _, _, _, _, _, _, _, _, _, _, _, _, _, _, _, _, _, _, _, _, _, _, _, _, _, _, _, _, _, _, _, _, _, _, _, _, _, _, _, _, _, _, _, _, _, _, _, _, _, _, _, D :: Dl, rfl, DsOk.next hDs HBV.out HB6.out (by omega) hwW hK, ?_, HCV.out.below HB6.out, HEV.out.below HB6.out⟩, ?_⟩
        · exact below_step (below_step hB HBV.out) HB6.out
        · simp [muE]
          omega
set_option maxRecDepth 100000 in
set_option maxHeartbeats 4000000 in
theorem each_neg (k : Nat) (y m d y' m' d' s most n r : Int) (w : World) (hG : GlobOk w) (hn : Int.tmod most 1000 = r) (hr0 : r < 0) (hnr : -r = n) (hn1 : n < 1000)
    (R0 : List S23) (hR0 : larderlaw03_walked.f y m d y' m' d' s n = some R0) (hL0 : larderref03_List.f k y m d y' m' d' s n = some R0) (hL1 : larderref03_List.f k y m d y' m' d' s (n + 1) = some (((eachL y m d y' m' d' s).take (n + 1).toNat).map dS))
    (hd0 : larderlaw03_dates.f k R0 R0 = some true) (hd1 : larderlaw03_dates.f k (((eachL y m d y' m' d' s).take (n + 1).toNat).map dS) (((eachL y m d y' m' d' s).take (n + 1).toNat).map dS) = some true) :
    CallsIn Fence.wide 6 Tryd.prog 5 #[VD (y, m, d), VD (y', m', d'), .int .i64 s, .int .i64 most] w fun e w' => e = .returned (.bool true) ∧ Below w.heap.size w w' := by
  refine callsIn_of_wp_marks Tryd.func5 rfl trivial ?_ rfl
  have hq := fun (g : Fn) (a b : Array Value) (W : World) => run_eql_func_nil (P := Tryd.prog) W (g := g) (a := a) (b := b) seq_func
  have HG := Lib.hid hG
  clear hG
  have HW := Lib.hid (fun W (h : Below w.heap.size w W) => callsIn_wide (n := 6 - 1).2 (larderlaw03_walked.calls y m d y' m' d' s n R0 W (GlobOk.below HG.out h) hR0))
  have HL := Lib.hid (fun W => callsIn_wide (n := 6 - 1).2 (larderref03_List.calls k y m d y' m' d' s n R0 W hL0))
  have HL1 := Lib.hid (fun W => callsIn_wide (n := 6 - 1).2 (larderref03_List.calls k y m d y' m' d' s (n + 1) _ W hL1))
  simp only [Tryd.ntmps5, List.size_toArray, List.length_cons, List.length_nil, Nat.reduceAdd, Nat.reduceSub, Array.replicate_succ, Array.replicate_zero, List.push_toArray, List.append_toArray, List.nil_append, List.cons_append]
  have hE0 : CB (((w.alloc (.cells #[.int .i64 y, .int .i64 m, .int .i64 d] 23)).alloc (.cells #[.int .i64 y', .int .i64 m', .int .i64 d'] 23)).alloc (.cells #[.int .i64 n] 3)) w.heap.size y m d y' m' d' n := by
    have h := eb_new w y m d y' m' d' n
    exact ⟨h.ha, h.hb, h.hc⟩
  have hB0 : Below w.heap.size w (((w.alloc (.cells #[.int .i64 y, .int .i64 m, .int .i64 d] 23)).alloc (.cells #[.int .i64 y', .int .i64 m', .int .i64 d'] 23)).alloc (.cells #[.int .i64 n] 3)) := below_alloc (below_alloc (below_alloc (Below.refl _ _) _) _) _
  have HE0 := Lib.hid hE0
  have HB0 := Lib.hid hB0
  clear hE0 hB0
  gi_wp2_with (first
    | (refine ⟨trivial, ?_⟩; gi_at_call 20; (with_reducible refine (HW.out _ HB0.out).mono ?_); rintro e w1 ⟨v0, rfl, ho0, hb1⟩; have HB1 := Lib.hid (below_step HB0.out hb1); have HE1 := Lib.hid (HE0.out.below hb1); have HO0 := Lib.hid ho0; clear ho0 hb1; obtain ⟨⟨c0, c1, c2⟩, ⟨c3, c4, c5⟩, c6⟩ := cb_cells HE1.out)
    | (refine ⟨trivial, ?_⟩; gi_at_call 21; (with_reducible refine (HL.out _).mono ?_); rintro e w2 ⟨v1, rfl, ho1, hb2⟩; have HB2 := Lib.hid (below_step HB1.out hb2); have HE2 := Lib.hid (HE1.out.below hb2); have HO0b := Lib.hid (Kd.R_below HO0.out hb2); have HO1 := Lib.hid ho1; clear ho1 hb2; obtain ⟨⟨c0, c1, c2⟩, ⟨c3, c4, c5⟩, c6⟩ := cb_cells HE2.out)
    | (refine ⟨trivial, ?_⟩; gi_at_call 22; refine (dates_in 5 k HO0b.out HO1.out hd0).mono ?_; rintro e w3 ⟨rfl, hb3⟩; have HB3 := Lib.hid (below_step HB2.out hb3); have HE3 := Lib.hid (HE2.out.below hb3); clear hb3; obtain ⟨⟨c0, c1, c2⟩, ⟨c3, c4, c5⟩, c6⟩ := cb_cells HE3.out)
    | (refine ⟨trivial, ?_⟩; gi_at_call 23; refine (each_mk _ _ _ _ _ _ _ _ _).mono ?_; rintro e w4 ⟨rfl, rfl⟩))
  refine wpIn_loop (LS w w3.heap.size y m d y' m' d' s most n) muE ?h0 ?round
  case h0 =>
    have hE3 := eb_new w3 y m d y' m' d' s
    have hb4 : Below w3.heap.size w3 (((w3.alloc (.cells #[.int .i64 y, .int .i64 m, .int .i64 d] 23)).alloc (.cells #[.int .i64 y', .int .i64 m', .int .i64 d'] 23)).alloc (.cells #[.int .i64 s] 3)) := below_alloc (below_alloc (below_alloc (Below.refl _ _) _) _) _
    exact ⟨0, by omega, _, _, _, _, _, _, _, _, _, _, _, _, _, _, _, _, _, _, _, _, _, _, _, _, _, _, _, _, _, _, _, _, _, _, _, _, _, _, _, _, _, _, _, _, _, _, _, _, _, _, _, _, _, _, _, _, _, [], rfl, ⟨List.nodup_nil, fun _ h => (by cases h)⟩, below_step HB3.out hb4, HE3.out.below hb4, hE3⟩
  case round =>
    clear c0 c1 c2 c3 c4 c5 c6
    rintro a W ⟨t, ht, g6, g7, g10, g11, g14, g15, g16, g17, g18, g19, g20, g21, g22, g23, g24, g25, g26, g27, g28, g29, g30, g31, g32, g33, g34, g35, g36, g37, g38, g39, g40, g41, g42, g43, g44, g45, g46, g47, g48, g49, g50, g51, g52, g53, g54, g55, g56, g57, g58, g59, g60, g61, g62, g63, g64, g65, g66, Dl, rfl, hDs, hB, hC, hE⟩
    rcases (show t = 2 ∨ t < 2 by omega) with rfl | ht2
    · gi_wp2
      exact leaves_all rfl rfl Dl W hDs hB
    · have htd : decide ((t : Int) < 2) = true := decide_eq_true (by omega)
      gi_wp2
      have hG2 : GlobOk W := GlobOk.below HG.out hB
      have hel := hE.lt
      have hcl := hC.lt
      have hlen := eachL_len y m d y' m' d' s
      have hwW := hB.size
      have hB1 : Below W.heap.size W (W.alloc (.cells #[.slice none 0 0] 33)) := below_alloc (Below.refl _ _) _
      have bL := Boxed.new W 33 (.slice none 0 0)
      obtain ⟨W1, hW1⟩ : ∃ W1, W.alloc (.cells #[.slice none 0 0] 33) = W1 := ⟨_, rfl⟩
      have hs1 : W1.heap.size = W.heap.size + 1 := by rw [← hW1]; simp
      rw [hW1] at hB1 bL ⊢
      clear hW1
      obtain ⟨i0, hi, hz0, hz1, hz2⟩ := info_parts info23
      refine wpIn_rangeFunc_ownH rfl (by omega) (gf := 39) (lb := #[.pointer (some ⟨w3.heap.size, 0, none⟩), .pointer (some ⟨w3.heap.size + 1, 0, none⟩), .pointer (some ⟨w3.heap.size + 2, 0, none⟩)]) rfl trivial (enters_of Tryd.func39 (by kernel_rfl) rfl)
        (each_stops (6 - 1) w3.heap.size (by omega) W hG2 y m d y' m' d' s W1 (hE.below hB1) hB1) kpE_t (kpE_b (by omega) (by omega)) (Below.refl _ _) (fun _ => rfl)
        (fun pre V => (∃ v, Boxed V W.heap.size 33 v ∧ V.ownsRow W.heap.size 23 3 v pre.length (dcells pre) ∧ True) ∧ Below W.heap.size W V ∧ (pre.length : Int) ≤ n)
        (fun c pre V => c = .exit 2 ∧ (∃ v, Boxed V W.heap.size 33 v ∧ V.ownsRow W.heap.size 23 3 v pre.length (dcells pre) ∧ True) ∧ Below W.heap.size W V ∧ (pre.length : Int) = n + 1)
        ?hI ?hIx ?h0
        (fun x a' V => ∃ Bx, V.heap[Bx]? = some (.cells #[.int .i64 (dt x).1, .int .i64 (dt x).2.1, .int .i64 (dt x).2.2] 23 (0, 0)) ∧ ∃ (g0 g1 g2 g3 g4 g5 g6 g7 g8 g10 g11 g12 g13 g16 g17 g18 g19 g20 g21 g22 g23 g24 g25 g26 g27 g28 g29 g30 g31 g32 g33 g34 g35 g36 g37 g38 g39 g40 g41 g42 g43 g44 g45 g46 g47 g48 g49 g50 g51 g52 g53 g54 g55 g56 g57 g58 g59 g60 g61 g62 g63 g64 g65 g66 : Value), a' = { defers := [], tmps := #[g0, g1, g2, g3, g4, g5, g6, g7, g8, .pointer (some ⟨w.heap.size + 1 + 1, 0, none⟩), g10, g11, g12, g13, .pointer (some ⟨W.heap.size, 0, none⟩), .pointer (some ⟨Bx, 0, none⟩), g16, g17, g18, g19, g20, g21, g22, g23, g24, g25, g26, g27, g28, g29, g30, g31, g32, g33, g34, g35, g36, g37, g38, g39, g40, g41, g42, g43, g44, g45, g46, g47, g48, g49, g50, g51, g52, g53, g54, g55, g56, g57, g58, g59, g60, g61, g62, g63, g64, g65, g66] })
        (fun x a' _ X Y row hs hg hr => by obtain ⟨Bx, h1, h2⟩ := hs; exact ⟨Bx, cells_own Bx _ _ () X Y row h1 hg (fun r e => (hr r e).2), h2⟩)
        ?assign ?body ?done ?stop
      case hI =>
        exact OwnFrom.and (Own.from (holdsRow_own _ _ _ _ _ (fun pre : List Int => pre.length) dcells (fun _ _ => True)) _) (OwnFrom.and (ownFrom_below (by omega) (by omega)) (ownFrom_pure _ (fun pre : List Int => (pre.length : Int) ≤ n)))
      case hIx =>
        intro c
        exact OwnFrom.and (ownFrom_pure _ (fun _ : List Int => c = .exit 2)) (OwnFrom.and (Own.from (holdsRow_own _ _ _ _ _ (fun pre : List Int => pre.length) dcells (fun _ _ => True)) _) (OwnFrom.and (ownFrom_below (by omega) (by omega)) (ownFrom_pure _ (fun pre : List Int => (pre.length : Int) = n + 1))))
      case h0 =>
        exact ⟨⟨_, bL, World.ownsRow_nil _ _ _ _, trivial⟩, hB1, by simp; omega⟩
      case assign =>
        rintro l pre x V K ⟨⟨v, hv, hrow, -⟩, hB2, hlt⟩ hK
        have hsV := hB2.size
        gi_wp2
        refine hK _ _ ((KeepsOthers.alloc _ _).from _) (kpE_alloc (by omega) (by omega) _) ⟨⟨v, hv.alloc _, hrow.alloc _, trivial⟩, below_alloc hB2 _, hlt⟩ ⟨V.heap.size, World.alloc_heap_new _ _, _, _, _, _, _, _, _, _, _, _, _, _, _, _, _, _, _, _, _, _, _, _, _, _, _, _, _, _, _, _, _, _, _, _, _, _, _, _, _, _, _, _, _, _, _, _, _, _, _, _, _, _, _, _, _, _, _, _, _, _, _, _, _, _, rfl⟩
      case body =>
        rintro l pre x a' V - - ⟨⟨v, hv, hrow, -⟩, hB2, hlt⟩ ⟨Bx, hBx, g0, g1, g2, g3, g4, g5, g6, g7, g8, g10, g11, g12, g13, g16, g17, g18, g19, g20, g21, g22, g23, g24, g25, g26, g27, g28, g29, g30, g31, g32, g33, g34, g35, g36, g37, g38, g39, g40, g41, g42, g43, g44, g45, g46, g47, g48, g49, g50, g51, g52, g53, g54, g55, g56, g57, g58, g59, g60, g61, g62, g63, g64, g65, g66, rfl⟩ hlN
        have hsV := hB2.size
        have hc := hv.cell
        have hbx0 : V.cell? ⟨Bx, 0, none⟩ = some (.int .i64 (dt x).1) := by simp [cell_of_row _ _ _ _ _ _ hBx]
        have hbx1 : V.cell? ⟨Bx, 1, none⟩ = some (.int .i64 (dt x).2.1) := by simp [cell_of_row _ _ _ _ _ _ hBx]
        have hbx2 : V.cell? ⟨Bx, 2, none⟩ = some (.int .i64 (dt x).2.2) := by simp [cell_of_row _ _ _ _ _ _ hBx]
        have hnc : V.cell? ⟨w.heap.size + 2, 0, none⟩ = some (.int .i64 n) := (cb_cells (hC.below hB2)).2.2
        have h1c : ∀ u ∈ ([.int .i64 (dt x).1, .int .i64 (dt x).2.1, .int .i64 (dt x).2.2] : List Value), u.oneCell' = true := by intro u hu; simp at hu; rcases hu with rfl | rfl | rfl <;> rfl
        gi_wp2_with (gi_at_builtin; refine wpListIn_append_own _ rfl _ _ 33 rfl W.heap.size 23 i0 _ 3 24 Tryd.underlying33 hi hz0 hz1 hz2 rfl (by decide) _ _ _ rfl (hrow.alloc _) ⟨V.heap.size, 0, none⟩ 1 1 [.int .i64 (dt x).1, .int .i64 (dt x).2.1, .int .i64 (dt x).2.2] rfl rfl (World.news_of_block (World.alloc_heap_new _ _)) h1c (by simp only [maxLen]; omega) (by omega) (by simp; omega) ?_; intro v' w1 hown' hgrow _; obtain ⟨g', cap', rfl⟩ := ownsRow_succ hown'; obtain ⟨hv1, hv2, hr2, hk2, hb2⟩ := hv.appended (by decide) hrow hsV (Nat.le_refl _) hown' hgrow; have hc1 := hv1.cell; have hf1 := hv1.frozen; have hnc2 := (hb2.cell (p := ⟨w.heap.size + 2, 0, none⟩) hcl).trans hnc)
        · rename_i hge
          exact ⟨hk2.from _, rfl, ⟨_, hv2, by rw [dcells_snoc]; simpa using hr2, trivial⟩, hB2.trans hb2, by simp; omega⟩
        · rename_i hle
          exact ⟨hk2.from _, ⟨hb2, hk2.size, fun j a c => hb2.block j (by omega)⟩, ⟨_, hv2, by rw [dcells_snoc]; simpa using hr2, trivial⟩, hB2.trans hb2, by simp; omega⟩
      case done =>
        rintro D ys V hD rfl ⟨⟨v, hv, hrow, -⟩, hB2, hlt⟩ hK
        have hR : Kd.R k23 23 V W.heap.size (fun _ => True) v (((eachL y m d y' m' d' s).take (n + 1).toNat).map dS) := by
          rw [List.take_of_length_le (by omega)]
          exact R_of_row hrow (Nat.le_refl _)
        have hvlt : W.heap.size < V.heap.size := (Array.getElem?_eq_some_iff.1 (show V.heap[W.heap.size]? = _ from hv)).1
        have hvc := hv.cell
        have HR := Lib.hid hR
        have HBV := Lib.hid hB2
        have HCV := Lib.hid (hC.below hB2)
        have HEV := Lib.hid (hE.below hB2)
        clear hR
        obtain ⟨⟨c0, c1, c2⟩, ⟨c3, c4, c5⟩, c6⟩ := cb_cells HCV.out
        gi_wp2_with (first
          | (refine ⟨trivial, ?_⟩; gi_at_call 21; (with_reducible refine (HL1.out _).mono ?_); rintro e w5 ⟨v1, rfl, ho1, hb5⟩; have hc5 := (hb5.cell (p := ⟨W.heap.size, 0, none⟩) hvlt).trans hvc; have HB5 := Lib.hid hb5; have HO5 := Lib.hid ho1; clear hb5 ho1 c0 c1 c2 c3 c4 c5 c6)
          | (refine ⟨trivial, ?_⟩; gi_at_call 22; refine (dates_in 5 k (Kd.R_below HR.out HB5.out) HO5.out hd1).mono ?_; rintro e w6 ⟨rfl, hb6⟩; have HB6 := Lib.hid (below_step HB5.out hb6); clear hb6))
        refine ⟨⟨t + 1, by omega, _, _, _, _, _, _, _, _, _, _, _, _, _, _, _, _, _, _, _, _, _, _, _, _, _, _, _, _, _, _, _, _, _, _, _, _, _, _, _, _, _, _, _, _, _, _, _, _, _, _, _, _, _, _, _, _, _, D :: Dl, rfl, DsOk.next hDs HBV.out HB6.out (by omega) hwW hK, ?_, HCV.out.below HB6.out, HEV.out.below HB6.out⟩, ?_⟩
        · exact below_step (below_step hB HBV.out) HB6.out
        · simp [muE]
          omega
      case stop =>
        rintro D c pre V hD ⟨hpre, -⟩ ⟨rfl, ⟨v, hv, hrow, -⟩, hB2, hlt⟩ hK
        have hR : Kd.R k23 23 V W.heap.size (fun _ => True) v (((eachL y m d y' m' d' s).take (n + 1).toNat).map dS) := by
          rw [show (eachL y m d y' m' d' s).take (n + 1).toNat = pre by rw [show (n + 1).toNat = pre.length by omega]; exact (List.prefix_iff_eq_take.1 hpre).symm]
          exact R_of_row hrow (Nat.le_refl _)
        have hvlt : W.heap.size < V.heap.size := (Array.getElem?_eq_some_iff.1 (show V.heap[W.heap.size]? = _ from hv)).1
        have hvc := hv.cell
        have HR := Lib.hid hR
        have HBV := Lib.hid hB2
        have HCV := Lib.hid (hC.below hB2)
        have HEV := Lib.hid (hE.below hB2)
        clear hR
        obtain ⟨⟨c0, c1, c2⟩, ⟨c3, c4, c5⟩, c6⟩ := cb_cells HCV.out
        gi_wp2_with (first
          | (refine ⟨trivial, ?_⟩; gi_at_call 21; (with_reducible refine (HL1.out _).mono ?_); rintro e w5 ⟨v1, rfl, ho1, hb5⟩; have hc5 := (hb5.cell (p := ⟨W.heap.size, 0, none⟩) hvlt).trans hvc; have HB5 := Lib.hid hb5; have HO5 := Lib.hid ho1; clear hb5 ho1 c0 c1 c2 c3 c4 c5 c6)
          | (refine ⟨trivial, ?_⟩; gi_at_call 22; refine (dates_in 5 k (Kd.R_below HR.out HB5.out) HO5.out hd1).mono ?_; rintro e w6 ⟨rfl, hb6⟩; have HB6 := Lib.hid (below_step HB5.out hb6); clear hb6))
        refine ⟨⟨t + 1, by omega, _, _, _, _, _, _, _, _, _, _, _, _, _, _, _, _, _, _, _, _, _, _, _, _, _, _, _, _, _, _, _, _, _, _, _, _, _, _, _, _, _, _, _, _, _, _, _, _, _, _, _, _, _, _, _, _, _, D :: Dl, rfl, DsOk.next hDs HBV.out HB6.out (by omega) hwW hK, ?_, HCV.out.below HB6.out, HEV.out.below HB6.out⟩, ?_⟩
        · exact below_step (below_step hB HBV.out) HB6.out
        · simp [muE]
          omega
end Go.Proofs.YtofafljfabgpmaaDoor.Ext

/- The law's 'walked': the first days that Each goes over, put into a list. -/
import Derived.Test.YtofafljfabgpmaaDoorCalEachC
import Derived.Test.YtofafljfabgpmaaDoorGCx0
import Derived.Maps.AppendAt
import Derived.Deep.AppendLies
set_option linter.unusedVariables false
set_option linter.unusedSimpArgs false
namespace Go.Proofs.YtofafljfabgpmaaDoor.Ext
open Go.RowKit Go.Shelf Go.Proofs.YtofafljfabgpmaaDoorW.PrintWords Go.Proofs.YtofafljfabgpmaaDoor.PCal Go.Proofs.YtofafljfabgpmaaDoor.CalP Go.Proofs.YtofafljfabgpmaaDoor.GC
attribute [local go_sem] Oper.semAt_some

/-- the cells of days -/
def dcells (l : List Int) : List Value := l.flatMap fun x => [.int .i64 (dt x).1, .int .i64 (dt x).2.1, .int .i64 (dt x).2.2]
theorem dcells_snoc (l : List Int) (x : Int) : dcells (l ++ [x]) = dcells l ++ [.int .i64 (dt x).1, .int .i64 (dt x).2.1, .int .i64 (dt x).2.2] := by simp [dcells]
def dS (x : Int) : S23 := ⟨(dt x).1, (dt x).2.1, (dt x).2.2⟩
theorem dcells_reps (w : World) (base : Nat) (ok : Nat → Prop) : ∀ l : List Int, Reps (k23.M w base ok) 3 (l.map dS) (dcells l) := by
  intro l
  have h : ∀ (a b : List Int), Reps (k23.M w base ok) 3 (a.map dS) (dcells a) → Reps (k23.M w base ok) 3 ((a ++ b).map dS) (dcells (a ++ b)) := by
    intro a b
    induction b generalizing a with
    | nil => intro h; simpa using h
    | cons x b ih =>
      intro h
      have := ih (a ++ [x]) (by rw [dcells_snoc, List.map_append]; exact h.snoc (k23_mkM w base ok (dS x)) rfl)
      simpa using this
  have := h [] l (Reps.none _ _)
  simpa using this
theorem R_of_row {w : World} {base base' : Nat} {v : Value} {l : List Int} (h : w.ownsRow base' 23 3 v l.length (dcells l)) (hb : base ≤ base') : Kd.R k23 23 w base (fun _ => True) v (l.map dS) :=
  ⟨fun _ _ => trivial, dcells l, by rw [List.length_map]; exact own_weaken h hb, dcells_reps _ _ _ l⟩
theorem cells_own (B : Nat) (cs : Array Value) (t : TypeId) : Own (fun (_ : Unit) W => W.heap[B]? = some (.cells cs t (0, 0))) := fun s X Y row hs hg hrow => by
  refine (hg.block B (Array.getElem?_eq_some_iff.1 hs).1 (fun e => ?_)).trans hs
  obtain ⟨o, ho, hc⟩ := hrow B e.symm
  rw [show X.heap[B]? = _ from hs] at ho; cases ho; cases hc
def larderlaw03_walked.f (y m d y' m' d' s most : Int) : Option (List S23) := some (if most < 1 then [] else ((eachL y m d y' m' d' s).take most.toNat).map dS)
theorem kpE_t {n₀ b : Nat} : ∀ {A B C : World}, KpE n₀ b A B → KpE n₀ b B C → KpE n₀ b A C := fun h k => h.trans k
theorem run_eql_func_nil {P : Program} (W : World) {t : TypeId} {g : Fn} {a b : Array Value} (ht : ∃ x y z, P.underlying t = some (.func x y z)) : (binOp .eql t (.func g a b) .nilFunc).run P W = .ok (.bool false) W := by
  obtain ⟨x, y, z, ht⟩ := ht
  have h : ∀ k : Nat, (Op.equalIn (k + 1) t (.func g a b) .nilFunc).run P W = .ok false W := fun k => by simp [Op.equalIn, run_underlying ht]
  simp only [binOp]
  simp [Op.equal, Op.maxDepth, h 9999]
theorem seq_func : ∃ x y z, Tryd.prog.underlying 37 = some (.func x y z) := ⟨_, _, _, Tryd.underlying37⟩
set_option maxRecDepth 100000 in
set_option maxHeartbeats 1000000 in
theorem walked_lt (y m d y' m' d' s most : Int) (w : World) (hm : most < 1) :
    CallsIn Fence.wide 6 Tryd.prog 20 #[VD (y, m, d), VD (y', m', d'), .int .i64 s, .int .i64 most] w fun e w' => e = .returned (.slice none 0 0) ∧ Below w.heap.size w w' := by
  refine callsIn_of_wp Tryd.func20 rfl trivial ?_ rfl
  have hq := fun (g : Fn) (a b : Array Value) (W : World) => run_eql_func_nil (P := Tryd.prog) W (g := g) (a := a) (b := b) seq_func
  simp only [Tryd.ntmps20, List.size_toArray, List.length_cons, List.length_nil, Nat.reduceAdd, Nat.reduceSub, Array.replicate_succ, Array.replicate_zero, List.push_toArray, List.append_toArray, List.nil_append, List.cons_append]
  gi_wp2_with (refine ⟨trivial, ?_⟩; gi_at_call 23; refine (each_mk _ _ _ _ _ _ _ _ _).mono ?_; rintro e w' ⟨rfl, rfl⟩)
  go_ret
  exact ⟨rfl, below_alloc (below_alloc (below_alloc (below_alloc (below_alloc (below_alloc (below_alloc (Below.refl _ _) _) _) _) _) _) _) _⟩
theorem kpE_b {n₀ b : Nat} {w : World} (hn : n₀ ≤ w.heap.size) (hb : b + 3 ≤ w.heap.size) : ∀ (W : World) (l : Nat) (o o' : Obj), w.heap.size ≤ l → W.heap[l]? = some o → o.isCells = false → o.isWalk = false → KpE n₀ b W (W.putObj l o') := by
  intro W l o o' hl h1 h2 h3
  exact ⟨belowK_b (w := w) hn W l o o' hl h1 h2 h3, by simp, fun j a c => World.putObj_heap_other (by omega)⟩
theorem kpE_alloc {n₀ b : Nat} {W : World} (hn : n₀ ≤ W.heap.size) (hb : b + 3 ≤ W.heap.size) (o : Obj) : KpE n₀ b W (W.alloc o) :=
  ⟨(Below.refl n₀ W).alloc hn o, by simp, fun j a c => Below.heap_alloc W o j (by omega)⟩
/-- a list's box behind an append: what the loop over days asks -/
theorem appended3 {W w1 : World} {n₀ b Bl : Nat} {t e : TypeId} {v v' : Value} {k m : Nat} {xs ys : List Value} {tmp : Obj}
    (hv : Boxed W Bl t v) (hte : t ≠ e) (hrow : W.ownsRow (b + 3) e 3 v k xs) (hn₀ : n₀ ≤ W.heap.size) (hB : n₀ ≤ Bl) (hb : Bl < b) (hbs : b + 3 ≤ W.heap.size) (hnb : n₀ ≤ b + 3)
    (hown' : w1.ownsRow (b + 3) e 3 v' m ys) (hgrow : (W.alloc tmp).grownBy w1 v.ownBlock) :
    Boxed w1 Bl t v ∧ Boxed (w1.setCell ⟨Bl, 0, none⟩ v') Bl t v' ∧ (w1.setCell ⟨Bl, 0, none⟩ v').ownsRow (b + 3) e 3 v' m ys ∧ KeepsOthers W (w1.setCell ⟨Bl, 0, none⟩ v') ∧ KpE n₀ b W (w1.setCell ⟨Bl, 0, none⟩ v') ∧
      ∀ j, j < W.heap.size → j < b + 3 → j ≠ Bl → (w1.setCell ⟨Bl, 0, none⟩ v').heap[j]? = W.heap[j]? := by
  obtain ⟨h1, h2, h3, h4, h5⟩ := hv.appended hte (own_weaken hrow hnb) hn₀ hB (own_weaken hown' hnb) hgrow
  have hfar : ∀ j, j < W.heap.size → j < b + 3 → j ≠ Bl → (w1.setCell ⟨Bl, 0, none⟩ v').heap[j]? = W.heap[j]? := by
    intro j j1 j2 j3
    rw [Below.heap_setCell w1 ⟨Bl, 0, none⟩ v' j j3]
    refine (hgrow.block j (by simp; omega) (fun e' => ?_)).trans (Below.heap_alloc W tmp j j1)
    have := own_base hrow j e'.symm
    omega
  refine ⟨h1, h2, hown'.kept (grownBy_setCell' w1 Bl v') (.inr (h1.not_row hte hown').symm), h4, ⟨h5, ?_, fun j a c => hfar j (by omega) (by omega) (by omega)⟩, hfar⟩
  exact h4.size
theorem kpE_below {n₀ b : Nat} {A B : World} (h : KpE n₀ b A B) : Below n₀ A B := h.1
theorem kpE_size {n₀ b : Nat} {A B : World} (h : KpE n₀ b A B) : A.heap.size ≤ B.heap.size := h.2.1
set_option maxRecDepth 100000 in
set_option maxHeartbeats 4000000 in
theorem walked_ge (y m d y' m' d' s most : Int) (w : World) (hG : GlobOk w) (hm : ¬ most < 1) :
    CallsIn Fence.wide 6 Tryd.prog 20 #[VD (y, m, d), VD (y', m', d'), .int .i64 s, .int .i64 most] w fun e w' => ∃ v, e = .returned v ∧
      w'.ownsRow w.heap.size 23 3 v ((eachL y m d y' m' d' s).take most.toNat).length (dcells ((eachL y m d y' m' d' s).take most.toNat)) ∧ Below w.heap.size w w' := by
  refine callsIn_of_wp_marks Tryd.func20 rfl trivial ?_ rfl
  have hq := fun (g : Fn) (a b : Array Value) (W : World) => run_eql_func_nil (P := Tryd.prog) W (g := g) (a := a) (b := b) seq_func
  have HG := Lib.hid hG
  clear hG
  simp only [Tryd.ntmps20, List.size_toArray, List.length_cons, List.length_nil, Nat.reduceAdd, Nat.reduceSub, Array.replicate_succ, Array.replicate_zero, List.push_toArray, List.append_toArray, List.nil_append, List.cons_append]
  gi_wp2_with (refine ⟨trivial, ?_⟩; gi_at_call 23; refine (each_mk _ _ _ _ _ _ _ _ _).mono ?_; rintro e w' ⟨rfl, rfl⟩)
  clear hq
  have bM := (((((Boxed.new ((w.alloc (.cells #[.int .i64 y, .int .i64 m, .int .i64 d] 23)).alloc (.cells #[.int .i64 y', .int .i64 m', .int .i64 d'] 23)) 3 (.int .i64 most)).alloc (.cells #[.slice none 0 0] 33)).alloc (.cells #[.int .i64 y, .int .i64 m, .int .i64 d] 23)).alloc (.cells #[.int .i64 y', .int .i64 m', .int .i64 d'] 23)).alloc (.cells #[.int .i64 s] 3))
  have bL := ((((Boxed.new (((w.alloc (.cells #[.int .i64 y, .int .i64 m, .int .i64 d] 23)).alloc (.cells #[.int .i64 y', .int .i64 m', .int .i64 d'] 23)).alloc (.cells #[.int .i64 most] 3)) 33 (.slice none 0 0)).alloc (.cells #[.int .i64 y, .int .i64 m, .int .i64 d] 23)).alloc (.cells #[.int .i64 y', .int .i64 m', .int .i64 d'] 23)).alloc (.cells #[.int .i64 s] 3))
  simp only [World.size_alloc] at bM bL
  have hE := eb_new ((((w.alloc (.cells #[.int .i64 y, .int .i64 m, .int .i64 d] 23)).alloc (.cells #[.int .i64 y', .int .i64 m', .int .i64 d'] 23)).alloc (.cells #[.int .i64 most] 3)).alloc (.cells #[.slice none 0 0] 33)) y m d y' m' d' s
  simp only [World.size_alloc] at hE
  have hB0 : Below w.heap.size w (((((((w.alloc (.cells #[.int .i64 y, .int .i64 m, .int .i64 d] 23)).alloc (.cells #[.int .i64 y', .int .i64 m', .int .i64 d'] 23)).alloc (.cells #[.int .i64 most] 3)).alloc (.cells #[.slice none 0 0] 33)).alloc (.cells #[.int .i64 y, .int .i64 m, .int .i64 d] 23)).alloc (.cells #[.int .i64 y', .int .i64 m', .int .i64 d'] 23)).alloc (.cells #[.int .i64 s] 3)) :=
    below_alloc (below_alloc (below_alloc (below_alloc (below_alloc (below_alloc (below_alloc (Below.refl _ _) _) _) _) _) _) _) _
  obtain ⟨W0, hW0⟩ : ∃ W0, (((((((w.alloc (.cells #[.int .i64 y, .int .i64 m, .int .i64 d] 23)).alloc (.cells #[.int .i64 y', .int .i64 m', .int .i64 d'] 23)).alloc (.cells #[.int .i64 most] 3)).alloc (.cells #[.slice none 0 0] 33)).alloc (.cells #[.int .i64 y, .int .i64 m, .int .i64 d] 23)).alloc (.cells #[.int .i64 y', .int .i64 m', .int .i64 d'] 23)).alloc (.cells #[.int .i64 s] 3)) = W0 := ⟨_, rfl⟩
  have hsz : W0.heap.size = w.heap.size + 7 := by rw [← hW0]; simp
  rw [hW0] at bM bL hE hB0 ⊢
  clear hW0
  have hlen := eachL_len y m d y' m' d' s
  obtain ⟨i0, hi, hz0, hz1, hz2⟩ := info_parts info23
  have hEL := hE.lt
  refine wpIn_rangeFunc_ownH rfl (by omega) (gf := 39) (lb := #[.pointer (some ⟨w.heap.size + 1 + 1 + 1 + 1, 0, none⟩), .pointer (some ⟨w.heap.size + 1 + 1 + 1 + 1 + 1, 0, none⟩), .pointer (some ⟨w.heap.size + 1 + 1 + 1 + 1 + 2, 0, none⟩)]) rfl trivial (enters_of Tryd.func39 (by kernel_rfl) rfl)
    (each_stops (6 - 1) (w.heap.size + 1 + 1 + 1 + 1) (by omega) w HG.out y m d y' m' d' s W0 hE hB0) kpE_t (kpE_b (by omega) (by omega)) (Below.refl _ _) (fun _ => rfl)
    (fun pre W => (∃ v, Boxed W (w.heap.size + 1 + 1 + 1) 33 v ∧ W.ownsRow (w.heap.size + 1 + 1 + 1 + 1 + 3) 23 3 v pre.length (dcells pre) ∧ True) ∧ Boxed W (w.heap.size + 1 + 1) 3 (.int .i64 most) ∧ Below w.heap.size w W ∧ ((pre.length : Int) < most ∧ w.heap.size + 7 ≤ W.heap.size))
    (fun c pre W => c = .exit 0 ∧ (∃ v, Boxed W (w.heap.size + 1 + 1 + 1) 33 v ∧ W.ownsRow (w.heap.size + 1 + 1 + 1 + 1 + 3) 23 3 v pre.length (dcells pre) ∧ True) ∧ Below w.heap.size w W ∧ (pre.length : Int) = most)
    ?hI ?hIx ?h0
    (fun x a' W => ∃ Bx, W.heap[Bx]? = some (.cells #[.int .i64 (dt x).1, .int .i64 (dt x).2.1, .int .i64 (dt x).2.2] 23 (0, 0)) ∧ a' = { defers := [], tmps := #[VD (y, m, d), VD (y', m', d'), .int .i64 s, .int .i64 most, .pointer (some ⟨w.heap.size, 0, none⟩), .pointer (some ⟨w.heap.size + 1, 0, none⟩), undef, .pointer (some ⟨w.heap.size + 1 + 1, 0, none⟩), .slice none 0 0, .pointer (some ⟨w.heap.size + 1 + 1 + 1, 0, none⟩),
      .func (.func 39) #[] #[.pointer (some ⟨w.heap.size + 1 + 1 + 1 + 1, 0, none⟩), .pointer (some ⟨w.heap.size + 1 + 1 + 1 + 1 + 1, 0, none⟩), .pointer (some ⟨w.heap.size + 1 + 1 + 1 + 1 + 2, 0, none⟩)], .pointer (some ⟨Bx, 0, none⟩), VD (y, m, d), VD (y', m', d'), .int .i64 s,
      .func (.func 39) #[] #[.pointer (some ⟨w.heap.size + 1 + 1 + 1 + 1, 0, none⟩), .pointer (some ⟨w.heap.size + 1 + 1 + 1 + 1 + 1, 0, none⟩), .pointer (some ⟨w.heap.size + 1 + 1 + 1 + 1 + 2, 0, none⟩)],
      .func (.func 39) #[] #[.pointer (some ⟨w.heap.size + 1 + 1 + 1 + 1, 0, none⟩), .pointer (some ⟨w.heap.size + 1 + 1 + 1 + 1 + 1, 0, none⟩), .pointer (some ⟨w.heap.size + 1 + 1 + 1 + 1 + 2, 0, none⟩)],
      .bool false, .bool false, .int .i64 most, .bool (decide (most < 1)), .bool (decide (most < 1)), undef,
      .func (.func 39) #[] #[.pointer (some ⟨w.heap.size + 1 + 1 + 1 + 1, 0, none⟩), .pointer (some ⟨w.heap.size + 1 + 1 + 1 + 1 + 1, 0, none⟩), .pointer (some ⟨w.heap.size + 1 + 1 + 1 + 1 + 2, 0, none⟩)],
      VD (dt x), undef, undef, undef, undef, undef, undef, undef, undef, undef] })
    (fun x a' _ X Y row hs hg hr => by obtain ⟨Bx, h1, h2⟩ := hs; exact ⟨Bx, cells_own Bx _ _ () X Y row h1 hg (fun r e => (hr r e).2), h2⟩)
    ?assign ?body ?done ?stop
  case hI =>
    exact OwnFrom.and (Own.from (holdsRow_own _ _ _ _ _ (fun pre : List Int => pre.length) dcells (fun _ _ => True)) _) (OwnFrom.and (Own.from (boxed_own _ _ (fun _ : List Int => Value.int .i64 most)) _) (OwnFrom.and (ownFrom_below (by omega) (by omega)) (OwnFrom.and (ownFrom_pure _ (fun pre : List Int => (pre.length : Int) < most)) (fun _ X Y _ hs hg _ => Nat.le_trans hs hg.size))))
  case hIx =>
    intro c
    exact OwnFrom.and (ownFrom_pure _ (fun _ : List Int => c = .exit 0)) (OwnFrom.and (Own.from (holdsRow_own _ _ _ _ _ (fun pre : List Int => pre.length) dcells (fun _ _ => True)) _) (OwnFrom.and (ownFrom_below (by omega) (by omega)) (ownFrom_pure _ (fun pre : List Int => (pre.length : Int) = most))))
  case h0 =>
    exact ⟨⟨_, bL, World.ownsRow_nil _ _ _ _, trivial⟩, bM, hB0, by simp; omega, by omega⟩
  case assign =>
    rintro l pre x W K ⟨⟨v, hv, hrow, -⟩, hbM, hB, hlt, hsW⟩ hK
    gi_wp2
    refine hK _ _ ((KeepsOthers.alloc _ _).from _) (kpE_alloc (by omega) (by omega) _) ⟨⟨v, hv.alloc _, hrow.alloc _, trivial⟩, hbM.alloc _, below_alloc hB _, hlt, by simp; omega⟩ ⟨W.heap.size, World.alloc_heap_new _ _, ?_⟩
    rfl
  case body =>
    rintro l pre x a' W - - ⟨⟨v, hv, hrow, -⟩, hbM, hB, hlt, hsW⟩ ⟨Bx, hBx, rfl⟩ hlN
    have hc := hv.cell
    have hbx0 : W.cell? ⟨Bx, 0, none⟩ = some (.int .i64 (dt x).1) := by simp [cell_of_row _ _ _ _ _ _ hBx]
    have hbx1 : W.cell? ⟨Bx, 1, none⟩ = some (.int .i64 (dt x).2.1) := by simp [cell_of_row _ _ _ _ _ _ hBx]
    have hbx2 : W.cell? ⟨Bx, 2, none⟩ = some (.int .i64 (dt x).2.2) := by simp [cell_of_row _ _ _ _ _ _ hBx]
    have hmc := hbM.cell
    have h1c : ∀ u ∈ ([.int .i64 (dt x).1, .int .i64 (dt x).2.1, .int .i64 (dt x).2.2] : List Value), u.oneCell' = true := by intro u hu; simp at hu; rcases hu with rfl | rfl | rfl <;> rfl
    gi_wp2_with (gi_at_builtin; refine wpListIn_append_own _ rfl _ _ 33 rfl (w.heap.size + 1 + 1 + 1 + 1 + 3) 23 i0 _ 3 24 Tryd.underlying33 hi hz0 hz1 hz2 rfl (by decide) _ _ _ rfl (hrow.alloc _) ⟨W.heap.size, 0, none⟩ 1 1 [.int .i64 (dt x).1, .int .i64 (dt x).2.1, .int .i64 (dt x).2.2] rfl rfl (World.news_of_block (World.alloc_heap_new _ _)) h1c (by simp only [maxLen]; omega) (by omega) (by simp; omega) ?_; intro v' w1 hown' hgrow _; obtain ⟨g', cap', rfl⟩ := ownsRow_succ hown'; obtain ⟨hv1, hv2, hr2, hk2, hb2, hf2⟩ := appended3 hv (by decide) hrow hB.size (by omega) (by omega) (by omega) (by omega) hown' hgrow; have hc1 := hv1.cell; have hf1 := hv1.frozen; have hM2 : Boxed _ _ _ _ := (hf2 _ (by omega) (by omega) (by omega)).trans hbM; have hmc2 := hM2.cell)
    · rename_i hge
      exact ⟨hk2.from _, rfl, ⟨_, hv2, by rw [dcells_snoc]; simpa using hr2, trivial⟩, hB.trans (kpE_below hb2), by simp; omega⟩
    · rename_i hlt2
      exact ⟨hk2.from _, hb2, ⟨_, hv2, by rw [dcells_snoc]; simpa using hr2, trivial⟩, hM2, hB.trans (kpE_below hb2), by simp; omega, Nat.le_trans hsW (kpE_size hb2)⟩
  case done =>
    rintro D ys W hD rfl ⟨⟨v, hv, hrow, -⟩, hbM, hB, hlt, hsW⟩ hK
    have hc := hv.cell
    gi_wp2
    refine ⟨by simp, .inl ⟨_, _, rfl, run_takeDeferred hK, ?_⟩⟩
    rw [List.take_of_length_le (by omega)]
    exact ⟨_, results_tmp rfl _ _ _, v, rfl, own_weaken (ownsRow_putObj hrow _ hK rfl) (by omega), hB.trans (belowK_b (w := w) (Nat.le_refl _) W D _ _ (by omega) hK rfl rfl)⟩
  case stop =>
    rintro D c pre W hD ⟨hpre, -⟩ ⟨rfl, ⟨v, hv, hrow, -⟩, hB, hlt⟩ hK
    have hc := hv.cell
    gi_wp2
    refine ⟨by simp, .inl ⟨_, _, rfl, run_takeDeferred hK, ?_⟩⟩
    rw [show (eachL y m d y' m' d' s).take most.toNat = pre by rw [show most.toNat = pre.length by omega]; exact (List.prefix_iff_eq_take.1 hpre).symm]
    exact ⟨_, results_tmp rfl _ _ _, v, rfl, own_weaken (ownsRow_putObj hrow _ hK rfl) (by omega), hB.trans (belowK_b (w := w) (Nat.le_refl _) W D _ _ (by omega) hK rfl rfl)⟩
theorem larderlaw03_walked.calls (y m d y' m' d' st most : Int) (r : List S23) (w : World) (hG : GlobOk w) (h : larderlaw03_walked.f y m d y' m' d' st most = some r) :
    Calls Tryd.prog 20 #[.agg #[.int .i64 y, .int .i64 m, .int .i64 d], .agg #[.int .i64 y', .int .i64 m', .int .i64 d'], .int .i64 st, .int .i64 most] w fun e w' => ∃ v, e = .returned v ∧ Kd.R k23 23 w' w.heap.size (fun _ => True) v r ∧ Below w.heap.size w w' := by
  obtain rfl := Option.some.inj h
  by_cases hm : most < 1
  · refine Calls.mono (callsIn_wide.1 (walked_lt y m d y' m' d' st most w hm)) ?_
    rintro e w' ⟨rfl, hb⟩
    exact ⟨_, rfl, by rw [if_pos hm]; exact R_of_row (l := []) (World.ownsRow_nil _ _ _ _) (Nat.le_refl _), hb⟩
  · refine Calls.mono (callsIn_wide.1 (walked_ge y m d y' m' d' st most w hG hm)) ?_
    rintro e w' ⟨v, rfl, hr, hb⟩
    exact ⟨_, rfl, by rw [if_neg hm]; exact R_of_row hr (Nat.le_refl _), hb⟩
end Go.Proofs.YtofafljfabgpmaaDoor.Ext

/- The law CalShop, walked (printed by gen_calshop.py). -/
import Derived.Test.YtjifinacnofmiaaDoorCalRu
import Derived.Deep.Cut
import Derived.Test.YtjifinacnofmiaaDoorGCxe27
set_option linter.unusedVariables false
set_option linter.unusedSimpArgs false
namespace Go.Proofs.YtjifinacnofmiaaDoor.Ext
open Go Go.RowKit Go.Proofs.YtjifinacnofmiaaDoorW.PrintWords Go.Proofs.YtjifinacnofmiaaDoorW.PrintLast Go.Proofs.YtjifinacnofmiaaDoor.PCal Go.Proofs.YtjifinacnofmiaaDoor.GC Go.Proofs.YtjifinacnofmiaaDoor.CalP
theorem DL.shape {w : World} {v : Value} {l : List D3} (h : DL w v l) : ∃ x c, v = .slice x l.length c := by
  obtain ⟨x, c, e, _⟩ := h
  exact ⟨x, c, e⟩
attribute [local go_sem high] eqA27
/-- an allocation (or another operation with a value) inside a region that draws -/
theorem val_ {P : Program} {ops : Array Oper} {Q : Exit → Act → World → Prop} {oi : Oper} {N : Option Tmp} {a : Act} {w w1 : World} {v : Value} {K : Act → World → Prop} (hw : Region.wanted oi (yielded ops a.tmps) = true) (hN : oi.dst = N) (hrun : (execOp a.eval oi).run P w = .ok (.value v) w1)
    (h : K (a.put N v) w1) : if Region.wanted oi (yielded ops a.tmps) = true then Oper.wp P oi a w K Q else K (a.put N undef) w := by
  rw [if_pos hw]
  subst hN
  unfold Oper.wp
  rw [hrun]
  exact h
/-- what the law's loop has counted -/
structure Shp (B : Int → Int) (o : Int → Bool) (F i m fi la : Int) : Prop where
  eq : m = B i - B F
  m0 : 0 ≤ m
  m1 : m ≤ i - F
  none : m = 0 → fi = -1 ∧ la = -1
  some : 0 < m → F ≤ fi ∧ fi ≤ la ∧ la < i ∧ o fi = true ∧ o la = true ∧ B fi = B F ∧ B (la + 1) = B i
section
variable {B : Int → Int} {o : Int → Bool} {F i m fi la : Int}
theorem Shp.start (B : Int → Int) (o : Int → Bool) (F : Int) : Shp B o F F 0 (-1) (-1) := ⟨by omega, by omega, by omega, fun _ => ⟨rfl, rfl⟩, fun h => absurd h (by omega)⟩
theorem Shp.shut (h : Shp B o F i m fi la) (hB : B (i + 1) = B i + (if o i = true then 1 else 0)) (ho : o i = false) : Shp B o F (i + 1) m fi la := by
  have e : B (i + 1) = B i := by rw [hB, ho]; simp
  refine ⟨by rw [e]; exact h.eq, h.m0, by have := h.m1; omega, h.none, fun q => ?_⟩
  obtain ⟨a, b, c, d, e1, f, g⟩ := h.some q
  exact ⟨a, b, by omega, d, e1, f, by rw [e]; exact g⟩
theorem Shp.open1 (h : Shp B o F i m fi la) (hB : B (i + 1) = B i + (if o i = true then 1 else 0)) (ho : o i = true) (hF : F ≤ i) (hm : m = 0) : Shp B o F (i + 1) (m + 1) i i := by
  have e : B (i + 1) = B i + 1 := by rw [hB, ho]; simp
  have q := h.eq
  exact ⟨by omega, by omega, by have := h.m1; omega, fun r => absurd r (by omega), fun _ => ⟨hF, Int.le_refl _, by omega, ho, ho, by omega, rfl⟩⟩
theorem Shp.open2 (h : Shp B o F i m fi la) (hB : B (i + 1) = B i + (if o i = true then 1 else 0)) (ho : o i = true) (hm : 0 < m) : Shp B o F (i + 1) (m + 1) fi i := by
  have e : B (i + 1) = B i + 1 := by rw [hB, ho]; simp
  have q := h.eq
  obtain ⟨a, b, c, d, e1, f, g⟩ := h.some hm
  exact ⟨by omega, by omega, by have := h.m1; omega, fun r => absurd r (by omega), fun _ => ⟨a, by omega, by omega, d, ho, f, rfl⟩⟩
end
section
variable {dy : Nat → Bool} {S E : List D3}
/-- Move by none -/
theorem mv_zero {F : Int} (h0 : 0 ≤ F) (h1 : F ≤ 3652424) {d : D3} {c : Int} (h : MoveR true dy S E (dt F) 0 d c) : d = (if opn dy S E F = true then dt F else (0, 0, 0)) ∧ c = (if opn dy S E F = true then 0 else 37) := by
  have e := nm_dt h0 h1
  have k := dt_ok F
  unfold MoveR at h
  rw [e] at h
  rcases h with ⟨q, _⟩ | ⟨_, q, _⟩ | ⟨_, _, q, _⟩ | ⟨_, _, _, q, rfl, rfl⟩ | ⟨_, _, _, q, rfl, rfl⟩ | ⟨_, _, _, q, _⟩ | ⟨_, _, _, q, _⟩
  · cases q
  · rw [k] at q
    cases q
  · omega
  · rw [if_pos q, if_pos q]
    exact ⟨rfl, rfl⟩
  · rw [if_neg (by rw [q]; simp), if_neg (by rw [q]; simp)]
    exact ⟨rfl, rfl⟩
  · exact absurd rfl q
  · exact absurd rfl q
/-- Move from one day to another: so many open days up to it -/
theorem mv_to (hg : GoodR S E) {i k j : Int} (hi0 : 0 ≤ i) (hi1 : i ≤ 3652424) (hj0 : 0 ≤ j) (hj1 : j ≤ 3652424) (hk : k ≠ 0) (hkb : -100000 ≤ k ∧ k ≤ 100000) {t : Int} (ht : targ dy S E i k = t) (h3 : belF dy S E j < t) (h4 : t = belF dy S E (j + 1))
    {d : D3} {c : Int} (h : MoveR true dy S E (dt i) k d c) : d = dt j ∧ c = 0 := by
  have e := nm_dt hi0 hi1
  have q := dt_ok i
  have z := bel_zero dy hg
  have a := bel_le hg (dy := dy) (a := 0) (b := j) (by omega) hj0
  have b := bel_le hg (dy := dy) (a := j + 1) (b := 3652425) (by omega) (by omega)
  unfold MoveR at h
  rw [e, ht] at h
  rcases h with ⟨r, _⟩ | ⟨_, r, _⟩ | ⟨_, _, r, _⟩ | ⟨_, _, r, _⟩ | ⟨_, _, r, _⟩ | ⟨_, _, _, _, r, _⟩ | ⟨_, _, _, _, _, rfl, x, x0, x1, x2, x3, rfl⟩
  · cases r
  · rw [q] at r
    cases r
  · omega
  · exact absurd r hk
  · exact absurd r hk
  · omega
  · rw [least_day hg x0 hj0 hj1 x2 x3 h3 (by omega)]
    exact ⟨rfl, rfl⟩
theorem mv_up (hg : GoodR S E) {F T m fi la : Int} (h : Shp (belF dy S E) (opn dy S E) F T m fi la) (hF : 0 ≤ F) (hT : T ≤ 3600000) (hm : 2 ≤ m) (hm2 : m ≤ 1000) {d : D3} {c : Int} (hM : MoveR true dy S E (dt fi) (m - 1) d c) : d = dt la ∧ c = 0 := by
  obtain ⟨a, b, x, o1, o2, e1, e2⟩ := h.some (by omega)
  have q := h.eq
  have s1 := bel_step hg (dy := dy) (n := fi) (by omega)
  have s2 := bel_step hg (dy := dy) (n := la) (by omega)
  rw [if_pos o1] at s1
  rw [if_pos o2] at s2
  exact mv_to hg (by omega) (by omega) (by omega) (by omega) (by omega) (by omega) (t := belF dy S E (fi + 1) + (m - 1)) (by unfold targ; rw [if_pos (by omega)]) (by omega) (by omega) hM
theorem mv_down (hg : GoodR S E) {F T m fi la : Int} (h : Shp (belF dy S E) (opn dy S E) F T m fi la) (hF : 0 ≤ F) (hT : T ≤ 3600000) (hm : 2 ≤ m) (hm2 : m ≤ 1000) {d : D3} {c : Int} (hM : MoveR true dy S E (dt la) (1 - m) d c) : d = dt fi ∧ c = 0 := by
  obtain ⟨a, b, x, o1, o2, e1, e2⟩ := h.some (by omega)
  have q := h.eq
  have s1 := bel_step hg (dy := dy) (n := fi) (by omega)
  have s2 := bel_step hg (dy := dy) (n := la) (by omega)
  rw [if_pos o1] at s1
  rw [if_pos o2] at s2
  exact mv_to hg (by omega) (by omega) (by omega) (by omega) (by omega) (by omega) (t := belF dy S E la + (1 - m) + 1) (by unfold targ; rw [if_neg (by omega)]) (by omega) (by omega) hM
end
theorem bx3 {w : World} {g : Nat} {t u : D3} (h : Bx w g t) : Bx (((w.setCell ⟨g, 0, none⟩ (.int .i64 u.1)).setCell ⟨g, 1, none⟩ (.int .i64 u.2.1)).setCell ⟨g, 2, none⟩ (.int .i64 u.2.2)) g u := stored3 h
theorem below3 {n : Nat} {a w : World} (h : Below n a w) {g : Nat} (hg : n ≤ g) (x y z : Value) : Below n a (((w.setCell ⟨g, 0, none⟩ x).setCell ⟨g, 1, none⟩ y).setCell ⟨g, 2, none⟩ z) :=
  ((h.setCell (p := ⟨g, 0, none⟩) hg _).setCell (p := ⟨g, 1, none⟩) hg _).setCell (p := ⟨g, 2, none⟩) hg _
theorem two_ofS {md : Region.Mode} {ops : Array Oper} {T : Bool × List (List Nat × List Nat)} {l li lj : Array Bool} {i j : Nat} (hT : rtab md ops = T) (h : (readyT T.2 l.toList == [i, j] && l.toList.set i true == li.toList && l.toList.set j true == lj.toList) = true) :
    (Region.ready md ops l == [i, j] && l.setIfInBounds i true == li && l.setIfInBounds j true == lj) = true := by
  simp only [Bool.and_eq_true] at h ⊢
  obtain ⟨⟨h1, h2⟩, h3⟩ := h
  subst hT
  exact ⟨⟨by rw [ready_eq]; exact h1, set_of h2⟩, set_of h3⟩
theorem shp_first {dy : Nat → Bool} {S E : List D3} (hg : GoodR S E) {F i m fi la : Int} (h : Shp (belF dy S E) (opn dy S E) F i m fi la) (hF : 0 ≤ F) (hi : F < i) (hn : fi ≠ F) : opn dy S E F = false := by
  cases q : opn dy S E F with
  | false => rfl
  | true =>
    have s := bel_step hg (dy := dy) (n := F) hF
    rw [if_pos q] at s
    have e := h.eq
    have m0 := h.m0
    by_cases z : m = 0
    · have := bel_le hg (dy := dy) (a := F + 1) (b := i) (by omega) (by omega)
      omega
    · obtain ⟨a, b, c, o1, o2, e1, e2⟩ := h.some (by omega)
      have := bel_le hg (dy := dy) (a := F + 1) (b := fi) (by omega) (by omega)
      omega
theorem shp_two {dy : Nat → Bool} {S E : List D3} (hg : GoodR S E) {F i m fi la : Int} (h : Shp (belF dy S E) (opn dy S E) F i m fi la) (hF : 0 ≤ F) (hm : 0 < m) (hn : fi ≠ la) : 2 ≤ m := by
  obtain ⟨a, b, c, o1, o2, e1, e2⟩ := h.some hm
  have s1 := bel_step hg (dy := dy) (n := fi) (by omega)
  have s2 := bel_step hg (dy := dy) (n := la) (by omega)
  rw [if_pos o1] at s1
  rw [if_pos o2] at s2
  have := bel_le hg (dy := dy) (a := fi + 1) (b := la) (by omega) (by omega)
  have e := h.eq
  omega
def sh22T : Bool × List (List Nat × List Nat) := (true,
  [([], []), ([], []), ([0, 1], [0, 1]), ([2], [2]), ([3], [3]), ([4, 3], [3, 4]), ([5, 3, 3], [3, 5]), ([6], [6]),
    ([6], [6]), ([8, 6, 6], [6, 8]), ([7, 9, 6], [6, 7, 9]), ([6, 10, 3], [3, 6, 10]), ([3, 11], [3, 11]),
    ([12, 9], [12]), ([13], [13]), ([13], [13]), ([14, 15, 13], [13, 14, 15]), ([16, 13, 13], [13, 16]), ([17], [17]),
    ([17], [17]), ([18, 19, 17], [17, 18, 19]), ([17, 20, 13], [13, 17, 20]), ([21, 17, 13], [13, 21]), ([22], [22]),
    ([23, 22], [22, 23]), ([22, 24, 13], [13, 22, 24]), ([13, 25], [13, 25])])
theorem sh22_tab : rtab .any (opsOf Tryd.f4 22) = sh22T := by kernel_rfl
def sh26T : Bool × List (List Nat × List Nat) := (true,
  [([], []), ([], []), ([1], [1]), ([], []), ([3], [3]), ([0, 2, 4, 2], [0, 2, 4]), ([5], [5]), ([6], [6]), ([6], [6]),
    ([], []), ([9, 7, 5, 0, 1, 2, 3, 4, 5, 6, 7, 9], [7, 9]), ([8, 10, 0, 1, 2, 3, 4, 5, 6, 7, 8, 9, 10], [8])])
theorem sh26_tab : rtab .any (opsOf Tryd.f4 26) = sh26T := by kernel_rfl
def sh28T : Bool × List (List Nat × List Nat) := (true,
  [([], []), ([0], [0]), ([1], [1]), ([2], [2]), ([3, 2], [2, 3]), ([2, 4], [2, 4]), ([5, 2], [5]), ([6], [6]),
    ([6], [6]), ([8, 6, 6], [6, 8]), ([7, 9, 6], [6, 7, 9]), ([6, 10], [6, 10]), ([11, 9], [11]), ([12], [12]),
    ([12], [12]), ([14, 12, 12], [12, 14]), ([13, 15, 12], [12, 13, 15]), ([12, 16], [12, 16]),
    ([17, 15, 0, 1, 2, 3, 4, 5, 6, 7, 8, 9, 10, 11, 12, 13, 14, 15, 16, 17], [17])])
theorem sh28_tab : rtab .any (opsOf Tryd.f4 28) = sh28T := by kernel_rfl
def sh21T : Bool × List (List Nat × List Nat) := (true,
  [([], []), ([], []), ([1], [1]), ([0, 2, 2], [0, 2]), ([3], [3]), ([4], [4]), ([4], [4]), ([], []),
    ([7, 5, 3, 0, 1, 2, 3, 4, 5, 7], [5, 7]), ([6, 8, 0, 1, 2, 3, 4, 5, 6, 7, 8], [6])])
theorem sh21_tab : rtab .any (opsOf Tryd.f4 21) = sh21T := by kernel_rfl

set_option maxHeartbeats 8000000 in
set_option maxRecDepth 100000 in
theorem calShop_r (wk a n : Int) (hw0 : 0 ≤ wk) (hw1 : wk ≤ 255) (ha : -9223372036854775808 ≤ a ∧ a ≤ 9223372036854775807) (hn : -9223372036854775808 ≤ n ∧ n ≤ 9223372036854775807) (x1 x2 : Option Addr) (z1 z2 : List Int) (c1 c2 : Nat) (w : World) (hG : GlobOk w) (hN1 : NL w x1 z1) (hN2 : NL w x2 z2) :
    Calls Tryd.prog 4 #[.int .u8 wk, .slice x1 z1.length c1, .slice x2 z2.length c2, .int .i64 a, .int .i64 n] w fun e w' => e = .returned (.bool true) ∧ Below w.heap.size w w' := by
  obtain ⟨va, va0, va1, hva⟩ := within_r a 0 1999 ha (by omega) (by omega) (by omega)
  obtain ⟨vn, vn0, vn1, hvn⟩ := within_r n 0 400 hn (by omega) (by omega) (by omega)
  have HVa := Lib.hid hva
  have HVn := Lib.hid hvn
  have HRu := Lib.hid (rule_r wk hw0 hw1 x1 x2 z1 z2 c1 c2 w hG hN1 hN2)
  have HG := Lib.hid hG
  clear hva hvn hG hN1 hN2
  go_enter Tryd.func4, Tryd.ntmps4
  go_upto_region 2 with (first
    | (go_at_call 7; (with_reducible refine HRu.out.mono ?_); rintro ev w1 ⟨dy, vs, ve, S, E, rfl, hS, hE, hg, hb⟩; obtain ⟨y1, k1, hv1⟩ := DL.shape hS; subst hv1; obtain ⟨y2, k2, hv2⟩ := DL.shape hE; subst hv2; have HS0 := Lib.hid hS; have HE0 := Lib.hid hE; have HGR := Lib.hid hg; have HB0 := Lib.hid hb; clear hS hE hg hb))
  obtain ⟨rb, hrb⟩ : ∃ rb, rb = w1.heap.size := ⟨_, rfl⟩
  obtain ⟨X, hX⟩ : ∃ X, X = w1.alloc (.cells (rcells dy (.slice y1 S.length k1) (.slice y2 E.length k2)) 25) := ⟨_, rfl⟩
  have hx := hX
  unfold rcells at hx
  rw [← hx, ← hrb]
  have kx : Below w1.heap.size w1 X := by rw [hX]; exact below_alloc (Below.refl _ _) _
  have HRA : Hid (RuleAt X rb dy (.slice y1 S.length k1) (.slice y2 E.length k2) S E) := Lib.hid ⟨by rw [hX, hrb]; exact alnew w1 _, HS0.out.below kx, HE0.out.below kx⟩
  have HBX := Lib.hid (below_step HB0.out kx)
  clear hX hx kx hrb HS0 HE0 HB0 HRu
  have HGX := Lib.hid (HG.out.below HBX.out)
  have HAt : Hid (∀ i, 0 ≤ i → i ≤ 3652424 → ∀ w', Below X.heap.size X w' → Calls Tryd.prog 10 #[.int .i64 i] w' fun e w'' => e = .returned (vd (dt i)) ∧ Below w'.heap.size w' w'') := Lib.hid fun i h0 h1 w' k => at_r i h0 h1 w' (HGX.out.below k)
  have HCt : Hid (∀ i j, 0 ≤ i → i ≤ j → j ≤ 3652424 → ∀ w', Below X.heap.size X w' → Calls Tryd.prog 9 #[rvV dy (.slice y1 S.length k1) (.slice y2 E.length k2), vd (dt i), vd (dt j)] w' fun e w'' => e = .returned (.tuple #[.int .i64 (belF dy S E j - belF dy S E i), .int .i64 0]) ∧ Below w'.heap.size w' w'') := Lib.hid fun i j h0 h1 h2 w' k => by
    have q := Count_r w' dy _ _ S E (dt i) (dt j) true (HGX.out.below k) (HRA.out.below k).ds (HRA.out.below k).de (goodC_right w' dy _ _ S E (HGX.out.below k) (HRA.out.below k).ds (HRA.out.below k).de HGR.out) (fun _ => HGR.out)
    have e : countF true dy S E (dt i) (dt j) = (belF dy S E j - belF dy S E i, 0) := by
      unfold countF
      rw [if_pos rfl, if_pos ⟨dt_ok i, dt_ok j⟩, nm_dt h0 (by omega), nm_dt (by omega) h2, if_neg (by omega)]
    rw [e] at q
    exact q
  have HOp : Hid (∀ i, 0 ≤ i → i ≤ 3652424 → ∀ w', Below X.heap.size X w' → Calls Tryd.prog 11 #[rvV dy (.slice y1 S.length k1) (.slice y2 E.length k2), vd (dt i)] w' fun e w'' => e = .returned (.tuple #[.bool (opn dy S E i), .int .i64 0]) ∧ Below w'.heap.size w' w'') := Lib.hid fun i h0 h1 w' k => by
    have q := Open_r w' dy _ _ S E (dt i) true (HGX.out.below k) (HRA.out.below k).ds (HRA.out.below k).de (goodC_right w' dy _ _ S E (HGX.out.below k) (HRA.out.below k).ds (HRA.out.below k).de HGR.out) (fun _ => HGR.out)
    have e : openF true dy S E (dt i) = (opn dy S E i, 0) := by
      unfold openF
      rw [if_pos rfl, if_pos (dt_ok i), nm_dt h0 h1]
    rw [e] at q
    exact q
  have HMv : Hid (∀ i k, 0 ≤ i → i ≤ 3652424 → ∀ w', Below X.heap.size X w' → Calls Tryd.prog 12 #[rvV dy (.slice y1 S.length k1) (.slice y2 E.length k2), vd (dt i), .int .i64 k] w' fun e w'' => ∃ d c, MoveR true dy S E (dt i) k d c ∧ e = .returned (.tuple #[vd d, .int .i64 c]) ∧ Below w'.heap.size w' w'') := Lib.hid fun i k h0 h1 w' q =>
    Move_r w' dy _ _ S E (dt i) k true (HGX.out.below q) (HRA.out.below q).ds (HRA.out.below q).de (goodC_right w' dy _ _ S E (HGX.out.below q) (HRA.out.below q).ds (HRA.out.below q).de HGR.out) (fun _ => HGR.out)
  have HSS : Hid (∀ w', Below X.heap.size X w' → (w'.cell? ⟨rb, 0, none⟩ = some (.bool (dy 0)) ∧ w'.cell? ⟨rb, 1, none⟩ = some (.bool (dy 1)) ∧ w'.cell? ⟨rb, 2, none⟩ = some (.bool (dy 2)) ∧ w'.cell? ⟨rb, 3, none⟩ = some (.bool (dy 3)) ∧ w'.cell? ⟨rb, 4, none⟩ = some (.bool (dy 4)) ∧ w'.cell? ⟨rb, 5, none⟩ = some (.bool (dy 5)) ∧ w'.cell? ⟨rb, 6, none⟩ = some (.bool (dy 6)) ∧ w'.cell? ⟨rb, 7, none⟩ = some (.slice y1 S.length k1) ∧ w'.cell? ⟨rb, 8, none⟩ = some (.slice y2 E.length k2))) := Lib.hid fun w' k => HRA.out.all k
  go_upto_region 4 with (first
    | (go_at_call 8; (with_reducible refine (HVa.out _).mono ?_); rintro ev w2 ⟨rfl, hb⟩; have HB2 : Hid (Below X.heap.size X w2) := Lib.hid hb; clear hb)
    | (go_at_call 8; (with_reducible refine (HVn.out _).mono ?_); rintro ev w3 ⟨rfl, hb⟩; have HB3 := Lib.hid (below_step HB2.out hb); clear hb))
  obtain ⟨F, hF⟩ : ∃ F, F = 730000 + va := ⟨_, rfl⟩
  rw [← hF]
  obtain ⟨T, hT⟩ : ∃ T, T = F + vn := ⟨_, rfl⟩
  rw [← hT]
  have F0 : 730000 ≤ F ∧ F ≤ 731999 := by omega
  have T0 : F ≤ T ∧ T ≤ F + 400 := by omega
  obtain ⟨mm, hmm⟩ : ∃ mm, mm = belF dy S E T - belF dy S E F := ⟨_, rfl⟩
  have HC0 := Lib.hid (HCt.out F T (by omega) (by omega) (by omega))
  rw [← hmm] at HC0
  have HMM := Lib.hid hmm
  have HAF := Lib.hid (HAt.out F (by omega) (by omega))
  have HAT := Lib.hid (HAt.out T (by omega) (by omega))
  clear hF hT hmm HCt HVa HVn va0 va1 vn0 vn1
  have hb0 := HB3.out.drew
  go_region_held3 (fun w' => w'.cell? ⟨rb, 0, none⟩ = some (.bool (dy 0)) ∧ w'.cell? ⟨rb, 1, none⟩ = some (.bool (dy 1)) ∧ w'.cell? ⟨rb, 2, none⟩ = some (.bool (dy 2)) ∧ w'.cell? ⟨rb, 3, none⟩ = some (.bool (dy 3)) ∧ w'.cell? ⟨rb, 4, none⟩ = some (.bool (dy 4)) ∧ w'.cell? ⟨rb, 5, none⟩ = some (.bool (dy 5)) ∧ w'.cell? ⟨rb, 6, none⟩ = some (.bool (dy 6)) ∧ w'.cell? ⟨rb, 7, none⟩ = some (.slice y1 S.length k1) ∧ w'.cell? ⟨rb, 8, none⟩ = some (.slice y2 E.length k2)) (exact HSS.out _ (by assumption)) (first
    | (go_at_call 10; (with_reducible refine (HAF.out _ hb0).mono ?_); rintro ev w4 ⟨rfl, hb⟩; have hb1 := below_step hb0 hb; clear hb)
    | (go_at_call 10; (with_reducible refine (HAT.out _ hb1).mono ?_); rintro ev w5 ⟨rfl, hb⟩; have hb2 := below_step hb1 hb; clear hb)
    | (go_at_call 9; (with_reducible refine (HC0.out _ hb2).mono ?_); rintro ev w6 ⟨rfl, hb⟩; have hb3 := below_step hb2 hb; clear hb))
  have HB6 := Lib.hid hb3
  clear hb0 hb1 hb2 hb3 HAT HC0
  go_wp2_with fail
  go_loopw [10, 16, 17, 18, 19, 20, 21] (fun r m fi la i o f wr => ∃ m' fi' la' i' : Int, r = .bool false ∧ m = .int .i64 m' ∧ fi = .int .i64 fi' ∧ la = .int .i64 la' ∧ i = .int .i64 i' ∧ (F ≤ i' ∧ i' ≤ T) ∧ Hid (Below X.heap.size X wr) ∧ Hid (Shp (belF dy S E) (opn dy S E) F i' m' fi' la')) (fun _ _ _ _ i _ _ _ => (T - intOf i).toNat)
  case atStart => exact ⟨0, -1, -1, F, rfl, rfl, rfl, rfl, rfl, ⟨by omega, by omega⟩, HB6, Lib.hid (Shp.start _ _ _)⟩
  case round =>
    obtain ⟨m, fi, la, i, rfl, rfl, rfl, rfl, rfl, hib, HB, HQ⟩ := hrel
    have qm0 := HQ.out.m0
    have qm1 := HQ.out.m1
    by_cases hlt : i < T
    · have t1 : decide (i < T) = true := decide_eq_true hlt
      have HAi := Lib.hid (HAt.out i (by omega) (by omega))
      have HOi := Lib.hid (HOp.out i (by omega) (by omega))
      have HBi := Lib.hid (bel_step HGR.out (dy := dy) (n := i) (by omega))
      obtain ⟨b, hb⟩ : ∃ b, b = opn dy S E i := ⟨_, rfl⟩
      rw [← hb] at HOi
      have HBb := Lib.hid hb
      have HSm := Lib.hid HQ.out.some
      have HSn := Lib.hid HQ.out.none
      have hb0 := HB.out.drew
      clear hb HB6
      go_wp2_with fail
      go_region_held3 (fun w' => w'.cell? ⟨rb, 0, none⟩ = some (.bool (dy 0)) ∧ w'.cell? ⟨rb, 1, none⟩ = some (.bool (dy 1)) ∧ w'.cell? ⟨rb, 2, none⟩ = some (.bool (dy 2)) ∧ w'.cell? ⟨rb, 3, none⟩ = some (.bool (dy 3)) ∧ w'.cell? ⟨rb, 4, none⟩ = some (.bool (dy 4)) ∧ w'.cell? ⟨rb, 5, none⟩ = some (.bool (dy 5)) ∧ w'.cell? ⟨rb, 6, none⟩ = some (.bool (dy 6)) ∧ w'.cell? ⟨rb, 7, none⟩ = some (.slice y1 S.length k1) ∧ w'.cell? ⟨rb, 8, none⟩ = some (.slice y2 E.length k2)) (exact HSS.out _ (by assumption)) (first
        | (go_at_call 10; (with_reducible refine (HAi.out _ hb0).mono ?_); rintro ev w7 ⟨rfl, hb⟩; have hb1 := below_step hb0 hb; clear hb)
        | (go_at_call 11; (with_reducible refine (HOi.out _ hb1).mono ?_); rintro ev w8 ⟨rfl, hb⟩; have hb2 := below_step hb1 hb; clear hb))
      have HB8 := Lib.hid hb2
      clear hb0 hb1 hb2
      cases b
      · go_wp2_with fail
        go_roundw
        case rel => exact ⟨m, fi, la, i + 1, rfl, rfl, rfl, rfl, by go_num, ⟨by omega, by omega⟩, HB8, Lib.hid (HQ.out.shut HBi.out HBb.out.symm)⟩
        case measure => simp [intOf]; omega
      · by_cases hm : m = 0
        · obtain ⟨f1, f2⟩ := HSn.out hm
          have t2 : decide (fi < 0) = true := decide_eq_true (by omega)
          clear f1 f2
          go_wp2_with fail
          go_roundw
          case rel => exact ⟨m + 1, i, i, i + 1, rfl, by go_num, rfl, rfl, by go_num, ⟨by omega, by omega⟩, HB8, Lib.hid (HQ.out.open1 HBi.out HBb.out.symm hib.1 hm)⟩
          case measure => simp [intOf]; omega
        · have f1 := (HSm.out (by omega)).1
          have t2 : decide (fi < 0) = false := decide_eq_false (by omega)
          clear f1
          go_wp2_with fail
          go_roundw
          case rel => exact ⟨m + 1, fi, i, i + 1, rfl, by go_num, rfl, rfl, by go_num, ⟨by omega, by omega⟩, HB8, Lib.hid (HQ.out.open2 HBi.out HBb.out.symm (by omega))⟩
          case measure => simp [intOf]; omega
    · obtain rfl : i = T := by omega
      obtain rfl : m = mm := by rw [HQ.out.eq, HMM.out]
      clear hlt HOp HB6
      obtain ⟨d0, hd0⟩ : ∃ d0, d0 = (if opn dy S E F = true then dt F else (0, 0, 0)) := ⟨_, rfl⟩
      obtain ⟨c0, hc0⟩ : ∃ c0 : Int, c0 = (if opn dy S E F = true then 0 else 37) := ⟨_, rfl⟩
      have HM0 : Hid (∀ w', Below X.heap.size X w' → Calls Tryd.prog 12 #[rvV dy (.slice y1 S.length k1) (.slice y2 E.length k2), vd (dt F), .int .i64 0] w' fun e w'' => e = .returned (.tuple #[vd d0, .int .i64 c0]) ∧ Below w'.heap.size w' w'') := Lib.hid fun w' k => (HMv.out F 0 (by omega) (by omega) w' k).mono fun e w'' ⟨d, c, h, e1, e2⟩ => by
        obtain ⟨h1, h2⟩ := mv_zero (by omega) (by omega) h
        rw [hd0, hc0, ← h1, ← h2]
        exact ⟨e1, e2⟩
      have HD0 := Lib.hid hd0
      have HC0 := Lib.hid hc0
      have HZZ : Hid (∀ (w' : World), (w'.alloc (.cells #[.int .i64 0, .int .i64 0, .int .i64 0] 27)).heap[w'.heap.size]? = some (.cells #[.int .i64 0, .int .i64 0, .int .i64 0] 27 (0, 0))) := Lib.hid fun w' => alnew w' _
      clear hd0 hc0 HMM
      have zm : (m != m) = false := by simp
      go_upto_region 21 with fail
      have hb0 := HB.out.drew
      refine start_ (n := 10) (S := fun w' => w'.cell? ⟨rb, 0, none⟩ = some (.bool (dy 0)) ∧ w'.cell? ⟨rb, 1, none⟩ = some (.bool (dy 1)) ∧ w'.cell? ⟨rb, 2, none⟩ = some (.bool (dy 2)) ∧ w'.cell? ⟨rb, 3, none⟩ = some (.bool (dy 3)) ∧ w'.cell? ⟨rb, 4, none⟩ = some (.bool (dy 4)) ∧ w'.cell? ⟨rb, 5, none⟩ = some (.bool (dy 5)) ∧ w'.cell? ⟨rb, 6, none⟩ = some (.bool (dy 6)) ∧ w'.cell? ⟨rb, 7, none⟩ = some (.slice y1 S.length k1) ∧ w'.cell? ⟨rb, 8, none⟩ = some (.slice y2 E.length k2)) (ds := []) #[false, false, false, false, false, false, false, false, false, false] (by kernel_rfl) rfl rfl (HSS.out _ hb0) (fun hHeld => ?_); refine with_tab sh21_tab (fun HT_ => ?_)
      generalize wr.drew = w6 at hb0 hHeld ⊢
      refine take_ (i := 0) (N := some 78) (v := ?_) (a' := ?_) #[true, false, false, false, false, false, false, false, false, false] rfl rfl (take_of HT_.out (by kernel_rfl)) (fun _ _ _ h => h) (Or.inl ⟨by rfl, ?_⟩) hHeld ?_ ?_
      rotate_left
      · rintro w' ⟨r0, r1, r2, r3, r4, r5, r6, r7, r8⟩
        go_simp
        try with_reducible rfl
      rotate_left
      · simp only [Act.put, List.setIfInBounds_toArray, List.set_cons_zero, List.set_cons_succ]
        rfl
      refine pure_ (i := 1) (N := some 79) (v := ?_) (a' := ?_) #[true, true, false, false, false, false, false, false, false, false] rfl rfl (any_of HT_.out (by kernel_rfl)) (fun _ _ _ h => h) (Or.inl ⟨by rfl, ?_⟩) ?_ ?_
      rotate_left
      · intro w'
        go_simp
        try with_reducible rfl
      rotate_left
      · simp only [Act.put, List.setIfInBounds_toArray, List.set_cons_zero, List.set_cons_succ]
        rfl
      refine join_ (σ := Nat) 2 #[true, true, true, true, true, true, true, true, false, false] (fun g : Nat => [(80, vd (dt F)), (81, .tuple #[vd d0, .int .i64 c0]), (77, .tuple #[vd d0, .int .i64 c0]), (82, vd d0), (83, .int .i64 c0), (22, .pointer (some ⟨g, 0, none⟩))]) (fun g w' => Hid (Below X.heap.size X w' ∧ X.heap.size ≤ g ∧ Bx w' g (0, 0, 0))) (fun g21 w' hF => ?_) (fun hJ => ?_)
      rotate_left
      · skip
        refine two_ (i := 2) (j := 7) (Ni := some 80) (Nj := some 22) #[true, true, true, false, false, false, false, false, false, false] #[true, true, false, false, false, false, false, true, false, false] rfl rfl rfl rfl (two_ofS HT_.out (by kernel_rfl)) (by decide) (by decide) (fun K hK => ?_) (fun K hK => ?_)
        · refine goes_ Tryd.func10 (by kernel_rfl) rfl #[.int .i64 F] (by rfl) rfl rfl (by (try simp only [List.map_toArray, List.map_cons, List.map_nil]); first | done | rfl) ?_
          with_reducible refine (HAF.out _ hb0).mono ?_
          rintro ev wa ⟨rfl, hb_wa0⟩
          have hb_wa := below_step hb0 hb_wa0
          clear hb_wa0
          refine ⟨_, rfl, ?_⟩
          refine hK.out _ _ (HSS.out _ hb_wa) (fun hHeld => ?_)
          clear hK K
          refine norm_ (a' := ?_) ?_ ?_
          rotate_left
          · show Act.put _ (some 80) _ = _
            simp only [Act.put, List.setIfInBounds_toArray, List.set_cons_zero, List.set_cons_succ]
            rfl
          refine two_ (i := 3) (j := 7) (Ni := some 81) (Nj := some 22) #[true, true, true, true, false, false, false, false, false, false] #[true, true, true, false, false, false, false, true, false, false] rfl rfl rfl rfl (two_ofS HT_.out (by kernel_rfl)) (by decide) (by decide) (fun K hK => ?_) (fun K hK => ?_)
          · refine goes_ Tryd.func12 (by kernel_rfl) rfl #[rvV dy (.slice y1 S.length k1) (.slice y2 E.length k2), vd (dt F), .int .i64 0] (by rfl) rfl rfl (by (try simp only [List.map_toArray, List.map_cons, List.map_nil]); first | done | rfl) ?_
            with_reducible refine (HM0.out _ hb_wa).mono ?_
            rintro ev wm ⟨rfl, hb_wm0⟩
            have hb_wm := below_step hb_wa hb_wm0
            clear hb_wm0
            refine ⟨_, rfl, ?_⟩
            refine hK.out _ _ (HSS.out _ hb_wm) (fun hHeld => ?_)
            clear hK K
            refine norm_ (a' := ?_) ?_ ?_
            rotate_left
            · show Act.put _ (some 81) _ = _
              simp only [Act.put, List.setIfInBounds_toArray, List.set_cons_zero, List.set_cons_succ]
              rfl
            refine pure_ (i := 4) (N := some 77) (v := ?_) (a' := ?_) #[true, true, true, true, true, false, false, false, false, false] rfl rfl (any_of HT_.out (by kernel_rfl)) (fun _ _ _ h => h) (Or.inl ⟨by rfl, ?_⟩) ?_ ?_
            rotate_left
            · intro w'
              go_simp
              try with_reducible rfl
            rotate_left
            · simp only [Act.put, List.setIfInBounds_toArray, List.set_cons_zero, List.set_cons_succ]
              rfl
            refine pure_ (i := 5) (N := some 82) (v := ?_) (a' := ?_) #[true, true, true, true, true, true, false, false, false, false] rfl rfl (any_of HT_.out (by kernel_rfl)) (fun _ _ _ h => h) (Or.inl ⟨by rfl, ?_⟩) ?_ ?_
            rotate_left
            · intro w'
              go_simp
              try with_reducible rfl
            rotate_left
            · simp only [Act.put, List.setIfInBounds_toArray, List.set_cons_zero, List.set_cons_succ]
              rfl
            refine pure_ (i := 6) (N := some 83) (v := ?_) (a' := ?_) #[true, true, true, true, true, true, true, false, false, false] rfl rfl (any_of HT_.out (by kernel_rfl)) (fun _ _ _ h => h) (Or.inl ⟨by rfl, ?_⟩) ?_ ?_
            rotate_left
            · intro w'
              go_simp
              try with_reducible rfl
            rotate_left
            · simp only [Act.put, List.setIfInBounds_toArray, List.set_cons_zero, List.set_cons_succ]
              rfl
            refine one_ (i := 7) (N := some 22) #[true, true, true, true, true, true, true, true, false, false] rfl rfl (one_of HT_.out (by kernel_rfl)) (by decide) (fun K hK => ?_)
            refine val_ (v := .pointer (some ⟨wm.heap.size, 0, none⟩)) (w1 := wm.alloc (.cells #[.int .i64 0, .int .i64 0, .int .i64 0] 27)) (by rfl) rfl (by first | (go_simp; done) | (go_simp; rfl)) ?_
            have hbal := below_alloc hb_wm (.cells #[.int .i64 0, .int .i64 0, .int .i64 0] 27)
            have hgz : Bx _ wm.heap.size (0, 0, 0) := HZZ.out wm
            have hgs := hb_wm.size
            refine hK.out _ _ (HSS.out _ hbal) (fun hHeld => ?_)
            clear hK K
            obtain ⟨ga, hga⟩ : ∃ ga, ga = wm.heap.size := ⟨_, rfl⟩
            rw [← hga] at hgz hgs ⊢
            clear hga
            generalize wm.alloc (.cells #[.int .i64 0, .int .i64 0, .int .i64 0] 27) = wz at hbal hgz hHeld ⊢
            refine norm_ (a' := ?_) ?_ ?_
            rotate_left
            · show Act.put _ (some 22) _ = _
              simp only [Act.put, List.setIfInBounds_toArray, List.set_cons_zero, List.set_cons_succ]
              rfl
            exact hJ ga _ (Lib.hid ⟨hbal, hgs, hgz⟩)
          · refine val_ (v := .pointer (some ⟨wa.heap.size, 0, none⟩)) (w1 := wa.alloc (.cells #[.int .i64 0, .int .i64 0, .int .i64 0] 27)) (by rfl) rfl (by first | (go_simp; done) | (go_simp; rfl)) ?_
            have hbal := below_alloc hb_wa (.cells #[.int .i64 0, .int .i64 0, .int .i64 0] 27)
            have hgz : Bx _ wa.heap.size (0, 0, 0) := HZZ.out wa
            have hgs := hb_wa.size
            refine hK.out _ _ (HSS.out _ hbal) (fun hHeld => ?_)
            clear hK K
            obtain ⟨ga, hga⟩ : ∃ ga, ga = wa.heap.size := ⟨_, rfl⟩
            rw [← hga] at hgz hgs ⊢
            clear hga
            generalize wa.alloc (.cells #[.int .i64 0, .int .i64 0, .int .i64 0] 27) = wz at hbal hgz hHeld ⊢
            refine norm_ (a' := ?_) ?_ ?_
            rotate_left
            · show Act.put _ (some 22) _ = _
              simp only [Act.put, List.setIfInBounds_toArray, List.set_cons_zero, List.set_cons_succ]
              rfl
            refine one_ (i := 3) (N := some 81) #[true, true, true, true, false, false, false, true, false, false] rfl rfl (one_of HT_.out (by kernel_rfl)) (by decide) (fun K hK => ?_)
            refine goes_ Tryd.func12 (by kernel_rfl) rfl #[rvV dy (.slice y1 S.length k1) (.slice y2 E.length k2), vd (dt F), .int .i64 0] (by rfl) rfl rfl (by (try simp only [List.map_toArray, List.map_cons, List.map_nil]); first | done | rfl) ?_
            with_reducible refine (HM0.out _ hbal).mono ?_
            rintro ev wm ⟨rfl, hk_wm⟩
            have hb_wm := below_step hbal hk_wm
            refine ⟨_, rfl, ?_⟩
            refine hK.out _ _ (HSS.out _ hb_wm) (fun hHeld => ?_)
            clear hK K
            refine norm_ (a' := ?_) ?_ ?_
            rotate_left
            · show Act.put _ (some 81) _ = _
              simp only [Act.put, List.setIfInBounds_toArray, List.set_cons_zero, List.set_cons_succ]
              rfl
            refine pure_ (i := 4) (N := some 77) (v := ?_) (a' := ?_) #[true, true, true, true, true, false, false, true, false, false] rfl rfl (any_of HT_.out (by kernel_rfl)) (fun _ _ _ h => h) (Or.inl ⟨by rfl, ?_⟩) ?_ ?_
            rotate_left
            · intro w'
              go_simp
              try with_reducible rfl
            rotate_left
            · simp only [Act.put, List.setIfInBounds_toArray, List.set_cons_zero, List.set_cons_succ]
              rfl
            refine pure_ (i := 5) (N := some 82) (v := ?_) (a' := ?_) #[true, true, true, true, true, true, false, true, false, false] rfl rfl (any_of HT_.out (by kernel_rfl)) (fun _ _ _ h => h) (Or.inl ⟨by rfl, ?_⟩) ?_ ?_
            rotate_left
            · intro w'
              go_simp
              try with_reducible rfl
            rotate_left
            · simp only [Act.put, List.setIfInBounds_toArray, List.set_cons_zero, List.set_cons_succ]
              rfl
            refine pure_ (i := 6) (N := some 83) (v := ?_) (a' := ?_) #[true, true, true, true, true, true, true, true, false, false] rfl rfl (any_of HT_.out (by kernel_rfl)) (fun _ _ _ h => h) (Or.inl ⟨by rfl, ?_⟩) ?_ ?_
            rotate_left
            · intro w'
              go_simp
              try with_reducible rfl
            rotate_left
            · simp only [Act.put, List.setIfInBounds_toArray, List.set_cons_zero, List.set_cons_succ]
              rfl
            exact hJ ga _ (Lib.hid ⟨hb_wm, hgs, hgz.below hk_wm⟩)
        · refine val_ (v := .pointer (some ⟨w6.heap.size, 0, none⟩)) (w1 := w6.alloc (.cells #[.int .i64 0, .int .i64 0, .int .i64 0] 27)) (by rfl) rfl (by first | (go_simp; done) | (go_simp; rfl)) ?_
          have hbal := below_alloc hb0 (.cells #[.int .i64 0, .int .i64 0, .int .i64 0] 27)
          have hgz : Bx _ w6.heap.size (0, 0, 0) := HZZ.out w6
          have hgs := hb0.size
          refine hK.out _ _ (HSS.out _ hbal) (fun hHeld => ?_)
          clear hK K
          obtain ⟨ga, hga⟩ : ∃ ga, ga = w6.heap.size := ⟨_, rfl⟩
          rw [← hga] at hgz hgs ⊢
          clear hga
          generalize w6.alloc (.cells #[.int .i64 0, .int .i64 0, .int .i64 0] 27) = wz at hbal hgz hHeld ⊢
          refine norm_ (a' := ?_) ?_ ?_
          rotate_left
          · show Act.put _ (some 22) _ = _
            simp only [Act.put, List.setIfInBounds_toArray, List.set_cons_zero, List.set_cons_succ]
            rfl
          refine one_ (i := 2) (N := some 80) #[true, true, true, false, false, false, false, true, false, false] rfl rfl (one_of HT_.out (by kernel_rfl)) (by decide) (fun K hK => ?_)
          refine goes_ Tryd.func10 (by kernel_rfl) rfl #[.int .i64 F] (by rfl) rfl rfl (by (try simp only [List.map_toArray, List.map_cons, List.map_nil]); first | done | rfl) ?_
          with_reducible refine (HAF.out _ hbal).mono ?_
          rintro ev wa ⟨rfl, hk_wa⟩
          have hb_wa := below_step hbal hk_wa
          refine ⟨_, rfl, ?_⟩
          refine hK.out _ _ (HSS.out _ hb_wa) (fun hHeld => ?_)
          clear hK K
          refine norm_ (a' := ?_) ?_ ?_
          rotate_left
          · show Act.put _ (some 80) _ = _
            simp only [Act.put, List.setIfInBounds_toArray, List.set_cons_zero, List.set_cons_succ]
            rfl
          refine one_ (i := 3) (N := some 81) #[true, true, true, true, false, false, false, true, false, false] rfl rfl (one_of HT_.out (by kernel_rfl)) (by decide) (fun K hK => ?_)
          refine goes_ Tryd.func12 (by kernel_rfl) rfl #[rvV dy (.slice y1 S.length k1) (.slice y2 E.length k2), vd (dt F), .int .i64 0] (by rfl) rfl rfl (by (try simp only [List.map_toArray, List.map_cons, List.map_nil]); first | done | rfl) ?_
          with_reducible refine (HM0.out _ hb_wa).mono ?_
          rintro ev wm ⟨rfl, hk_wm⟩
          have hb_wm := below_step hb_wa hk_wm
          have hk_wm := below_step hk_wa hk_wm
          refine ⟨_, rfl, ?_⟩
          refine hK.out _ _ (HSS.out _ hb_wm) (fun hHeld => ?_)
          clear hK K
          refine norm_ (a' := ?_) ?_ ?_
          rotate_left
          · show Act.put _ (some 81) _ = _
            simp only [Act.put, List.setIfInBounds_toArray, List.set_cons_zero, List.set_cons_succ]
            rfl
          refine pure_ (i := 4) (N := some 77) (v := ?_) (a' := ?_) #[true, true, true, true, true, false, false, true, false, false] rfl rfl (any_of HT_.out (by kernel_rfl)) (fun _ _ _ h => h) (Or.inl ⟨by rfl, ?_⟩) ?_ ?_
          rotate_left
          · intro w'
            go_simp
            try with_reducible rfl
          rotate_left
          · simp only [Act.put, List.setIfInBounds_toArray, List.set_cons_zero, List.set_cons_succ]
            rfl
          refine pure_ (i := 5) (N := some 82) (v := ?_) (a' := ?_) #[true, true, true, true, true, true, false, true, false, false] rfl rfl (any_of HT_.out (by kernel_rfl)) (fun _ _ _ h => h) (Or.inl ⟨by rfl, ?_⟩) ?_ ?_
          rotate_left
          · intro w'
            go_simp
            try with_reducible rfl
          rotate_left
          · simp only [Act.put, List.setIfInBounds_toArray, List.set_cons_zero, List.set_cons_succ]
            rfl
          refine pure_ (i := 6) (N := some 83) (v := ?_) (a' := ?_) #[true, true, true, true, true, true, true, true, false, false] rfl rfl (any_of HT_.out (by kernel_rfl)) (fun _ _ _ h => h) (Or.inl ⟨by rfl, ?_⟩) ?_ ?_
          rotate_left
          · intro w'
            go_simp
            try with_reducible rfl
          rotate_left
          · simp only [Act.put, List.setIfInBounds_toArray, List.set_cons_zero, List.set_cons_succ]
            rfl
          exact hJ ga _ (Lib.hid ⟨hb_wm, hgs, hgz.below hk_wm⟩)
      have hbF := hF.out.1
      have hgF := hF.out.2.1
      have hzF := hF.out.2.2
      clear hHeld
      have hHeld := HSS.out _ hbF
      refine norm_ (a' := ?_) ?_ ?_
      rotate_left
      · show putAll _ _ = _
        simp only [putAll, Act.put, List.setIfInBounds_toArray, List.set_cons_zero, List.set_cons_succ]
        rfl
      have e0 := hzF.c0
      have e1 := hzF.c1
      have e2 := hzF.c2
      obtain ⟨f0, f1, f2⟩ := frz3 hzF
      refine one_ (i := 8) (N := none) #[true, true, true, true, true, true, true, true, true, false] rfl rfl (one_of HT_.out (by kernel_rfl)) (by decide) (fun K hK => ?_)
      refine skip_ (w1 := ((w'.setCell ⟨g21, 0, none⟩ (.int .i64 (d0).1)).setCell ⟨g21, 1, none⟩ (.int .i64 (d0).2.1)).setCell ⟨g21, 2, none⟩ (.int .i64 (d0).2.2)) (by rfl) rfl (by first | (go_simp; done) | (go_simp; rfl)) ?_
      have hb21 := below3 hbF hgF (.int .i64 (d0).1) (.int .i64 (d0).2.1) (.int .i64 (d0).2.2)
      have hx21 : Bx _ g21 d0 := bx3 (u := d0) hzF
      refine hK.out _ _ (HSS.out _ hb21) (fun hHeld => ?_)
      clear hK K
      generalize ((w'.setCell ⟨g21, 0, none⟩ (.int .i64 (d0).1)).setCell ⟨g21, 1, none⟩ (.int .i64 (d0).2.1)).setCell ⟨g21, 2, none⟩ (.int .i64 (d0).2.2) = wq21 at hb21 hx21 hHeld ⊢
      refine pure_ (i := 9) (N := some 23) (v := ?_) (a' := ?_) #[true, true, true, true, true, true, true, true, true, true] rfl rfl (any_of HT_.out (by kernel_rfl)) (fun _ _ _ h => h) (Or.inl ⟨by rfl, ?_⟩) ?_ ?_
      rotate_left
      · intro w'
        go_simp
        try with_reducible rfl
      rotate_left
      · simp only [Act.put, List.setIfInBounds_toArray, List.set_cons_zero, List.set_cons_succ]
        rfl
      refine done_ (done_of HT_.out (by kernel_rfl)) ?_
      have HB21 := Lib.hid hb21
      have HX21 := Lib.hid hx21
      clear hb21 hx21 hF hbF hgF hzF hHeld e0 e1 e2 f0 f1 f2 hb0
      go_upto_region 22 with fail
      go_cut [110] from 84 to 110 (fun v wx => v = .bool false ∧ Hid (Below X.heap.size X wx))
      case first =>
        obtain ⟨wr, hwr⟩ : ∃ wr, wr = wq21 := ⟨_, rfl⟩
        rw [← hwr] at HB21 HX21 ⊢
        clear hwr
        have hb0 : Below wr.heap.size wr wr.drew := (Below.refl _ _).drew
        by_cases h1 : fi = F
        · have hm : 0 < m := by
            have := HQ.out.m0
            by_cases z : m = 0
            · have := (HQ.out.none z).1
              omega
            · omega
          have hFi : F < i := by
            obtain ⟨a, b, c, _⟩ := HQ.out.some hm
            omega
          have hof : opn dy S E F = true := by
            obtain ⟨a, b, c, o1, _⟩ := HQ.out.some hm
            rw [h1] at o1
            exact o1
          have hd : d0 = dt F := by rw [HD0.out, if_pos hof]
          have hc : c0 = 0 := by rw [HC0.out, if_pos hof]
          subst hd
          subst hc
          have HS2 : Hid (∀ w', Below wr.heap.size wr w' → (w'.cell? ⟨g21, 0, none⟩ = some (.int .i64 (dt F).1) ∧ w'.cell? ⟨g21, 1, none⟩ = some (.int .i64 (dt F).2.1) ∧ w'.cell? ⟨g21, 2, none⟩ = some (.int .i64 (dt F).2.2))) := Lib.hid fun w' k => HX21.out.b3 k
          have q1 : (fi == F) = true := by simp [h1]
          have q2 : (fi != F) = false := by simp [h1]
          have q3 : decide (F < i) = true := decide_eq_true hFi
          have q4 : decide (i > F) = true := decide_eq_true hFi
          clear hof h1 hm hFi HD0 HC0
          refine start_ (n := 27) (S := fun w' => w'.cell? ⟨g21, 0, none⟩ = some (.int .i64 (dt F).1) ∧ w'.cell? ⟨g21, 1, none⟩ = some (.int .i64 (dt F).2.1) ∧ w'.cell? ⟨g21, 2, none⟩ = some (.int .i64 (dt F).2.2)) (ds := []) #[false, false, false, false, false, false, false, false, false, false, false, false, false, false, false, false, false, false, false, false, false, false, false, false, false, false, false] (by kernel_rfl) rfl rfl (HS2.out _ hb0) (fun hHeld => ?_); refine with_tab sh22_tab (fun HT_ => ?_)
          generalize wr.drew = w6 at hb0 hHeld ⊢
          refine pure_ (i := 0) (N := some 84) (v := ?_) (a' := ?_) #[true, false, false, false, false, false, false, false, false, false, false, false, false, false, false, false, false, false, false, false, false, false, false, false, false, false, false] rfl rfl (any_of HT_.out (by kernel_rfl)) (fun _ _ _ h => h) (Or.inl ⟨by rfl, ?_⟩) ?_ ?_
          rotate_left
          · intro w'
            go_simp
            try with_reducible rfl
          rotate_left
          · simp only [Act.put, List.setIfInBounds_toArray, List.set_cons_zero, List.set_cons_succ]
            rfl
          refine pure_ (i := 1) (N := some 85) (v := ?_) (a' := ?_) #[true, true, false, false, false, false, false, false, false, false, false, false, false, false, false, false, false, false, false, false, false, false, false, false, false, false, false] rfl rfl (any_of HT_.out (by kernel_rfl)) (fun _ _ _ h => h) (Or.inl ⟨by rfl, ?_⟩) ?_ ?_
          rotate_left
          · intro w'
            go_simp
            try with_reducible rfl
          rotate_left
          · simp only [Act.put, List.setIfInBounds_toArray, List.set_cons_zero, List.set_cons_succ]
            rfl
          refine pure_ (i := 2) (N := some 86) (v := ?_) (a' := ?_) #[true, true, true, false, false, false, false, false, false, false, false, false, false, false, false, false, false, false, false, false, false, false, false, false, false, false, false] rfl rfl (any_of HT_.out (by kernel_rfl)) (fun _ _ _ h => h) (Or.inl ⟨by rfl, ?_⟩) ?_ ?_
          rotate_left
          · intro w'
            go_simp
            try with_reducible rfl
          rotate_left
          · simp only [Act.put, List.setIfInBounds_toArray, List.set_cons_zero, List.set_cons_succ]
            rfl
          refine pure_ (i := 3) (N := some 87) (v := ?_) (a' := ?_) #[true, true, true, true, false, false, false, false, false, false, false, false, false, false, false, false, false, false, false, false, false, false, false, false, false, false, false] rfl rfl (any_of HT_.out (by kernel_rfl)) (fun _ _ _ h => h) (Or.inl ⟨by rfl, ?_⟩) ?_ ?_
          rotate_left
          · intro w'
            go_simp
            try with_reducible rfl
          rotate_left
          · simp only [Act.put, List.setIfInBounds_toArray, List.set_cons_zero, List.set_cons_succ]
            rfl
          refine pure_ (i := 4) (N := some 88) (v := ?_) (a' := ?_) #[true, true, true, true, true, false, false, false, false, false, false, false, false, false, false, false, false, false, false, false, false, false, false, false, false, false, false] rfl rfl (any_of HT_.out (by kernel_rfl)) (fun _ _ _ h => h) (Or.inl ⟨by rfl, ?_⟩) ?_ ?_
          rotate_left
          · intro w'
            go_simp
            try with_reducible rfl
          rotate_left
          · simp only [Act.put, List.setIfInBounds_toArray, List.set_cons_zero, List.set_cons_succ]
            rfl
          refine pure_ (i := 5) (N := some 89) (v := ?_) (a' := ?_) #[true, true, true, true, true, true, false, false, false, false, false, false, false, false, false, false, false, false, false, false, false, false, false, false, false, false, false] rfl rfl (any_of HT_.out (by kernel_rfl)) (fun _ _ _ h => h) (Or.inl ⟨by rfl, ?_⟩) ?_ ?_
          rotate_left
          · intro w'
            go_simp
            try with_reducible rfl
          rotate_left
          · simp only [Act.put, List.setIfInBounds_toArray, List.set_cons_zero, List.set_cons_succ]
            rfl
          refine pure_ (i := 6) (N := some 90) (v := ?_) (a' := ?_) #[true, true, true, true, true, true, true, false, false, false, false, false, false, false, false, false, false, false, false, false, false, false, false, false, false, false, false] rfl rfl (any_of HT_.out (by kernel_rfl)) (fun _ _ _ h => h) (Or.inl ⟨by rfl, ?_⟩) ?_ ?_
          rotate_left
          · intro w'
            go_simp
            try with_reducible rfl
          rotate_left
          · simp only [Act.put, List.setIfInBounds_toArray, List.set_cons_zero, List.set_cons_succ]
            rfl
          refine take_ (i := 7) (N := some 91) (v := ?_) (a' := ?_) #[true, true, true, true, true, true, true, true, false, false, false, false, false, false, false, false, false, false, false, false, false, false, false, false, false, false, false] rfl rfl (take_of HT_.out (by kernel_rfl)) (fun _ _ _ h => h) (Or.inl ⟨by rfl, ?_⟩) hHeld ?_ ?_
          rotate_left
          · rintro w' ⟨s1, s2, s3⟩
            go_simp
            try with_reducible rfl
          rotate_left
          · simp only [Act.put, List.setIfInBounds_toArray, List.set_cons_zero, List.set_cons_succ]
            rfl
          refine pure_ (i := 8) (N := some 92) (v := ?_) (a' := ?_) #[true, true, true, true, true, true, true, true, true, false, false, false, false, false, false, false, false, false, false, false, false, false, false, false, false, false, false] rfl rfl (any_of HT_.out (by kernel_rfl)) (fun _ _ _ h => h) (Or.inl ⟨by rfl, ?_⟩) ?_ ?_
          rotate_left
          · intro w'
            go_simp
            try with_reducible rfl
          rotate_left
          · simp only [Act.put, List.setIfInBounds_toArray, List.set_cons_zero, List.set_cons_succ]
            rfl
          refine one_ (i := 9) (N := some 93) #[true, true, true, true, true, true, true, true, true, true, false, false, false, false, false, false, false, false, false, false, false, false, false, false, false, false, false] rfl rfl (one_of HT_.out (by kernel_rfl)) (by decide) (fun K hK => ?_)
          refine goes_ Tryd.func10 (by kernel_rfl) rfl #[.int .i64 F] (by rfl) rfl rfl (by (try simp only [List.map_toArray, List.map_cons, List.map_nil]); first | done | rfl) ?_
          with_reducible refine (HAF.out _ (below_step HB21.out hb0)).mono ?_
          rintro ev w20 ⟨rfl, hbc0⟩
          have hbc0' := hb0.trans (hbc0.mono hb0.size)
          refine ⟨_, rfl, ?_⟩
          refine hK.out _ _ (HS2.out _ hbc0') (fun hHeld => ?_)
          clear hK K
          refine norm_ (a' := ?_) ?_ ?_
          rotate_left
          · show Act.put _ (some 93) _ = _
            simp only [Act.put, List.setIfInBounds_toArray, List.set_cons_zero, List.set_cons_succ]
            rfl
          refine pure_ (i := 10) (N := some 94) (v := ?_) (a' := ?_) #[true, true, true, true, true, true, true, true, true, true, true, false, false, false, false, false, false, false, false, false, false, false, false, false, false, false, false] rfl rfl (any_of HT_.out (by kernel_rfl)) (fun _ _ _ h => h) (Or.inl ⟨by rfl, ?_⟩) ?_ ?_
          rotate_left
          · intro w'
            go_simp
            try with_reducible rfl
          rotate_left
          · simp only [Act.put, List.setIfInBounds_toArray, List.set_cons_zero, List.set_cons_succ]
            rfl
          refine pure_ (i := 11) (N := some 95) (v := ?_) (a' := ?_) #[true, true, true, true, true, true, true, true, true, true, true, true, false, false, false, false, false, false, false, false, false, false, false, false, false, false, false] rfl rfl (any_of HT_.out (by kernel_rfl)) (fun _ _ _ h => h) (Or.inl ⟨by rfl, ?_⟩) ?_ ?_
          rotate_left
          · intro w'
            go_simp
            try with_reducible rfl
          rotate_left
          · simp only [Act.put, List.setIfInBounds_toArray, List.set_cons_zero, List.set_cons_succ]
            rfl
          refine pure_ (i := 12) (N := some 96) (v := ?_) (a' := ?_) #[true, true, true, true, true, true, true, true, true, true, true, true, true, false, false, false, false, false, false, false, false, false, false, false, false, false, false] rfl rfl (any_of HT_.out (by kernel_rfl)) (fun _ _ _ h => h) (Or.inl ⟨by rfl, ?_⟩) ?_ ?_
          rotate_left
          · intro w'
            go_simp
            try with_reducible rfl
          rotate_left
          · simp only [Act.put, List.setIfInBounds_toArray, List.set_cons_zero, List.set_cons_succ]
            rfl
          refine pure_ (i := 13) (N := some 97) (v := ?_) (a' := ?_) #[true, true, true, true, true, true, true, true, true, true, true, true, true, true, false, false, false, false, false, false, false, false, false, false, false, false, false] rfl rfl (any_of HT_.out (by kernel_rfl)) (fun _ _ _ h => h) (Or.inl ⟨by rfl, ?_⟩) ?_ ?_
          rotate_left
          · intro w'
            go_simp
            try with_reducible rfl
          rotate_left
          · simp only [Act.put, List.setIfInBounds_toArray, List.set_cons_zero, List.set_cons_succ]
            rfl
          refine pure_ (i := 14) (N := some 98) (v := ?_) (a' := ?_) #[true, true, true, true, true, true, true, true, true, true, true, true, true, true, true, false, false, false, false, false, false, false, false, false, false, false, false] rfl rfl (any_of HT_.out (by kernel_rfl)) (fun _ _ _ h => h) (Or.inl ⟨by rfl, ?_⟩) ?_ ?_
          rotate_left
          · intro w'
            go_simp
            try with_reducible rfl
          rotate_left
          · simp only [Act.put, List.setIfInBounds_toArray, List.set_cons_zero, List.set_cons_succ]
            rfl
          refine pure_ (i := 15) (N := some 99) (v := ?_) (a' := ?_) #[true, true, true, true, true, true, true, true, true, true, true, true, true, true, true, true, false, false, false, false, false, false, false, false, false, false, false] rfl rfl (any_of HT_.out (by kernel_rfl)) (fun _ _ _ h => h) (Or.inl ⟨by rfl, ?_⟩) ?_ ?_
          rotate_left
          · intro w'
            go_simp
            try with_reducible rfl
          rotate_left
          · simp only [Act.put, List.setIfInBounds_toArray, List.set_cons_zero, List.set_cons_succ]
            rfl
          refine pure_ (i := 16) (N := some 100) (v := ?_) (a' := ?_) #[true, true, true, true, true, true, true, true, true, true, true, true, true, true, true, true, true, false, false, false, false, false, false, false, false, false, false] rfl rfl (any_of HT_.out (by kernel_rfl)) (fun _ _ _ h => h) (Or.inl ⟨by rfl, ?_⟩) ?_ ?_
          rotate_left
          · intro w'
            go_simp
            try with_reducible rfl
          rotate_left
          · simp only [Act.put, List.setIfInBounds_toArray, List.set_cons_zero, List.set_cons_succ]
            rfl
          refine pure_ (i := 17) (N := some 101) (v := ?_) (a' := ?_) #[true, true, true, true, true, true, true, true, true, true, true, true, true, true, true, true, true, true, false, false, false, false, false, false, false, false, false] rfl rfl (any_of HT_.out (by kernel_rfl)) (fun _ _ _ h => h) (Or.inl ⟨by rfl, ?_⟩) ?_ ?_
          rotate_left
          · intro w'
            go_simp
            try with_reducible rfl
          rotate_left
          · simp only [Act.put, List.setIfInBounds_toArray, List.set_cons_zero, List.set_cons_succ]
            rfl
          refine pure_ (i := 18) (N := some 102) (v := ?_) (a' := ?_) #[true, true, true, true, true, true, true, true, true, true, true, true, true, true, true, true, true, true, true, false, false, false, false, false, false, false, false] rfl rfl (any_of HT_.out (by kernel_rfl)) (fun _ _ _ h => h) (Or.inl ⟨by rfl, ?_⟩) ?_ ?_
          rotate_left
          · intro w'
            go_simp
            try with_reducible rfl
          rotate_left
          · simp only [Act.put, List.setIfInBounds_toArray, List.set_cons_zero, List.set_cons_succ]
            rfl
          refine pure_ (i := 19) (N := some 103) (v := ?_) (a' := ?_) #[true, true, true, true, true, true, true, true, true, true, true, true, true, true, true, true, true, true, true, true, false, false, false, false, false, false, false] rfl rfl (any_of HT_.out (by kernel_rfl)) (fun _ _ _ h => h) (Or.inl ⟨by rfl, ?_⟩) ?_ ?_
          rotate_left
          · intro w'
            go_simp
            try with_reducible rfl
          rotate_left
          · simp only [Act.put, List.setIfInBounds_toArray, List.set_cons_zero, List.set_cons_succ]
            rfl
          refine pure_ (i := 20) (N := some 104) (v := ?_) (a' := ?_) #[true, true, true, true, true, true, true, true, true, true, true, true, true, true, true, true, true, true, true, true, true, false, false, false, false, false, false] rfl rfl (any_of HT_.out (by kernel_rfl)) (fun _ _ _ h => h) (Or.inl ⟨by rfl, ?_⟩) ?_ ?_
          rotate_left
          · intro w'
            go_simp
            try with_reducible rfl
          rotate_left
          · simp only [Act.put, List.setIfInBounds_toArray, List.set_cons_zero, List.set_cons_succ]
            rfl
          refine pure_ (i := 21) (N := some 105) (v := ?_) (a' := ?_) #[true, true, true, true, true, true, true, true, true, true, true, true, true, true, true, true, true, true, true, true, true, true, false, false, false, false, false] rfl rfl (any_of HT_.out (by kernel_rfl)) (fun _ _ _ h => h) (Or.inl ⟨by rfl, ?_⟩) ?_ ?_
          rotate_left
          · intro w'
            go_simp
            try with_reducible rfl
          rotate_left
          · simp only [Act.put, List.setIfInBounds_toArray, List.set_cons_zero, List.set_cons_succ]
            rfl
          refine pure_ (i := 22) (N := some 106) (v := ?_) (a' := ?_) #[true, true, true, true, true, true, true, true, true, true, true, true, true, true, true, true, true, true, true, true, true, true, true, false, false, false, false] rfl rfl (any_of HT_.out (by kernel_rfl)) (fun _ _ _ h => h) (Or.inl ⟨by rfl, ?_⟩) ?_ ?_
          rotate_left
          · intro w'
            go_simp
            try with_reducible rfl
          rotate_left
          · simp only [Act.put, List.setIfInBounds_toArray, List.set_cons_zero, List.set_cons_succ]
            rfl
          refine pure_ (i := 23) (N := some 107) (v := undef) (a' := ?_) #[true, true, true, true, true, true, true, true, true, true, true, true, true, true, true, true, true, true, true, true, true, true, true, true, false, false, false] rfl rfl (any_of HT_.out (by kernel_rfl)) (fun _ _ _ h => h) (Or.inr ⟨by rfl, rfl⟩) ?_ ?_
          rotate_left
          · simp only [Act.put, List.setIfInBounds_toArray, List.set_cons_zero, List.set_cons_succ]
            rfl
          refine pure_ (i := 24) (N := some 108) (v := undef) (a' := ?_) #[true, true, true, true, true, true, true, true, true, true, true, true, true, true, true, true, true, true, true, true, true, true, true, true, true, false, false] rfl rfl (any_of HT_.out (by kernel_rfl)) (fun _ _ _ h => h) (Or.inr ⟨by rfl, rfl⟩) ?_ ?_
          rotate_left
          · simp only [Act.put, List.setIfInBounds_toArray, List.set_cons_zero, List.set_cons_succ]
            rfl
          refine pure_ (i := 25) (N := some 109) (v := ?_) (a' := ?_) #[true, true, true, true, true, true, true, true, true, true, true, true, true, true, true, true, true, true, true, true, true, true, true, true, true, true, false] rfl rfl (any_of HT_.out (by kernel_rfl)) (fun _ _ _ h => h) (Or.inl ⟨by rfl, ?_⟩) ?_ ?_
          rotate_left
          · intro w'
            go_simp
            try with_reducible rfl
          rotate_left
          · simp only [Act.put, List.setIfInBounds_toArray, List.set_cons_zero, List.set_cons_succ]
            rfl
          refine pure_ (i := 26) (N := some 110) (v := ?_) (a' := ?_) #[true, true, true, true, true, true, true, true, true, true, true, true, true, true, true, true, true, true, true, true, true, true, true, true, true, true, true] rfl rfl (any_of HT_.out (by kernel_rfl)) (fun _ _ _ h => h) (Or.inl ⟨by rfl, ?_⟩) ?_ ?_
          rotate_left
          · intro w'
            go_simp
            try with_reducible rfl
          rotate_left
          · simp only [Act.put, List.setIfInBounds_toArray, List.set_cons_zero, List.set_cons_succ]
            rfl
          refine done_ (done_of HT_.out (by kernel_rfl)) ?_
          go_wp2_with fail
          go_meet
          exact ⟨rfl, Lib.hid (below_step HB21.out hbc0')⟩
        · have q1 : (fi == F) = false := by simp [h1]
          have q2 : (fi != F) = true := by simp [h1]
          have HS2 : Hid (∀ w', Below wr.heap.size wr w' → (w'.cell? ⟨g21, 0, none⟩ = some (.int .i64 d0.1) ∧ w'.cell? ⟨g21, 1, none⟩ = some (.int .i64 d0.2.1) ∧ w'.cell? ⟨g21, 2, none⟩ = some (.int .i64 d0.2.2))) := Lib.hid fun w' k => HX21.out.b3 k
          by_cases hFi : F < i
          · have q3 : decide (F < i) = true := decide_eq_true hFi
            have q4 : decide (i > F) = true := decide_eq_true hFi
            have hof := shp_first HGR.out HQ.out (by omega) hFi h1
            have hc : c0 = 37 := by rw [HC0.out, if_neg (by rw [hof]; simp)]
            subst hc
            clear hof h1 HD0 HC0
            refine start_ (n := 27) (S := fun w' => w'.cell? ⟨g21, 0, none⟩ = some (.int .i64 d0.1) ∧ w'.cell? ⟨g21, 1, none⟩ = some (.int .i64 d0.2.1) ∧ w'.cell? ⟨g21, 2, none⟩ = some (.int .i64 d0.2.2)) (ds := []) #[false, false, false, false, false, false, false, false, false, false, false, false, false, false, false, false, false, false, false, false, false, false, false, false, false, false, false] (by kernel_rfl) rfl rfl (HS2.out _ hb0) (fun hHeld => ?_); refine with_tab sh22_tab (fun HT_ => ?_)
            generalize wr.drew = w6 at hb0 hHeld ⊢
            refine pure_ (i := 0) (N := some 84) (v := ?_) (a' := ?_) #[true, false, false, false, false, false, false, false, false, false, false, false, false, false, false, false, false, false, false, false, false, false, false, false, false, false, false] rfl rfl (any_of HT_.out (by kernel_rfl)) (fun _ _ _ h => h) (Or.inl ⟨by rfl, ?_⟩) ?_ ?_
            rotate_left
            · intro w'
              go_simp
              try with_reducible rfl
            rotate_left
            · simp only [Act.put, List.setIfInBounds_toArray, List.set_cons_zero, List.set_cons_succ]
              rfl
            refine pure_ (i := 1) (N := some 85) (v := ?_) (a' := ?_) #[true, true, false, false, false, false, false, false, false, false, false, false, false, false, false, false, false, false, false, false, false, false, false, false, false, false, false] rfl rfl (any_of HT_.out (by kernel_rfl)) (fun _ _ _ h => h) (Or.inl ⟨by rfl, ?_⟩) ?_ ?_
            rotate_left
            · intro w'
              go_simp
              try with_reducible rfl
            rotate_left
            · simp only [Act.put, List.setIfInBounds_toArray, List.set_cons_zero, List.set_cons_succ]
              rfl
            refine pure_ (i := 2) (N := some 86) (v := ?_) (a' := ?_) #[true, true, true, false, false, false, false, false, false, false, false, false, false, false, false, false, false, false, false, false, false, false, false, false, false, false, false] rfl rfl (any_of HT_.out (by kernel_rfl)) (fun _ _ _ h => h) (Or.inl ⟨by rfl, ?_⟩) ?_ ?_
            rotate_left
            · intro w'
              go_simp
              try with_reducible rfl
            rotate_left
            · simp only [Act.put, List.setIfInBounds_toArray, List.set_cons_zero, List.set_cons_succ]
              rfl
            refine pure_ (i := 3) (N := some 87) (v := ?_) (a' := ?_) #[true, true, true, true, false, false, false, false, false, false, false, false, false, false, false, false, false, false, false, false, false, false, false, false, false, false, false] rfl rfl (any_of HT_.out (by kernel_rfl)) (fun _ _ _ h => h) (Or.inl ⟨by rfl, ?_⟩) ?_ ?_
            rotate_left
            · intro w'
              go_simp
              try with_reducible rfl
            rotate_left
            · simp only [Act.put, List.setIfInBounds_toArray, List.set_cons_zero, List.set_cons_succ]
              rfl
            refine pure_ (i := 4) (N := some 88) (v := undef) (a' := ?_) #[true, true, true, true, true, false, false, false, false, false, false, false, false, false, false, false, false, false, false, false, false, false, false, false, false, false, false] rfl rfl (any_of HT_.out (by kernel_rfl)) (fun _ _ _ h => h) (Or.inr ⟨by rfl, rfl⟩) ?_ ?_
            rotate_left
            · simp only [Act.put, List.setIfInBounds_toArray, List.set_cons_zero, List.set_cons_succ]
              rfl
            refine pure_ (i := 5) (N := some 89) (v := undef) (a' := ?_) #[true, true, true, true, true, true, false, false, false, false, false, false, false, false, false, false, false, false, false, false, false, false, false, false, false, false, false] rfl rfl (any_of HT_.out (by kernel_rfl)) (fun _ _ _ h => h) (Or.inr ⟨by rfl, rfl⟩) ?_ ?_
            rotate_left
            · simp only [Act.put, List.setIfInBounds_toArray, List.set_cons_zero, List.set_cons_succ]
              rfl
            refine pure_ (i := 6) (N := some 90) (v := undef) (a' := ?_) #[true, true, true, true, true, true, true, false, false, false, false, false, false, false, false, false, false, false, false, false, false, false, false, false, false, false, false] rfl rfl (any_of HT_.out (by kernel_rfl)) (fun _ _ _ h => h) (Or.inr ⟨by rfl, rfl⟩) ?_ ?_
            rotate_left
            · simp only [Act.put, List.setIfInBounds_toArray, List.set_cons_zero, List.set_cons_succ]
              rfl
            refine pure_ (i := 7) (N := some 91) (v := undef) (a' := ?_) #[true, true, true, true, true, true, true, true, false, false, false, false, false, false, false, false, false, false, false, false, false, false, false, false, false, false, false] rfl rfl (any_of HT_.out (by kernel_rfl)) (fun _ _ _ h => h) (Or.inr ⟨by rfl, rfl⟩) ?_ ?_
            rotate_left
            · simp only [Act.put, List.setIfInBounds_toArray, List.set_cons_zero, List.set_cons_succ]
              rfl
            refine pure_ (i := 8) (N := some 92) (v := undef) (a' := ?_) #[true, true, true, true, true, true, true, true, true, false, false, false, false, false, false, false, false, false, false, false, false, false, false, false, false, false, false] rfl rfl (any_of HT_.out (by kernel_rfl)) (fun _ _ _ h => h) (Or.inr ⟨by rfl, rfl⟩) ?_ ?_
            rotate_left
            · simp only [Act.put, List.setIfInBounds_toArray, List.set_cons_zero, List.set_cons_succ]
              rfl
            refine one_ (i := 9) (N := some 93) #[true, true, true, true, true, true, true, true, true, true, false, false, false, false, false, false, false, false, false, false, false, false, false, false, false, false, false] rfl rfl (one_of HT_.out (by kernel_rfl)) (by decide) (fun K hK => ?_)
            refine off_ (by rfl) ?_
            refine hK.out _ _ hHeld (fun hHeld => ?_)
            clear hK K
            refine norm_ (a' := ?_) ?_ ?_
            rotate_left
            · show Act.put _ (some 93) _ = _
              simp only [Act.put, List.setIfInBounds_toArray, List.set_cons_zero, List.set_cons_succ]
              rfl
            refine pure_ (i := 10) (N := some 94) (v := undef) (a' := ?_) #[true, true, true, true, true, true, true, true, true, true, true, false, false, false, false, false, false, false, false, false, false, false, false, false, false, false, false] rfl rfl (any_of HT_.out (by kernel_rfl)) (fun _ _ _ h => h) (Or.inr ⟨by rfl, rfl⟩) ?_ ?_
            rotate_left
            · simp only [Act.put, List.setIfInBounds_toArray, List.set_cons_zero, List.set_cons_succ]
              rfl
            refine pure_ (i := 11) (N := some 95) (v := undef) (a' := ?_) #[true, true, true, true, true, true, true, true, true, true, true, true, false, false, false, false, false, false, false, false, false, false, false, false, false, false, false] rfl rfl (any_of HT_.out (by kernel_rfl)) (fun _ _ _ h => h) (Or.inr ⟨by rfl, rfl⟩) ?_ ?_
            rotate_left
            · simp only [Act.put, List.setIfInBounds_toArray, List.set_cons_zero, List.set_cons_succ]
              rfl
            refine pure_ (i := 12) (N := some 96) (v := ?_) (a' := ?_) #[true, true, true, true, true, true, true, true, true, true, true, true, true, false, false, false, false, false, false, false, false, false, false, false, false, false, false] rfl rfl (any_of HT_.out (by kernel_rfl)) (fun _ _ _ h => h) (Or.inl ⟨by rfl, ?_⟩) ?_ ?_
            rotate_left
            · intro w'
              go_simp
              try with_reducible rfl
            rotate_left
            · simp only [Act.put, List.setIfInBounds_toArray, List.set_cons_zero, List.set_cons_succ]
              rfl
            refine pure_ (i := 13) (N := some 97) (v := ?_) (a' := ?_) #[true, true, true, true, true, true, true, true, true, true, true, true, true, true, false, false, false, false, false, false, false, false, false, false, false, false, false] rfl rfl (any_of HT_.out (by kernel_rfl)) (fun _ _ _ h => h) (Or.inl ⟨by rfl, ?_⟩) ?_ ?_
            rotate_left
            · intro w'
              go_simp
              try with_reducible rfl
            rotate_left
            · simp only [Act.put, List.setIfInBounds_toArray, List.set_cons_zero, List.set_cons_succ]
              rfl
            refine pure_ (i := 14) (N := some 98) (v := ?_) (a' := ?_) #[true, true, true, true, true, true, true, true, true, true, true, true, true, true, true, false, false, false, false, false, false, false, false, false, false, false, false] rfl rfl (any_of HT_.out (by kernel_rfl)) (fun _ _ _ h => h) (Or.inl ⟨by rfl, ?_⟩) ?_ ?_
            rotate_left
            · intro w'
              go_simp
              try with_reducible rfl
            rotate_left
            · simp only [Act.put, List.setIfInBounds_toArray, List.set_cons_zero, List.set_cons_succ]
              rfl
            refine pure_ (i := 15) (N := some 99) (v := ?_) (a' := ?_) #[true, true, true, true, true, true, true, true, true, true, true, true, true, true, true, true, false, false, false, false, false, false, false, false, false, false, false] rfl rfl (any_of HT_.out (by kernel_rfl)) (fun _ _ _ h => h) (Or.inl ⟨by rfl, ?_⟩) ?_ ?_
            rotate_left
            · intro w'
              go_simp
              try with_reducible rfl
            rotate_left
            · simp only [Act.put, List.setIfInBounds_toArray, List.set_cons_zero, List.set_cons_succ]
              rfl
            refine pure_ (i := 16) (N := some 100) (v := ?_) (a' := ?_) #[true, true, true, true, true, true, true, true, true, true, true, true, true, true, true, true, true, false, false, false, false, false, false, false, false, false, false] rfl rfl (any_of HT_.out (by kernel_rfl)) (fun _ _ _ h => h) (Or.inl ⟨by rfl, ?_⟩) ?_ ?_
            rotate_left
            · intro w'
              go_simp
              try with_reducible rfl
            rotate_left
            · simp only [Act.put, List.setIfInBounds_toArray, List.set_cons_zero, List.set_cons_succ]
              rfl
            refine pure_ (i := 17) (N := some 101) (v := ?_) (a' := ?_) #[true, true, true, true, true, true, true, true, true, true, true, true, true, true, true, true, true, true, false, false, false, false, false, false, false, false, false] rfl rfl (any_of HT_.out (by kernel_rfl)) (fun _ _ _ h => h) (Or.inl ⟨by rfl, ?_⟩) ?_ ?_
            rotate_left
            · intro w'
              go_simp
              try with_reducible rfl
            rotate_left
            · simp only [Act.put, List.setIfInBounds_toArray, List.set_cons_zero, List.set_cons_succ]
              rfl
            refine pure_ (i := 18) (N := some 102) (v := ?_) (a' := ?_) #[true, true, true, true, true, true, true, true, true, true, true, true, true, true, true, true, true, true, true, false, false, false, false, false, false, false, false] rfl rfl (any_of HT_.out (by kernel_rfl)) (fun _ _ _ h => h) (Or.inl ⟨by rfl, ?_⟩) ?_ ?_
            rotate_left
            · intro w'
              go_simp
              try with_reducible rfl
            rotate_left
            · simp only [Act.put, List.setIfInBounds_toArray, List.set_cons_zero, List.set_cons_succ]
              rfl
            refine pure_ (i := 19) (N := some 103) (v := ?_) (a' := ?_) #[true, true, true, true, true, true, true, true, true, true, true, true, true, true, true, true, true, true, true, true, false, false, false, false, false, false, false] rfl rfl (any_of HT_.out (by kernel_rfl)) (fun _ _ _ h => h) (Or.inl ⟨by rfl, ?_⟩) ?_ ?_
            rotate_left
            · intro w'
              go_simp
              try with_reducible rfl
            rotate_left
            · simp only [Act.put, List.setIfInBounds_toArray, List.set_cons_zero, List.set_cons_succ]
              rfl
            refine pure_ (i := 20) (N := some 104) (v := ?_) (a' := ?_) #[true, true, true, true, true, true, true, true, true, true, true, true, true, true, true, true, true, true, true, true, true, false, false, false, false, false, false] rfl rfl (any_of HT_.out (by kernel_rfl)) (fun _ _ _ h => h) (Or.inl ⟨by rfl, ?_⟩) ?_ ?_
            rotate_left
            · intro w'
              go_simp
              try with_reducible rfl
            rotate_left
            · simp only [Act.put, List.setIfInBounds_toArray, List.set_cons_zero, List.set_cons_succ]
              rfl
            refine pure_ (i := 21) (N := some 105) (v := ?_) (a' := ?_) #[true, true, true, true, true, true, true, true, true, true, true, true, true, true, true, true, true, true, true, true, true, true, false, false, false, false, false] rfl rfl (any_of HT_.out (by kernel_rfl)) (fun _ _ _ h => h) (Or.inl ⟨by rfl, ?_⟩) ?_ ?_
            rotate_left
            · intro w'
              go_simp
              try with_reducible rfl
            rotate_left
            · simp only [Act.put, List.setIfInBounds_toArray, List.set_cons_zero, List.set_cons_succ]
              rfl
            refine pure_ (i := 22) (N := some 106) (v := ?_) (a' := ?_) #[true, true, true, true, true, true, true, true, true, true, true, true, true, true, true, true, true, true, true, true, true, true, true, false, false, false, false] rfl rfl (any_of HT_.out (by kernel_rfl)) (fun _ _ _ h => h) (Or.inl ⟨by rfl, ?_⟩) ?_ ?_
            rotate_left
            · intro w'
              go_simp
              try with_reducible rfl
            rotate_left
            · simp only [Act.put, List.setIfInBounds_toArray, List.set_cons_zero, List.set_cons_succ]
              rfl
            refine pure_ (i := 23) (N := some 107) (v := ?_) (a' := ?_) #[true, true, true, true, true, true, true, true, true, true, true, true, true, true, true, true, true, true, true, true, true, true, true, true, false, false, false] rfl rfl (any_of HT_.out (by kernel_rfl)) (fun _ _ _ h => h) (Or.inl ⟨by rfl, ?_⟩) ?_ ?_
            rotate_left
            · intro w'
              go_simp
              try with_reducible rfl
            rotate_left
            · simp only [Act.put, List.setIfInBounds_toArray, List.set_cons_zero, List.set_cons_succ]
              rfl
            refine pure_ (i := 24) (N := some 108) (v := ?_) (a' := ?_) #[true, true, true, true, true, true, true, true, true, true, true, true, true, true, true, true, true, true, true, true, true, true, true, true, true, false, false] rfl rfl (any_of HT_.out (by kernel_rfl)) (fun _ _ _ h => h) (Or.inl ⟨by rfl, ?_⟩) ?_ ?_
            rotate_left
            · intro w'
              go_simp
              try with_reducible rfl
            rotate_left
            · simp only [Act.put, List.setIfInBounds_toArray, List.set_cons_zero, List.set_cons_succ]
              rfl
            refine pure_ (i := 25) (N := some 109) (v := ?_) (a' := ?_) #[true, true, true, true, true, true, true, true, true, true, true, true, true, true, true, true, true, true, true, true, true, true, true, true, true, true, false] rfl rfl (any_of HT_.out (by kernel_rfl)) (fun _ _ _ h => h) (Or.inl ⟨by rfl, ?_⟩) ?_ ?_
            rotate_left
            · intro w'
              go_simp
              try with_reducible rfl
            rotate_left
            · simp only [Act.put, List.setIfInBounds_toArray, List.set_cons_zero, List.set_cons_succ]
              rfl
            refine pure_ (i := 26) (N := some 110) (v := ?_) (a' := ?_) #[true, true, true, true, true, true, true, true, true, true, true, true, true, true, true, true, true, true, true, true, true, true, true, true, true, true, true] rfl rfl (any_of HT_.out (by kernel_rfl)) (fun _ _ _ h => h) (Or.inl ⟨by rfl, ?_⟩) ?_ ?_
            rotate_left
            · intro w'
              go_simp
              try with_reducible rfl
            rotate_left
            · simp only [Act.put, List.setIfInBounds_toArray, List.set_cons_zero, List.set_cons_succ]
              rfl
            refine done_ (done_of HT_.out (by kernel_rfl)) ?_
            go_wp2_with fail
            go_meet
            exact ⟨rfl, Lib.hid (below_step HB21.out hb0)⟩
          · have q3 : decide (F < i) = false := decide_eq_false hFi
            have q4 : decide (i > F) = false := decide_eq_false hFi
            clear h1
            refine start_ (n := 27) (S := fun w' => w'.cell? ⟨g21, 0, none⟩ = some (.int .i64 d0.1) ∧ w'.cell? ⟨g21, 1, none⟩ = some (.int .i64 d0.2.1) ∧ w'.cell? ⟨g21, 2, none⟩ = some (.int .i64 d0.2.2)) (ds := []) #[false, false, false, false, false, false, false, false, false, false, false, false, false, false, false, false, false, false, false, false, false, false, false, false, false, false, false] (by kernel_rfl) rfl rfl (HS2.out _ hb0) (fun hHeld => ?_); refine with_tab sh22_tab (fun HT_ => ?_)
            generalize wr.drew = w6 at hb0 hHeld ⊢
            refine pure_ (i := 0) (N := some 84) (v := ?_) (a' := ?_) #[true, false, false, false, false, false, false, false, false, false, false, false, false, false, false, false, false, false, false, false, false, false, false, false, false, false, false] rfl rfl (any_of HT_.out (by kernel_rfl)) (fun _ _ _ h => h) (Or.inl ⟨by rfl, ?_⟩) ?_ ?_
            rotate_left
            · intro w'
              go_simp
              try with_reducible rfl
            rotate_left
            · simp only [Act.put, List.setIfInBounds_toArray, List.set_cons_zero, List.set_cons_succ]
              rfl
            refine pure_ (i := 1) (N := some 85) (v := ?_) (a' := ?_) #[true, true, false, false, false, false, false, false, false, false, false, false, false, false, false, false, false, false, false, false, false, false, false, false, false, false, false] rfl rfl (any_of HT_.out (by kernel_rfl)) (fun _ _ _ h => h) (Or.inl ⟨by rfl, ?_⟩) ?_ ?_
            rotate_left
            · intro w'
              go_simp
              try with_reducible rfl
            rotate_left
            · simp only [Act.put, List.setIfInBounds_toArray, List.set_cons_zero, List.set_cons_succ]
              rfl
            refine pure_ (i := 2) (N := some 86) (v := ?_) (a' := ?_) #[true, true, true, false, false, false, false, false, false, false, false, false, false, false, false, false, false, false, false, false, false, false, false, false, false, false, false] rfl rfl (any_of HT_.out (by kernel_rfl)) (fun _ _ _ h => h) (Or.inl ⟨by rfl, ?_⟩) ?_ ?_
            rotate_left
            · intro w'
              go_simp
              try with_reducible rfl
            rotate_left
            · simp only [Act.put, List.setIfInBounds_toArray, List.set_cons_zero, List.set_cons_succ]
              rfl
            refine pure_ (i := 3) (N := some 87) (v := ?_) (a' := ?_) #[true, true, true, true, false, false, false, false, false, false, false, false, false, false, false, false, false, false, false, false, false, false, false, false, false, false, false] rfl rfl (any_of HT_.out (by kernel_rfl)) (fun _ _ _ h => h) (Or.inl ⟨by rfl, ?_⟩) ?_ ?_
            rotate_left
            · intro w'
              go_simp
              try with_reducible rfl
            rotate_left
            · simp only [Act.put, List.setIfInBounds_toArray, List.set_cons_zero, List.set_cons_succ]
              rfl
            refine pure_ (i := 4) (N := some 88) (v := undef) (a' := ?_) #[true, true, true, true, true, false, false, false, false, false, false, false, false, false, false, false, false, false, false, false, false, false, false, false, false, false, false] rfl rfl (any_of HT_.out (by kernel_rfl)) (fun _ _ _ h => h) (Or.inr ⟨by rfl, rfl⟩) ?_ ?_
            rotate_left
            · simp only [Act.put, List.setIfInBounds_toArray, List.set_cons_zero, List.set_cons_succ]
              rfl
            refine pure_ (i := 5) (N := some 89) (v := undef) (a' := ?_) #[true, true, true, true, true, true, false, false, false, false, false, false, false, false, false, false, false, false, false, false, false, false, false, false, false, false, false] rfl rfl (any_of HT_.out (by kernel_rfl)) (fun _ _ _ h => h) (Or.inr ⟨by rfl, rfl⟩) ?_ ?_
            rotate_left
            · simp only [Act.put, List.setIfInBounds_toArray, List.set_cons_zero, List.set_cons_succ]
              rfl
            refine pure_ (i := 6) (N := some 90) (v := undef) (a' := ?_) #[true, true, true, true, true, true, true, false, false, false, false, false, false, false, false, false, false, false, false, false, false, false, false, false, false, false, false] rfl rfl (any_of HT_.out (by kernel_rfl)) (fun _ _ _ h => h) (Or.inr ⟨by rfl, rfl⟩) ?_ ?_
            rotate_left
            · simp only [Act.put, List.setIfInBounds_toArray, List.set_cons_zero, List.set_cons_succ]
              rfl
            refine pure_ (i := 7) (N := some 91) (v := undef) (a' := ?_) #[true, true, true, true, true, true, true, true, false, false, false, false, false, false, false, false, false, false, false, false, false, false, false, false, false, false, false] rfl rfl (any_of HT_.out (by kernel_rfl)) (fun _ _ _ h => h) (Or.inr ⟨by rfl, rfl⟩) ?_ ?_
            rotate_left
            · simp only [Act.put, List.setIfInBounds_toArray, List.set_cons_zero, List.set_cons_succ]
              rfl
            refine pure_ (i := 8) (N := some 92) (v := undef) (a' := ?_) #[true, true, true, true, true, true, true, true, true, false, false, false, false, false, false, false, false, false, false, false, false, false, false, false, false, false, false] rfl rfl (any_of HT_.out (by kernel_rfl)) (fun _ _ _ h => h) (Or.inr ⟨by rfl, rfl⟩) ?_ ?_
            rotate_left
            · simp only [Act.put, List.setIfInBounds_toArray, List.set_cons_zero, List.set_cons_succ]
              rfl
            refine one_ (i := 9) (N := some 93) #[true, true, true, true, true, true, true, true, true, true, false, false, false, false, false, false, false, false, false, false, false, false, false, false, false, false, false] rfl rfl (one_of HT_.out (by kernel_rfl)) (by decide) (fun K hK => ?_)
            refine off_ (by rfl) ?_
            refine hK.out _ _ hHeld (fun hHeld => ?_)
            clear hK K
            refine norm_ (a' := ?_) ?_ ?_
            rotate_left
            · show Act.put _ (some 93) _ = _
              simp only [Act.put, List.setIfInBounds_toArray, List.set_cons_zero, List.set_cons_succ]
              rfl
            refine pure_ (i := 10) (N := some 94) (v := undef) (a' := ?_) #[true, true, true, true, true, true, true, true, true, true, true, false, false, false, false, false, false, false, false, false, false, false, false, false, false, false, false] rfl rfl (any_of HT_.out (by kernel_rfl)) (fun _ _ _ h => h) (Or.inr ⟨by rfl, rfl⟩) ?_ ?_
            rotate_left
            · simp only [Act.put, List.setIfInBounds_toArray, List.set_cons_zero, List.set_cons_succ]
              rfl
            refine pure_ (i := 11) (N := some 95) (v := undef) (a' := ?_) #[true, true, true, true, true, true, true, true, true, true, true, true, false, false, false, false, false, false, false, false, false, false, false, false, false, false, false] rfl rfl (any_of HT_.out (by kernel_rfl)) (fun _ _ _ h => h) (Or.inr ⟨by rfl, rfl⟩) ?_ ?_
            rotate_left
            · simp only [Act.put, List.setIfInBounds_toArray, List.set_cons_zero, List.set_cons_succ]
              rfl
            refine pure_ (i := 12) (N := some 96) (v := ?_) (a' := ?_) #[true, true, true, true, true, true, true, true, true, true, true, true, true, false, false, false, false, false, false, false, false, false, false, false, false, false, false] rfl rfl (any_of HT_.out (by kernel_rfl)) (fun _ _ _ h => h) (Or.inl ⟨by rfl, ?_⟩) ?_ ?_
            rotate_left
            · intro w'
              go_simp
              try with_reducible rfl
            rotate_left
            · simp only [Act.put, List.setIfInBounds_toArray, List.set_cons_zero, List.set_cons_succ]
              rfl
            refine pure_ (i := 13) (N := some 97) (v := ?_) (a' := ?_) #[true, true, true, true, true, true, true, true, true, true, true, true, true, true, false, false, false, false, false, false, false, false, false, false, false, false, false] rfl rfl (any_of HT_.out (by kernel_rfl)) (fun _ _ _ h => h) (Or.inl ⟨by rfl, ?_⟩) ?_ ?_
            rotate_left
            · intro w'
              go_simp
              try with_reducible rfl
            rotate_left
            · simp only [Act.put, List.setIfInBounds_toArray, List.set_cons_zero, List.set_cons_succ]
              rfl
            refine pure_ (i := 14) (N := some 98) (v := ?_) (a' := ?_) #[true, true, true, true, true, true, true, true, true, true, true, true, true, true, true, false, false, false, false, false, false, false, false, false, false, false, false] rfl rfl (any_of HT_.out (by kernel_rfl)) (fun _ _ _ h => h) (Or.inl ⟨by rfl, ?_⟩) ?_ ?_
            rotate_left
            · intro w'
              go_simp
              try with_reducible rfl
            rotate_left
            · simp only [Act.put, List.setIfInBounds_toArray, List.set_cons_zero, List.set_cons_succ]
              rfl
            refine pure_ (i := 15) (N := some 99) (v := ?_) (a' := ?_) #[true, true, true, true, true, true, true, true, true, true, true, true, true, true, true, true, false, false, false, false, false, false, false, false, false, false, false] rfl rfl (any_of HT_.out (by kernel_rfl)) (fun _ _ _ h => h) (Or.inl ⟨by rfl, ?_⟩) ?_ ?_
            rotate_left
            · intro w'
              go_simp
              try with_reducible rfl
            rotate_left
            · simp only [Act.put, List.setIfInBounds_toArray, List.set_cons_zero, List.set_cons_succ]
              rfl
            refine pure_ (i := 16) (N := some 100) (v := ?_) (a' := ?_) #[true, true, true, true, true, true, true, true, true, true, true, true, true, true, true, true, true, false, false, false, false, false, false, false, false, false, false] rfl rfl (any_of HT_.out (by kernel_rfl)) (fun _ _ _ h => h) (Or.inl ⟨by rfl, ?_⟩) ?_ ?_
            rotate_left
            · intro w'
              go_simp
              try with_reducible rfl
            rotate_left
            · simp only [Act.put, List.setIfInBounds_toArray, List.set_cons_zero, List.set_cons_succ]
              rfl
            refine pure_ (i := 17) (N := some 101) (v := ?_) (a' := ?_) #[true, true, true, true, true, true, true, true, true, true, true, true, true, true, true, true, true, true, false, false, false, false, false, false, false, false, false] rfl rfl (any_of HT_.out (by kernel_rfl)) (fun _ _ _ h => h) (Or.inl ⟨by rfl, ?_⟩) ?_ ?_
            rotate_left
            · intro w'
              go_simp
              try with_reducible rfl
            rotate_left
            · simp only [Act.put, List.setIfInBounds_toArray, List.set_cons_zero, List.set_cons_succ]
              rfl
            refine pure_ (i := 18) (N := some 102) (v := undef) (a' := ?_) #[true, true, true, true, true, true, true, true, true, true, true, true, true, true, true, true, true, true, true, false, false, false, false, false, false, false, false] rfl rfl (any_of HT_.out (by kernel_rfl)) (fun _ _ _ h => h) (Or.inr ⟨by rfl, rfl⟩) ?_ ?_
            rotate_left
            · simp only [Act.put, List.setIfInBounds_toArray, List.set_cons_zero, List.set_cons_succ]
              rfl
            refine pure_ (i := 19) (N := some 103) (v := undef) (a' := ?_) #[true, true, true, true, true, true, true, true, true, true, true, true, true, true, true, true, true, true, true, true, false, false, false, false, false, false, false] rfl rfl (any_of HT_.out (by kernel_rfl)) (fun _ _ _ h => h) (Or.inr ⟨by rfl, rfl⟩) ?_ ?_
            rotate_left
            · simp only [Act.put, List.setIfInBounds_toArray, List.set_cons_zero, List.set_cons_succ]
              rfl
            refine pure_ (i := 20) (N := some 104) (v := undef) (a' := ?_) #[true, true, true, true, true, true, true, true, true, true, true, true, true, true, true, true, true, true, true, true, true, false, false, false, false, false, false] rfl rfl (any_of HT_.out (by kernel_rfl)) (fun _ _ _ h => h) (Or.inr ⟨by rfl, rfl⟩) ?_ ?_
            rotate_left
            · simp only [Act.put, List.setIfInBounds_toArray, List.set_cons_zero, List.set_cons_succ]
              rfl
            refine pure_ (i := 21) (N := some 105) (v := ?_) (a' := ?_) #[true, true, true, true, true, true, true, true, true, true, true, true, true, true, true, true, true, true, true, true, true, true, false, false, false, false, false] rfl rfl (any_of HT_.out (by kernel_rfl)) (fun _ _ _ h => h) (Or.inl ⟨by rfl, ?_⟩) ?_ ?_
            rotate_left
            · intro w'
              go_simp
              try with_reducible rfl
            rotate_left
            · simp only [Act.put, List.setIfInBounds_toArray, List.set_cons_zero, List.set_cons_succ]
              rfl
            refine pure_ (i := 22) (N := some 106) (v := ?_) (a' := ?_) #[true, true, true, true, true, true, true, true, true, true, true, true, true, true, true, true, true, true, true, true, true, true, true, false, false, false, false] rfl rfl (any_of HT_.out (by kernel_rfl)) (fun _ _ _ h => h) (Or.inl ⟨by rfl, ?_⟩) ?_ ?_
            rotate_left
            · intro w'
              go_simp
              try with_reducible rfl
            rotate_left
            · simp only [Act.put, List.setIfInBounds_toArray, List.set_cons_zero, List.set_cons_succ]
              rfl
            refine pure_ (i := 23) (N := some 107) (v := undef) (a' := ?_) #[true, true, true, true, true, true, true, true, true, true, true, true, true, true, true, true, true, true, true, true, true, true, true, true, false, false, false] rfl rfl (any_of HT_.out (by kernel_rfl)) (fun _ _ _ h => h) (Or.inr ⟨by rfl, rfl⟩) ?_ ?_
            rotate_left
            · simp only [Act.put, List.setIfInBounds_toArray, List.set_cons_zero, List.set_cons_succ]
              rfl
            refine pure_ (i := 24) (N := some 108) (v := undef) (a' := ?_) #[true, true, true, true, true, true, true, true, true, true, true, true, true, true, true, true, true, true, true, true, true, true, true, true, true, false, false] rfl rfl (any_of HT_.out (by kernel_rfl)) (fun _ _ _ h => h) (Or.inr ⟨by rfl, rfl⟩) ?_ ?_
            rotate_left
            · simp only [Act.put, List.setIfInBounds_toArray, List.set_cons_zero, List.set_cons_succ]
              rfl
            refine pure_ (i := 25) (N := some 109) (v := ?_) (a' := ?_) #[true, true, true, true, true, true, true, true, true, true, true, true, true, true, true, true, true, true, true, true, true, true, true, true, true, true, false] rfl rfl (any_of HT_.out (by kernel_rfl)) (fun _ _ _ h => h) (Or.inl ⟨by rfl, ?_⟩) ?_ ?_
            rotate_left
            · intro w'
              go_simp
              try with_reducible rfl
            rotate_left
            · simp only [Act.put, List.setIfInBounds_toArray, List.set_cons_zero, List.set_cons_succ]
              rfl
            refine pure_ (i := 26) (N := some 110) (v := ?_) (a' := ?_) #[true, true, true, true, true, true, true, true, true, true, true, true, true, true, true, true, true, true, true, true, true, true, true, true, true, true, true] rfl rfl (any_of HT_.out (by kernel_rfl)) (fun _ _ _ h => h) (Or.inl ⟨by rfl, ?_⟩) ?_ ?_
            rotate_left
            · intro w'
              go_simp
              try with_reducible rfl
            rotate_left
            · simp only [Act.put, List.setIfInBounds_toArray, List.set_cons_zero, List.set_cons_succ]
              rfl
            refine done_ (done_of HT_.out (by kernel_rfl)) ?_
            go_wp2_with fail
            go_meet
            exact ⟨rfl, Lib.hid (below_step HB21.out hb0)⟩
      case rest =>
        obtain ⟨rfl, HBc⟩ := hcut
        clear HB21 HX21 HM0 HAF HD0 HC0
        by_cases hm0 : m = 0
        · have q1 : decide (fi < 0) = true := decide_eq_true (by have := (HQ.out.none hm0).1; omega)
          go_wp2_with fail
          go_ret
          exact ⟨rfl, HBX.out.trans (HBc.out.mono HBX.out.size)⟩
        · have hmp : 0 < m := by have := HQ.out.m0; omega
          have hfl : F ≤ fi ∧ fi ≤ la ∧ la < i := by
            obtain ⟨a, b, c, _⟩ := HQ.out.some hmp
            exact ⟨a, b, c⟩
          have q1 : decide (fi < 0) = false := decide_eq_false (by omega)
          by_cases hfe : fi = la
          · have q2 : (fi == la) = true := by simp [hfe]
            go_wp2_with fail
            go_ret
            exact ⟨rfl, HBX.out.trans (HBc.out.mono HBX.out.size)⟩
          · have q2 : (fi == la) = false := by simp [hfe]
            have hm2 := shp_two HGR.out HQ.out (by omega) hmp hfe
            have hm3 : m ≤ 1000 := by have := HQ.out.m1; omega
            have HAfi := Lib.hid (HAt.out fi (by omega) (by omega))
            have HAla := Lib.hid (HAt.out la (by omega) (by omega))
            have HMu : Hid (∀ w', Below X.heap.size X w' → Calls Tryd.prog 12 #[rvV dy (.slice y1 S.length k1) (.slice y2 E.length k2), vd (dt fi), .int .i64 (m - 1)] w' fun e w'' => e = .returned (.tuple #[vd (dt la), .int .i64 0]) ∧ Below w'.heap.size w' w'') := Lib.hid fun w' k => (HMv.out fi (m - 1) (by omega) (by omega) w' k).mono fun e w'' ⟨d, c, h, e1, e2⟩ => by
              obtain ⟨rfl, rfl⟩ := mv_up HGR.out HQ.out (by omega) (by omega) hm2 hm3 h
              exact ⟨e1, e2⟩
            have HMd : Hid (∀ w', Below X.heap.size X w' → Calls Tryd.prog 12 #[rvV dy (.slice y1 S.length k1) (.slice y2 E.length k2), vd (dt la), .int .i64 (1 - m)] w' fun e w'' => e = .returned (.tuple #[vd (dt fi), .int .i64 0]) ∧ Below w'.heap.size w' w'') := Lib.hid fun w' k => (HMv.out la (1 - m) (by omega) (by omega) w' k).mono fun e w'' ⟨d, c, h, e1, e2⟩ => by
              obtain ⟨rfl, rfl⟩ := mv_down HGR.out HQ.out (by omega) (by omega) hm2 hm3 h
              exact ⟨e1, e2⟩
            clear HMv HAt hfe
            have hwm : IntKind.i64.wrap (m - 1) = m - 1 := IntWalk.i64_in _ (by omega)
            go_upto_region 26 with fail
            obtain ⟨wr, hwr⟩ : ∃ wr, wr = wc := ⟨_, rfl⟩
            rw [← hwr] at HBc ⊢
            clear hwr
            have hb0 := HBc.out.drew
            refine start_ (n := 12) (S := fun w' => w'.cell? ⟨rb, 0, none⟩ = some (.bool (dy 0)) ∧ w'.cell? ⟨rb, 1, none⟩ = some (.bool (dy 1)) ∧ w'.cell? ⟨rb, 2, none⟩ = some (.bool (dy 2)) ∧ w'.cell? ⟨rb, 3, none⟩ = some (.bool (dy 3)) ∧ w'.cell? ⟨rb, 4, none⟩ = some (.bool (dy 4)) ∧ w'.cell? ⟨rb, 5, none⟩ = some (.bool (dy 5)) ∧ w'.cell? ⟨rb, 6, none⟩ = some (.bool (dy 6)) ∧ w'.cell? ⟨rb, 7, none⟩ = some (.slice y1 S.length k1) ∧ w'.cell? ⟨rb, 8, none⟩ = some (.slice y2 E.length k2)) (ds := []) #[false, false, false, false, false, false, false, false, false, false, false, false] (by kernel_rfl) rfl rfl (HSS.out _ hb0) (fun hHeld => ?_); refine with_tab sh26_tab (fun HT_ => ?_)
            generalize wr.drew = w6 at hb0 hHeld ⊢
            refine take_ (i := 0) (N := some 119) (v := ?_) (a' := ?_) #[true, false, false, false, false, false, false, false, false, false, false, false] rfl rfl (take_of HT_.out (by kernel_rfl)) (fun _ _ _ h => h) (Or.inl ⟨by rfl, ?_⟩) hHeld ?_ ?_
            rotate_left
            · rintro w' ⟨r0, r1, r2, r3, r4, r5, r6, r7, r8⟩
              go_simp
              try with_reducible rfl
            rotate_left
            · simp only [Act.put, List.setIfInBounds_toArray, List.set_cons_zero, List.set_cons_succ]
              rfl
            refine pure_ (i := 1) (N := some 120) (v := ?_) (a' := ?_) #[true, true, false, false, false, false, false, false, false, false, false, false] rfl rfl (any_of HT_.out (by kernel_rfl)) (fun _ _ _ h => h) (Or.inl ⟨by rfl, ?_⟩) ?_ ?_
            rotate_left
            · intro w'
              go_simp
              try with_reducible rfl
            rotate_left
            · simp only [Act.put, List.setIfInBounds_toArray, List.set_cons_zero, List.set_cons_succ]
              rfl
            refine pure_ (i := 3) (N := some 122) (v := ?_) (a' := ?_) #[true, true, false, true, false, false, false, false, false, false, false, false] rfl rfl (any_of HT_.out (by kernel_rfl)) (fun _ _ _ h => h) (Or.inl ⟨by rfl, ?_⟩) ?_ ?_
            rotate_left
            · intro w'
              go_simp
              try with_reducible rfl
            rotate_left
            · simp only [Act.put, List.setIfInBounds_toArray, List.set_cons_zero, List.set_cons_succ]
              rfl
            refine pure_ (i := 4) (N := some 123) (v := ?_) (a' := ?_) #[true, true, false, true, true, false, false, false, false, false, false, false] rfl rfl (any_of HT_.out (by kernel_rfl)) (fun _ _ _ h => h) (Or.inl ⟨by rfl, ?_⟩) ?_ ?_
            rotate_left
            · intro w'
              go_simp
              (try (rw [hwm]; go_simp))
              try with_reducible rfl
            rotate_left
            · simp only [Act.put, List.setIfInBounds_toArray, List.set_cons_zero, List.set_cons_succ]
              rfl
            refine join_ (σ := Nat) 2 #[true, true, true, true, true, true, true, true, true, true, false, false] (fun g : Nat => [(121, vd (dt fi)), (124, .tuple #[vd (dt la), .int .i64 0]), (118, .tuple #[vd (dt la), .int .i64 0]), (125, vd (dt la)), (126, .int .i64 0), (24, .pointer (some ⟨g, 0, none⟩))]) (fun g w' => Hid (Below X.heap.size X w' ∧ X.heap.size ≤ g ∧ Bx w' g (0, 0, 0))) (fun g26 w' hF => ?_) (fun hJ => ?_)
            rotate_left
            · skip
              refine two_ (i := 2) (j := 9) (Ni := some 121) (Nj := some 24) #[true, true, true, true, true, false, false, false, false, false, false, false] #[true, true, false, true, true, false, false, false, false, true, false, false] rfl rfl rfl rfl (two_ofS HT_.out (by kernel_rfl)) (by decide) (by decide) (fun K hK => ?_) (fun K hK => ?_)
              · refine goes_ Tryd.func10 (by kernel_rfl) rfl #[.int .i64 fi] (by rfl) rfl rfl (by (try simp only [List.map_toArray, List.map_cons, List.map_nil]); first | done | rfl) ?_
                with_reducible refine (HAfi.out _ hb0).mono ?_
                rintro ev wa ⟨rfl, hb_wa0⟩
                have hb_wa := below_step hb0 hb_wa0
                clear hb_wa0
                refine ⟨_, rfl, ?_⟩
                refine hK.out _ _ (HSS.out _ hb_wa) (fun hHeld => ?_)
                clear hK K
                refine norm_ (a' := ?_) ?_ ?_
                rotate_left
                · show Act.put _ (some 121) _ = _
                  simp only [Act.put, List.setIfInBounds_toArray, List.set_cons_zero, List.set_cons_succ]
                  rfl
                refine two_ (i := 5) (j := 9) (Ni := some 124) (Nj := some 24) #[true, true, true, true, true, true, false, false, false, false, false, false] #[true, true, true, true, true, false, false, false, false, true, false, false] rfl rfl rfl rfl (two_ofS HT_.out (by kernel_rfl)) (by decide) (by decide) (fun K hK => ?_) (fun K hK => ?_)
                · refine goes_ Tryd.func12 (by kernel_rfl) rfl #[rvV dy (.slice y1 S.length k1) (.slice y2 E.length k2), vd (dt fi), .int .i64 (m - 1)] (by rfl) rfl rfl (by (try simp only [List.map_toArray, List.map_cons, List.map_nil]); first | done | rfl) ?_
                  with_reducible refine (HMu.out _ hb_wa).mono ?_
                  rintro ev wm ⟨rfl, hb_wm0⟩
                  have hb_wm := below_step hb_wa hb_wm0
                  clear hb_wm0
                  refine ⟨_, rfl, ?_⟩
                  refine hK.out _ _ (HSS.out _ hb_wm) (fun hHeld => ?_)
                  clear hK K
                  refine norm_ (a' := ?_) ?_ ?_
                  rotate_left
                  · show Act.put _ (some 124) _ = _
                    simp only [Act.put, List.setIfInBounds_toArray, List.set_cons_zero, List.set_cons_succ]
                    rfl
                  refine pure_ (i := 6) (N := some 118) (v := ?_) (a' := ?_) #[true, true, true, true, true, true, true, false, false, false, false, false] rfl rfl (any_of HT_.out (by kernel_rfl)) (fun _ _ _ h => h) (Or.inl ⟨by rfl, ?_⟩) ?_ ?_
                  rotate_left
                  · intro w'
                    go_simp
                    try with_reducible rfl
                  rotate_left
                  · simp only [Act.put, List.setIfInBounds_toArray, List.set_cons_zero, List.set_cons_succ]
                    rfl
                  refine pure_ (i := 7) (N := some 125) (v := ?_) (a' := ?_) #[true, true, true, true, true, true, true, true, false, false, false, false] rfl rfl (any_of HT_.out (by kernel_rfl)) (fun _ _ _ h => h) (Or.inl ⟨by rfl, ?_⟩) ?_ ?_
                  rotate_left
                  · intro w'
                    go_simp
                    try with_reducible rfl
                  rotate_left
                  · simp only [Act.put, List.setIfInBounds_toArray, List.set_cons_zero, List.set_cons_succ]
                    rfl
                  refine pure_ (i := 8) (N := some 126) (v := ?_) (a' := ?_) #[true, true, true, true, true, true, true, true, true, false, false, false] rfl rfl (any_of HT_.out (by kernel_rfl)) (fun _ _ _ h => h) (Or.inl ⟨by rfl, ?_⟩) ?_ ?_
                  rotate_left
                  · intro w'
                    go_simp
                    try with_reducible rfl
                  rotate_left
                  · simp only [Act.put, List.setIfInBounds_toArray, List.set_cons_zero, List.set_cons_succ]
                    rfl
                  refine one_ (i := 9) (N := some 24) #[true, true, true, true, true, true, true, true, true, true, false, false] rfl rfl (one_of HT_.out (by kernel_rfl)) (by decide) (fun K hK => ?_)
                  refine val_ (v := .pointer (some ⟨wm.heap.size, 0, none⟩)) (w1 := wm.alloc (.cells #[.int .i64 0, .int .i64 0, .int .i64 0] 27)) (by rfl) rfl (by first | (go_simp; done) | (go_simp; rfl)) ?_
                  have hbal := below_alloc hb_wm (.cells #[.int .i64 0, .int .i64 0, .int .i64 0] 27)
                  have hgz : Bx _ wm.heap.size (0, 0, 0) := HZZ.out wm
                  have hgs := hb_wm.size
                  refine hK.out _ _ (HSS.out _ hbal) (fun hHeld => ?_)
                  clear hK K
                  obtain ⟨ga, hga⟩ : ∃ ga, ga = wm.heap.size := ⟨_, rfl⟩
                  rw [← hga] at hgz hgs ⊢
                  clear hga
                  generalize wm.alloc (.cells #[.int .i64 0, .int .i64 0, .int .i64 0] 27) = wz at hbal hgz hHeld ⊢
                  refine norm_ (a' := ?_) ?_ ?_
                  rotate_left
                  · show Act.put _ (some 24) _ = _
                    simp only [Act.put, List.setIfInBounds_toArray, List.set_cons_zero, List.set_cons_succ]
                    rfl
                  exact hJ ga _ (Lib.hid ⟨hbal, hgs, hgz⟩)
                · refine val_ (v := .pointer (some ⟨wa.heap.size, 0, none⟩)) (w1 := wa.alloc (.cells #[.int .i64 0, .int .i64 0, .int .i64 0] 27)) (by rfl) rfl (by first | (go_simp; done) | (go_simp; rfl)) ?_
                  have hbal := below_alloc hb_wa (.cells #[.int .i64 0, .int .i64 0, .int .i64 0] 27)
                  have hgz : Bx _ wa.heap.size (0, 0, 0) := HZZ.out wa
                  have hgs := hb_wa.size
                  refine hK.out _ _ (HSS.out _ hbal) (fun hHeld => ?_)
                  clear hK K
                  obtain ⟨ga, hga⟩ : ∃ ga, ga = wa.heap.size := ⟨_, rfl⟩
                  rw [← hga] at hgz hgs ⊢
                  clear hga
                  generalize wa.alloc (.cells #[.int .i64 0, .int .i64 0, .int .i64 0] 27) = wz at hbal hgz hHeld ⊢
                  refine norm_ (a' := ?_) ?_ ?_
                  rotate_left
                  · show Act.put _ (some 24) _ = _
                    simp only [Act.put, List.setIfInBounds_toArray, List.set_cons_zero, List.set_cons_succ]
                    rfl
                  refine one_ (i := 5) (N := some 124) #[true, true, true, true, true, true, false, false, false, true, false, false] rfl rfl (one_of HT_.out (by kernel_rfl)) (by decide) (fun K hK => ?_)
                  refine goes_ Tryd.func12 (by kernel_rfl) rfl #[rvV dy (.slice y1 S.length k1) (.slice y2 E.length k2), vd (dt fi), .int .i64 (m - 1)] (by rfl) rfl rfl (by (try simp only [List.map_toArray, List.map_cons, List.map_nil]); first | done | rfl) ?_
                  with_reducible refine (HMu.out _ hbal).mono ?_
                  rintro ev wm ⟨rfl, hk_wm⟩
                  have hb_wm := below_step hbal hk_wm
                  refine ⟨_, rfl, ?_⟩
                  refine hK.out _ _ (HSS.out _ hb_wm) (fun hHeld => ?_)
                  clear hK K
                  refine norm_ (a' := ?_) ?_ ?_
                  rotate_left
                  · show Act.put _ (some 124) _ = _
                    simp only [Act.put, List.setIfInBounds_toArray, List.set_cons_zero, List.set_cons_succ]
                    rfl
                  refine pure_ (i := 6) (N := some 118) (v := ?_) (a' := ?_) #[true, true, true, true, true, true, true, false, false, true, false, false] rfl rfl (any_of HT_.out (by kernel_rfl)) (fun _ _ _ h => h) (Or.inl ⟨by rfl, ?_⟩) ?_ ?_
                  rotate_left
                  · intro w'
                    go_simp
                    try with_reducible rfl
                  rotate_left
                  · simp only [Act.put, List.setIfInBounds_toArray, List.set_cons_zero, List.set_cons_succ]
                    rfl
                  refine pure_ (i := 7) (N := some 125) (v := ?_) (a' := ?_) #[true, true, true, true, true, true, true, true, false, true, false, false] rfl rfl (any_of HT_.out (by kernel_rfl)) (fun _ _ _ h => h) (Or.inl ⟨by rfl, ?_⟩) ?_ ?_
                  rotate_left
                  · intro w'
                    go_simp
                    try with_reducible rfl
                  rotate_left
                  · simp only [Act.put, List.setIfInBounds_toArray, List.set_cons_zero, List.set_cons_succ]
                    rfl
                  refine pure_ (i := 8) (N := some 126) (v := ?_) (a' := ?_) #[true, true, true, true, true, true, true, true, true, true, false, false] rfl rfl (any_of HT_.out (by kernel_rfl)) (fun _ _ _ h => h) (Or.inl ⟨by rfl, ?_⟩) ?_ ?_
                  rotate_left
                  · intro w'
                    go_simp
                    try with_reducible rfl
                  rotate_left
                  · simp only [Act.put, List.setIfInBounds_toArray, List.set_cons_zero, List.set_cons_succ]
                    rfl
                  exact hJ ga _ (Lib.hid ⟨hb_wm, hgs, hgz.below hk_wm⟩)
              · refine val_ (v := .pointer (some ⟨w6.heap.size, 0, none⟩)) (w1 := w6.alloc (.cells #[.int .i64 0, .int .i64 0, .int .i64 0] 27)) (by rfl) rfl (by first | (go_simp; done) | (go_simp; rfl)) ?_
                have hbal := below_alloc hb0 (.cells #[.int .i64 0, .int .i64 0, .int .i64 0] 27)
                have hgz : Bx _ w6.heap.size (0, 0, 0) := HZZ.out w6
                have hgs := hb0.size
                refine hK.out _ _ (HSS.out _ hbal) (fun hHeld => ?_)
                clear hK K
                obtain ⟨ga, hga⟩ : ∃ ga, ga = w6.heap.size := ⟨_, rfl⟩
                rw [← hga] at hgz hgs ⊢
                clear hga
                generalize w6.alloc (.cells #[.int .i64 0, .int .i64 0, .int .i64 0] 27) = wz at hbal hgz hHeld ⊢
                refine norm_ (a' := ?_) ?_ ?_
                rotate_left
                · show Act.put _ (some 24) _ = _
                  simp only [Act.put, List.setIfInBounds_toArray, List.set_cons_zero, List.set_cons_succ]
                  rfl
                refine one_ (i := 2) (N := some 121) #[true, true, true, true, true, false, false, false, false, true, false, false] rfl rfl (one_of HT_.out (by kernel_rfl)) (by decide) (fun K hK => ?_)
                refine goes_ Tryd.func10 (by kernel_rfl) rfl #[.int .i64 fi] (by rfl) rfl rfl (by (try simp only [List.map_toArray, List.map_cons, List.map_nil]); first | done | rfl) ?_
                with_reducible refine (HAfi.out _ hbal).mono ?_
                rintro ev wa ⟨rfl, hk_wa⟩
                have hb_wa := below_step hbal hk_wa
                refine ⟨_, rfl, ?_⟩
                refine hK.out _ _ (HSS.out _ hb_wa) (fun hHeld => ?_)
                clear hK K
                refine norm_ (a' := ?_) ?_ ?_
                rotate_left
                · show Act.put _ (some 121) _ = _
                  simp only [Act.put, List.setIfInBounds_toArray, List.set_cons_zero, List.set_cons_succ]
                  rfl
                refine one_ (i := 5) (N := some 124) #[true, true, true, true, true, true, false, false, false, true, false, false] rfl rfl (one_of HT_.out (by kernel_rfl)) (by decide) (fun K hK => ?_)
                refine goes_ Tryd.func12 (by kernel_rfl) rfl #[rvV dy (.slice y1 S.length k1) (.slice y2 E.length k2), vd (dt fi), .int .i64 (m - 1)] (by rfl) rfl rfl (by (try simp only [List.map_toArray, List.map_cons, List.map_nil]); first | done | rfl) ?_
                with_reducible refine (HMu.out _ hb_wa).mono ?_
                rintro ev wm ⟨rfl, hk_wm⟩
                have hb_wm := below_step hb_wa hk_wm
                have hk_wm := below_step hk_wa hk_wm
                refine ⟨_, rfl, ?_⟩
                refine hK.out _ _ (HSS.out _ hb_wm) (fun hHeld => ?_)
                clear hK K
                refine norm_ (a' := ?_) ?_ ?_
                rotate_left
                · show Act.put _ (some 124) _ = _
                  simp only [Act.put, List.setIfInBounds_toArray, List.set_cons_zero, List.set_cons_succ]
                  rfl
                refine pure_ (i := 6) (N := some 118) (v := ?_) (a' := ?_) #[true, true, true, true, true, true, true, false, false, true, false, false] rfl rfl (any_of HT_.out (by kernel_rfl)) (fun _ _ _ h => h) (Or.inl ⟨by rfl, ?_⟩) ?_ ?_
                rotate_left
                · intro w'
                  go_simp
                  try with_reducible rfl
                rotate_left
                · simp only [Act.put, List.setIfInBounds_toArray, List.set_cons_zero, List.set_cons_succ]
                  rfl
                refine pure_ (i := 7) (N := some 125) (v := ?_) (a' := ?_) #[true, true, true, true, true, true, true, true, false, true, false, false] rfl rfl (any_of HT_.out (by kernel_rfl)) (fun _ _ _ h => h) (Or.inl ⟨by rfl, ?_⟩) ?_ ?_
                rotate_left
                · intro w'
                  go_simp
                  try with_reducible rfl
                rotate_left
                · simp only [Act.put, List.setIfInBounds_toArray, List.set_cons_zero, List.set_cons_succ]
                  rfl
                refine pure_ (i := 8) (N := some 126) (v := ?_) (a' := ?_) #[true, true, true, true, true, true, true, true, true, true, false, false] rfl rfl (any_of HT_.out (by kernel_rfl)) (fun _ _ _ h => h) (Or.inl ⟨by rfl, ?_⟩) ?_ ?_
                rotate_left
                · intro w'
                  go_simp
                  try with_reducible rfl
                rotate_left
                · simp only [Act.put, List.setIfInBounds_toArray, List.set_cons_zero, List.set_cons_succ]
                  rfl
                exact hJ ga _ (Lib.hid ⟨hb_wm, hgs, hgz.below hk_wm⟩)
            have hbF := hF.out.1
            have hgF := hF.out.2.1
            have hzF := hF.out.2.2
            clear hHeld
            have hHeld := HSS.out _ hbF
            refine norm_ (a' := ?_) ?_ ?_
            rotate_left
            · show putAll _ _ = _
              simp only [putAll, Act.put, List.setIfInBounds_toArray, List.set_cons_zero, List.set_cons_succ]
              rfl
            have e0 := hzF.c0
            have e1 := hzF.c1
            have e2 := hzF.c2
            obtain ⟨f0, f1, f2⟩ := frz3 hzF
            refine one_ (i := 10) (N := none) #[true, true, true, true, true, true, true, true, true, true, true, false] rfl rfl (one_of HT_.out (by kernel_rfl)) (by decide) (fun K hK => ?_)
            refine skip_ (w1 := ((w'.setCell ⟨g26, 0, none⟩ (.int .i64 ((dt la)).1)).setCell ⟨g26, 1, none⟩ (.int .i64 ((dt la)).2.1)).setCell ⟨g26, 2, none⟩ (.int .i64 ((dt la)).2.2)) (by rfl) rfl (by first | (go_simp; done) | (go_simp; rfl)) ?_
            have hb26 := below3 hbF hgF (.int .i64 ((dt la)).1) (.int .i64 ((dt la)).2.1) (.int .i64 ((dt la)).2.2)
            have hx26 : Bx _ g26 (dt la) := bx3 (u := (dt la)) hzF
            refine hK.out _ _ (HSS.out _ hb26) (fun hHeld => ?_)
            clear hK K
            generalize ((w'.setCell ⟨g26, 0, none⟩ (.int .i64 ((dt la)).1)).setCell ⟨g26, 1, none⟩ (.int .i64 ((dt la)).2.1)).setCell ⟨g26, 2, none⟩ (.int .i64 ((dt la)).2.2) = wq26 at hb26 hx26 hHeld ⊢
            refine pure_ (i := 11) (N := some 25) (v := ?_) (a' := ?_) #[true, true, true, true, true, true, true, true, true, true, true, true] rfl rfl (any_of HT_.out (by kernel_rfl)) (fun _ _ _ h => h) (Or.inl ⟨by rfl, ?_⟩) ?_ ?_
            rotate_left
            · intro w'
              go_simp
              try with_reducible rfl
            rotate_left
            · simp only [Act.put, List.setIfInBounds_toArray, List.set_cons_zero, List.set_cons_succ]
              rfl
            refine done_ (done_of HT_.out (by kernel_rfl)) ?_
            have HB26 := Lib.hid hb26
            have HX26 := Lib.hid hx26
            clear hb26 hx26 hF hbF hgF hzF hHeld e0 e1 e2 f0 f1 f2 hb0
            obtain ⟨r0, r1, r2, r3, r4, r5, r6, r7, r8⟩ := HSS.out _ HB26.out
            have d0 := HX26.out.c0
            have d1 := HX26.out.c1
            have d2 := HX26.out.c2
            go_upto_region 28 with (first
              | (go_at_call 12; (with_reducible refine (HMd.out _ HB26.out).mono ?_); rintro ev w10 ⟨rfl, hb⟩; have HB10 := Lib.hid (below_step HB26.out hb); have HX10 := Lib.hid (HX26.out.below hb); clear hb))
            obtain ⟨wr, hwr⟩ : ∃ wr, wr = w10.alloc (.cells #[.int .i64 (dt fi).1, .int .i64 (dt fi).2.1, .int .i64 (dt fi).2.2] 27) := ⟨_, rfl⟩
            rw [← hwr]
            have kx : Below w10.heap.size w10 wr := by rw [hwr]; exact below_alloc (Below.refl _ _) _
            have hx27 : Bx wr w10.heap.size (dt fi) := by rw [hwr]; exact alnew w10 _
            have HBr := Lib.hid (below_step HB10.out kx)
            have hxr := HX10.out.below kx
            obtain ⟨g27, hg27⟩ : ∃ g27, g27 = w10.heap.size := ⟨_, rfl⟩
            rw [← hg27] at hx27 ⊢
            have HS3 : Hid (∀ w', Below wr.heap.size wr w' → (w'.cell? ⟨g26, 0, none⟩ = some (.int .i64 (dt la).1) ∧ w'.cell? ⟨g26, 1, none⟩ = some (.int .i64 (dt la).2.1) ∧ w'.cell? ⟨g26, 2, none⟩ = some (.int .i64 (dt la).2.2) ∧ w'.cell? ⟨g27, 0, none⟩ = some (.int .i64 (dt fi).1) ∧ w'.cell? ⟨g27, 1, none⟩ = some (.int .i64 (dt fi).2.1) ∧ w'.cell? ⟨g27, 2, none⟩ = some (.int .i64 (dt fi).2.2))) := Lib.hid fun w' k => six (hxr.b3 k) (hx27.b3 k)
            have hb0 : Below wr.heap.size wr wr.drew := (Below.refl _ _).drew
            clear hwr kx hx27 hxr hg27 r0 r1 r2 r3 r4 r5 r6 r7 r8 d0 d1 d2
            refine start_ (n := 19) (S := fun w' => w'.cell? ⟨g26, 0, none⟩ = some (.int .i64 (dt la).1) ∧ w'.cell? ⟨g26, 1, none⟩ = some (.int .i64 (dt la).2.1) ∧ w'.cell? ⟨g26, 2, none⟩ = some (.int .i64 (dt la).2.2) ∧ w'.cell? ⟨g27, 0, none⟩ = some (.int .i64 (dt fi).1) ∧ w'.cell? ⟨g27, 1, none⟩ = some (.int .i64 (dt fi).2.1) ∧ w'.cell? ⟨g27, 2, none⟩ = some (.int .i64 (dt fi).2.2)) (ds := []) #[false, false, false, false, false, false, false, false, false, false, false, false, false, false, false, false, false, false, false] (by kernel_rfl) rfl rfl (HS3.out _ hb0) (fun hHeld => ?_); refine with_tab sh28_tab (fun HT_ => ?_)
            generalize wr.drew = w6 at hb0 hHeld ⊢
            refine pure_ (i := 0) (N := some 135) (v := ?_) (a' := ?_) #[true, false, false, false, false, false, false, false, false, false, false, false, false, false, false, false, false, false, false] rfl rfl (any_of HT_.out (by kernel_rfl)) (fun _ _ _ h => h) (Or.inl ⟨by rfl, ?_⟩) ?_ ?_
            rotate_left
            · intro w'
              go_simp
              try with_reducible rfl
            rotate_left
            · simp only [Act.put, List.setIfInBounds_toArray, List.set_cons_zero, List.set_cons_succ]
              rfl
            refine pure_ (i := 1) (N := some 136) (v := ?_) (a' := ?_) #[true, true, false, false, false, false, false, false, false, false, false, false, false, false, false, false, false, false, false] rfl rfl (any_of HT_.out (by kernel_rfl)) (fun _ _ _ h => h) (Or.inl ⟨by rfl, ?_⟩) ?_ ?_
            rotate_left
            · intro w'
              go_simp
              try with_reducible rfl
            rotate_left
            · simp only [Act.put, List.setIfInBounds_toArray, List.set_cons_zero, List.set_cons_succ]
              rfl
            refine pure_ (i := 2) (N := some 137) (v := ?_) (a' := ?_) #[true, true, true, false, false, false, false, false, false, false, false, false, false, false, false, false, false, false, false] rfl rfl (any_of HT_.out (by kernel_rfl)) (fun _ _ _ h => h) (Or.inl ⟨by rfl, ?_⟩) ?_ ?_
            rotate_left
            · intro w'
              go_simp
              try with_reducible rfl
            rotate_left
            · simp only [Act.put, List.setIfInBounds_toArray, List.set_cons_zero, List.set_cons_succ]
              rfl
            refine pure_ (i := 3) (N := some 138) (v := ?_) (a' := ?_) #[true, true, true, true, false, false, false, false, false, false, false, false, false, false, false, false, false, false, false] rfl rfl (any_of HT_.out (by kernel_rfl)) (fun _ _ _ h => h) (Or.inl ⟨by rfl, ?_⟩) ?_ ?_
            rotate_left
            · intro w'
              go_simp
              try with_reducible rfl
            rotate_left
            · simp only [Act.put, List.setIfInBounds_toArray, List.set_cons_zero, List.set_cons_succ]
              rfl
            refine pure_ (i := 4) (N := some 139) (v := ?_) (a' := ?_) #[true, true, true, true, true, false, false, false, false, false, false, false, false, false, false, false, false, false, false] rfl rfl (any_of HT_.out (by kernel_rfl)) (fun _ _ _ h => h) (Or.inl ⟨by rfl, ?_⟩) ?_ ?_
            rotate_left
            · intro w'
              go_simp
              try with_reducible rfl
            rotate_left
            · simp only [Act.put, List.setIfInBounds_toArray, List.set_cons_zero, List.set_cons_succ]
              rfl
            refine pure_ (i := 5) (N := some 140) (v := ?_) (a' := ?_) #[true, true, true, true, true, true, false, false, false, false, false, false, false, false, false, false, false, false, false] rfl rfl (any_of HT_.out (by kernel_rfl)) (fun _ _ _ h => h) (Or.inl ⟨by rfl, ?_⟩) ?_ ?_
            rotate_left
            · intro w'
              go_simp
              try with_reducible rfl
            rotate_left
            · simp only [Act.put, List.setIfInBounds_toArray, List.set_cons_zero, List.set_cons_succ]
              rfl
            refine pure_ (i := 6) (N := some 141) (v := ?_) (a' := ?_) #[true, true, true, true, true, true, true, false, false, false, false, false, false, false, false, false, false, false, false] rfl rfl (any_of HT_.out (by kernel_rfl)) (fun _ _ _ h => h) (Or.inl ⟨by rfl, ?_⟩) ?_ ?_
            rotate_left
            · intro w'
              go_simp
              try with_reducible rfl
            rotate_left
            · simp only [Act.put, List.setIfInBounds_toArray, List.set_cons_zero, List.set_cons_succ]
              rfl
            refine take_ (i := 7) (N := some 142) (v := ?_) (a' := ?_) #[true, true, true, true, true, true, true, true, false, false, false, false, false, false, false, false, false, false, false] rfl rfl (take_of HT_.out (by kernel_rfl)) (fun _ _ _ h => h) (Or.inl ⟨by rfl, ?_⟩) hHeld ?_ ?_
            rotate_left
            · rintro w' ⟨s1, s2, s3, s4, s5, s6⟩
              go_simp
              try with_reducible rfl
            rotate_left
            · simp only [Act.put, List.setIfInBounds_toArray, List.set_cons_zero, List.set_cons_succ]
              rfl
            refine pure_ (i := 8) (N := some 143) (v := ?_) (a' := ?_) #[true, true, true, true, true, true, true, true, true, false, false, false, false, false, false, false, false, false, false] rfl rfl (any_of HT_.out (by kernel_rfl)) (fun _ _ _ h => h) (Or.inl ⟨by rfl, ?_⟩) ?_ ?_
            rotate_left
            · intro w'
              go_simp
              try with_reducible rfl
            rotate_left
            · simp only [Act.put, List.setIfInBounds_toArray, List.set_cons_zero, List.set_cons_succ]
              rfl
            refine one_ (i := 9) (N := some 144) #[true, true, true, true, true, true, true, true, true, true, false, false, false, false, false, false, false, false, false] rfl rfl (one_of HT_.out (by kernel_rfl)) (by decide) (fun K hK => ?_)
            refine goes_ Tryd.func10 (by kernel_rfl) rfl #[.int .i64 la] (by rfl) rfl rfl (by (try simp only [List.map_toArray, List.map_cons, List.map_nil]); first | done | rfl) ?_
            with_reducible refine (HAla.out _ (below_step HBr.out hb0)).mono ?_
            rintro ev w20 ⟨rfl, hbc0⟩
            have hbc0' := hb0.trans (hbc0.mono hb0.size)
            refine ⟨_, rfl, ?_⟩
            refine hK.out _ _ (HS3.out _ hbc0') (fun hHeld => ?_)
            clear hK K
            refine norm_ (a' := ?_) ?_ ?_
            rotate_left
            · show Act.put _ (some 144) _ = _
              simp only [Act.put, List.setIfInBounds_toArray, List.set_cons_zero, List.set_cons_succ]
              rfl
            refine pure_ (i := 10) (N := some 145) (v := ?_) (a' := ?_) #[true, true, true, true, true, true, true, true, true, true, true, false, false, false, false, false, false, false, false] rfl rfl (any_of HT_.out (by kernel_rfl)) (fun _ _ _ h => h) (Or.inl ⟨by rfl, ?_⟩) ?_ ?_
            rotate_left
            · intro w'
              go_simp
              try with_reducible rfl
            rotate_left
            · simp only [Act.put, List.setIfInBounds_toArray, List.set_cons_zero, List.set_cons_succ]
              rfl
            refine pure_ (i := 11) (N := some 146) (v := ?_) (a' := ?_) #[true, true, true, true, true, true, true, true, true, true, true, true, false, false, false, false, false, false, false] rfl rfl (any_of HT_.out (by kernel_rfl)) (fun _ _ _ h => h) (Or.inl ⟨by rfl, ?_⟩) ?_ ?_
            rotate_left
            · intro w'
              go_simp
              try with_reducible rfl
            rotate_left
            · simp only [Act.put, List.setIfInBounds_toArray, List.set_cons_zero, List.set_cons_succ]
              rfl
            refine pure_ (i := 12) (N := some 147) (v := ?_) (a' := ?_) #[true, true, true, true, true, true, true, true, true, true, true, true, true, false, false, false, false, false, false] rfl rfl (any_of HT_.out (by kernel_rfl)) (fun _ _ _ h => h) (Or.inl ⟨by rfl, ?_⟩) ?_ ?_
            rotate_left
            · intro w'
              go_simp
              try with_reducible rfl
            rotate_left
            · simp only [Act.put, List.setIfInBounds_toArray, List.set_cons_zero, List.set_cons_succ]
              rfl
            refine take_ (i := 13) (N := some 148) (v := ?_) (a' := ?_) #[true, true, true, true, true, true, true, true, true, true, true, true, true, true, false, false, false, false, false] rfl rfl (take_of HT_.out (by kernel_rfl)) (fun _ _ _ h => h) (Or.inl ⟨by rfl, ?_⟩) hHeld ?_ ?_
            rotate_left
            · rintro w' ⟨s1, s2, s3, s4, s5, s6⟩
              go_simp
              try with_reducible rfl
            rotate_left
            · simp only [Act.put, List.setIfInBounds_toArray, List.set_cons_zero, List.set_cons_succ]
              rfl
            refine pure_ (i := 14) (N := some 149) (v := ?_) (a' := ?_) #[true, true, true, true, true, true, true, true, true, true, true, true, true, true, true, false, false, false, false] rfl rfl (any_of HT_.out (by kernel_rfl)) (fun _ _ _ h => h) (Or.inl ⟨by rfl, ?_⟩) ?_ ?_
            rotate_left
            · intro w'
              go_simp
              try with_reducible rfl
            rotate_left
            · simp only [Act.put, List.setIfInBounds_toArray, List.set_cons_zero, List.set_cons_succ]
              rfl
            refine one_ (i := 15) (N := some 150) #[true, true, true, true, true, true, true, true, true, true, true, true, true, true, true, true, false, false, false] rfl rfl (one_of HT_.out (by kernel_rfl)) (by decide) (fun K hK => ?_)
            refine goes_ Tryd.func10 (by kernel_rfl) rfl #[.int .i64 fi] (by rfl) rfl rfl (by (try simp only [List.map_toArray, List.map_cons, List.map_nil]); first | done | rfl) ?_
            with_reducible refine (HAfi.out _ (below_step HBr.out hbc0')).mono ?_
            rintro ev w21 ⟨rfl, hbc1⟩
            have hbc1' := hbc0'.trans (hbc1.mono hbc0'.size)
            refine ⟨_, rfl, ?_⟩
            refine hK.out _ _ (HS3.out _ hbc1') (fun hHeld => ?_)
            clear hK K
            refine norm_ (a' := ?_) ?_ ?_
            rotate_left
            · show Act.put _ (some 150) _ = _
              simp only [Act.put, List.setIfInBounds_toArray, List.set_cons_zero, List.set_cons_succ]
              rfl
            refine pure_ (i := 16) (N := some 151) (v := ?_) (a' := ?_) #[true, true, true, true, true, true, true, true, true, true, true, true, true, true, true, true, true, false, false] rfl rfl (any_of HT_.out (by kernel_rfl)) (fun _ _ _ h => h) (Or.inl ⟨by rfl, ?_⟩) ?_ ?_
            rotate_left
            · intro w'
              go_simp
              try with_reducible rfl
            rotate_left
            · simp only [Act.put, List.setIfInBounds_toArray, List.set_cons_zero, List.set_cons_succ]
              rfl
            refine pure_ (i := 17) (N := some 152) (v := ?_) (a' := ?_) #[true, true, true, true, true, true, true, true, true, true, true, true, true, true, true, true, true, true, false] rfl rfl (any_of HT_.out (by kernel_rfl)) (fun _ _ _ h => h) (Or.inl ⟨by rfl, ?_⟩) ?_ ?_
            rotate_left
            · intro w'
              go_simp
              try with_reducible rfl
            rotate_left
            · simp only [Act.put, List.setIfInBounds_toArray, List.set_cons_zero, List.set_cons_succ]
              rfl
            refine pure_ (i := 18) (N := some 10) (v := ?_) (a' := ?_) #[true, true, true, true, true, true, true, true, true, true, true, true, true, true, true, true, true, true, true] rfl rfl (any_of HT_.out (by kernel_rfl)) (fun _ _ _ h => h) (Or.inl ⟨by rfl, ?_⟩) ?_ ?_
            rotate_left
            · intro w'
              go_simp
              try with_reducible rfl
            rotate_left
            · simp only [Act.put, List.setIfInBounds_toArray, List.set_cons_zero, List.set_cons_succ]
              rfl
            refine done_ (done_of HT_.out (by kernel_rfl)) ?_
            go_wp2_with fail
            go_ret
            exact ⟨rfl, HBX.out.trans ((below_step HBr.out hbc1').mono HBX.out.size)⟩
end Go.Proofs.YtjifinacnofmiaaDoor.Ext

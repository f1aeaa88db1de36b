/- cal's below: how many open days lie ahead of a number (printed by gen_calbw.py) -/
import Derived.Test.YtjifinacnofmiaaDoorCalOp
import Derived.Deep.Cut
import Derived.Test.YtjifinacnofmiaaDoorCalEachC
set_option linter.unusedVariables false
set_option linter.unusedSimpArgs false
namespace Go.Proofs.YtjifinacnofmiaaDoor.Ext
open Go Go.RowKit Go.Shelf Go.Proofs.YtjifinacnofmiaaDoorW.PrintWords Go.Proofs.YtjifinacnofmiaaDoorW.PrintLast Go.Proofs.YtjifinacnofmiaaDoor.PCal Go.Proofs.YtjifinacnofmiaaDoor.GC Go.Proofs.YtjifinacnofmiaaDoor.CalP
/-- all but the counter's block is as it was -/
structure Cnt (W wr : World) (cb : Nat) (c : Int) : Prop where
  os : wr.os = W.os
  tape : wr.tape = W.tape
  output : wr.output = W.output
  size : W.heap.size ≤ wr.heap.size
  keep : ∀ j, j < W.heap.size → j ≠ cb → wr.heap[j]? = W.heap[j]?
  cell : wr.heap[cb]? = some (.cells #[.int .i64 c] 3 (0, 0))
section
variable {W wr w' : World} {cb : Nat} {c : Int}
theorem Cnt.below (h : Cnt W wr cb c) (k : Below wr.heap.size wr w') : Cnt W w' cb c :=
  ⟨k.os.trans h.os, k.tape.trans h.tape, k.output.trans h.output, Nat.le_trans h.size k.size, fun j hj hn => (k.block j (Nat.lt_of_lt_of_le hj h.size)).trans (h.keep j hj hn), (k.block cb (Array.getElem?_eq_some_iff.1 h.cell).1).trans h.cell⟩
theorem Cnt.put (h : Cnt W wr cb c) (d : Int) : Cnt W (wr.setCell ⟨cb, 0, none⟩ (.int .i64 d)) cb d := by
  have hs : (wr.setCell ⟨cb, 0, none⟩ (.int .i64 d)).heap.size = wr.heap.size := by simp [World.setCell]
  refine ⟨h.os, h.tape, h.output, by rw [hs]; exact h.size, fun j hj hn => (Below.heap_setCell wr ⟨cb, 0, none⟩ _ j hn).trans (h.keep j hj hn), ?_⟩
  have := h.cell
  simp only [World.setCell]
  rw [Array.getElem?_modify, if_pos rfl, this]
  rfl
theorem Cnt.get (h : Cnt W wr cb c) : wr.cell? ⟨cb, 0, none⟩ = some (.int .i64 c) := by simp [cell_of_row _ _ _ _ _ _ h.cell]
theorem Cnt.free (h : Cnt W wr cb c) : wr.frozen? ⟨cb, 0, none⟩ = false := by simp [World.frozen?, h.cell]
theorem Cnt.old {w : World} (h : Cnt W wr cb c) (k : Below w.heap.size w W) (hc : w.heap.size ≤ cb) : Below w.heap.size w wr :=
  ⟨h.os.trans k.os, h.tape.trans k.tape, h.output.trans k.output, Nat.le_trans k.size h.size, fun j hj => (h.keep j (Nat.lt_of_lt_of_le hj k.size) (by omega)).trans (k.block j hj)⟩
end
def trues (dy : Nat → Bool) (k : Nat) : Nat := (List.range k).countP dy
theorem trues_succ (dy : Nat → Bool) (k : Nat) : trues dy (k + 1) = trues dy k + (if dy k = true then 1 else 0) := by
  unfold trues
  rw [List.range_succ, List.countP_append, List.countP_singleton]
theorem trues_le (dy : Nat → Bool) (k : Nat) : trues dy k ≤ k := by
  have := List.countP_le_length (p := dy) (l := List.range k)
  rw [List.length_range] at this
  exact this
/-- how many of a list's days lie ahead of a number, being open by the week (or not) -/
def ahead (p : Nat → Bool) (l : List D3) (n : Int) : Nat := l.countP fun x => decide (nm x < n) && p (wdN (nm x))
theorem ahead_take (p : Nat → Bool) (l : List D3) (n : Int) (k : Nat) (h : k < l.length) : ahead p (l.take (k + 1)) n = ahead p (l.take k) n + (if (decide (nm l[k] < n) && p (wdN (nm l[k]))) = true then 1 else 0) := by
  unfold ahead
  rw [List.take_succ_eq_append_getElem h, List.countP_append, List.countP_singleton]
theorem ahead_le (p : Nat → Bool) (l : List D3) (n : Int) (k : Nat) : ahead p (l.take k) n ≤ k := by
  unfold ahead
  have := List.countP_le_length (p := fun x => decide (nm x < n) && p (wdN (nm x))) (l := l.take k)
  rw [List.length_take] at this
  omega
/-- the open days of the last days, which make no whole week -/
def left (dy : Nat → Bool) (n : Int) : Nat := ((List.range (n % 7).toNat).map fun i : Nat => n - n % 7 + (i : Int)).countP fun x => dy (wdN x)
def belF (dy : Nat → Bool) (S E : List D3) (n : Int) : Int := (trues dy 7 : Int) * (n / 7) + left dy n - ahead dy S n + ahead (fun k => !dy k) E n
theorem Cnt.grown {W X Y : World} {cb : Nat} {c : Int} {row : Option Nat} (h : Cnt W X cb c) (hg : X.grownBy Y row) (hr : ∀ r, row = some r → W.heap.size ≤ r) (hc : cb < W.heap.size) : Cnt W Y cb c := by
  have hx := h.size
  refine ⟨hg.os.trans h.os, hg.tape.trans h.tape, hg.output.trans h.output, Nat.le_trans h.size hg.size, fun j hj hn => (hg.block j (by omega) (fun e => ?_)).trans (h.keep j hj hn), (hg.block cb (by omega) (fun e => ?_)).trans h.cell⟩
  · have := hr j e.symm
    omega
  · have := hr cb e.symm
    omega
theorem kpE_t {n₀ b : Nat} : ∀ {A B C : World}, KpE n₀ b A B → KpE n₀ b B C → KpE n₀ b A C := fun h k => h.trans k
theorem kpE_b {n₀ b : Nat} {w : World} (hn : n₀ ≤ w.heap.size) (hb : b + 3 ≤ w.heap.size) : ∀ (W : World) (l : Nat) (o o' : Obj), w.heap.size ≤ l → W.heap[l]? = some o → o.isCells = false → o.isWalk = false → KpE n₀ b W (W.putObj l o') := by
  intro W l o o' hl h1 h2 h3
  exact ⟨belowK_b (w := w) hn W l o o' hl h1 h2 h3, by simp, fun j a c => World.putObj_heap_other (by omega)⟩
theorem kpE_alloc {n₀ b : Nat} {W : World} (hn : n₀ ≤ W.heap.size) (hb : b + 3 ≤ W.heap.size) (o : Obj) : KpE n₀ b W (W.alloc o) :=
  ⟨(Below.refl n₀ W).alloc hn o, by simp, fun j a c => Below.heap_alloc W o j (by omega)⟩
theorem cells_own (B : Nat) (cs : Array Value) (t : TypeId) : Own (fun (_ : Unit) W => W.heap[B]? = some (.cells cs t (0, 0))) := fun s X Y row hs hg hrow => by
  refine (hg.block B (Array.getElem?_eq_some_iff.1 hs).1 (fun e => ?_)).trans hs
  obtain ⟨o, ho, hc⟩ := hrow B e.symm
  rw [show X.heap[B]? = _ from hs] at ho; cases ho; cases hc
theorem keeps_below {X Y : World} (k : Below X.heap.size X Y) : KeepsOthers X Y := .of_grownBy (grown_of_below k) (fun _ _ e => by cases e)
theorem kp_below {n₀ b : Nat} {X Y : World} (hn : n₀ ≤ X.heap.size) (hb : b + 3 ≤ X.heap.size) (k : Below X.heap.size X Y) : KpE n₀ b X Y := ⟨k.mono hn, k.size, fun j _ c => k.block j (by omega)⟩
theorem kp_set {n₀ b : Nat} {X : World} {p : Addr} {v : Value} (hn : n₀ ≤ p.block) (hb : p.block < b) : KpE n₀ b X (X.setCell p v) :=
  ⟨(Below.refl n₀ X).setCell hn v, by simp [World.setCell], fun j a _ => Below.heap_setCell X p v j (by omega)⟩
theorem dt_ok (x : Int) : okD (dt x) = true := by
  by_cases h : 0 ≤ x ∧ x ≤ 3652424
  · exact (dt_spec h.1 h.2).1
  · unfold dt
    rw [if_neg h]
    decide
theorem nm_dt {x : Int} (h0 : 0 ≤ x) (h1 : x ≤ 3652424) : nm (dt x) = x := (dt_spec h0 h1).2
theorem pre_one (p : Int → Bool) (pre : List Int) (x : Int) : (pre ++ [x]).countP p = pre.countP p + (if p x = true then 1 else 0) := by rw [List.countP_append, List.countP_singleton]
theorem goL_one : ∀ (m : Nat) (n : Int), goL 1 (n + m) m n = (List.range (m + 1)).map fun i : Nat => n + (i : Int)
  | 0, n => by simp [goL]
  | m + 1, n => by
    rw [goL, if_neg (by omega), List.range_succ_eq_map, show n + ((m + 1 : Nat) : Int) = (n + 1) + (m : Int) by omega, goL_one m (n + 1)]
    simp only [List.map_cons, List.map_map]
    congr 1
    · simp
    · apply List.map_congr_left
      intro i _
      show n + 1 + (i : Int) = n + ((i + 1 : Nat) : Int)
      omega
theorem eachL_one (a b : Int) (ha : 0 ≤ a ∧ a ≤ 3652424) (hb : 0 ≤ b ∧ b ≤ 3652424) (hab : a ≤ b) (m : Nat) (hm : b - a + 1 = m) {a1 a2 a3 b1 b2 b3 : Int} (hA : (a1, a2, a3) = dt a) (hB : (b1, b2, b3) = dt b) :
    eachL a1 a2 a3 b1 b2 b3 1 = (List.range m).map fun i : Nat => a + (i : Int) := by
  obtain ⟨p1, p2⟩ := dt_spec ha.1 ha.2
  obtain ⟨q1, q2⟩ := dt_spec hb.1 hb.2
  rw [← hA] at p1 p2
  rw [← hB] at q1 q2
  unfold eachL
  have e1 : num a1 a2 a3 = a := p2
  have e2 : num b1 b2 b3 = b := q2
  rw [if_pos ⟨p1, q1, by decide, .inl ⟨by decide, by rw [e1, e2]; exact hab⟩⟩, e1, e2]
  have := goL_one (b - a).natAbs a
  rw [show a + ((b - a).natAbs : Int) = b by omega] at this
  rw [this]
  congr 2
  omega
theorem count_dt (dy : Nat → Bool) (l : List Int) (h : ∀ x ∈ l, 0 ≤ x ∧ x ≤ 3652424) : (l.countP fun x => dy (wdN (nm (dt x)))) = l.countP fun x => dy (wdN x) :=
  List.countP_congr fun x hx => by rw [nm_dt (h x hx).1 (h x hx).2]
theorem left_le (dy : Nat → Bool) (n : Int) : left dy n ≤ 7 := by
  unfold left
  have := List.countP_le_length (p := fun x => dy (wdN x)) (l := (List.range (n % 7).toNat).map fun i : Nat => n - n % 7 + (i : Int))
  rw [List.length_map, List.length_range] at this
  omega
/-- a walk that shows that no panic comes -/
def noPanic (Q : Exit → Act → World → Prop) : Exit → Act → World → Prop
  | .panic _, _, _ => False
  | .normal, a, w => Q .normal a w
  | .ret, a, w => Q .ret a w
  | .exit k, a, w => Q (.exit k) a w
  | .goto k, a, w => Q (.goto k) a w
  | .outgrown, a, w => Q .outgrown a w
theorem noPanic_le (Q : Exit → Act → World → Prop) : ∀ e a w, noPanic Q e a w → Q e a w := by
  intro e a w h
  cases e <;> first | exact h | exact h.elim
attribute [local go_sem] Oper.semAt_some
def bl2T : Bool × List (List Nat × List Nat) := (true,
  [([], []), ([], []), ([0, 1], [0, 1]), ([2], [2]), ([3], [3]), ([3], [3]), ([5, 3, 3], [3, 5]), ([4, 3], [3, 4]),
    ([7, 3], [3, 7]), ([8, 6, 3], [3, 6, 8]), ([9, 3], [3, 9]), ([3, 10], [3, 10])])
theorem bl2_tab : rtab .any (opsOf Tryd.f21 17) = bl2T := by kernel_rfl
def bl3T : Bool × List (List Nat × List Nat) := (true,
  [([], []), ([], []), ([0, 1], [0, 1]), ([2], [2]), ([3], [3]), ([3], [3]), ([5, 3, 3], [3, 5]), ([4, 3], [3, 4]),
    ([7, 3], [3, 7]), ([8, 6, 3], [3, 6, 8]), ([9, 3], [3, 9]), ([10, 3], [3, 10]), ([3, 11], [3, 11])])
theorem bl3_tab : rtab .any (opsOf Tryd.f21 24) = bl3T := by kernel_rfl

set_option maxHeartbeats 8000000 in
set_option maxRecDepth 100000 in
theorem below_r (w : World) (g : Nat) (dy : Nat → Bool) (vs ve : Value) (S E : List D3) (n : Int) (hG : GlobOk w) (hR : RuleAt w g dy vs ve S E) (hS : GoodL S) (hE : GoodL E) (h0 : 0 ≤ n) (h1 : n ≤ 3652425) :
    Calls Tryd.prog 21 #[.pointer (some ⟨g, 0, none⟩), .int .i64 n] w fun e w' => e = .returned (.int .i64 (belF dy S E n)) ∧ Below w.heap.size w w' := by
  have xg : ∀ k : Nat, k < 7 → ∀ w : World, (Instr.index 22 (.agg #[.bool (dy 0), .bool (dy 1), .bool (dy 2), .bool (dy 3), .bool (dy 4), .bool (dy 5), .bool (dy 6)]) (.int .i64 (k : Int))).run Tryd.prog w = .ok (.bool (dy k)) w := fun k hk w => by
    rcases (show k = 0 ∨ k = 1 ∨ k = 2 ∨ k = 3 ∨ k = 4 ∨ k = 5 ∨ k = 6 by omega) with rfl | rfl | rfl | rfl | rfl | rfl | rfl <;> kernel_rfl
  have HG := Lib.hid hG
  have HR := Lib.hid hR
  have HS := Lib.hid hS
  have HE := Lib.hid hE
  have y0 := hR.day 0 (by omega)
  have y1 := hR.day 1 (by omega)
  have y2 := hR.day 2 (by omega)
  have y3 := hR.day 3 (by omega)
  have y4 := hR.day 4 (by omega)
  have y5 := hR.day 5 (by omega)
  have y6 := hR.day 6 (by omega)
  have gl : g < w.heap.size := World.block_lt_of_cell? _ ⟨g, 0, none⟩ y0
  have HX := Lib.hid xg
  have q1 : n.tdiv 7 = n / 7 := td n 7 h0
  have q2 : n.tmod 7 = n % 7 := tm n 7 h0
  obtain ⟨q, hq⟩ : ∃ q, q = n / 7 := ⟨_, rfl⟩
  obtain ⟨m, hm⟩ : ∃ m, m = n % 7 := ⟨_, rfl⟩
  have hqb : 0 ≤ q ∧ q ≤ 521775 := by omega
  have hmb : 0 ≤ m ∧ m < 7 := by omega
  rw [← hq] at q1
  rw [← hm] at q2
  have HQ := Lib.hid hq
  have HM := Lib.hid hm
  clear hG hR xg hS hE hq hm
  by_cases hm0 : m = 0
  · subst hm0
    have mz : decide ((0 : Int) > 0) = false := by decide
    go_enter Tryd.func21, Tryd.ntmps21
    go_wp2
    obtain ⟨W, hW⟩ : ∃ W, W = ((w.alloc (.cells #[.pointer (some ⟨g, 0, none⟩)] 49)).alloc (.cells #[.int .i64 0] 3)) := ⟨_, rfl⟩
    have k1 : Below w.heap.size w W := by
      rw [hW]
      exact ((Below.refl w.heap.size w).alloc (Nat.le_refl _) _).alloc (by simp) _
    have c1 : Cnt W W (w.heap.size + 1) 0 := ⟨rfl, rfl, rfl, Nat.le_refl _, fun _ _ _ => rfl, by
      rw [hW]
      have := alnew (w.alloc (.cells #[.pointer (some ⟨g, 0, none⟩)] 49)) (.cells #[.int .i64 0] 3)
      rw [World.size_alloc] at this
      exact this⟩
    have p1 : W.heap[w.heap.size]? = some (.cells #[.pointer (some ⟨g, 0, none⟩)] 49 (0, 0)) := by
      rw [hW]
      exact (Below.heap_alloc _ _ _ (by simp)).trans (alnew w _)
    have sz : w.heap.size + 1 < W.heap.size := by rw [hW]; simp
    rw [← hW]
    have K1 := Lib.hid k1
    have P1 := Lib.hid p1
    have C1 := Lib.hid c1
    have SZ := Lib.hid sz
    clear k1 p1 c1 sz hW y0 y1 y2 y3 y4 y5 y6
    go_loopw [7, 19] (fun _ i wr => ∃ k : Nat, k ≤ 7 ∧ i = .int .i64 (k : Int) ∧ Hid (Cnt W wr (w.heap.size + 1) ((trues dy k : Int) * q))) (fun _ i _ => 7 - (intOf i).toNat)
    case atStart => exact ⟨0, by omega, rfl, by simpa [trues] using C1⟩
    case round =>
      obtain ⟨k, hk, rfl, HC⟩ := hrel
      by_cases hlt : k < 7
      · have hx := HX.out k hlt
        have t1 : decide ((k : Int) < 7) = true := decide_eq_true (by omega)
        have hcell := HC.out.get
        have hfree := HC.out.free
        have tb := trues_le dy k
        have tm1 : 0 ≤ (trues dy k : Int) * q := Int.mul_nonneg (by omega) hqb.1
        have tm2 : (trues dy k : Int) * q ≤ 3652425 := by
          have := Int.mul_le_mul (show (trues dy k : Int) ≤ 7 by omega) hqb.2 hqb.1 (by omega)
          omega
        have ts := trues_succ dy k
        obtain ⟨c, hc⟩ : ∃ c, c = (trues dy k : Int) * q := ⟨_, rfl⟩
        rw [← hc] at hcell tm1 tm2 HC
        have TS := Lib.hid ts
        have HC2 := Lib.hid hc
        clear ts hc
        cases hd : dy k
        · rw [hd] at hx
          go_wp2_with fail
          go_roundw
          case rel => exact ⟨k + 1, by omega, by go_num, Lib.hid (by rw [TS.out, hd]; simpa [← HC2.out] using HC.out)⟩
          case measure => simp [intOf]; omega
        · rw [hd] at hx
          have hw1 : IntKind.i64.wrap (c + q) = c + q := IntWalk.i64_in _ (by omega)
          go_wp2_with fail
          go_roundw
          case rel =>
            refine ⟨k + 1, by omega, by go_num, Lib.hid ?_⟩
            have e : ((trues dy (k + 1) : Nat) : Int) * q = c + q := by rw [TS.out, hd, HC2.out]; simp [Int.add_mul]
            rw [e]
            have := HC.out.put (c + q)
            first | exact this | (rw [← hw1] at this; exact this) | (simpa [hw1] using this)
          case measure => simp [intOf]; omega
      · obtain rfl : k = 7 := by omega
        clear hlt
        clear C1
        obtain ⟨c, hc⟩ : ∃ c, c = (trues dy 7 : Int) * q := ⟨_, rfl⟩
        have tb := trues_le dy 7
        have tm1 : 0 ≤ (trues dy 7 : Int) * q := Int.mul_nonneg (by omega) hqb.1
        have tm2 : (trues dy 7 : Int) * q ≤ 3652425 := by
          have := Int.mul_le_mul (show (trues dy 7 : Int) ≤ 7 by omega) hqb.2 hqb.1 (by omega)
          omega
        rw [← hc] at HC tm1 tm2
        have HC2 := Lib.hid hc
        clear hc tb
        have hcp : wr.cell? ⟨w.heap.size, 0, none⟩ = some (.pointer (some ⟨g, 0, none⟩)) := by
          have := (HC.out.keep w.heap.size (by have := SZ.out; omega) (by omega)).trans P1.out
          simp [cell_of_row _ _ _ _ _ _ this]
        rw [show ((7 : Nat) : Int) = 7 from rfl]
        have hsv : wr.cell? ⟨g, 7, none⟩ = some vs := (HR.out.below (HC.out.old K1.out (Nat.le_succ _))).shut
        obtain ⟨x, cap, rfl, hlen, hx⟩ := HR.out.ds
        have HXs := Lib.hid hx
        have l0 : (0 : Int) ≤ (S.length : Int) := Int.natCast_nonneg _
        clear hx
        go_wp2_with fail
        go_loopw [10, 11, 56] (fun _ _ i wr => ∃ k : Nat, k ≤ S.length ∧ i = .int .i64 (k : Int) ∧ Hid (Cnt W wr (w.heap.size + 1) (c - (ahead dy (S.take k) n : Int)))) (fun _ _ i _ => S.length - (intOf i).toNat)
        case atStart => exact ⟨0, Nat.zero_le _, rfl, by simpa [ahead] using HC⟩
        case round =>
          clear HC hsv hcp
          obtain ⟨k, hk, rfl, HC⟩ := hrel
          by_cases hlt : k < S.length
          · obtain ⟨g', o, rfl, e1, e2, e3⟩ := HXs.out k hlt
            have k0 : (0 : Int) ≤ (k : Int) := Int.natCast_nonneg _
            have k1 : (k : Int) < (S.length : Int) := by omega
            have kold := HC.out.old K1.out (Nat.le_succ _)
            have y1 := cellB e1 kold
            have y2 := cellB e2 kold
            have y3 := cellB e3 kold
            have HA := Lib.hid (ahead_take dy S n k hlt)
            have al := ahead_le dy S n k
            obtain ⟨u, hu⟩ : ∃ u, u = S[k] := ⟨_, rfl⟩
            rw [← hu] at y1 y2 y3 HA
            have hux : okD u = true := by rw [hu]; exact HS.out.ok _ (List.getElem_mem _)
            obtain ⟨n1, n2⟩ := nm_bd hux
            have HUx := Lib.hid hux
            obtain ⟨d, hd⟩ : ∃ d, d = c - (ahead dy (S.take k) n : Int) := ⟨_, rfl⟩
            have hdb : -4700000000000000000 ≤ d ∧ d ≤ 4700000000000000000 := by omega
            rw [← hd] at HC
            have HD := Lib.hid hd
            clear e1 e2 e3 kold hu hux hd al
            go_upto_region 16 with fail
            obtain ⟨wl, hwl⟩ : ∃ wl, wl = wr := ⟨_, rfl⟩
            rw [← hwl] at HC y1 y2 y3 ⊢
            clear hwl
            obtain ⟨wr, hwr⟩ : ∃ wr, wr = wl.alloc (.cells #[.int .i64 u.1, .int .i64 u.2.1, .int .i64 u.2.2] 27) := ⟨_, rfl⟩
            have q3 : Below wl.heap.size wl wr := by rw [hwr]; exact (Below.refl _ _).alloc (Nat.le_refl _) _
            have q4 : Bx wr wl.heap.size u := by rw [hwr]; exact alnew wl _
            rw [← hwr]
            have HC2 := Lib.hid (HC.out.below q3)
            have u0 := q4.c0
            have u1 := q4.c1
            have u2 := q4.c2
            have HN : Hid (Calls Tryd.prog 20 #[vd u] wr fun e w' => e = .returned (.int .i64 (nm u)) ∧ Below wr.heap.size wr w') := Lib.hid (number_r u HUx.out wr (HG.out.below (HC2.out.old K1.out (Nat.le_succ _))))
            clear hwr q3 q4 y1 y2 y3 HC
            go_upto_region 17 with (go_at_call 20; (with_reducible refine HN.out.mono ?_); rintro ev w2 ⟨rfl, hb⟩)
            have HC3 := Lib.hid (HC2.out.below hb)
            clear u0 u1 u2 HN HC2 hb
            obtain ⟨wr, hwr⟩ : ∃ wr, wr = w2 := ⟨_, rfl⟩
            rw [← hwr] at HC3 ⊢
            clear hwr
            have kold := HC3.out.old K1.out (Nat.le_succ _)
            have w7 := wdN_lt (nm u)
            have w8 : (0 : Int) ≤ (wdN (nm u) : Int) := Int.natCast_nonneg _
            have w9 : (wdN (nm u) : Int) < 7 := by omega
            obtain ⟨b1, hb1⟩ : ∃ b1, b1 = dy (wdN (nm u)) := ⟨_, rfl⟩
            have HSS : Hid (∀ w', Below wr.heap.size wr w' → (w'.cell? ⟨w.heap.size, 0, none⟩ = some (.pointer (some ⟨g, 0, none⟩)) ∧ w'.cell? ⟨g, wdN (nm u), none⟩ = some (.bool b1))) := Lib.hid fun w' k => by
              have r := (HR.out.below kold).below k
              have p := (k.block _ (Array.getElem?_eq_some_iff.1 (HC3.out.keep w.heap.size (by have := SZ.out; omega) (by omega) ▸ P1.out)).1).trans ((HC3.out.keep w.heap.size (by have := SZ.out; omega) (by omega)).trans P1.out)
              exact ⟨by simp [cell_of_row _ _ _ _ _ _ p], by rw [hb1]; exact r.day _ w7⟩
            have HW : Hid (∀ w1, Below wr.heap.size wr w1 → Calls Tryd.prog 37 #[.int .i64 (nm u)] w1 fun e w' => e = .returned (.int .i64 (wdN (nm u) : Int)) ∧ Below w1.heap.size w1 w') := Lib.hid fun w1 k => weekday_r (nm u) (by omega) (by omega) w1
            have HB1 := Lib.hid hb1
            have hb0 : Below wr.heap.size wr wr.drew := (Below.refl _ _).drew
            clear kold w7 hb1
            by_cases hn : nm u < n
            · have z1 : decide (nm u < n) = true := decide_eq_true hn
              cases b1
              · refine start_ (n := 12) (S := fun w' => w'.cell? ⟨w.heap.size, 0, none⟩ = some (.pointer (some ⟨g, 0, none⟩)) ∧ w'.cell? ⟨g, wdN (nm u), none⟩ = some (.bool false)) (ds := []) #[false, false, false, false, false, false, false, false, false, false, false, false] (by kernel_rfl) rfl rfl (HSS.out _ hb0) (fun hHeld => ?_); refine with_tab bl2_tab (fun HT_ => ?_)
                generalize wr.drew = w6 at hb0 hHeld ⊢
                refine pure_ (i := 0) (N := some 62) (v := ?_) (a' := ?_) #[true, false, false, false, false, false, false, false, false, false, false, false] rfl rfl (any_of HT_.out (by kernel_rfl)) (fun _ _ _ h => h) (Or.inl ⟨by rfl, ?_⟩) ?_ ?_
                rotate_left
                · intro w'
                  go_simp
                  try with_reducible rfl
                rotate_left
                · simp only [Act.put, List.setIfInBounds_toArray, List.set_cons_zero, List.set_cons_succ]
                  rfl
                refine pure_ (i := 1) (N := some 63) (v := ?_) (a' := ?_) #[true, true, false, false, false, false, false, false, false, false, false, false] rfl rfl (any_of HT_.out (by kernel_rfl)) (fun _ _ _ h => h) (Or.inl ⟨by rfl, ?_⟩) ?_ ?_
                rotate_left
                · intro w'
                  go_simp
                  try with_reducible rfl
                rotate_left
                · simp only [Act.put, List.setIfInBounds_toArray, List.set_cons_zero, List.set_cons_succ]
                  rfl
                refine pure_ (i := 2) (N := some 64) (v := ?_) (a' := ?_) #[true, true, true, false, false, false, false, false, false, false, false, false] rfl rfl (any_of HT_.out (by kernel_rfl)) (fun _ _ _ h => h) (Or.inl ⟨by rfl, ?_⟩) ?_ ?_
                rotate_left
                · intro w'
                  go_simp
                  try with_reducible rfl
                rotate_left
                · simp only [Act.put, List.setIfInBounds_toArray, List.set_cons_zero, List.set_cons_succ]
                  rfl
                refine pure_ (i := 3) (N := some 65) (v := ?_) (a' := ?_) #[true, true, true, true, false, false, false, false, false, false, false, false] rfl rfl (any_of HT_.out (by kernel_rfl)) (fun _ _ _ h => h) (Or.inl ⟨by rfl, ?_⟩) ?_ ?_
                rotate_left
                · intro w'
                  go_simp
                  try with_reducible rfl
                rotate_left
                · simp only [Act.put, List.setIfInBounds_toArray, List.set_cons_zero, List.set_cons_succ]
                  rfl
                refine take_ (i := 4) (N := some 66) (v := ?_) (a' := ?_) #[true, true, true, true, true, false, false, false, false, false, false, false] rfl rfl (take_of HT_.out (by kernel_rfl)) (fun _ _ _ h => h) (Or.inl ⟨by rfl, ?_⟩) hHeld ?_ ?_
                rotate_left
                · rintro w' ⟨s1, s2⟩
                  go_simp
                  try with_reducible rfl
                rotate_left
                · simp only [Act.put, List.setIfInBounds_toArray, List.set_cons_zero, List.set_cons_succ]
                  rfl
                refine pure_ (i := 5) (N := some 67) (v := ?_) (a' := ?_) #[true, true, true, true, true, true, false, false, false, false, false, false] rfl rfl (any_of HT_.out (by kernel_rfl)) (fun _ _ _ h => h) (Or.inl ⟨by rfl, ?_⟩) ?_ ?_
                rotate_left
                · intro w'
                  go_simp
                  try with_reducible rfl
                rotate_left
                · simp only [Act.put, List.setIfInBounds_toArray, List.set_cons_zero, List.set_cons_succ]
                  rfl
                refine pure_ (i := 7) (N := some 69) (v := ?_) (a' := ?_) #[true, true, true, true, true, true, false, true, false, false, false, false] rfl rfl (any_of HT_.out (by kernel_rfl)) (fun _ _ _ h => h) (Or.inl ⟨by rfl, ?_⟩) ?_ ?_
                rotate_left
                · intro w'
                  go_simp
                  try with_reducible rfl
                rotate_left
                · simp only [Act.put, List.setIfInBounds_toArray, List.set_cons_zero, List.set_cons_succ]
                  rfl
                refine pure_ (i := 8) (N := some 70) (v := ?_) (a' := ?_) #[true, true, true, true, true, true, false, true, true, false, false, false] rfl rfl (any_of HT_.out (by kernel_rfl)) (fun _ _ _ h => h) (Or.inl ⟨by rfl, ?_⟩) ?_ ?_
                rotate_left
                · intro w'
                  go_simp
                  try with_reducible rfl
                rotate_left
                · simp only [Act.put, List.setIfInBounds_toArray, List.set_cons_zero, List.set_cons_succ]
                  rfl
                refine one_ (i := 6) (N := some 68) #[true, true, true, true, true, true, true, true, true, false, false, false] rfl rfl (one_of HT_.out (by kernel_rfl)) (by decide) (fun K hK => ?_)
                refine goes_ Tryd.func37 (by kernel_rfl) rfl #[.int .i64 (nm u)] (by rfl) rfl rfl (by (try simp only [List.map_toArray, List.map_cons, List.map_nil]); first | done | rfl) ?_
                with_reducible refine (HW.out _ hb0).mono ?_
                rintro ev w20 ⟨rfl, hbc0⟩
                have hbc0' := hb0.trans (hbc0.mono hb0.size)
                refine ⟨_, rfl, ?_⟩
                refine hK.out _ _ (HSS.out _ hbc0') (fun hHeld => ?_)
                clear hK K
                refine norm_ (a' := ?_) ?_ ?_
                rotate_left
                · show Act.put _ (some 68) _ = _
                  simp only [Act.put, List.setIfInBounds_toArray, List.set_cons_zero, List.set_cons_succ]
                  rfl
                refine pure_ (i := 9) (N := some 71) (v := ?_) (a' := ?_) #[true, true, true, true, true, true, true, true, true, true, false, false] rfl rfl (any_of HT_.out (by kernel_rfl)) (fun _ _ _ h => h) (Or.inl ⟨by rfl, ?_⟩) ?_ ?_
                rotate_left
                · intro w'
                  go_simp
                  try with_reducible rfl
                rotate_left
                · simp only [Act.put, List.setIfInBounds_toArray, List.set_cons_zero, List.set_cons_succ]
                  rfl
                refine take_ (i := 10) (N := some 72) (v := ?_) (a' := ?_) #[true, true, true, true, true, true, true, true, true, true, true, false] rfl rfl (take_of HT_.out (by kernel_rfl)) (fun _ _ _ h => h) (Or.inl ⟨by rfl, ?_⟩) hHeld ?_ ?_
                rotate_left
                · rintro w' ⟨s1, s2⟩
                  go_simp
                  try with_reducible rfl
                rotate_left
                · simp only [Act.put, List.setIfInBounds_toArray, List.set_cons_zero, List.set_cons_succ]
                  rfl
                refine pure_ (i := 11) (N := some 73) (v := ?_) (a' := ?_) #[true, true, true, true, true, true, true, true, true, true, true, true] rfl rfl (any_of HT_.out (by kernel_rfl)) (fun _ _ _ h => h) (Or.inl ⟨by rfl, ?_⟩) ?_ ?_
                rotate_left
                · intro w'
                  go_simp
                  try with_reducible rfl
                rotate_left
                · simp only [Act.put, List.setIfInBounds_toArray, List.set_cons_zero, List.set_cons_succ]
                  rfl
                refine done_ (done_of HT_.out (by kernel_rfl)) ?_
                have HC4 := Lib.hid (HC3.out.below hbc0')
                go_wp2_with fail
                go_roundw
                case rel => exact ⟨k + 1, by omega, by go_num, Lib.hid (by rw [HA.out, z1, ← HB1.out]; simpa [← HD.out] using HC4.out)⟩
                case measure => simp [intOf]; omega
              · refine start_ (n := 12) (S := fun w' => w'.cell? ⟨w.heap.size, 0, none⟩ = some (.pointer (some ⟨g, 0, none⟩)) ∧ w'.cell? ⟨g, wdN (nm u), none⟩ = some (.bool true)) (ds := []) #[false, false, false, false, false, false, false, false, false, false, false, false] (by kernel_rfl) rfl rfl (HSS.out _ hb0) (fun hHeld => ?_); refine with_tab bl2_tab (fun HT_ => ?_)
                generalize wr.drew = w6 at hb0 hHeld ⊢
                refine pure_ (i := 0) (N := some 62) (v := ?_) (a' := ?_) #[true, false, false, false, false, false, false, false, false, false, false, false] rfl rfl (any_of HT_.out (by kernel_rfl)) (fun _ _ _ h => h) (Or.inl ⟨by rfl, ?_⟩) ?_ ?_
                rotate_left
                · intro w'
                  go_simp
                  try with_reducible rfl
                rotate_left
                · simp only [Act.put, List.setIfInBounds_toArray, List.set_cons_zero, List.set_cons_succ]
                  rfl
                refine pure_ (i := 1) (N := some 63) (v := ?_) (a' := ?_) #[true, true, false, false, false, false, false, false, false, false, false, false] rfl rfl (any_of HT_.out (by kernel_rfl)) (fun _ _ _ h => h) (Or.inl ⟨by rfl, ?_⟩) ?_ ?_
                rotate_left
                · intro w'
                  go_simp
                  try with_reducible rfl
                rotate_left
                · simp only [Act.put, List.setIfInBounds_toArray, List.set_cons_zero, List.set_cons_succ]
                  rfl
                refine pure_ (i := 2) (N := some 64) (v := ?_) (a' := ?_) #[true, true, true, false, false, false, false, false, false, false, false, false] rfl rfl (any_of HT_.out (by kernel_rfl)) (fun _ _ _ h => h) (Or.inl ⟨by rfl, ?_⟩) ?_ ?_
                rotate_left
                · intro w'
                  go_simp
                  try with_reducible rfl
                rotate_left
                · simp only [Act.put, List.setIfInBounds_toArray, List.set_cons_zero, List.set_cons_succ]
                  rfl
                refine pure_ (i := 3) (N := some 65) (v := ?_) (a' := ?_) #[true, true, true, true, false, false, false, false, false, false, false, false] rfl rfl (any_of HT_.out (by kernel_rfl)) (fun _ _ _ h => h) (Or.inl ⟨by rfl, ?_⟩) ?_ ?_
                rotate_left
                · intro w'
                  go_simp
                  try with_reducible rfl
                rotate_left
                · simp only [Act.put, List.setIfInBounds_toArray, List.set_cons_zero, List.set_cons_succ]
                  rfl
                refine take_ (i := 4) (N := some 66) (v := ?_) (a' := ?_) #[true, true, true, true, true, false, false, false, false, false, false, false] rfl rfl (take_of HT_.out (by kernel_rfl)) (fun _ _ _ h => h) (Or.inl ⟨by rfl, ?_⟩) hHeld ?_ ?_
                rotate_left
                · rintro w' ⟨s1, s2⟩
                  go_simp
                  try with_reducible rfl
                rotate_left
                · simp only [Act.put, List.setIfInBounds_toArray, List.set_cons_zero, List.set_cons_succ]
                  rfl
                refine pure_ (i := 5) (N := some 67) (v := ?_) (a' := ?_) #[true, true, true, true, true, true, false, false, false, false, false, false] rfl rfl (any_of HT_.out (by kernel_rfl)) (fun _ _ _ h => h) (Or.inl ⟨by rfl, ?_⟩) ?_ ?_
                rotate_left
                · intro w'
                  go_simp
                  try with_reducible rfl
                rotate_left
                · simp only [Act.put, List.setIfInBounds_toArray, List.set_cons_zero, List.set_cons_succ]
                  rfl
                refine pure_ (i := 7) (N := some 69) (v := ?_) (a' := ?_) #[true, true, true, true, true, true, false, true, false, false, false, false] rfl rfl (any_of HT_.out (by kernel_rfl)) (fun _ _ _ h => h) (Or.inl ⟨by rfl, ?_⟩) ?_ ?_
                rotate_left
                · intro w'
                  go_simp
                  try with_reducible rfl
                rotate_left
                · simp only [Act.put, List.setIfInBounds_toArray, List.set_cons_zero, List.set_cons_succ]
                  rfl
                refine pure_ (i := 8) (N := some 70) (v := ?_) (a' := ?_) #[true, true, true, true, true, true, false, true, true, false, false, false] rfl rfl (any_of HT_.out (by kernel_rfl)) (fun _ _ _ h => h) (Or.inl ⟨by rfl, ?_⟩) ?_ ?_
                rotate_left
                · intro w'
                  go_simp
                  try with_reducible rfl
                rotate_left
                · simp only [Act.put, List.setIfInBounds_toArray, List.set_cons_zero, List.set_cons_succ]
                  rfl
                refine one_ (i := 6) (N := some 68) #[true, true, true, true, true, true, true, true, true, false, false, false] rfl rfl (one_of HT_.out (by kernel_rfl)) (by decide) (fun K hK => ?_)
                refine goes_ Tryd.func37 (by kernel_rfl) rfl #[.int .i64 (nm u)] (by rfl) rfl rfl (by (try simp only [List.map_toArray, List.map_cons, List.map_nil]); first | done | rfl) ?_
                with_reducible refine (HW.out _ hb0).mono ?_
                rintro ev w20 ⟨rfl, hbc0⟩
                have hbc0' := hb0.trans (hbc0.mono hb0.size)
                refine ⟨_, rfl, ?_⟩
                refine hK.out _ _ (HSS.out _ hbc0') (fun hHeld => ?_)
                clear hK K
                refine norm_ (a' := ?_) ?_ ?_
                rotate_left
                · show Act.put _ (some 68) _ = _
                  simp only [Act.put, List.setIfInBounds_toArray, List.set_cons_zero, List.set_cons_succ]
                  rfl
                refine pure_ (i := 9) (N := some 71) (v := ?_) (a' := ?_) #[true, true, true, true, true, true, true, true, true, true, false, false] rfl rfl (any_of HT_.out (by kernel_rfl)) (fun _ _ _ h => h) (Or.inl ⟨by rfl, ?_⟩) ?_ ?_
                rotate_left
                · intro w'
                  go_simp
                  try with_reducible rfl
                rotate_left
                · simp only [Act.put, List.setIfInBounds_toArray, List.set_cons_zero, List.set_cons_succ]
                  rfl
                refine take_ (i := 10) (N := some 72) (v := ?_) (a' := ?_) #[true, true, true, true, true, true, true, true, true, true, true, false] rfl rfl (take_of HT_.out (by kernel_rfl)) (fun _ _ _ h => h) (Or.inl ⟨by rfl, ?_⟩) hHeld ?_ ?_
                rotate_left
                · rintro w' ⟨s1, s2⟩
                  go_simp
                  try with_reducible rfl
                rotate_left
                · simp only [Act.put, List.setIfInBounds_toArray, List.set_cons_zero, List.set_cons_succ]
                  rfl
                refine pure_ (i := 11) (N := some 73) (v := ?_) (a' := ?_) #[true, true, true, true, true, true, true, true, true, true, true, true] rfl rfl (any_of HT_.out (by kernel_rfl)) (fun _ _ _ h => h) (Or.inl ⟨by rfl, ?_⟩) ?_ ?_
                rotate_left
                · intro w'
                  go_simp
                  try with_reducible rfl
                rotate_left
                · simp only [Act.put, List.setIfInBounds_toArray, List.set_cons_zero, List.set_cons_succ]
                  rfl
                refine done_ (done_of HT_.out (by kernel_rfl)) ?_
                have HC4 := Lib.hid (HC3.out.below hbc0')
                have hcell := HC4.out.get
                have hfree := HC4.out.free
                have hw1 : IntKind.i64.wrap (d - 1) = d - 1 := IntWalk.i64_in _ (by omega)
                go_wp2_with fail
                go_roundw
                case rel =>
                  refine ⟨k + 1, by omega, by go_num, Lib.hid ?_⟩
                  have e : c - (ahead dy (S.take (k + 1)) n : Int) = d - 1 := by rw [HA.out, z1, ← HB1.out, HD.out]; simp; omega
                  rw [e]
                  exact HC4.out.put (d - 1)
                case measure => simp [intOf]; omega
            · have z1 : decide (nm u < n) = false := decide_eq_false hn
              refine start_ (n := 12) (S := fun w' => w'.cell? ⟨w.heap.size, 0, none⟩ = some (.pointer (some ⟨g, 0, none⟩)) ∧ w'.cell? ⟨g, wdN (nm u), none⟩ = some (.bool b1)) (ds := []) #[false, false, false, false, false, false, false, false, false, false, false, false] (by kernel_rfl) rfl rfl (HSS.out _ hb0) (fun hHeld => ?_); refine with_tab bl2_tab (fun HT_ => ?_)
              generalize wr.drew = w6 at hb0 hHeld ⊢
              refine pure_ (i := 0) (N := some 62) (v := ?_) (a' := ?_) #[true, false, false, false, false, false, false, false, false, false, false, false] rfl rfl (any_of HT_.out (by kernel_rfl)) (fun _ _ _ h => h) (Or.inl ⟨by rfl, ?_⟩) ?_ ?_
              rotate_left
              · intro w'
                go_simp
                try with_reducible rfl
              rotate_left
              · simp only [Act.put, List.setIfInBounds_toArray, List.set_cons_zero, List.set_cons_succ]
                rfl
              refine pure_ (i := 1) (N := some 63) (v := ?_) (a' := ?_) #[true, true, false, false, false, false, false, false, false, false, false, false] rfl rfl (any_of HT_.out (by kernel_rfl)) (fun _ _ _ h => h) (Or.inl ⟨by rfl, ?_⟩) ?_ ?_
              rotate_left
              · intro w'
                go_simp
                try with_reducible rfl
              rotate_left
              · simp only [Act.put, List.setIfInBounds_toArray, List.set_cons_zero, List.set_cons_succ]
                rfl
              refine pure_ (i := 2) (N := some 64) (v := ?_) (a' := ?_) #[true, true, true, false, false, false, false, false, false, false, false, false] rfl rfl (any_of HT_.out (by kernel_rfl)) (fun _ _ _ h => h) (Or.inl ⟨by rfl, ?_⟩) ?_ ?_
              rotate_left
              · intro w'
                go_simp
                try with_reducible rfl
              rotate_left
              · simp only [Act.put, List.setIfInBounds_toArray, List.set_cons_zero, List.set_cons_succ]
                rfl
              refine pure_ (i := 3) (N := some 65) (v := ?_) (a' := ?_) #[true, true, true, true, false, false, false, false, false, false, false, false] rfl rfl (any_of HT_.out (by kernel_rfl)) (fun _ _ _ h => h) (Or.inl ⟨by rfl, ?_⟩) ?_ ?_
              rotate_left
              · intro w'
                go_simp
                try with_reducible rfl
              rotate_left
              · simp only [Act.put, List.setIfInBounds_toArray, List.set_cons_zero, List.set_cons_succ]
                rfl
              refine pure_ (i := 4) (N := some 66) (v := undef) (a' := ?_) #[true, true, true, true, true, false, false, false, false, false, false, false] rfl rfl (any_of HT_.out (by kernel_rfl)) (fun _ _ _ h => h) (Or.inr ⟨by rfl, rfl⟩) ?_ ?_
              rotate_left
              · simp only [Act.put, List.setIfInBounds_toArray, List.set_cons_zero, List.set_cons_succ]
                rfl
              refine pure_ (i := 5) (N := some 67) (v := undef) (a' := ?_) #[true, true, true, true, true, true, false, false, false, false, false, false] rfl rfl (any_of HT_.out (by kernel_rfl)) (fun _ _ _ h => h) (Or.inr ⟨by rfl, rfl⟩) ?_ ?_
              rotate_left
              · simp only [Act.put, List.setIfInBounds_toArray, List.set_cons_zero, List.set_cons_succ]
                rfl
              refine pure_ (i := 7) (N := some 69) (v := undef) (a' := ?_) #[true, true, true, true, true, true, false, true, false, false, false, false] rfl rfl (any_of HT_.out (by kernel_rfl)) (fun _ _ _ h => h) (Or.inr ⟨by rfl, rfl⟩) ?_ ?_
              rotate_left
              · simp only [Act.put, List.setIfInBounds_toArray, List.set_cons_zero, List.set_cons_succ]
                rfl
              refine pure_ (i := 8) (N := some 70) (v := undef) (a' := ?_) #[true, true, true, true, true, true, false, true, true, false, false, false] rfl rfl (any_of HT_.out (by kernel_rfl)) (fun _ _ _ h => h) (Or.inr ⟨by rfl, rfl⟩) ?_ ?_
              rotate_left
              · simp only [Act.put, List.setIfInBounds_toArray, List.set_cons_zero, List.set_cons_succ]
                rfl
              refine one_ (i := 6) (N := some 68) #[true, true, true, true, true, true, true, true, true, false, false, false] rfl rfl (one_of HT_.out (by kernel_rfl)) (by decide) (fun K hK => ?_)
              refine off_ (by rfl) ?_
              refine hK.out _ _ hHeld (fun hHeld => ?_)
              clear hK K
              refine norm_ (a' := ?_) ?_ ?_
              rotate_left
              · show Act.put _ (some 68) _ = _
                simp only [Act.put, List.setIfInBounds_toArray, List.set_cons_zero, List.set_cons_succ]
                rfl
              refine pure_ (i := 9) (N := some 71) (v := undef) (a' := ?_) #[true, true, true, true, true, true, true, true, true, true, false, false] rfl rfl (any_of HT_.out (by kernel_rfl)) (fun _ _ _ h => h) (Or.inr ⟨by rfl, rfl⟩) ?_ ?_
              rotate_left
              · simp only [Act.put, List.setIfInBounds_toArray, List.set_cons_zero, List.set_cons_succ]
                rfl
              refine pure_ (i := 10) (N := some 72) (v := undef) (a' := ?_) #[true, true, true, true, true, true, true, true, true, true, true, false] rfl rfl (any_of HT_.out (by kernel_rfl)) (fun _ _ _ h => h) (Or.inr ⟨by rfl, rfl⟩) ?_ ?_
              rotate_left
              · simp only [Act.put, List.setIfInBounds_toArray, List.set_cons_zero, List.set_cons_succ]
                rfl
              refine pure_ (i := 11) (N := some 73) (v := ?_) (a' := ?_) #[true, true, true, true, true, true, true, true, true, true, true, true] rfl rfl (any_of HT_.out (by kernel_rfl)) (fun _ _ _ h => h) (Or.inl ⟨by rfl, ?_⟩) ?_ ?_
              rotate_left
              · intro w'
                go_simp
                try with_reducible rfl
              rotate_left
              · simp only [Act.put, List.setIfInBounds_toArray, List.set_cons_zero, List.set_cons_succ]
                rfl
              refine done_ (done_of HT_.out (by kernel_rfl)) ?_
              have HC4 := Lib.hid (HC3.out.below hb0)
              go_wp2_with fail
              go_roundw
              case rel => exact ⟨k + 1, by omega, by go_num, Lib.hid (by rw [HA.out, z1]; simpa [← HD.out] using HC4.out)⟩
              case measure => simp [intOf]; omega
          · obtain rfl : S.length = k := by omega
            clear hlt hk
            rw [List.take_length] at HC
            have ah := ahead_le dy S n S.length
            rw [List.take_length] at ah
            obtain ⟨c2, hc2⟩ : ∃ c2, c2 = c - (ahead dy S n : Int) := ⟨_, rfl⟩
            rw [← hc2] at HC
            have cb2 : -4611686018427387903 ≤ c2 ∧ c2 ≤ 4000000 := by omega
            have HCC := Lib.hid hc2
            clear ah hc2 tm1 tm2 hlen
            have hcp : wr.cell? ⟨w.heap.size, 0, none⟩ = some (.pointer (some ⟨g, 0, none⟩)) := by
              have := (HC.out.keep w.heap.size (by have := SZ.out; omega) (by omega)).trans P1.out
              simp [cell_of_row _ _ _ _ _ _ this]
            have hsv : wr.cell? ⟨g, 8, none⟩ = some ve := (HR.out.below (HC.out.old K1.out (Nat.le_succ _))).extra
            obtain ⟨x, cap, rfl, hlen, hx⟩ := HR.out.de
            have HXs := Lib.hid hx
            have l0 : (0 : Int) ≤ (E.length : Int) := Int.natCast_nonneg _
            clear hx
            go_wp2_with fail
            go_loopw [13, 14, 82] (fun _ _ i wr => ∃ k : Nat, k ≤ E.length ∧ i = .int .i64 (k : Int) ∧ Hid (Cnt W wr (w.heap.size + 1) (c2 + (ahead (fun k => !dy k) (E.take k) n : Int)))) (fun _ _ i _ => E.length - (intOf i).toNat)
            case atStart => exact ⟨0, Nat.zero_le _, rfl, by simpa [ahead] using HC⟩
            case round =>
              clear HC hsv hcp
              obtain ⟨k, hk, rfl, HC⟩ := hrel
              by_cases hlt : k < E.length
              · obtain ⟨g', o, rfl, e1, e2, e3⟩ := HXs.out k hlt
                have k0 : (0 : Int) ≤ (k : Int) := Int.natCast_nonneg _
                have k1 : (k : Int) < (E.length : Int) := by omega
                have kold := HC.out.old K1.out (Nat.le_succ _)
                have y1 := cellB e1 kold
                have y2 := cellB e2 kold
                have y3 := cellB e3 kold
                have HA := Lib.hid (ahead_take (fun k => !dy k) E n k hlt)
                have al := ahead_le (fun k => !dy k) E n k
                obtain ⟨u, hu⟩ : ∃ u, u = E[k] := ⟨_, rfl⟩
                rw [← hu] at y1 y2 y3 HA
                have hux : okD u = true := by rw [hu]; exact HE.out.ok _ (List.getElem_mem _)
                obtain ⟨n1, n2⟩ := nm_bd hux
                have HUx := Lib.hid hux
                obtain ⟨d, hd⟩ : ∃ d, d = c2 + (ahead (fun k => !dy k) (E.take k) n : Int) := ⟨_, rfl⟩
                have hdb : -4700000000000000000 ≤ d ∧ d ≤ 4700000000000000000 := by omega
                rw [← hd] at HC
                have HD := Lib.hid hd
                clear e1 e2 e3 kold hu hux hd al
                go_upto_region 23 with fail
                obtain ⟨wl, hwl⟩ : ∃ wl, wl = wr := ⟨_, rfl⟩
                rw [← hwl] at HC y1 y2 y3 ⊢
                clear hwl
                obtain ⟨wr, hwr⟩ : ∃ wr, wr = wl.alloc (.cells #[.int .i64 u.1, .int .i64 u.2.1, .int .i64 u.2.2] 27) := ⟨_, rfl⟩
                have q3 : Below wl.heap.size wl wr := by rw [hwr]; exact (Below.refl _ _).alloc (Nat.le_refl _) _
                have q4 : Bx wr wl.heap.size u := by rw [hwr]; exact alnew wl _
                rw [← hwr]
                have HC2 := Lib.hid (HC.out.below q3)
                have u0 := q4.c0
                have u1 := q4.c1
                have u2 := q4.c2
                have HN : Hid (Calls Tryd.prog 20 #[vd u] wr fun e w' => e = .returned (.int .i64 (nm u)) ∧ Below wr.heap.size wr w') := Lib.hid (number_r u HUx.out wr (HG.out.below (HC2.out.old K1.out (Nat.le_succ _))))
                clear hwr q3 q4 y1 y2 y3 HC
                go_upto_region 24 with (go_at_call 20; (with_reducible refine HN.out.mono ?_); rintro ev w2 ⟨rfl, hb⟩)
                have HC3 := Lib.hid (HC2.out.below hb)
                clear u0 u1 u2 HN HC2 hb
                obtain ⟨wr, hwr⟩ : ∃ wr, wr = w2 := ⟨_, rfl⟩
                rw [← hwr] at HC3 ⊢
                clear hwr
                have kold := HC3.out.old K1.out (Nat.le_succ _)
                have w7 := wdN_lt (nm u)
                have w8 : (0 : Int) ≤ (wdN (nm u) : Int) := Int.natCast_nonneg _
                have w9 : (wdN (nm u) : Int) < 7 := by omega
                obtain ⟨b1, hb1⟩ : ∃ b1, b1 = dy (wdN (nm u)) := ⟨_, rfl⟩
                have HSS : Hid (∀ w', Below wr.heap.size wr w' → (w'.cell? ⟨w.heap.size, 0, none⟩ = some (.pointer (some ⟨g, 0, none⟩)) ∧ w'.cell? ⟨g, wdN (nm u), none⟩ = some (.bool b1))) := Lib.hid fun w' k => by
                  have r := (HR.out.below kold).below k
                  have p := (k.block _ (Array.getElem?_eq_some_iff.1 (HC3.out.keep w.heap.size (by have := SZ.out; omega) (by omega) ▸ P1.out)).1).trans ((HC3.out.keep w.heap.size (by have := SZ.out; omega) (by omega)).trans P1.out)
                  exact ⟨by simp [cell_of_row _ _ _ _ _ _ p], by rw [hb1]; exact r.day _ w7⟩
                have HW : Hid (∀ w1, Below wr.heap.size wr w1 → Calls Tryd.prog 37 #[.int .i64 (nm u)] w1 fun e w' => e = .returned (.int .i64 (wdN (nm u) : Int)) ∧ Below w1.heap.size w1 w') := Lib.hid fun w1 k => weekday_r (nm u) (by omega) (by omega) w1
                have HB1 := Lib.hid hb1
                have hb0 : Below wr.heap.size wr wr.drew := (Below.refl _ _).drew
                clear kold w7 hb1
                by_cases hn : nm u < n
                · have z1 : decide (nm u < n) = true := decide_eq_true hn
                  cases b1
                  · refine start_ (n := 13) (S := fun w' => w'.cell? ⟨w.heap.size, 0, none⟩ = some (.pointer (some ⟨g, 0, none⟩)) ∧ w'.cell? ⟨g, wdN (nm u), none⟩ = some (.bool false)) (ds := []) #[false, false, false, false, false, false, false, false, false, false, false, false, false] (by kernel_rfl) rfl rfl (HSS.out _ hb0) (fun hHeld => ?_); refine with_tab bl3_tab (fun HT_ => ?_)
                    generalize wr.drew = w6 at hb0 hHeld ⊢
                    refine pure_ (i := 0) (N := some 88) (v := ?_) (a' := ?_) #[true, false, false, false, false, false, false, false, false, false, false, false, false] rfl rfl (any_of HT_.out (by kernel_rfl)) (fun _ _ _ h => h) (Or.inl ⟨by rfl, ?_⟩) ?_ ?_
                    rotate_left
                    · intro w'
                      go_simp
                      try with_reducible rfl
                    rotate_left
                    · simp only [Act.put, List.setIfInBounds_toArray, List.set_cons_zero, List.set_cons_succ]
                      rfl
                    refine pure_ (i := 1) (N := some 89) (v := ?_) (a' := ?_) #[true, true, false, false, false, false, false, false, false, false, false, false, false] rfl rfl (any_of HT_.out (by kernel_rfl)) (fun _ _ _ h => h) (Or.inl ⟨by rfl, ?_⟩) ?_ ?_
                    rotate_left
                    · intro w'
                      go_simp
                      try with_reducible rfl
                    rotate_left
                    · simp only [Act.put, List.setIfInBounds_toArray, List.set_cons_zero, List.set_cons_succ]
                      rfl
                    refine pure_ (i := 2) (N := some 90) (v := ?_) (a' := ?_) #[true, true, true, false, false, false, false, false, false, false, false, false, false] rfl rfl (any_of HT_.out (by kernel_rfl)) (fun _ _ _ h => h) (Or.inl ⟨by rfl, ?_⟩) ?_ ?_
                    rotate_left
                    · intro w'
                      go_simp
                      try with_reducible rfl
                    rotate_left
                    · simp only [Act.put, List.setIfInBounds_toArray, List.set_cons_zero, List.set_cons_succ]
                      rfl
                    refine pure_ (i := 3) (N := some 91) (v := ?_) (a' := ?_) #[true, true, true, true, false, false, false, false, false, false, false, false, false] rfl rfl (any_of HT_.out (by kernel_rfl)) (fun _ _ _ h => h) (Or.inl ⟨by rfl, ?_⟩) ?_ ?_
                    rotate_left
                    · intro w'
                      go_simp
                      try with_reducible rfl
                    rotate_left
                    · simp only [Act.put, List.setIfInBounds_toArray, List.set_cons_zero, List.set_cons_succ]
                      rfl
                    refine take_ (i := 4) (N := some 92) (v := ?_) (a' := ?_) #[true, true, true, true, true, false, false, false, false, false, false, false, false] rfl rfl (take_of HT_.out (by kernel_rfl)) (fun _ _ _ h => h) (Or.inl ⟨by rfl, ?_⟩) hHeld ?_ ?_
                    rotate_left
                    · rintro w' ⟨s1, s2⟩
                      go_simp
                      try with_reducible rfl
                    rotate_left
                    · simp only [Act.put, List.setIfInBounds_toArray, List.set_cons_zero, List.set_cons_succ]
                      rfl
                    refine pure_ (i := 5) (N := some 93) (v := ?_) (a' := ?_) #[true, true, true, true, true, true, false, false, false, false, false, false, false] rfl rfl (any_of HT_.out (by kernel_rfl)) (fun _ _ _ h => h) (Or.inl ⟨by rfl, ?_⟩) ?_ ?_
                    rotate_left
                    · intro w'
                      go_simp
                      try with_reducible rfl
                    rotate_left
                    · simp only [Act.put, List.setIfInBounds_toArray, List.set_cons_zero, List.set_cons_succ]
                      rfl
                    refine pure_ (i := 7) (N := some 95) (v := ?_) (a' := ?_) #[true, true, true, true, true, true, false, true, false, false, false, false, false] rfl rfl (any_of HT_.out (by kernel_rfl)) (fun _ _ _ h => h) (Or.inl ⟨by rfl, ?_⟩) ?_ ?_
                    rotate_left
                    · intro w'
                      go_simp
                      try with_reducible rfl
                    rotate_left
                    · simp only [Act.put, List.setIfInBounds_toArray, List.set_cons_zero, List.set_cons_succ]
                      rfl
                    refine pure_ (i := 8) (N := some 96) (v := ?_) (a' := ?_) #[true, true, true, true, true, true, false, true, true, false, false, false, false] rfl rfl (any_of HT_.out (by kernel_rfl)) (fun _ _ _ h => h) (Or.inl ⟨by rfl, ?_⟩) ?_ ?_
                    rotate_left
                    · intro w'
                      go_simp
                      try with_reducible rfl
                    rotate_left
                    · simp only [Act.put, List.setIfInBounds_toArray, List.set_cons_zero, List.set_cons_succ]
                      rfl
                    refine one_ (i := 6) (N := some 94) #[true, true, true, true, true, true, true, true, true, false, false, false, false] rfl rfl (one_of HT_.out (by kernel_rfl)) (by decide) (fun K hK => ?_)
                    refine goes_ Tryd.func37 (by kernel_rfl) rfl #[.int .i64 (nm u)] (by rfl) rfl rfl (by (try simp only [List.map_toArray, List.map_cons, List.map_nil]); first | done | rfl) ?_
                    with_reducible refine (HW.out _ hb0).mono ?_
                    rintro ev w20 ⟨rfl, hbc0⟩
                    have hbc0' := hb0.trans (hbc0.mono hb0.size)
                    refine ⟨_, rfl, ?_⟩
                    refine hK.out _ _ (HSS.out _ hbc0') (fun hHeld => ?_)
                    clear hK K
                    refine norm_ (a' := ?_) ?_ ?_
                    rotate_left
                    · show Act.put _ (some 94) _ = _
                      simp only [Act.put, List.setIfInBounds_toArray, List.set_cons_zero, List.set_cons_succ]
                      rfl
                    refine pure_ (i := 9) (N := some 97) (v := ?_) (a' := ?_) #[true, true, true, true, true, true, true, true, true, true, false, false, false] rfl rfl (any_of HT_.out (by kernel_rfl)) (fun _ _ _ h => h) (Or.inl ⟨by rfl, ?_⟩) ?_ ?_
                    rotate_left
                    · intro w'
                      go_simp
                      try with_reducible rfl
                    rotate_left
                    · simp only [Act.put, List.setIfInBounds_toArray, List.set_cons_zero, List.set_cons_succ]
                      rfl
                    refine take_ (i := 10) (N := some 98) (v := ?_) (a' := ?_) #[true, true, true, true, true, true, true, true, true, true, true, false, false] rfl rfl (take_of HT_.out (by kernel_rfl)) (fun _ _ _ h => h) (Or.inl ⟨by rfl, ?_⟩) hHeld ?_ ?_
                    rotate_left
                    · rintro w' ⟨s1, s2⟩
                      go_simp
                      try with_reducible rfl
                    rotate_left
                    · simp only [Act.put, List.setIfInBounds_toArray, List.set_cons_zero, List.set_cons_succ]
                      rfl
                    refine pure_ (i := 11) (N := some 99) (v := ?_) (a' := ?_) #[true, true, true, true, true, true, true, true, true, true, true, true, false] rfl rfl (any_of HT_.out (by kernel_rfl)) (fun _ _ _ h => h) (Or.inl ⟨by rfl, ?_⟩) ?_ ?_
                    rotate_left
                    · intro w'
                      go_simp
                      try with_reducible rfl
                    rotate_left
                    · simp only [Act.put, List.setIfInBounds_toArray, List.set_cons_zero, List.set_cons_succ]
                      rfl
                    refine pure_ (i := 12) (N := some 100) (v := ?_) (a' := ?_) #[true, true, true, true, true, true, true, true, true, true, true, true, true] rfl rfl (any_of HT_.out (by kernel_rfl)) (fun _ _ _ h => h) (Or.inl ⟨by rfl, ?_⟩) ?_ ?_
                    rotate_left
                    · intro w'
                      go_simp
                      try with_reducible rfl
                    rotate_left
                    · simp only [Act.put, List.setIfInBounds_toArray, List.set_cons_zero, List.set_cons_succ]
                      rfl
                    refine done_ (done_of HT_.out (by kernel_rfl)) ?_
                    have HC4 := Lib.hid (HC3.out.below hbc0')
                    have hcell := HC4.out.get
                    have hfree := HC4.out.free
                    have hw1 : IntKind.i64.wrap (d + 1) = d + 1 := IntWalk.i64_in _ (by omega)
                    go_wp2_with fail
                    go_roundw
                    case rel =>
                      refine ⟨k + 1, by omega, by go_num, Lib.hid ?_⟩
                      have e : c2 + (ahead (fun k => !dy k) (E.take (k + 1)) n : Int) = d + 1 := by rw [HA.out, z1, ← HB1.out, HD.out]; simp; omega
                      rw [e]
                      exact HC4.out.put (d + 1)
                    case measure => simp [intOf]; omega
                  · refine start_ (n := 13) (S := fun w' => w'.cell? ⟨w.heap.size, 0, none⟩ = some (.pointer (some ⟨g, 0, none⟩)) ∧ w'.cell? ⟨g, wdN (nm u), none⟩ = some (.bool true)) (ds := []) #[false, false, false, false, false, false, false, false, false, false, false, false, false] (by kernel_rfl) rfl rfl (HSS.out _ hb0) (fun hHeld => ?_); refine with_tab bl3_tab (fun HT_ => ?_)
                    generalize wr.drew = w6 at hb0 hHeld ⊢
                    refine pure_ (i := 0) (N := some 88) (v := ?_) (a' := ?_) #[true, false, false, false, false, false, false, false, false, false, false, false, false] rfl rfl (any_of HT_.out (by kernel_rfl)) (fun _ _ _ h => h) (Or.inl ⟨by rfl, ?_⟩) ?_ ?_
                    rotate_left
                    · intro w'
                      go_simp
                      try with_reducible rfl
                    rotate_left
                    · simp only [Act.put, List.setIfInBounds_toArray, List.set_cons_zero, List.set_cons_succ]
                      rfl
                    refine pure_ (i := 1) (N := some 89) (v := ?_) (a' := ?_) #[true, true, false, false, false, false, false, false, false, false, false, false, false] rfl rfl (any_of HT_.out (by kernel_rfl)) (fun _ _ _ h => h) (Or.inl ⟨by rfl, ?_⟩) ?_ ?_
                    rotate_left
                    · intro w'
                      go_simp
                      try with_reducible rfl
                    rotate_left
                    · simp only [Act.put, List.setIfInBounds_toArray, List.set_cons_zero, List.set_cons_succ]
                      rfl
                    refine pure_ (i := 2) (N := some 90) (v := ?_) (a' := ?_) #[true, true, true, false, false, false, false, false, false, false, false, false, false] rfl rfl (any_of HT_.out (by kernel_rfl)) (fun _ _ _ h => h) (Or.inl ⟨by rfl, ?_⟩) ?_ ?_
                    rotate_left
                    · intro w'
                      go_simp
                      try with_reducible rfl
                    rotate_left
                    · simp only [Act.put, List.setIfInBounds_toArray, List.set_cons_zero, List.set_cons_succ]
                      rfl
                    refine pure_ (i := 3) (N := some 91) (v := ?_) (a' := ?_) #[true, true, true, true, false, false, false, false, false, false, false, false, false] rfl rfl (any_of HT_.out (by kernel_rfl)) (fun _ _ _ h => h) (Or.inl ⟨by rfl, ?_⟩) ?_ ?_
                    rotate_left
                    · intro w'
                      go_simp
                      try with_reducible rfl
                    rotate_left
                    · simp only [Act.put, List.setIfInBounds_toArray, List.set_cons_zero, List.set_cons_succ]
                      rfl
                    refine take_ (i := 4) (N := some 92) (v := ?_) (a' := ?_) #[true, true, true, true, true, false, false, false, false, false, false, false, false] rfl rfl (take_of HT_.out (by kernel_rfl)) (fun _ _ _ h => h) (Or.inl ⟨by rfl, ?_⟩) hHeld ?_ ?_
                    rotate_left
                    · rintro w' ⟨s1, s2⟩
                      go_simp
                      try with_reducible rfl
                    rotate_left
                    · simp only [Act.put, List.setIfInBounds_toArray, List.set_cons_zero, List.set_cons_succ]
                      rfl
                    refine pure_ (i := 5) (N := some 93) (v := ?_) (a' := ?_) #[true, true, true, true, true, true, false, false, false, false, false, false, false] rfl rfl (any_of HT_.out (by kernel_rfl)) (fun _ _ _ h => h) (Or.inl ⟨by rfl, ?_⟩) ?_ ?_
                    rotate_left
                    · intro w'
                      go_simp
                      try with_reducible rfl
                    rotate_left
                    · simp only [Act.put, List.setIfInBounds_toArray, List.set_cons_zero, List.set_cons_succ]
                      rfl
                    refine pure_ (i := 7) (N := some 95) (v := ?_) (a' := ?_) #[true, true, true, true, true, true, false, true, false, false, false, false, false] rfl rfl (any_of HT_.out (by kernel_rfl)) (fun _ _ _ h => h) (Or.inl ⟨by rfl, ?_⟩) ?_ ?_
                    rotate_left
                    · intro w'
                      go_simp
                      try with_reducible rfl
                    rotate_left
                    · simp only [Act.put, List.setIfInBounds_toArray, List.set_cons_zero, List.set_cons_succ]
                      rfl
                    refine pure_ (i := 8) (N := some 96) (v := ?_) (a' := ?_) #[true, true, true, true, true, true, false, true, true, false, false, false, false] rfl rfl (any_of HT_.out (by kernel_rfl)) (fun _ _ _ h => h) (Or.inl ⟨by rfl, ?_⟩) ?_ ?_
                    rotate_left
                    · intro w'
                      go_simp
                      try with_reducible rfl
                    rotate_left
                    · simp only [Act.put, List.setIfInBounds_toArray, List.set_cons_zero, List.set_cons_succ]
                      rfl
                    refine one_ (i := 6) (N := some 94) #[true, true, true, true, true, true, true, true, true, false, false, false, false] rfl rfl (one_of HT_.out (by kernel_rfl)) (by decide) (fun K hK => ?_)
                    refine goes_ Tryd.func37 (by kernel_rfl) rfl #[.int .i64 (nm u)] (by rfl) rfl rfl (by (try simp only [List.map_toArray, List.map_cons, List.map_nil]); first | done | rfl) ?_
                    with_reducible refine (HW.out _ hb0).mono ?_
                    rintro ev w20 ⟨rfl, hbc0⟩
                    have hbc0' := hb0.trans (hbc0.mono hb0.size)
                    refine ⟨_, rfl, ?_⟩
                    refine hK.out _ _ (HSS.out _ hbc0') (fun hHeld => ?_)
                    clear hK K
                    refine norm_ (a' := ?_) ?_ ?_
                    rotate_left
                    · show Act.put _ (some 94) _ = _
                      simp only [Act.put, List.setIfInBounds_toArray, List.set_cons_zero, List.set_cons_succ]
                      rfl
                    refine pure_ (i := 9) (N := some 97) (v := ?_) (a' := ?_) #[true, true, true, true, true, true, true, true, true, true, false, false, false] rfl rfl (any_of HT_.out (by kernel_rfl)) (fun _ _ _ h => h) (Or.inl ⟨by rfl, ?_⟩) ?_ ?_
                    rotate_left
                    · intro w'
                      go_simp
                      try with_reducible rfl
                    rotate_left
                    · simp only [Act.put, List.setIfInBounds_toArray, List.set_cons_zero, List.set_cons_succ]
                      rfl
                    refine take_ (i := 10) (N := some 98) (v := ?_) (a' := ?_) #[true, true, true, true, true, true, true, true, true, true, true, false, false] rfl rfl (take_of HT_.out (by kernel_rfl)) (fun _ _ _ h => h) (Or.inl ⟨by rfl, ?_⟩) hHeld ?_ ?_
                    rotate_left
                    · rintro w' ⟨s1, s2⟩
                      go_simp
                      try with_reducible rfl
                    rotate_left
                    · simp only [Act.put, List.setIfInBounds_toArray, List.set_cons_zero, List.set_cons_succ]
                      rfl
                    refine pure_ (i := 11) (N := some 99) (v := ?_) (a' := ?_) #[true, true, true, true, true, true, true, true, true, true, true, true, false] rfl rfl (any_of HT_.out (by kernel_rfl)) (fun _ _ _ h => h) (Or.inl ⟨by rfl, ?_⟩) ?_ ?_
                    rotate_left
                    · intro w'
                      go_simp
                      try with_reducible rfl
                    rotate_left
                    · simp only [Act.put, List.setIfInBounds_toArray, List.set_cons_zero, List.set_cons_succ]
                      rfl
                    refine pure_ (i := 12) (N := some 100) (v := ?_) (a' := ?_) #[true, true, true, true, true, true, true, true, true, true, true, true, true] rfl rfl (any_of HT_.out (by kernel_rfl)) (fun _ _ _ h => h) (Or.inl ⟨by rfl, ?_⟩) ?_ ?_
                    rotate_left
                    · intro w'
                      go_simp
                      try with_reducible rfl
                    rotate_left
                    · simp only [Act.put, List.setIfInBounds_toArray, List.set_cons_zero, List.set_cons_succ]
                      rfl
                    refine done_ (done_of HT_.out (by kernel_rfl)) ?_
                    have HC4 := Lib.hid (HC3.out.below hbc0')
                    go_wp2_with fail
                    go_roundw
                    case rel => exact ⟨k + 1, by omega, by go_num, Lib.hid (by rw [HA.out, z1, ← HB1.out]; simpa [← HD.out] using HC4.out)⟩
                    case measure => simp [intOf]; omega
                · have z1 : decide (nm u < n) = false := decide_eq_false hn
                  refine start_ (n := 13) (S := fun w' => w'.cell? ⟨w.heap.size, 0, none⟩ = some (.pointer (some ⟨g, 0, none⟩)) ∧ w'.cell? ⟨g, wdN (nm u), none⟩ = some (.bool b1)) (ds := []) #[false, false, false, false, false, false, false, false, false, false, false, false, false] (by kernel_rfl) rfl rfl (HSS.out _ hb0) (fun hHeld => ?_); refine with_tab bl3_tab (fun HT_ => ?_)
                  generalize wr.drew = w6 at hb0 hHeld ⊢
                  refine pure_ (i := 0) (N := some 88) (v := ?_) (a' := ?_) #[true, false, false, false, false, false, false, false, false, false, false, false, false] rfl rfl (any_of HT_.out (by kernel_rfl)) (fun _ _ _ h => h) (Or.inl ⟨by rfl, ?_⟩) ?_ ?_
                  rotate_left
                  · intro w'
                    go_simp
                    try with_reducible rfl
                  rotate_left
                  · simp only [Act.put, List.setIfInBounds_toArray, List.set_cons_zero, List.set_cons_succ]
                    rfl
                  refine pure_ (i := 1) (N := some 89) (v := ?_) (a' := ?_) #[true, true, false, false, false, false, false, false, false, false, false, false, false] rfl rfl (any_of HT_.out (by kernel_rfl)) (fun _ _ _ h => h) (Or.inl ⟨by rfl, ?_⟩) ?_ ?_
                  rotate_left
                  · intro w'
                    go_simp
                    try with_reducible rfl
                  rotate_left
                  · simp only [Act.put, List.setIfInBounds_toArray, List.set_cons_zero, List.set_cons_succ]
                    rfl
                  refine pure_ (i := 2) (N := some 90) (v := ?_) (a' := ?_) #[true, true, true, false, false, false, false, false, false, false, false, false, false] rfl rfl (any_of HT_.out (by kernel_rfl)) (fun _ _ _ h => h) (Or.inl ⟨by rfl, ?_⟩) ?_ ?_
                  rotate_left
                  · intro w'
                    go_simp
                    try with_reducible rfl
                  rotate_left
                  · simp only [Act.put, List.setIfInBounds_toArray, List.set_cons_zero, List.set_cons_succ]
                    rfl
                  refine pure_ (i := 3) (N := some 91) (v := ?_) (a' := ?_) #[true, true, true, true, false, false, false, false, false, false, false, false, false] rfl rfl (any_of HT_.out (by kernel_rfl)) (fun _ _ _ h => h) (Or.inl ⟨by rfl, ?_⟩) ?_ ?_
                  rotate_left
                  · intro w'
                    go_simp
                    try with_reducible rfl
                  rotate_left
                  · simp only [Act.put, List.setIfInBounds_toArray, List.set_cons_zero, List.set_cons_succ]
                    rfl
                  refine pure_ (i := 4) (N := some 92) (v := undef) (a' := ?_) #[true, true, true, true, true, false, false, false, false, false, false, false, false] rfl rfl (any_of HT_.out (by kernel_rfl)) (fun _ _ _ h => h) (Or.inr ⟨by rfl, rfl⟩) ?_ ?_
                  rotate_left
                  · simp only [Act.put, List.setIfInBounds_toArray, List.set_cons_zero, List.set_cons_succ]
                    rfl
                  refine pure_ (i := 5) (N := some 93) (v := undef) (a' := ?_) #[true, true, true, true, true, true, false, false, false, false, false, false, false] rfl rfl (any_of HT_.out (by kernel_rfl)) (fun _ _ _ h => h) (Or.inr ⟨by rfl, rfl⟩) ?_ ?_
                  rotate_left
                  · simp only [Act.put, List.setIfInBounds_toArray, List.set_cons_zero, List.set_cons_succ]
                    rfl
                  refine pure_ (i := 7) (N := some 95) (v := undef) (a' := ?_) #[true, true, true, true, true, true, false, true, false, false, false, false, false] rfl rfl (any_of HT_.out (by kernel_rfl)) (fun _ _ _ h => h) (Or.inr ⟨by rfl, rfl⟩) ?_ ?_
                  rotate_left
                  · simp only [Act.put, List.setIfInBounds_toArray, List.set_cons_zero, List.set_cons_succ]
                    rfl
                  refine pure_ (i := 8) (N := some 96) (v := undef) (a' := ?_) #[true, true, true, true, true, true, false, true, true, false, false, false, false] rfl rfl (any_of HT_.out (by kernel_rfl)) (fun _ _ _ h => h) (Or.inr ⟨by rfl, rfl⟩) ?_ ?_
                  rotate_left
                  · simp only [Act.put, List.setIfInBounds_toArray, List.set_cons_zero, List.set_cons_succ]
                    rfl
                  refine one_ (i := 6) (N := some 94) #[true, true, true, true, true, true, true, true, true, false, false, false, false] rfl rfl (one_of HT_.out (by kernel_rfl)) (by decide) (fun K hK => ?_)
                  refine off_ (by rfl) ?_
                  refine hK.out _ _ hHeld (fun hHeld => ?_)
                  clear hK K
                  refine norm_ (a' := ?_) ?_ ?_
                  rotate_left
                  · show Act.put _ (some 94) _ = _
                    simp only [Act.put, List.setIfInBounds_toArray, List.set_cons_zero, List.set_cons_succ]
                    rfl
                  refine pure_ (i := 9) (N := some 97) (v := undef) (a' := ?_) #[true, true, true, true, true, true, true, true, true, true, false, false, false] rfl rfl (any_of HT_.out (by kernel_rfl)) (fun _ _ _ h => h) (Or.inr ⟨by rfl, rfl⟩) ?_ ?_
                  rotate_left
                  · simp only [Act.put, List.setIfInBounds_toArray, List.set_cons_zero, List.set_cons_succ]
                    rfl
                  refine pure_ (i := 10) (N := some 98) (v := undef) (a' := ?_) #[true, true, true, true, true, true, true, true, true, true, true, false, false] rfl rfl (any_of HT_.out (by kernel_rfl)) (fun _ _ _ h => h) (Or.inr ⟨by rfl, rfl⟩) ?_ ?_
                  rotate_left
                  · simp only [Act.put, List.setIfInBounds_toArray, List.set_cons_zero, List.set_cons_succ]
                    rfl
                  refine pure_ (i := 11) (N := some 99) (v := undef) (a' := ?_) #[true, true, true, true, true, true, true, true, true, true, true, true, false] rfl rfl (any_of HT_.out (by kernel_rfl)) (fun _ _ _ h => h) (Or.inr ⟨by rfl, rfl⟩) ?_ ?_
                  rotate_left
                  · simp only [Act.put, List.setIfInBounds_toArray, List.set_cons_zero, List.set_cons_succ]
                    rfl
                  refine pure_ (i := 12) (N := some 100) (v := ?_) (a' := ?_) #[true, true, true, true, true, true, true, true, true, true, true, true, true] rfl rfl (any_of HT_.out (by kernel_rfl)) (fun _ _ _ h => h) (Or.inl ⟨by rfl, ?_⟩) ?_ ?_
                  rotate_left
                  · intro w'
                    go_simp
                    try with_reducible rfl
                  rotate_left
                  · simp only [Act.put, List.setIfInBounds_toArray, List.set_cons_zero, List.set_cons_succ]
                    rfl
                  refine done_ (done_of HT_.out (by kernel_rfl)) ?_
                  have HC4 := Lib.hid (HC3.out.below hb0)
                  go_wp2_with fail
                  go_roundw
                  case rel => exact ⟨k + 1, by omega, by go_num, Lib.hid (by rw [HA.out, z1]; simpa [← HD.out] using HC4.out)⟩
                  case measure => simp [intOf]; omega
              · obtain rfl : E.length = k := by omega
                clear hlt hk
                rw [List.take_length] at HC
                have ah := ahead_le (fun k => !dy k) E n E.length
                rw [List.take_length] at ah
                have hcell := HC.out.get
                go_wp2_with fail
                go_ret
                refine ⟨?_, HC.out.old K1.out (Nat.le_succ _)⟩
                have : belF dy S E n = c2 + (ahead (fun k => !dy k) E n : Int) := by
                  unfold belF left
                  rw [HCC.out, HC2.out, ← HQ.out, ← HM.out]
                  simp
                rw [this]
                rfl
  · have mz : decide (m > 0) = true := decide_eq_true (by omega)
    refine callsIn_wide (n := 6).1 ?_
    refine callsIn_of_wp_marks Tryd.func21 rfl trivial ?_ rfl
    simp only [Tryd.ntmps21, List.size_toArray, List.length_cons, List.length_nil, Nat.reduceAdd, Nat.reduceSub, Array.replicate_succ, Array.replicate_zero, List.push_toArray, List.append_toArray, List.nil_append, List.cons_append]
    refine wpIn_mono (Q := noPanic _) ?_ (noPanic_le _)
    refine wpIn_wide.2 ?_
    go_wp2
    obtain ⟨W, hW⟩ : ∃ W, W = ((w.alloc (.cells #[.pointer (some ⟨g, 0, none⟩)] 49)).alloc (.cells #[.int .i64 0] 3)) := ⟨_, rfl⟩
    have k1 : Below w.heap.size w W := by
      rw [hW]
      exact ((Below.refl w.heap.size w).alloc (Nat.le_refl _) _).alloc (by simp) _
    have c1 : Cnt W W (w.heap.size + 1) 0 := ⟨rfl, rfl, rfl, Nat.le_refl _, fun _ _ _ => rfl, by
      rw [hW]
      have := alnew (w.alloc (.cells #[.pointer (some ⟨g, 0, none⟩)] 49)) (.cells #[.int .i64 0] 3)
      rw [World.size_alloc] at this
      exact this⟩
    have p1 : W.heap[w.heap.size]? = some (.cells #[.pointer (some ⟨g, 0, none⟩)] 49 (0, 0)) := by
      rw [hW]
      exact (Below.heap_alloc _ _ _ (by simp)).trans (alnew w _)
    have sz : w.heap.size + 1 < W.heap.size := by rw [hW]; simp
    rw [← hW]
    have K1 := Lib.hid k1
    have P1 := Lib.hid p1
    have C1 := Lib.hid c1
    have SZ := Lib.hid sz
    clear k1 p1 c1 sz hW y0 y1 y2 y3 y4 y5 y6
    go_loopw [7, 19] (fun _ i wr => ∃ k : Nat, k ≤ 7 ∧ i = .int .i64 (k : Int) ∧ Hid (Cnt W wr (w.heap.size + 1) ((trues dy k : Int) * q))) (fun _ i _ => 7 - (intOf i).toNat)
    case atStart => exact ⟨0, by omega, rfl, by simpa [trues] using C1⟩
    case round =>
      obtain ⟨k, hk, rfl, HC⟩ := hrel
      by_cases hlt : k < 7
      · have hx := HX.out k hlt
        have t1 : decide ((k : Int) < 7) = true := decide_eq_true (by omega)
        have hcell := HC.out.get
        have hfree := HC.out.free
        have tb := trues_le dy k
        have tm1 : 0 ≤ (trues dy k : Int) * q := Int.mul_nonneg (by omega) hqb.1
        have tm2 : (trues dy k : Int) * q ≤ 3652425 := by
          have := Int.mul_le_mul (show (trues dy k : Int) ≤ 7 by omega) hqb.2 hqb.1 (by omega)
          omega
        have ts := trues_succ dy k
        obtain ⟨c, hc⟩ : ∃ c, c = (trues dy k : Int) * q := ⟨_, rfl⟩
        rw [← hc] at hcell tm1 tm2 HC
        have TS := Lib.hid ts
        have HC2 := Lib.hid hc
        clear ts hc
        cases hd : dy k
        · rw [hd] at hx
          go_wp2_with fail
          go_roundw
          case rel => exact ⟨k + 1, by omega, by go_num, Lib.hid (by rw [TS.out, hd]; simpa [← HC2.out] using HC.out)⟩
          case measure => simp [intOf]; omega
        · rw [hd] at hx
          have hw1 : IntKind.i64.wrap (c + q) = c + q := IntWalk.i64_in _ (by omega)
          go_wp2_with fail
          go_roundw
          case rel =>
            refine ⟨k + 1, by omega, by go_num, Lib.hid ?_⟩
            have e : ((trues dy (k + 1) : Nat) : Int) * q = c + q := by rw [TS.out, hd, HC2.out]; simp [Int.add_mul]
            rw [e]
            have := HC.out.put (c + q)
            first | exact this | (rw [← hw1] at this; exact this) | (simpa [hw1] using this)
          case measure => simp [intOf]; omega
      · obtain rfl : k = 7 := by omega
        clear hlt
        clear C1
        obtain ⟨c, hc⟩ : ∃ c, c = (trues dy 7 : Int) * q := ⟨_, rfl⟩
        have tb := trues_le dy 7
        have tm1 : 0 ≤ (trues dy 7 : Int) * q := Int.mul_nonneg (by omega) hqb.1
        have tm2 : (trues dy 7 : Int) * q ≤ 3652425 := by
          have := Int.mul_le_mul (show (trues dy 7 : Int) ≤ 7 by omega) hqb.2 hqb.1 (by omega)
          omega
        rw [← hc] at HC tm1 tm2
        have HC2 := Lib.hid hc
        clear hc tb
        have hcp : wr.cell? ⟨w.heap.size, 0, none⟩ = some (.pointer (some ⟨g, 0, none⟩)) := by
          have := (HC.out.keep w.heap.size (by have := SZ.out; omega) (by omega)).trans P1.out
          simp [cell_of_row _ _ _ _ _ _ this]
        rw [show ((7 : Nat) : Int) = 7 from rfl]
        have xa : 0 ≤ n - m ∧ n - m ≤ 3652424 := by have := HM.out; omega
        have xb : 0 ≤ n - 1 ∧ n - 1 ≤ 3652424 := by have := HM.out; omega
        obtain ⟨⟨a1, a2, a3⟩, hA⟩ : ∃ t, t = dt (n - m) := ⟨_, rfl⟩
        obtain ⟨⟨b1, b2, b3⟩, hB⟩ : ∃ t, t = dt (n - 1) := ⟨_, rfl⟩
        have HDA : Hid (∀ w1, Below w.heap.size w w1 → Calls Tryd.prog 24 #[.int .i64 (n - m)] w1 fun e w' => e = .returned (.agg #[.int .i64 a1, .int .i64 a2, .int .i64 a3]) ∧ Below w1.heap.size w1 w') := Lib.hid fun w1 k => by
          have := cal_date.calls 30000 (n - m) (dt (n - m)).1 (dt (n - m)).2.1 (dt (n - m)).2.2 w1 (HG.out.below k) (date_dt 30000 (Nat.le_refl _) xa.1 xa.2)
          rw [← hA] at this
          exact this
        have HDB : Hid (∀ w1, Below w.heap.size w w1 → Calls Tryd.prog 24 #[.int .i64 (n - 1)] w1 fun e w' => e = .returned (.agg #[.int .i64 b1, .int .i64 b2, .int .i64 b3]) ∧ Below w1.heap.size w1 w') := Lib.hid fun w1 k => by
          have := cal_date.calls 30000 (n - 1) (dt (n - 1)).1 (dt (n - 1)).2.1 (dt (n - 1)).2.2 w1 (HG.out.below k) (date_dt 30000 (Nat.le_refl _) xb.1 xb.2)
          rw [← hB] at this
          exact this
        have HL : Hid (eachL a1 a2 a3 b1 b2 b3 1 = (List.range m.toNat).map fun i : Nat => n - m + (i : Int)) := Lib.hid (eachL_one (n - m) (n - 1) xa xb (by omega) m.toNat (by omega) hA hB)
        have HB0 := Lib.hid (HC.out.old K1.out (Nat.le_succ _))
        clear hA hB hcp
        go_wp2_with (first
          | (go_at_call 24; (with_reducible refine (HDA.out _ HB0.out).mono ?_); rintro ev w2 ⟨rfl, hb2⟩; have HB2 := Lib.hid (HB0.out.trans (hb2.mono HB0.out.size)); have HC2' := Lib.hid (HC.out.below hb2); clear hb2)
          | (go_at_call 24; (with_reducible refine (HDB.out _ HB2.out).mono ?_); rintro ev w3 ⟨rfl, hb3⟩; have HB3 := Lib.hid (HB2.out.trans (hb3.mono HB2.out.size)); have HC3' := Lib.hid (HC2'.out.below hb3); clear hb3)
          | (go_at_call 36; refine (callsIn_wide.1 (each_mk 6 a1 a2 a3 b1 b2 b3 1 _)).mono ?_; rintro ev w4 ⟨rfl, hw4⟩; have HW4 := Lib.hid hw4; clear hw4))
        have hw4 := HW4.out
        have hE : EB w4 w3.heap.size a1 a2 a3 b1 b2 b3 1 := by rw [hw4]; exact eb_new w3 a1 a2 a3 b1 b2 b3 1
        have sz4 : w4.heap.size = w3.heap.size + 3 := by rw [hw4]; simp
        have k4 : Below w3.heap.size w3 w4 := by rw [hw4]; exact below_alloc (below_alloc (below_alloc (Below.refl _ _) _) _) _
        clear hw4 HW4
        have hB4 := HB3.out.trans (k4.mono HB3.out.size)
        have HC4' := Lib.hid (HC3'.out.below k4)
        have szW := HC3'.out.size
        have szw := SZ.out
        refine (wpIn_wide (n := 6)).1 ?_
        have hEL := hE.lt
        refine wpIn_rangeFunc_ownH rfl (by omega) (gf := 47) (lb := #[.pointer (some ⟨w3.heap.size, 0, none⟩), .pointer (some ⟨w3.heap.size + 1, 0, none⟩), .pointer (some ⟨w3.heap.size + 2, 0, none⟩)]) rfl trivial (enters_of Tryd.func47 (by kernel_rfl) rfl)
          (each_stops (6 - 1) w3.heap.size (by omega) w HG.out a1 a2 a3 b1 b2 b3 1 w4 hE hB4) kpE_t (kpE_b (by omega) (by omega)) (Below.refl _ _) (fun _ => rfl)
          (fun pre X => Cnt W X (w.heap.size + 1) (c + (pre.countP fun x => dy (wdN (nm (dt x))) : Int)) ∧ w4.heap.size ≤ X.heap.size) (fun _ _ _ => False) ?hI ?hIx ?h0
          (fun x a' X => ∃ Bx', X.heap[Bx']? = some (.cells #[.int .i64 (dt x).1, .int .i64 (dt x).2.1, .int .i64 (dt x).2.2] 27 (0, 0)) ∧ a' = { defers := [], tmps := #[.pointer (some ⟨g, 0, none⟩), .int .i64 n, .pointer (some ⟨w.heap.size, 0, none⟩), undef, .int .i64 0, .pointer (some ⟨w.heap.size + 1, 0, none⟩), undef, u7, .pointer (some ⟨Bx', 0, none⟩), undef, undef, undef, undef, undef, undef, .pointer (some ⟨g, 0, none⟩), .pointer (some ⟨g, 0, none⟩), .pointer (some ⟨g, 0, none⟩), .agg #[.bool (dy 0), .bool (dy 1), .bool (dy 2), .bool (dy 3), .bool (dy 4), .bool (dy 5), .bool (dy 6)], .int .i64 7, .bool false, u21, u22, u23, u24, u25, u26, u27, .int .i64 n, .int .i64 m, .bool true, .int .i64 n, .int .i64 n, .int .i64 m, .int .i64 (n - m), .agg #[.int .i64 a1, .int .i64 a2, .int .i64 a3], .int .i64 n, .int .i64 (n - 1), .agg #[.int .i64 b1, .int .i64 b2, .int .i64 b3], .func (.func 47) #[] #[.pointer (some ⟨w3.heap.size, 0, none⟩), .pointer (some ⟨w3.heap.size + 1, 0, none⟩), .pointer (some ⟨w3.heap.size + 2, 0, none⟩)], VD (dt x), undef, undef, undef, undef, undef, undef, undef, undef, undef, undef, undef, undef, undef, undef, undef, undef, undef, undef, undef, undef, undef, undef, undef, undef, undef, undef, undef, undef, undef, undef, undef, undef, undef, undef, undef, undef, undef, undef, undef, undef, undef, undef, undef, undef, undef, undef, undef, undef, undef, undef, undef, undef, undef, undef, undef, undef, undef, undef, undef, undef, undef, undef, undef, undef] })
          (fun x a' _ X Y row hs hg hr => by obtain ⟨Bx', h1, h2⟩ := hs; exact ⟨Bx', cells_own Bx' _ _ () X Y row h1 hg (fun r e => (hr r e).2), h2⟩)
          ?assign ?body ?done ?stop
        case hI =>
          exact fun pre X Y row hs hg hr => ⟨hs.1.grown hg (fun r e => by have := (hr r e).1; have := szW; omega) (by have := szW; omega), Nat.le_trans hs.2 hg.size⟩
        case hIx => exact fun _ _ _ _ _ hs _ _ => hs
        case h0 => exact ⟨by simpa using HC4'.out, Nat.le_refl _⟩
        case assign =>
          rintro l pre x X K ⟨HCx, hs⟩ hK
          gi_wp2
          refine hK _ _ ((KeepsOthers.alloc _ _).from _) (kpE_alloc (by omega) (by omega) _) ⟨HCx.below (below_alloc (Below.refl _ _) _), by simp; omega⟩ ⟨X.heap.size, World.alloc_heap_new _ _, ?_⟩
          rfl
        case body =>
          rintro l pre x a' X - - ⟨HCx, hs⟩ ⟨Bx', hBx, rfl⟩ hlN
          have hux := dt_ok x
          have HK := Lib.hid (pre_one (fun x => dy (wdN (nm (dt x)))) pre x)
          have hpl : (pre.countP fun x => dy (wdN (nm (dt x)))) ≤ pre.length := List.countP_le_length
          have hll := eachL_len a1 a2 a3 b1 b2 b3 1
          obtain ⟨u, hu⟩ : ∃ u, u = dt x := ⟨_, rfl⟩
          rw [← hu] at hBx hux HK ⊢
          obtain ⟨n1, n2⟩ := nm_bd hux
          have HUx := Lib.hid hux
          obtain ⟨d, hd⟩ : ∃ d, d = c + (pre.countP fun x => dy (wdN (nm (dt x))) : Int) := ⟨_, rfl⟩
          have db : 0 ≤ d ∧ d ≤ 8000000 := by omega
          rw [← hd] at HCx
          have HD := Lib.hid hd
          have HCX := Lib.hid HCx
          clear hu hux hd hpl HCx
          have w7 := wdN_lt (nm u)
          have w8 : (0 : Int) ≤ (wdN (nm u) : Int) := Int.natCast_nonneg _
          have w9 : (wdN (nm u) : Int) < 7 := by omega
          obtain ⟨bb, hbb⟩ : ∃ bb, bb = dy (wdN (nm u)) := ⟨_, rfl⟩
          have kX := HCX.out.old K1.out (Nat.le_succ _)
          have q4 : Bx X Bx' u := hBx
          have HXX : Hid (∀ X', Below X.heap.size X X' → (X'.cell? ⟨w.heap.size, 0, none⟩ = some (.pointer (some ⟨g, 0, none⟩)) ∧ X'.cell? ⟨g, wdN (nm u), none⟩ = some (.bool bb) ∧ X'.cell? ⟨Bx', 0, none⟩ = some (.int .i64 u.1) ∧ X'.cell? ⟨Bx', 1, none⟩ = some (.int .i64 u.2.1) ∧ X'.cell? ⟨Bx', 2, none⟩ = some (.int .i64 u.2.2))) := Lib.hid fun X' k => by
            have r := (HR.out.below kX).below k
            have p := (k.block _ (Array.getElem?_eq_some_iff.1 (HCX.out.keep w.heap.size (by omega) (by omega) ▸ P1.out)).1).trans ((HCX.out.keep w.heap.size (by omega) (by omega)).trans P1.out)
            have z := q4.b3 k
            exact ⟨by simp [cell_of_row _ _ _ _ _ _ p], by rw [hbb]; exact r.day _ w7, z.1, z.2.1, z.2.2⟩
          have HN : Hid (∀ X', Below X.heap.size X X' → CallsIn (Fence.wide.inRound l) 3 Tryd.prog 20 #[vd u] X' fun e w' => e = .returned (.int .i64 (nm u)) ∧ Below X'.heap.size X' w') := Lib.hid fun X1 k => (callsIn_wide (n := 3)).2 (number_r u HUx.out X1 (HG.out.below (kX.trans (k.mono kX.size))))
          have HW : Hid (∀ X', CallsIn (Fence.wide.inRound l) 3 Tryd.prog 37 #[.int .i64 (nm u)] X' fun e w' => e = .returned (.int .i64 (wdN (nm u) : Int)) ∧ Below X'.heap.size X' w') := Lib.hid fun X1 => (callsIn_wide (n := 3)).2 (weekday_r (nm u) (by omega) (by omega) X1)
          have HBB := Lib.hid hbb
          obtain ⟨c0, c1, c2, c3, c4⟩ := HXX.out _ (Below.refl _ _)
          clear hbb q4 hBx w7 kX
          gi_wp2
          gi_region_with (first
            | (refine ⟨trivial, ?_⟩; gi_at_call 20; (with_reducible refine (HN.out _ (by first | exact Below.refl _ _ | exact (Below.refl _ _).drew)).mono ?_); rintro e w1 ⟨rfl, hb1⟩; have HB1 := Lib.hid (below_step (show Below X.heap.size X _ by first | exact Below.refl _ _ | exact (Below.refl _ _).drew) hb1); clear hb1; obtain ⟨c0, c1, c2, c3, c4⟩ := HXX.out _ HB1.out)
            | (refine ⟨trivial, ?_⟩; gi_at_call 37; (with_reducible refine (HW.out _).mono ?_); rintro e w2 ⟨rfl, hb2⟩; have HB2 := Lib.hid (below_step HB1.out hb2); clear hb2; obtain ⟨c0, c1, c2, c3, c4⟩ := HXX.out _ HB2.out))
          all_goals
            have HCY := Lib.hid (HCX.out.below HB2.out)
            have hcell := HCY.out.get
            have hfree := HCY.out.free
            have hw1 : IntKind.i64.wrap (d + 1) = d + 1 := IntWalk.i64_in _ (by omega)
            cases bb
            · gi_wp2
              exact ⟨(keeps_below HB2.out).from _, kp_below (by omega) (by omega) HB2.out, by rw [HK.out, ← HBB.out]; simpa [← HD.out] using HCY.out, Nat.le_trans hs HB2.out.size⟩
            · gi_wp2
              refine ⟨((keeps_below HB2.out).trans (KeepsOthers.setCell _ _ _)).from _, (kp_below (by omega) (by omega) HB2.out).trans (kp_set (by show w.heap.size ≤ w.heap.size + 1; omega) (by show w.heap.size + 1 < w3.heap.size; omega)), ?_, by simp [World.setCell]; exact Nat.le_trans hs HB2.out.size⟩
              have e : c + ((pre ++ [x]).countP fun x => dy (wdN (nm (dt x))) : Int) = d + 1 := by rw [HK.out, ← HBB.out, HD.out]; simp; omega
              rw [e]
              exact HCY.out.put (d + 1)
        case stop => exact fun _ _ _ _ _ _ h => h.elim
        case done =>
          rintro D ys X hD rfl ⟨HCx, hsX⟩ hK
          have hcl : ((eachL a1 a2 a3 b1 b2 b3 1).countP fun x => dy (wdN (nm (dt x)))) = left dy n := by
            rw [HL.out]
            unfold left
            rw [← HM.out]
            exact count_dt _ _ (fun x hx => by
              obtain ⟨i, hi, rfl⟩ := List.mem_map.1 hx
              have := List.mem_range.1 hi
              omega)
          have lle := left_le dy n
          rw [hcl] at HCx
          obtain ⟨c', hc'⟩ : ∃ c', c' = c + (left dy n : Int) := ⟨_, rfl⟩
          rw [← hc'] at HCx
          have HC5 := Lib.hid hc'
          have tm3 : 0 ≤ c' := by omega
          have tm4 : c' ≤ 3652435 := by omega
          have k5 := HCx.old K1.out (Nat.le_succ _)
          have p5 := (HCx.keep w.heap.size (by omega) (by omega)).trans P1.out
          have s5 := HCx.size
          obtain ⟨wr, hwr⟩ : ∃ wr, wr = X := ⟨_, rfl⟩
          rw [← hwr] at HCx hK k5 p5 s5 hsX ⊢
          have c5 : Cnt wr wr (w.heap.size + 1) c' := ⟨rfl, rfl, rfl, Nat.le_refl _, fun _ _ _ => rfl, HCx.cell⟩
          clear HC hwr hcl lle hc' tm1 tm2 HCx
          obtain ⟨c0, rfl⟩ : ∃ c0, c0 = c := ⟨_, rfl⟩
          obtain ⟨c, hcc⟩ : ∃ c, c = c' := ⟨_, rfl⟩
          rw [← hcc] at tm3 tm4 HC5 c5
          have tm1 := tm3
          have tm2 := tm4
          obtain ⟨W', hW'⟩ : ∃ W', W' = wr := ⟨_, rfl⟩
          have K2 : Hid (Below w.heap.size w W') := Lib.hid (by rw [hW']; exact k5)
          have P2 : Hid (W'.heap[w.heap.size]? = some (.cells #[.pointer (some ⟨g, 0, none⟩)] 49 (0, 0))) := Lib.hid (by rw [hW']; exact p5)
          have SZ2 : Hid (w.heap.size + 1 < W'.heap.size) := Lib.hid (by rw [hW']; omega)
          have HC : Hid (Cnt W' wr (w.heap.size + 1) c) := Lib.hid (by rw [hW']; exact c5)
          have HMK : Hid (W'.heap[D]? = some (.deferred (some []))) := Lib.hid (by rw [hW']; exact hK)
          have HDk : Hid (w.heap.size + 1 < D) := Lib.hid (by omega)
          clear k5 p5 c5 hK hW' tm3 tm4 hcc K1 P1 SZ szW szw sz4 hEL hE hB4 k4 hD hsX s5
          have hcp : wr.cell? ⟨w.heap.size, 0, none⟩ = some (.pointer (some ⟨g, 0, none⟩)) := by
            have := (HC.out.keep w.heap.size (by have := SZ2.out; omega) (by omega)).trans P2.out
            simp [cell_of_row _ _ _ _ _ _ this]
          have hsv : wr.cell? ⟨g, 7, none⟩ = some vs := (HR.out.below (HC.out.old K2.out (Nat.le_succ _))).shut
          obtain ⟨x, cap, rfl, hlen, hx⟩ := HR.out.ds
          have HXs := Lib.hid hx
          have l0 : (0 : Int) ≤ (S.length : Int) := Int.natCast_nonneg _
          clear hx
          go_wp2_with fail
          go_loopw [10, 11, 56] (fun _ _ i wr => ∃ k : Nat, k ≤ S.length ∧ i = .int .i64 (k : Int) ∧ Hid (Cnt W' wr (w.heap.size + 1) (c - (ahead dy (S.take k) n : Int)))) (fun _ _ i _ => S.length - (intOf i).toNat)
          case atStart => exact ⟨0, Nat.zero_le _, rfl, by simpa [ahead] using HC⟩
          case round =>
            clear HC hsv hcp
            obtain ⟨k, hk, rfl, HC⟩ := hrel
            by_cases hlt : k < S.length
            · obtain ⟨g', o, rfl, e1, e2, e3⟩ := HXs.out k hlt
              have k0 : (0 : Int) ≤ (k : Int) := Int.natCast_nonneg _
              have k1 : (k : Int) < (S.length : Int) := by omega
              have kold := HC.out.old K2.out (Nat.le_succ _)
              have y1 := cellB e1 kold
              have y2 := cellB e2 kold
              have y3 := cellB e3 kold
              have HA := Lib.hid (ahead_take dy S n k hlt)
              have al := ahead_le dy S n k
              obtain ⟨u, hu⟩ : ∃ u, u = S[k] := ⟨_, rfl⟩
              rw [← hu] at y1 y2 y3 HA
              have hux : okD u = true := by rw [hu]; exact HS.out.ok _ (List.getElem_mem _)
              obtain ⟨n1, n2⟩ := nm_bd hux
              have HUx := Lib.hid hux
              obtain ⟨d, hd⟩ : ∃ d, d = c - (ahead dy (S.take k) n : Int) := ⟨_, rfl⟩
              have hdb : -4700000000000000000 ≤ d ∧ d ≤ 4700000000000000000 := by omega
              rw [← hd] at HC
              have HD := Lib.hid hd
              clear e1 e2 e3 kold hu hux hd al
              go_upto_region 16 with fail
              obtain ⟨wl, hwl⟩ : ∃ wl, wl = wr := ⟨_, rfl⟩
              rw [← hwl] at HC y1 y2 y3 ⊢
              clear hwl
              obtain ⟨wr, hwr⟩ : ∃ wr, wr = wl.alloc (.cells #[.int .i64 u.1, .int .i64 u.2.1, .int .i64 u.2.2] 27) := ⟨_, rfl⟩
              have q3 : Below wl.heap.size wl wr := by rw [hwr]; exact (Below.refl _ _).alloc (Nat.le_refl _) _
              have q4 : Bx wr wl.heap.size u := by rw [hwr]; exact alnew wl _
              rw [← hwr]
              have HC2 := Lib.hid (HC.out.below q3)
              have u0 := q4.c0
              have u1 := q4.c1
              have u2 := q4.c2
              have HN : Hid (Calls Tryd.prog 20 #[vd u] wr fun e w' => e = .returned (.int .i64 (nm u)) ∧ Below wr.heap.size wr w') := Lib.hid (number_r u HUx.out wr (HG.out.below (HC2.out.old K2.out (Nat.le_succ _))))
              clear hwr q3 q4 y1 y2 y3 HC
              go_upto_region 17 with (go_at_call 20; (with_reducible refine HN.out.mono ?_); rintro ev w2 ⟨rfl, hb⟩)
              have HC3 := Lib.hid (HC2.out.below hb)
              clear u0 u1 u2 HN HC2 hb
              obtain ⟨wr, hwr⟩ : ∃ wr, wr = w2 := ⟨_, rfl⟩
              rw [← hwr] at HC3 ⊢
              clear hwr
              have kold := HC3.out.old K2.out (Nat.le_succ _)
              have w7 := wdN_lt (nm u)
              have w8 : (0 : Int) ≤ (wdN (nm u) : Int) := Int.natCast_nonneg _
              have w9 : (wdN (nm u) : Int) < 7 := by omega
              obtain ⟨b1, hb1⟩ : ∃ b1, b1 = dy (wdN (nm u)) := ⟨_, rfl⟩
              have HSS : Hid (∀ w', Below wr.heap.size wr w' → (w'.cell? ⟨w.heap.size, 0, none⟩ = some (.pointer (some ⟨g, 0, none⟩)) ∧ w'.cell? ⟨g, wdN (nm u), none⟩ = some (.bool b1))) := Lib.hid fun w' k => by
                have r := (HR.out.below kold).below k
                have p := (k.block _ (Array.getElem?_eq_some_iff.1 (HC3.out.keep w.heap.size (by have := SZ2.out; omega) (by omega) ▸ P2.out)).1).trans ((HC3.out.keep w.heap.size (by have := SZ2.out; omega) (by omega)).trans P2.out)
                exact ⟨by simp [cell_of_row _ _ _ _ _ _ p], by rw [hb1]; exact r.day _ w7⟩
              have HW : Hid (∀ w1, Below wr.heap.size wr w1 → Calls Tryd.prog 37 #[.int .i64 (nm u)] w1 fun e w' => e = .returned (.int .i64 (wdN (nm u) : Int)) ∧ Below w1.heap.size w1 w') := Lib.hid fun w1 k => weekday_r (nm u) (by omega) (by omega) w1
              have HB1 := Lib.hid hb1
              have hb0 : Below wr.heap.size wr wr.drew := (Below.refl _ _).drew
              clear kold w7 hb1
              by_cases hn : nm u < n
              · have z1 : decide (nm u < n) = true := decide_eq_true hn
                cases b1
                · refine start_ (n := 12) (S := fun w' => w'.cell? ⟨w.heap.size, 0, none⟩ = some (.pointer (some ⟨g, 0, none⟩)) ∧ w'.cell? ⟨g, wdN (nm u), none⟩ = some (.bool false)) (ds := []) #[false, false, false, false, false, false, false, false, false, false, false, false] (by kernel_rfl) rfl rfl (HSS.out _ hb0) (fun hHeld => ?_); refine with_tab bl2_tab (fun HT_ => ?_)
                  generalize wr.drew = w6 at hb0 hHeld ⊢
                  refine pure_ (i := 0) (N := some 62) (v := ?_) (a' := ?_) #[true, false, false, false, false, false, false, false, false, false, false, false] rfl rfl (any_of HT_.out (by kernel_rfl)) (fun _ _ _ h => h) (Or.inl ⟨by rfl, ?_⟩) ?_ ?_
                  rotate_left
                  · intro w'
                    go_simp
                    try with_reducible rfl
                  rotate_left
                  · simp only [Act.put, List.setIfInBounds_toArray, List.set_cons_zero, List.set_cons_succ]
                    rfl
                  refine pure_ (i := 1) (N := some 63) (v := ?_) (a' := ?_) #[true, true, false, false, false, false, false, false, false, false, false, false] rfl rfl (any_of HT_.out (by kernel_rfl)) (fun _ _ _ h => h) (Or.inl ⟨by rfl, ?_⟩) ?_ ?_
                  rotate_left
                  · intro w'
                    go_simp
                    try with_reducible rfl
                  rotate_left
                  · simp only [Act.put, List.setIfInBounds_toArray, List.set_cons_zero, List.set_cons_succ]
                    rfl
                  refine pure_ (i := 2) (N := some 64) (v := ?_) (a' := ?_) #[true, true, true, false, false, false, false, false, false, false, false, false] rfl rfl (any_of HT_.out (by kernel_rfl)) (fun _ _ _ h => h) (Or.inl ⟨by rfl, ?_⟩) ?_ ?_
                  rotate_left
                  · intro w'
                    go_simp
                    try with_reducible rfl
                  rotate_left
                  · simp only [Act.put, List.setIfInBounds_toArray, List.set_cons_zero, List.set_cons_succ]
                    rfl
                  refine pure_ (i := 3) (N := some 65) (v := ?_) (a' := ?_) #[true, true, true, true, false, false, false, false, false, false, false, false] rfl rfl (any_of HT_.out (by kernel_rfl)) (fun _ _ _ h => h) (Or.inl ⟨by rfl, ?_⟩) ?_ ?_
                  rotate_left
                  · intro w'
                    go_simp
                    try with_reducible rfl
                  rotate_left
                  · simp only [Act.put, List.setIfInBounds_toArray, List.set_cons_zero, List.set_cons_succ]
                    rfl
                  refine take_ (i := 4) (N := some 66) (v := ?_) (a' := ?_) #[true, true, true, true, true, false, false, false, false, false, false, false] rfl rfl (take_of HT_.out (by kernel_rfl)) (fun _ _ _ h => h) (Or.inl ⟨by rfl, ?_⟩) hHeld ?_ ?_
                  rotate_left
                  · rintro w' ⟨s1, s2⟩
                    go_simp
                    try with_reducible rfl
                  rotate_left
                  · simp only [Act.put, List.setIfInBounds_toArray, List.set_cons_zero, List.set_cons_succ]
                    rfl
                  refine pure_ (i := 5) (N := some 67) (v := ?_) (a' := ?_) #[true, true, true, true, true, true, false, false, false, false, false, false] rfl rfl (any_of HT_.out (by kernel_rfl)) (fun _ _ _ h => h) (Or.inl ⟨by rfl, ?_⟩) ?_ ?_
                  rotate_left
                  · intro w'
                    go_simp
                    try with_reducible rfl
                  rotate_left
                  · simp only [Act.put, List.setIfInBounds_toArray, List.set_cons_zero, List.set_cons_succ]
                    rfl
                  refine pure_ (i := 7) (N := some 69) (v := ?_) (a' := ?_) #[true, true, true, true, true, true, false, true, false, false, false, false] rfl rfl (any_of HT_.out (by kernel_rfl)) (fun _ _ _ h => h) (Or.inl ⟨by rfl, ?_⟩) ?_ ?_
                  rotate_left
                  · intro w'
                    go_simp
                    try with_reducible rfl
                  rotate_left
                  · simp only [Act.put, List.setIfInBounds_toArray, List.set_cons_zero, List.set_cons_succ]
                    rfl
                  refine pure_ (i := 8) (N := some 70) (v := ?_) (a' := ?_) #[true, true, true, true, true, true, false, true, true, false, false, false] rfl rfl (any_of HT_.out (by kernel_rfl)) (fun _ _ _ h => h) (Or.inl ⟨by rfl, ?_⟩) ?_ ?_
                  rotate_left
                  · intro w'
                    go_simp
                    try with_reducible rfl
                  rotate_left
                  · simp only [Act.put, List.setIfInBounds_toArray, List.set_cons_zero, List.set_cons_succ]
                    rfl
                  refine one_ (i := 6) (N := some 68) #[true, true, true, true, true, true, true, true, true, false, false, false] rfl rfl (one_of HT_.out (by kernel_rfl)) (by decide) (fun K hK => ?_)
                  refine goes_ Tryd.func37 (by kernel_rfl) rfl #[.int .i64 (nm u)] (by rfl) rfl rfl (by (try simp only [List.map_toArray, List.map_cons, List.map_nil]); first | done | rfl) ?_
                  with_reducible refine (HW.out _ hb0).mono ?_
                  rintro ev w20 ⟨rfl, hbc0⟩
                  have hbc0' := hb0.trans (hbc0.mono hb0.size)
                  refine ⟨_, rfl, ?_⟩
                  refine hK.out _ _ (HSS.out _ hbc0') (fun hHeld => ?_)
                  clear hK K
                  refine norm_ (a' := ?_) ?_ ?_
                  rotate_left
                  · show Act.put _ (some 68) _ = _
                    simp only [Act.put, List.setIfInBounds_toArray, List.set_cons_zero, List.set_cons_succ]
                    rfl
                  refine pure_ (i := 9) (N := some 71) (v := ?_) (a' := ?_) #[true, true, true, true, true, true, true, true, true, true, false, false] rfl rfl (any_of HT_.out (by kernel_rfl)) (fun _ _ _ h => h) (Or.inl ⟨by rfl, ?_⟩) ?_ ?_
                  rotate_left
                  · intro w'
                    go_simp
                    try with_reducible rfl
                  rotate_left
                  · simp only [Act.put, List.setIfInBounds_toArray, List.set_cons_zero, List.set_cons_succ]
                    rfl
                  refine take_ (i := 10) (N := some 72) (v := ?_) (a' := ?_) #[true, true, true, true, true, true, true, true, true, true, true, false] rfl rfl (take_of HT_.out (by kernel_rfl)) (fun _ _ _ h => h) (Or.inl ⟨by rfl, ?_⟩) hHeld ?_ ?_
                  rotate_left
                  · rintro w' ⟨s1, s2⟩
                    go_simp
                    try with_reducible rfl
                  rotate_left
                  · simp only [Act.put, List.setIfInBounds_toArray, List.set_cons_zero, List.set_cons_succ]
                    rfl
                  refine pure_ (i := 11) (N := some 73) (v := ?_) (a' := ?_) #[true, true, true, true, true, true, true, true, true, true, true, true] rfl rfl (any_of HT_.out (by kernel_rfl)) (fun _ _ _ h => h) (Or.inl ⟨by rfl, ?_⟩) ?_ ?_
                  rotate_left
                  · intro w'
                    go_simp
                    try with_reducible rfl
                  rotate_left
                  · simp only [Act.put, List.setIfInBounds_toArray, List.set_cons_zero, List.set_cons_succ]
                    rfl
                  refine done_ (done_of HT_.out (by kernel_rfl)) ?_
                  have HC4 := Lib.hid (HC3.out.below hbc0')
                  go_wp2_with fail
                  go_roundw
                  case rel => exact ⟨k + 1, by omega, by go_num, Lib.hid (by rw [HA.out, z1, ← HB1.out]; simpa [← HD.out] using HC4.out)⟩
                  case measure => simp [intOf]; omega
                · refine start_ (n := 12) (S := fun w' => w'.cell? ⟨w.heap.size, 0, none⟩ = some (.pointer (some ⟨g, 0, none⟩)) ∧ w'.cell? ⟨g, wdN (nm u), none⟩ = some (.bool true)) (ds := []) #[false, false, false, false, false, false, false, false, false, false, false, false] (by kernel_rfl) rfl rfl (HSS.out _ hb0) (fun hHeld => ?_); refine with_tab bl2_tab (fun HT_ => ?_)
                  generalize wr.drew = w6 at hb0 hHeld ⊢
                  refine pure_ (i := 0) (N := some 62) (v := ?_) (a' := ?_) #[true, false, false, false, false, false, false, false, false, false, false, false] rfl rfl (any_of HT_.out (by kernel_rfl)) (fun _ _ _ h => h) (Or.inl ⟨by rfl, ?_⟩) ?_ ?_
                  rotate_left
                  · intro w'
                    go_simp
                    try with_reducible rfl
                  rotate_left
                  · simp only [Act.put, List.setIfInBounds_toArray, List.set_cons_zero, List.set_cons_succ]
                    rfl
                  refine pure_ (i := 1) (N := some 63) (v := ?_) (a' := ?_) #[true, true, false, false, false, false, false, false, false, false, false, false] rfl rfl (any_of HT_.out (by kernel_rfl)) (fun _ _ _ h => h) (Or.inl ⟨by rfl, ?_⟩) ?_ ?_
                  rotate_left
                  · intro w'
                    go_simp
                    try with_reducible rfl
                  rotate_left
                  · simp only [Act.put, List.setIfInBounds_toArray, List.set_cons_zero, List.set_cons_succ]
                    rfl
                  refine pure_ (i := 2) (N := some 64) (v := ?_) (a' := ?_) #[true, true, true, false, false, false, false, false, false, false, false, false] rfl rfl (any_of HT_.out (by kernel_rfl)) (fun _ _ _ h => h) (Or.inl ⟨by rfl, ?_⟩) ?_ ?_
                  rotate_left
                  · intro w'
                    go_simp
                    try with_reducible rfl
                  rotate_left
                  · simp only [Act.put, List.setIfInBounds_toArray, List.set_cons_zero, List.set_cons_succ]
                    rfl
                  refine pure_ (i := 3) (N := some 65) (v := ?_) (a' := ?_) #[true, true, true, true, false, false, false, false, false, false, false, false] rfl rfl (any_of HT_.out (by kernel_rfl)) (fun _ _ _ h => h) (Or.inl ⟨by rfl, ?_⟩) ?_ ?_
                  rotate_left
                  · intro w'
                    go_simp
                    try with_reducible rfl
                  rotate_left
                  · simp only [Act.put, List.setIfInBounds_toArray, List.set_cons_zero, List.set_cons_succ]
                    rfl
                  refine take_ (i := 4) (N := some 66) (v := ?_) (a' := ?_) #[true, true, true, true, true, false, false, false, false, false, false, false] rfl rfl (take_of HT_.out (by kernel_rfl)) (fun _ _ _ h => h) (Or.inl ⟨by rfl, ?_⟩) hHeld ?_ ?_
                  rotate_left
                  · rintro w' ⟨s1, s2⟩
                    go_simp
                    try with_reducible rfl
                  rotate_left
                  · simp only [Act.put, List.setIfInBounds_toArray, List.set_cons_zero, List.set_cons_succ]
                    rfl
                  refine pure_ (i := 5) (N := some 67) (v := ?_) (a' := ?_) #[true, true, true, true, true, true, false, false, false, false, false, false] rfl rfl (any_of HT_.out (by kernel_rfl)) (fun _ _ _ h => h) (Or.inl ⟨by rfl, ?_⟩) ?_ ?_
                  rotate_left
                  · intro w'
                    go_simp
                    try with_reducible rfl
                  rotate_left
                  · simp only [Act.put, List.setIfInBounds_toArray, List.set_cons_zero, List.set_cons_succ]
                    rfl
                  refine pure_ (i := 7) (N := some 69) (v := ?_) (a' := ?_) #[true, true, true, true, true, true, false, true, false, false, false, false] rfl rfl (any_of HT_.out (by kernel_rfl)) (fun _ _ _ h => h) (Or.inl ⟨by rfl, ?_⟩) ?_ ?_
                  rotate_left
                  · intro w'
                    go_simp
                    try with_reducible rfl
                  rotate_left
                  · simp only [Act.put, List.setIfInBounds_toArray, List.set_cons_zero, List.set_cons_succ]
                    rfl
                  refine pure_ (i := 8) (N := some 70) (v := ?_) (a' := ?_) #[true, true, true, true, true, true, false, true, true, false, false, false] rfl rfl (any_of HT_.out (by kernel_rfl)) (fun _ _ _ h => h) (Or.inl ⟨by rfl, ?_⟩) ?_ ?_
                  rotate_left
                  · intro w'
                    go_simp
                    try with_reducible rfl
                  rotate_left
                  · simp only [Act.put, List.setIfInBounds_toArray, List.set_cons_zero, List.set_cons_succ]
                    rfl
                  refine one_ (i := 6) (N := some 68) #[true, true, true, true, true, true, true, true, true, false, false, false] rfl rfl (one_of HT_.out (by kernel_rfl)) (by decide) (fun K hK => ?_)
                  refine goes_ Tryd.func37 (by kernel_rfl) rfl #[.int .i64 (nm u)] (by rfl) rfl rfl (by (try simp only [List.map_toArray, List.map_cons, List.map_nil]); first | done | rfl) ?_
                  with_reducible refine (HW.out _ hb0).mono ?_
                  rintro ev w20 ⟨rfl, hbc0⟩
                  have hbc0' := hb0.trans (hbc0.mono hb0.size)
                  refine ⟨_, rfl, ?_⟩
                  refine hK.out _ _ (HSS.out _ hbc0') (fun hHeld => ?_)
                  clear hK K
                  refine norm_ (a' := ?_) ?_ ?_
                  rotate_left
                  · show Act.put _ (some 68) _ = _
                    simp only [Act.put, List.setIfInBounds_toArray, List.set_cons_zero, List.set_cons_succ]
                    rfl
                  refine pure_ (i := 9) (N := some 71) (v := ?_) (a' := ?_) #[true, true, true, true, true, true, true, true, true, true, false, false] rfl rfl (any_of HT_.out (by kernel_rfl)) (fun _ _ _ h => h) (Or.inl ⟨by rfl, ?_⟩) ?_ ?_
                  rotate_left
                  · intro w'
                    go_simp
                    try with_reducible rfl
                  rotate_left
                  · simp only [Act.put, List.setIfInBounds_toArray, List.set_cons_zero, List.set_cons_succ]
                    rfl
                  refine take_ (i := 10) (N := some 72) (v := ?_) (a' := ?_) #[true, true, true, true, true, true, true, true, true, true, true, false] rfl rfl (take_of HT_.out (by kernel_rfl)) (fun _ _ _ h => h) (Or.inl ⟨by rfl, ?_⟩) hHeld ?_ ?_
                  rotate_left
                  · rintro w' ⟨s1, s2⟩
                    go_simp
                    try with_reducible rfl
                  rotate_left
                  · simp only [Act.put, List.setIfInBounds_toArray, List.set_cons_zero, List.set_cons_succ]
                    rfl
                  refine pure_ (i := 11) (N := some 73) (v := ?_) (a' := ?_) #[true, true, true, true, true, true, true, true, true, true, true, true] rfl rfl (any_of HT_.out (by kernel_rfl)) (fun _ _ _ h => h) (Or.inl ⟨by rfl, ?_⟩) ?_ ?_
                  rotate_left
                  · intro w'
                    go_simp
                    try with_reducible rfl
                  rotate_left
                  · simp only [Act.put, List.setIfInBounds_toArray, List.set_cons_zero, List.set_cons_succ]
                    rfl
                  refine done_ (done_of HT_.out (by kernel_rfl)) ?_
                  have HC4 := Lib.hid (HC3.out.below hbc0')
                  have hcell := HC4.out.get
                  have hfree := HC4.out.free
                  have hw1 : IntKind.i64.wrap (d - 1) = d - 1 := IntWalk.i64_in _ (by omega)
                  go_wp2_with fail
                  go_roundw
                  case rel =>
                    refine ⟨k + 1, by omega, by go_num, Lib.hid ?_⟩
                    have e : c - (ahead dy (S.take (k + 1)) n : Int) = d - 1 := by rw [HA.out, z1, ← HB1.out, HD.out]; simp; omega
                    rw [e]
                    exact HC4.out.put (d - 1)
                  case measure => simp [intOf]; omega
              · have z1 : decide (nm u < n) = false := decide_eq_false hn
                refine start_ (n := 12) (S := fun w' => w'.cell? ⟨w.heap.size, 0, none⟩ = some (.pointer (some ⟨g, 0, none⟩)) ∧ w'.cell? ⟨g, wdN (nm u), none⟩ = some (.bool b1)) (ds := []) #[false, false, false, false, false, false, false, false, false, false, false, false] (by kernel_rfl) rfl rfl (HSS.out _ hb0) (fun hHeld => ?_); refine with_tab bl2_tab (fun HT_ => ?_)
                generalize wr.drew = w6 at hb0 hHeld ⊢
                refine pure_ (i := 0) (N := some 62) (v := ?_) (a' := ?_) #[true, false, false, false, false, false, false, false, false, false, false, false] rfl rfl (any_of HT_.out (by kernel_rfl)) (fun _ _ _ h => h) (Or.inl ⟨by rfl, ?_⟩) ?_ ?_
                rotate_left
                · intro w'
                  go_simp
                  try with_reducible rfl
                rotate_left
                · simp only [Act.put, List.setIfInBounds_toArray, List.set_cons_zero, List.set_cons_succ]
                  rfl
                refine pure_ (i := 1) (N := some 63) (v := ?_) (a' := ?_) #[true, true, false, false, false, false, false, false, false, false, false, false] rfl rfl (any_of HT_.out (by kernel_rfl)) (fun _ _ _ h => h) (Or.inl ⟨by rfl, ?_⟩) ?_ ?_
                rotate_left
                · intro w'
                  go_simp
                  try with_reducible rfl
                rotate_left
                · simp only [Act.put, List.setIfInBounds_toArray, List.set_cons_zero, List.set_cons_succ]
                  rfl
                refine pure_ (i := 2) (N := some 64) (v := ?_) (a' := ?_) #[true, true, true, false, false, false, false, false, false, false, false, false] rfl rfl (any_of HT_.out (by kernel_rfl)) (fun _ _ _ h => h) (Or.inl ⟨by rfl, ?_⟩) ?_ ?_
                rotate_left
                · intro w'
                  go_simp
                  try with_reducible rfl
                rotate_left
                · simp only [Act.put, List.setIfInBounds_toArray, List.set_cons_zero, List.set_cons_succ]
                  rfl
                refine pure_ (i := 3) (N := some 65) (v := ?_) (a' := ?_) #[true, true, true, true, false, false, false, false, false, false, false, false] rfl rfl (any_of HT_.out (by kernel_rfl)) (fun _ _ _ h => h) (Or.inl ⟨by rfl, ?_⟩) ?_ ?_
                rotate_left
                · intro w'
                  go_simp
                  try with_reducible rfl
                rotate_left
                · simp only [Act.put, List.setIfInBounds_toArray, List.set_cons_zero, List.set_cons_succ]
                  rfl
                refine pure_ (i := 4) (N := some 66) (v := undef) (a' := ?_) #[true, true, true, true, true, false, false, false, false, false, false, false] rfl rfl (any_of HT_.out (by kernel_rfl)) (fun _ _ _ h => h) (Or.inr ⟨by rfl, rfl⟩) ?_ ?_
                rotate_left
                · simp only [Act.put, List.setIfInBounds_toArray, List.set_cons_zero, List.set_cons_succ]
                  rfl
                refine pure_ (i := 5) (N := some 67) (v := undef) (a' := ?_) #[true, true, true, true, true, true, false, false, false, false, false, false] rfl rfl (any_of HT_.out (by kernel_rfl)) (fun _ _ _ h => h) (Or.inr ⟨by rfl, rfl⟩) ?_ ?_
                rotate_left
                · simp only [Act.put, List.setIfInBounds_toArray, List.set_cons_zero, List.set_cons_succ]
                  rfl
                refine pure_ (i := 7) (N := some 69) (v := undef) (a' := ?_) #[true, true, true, true, true, true, false, true, false, false, false, false] rfl rfl (any_of HT_.out (by kernel_rfl)) (fun _ _ _ h => h) (Or.inr ⟨by rfl, rfl⟩) ?_ ?_
                rotate_left
                · simp only [Act.put, List.setIfInBounds_toArray, List.set_cons_zero, List.set_cons_succ]
                  rfl
                refine pure_ (i := 8) (N := some 70) (v := undef) (a' := ?_) #[true, true, true, true, true, true, false, true, true, false, false, false] rfl rfl (any_of HT_.out (by kernel_rfl)) (fun _ _ _ h => h) (Or.inr ⟨by rfl, rfl⟩) ?_ ?_
                rotate_left
                · simp only [Act.put, List.setIfInBounds_toArray, List.set_cons_zero, List.set_cons_succ]
                  rfl
                refine one_ (i := 6) (N := some 68) #[true, true, true, true, true, true, true, true, true, false, false, false] rfl rfl (one_of HT_.out (by kernel_rfl)) (by decide) (fun K hK => ?_)
                refine off_ (by rfl) ?_
                refine hK.out _ _ hHeld (fun hHeld => ?_)
                clear hK K
                refine norm_ (a' := ?_) ?_ ?_
                rotate_left
                · show Act.put _ (some 68) _ = _
                  simp only [Act.put, List.setIfInBounds_toArray, List.set_cons_zero, List.set_cons_succ]
                  rfl
                refine pure_ (i := 9) (N := some 71) (v := undef) (a' := ?_) #[true, true, true, true, true, true, true, true, true, true, false, false] rfl rfl (any_of HT_.out (by kernel_rfl)) (fun _ _ _ h => h) (Or.inr ⟨by rfl, rfl⟩) ?_ ?_
                rotate_left
                · simp only [Act.put, List.setIfInBounds_toArray, List.set_cons_zero, List.set_cons_succ]
                  rfl
                refine pure_ (i := 10) (N := some 72) (v := undef) (a' := ?_) #[true, true, true, true, true, true, true, true, true, true, true, false] rfl rfl (any_of HT_.out (by kernel_rfl)) (fun _ _ _ h => h) (Or.inr ⟨by rfl, rfl⟩) ?_ ?_
                rotate_left
                · simp only [Act.put, List.setIfInBounds_toArray, List.set_cons_zero, List.set_cons_succ]
                  rfl
                refine pure_ (i := 11) (N := some 73) (v := ?_) (a' := ?_) #[true, true, true, true, true, true, true, true, true, true, true, true] rfl rfl (any_of HT_.out (by kernel_rfl)) (fun _ _ _ h => h) (Or.inl ⟨by rfl, ?_⟩) ?_ ?_
                rotate_left
                · intro w'
                  go_simp
                  try with_reducible rfl
                rotate_left
                · simp only [Act.put, List.setIfInBounds_toArray, List.set_cons_zero, List.set_cons_succ]
                  rfl
                refine done_ (done_of HT_.out (by kernel_rfl)) ?_
                have HC4 := Lib.hid (HC3.out.below hb0)
                go_wp2_with fail
                go_roundw
                case rel => exact ⟨k + 1, by omega, by go_num, Lib.hid (by rw [HA.out, z1]; simpa [← HD.out] using HC4.out)⟩
                case measure => simp [intOf]; omega
            · obtain rfl : S.length = k := by omega
              clear hlt hk
              rw [List.take_length] at HC
              have ah := ahead_le dy S n S.length
              rw [List.take_length] at ah
              obtain ⟨c2, hc2⟩ : ∃ c2, c2 = c - (ahead dy S n : Int) := ⟨_, rfl⟩
              rw [← hc2] at HC
              have cb2 : -4611686018427387903 ≤ c2 ∧ c2 ≤ 4000000 := by omega
              have HCC := Lib.hid hc2
              clear ah hc2 tm1 tm2 hlen
              have hcp : wr.cell? ⟨w.heap.size, 0, none⟩ = some (.pointer (some ⟨g, 0, none⟩)) := by
                have := (HC.out.keep w.heap.size (by have := SZ2.out; omega) (by omega)).trans P2.out
                simp [cell_of_row _ _ _ _ _ _ this]
              have hsv : wr.cell? ⟨g, 8, none⟩ = some ve := (HR.out.below (HC.out.old K2.out (Nat.le_succ _))).extra
              obtain ⟨x, cap, rfl, hlen, hx⟩ := HR.out.de
              have HXs := Lib.hid hx
              have l0 : (0 : Int) ≤ (E.length : Int) := Int.natCast_nonneg _
              clear hx
              go_wp2_with fail
              go_loopw [13, 14, 82] (fun _ _ i wr => ∃ k : Nat, k ≤ E.length ∧ i = .int .i64 (k : Int) ∧ Hid (Cnt W' wr (w.heap.size + 1) (c2 + (ahead (fun k => !dy k) (E.take k) n : Int)))) (fun _ _ i _ => E.length - (intOf i).toNat)
              case atStart => exact ⟨0, Nat.zero_le _, rfl, by simpa [ahead] using HC⟩
              case round =>
                clear HC hsv hcp
                obtain ⟨k, hk, rfl, HC⟩ := hrel
                by_cases hlt : k < E.length
                · obtain ⟨g', o, rfl, e1, e2, e3⟩ := HXs.out k hlt
                  have k0 : (0 : Int) ≤ (k : Int) := Int.natCast_nonneg _
                  have k1 : (k : Int) < (E.length : Int) := by omega
                  have kold := HC.out.old K2.out (Nat.le_succ _)
                  have y1 := cellB e1 kold
                  have y2 := cellB e2 kold
                  have y3 := cellB e3 kold
                  have HA := Lib.hid (ahead_take (fun k => !dy k) E n k hlt)
                  have al := ahead_le (fun k => !dy k) E n k
                  obtain ⟨u, hu⟩ : ∃ u, u = E[k] := ⟨_, rfl⟩
                  rw [← hu] at y1 y2 y3 HA
                  have hux : okD u = true := by rw [hu]; exact HE.out.ok _ (List.getElem_mem _)
                  obtain ⟨n1, n2⟩ := nm_bd hux
                  have HUx := Lib.hid hux
                  obtain ⟨d, hd⟩ : ∃ d, d = c2 + (ahead (fun k => !dy k) (E.take k) n : Int) := ⟨_, rfl⟩
                  have hdb : -4700000000000000000 ≤ d ∧ d ≤ 4700000000000000000 := by omega
                  rw [← hd] at HC
                  have HD := Lib.hid hd
                  clear e1 e2 e3 kold hu hux hd al
                  go_upto_region 23 with fail
                  obtain ⟨wl, hwl⟩ : ∃ wl, wl = wr := ⟨_, rfl⟩
                  rw [← hwl] at HC y1 y2 y3 ⊢
                  clear hwl
                  obtain ⟨wr, hwr⟩ : ∃ wr, wr = wl.alloc (.cells #[.int .i64 u.1, .int .i64 u.2.1, .int .i64 u.2.2] 27) := ⟨_, rfl⟩
                  have q3 : Below wl.heap.size wl wr := by rw [hwr]; exact (Below.refl _ _).alloc (Nat.le_refl _) _
                  have q4 : Bx wr wl.heap.size u := by rw [hwr]; exact alnew wl _
                  rw [← hwr]
                  have HC2 := Lib.hid (HC.out.below q3)
                  have u0 := q4.c0
                  have u1 := q4.c1
                  have u2 := q4.c2
                  have HN : Hid (Calls Tryd.prog 20 #[vd u] wr fun e w' => e = .returned (.int .i64 (nm u)) ∧ Below wr.heap.size wr w') := Lib.hid (number_r u HUx.out wr (HG.out.below (HC2.out.old K2.out (Nat.le_succ _))))
                  clear hwr q3 q4 y1 y2 y3 HC
                  go_upto_region 24 with (go_at_call 20; (with_reducible refine HN.out.mono ?_); rintro ev w2 ⟨rfl, hb⟩)
                  have HC3 := Lib.hid (HC2.out.below hb)
                  clear u0 u1 u2 HN HC2 hb
                  obtain ⟨wr, hwr⟩ : ∃ wr, wr = w2 := ⟨_, rfl⟩
                  rw [← hwr] at HC3 ⊢
                  clear hwr
                  have kold := HC3.out.old K2.out (Nat.le_succ _)
                  have w7 := wdN_lt (nm u)
                  have w8 : (0 : Int) ≤ (wdN (nm u) : Int) := Int.natCast_nonneg _
                  have w9 : (wdN (nm u) : Int) < 7 := by omega
                  obtain ⟨b1, hb1⟩ : ∃ b1, b1 = dy (wdN (nm u)) := ⟨_, rfl⟩
                  have HSS : Hid (∀ w', Below wr.heap.size wr w' → (w'.cell? ⟨w.heap.size, 0, none⟩ = some (.pointer (some ⟨g, 0, none⟩)) ∧ w'.cell? ⟨g, wdN (nm u), none⟩ = some (.bool b1))) := Lib.hid fun w' k => by
                    have r := (HR.out.below kold).below k
                    have p := (k.block _ (Array.getElem?_eq_some_iff.1 (HC3.out.keep w.heap.size (by have := SZ2.out; omega) (by omega) ▸ P2.out)).1).trans ((HC3.out.keep w.heap.size (by have := SZ2.out; omega) (by omega)).trans P2.out)
                    exact ⟨by simp [cell_of_row _ _ _ _ _ _ p], by rw [hb1]; exact r.day _ w7⟩
                  have HW : Hid (∀ w1, Below wr.heap.size wr w1 → Calls Tryd.prog 37 #[.int .i64 (nm u)] w1 fun e w' => e = .returned (.int .i64 (wdN (nm u) : Int)) ∧ Below w1.heap.size w1 w') := Lib.hid fun w1 k => weekday_r (nm u) (by omega) (by omega) w1
                  have HB1 := Lib.hid hb1
                  have hb0 : Below wr.heap.size wr wr.drew := (Below.refl _ _).drew
                  clear kold w7 hb1
                  by_cases hn : nm u < n
                  · have z1 : decide (nm u < n) = true := decide_eq_true hn
                    cases b1
                    · refine start_ (n := 13) (S := fun w' => w'.cell? ⟨w.heap.size, 0, none⟩ = some (.pointer (some ⟨g, 0, none⟩)) ∧ w'.cell? ⟨g, wdN (nm u), none⟩ = some (.bool false)) (ds := []) #[false, false, false, false, false, false, false, false, false, false, false, false, false] (by kernel_rfl) rfl rfl (HSS.out _ hb0) (fun hHeld => ?_); refine with_tab bl3_tab (fun HT_ => ?_)
                      generalize wr.drew = w6 at hb0 hHeld ⊢
                      refine pure_ (i := 0) (N := some 88) (v := ?_) (a' := ?_) #[true, false, false, false, false, false, false, false, false, false, false, false, false] rfl rfl (any_of HT_.out (by kernel_rfl)) (fun _ _ _ h => h) (Or.inl ⟨by rfl, ?_⟩) ?_ ?_
                      rotate_left
                      · intro w'
                        go_simp
                        try with_reducible rfl
                      rotate_left
                      · simp only [Act.put, List.setIfInBounds_toArray, List.set_cons_zero, List.set_cons_succ]
                        rfl
                      refine pure_ (i := 1) (N := some 89) (v := ?_) (a' := ?_) #[true, true, false, false, false, false, false, false, false, false, false, false, false] rfl rfl (any_of HT_.out (by kernel_rfl)) (fun _ _ _ h => h) (Or.inl ⟨by rfl, ?_⟩) ?_ ?_
                      rotate_left
                      · intro w'
                        go_simp
                        try with_reducible rfl
                      rotate_left
                      · simp only [Act.put, List.setIfInBounds_toArray, List.set_cons_zero, List.set_cons_succ]
                        rfl
                      refine pure_ (i := 2) (N := some 90) (v := ?_) (a' := ?_) #[true, true, true, false, false, false, false, false, false, false, false, false, false] rfl rfl (any_of HT_.out (by kernel_rfl)) (fun _ _ _ h => h) (Or.inl ⟨by rfl, ?_⟩) ?_ ?_
                      rotate_left
                      · intro w'
                        go_simp
                        try with_reducible rfl
                      rotate_left
                      · simp only [Act.put, List.setIfInBounds_toArray, List.set_cons_zero, List.set_cons_succ]
                        rfl
                      refine pure_ (i := 3) (N := some 91) (v := ?_) (a' := ?_) #[true, true, true, true, false, false, false, false, false, false, false, false, false] rfl rfl (any_of HT_.out (by kernel_rfl)) (fun _ _ _ h => h) (Or.inl ⟨by rfl, ?_⟩) ?_ ?_
                      rotate_left
                      · intro w'
                        go_simp
                        try with_reducible rfl
                      rotate_left
                      · simp only [Act.put, List.setIfInBounds_toArray, List.set_cons_zero, List.set_cons_succ]
                        rfl
                      refine take_ (i := 4) (N := some 92) (v := ?_) (a' := ?_) #[true, true, true, true, true, false, false, false, false, false, false, false, false] rfl rfl (take_of HT_.out (by kernel_rfl)) (fun _ _ _ h => h) (Or.inl ⟨by rfl, ?_⟩) hHeld ?_ ?_
                      rotate_left
                      · rintro w' ⟨s1, s2⟩
                        go_simp
                        try with_reducible rfl
                      rotate_left
                      · simp only [Act.put, List.setIfInBounds_toArray, List.set_cons_zero, List.set_cons_succ]
                        rfl
                      refine pure_ (i := 5) (N := some 93) (v := ?_) (a' := ?_) #[true, true, true, true, true, true, false, false, false, false, false, false, false] rfl rfl (any_of HT_.out (by kernel_rfl)) (fun _ _ _ h => h) (Or.inl ⟨by rfl, ?_⟩) ?_ ?_
                      rotate_left
                      · intro w'
                        go_simp
                        try with_reducible rfl
                      rotate_left
                      · simp only [Act.put, List.setIfInBounds_toArray, List.set_cons_zero, List.set_cons_succ]
                        rfl
                      refine pure_ (i := 7) (N := some 95) (v := ?_) (a' := ?_) #[true, true, true, true, true, true, false, true, false, false, false, false, false] rfl rfl (any_of HT_.out (by kernel_rfl)) (fun _ _ _ h => h) (Or.inl ⟨by rfl, ?_⟩) ?_ ?_
                      rotate_left
                      · intro w'
                        go_simp
                        try with_reducible rfl
                      rotate_left
                      · simp only [Act.put, List.setIfInBounds_toArray, List.set_cons_zero, List.set_cons_succ]
                        rfl
                      refine pure_ (i := 8) (N := some 96) (v := ?_) (a' := ?_) #[true, true, true, true, true, true, false, true, true, false, false, false, false] rfl rfl (any_of HT_.out (by kernel_rfl)) (fun _ _ _ h => h) (Or.inl ⟨by rfl, ?_⟩) ?_ ?_
                      rotate_left
                      · intro w'
                        go_simp
                        try with_reducible rfl
                      rotate_left
                      · simp only [Act.put, List.setIfInBounds_toArray, List.set_cons_zero, List.set_cons_succ]
                        rfl
                      refine one_ (i := 6) (N := some 94) #[true, true, true, true, true, true, true, true, true, false, false, false, false] rfl rfl (one_of HT_.out (by kernel_rfl)) (by decide) (fun K hK => ?_)
                      refine goes_ Tryd.func37 (by kernel_rfl) rfl #[.int .i64 (nm u)] (by rfl) rfl rfl (by (try simp only [List.map_toArray, List.map_cons, List.map_nil]); first | done | rfl) ?_
                      with_reducible refine (HW.out _ hb0).mono ?_
                      rintro ev w20 ⟨rfl, hbc0⟩
                      have hbc0' := hb0.trans (hbc0.mono hb0.size)
                      refine ⟨_, rfl, ?_⟩
                      refine hK.out _ _ (HSS.out _ hbc0') (fun hHeld => ?_)
                      clear hK K
                      refine norm_ (a' := ?_) ?_ ?_
                      rotate_left
                      · show Act.put _ (some 94) _ = _
                        simp only [Act.put, List.setIfInBounds_toArray, List.set_cons_zero, List.set_cons_succ]
                        rfl
                      refine pure_ (i := 9) (N := some 97) (v := ?_) (a' := ?_) #[true, true, true, true, true, true, true, true, true, true, false, false, false] rfl rfl (any_of HT_.out (by kernel_rfl)) (fun _ _ _ h => h) (Or.inl ⟨by rfl, ?_⟩) ?_ ?_
                      rotate_left
                      · intro w'
                        go_simp
                        try with_reducible rfl
                      rotate_left
                      · simp only [Act.put, List.setIfInBounds_toArray, List.set_cons_zero, List.set_cons_succ]
                        rfl
                      refine take_ (i := 10) (N := some 98) (v := ?_) (a' := ?_) #[true, true, true, true, true, true, true, true, true, true, true, false, false] rfl rfl (take_of HT_.out (by kernel_rfl)) (fun _ _ _ h => h) (Or.inl ⟨by rfl, ?_⟩) hHeld ?_ ?_
                      rotate_left
                      · rintro w' ⟨s1, s2⟩
                        go_simp
                        try with_reducible rfl
                      rotate_left
                      · simp only [Act.put, List.setIfInBounds_toArray, List.set_cons_zero, List.set_cons_succ]
                        rfl
                      refine pure_ (i := 11) (N := some 99) (v := ?_) (a' := ?_) #[true, true, true, true, true, true, true, true, true, true, true, true, false] rfl rfl (any_of HT_.out (by kernel_rfl)) (fun _ _ _ h => h) (Or.inl ⟨by rfl, ?_⟩) ?_ ?_
                      rotate_left
                      · intro w'
                        go_simp
                        try with_reducible rfl
                      rotate_left
                      · simp only [Act.put, List.setIfInBounds_toArray, List.set_cons_zero, List.set_cons_succ]
                        rfl
                      refine pure_ (i := 12) (N := some 100) (v := ?_) (a' := ?_) #[true, true, true, true, true, true, true, true, true, true, true, true, true] rfl rfl (any_of HT_.out (by kernel_rfl)) (fun _ _ _ h => h) (Or.inl ⟨by rfl, ?_⟩) ?_ ?_
                      rotate_left
                      · intro w'
                        go_simp
                        try with_reducible rfl
                      rotate_left
                      · simp only [Act.put, List.setIfInBounds_toArray, List.set_cons_zero, List.set_cons_succ]
                        rfl
                      refine done_ (done_of HT_.out (by kernel_rfl)) ?_
                      have HC4 := Lib.hid (HC3.out.below hbc0')
                      have hcell := HC4.out.get
                      have hfree := HC4.out.free
                      have hw1 : IntKind.i64.wrap (d + 1) = d + 1 := IntWalk.i64_in _ (by omega)
                      go_wp2_with fail
                      go_roundw
                      case rel =>
                        refine ⟨k + 1, by omega, by go_num, Lib.hid ?_⟩
                        have e : c2 + (ahead (fun k => !dy k) (E.take (k + 1)) n : Int) = d + 1 := by rw [HA.out, z1, ← HB1.out, HD.out]; simp; omega
                        rw [e]
                        exact HC4.out.put (d + 1)
                      case measure => simp [intOf]; omega
                    · refine start_ (n := 13) (S := fun w' => w'.cell? ⟨w.heap.size, 0, none⟩ = some (.pointer (some ⟨g, 0, none⟩)) ∧ w'.cell? ⟨g, wdN (nm u), none⟩ = some (.bool true)) (ds := []) #[false, false, false, false, false, false, false, false, false, false, false, false, false] (by kernel_rfl) rfl rfl (HSS.out _ hb0) (fun hHeld => ?_); refine with_tab bl3_tab (fun HT_ => ?_)
                      generalize wr.drew = w6 at hb0 hHeld ⊢
                      refine pure_ (i := 0) (N := some 88) (v := ?_) (a' := ?_) #[true, false, false, false, false, false, false, false, false, false, false, false, false] rfl rfl (any_of HT_.out (by kernel_rfl)) (fun _ _ _ h => h) (Or.inl ⟨by rfl, ?_⟩) ?_ ?_
                      rotate_left
                      · intro w'
                        go_simp
                        try with_reducible rfl
                      rotate_left
                      · simp only [Act.put, List.setIfInBounds_toArray, List.set_cons_zero, List.set_cons_succ]
                        rfl
                      refine pure_ (i := 1) (N := some 89) (v := ?_) (a' := ?_) #[true, true, false, false, false, false, false, false, false, false, false, false, false] rfl rfl (any_of HT_.out (by kernel_rfl)) (fun _ _ _ h => h) (Or.inl ⟨by rfl, ?_⟩) ?_ ?_
                      rotate_left
                      · intro w'
                        go_simp
                        try with_reducible rfl
                      rotate_left
                      · simp only [Act.put, List.setIfInBounds_toArray, List.set_cons_zero, List.set_cons_succ]
                        rfl
                      refine pure_ (i := 2) (N := some 90) (v := ?_) (a' := ?_) #[true, true, true, false, false, false, false, false, false, false, false, false, false] rfl rfl (any_of HT_.out (by kernel_rfl)) (fun _ _ _ h => h) (Or.inl ⟨by rfl, ?_⟩) ?_ ?_
                      rotate_left
                      · intro w'
                        go_simp
                        try with_reducible rfl
                      rotate_left
                      · simp only [Act.put, List.setIfInBounds_toArray, List.set_cons_zero, List.set_cons_succ]
                        rfl
                      refine pure_ (i := 3) (N := some 91) (v := ?_) (a' := ?_) #[true, true, true, true, false, false, false, false, false, false, false, false, false] rfl rfl (any_of HT_.out (by kernel_rfl)) (fun _ _ _ h => h) (Or.inl ⟨by rfl, ?_⟩) ?_ ?_
                      rotate_left
                      · intro w'
                        go_simp
                        try with_reducible rfl
                      rotate_left
                      · simp only [Act.put, List.setIfInBounds_toArray, List.set_cons_zero, List.set_cons_succ]
                        rfl
                      refine take_ (i := 4) (N := some 92) (v := ?_) (a' := ?_) #[true, true, true, true, true, false, false, false, false, false, false, false, false] rfl rfl (take_of HT_.out (by kernel_rfl)) (fun _ _ _ h => h) (Or.inl ⟨by rfl, ?_⟩) hHeld ?_ ?_
                      rotate_left
                      · rintro w' ⟨s1, s2⟩
                        go_simp
                        try with_reducible rfl
                      rotate_left
                      · simp only [Act.put, List.setIfInBounds_toArray, List.set_cons_zero, List.set_cons_succ]
                        rfl
                      refine pure_ (i := 5) (N := some 93) (v := ?_) (a' := ?_) #[true, true, true, true, true, true, false, false, false, false, false, false, false] rfl rfl (any_of HT_.out (by kernel_rfl)) (fun _ _ _ h => h) (Or.inl ⟨by rfl, ?_⟩) ?_ ?_
                      rotate_left
                      · intro w'
                        go_simp
                        try with_reducible rfl
                      rotate_left
                      · simp only [Act.put, List.setIfInBounds_toArray, List.set_cons_zero, List.set_cons_succ]
                        rfl
                      refine pure_ (i := 7) (N := some 95) (v := ?_) (a' := ?_) #[true, true, true, true, true, true, false, true, false, false, false, false, false] rfl rfl (any_of HT_.out (by kernel_rfl)) (fun _ _ _ h => h) (Or.inl ⟨by rfl, ?_⟩) ?_ ?_
                      rotate_left
                      · intro w'
                        go_simp
                        try with_reducible rfl
                      rotate_left
                      · simp only [Act.put, List.setIfInBounds_toArray, List.set_cons_zero, List.set_cons_succ]
                        rfl
                      refine pure_ (i := 8) (N := some 96) (v := ?_) (a' := ?_) #[true, true, true, true, true, true, false, true, true, false, false, false, false] rfl rfl (any_of HT_.out (by kernel_rfl)) (fun _ _ _ h => h) (Or.inl ⟨by rfl, ?_⟩) ?_ ?_
                      rotate_left
                      · intro w'
                        go_simp
                        try with_reducible rfl
                      rotate_left
                      · simp only [Act.put, List.setIfInBounds_toArray, List.set_cons_zero, List.set_cons_succ]
                        rfl
                      refine one_ (i := 6) (N := some 94) #[true, true, true, true, true, true, true, true, true, false, false, false, false] rfl rfl (one_of HT_.out (by kernel_rfl)) (by decide) (fun K hK => ?_)
                      refine goes_ Tryd.func37 (by kernel_rfl) rfl #[.int .i64 (nm u)] (by rfl) rfl rfl (by (try simp only [List.map_toArray, List.map_cons, List.map_nil]); first | done | rfl) ?_
                      with_reducible refine (HW.out _ hb0).mono ?_
                      rintro ev w20 ⟨rfl, hbc0⟩
                      have hbc0' := hb0.trans (hbc0.mono hb0.size)
                      refine ⟨_, rfl, ?_⟩
                      refine hK.out _ _ (HSS.out _ hbc0') (fun hHeld => ?_)
                      clear hK K
                      refine norm_ (a' := ?_) ?_ ?_
                      rotate_left
                      · show Act.put _ (some 94) _ = _
                        simp only [Act.put, List.setIfInBounds_toArray, List.set_cons_zero, List.set_cons_succ]
                        rfl
                      refine pure_ (i := 9) (N := some 97) (v := ?_) (a' := ?_) #[true, true, true, true, true, true, true, true, true, true, false, false, false] rfl rfl (any_of HT_.out (by kernel_rfl)) (fun _ _ _ h => h) (Or.inl ⟨by rfl, ?_⟩) ?_ ?_
                      rotate_left
                      · intro w'
                        go_simp
                        try with_reducible rfl
                      rotate_left
                      · simp only [Act.put, List.setIfInBounds_toArray, List.set_cons_zero, List.set_cons_succ]
                        rfl
                      refine take_ (i := 10) (N := some 98) (v := ?_) (a' := ?_) #[true, true, true, true, true, true, true, true, true, true, true, false, false] rfl rfl (take_of HT_.out (by kernel_rfl)) (fun _ _ _ h => h) (Or.inl ⟨by rfl, ?_⟩) hHeld ?_ ?_
                      rotate_left
                      · rintro w' ⟨s1, s2⟩
                        go_simp
                        try with_reducible rfl
                      rotate_left
                      · simp only [Act.put, List.setIfInBounds_toArray, List.set_cons_zero, List.set_cons_succ]
                        rfl
                      refine pure_ (i := 11) (N := some 99) (v := ?_) (a' := ?_) #[true, true, true, true, true, true, true, true, true, true, true, true, false] rfl rfl (any_of HT_.out (by kernel_rfl)) (fun _ _ _ h => h) (Or.inl ⟨by rfl, ?_⟩) ?_ ?_
                      rotate_left
                      · intro w'
                        go_simp
                        try with_reducible rfl
                      rotate_left
                      · simp only [Act.put, List.setIfInBounds_toArray, List.set_cons_zero, List.set_cons_succ]
                        rfl
                      refine pure_ (i := 12) (N := some 100) (v := ?_) (a' := ?_) #[true, true, true, true, true, true, true, true, true, true, true, true, true] rfl rfl (any_of HT_.out (by kernel_rfl)) (fun _ _ _ h => h) (Or.inl ⟨by rfl, ?_⟩) ?_ ?_
                      rotate_left
                      · intro w'
                        go_simp
                        try with_reducible rfl
                      rotate_left
                      · simp only [Act.put, List.setIfInBounds_toArray, List.set_cons_zero, List.set_cons_succ]
                        rfl
                      refine done_ (done_of HT_.out (by kernel_rfl)) ?_
                      have HC4 := Lib.hid (HC3.out.below hbc0')
                      go_wp2_with fail
                      go_roundw
                      case rel => exact ⟨k + 1, by omega, by go_num, Lib.hid (by rw [HA.out, z1, ← HB1.out]; simpa [← HD.out] using HC4.out)⟩
                      case measure => simp [intOf]; omega
                  · have z1 : decide (nm u < n) = false := decide_eq_false hn
                    refine start_ (n := 13) (S := fun w' => w'.cell? ⟨w.heap.size, 0, none⟩ = some (.pointer (some ⟨g, 0, none⟩)) ∧ w'.cell? ⟨g, wdN (nm u), none⟩ = some (.bool b1)) (ds := []) #[false, false, false, false, false, false, false, false, false, false, false, false, false] (by kernel_rfl) rfl rfl (HSS.out _ hb0) (fun hHeld => ?_); refine with_tab bl3_tab (fun HT_ => ?_)
                    generalize wr.drew = w6 at hb0 hHeld ⊢
                    refine pure_ (i := 0) (N := some 88) (v := ?_) (a' := ?_) #[true, false, false, false, false, false, false, false, false, false, false, false, false] rfl rfl (any_of HT_.out (by kernel_rfl)) (fun _ _ _ h => h) (Or.inl ⟨by rfl, ?_⟩) ?_ ?_
                    rotate_left
                    · intro w'
                      go_simp
                      try with_reducible rfl
                    rotate_left
                    · simp only [Act.put, List.setIfInBounds_toArray, List.set_cons_zero, List.set_cons_succ]
                      rfl
                    refine pure_ (i := 1) (N := some 89) (v := ?_) (a' := ?_) #[true, true, false, false, false, false, false, false, false, false, false, false, false] rfl rfl (any_of HT_.out (by kernel_rfl)) (fun _ _ _ h => h) (Or.inl ⟨by rfl, ?_⟩) ?_ ?_
                    rotate_left
                    · intro w'
                      go_simp
                      try with_reducible rfl
                    rotate_left
                    · simp only [Act.put, List.setIfInBounds_toArray, List.set_cons_zero, List.set_cons_succ]
                      rfl
                    refine pure_ (i := 2) (N := some 90) (v := ?_) (a' := ?_) #[true, true, true, false, false, false, false, false, false, false, false, false, false] rfl rfl (any_of HT_.out (by kernel_rfl)) (fun _ _ _ h => h) (Or.inl ⟨by rfl, ?_⟩) ?_ ?_
                    rotate_left
                    · intro w'
                      go_simp
                      try with_reducible rfl
                    rotate_left
                    · simp only [Act.put, List.setIfInBounds_toArray, List.set_cons_zero, List.set_cons_succ]
                      rfl
                    refine pure_ (i := 3) (N := some 91) (v := ?_) (a' := ?_) #[true, true, true, true, false, false, false, false, false, false, false, false, false] rfl rfl (any_of HT_.out (by kernel_rfl)) (fun _ _ _ h => h) (Or.inl ⟨by rfl, ?_⟩) ?_ ?_
                    rotate_left
                    · intro w'
                      go_simp
                      try with_reducible rfl
                    rotate_left
                    · simp only [Act.put, List.setIfInBounds_toArray, List.set_cons_zero, List.set_cons_succ]
                      rfl
                    refine pure_ (i := 4) (N := some 92) (v := undef) (a' := ?_) #[true, true, true, true, true, false, false, false, false, false, false, false, false] rfl rfl (any_of HT_.out (by kernel_rfl)) (fun _ _ _ h => h) (Or.inr ⟨by rfl, rfl⟩) ?_ ?_
                    rotate_left
                    · simp only [Act.put, List.setIfInBounds_toArray, List.set_cons_zero, List.set_cons_succ]
                      rfl
                    refine pure_ (i := 5) (N := some 93) (v := undef) (a' := ?_) #[true, true, true, true, true, true, false, false, false, false, false, false, false] rfl rfl (any_of HT_.out (by kernel_rfl)) (fun _ _ _ h => h) (Or.inr ⟨by rfl, rfl⟩) ?_ ?_
                    rotate_left
                    · simp only [Act.put, List.setIfInBounds_toArray, List.set_cons_zero, List.set_cons_succ]
                      rfl
                    refine pure_ (i := 7) (N := some 95) (v := undef) (a' := ?_) #[true, true, true, true, true, true, false, true, false, false, false, false, false] rfl rfl (any_of HT_.out (by kernel_rfl)) (fun _ _ _ h => h) (Or.inr ⟨by rfl, rfl⟩) ?_ ?_
                    rotate_left
                    · simp only [Act.put, List.setIfInBounds_toArray, List.set_cons_zero, List.set_cons_succ]
                      rfl
                    refine pure_ (i := 8) (N := some 96) (v := undef) (a' := ?_) #[true, true, true, true, true, true, false, true, true, false, false, false, false] rfl rfl (any_of HT_.out (by kernel_rfl)) (fun _ _ _ h => h) (Or.inr ⟨by rfl, rfl⟩) ?_ ?_
                    rotate_left
                    · simp only [Act.put, List.setIfInBounds_toArray, List.set_cons_zero, List.set_cons_succ]
                      rfl
                    refine one_ (i := 6) (N := some 94) #[true, true, true, true, true, true, true, true, true, false, false, false, false] rfl rfl (one_of HT_.out (by kernel_rfl)) (by decide) (fun K hK => ?_)
                    refine off_ (by rfl) ?_
                    refine hK.out _ _ hHeld (fun hHeld => ?_)
                    clear hK K
                    refine norm_ (a' := ?_) ?_ ?_
                    rotate_left
                    · show Act.put _ (some 94) _ = _
                      simp only [Act.put, List.setIfInBounds_toArray, List.set_cons_zero, List.set_cons_succ]
                      rfl
                    refine pure_ (i := 9) (N := some 97) (v := undef) (a' := ?_) #[true, true, true, true, true, true, true, true, true, true, false, false, false] rfl rfl (any_of HT_.out (by kernel_rfl)) (fun _ _ _ h => h) (Or.inr ⟨by rfl, rfl⟩) ?_ ?_
                    rotate_left
                    · simp only [Act.put, List.setIfInBounds_toArray, List.set_cons_zero, List.set_cons_succ]
                      rfl
                    refine pure_ (i := 10) (N := some 98) (v := undef) (a' := ?_) #[true, true, true, true, true, true, true, true, true, true, true, false, false] rfl rfl (any_of HT_.out (by kernel_rfl)) (fun _ _ _ h => h) (Or.inr ⟨by rfl, rfl⟩) ?_ ?_
                    rotate_left
                    · simp only [Act.put, List.setIfInBounds_toArray, List.set_cons_zero, List.set_cons_succ]
                      rfl
                    refine pure_ (i := 11) (N := some 99) (v := undef) (a' := ?_) #[true, true, true, true, true, true, true, true, true, true, true, true, false] rfl rfl (any_of HT_.out (by kernel_rfl)) (fun _ _ _ h => h) (Or.inr ⟨by rfl, rfl⟩) ?_ ?_
                    rotate_left
                    · simp only [Act.put, List.setIfInBounds_toArray, List.set_cons_zero, List.set_cons_succ]
                      rfl
                    refine pure_ (i := 12) (N := some 100) (v := ?_) (a' := ?_) #[true, true, true, true, true, true, true, true, true, true, true, true, true] rfl rfl (any_of HT_.out (by kernel_rfl)) (fun _ _ _ h => h) (Or.inl ⟨by rfl, ?_⟩) ?_ ?_
                    rotate_left
                    · intro w'
                      go_simp
                      try with_reducible rfl
                    rotate_left
                    · simp only [Act.put, List.setIfInBounds_toArray, List.set_cons_zero, List.set_cons_succ]
                      rfl
                    refine done_ (done_of HT_.out (by kernel_rfl)) ?_
                    have HC4 := Lib.hid (HC3.out.below hb0)
                    go_wp2_with fail
                    go_roundw
                    case rel => exact ⟨k + 1, by omega, by go_num, Lib.hid (by rw [HA.out, z1]; simpa [← HD.out] using HC4.out)⟩
                    case measure => simp [intOf]; omega
                · obtain rfl : E.length = k := by omega
                  clear hlt hk
                  rw [List.take_length] at HC
                  have ah := ahead_le (fun k => !dy k) E n E.length
                  rw [List.take_length] at ah
                  have hcell := HC.out.get
                  go_wp2_with fail
                  have mk := (HC.out.keep D (Array.getElem?_eq_some_iff.1 HMK.out).1 (by have := HDk.out; omega)).trans HMK.out
                  refine ⟨by simp, .inl ⟨_, _, rfl, run_takeDeferred mk, ?_⟩⟩
                  have k9 := HC.out.old K2.out (Nat.le_succ _)
                  refine ⟨_, results_tmp rfl _ _ _, ?_, k9.trans (belowK_b (w := w) (Nat.le_refl _) _ D _ _ (by have := HDk.out; omega) mk rfl rfl)⟩
                  have : belF dy S E n = c2 + (ahead (fun k => !dy k) E n : Int) := by
                    unfold belF
                    rw [HCC.out, HC5.out, HC2.out, ← HQ.out]
                  rw [this]
                  rfl
end Go.Proofs.YtjifinacnofmiaaDoor.Ext

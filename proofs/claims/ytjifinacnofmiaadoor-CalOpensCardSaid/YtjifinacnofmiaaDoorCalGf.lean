/- cal's good at any rule (printed by gen_calgf.py). -/
import Derived.Test.YtjifinacnofmiaaDoorCalSc
set_option linter.unusedVariables false
set_option linter.unusedSimpArgs false
namespace Go.Proofs.YtjifinacnofmiaaDoor.Ext
open Go Go.RowKit Go.Proofs.YtjifinacnofmiaaDoorW.PrintWords Go.Proofs.YtjifinacnofmiaaDoorW.PrintLast Go.Proofs.YtjifinacnofmiaaDoor.PCal Go.Proofs.YtjifinacnofmiaaDoor.GC Go.Proofs.YtjifinacnofmiaaDoor.CalP
def goodgT : Bool × List (List Nat × List Nat) := (true,
  [([], []), ([0], [0]), ([1], [1]), ([2, 1], [2]), ([3], [3]), ([4, 3], [3, 4]), ([5, 3, 3], [3, 5]), ([6], [6]),
    ([7, 6, 6], [6, 7]), ([6], [6]), ([6], [6]), ([10, 6], [6, 10]), ([9, 11, 6], [6, 9, 11]), ([12, 6], [6, 12]),
    ([13, 8, 6], [6, 13]), ([8, 14, 6], [6, 8, 14]), ([6, 15, 3], [3, 6, 15]), ([3, 16], [3, 16])])
theorem goodg_tab : rtab .any (opsOf Tryd.f18 9) = goodgT := by kernel_rfl
/-- the first k days of a list are days and rise -/
structure Pre (l : List D3) (k : Nat) : Prop where
  ok : ∀ i (h : i < l.length), i < k → okD l[i] = true
  up : ∀ i (h : i + 1 < l.length), i + 1 < k → nm l[i] < nm l[i + 1]
theorem Pre.zero (l : List D3) : Pre l 0 := ⟨fun _ _ h => absurd h (by omega), fun _ _ h => absurd h (by omega)⟩
theorem Pre.next {l : List D3} {k : Nat} (h : Pre l k) (hk : k < l.length) (ho : okD l[k] = true) (hu : ∀ p (hp : p + 1 = k), nm (l[p]'(by omega)) < nm l[k]) : Pre l (k + 1) := by
  refine ⟨fun i hi q => ?_, fun i hi q => ?_⟩
  · by_cases e : i = k
    · subst e
      exact ho
    · exact h.ok i hi (by omega)
  · by_cases e : i + 1 = k
    · subst e
      exact hu i rfl
    · exact h.up i hi (by omega)
/-- a list that may be a rule's -/
def RisP (l : List D3) : Prop := l.length ≤ 1000 ∧ Pre l l.length
theorem RisP.good {l : List D3} (h : RisP l) : GoodL l := by
  refine ⟨fun x hx => ?_, fun i j hi hj hij => ?_⟩
  · obtain ⟨i, hi, rfl⟩ := List.mem_iff_getElem.1 hx
    exact h.2.ok i hi hi
  · obtain ⟨d, rfl⟩ : ∃ d, j = i + 1 + d := ⟨j - i - 1, by omega⟩
    clear hij
    induction d with
    | zero => exact h.2.up i hj hj
    | succ d ih =>
      have a := ih (by omega)
      have b := h.2.up (i + 1 + d) (by omega) (by omega)
      exact Int.lt_trans a b
/-- a right rule -/
def GoodP (S E : List D3) : Prop := RisP S ∧ RisP E ∧ ∀ d ∈ S, has E (nm d) = false
set_option maxHeartbeats 8000000 in
set_option maxRecDepth 100000 in
theorem goodg_r (w : World) (dy : Nat → Bool) (vs ve : Value) (S E : List D3) (okR : Bool) (hG : GlobOk w) (hS : DL w vs S) (hE : DL w ve E) (h : okR = true ↔ GoodP S E) :
    Calls Tryd.prog 18 #[rvV dy vs ve] w fun e w' => e = .returned (.bool okR) ∧ Below w.heap.size w w' := by
  have k1 := (Below.refl w.heap.size w).alloc (Nat.le_refl _) (.cells (rcells dy vs ve) 25)
  have HR : Hid (RuleAt (w.alloc (.cells (rcells dy vs ve) 25)) w.heap.size dy vs ve S E) := Lib.hid ⟨alnew w _, hS.below k1, hE.below k1⟩
  have K1 := Lib.hid k1
  have HG := Lib.hid (hG.below k1)
  have HH := Lib.hid h
  obtain ⟨xs, cs, rfl, ls, hxs⟩ := hS
  obtain ⟨xe, ce, rfl, le, hxe⟩ := hE
  have HXs := Lib.hid hxs
  have HXe := Lib.hid hxe
  have s0 : (0 : Int) ≤ (S.length : Int) := Int.natCast_nonneg _
  have e0 : (0 : Int) ≤ (E.length : Int) := Int.natCast_nonneg _
  obtain ⟨W, hW⟩ : ∃ W, W = w.alloc (.cells (rcells dy (.slice xs S.length cs) (.slice xe E.length ce)) 25) := ⟨_, rfl⟩
  rw [← hW] at HR HG K1 k1
  have HW := Lib.hid hW
  have d7 := HR.out.shut
  have d8 := HR.out.extra
  have HK1 := Lib.hid k1
  clear hG h k1 hW hxs hxe
  have x0 : ∀ w : World, (Instr.index 58 (.agg #[.slice xs S.length cs, .slice xe E.length ce]) (.int .i64 0)).run Tryd.prog w = .ok (.slice xs S.length cs) w := fun _ => by kernel_rfl
  have x1 : ∀ w : World, (Instr.index 58 (.agg #[.slice xs S.length cs, .slice xe E.length ce]) (.int .i64 1)).run Tryd.prog w = .ok (.slice xe E.length ce) w := fun _ => by kernel_rfl
  go_enter Tryd.func18, Tryd.ntmps18
  go_wp2_with fail
  go_loopw [2, 4, 5, 6, 14] (fun _ _ _ _ i wr => ∃ k : Int, (k = 0 ∨ k = 1 ∨ k = 2) ∧ i = .int .i64 k ∧ Hid (Below W.heap.size W wr) ∧ Hid ((1 ≤ k → RisP S) ∧ (2 ≤ k → RisP E))) (fun _ _ _ _ i _ => 2 - (intOf i).toNat)
  case atStart =>
    refine ⟨0, .inl rfl, rfl, Lib.hid ?_, Lib.hid ⟨fun h => absurd h (by omega), fun h => absurd h (by omega)⟩⟩
    have h2 : w.alloc (.cells (rcells dy (.slice xs S.length cs) (.slice xe E.length ce)) 25) = W := HW.out.symm
    first
      | exact Below.refl _ _
      | (show Below W.heap.size W (w.alloc (.cells (rcells dy (.slice xs S.length cs) (.slice xe E.length ce)) 25)); rw [h2]; exact Below.refl _ _)
  case round =>
    obtain ⟨k, hk, rfl, HB, HK⟩ := hrel
    rcases hk with rfl | rfl | rfl
    · by_cases hlen : S.length ≤ 1000
      case neg =>
        have z1 : decide ((1000 : Int) < (S.length : Int)) = true := decide_eq_true (by omega)
        have z3 : decide ((S.length : Int) > 1000) = true := decide_eq_true (by omega)
        go_wp2
        go_ret
        have hf : okR = false := by
          cases q : okR with
          | false => rfl
          | true => exact absurd (HH.out.1 q).1.1 hlen
        exact ⟨by rw [hf]; rfl, HK1.out.trans (HB.out.mono HK1.out.size)⟩
      have z1 : decide ((1000 : Int) < (S.length : Int)) = false := by simp; omega
      have z2 : decide (1000 < S.length) = false := by simp; omega
      have z3 : decide ((S.length : Int) > 1000) = false := by simp; omega
      go_wp2
      go_loopw [2, 5, 6, 22] (fun _ _ _ i wr => ∃ j : Nat, j ≤ S.length ∧ i = .int .i64 (j : Int) ∧ Hid (Below W.heap.size W wr) ∧ Hid (Pre S j)) (fun _ _ _ i _ => S.length - (intOf i).toNat)
      case atStart => exact ⟨0, Nat.zero_le _, rfl, HB, Lib.hid (Pre.zero _)⟩
      case round =>
        clear HB
        obtain ⟨j, hj, rfl, HB, HP⟩ := hrel
        by_cases hlt : j < S.length
        · obtain ⟨g, o, rfl, c1, c2, c3⟩ := HXs.out j hlt
          have j0 : (0 : Int) ≤ (j : Int) := Int.natCast_nonneg _
          have j1 : (j : Int) < (S.length : Int) := by omega
          have y1 := cellB (cellB c1 K1.out) HB.out
          have y2 := cellB (cellB c2 K1.out) HB.out
          have y3 := cellB (cellB c3 K1.out) HB.out
          obtain ⟨u, hu⟩ : ∃ u, u = S[j] := ⟨_, rfl⟩
          rw [← hu] at y1 y2 y3
          have HU := Lib.hid hu
          clear c1 c2 c3 hu
          cases hux : okD u
          case false =>
            go_wp2_with fail
            obtain ⟨wl, rfl⟩ : ∃ wl, wl = wr := ⟨_, rfl⟩
            obtain ⟨wr, hwr⟩ : ∃ wr, wr = wl.alloc (.cells #[.int .i64 u.1, .int .i64 u.2.1, .int .i64 u.2.2] 27) := ⟨_, rfl⟩
            have q1 : Below wl.heap.size wl wr := by rw [hwr]; exact (Below.refl _ _).alloc (Nat.le_refl _) _
            have q2 : Bx wr wl.heap.size u := by rw [hwr]; exact alnew wl _
            rw [← hwr]
            have HB2 := Lib.hid (HB.out.trans (q1.mono HB.out.size))
            have Q2 := Lib.hid q2
            have HXx := Lib.hid hux
            clear hwr q1 q2 y1 y2 y3
            have HV : Hid (∀ w1, Below wr.heap.size wr w1 → Calls Tryd.prog 19 #[vd u] w1 fun e w' => e = .returned (.bool false) ∧ Below w1.heap.size w1 w') := Lib.hid fun w1 k => by
              have := validC u w1 (HG.out.below (HB2.out.trans (k.mono HB2.out.size)))
              rw [hux] at this
              exact this
            have HSS : Hid (∀ w', Below wr.heap.size wr w' → (w'.cell? ⟨wl.heap.size, 0, none⟩ = some (.int .i64 u.1) ∧ w'.cell? ⟨wl.heap.size, 1, none⟩ = some (.int .i64 u.2.1) ∧ w'.cell? ⟨wl.heap.size, 2, none⟩ = some (.int .i64 u.2.2))) := Lib.hid fun w' k => Q2.out.b3 k
            have hb0 : Below wr.heap.size wr wr.drew := (Below.refl _ _).drew
            clear hux
            refine start_ (n := 18) (S := fun w' => w'.cell? ⟨wl.heap.size, 0, none⟩ = some (.int .i64 u.1) ∧ w'.cell? ⟨wl.heap.size, 1, none⟩ = some (.int .i64 u.2.1) ∧ w'.cell? ⟨wl.heap.size, 2, none⟩ = some (.int .i64 u.2.2)) (ds := []) #[false, false, false, false, false, false, false, false, false, false, false, false, false, false, false, false, false, false] (by kernel_rfl) rfl rfl (HSS.out _ hb0) (fun hHeld => ?_); refine with_tab goodg_tab (fun HT_ => ?_)
            generalize wr.drew = w6 at hb0 hHeld ⊢
            refine take_ (i := 0) (N := some 27) (v := ?_) (a' := ?_) #[true, false, false, false, false, false, false, false, false, false, false, false, false, false, false, false, false, false] rfl rfl (take_of HT_.out (by kernel_rfl)) (fun _ _ _ h => h) (Or.inl ⟨by rfl, ?_⟩) hHeld ?_ ?_
            rotate_left
            · rintro w' ⟨s1, s2, s3⟩
              go_simp
              try with_reducible rfl
            rotate_left
            · simp only [Act.put, List.setIfInBounds_toArray, List.set_cons_zero, List.set_cons_succ]
              rfl
            refine one_ (i := 1) (N := some 28) #[true, true, false, false, false, false, false, false, false, false, false, false, false, false, false, false, false, false] rfl rfl (one_of HT_.out (by kernel_rfl)) (by decide) (fun K hK => ?_)
            refine goes_ Tryd.func19 (by kernel_rfl) rfl #[vd u] (by rfl) rfl rfl (by (try simp only [List.map_toArray, List.map_cons, List.map_nil]); first | done | rfl) ?_
            with_reducible refine (HV.out _ hb0).mono ?_
            rintro ev w20 ⟨rfl, hbc0⟩
            have hbc0' := hb0.trans (hbc0.mono hb0.size)
            refine ⟨_, rfl, ?_⟩
            refine hK.out _ _ (HSS.out _ hbc0') (fun hHeld => ?_)
            clear hK K
            refine norm_ (a' := ?_) ?_ ?_
            rotate_left
            · show Act.put _ (some 28) _ = _
              simp only [Act.put, List.setIfInBounds_toArray, List.set_cons_zero, List.set_cons_succ]
              rfl
            refine pure_ (i := 2) (N := some 29) (v := ?_) (a' := ?_) #[true, true, true, false, false, false, false, false, false, false, false, false, false, false, false, false, false, false] rfl rfl (any_of HT_.out (by kernel_rfl)) (fun _ _ _ h => h) (Or.inl ⟨by rfl, ?_⟩) ?_ ?_
            rotate_left
            · intro w'
              go_simp
              try with_reducible rfl
            rotate_left
            · simp only [Act.put, List.setIfInBounds_toArray, List.set_cons_zero, List.set_cons_succ]
              rfl
            refine pure_ (i := 3) (N := some 30) (v := ?_) (a' := ?_) #[true, true, true, true, false, false, false, false, false, false, false, false, false, false, false, false, false, false] rfl rfl (any_of HT_.out (by kernel_rfl)) (fun _ _ _ h => h) (Or.inl ⟨by rfl, ?_⟩) ?_ ?_
            rotate_left
            · intro w'
              go_simp
              try with_reducible rfl
            rotate_left
            · simp only [Act.put, List.setIfInBounds_toArray, List.set_cons_zero, List.set_cons_succ]
              rfl
            refine pure_ (i := 4) (N := some 31) (v := undef) (a' := ?_) #[true, true, true, true, true, false, false, false, false, false, false, false, false, false, false, false, false, false] rfl rfl (any_of HT_.out (by kernel_rfl)) (fun _ _ _ h => h) (Or.inr ⟨by rfl, rfl⟩) ?_ ?_
            rotate_left
            · simp only [Act.put, List.setIfInBounds_toArray, List.set_cons_zero, List.set_cons_succ]
              rfl
            refine pure_ (i := 5) (N := some 32) (v := undef) (a' := ?_) #[true, true, true, true, true, true, false, false, false, false, false, false, false, false, false, false, false, false] rfl rfl (any_of HT_.out (by kernel_rfl)) (fun _ _ _ h => h) (Or.inr ⟨by rfl, rfl⟩) ?_ ?_
            rotate_left
            · simp only [Act.put, List.setIfInBounds_toArray, List.set_cons_zero, List.set_cons_succ]
              rfl
            refine pure_ (i := 6) (N := some 33) (v := undef) (a' := ?_) #[true, true, true, true, true, true, true, false, false, false, false, false, false, false, false, false, false, false] rfl rfl (any_of HT_.out (by kernel_rfl)) (fun _ _ _ h => h) (Or.inr ⟨by rfl, rfl⟩) ?_ ?_
            rotate_left
            · simp only [Act.put, List.setIfInBounds_toArray, List.set_cons_zero, List.set_cons_succ]
              rfl
            refine pure_ (i := 7) (N := some 34) (v := undef) (a' := ?_) #[true, true, true, true, true, true, true, true, false, false, false, false, false, false, false, false, false, false] rfl rfl (any_of HT_.out (by kernel_rfl)) (fun _ _ _ h => h) (Or.inr ⟨by rfl, rfl⟩) ?_ ?_
            rotate_left
            · simp only [Act.put, List.setIfInBounds_toArray, List.set_cons_zero, List.set_cons_succ]
              rfl
            refine pure_ (i := 9) (N := some 36) (v := undef) (a' := ?_) #[true, true, true, true, true, true, true, true, false, true, false, false, false, false, false, false, false, false] rfl rfl (any_of HT_.out (by kernel_rfl)) (fun _ _ _ h => h) (Or.inr ⟨by rfl, rfl⟩) ?_ ?_
            rotate_left
            · simp only [Act.put, List.setIfInBounds_toArray, List.set_cons_zero, List.set_cons_succ]
              rfl
            refine pure_ (i := 10) (N := some 37) (v := undef) (a' := ?_) #[true, true, true, true, true, true, true, true, false, true, true, false, false, false, false, false, false, false] rfl rfl (any_of HT_.out (by kernel_rfl)) (fun _ _ _ h => h) (Or.inr ⟨by rfl, rfl⟩) ?_ ?_
            rotate_left
            · simp only [Act.put, List.setIfInBounds_toArray, List.set_cons_zero, List.set_cons_succ]
              rfl
            refine pure_ (i := 11) (N := some 38) (v := undef) (a' := ?_) #[true, true, true, true, true, true, true, true, false, true, true, true, false, false, false, false, false, false] rfl rfl (any_of HT_.out (by kernel_rfl)) (fun _ _ _ h => h) (Or.inr ⟨by rfl, rfl⟩) ?_ ?_
            rotate_left
            · simp only [Act.put, List.setIfInBounds_toArray, List.set_cons_zero, List.set_cons_succ]
              rfl
            refine pure_ (i := 12) (N := some 39) (v := undef) (a' := ?_) #[true, true, true, true, true, true, true, true, false, true, true, true, true, false, false, false, false, false] rfl rfl (any_of HT_.out (by kernel_rfl)) (fun _ _ _ h => h) (Or.inr ⟨by rfl, rfl⟩) ?_ ?_
            rotate_left
            · simp only [Act.put, List.setIfInBounds_toArray, List.set_cons_zero, List.set_cons_succ]
              rfl
            refine pure_ (i := 13) (N := some 40) (v := undef) (a' := ?_) #[true, true, true, true, true, true, true, true, false, true, true, true, true, true, false, false, false, false] rfl rfl (any_of HT_.out (by kernel_rfl)) (fun _ _ _ h => h) (Or.inr ⟨by rfl, rfl⟩) ?_ ?_
            rotate_left
            · simp only [Act.put, List.setIfInBounds_toArray, List.set_cons_zero, List.set_cons_succ]
              rfl
            refine one_ (i := 8) (N := some 35) #[true, true, true, true, true, true, true, true, true, true, true, true, true, true, false, false, false, false] rfl rfl (one_of HT_.out (by kernel_rfl)) (by decide) (fun K hK => ?_)
            refine off_ (by rfl) ?_
            refine hK.out _ _ hHeld (fun hHeld => ?_)
            clear hK K
            refine norm_ (a' := ?_) ?_ ?_
            rotate_left
            · show Act.put _ (some 35) _ = _
              simp only [Act.put, List.setIfInBounds_toArray, List.set_cons_zero, List.set_cons_succ]
              rfl
            refine one_ (i := 14) (N := some 41) #[true, true, true, true, true, true, true, true, true, true, true, true, true, true, true, false, false, false] rfl rfl (one_of HT_.out (by kernel_rfl)) (by decide) (fun K hK => ?_)
            refine off_ (by rfl) ?_
            refine hK.out _ _ hHeld (fun hHeld => ?_)
            clear hK K
            refine norm_ (a' := ?_) ?_ ?_
            rotate_left
            · show Act.put _ (some 41) _ = _
              simp only [Act.put, List.setIfInBounds_toArray, List.set_cons_zero, List.set_cons_succ]
              rfl
            refine pure_ (i := 15) (N := some 42) (v := undef) (a' := ?_) #[true, true, true, true, true, true, true, true, true, true, true, true, true, true, true, true, false, false] rfl rfl (any_of HT_.out (by kernel_rfl)) (fun _ _ _ h => h) (Or.inr ⟨by rfl, rfl⟩) ?_ ?_
            rotate_left
            · simp only [Act.put, List.setIfInBounds_toArray, List.set_cons_zero, List.set_cons_succ]
              rfl
            refine pure_ (i := 16) (N := some 43) (v := undef) (a' := ?_) #[true, true, true, true, true, true, true, true, true, true, true, true, true, true, true, true, true, false] rfl rfl (any_of HT_.out (by kernel_rfl)) (fun _ _ _ h => h) (Or.inr ⟨by rfl, rfl⟩) ?_ ?_
            rotate_left
            · simp only [Act.put, List.setIfInBounds_toArray, List.set_cons_zero, List.set_cons_succ]
              rfl
            refine pure_ (i := 17) (N := some 44) (v := ?_) (a' := ?_) #[true, true, true, true, true, true, true, true, true, true, true, true, true, true, true, true, true, true] rfl rfl (any_of HT_.out (by kernel_rfl)) (fun _ _ _ h => h) (Or.inl ⟨by rfl, ?_⟩) ?_ ?_
            rotate_left
            · intro w'
              go_simp
              try with_reducible rfl
            rotate_left
            · simp only [Act.put, List.setIfInBounds_toArray, List.set_cons_zero, List.set_cons_succ]
              rfl
            refine done_ (done_of HT_.out (by kernel_rfl)) ?_
            go_wp2_with fail
            go_ret
            have hf : okR = false := by
              cases q : okR with
              | false => rfl
              | true =>
                have := (HH.out.1 q).1.2.ok j hlt hlt
                rw [← HU.out, HXx.out] at this
                cases this
            exact ⟨by rw [hf]; rfl, HK1.out.trans ((HB2.out.trans (hbc0'.mono HB2.out.size)).mono HK1.out.size)⟩
          have HUx := Lib.hid hux
          clear hux
          by_cases hz : j = 0
          · subst hz
            simp only [Nat.zero_mul, Nat.add_zero] at y1 y2 y3
            go_wp2_with fail
            obtain ⟨wl, rfl⟩ : ∃ wl, wl = wr := ⟨_, rfl⟩
            obtain ⟨wr, hwr⟩ : ∃ wr, wr = wl.alloc (.cells #[.int .i64 u.1, .int .i64 u.2.1, .int .i64 u.2.2] 27) := ⟨_, rfl⟩
            have q1 : Below wl.heap.size wl wr := by rw [hwr]; exact (Below.refl _ _).alloc (Nat.le_refl _) _
            have q2 : Bx wr wl.heap.size u := by rw [hwr]; exact alnew wl _
            rw [← hwr]
            have HB2 := Lib.hid (HB.out.trans (q1.mono HB.out.size))
            have Q2 := Lib.hid q2
            clear hwr q1 q2 y1 y2 y3
            have HV : Hid (∀ w1, Below wr.heap.size wr w1 → Calls Tryd.prog 19 #[vd u] w1 fun e w' => e = .returned (.bool true) ∧ Below w1.heap.size w1 w') := Lib.hid fun w1 k => (by have := validC u w1 (HG.out.below (HB2.out.trans (k.mono HB2.out.size))); rw [HUx.out] at this; exact this)
            have HSS : Hid (∀ w', Below wr.heap.size wr w' → (w'.cell? ⟨wl.heap.size, 0, none⟩ = some (.int .i64 u.1) ∧ w'.cell? ⟨wl.heap.size, 1, none⟩ = some (.int .i64 u.2.1) ∧ w'.cell? ⟨wl.heap.size, 2, none⟩ = some (.int .i64 u.2.2))) := Lib.hid fun w' k => Q2.out.b3 k
            have hb0 : Below wr.heap.size wr wr.drew := (Below.refl _ _).drew
            refine start_ (n := 18) (S := fun w' => w'.cell? ⟨wl.heap.size, 0, none⟩ = some (.int .i64 u.1) ∧ w'.cell? ⟨wl.heap.size, 1, none⟩ = some (.int .i64 u.2.1) ∧ w'.cell? ⟨wl.heap.size, 2, none⟩ = some (.int .i64 u.2.2)) (ds := []) #[false, false, false, false, false, false, false, false, false, false, false, false, false, false, false, false, false, false] (by kernel_rfl) rfl rfl (HSS.out _ hb0) (fun hHeld => ?_); refine with_tab goodg_tab (fun HT_ => ?_)
            generalize wr.drew = w6 at hb0 hHeld ⊢
            refine take_ (i := 0) (N := some 27) (v := ?_) (a' := ?_) #[true, false, false, false, false, false, false, false, false, false, false, false, false, false, false, false, false, false] rfl rfl (take_of HT_.out (by kernel_rfl)) (fun _ _ _ h => h) (Or.inl ⟨by rfl, ?_⟩) hHeld ?_ ?_
            rotate_left
            · rintro w' ⟨s1, s2, s3⟩
              go_simp
              try with_reducible rfl
            rotate_left
            · simp only [Act.put, List.setIfInBounds_toArray, List.set_cons_zero, List.set_cons_succ]
              rfl
            refine one_ (i := 1) (N := some 28) #[true, true, false, false, false, false, false, false, false, false, false, false, false, false, false, false, false, false] rfl rfl (one_of HT_.out (by kernel_rfl)) (by decide) (fun K hK => ?_)
            refine goes_ Tryd.func19 (by kernel_rfl) rfl #[vd u] (by rfl) rfl rfl (by (try simp only [List.map_toArray, List.map_cons, List.map_nil]); first | done | rfl) ?_
            with_reducible refine (HV.out _ hb0).mono ?_
            rintro ev w20 ⟨rfl, hbc0⟩
            have hbc0' := hb0.trans (hbc0.mono hb0.size)
            refine ⟨_, rfl, ?_⟩
            refine hK.out _ _ (HSS.out _ hbc0') (fun hHeld => ?_)
            clear hK K
            refine norm_ (a' := ?_) ?_ ?_
            rotate_left
            · show Act.put _ (some 28) _ = _
              simp only [Act.put, List.setIfInBounds_toArray, List.set_cons_zero, List.set_cons_succ]
              rfl
            refine pure_ (i := 2) (N := some 29) (v := ?_) (a' := ?_) #[true, true, true, false, false, false, false, false, false, false, false, false, false, false, false, false, false, false] rfl rfl (any_of HT_.out (by kernel_rfl)) (fun _ _ _ h => h) (Or.inl ⟨by rfl, ?_⟩) ?_ ?_
            rotate_left
            · intro w'
              go_simp
              try with_reducible rfl
            rotate_left
            · simp only [Act.put, List.setIfInBounds_toArray, List.set_cons_zero, List.set_cons_succ]
              rfl
            refine pure_ (i := 3) (N := some 30) (v := ?_) (a' := ?_) #[true, true, true, true, false, false, false, false, false, false, false, false, false, false, false, false, false, false] rfl rfl (any_of HT_.out (by kernel_rfl)) (fun _ _ _ h => h) (Or.inl ⟨by rfl, ?_⟩) ?_ ?_
            rotate_left
            · intro w'
              go_simp
              try with_reducible rfl
            rotate_left
            · simp only [Act.put, List.setIfInBounds_toArray, List.set_cons_zero, List.set_cons_succ]
              rfl
            refine pure_ (i := 4) (N := some 31) (v := ?_) (a' := ?_) #[true, true, true, true, true, false, false, false, false, false, false, false, false, false, false, false, false, false] rfl rfl (any_of HT_.out (by kernel_rfl)) (fun _ _ _ h => h) (Or.inl ⟨by rfl, ?_⟩) ?_ ?_
            rotate_left
            · intro w'
              go_simp
              try with_reducible rfl
            rotate_left
            · simp only [Act.put, List.setIfInBounds_toArray, List.set_cons_zero, List.set_cons_succ]
              rfl
            refine pure_ (i := 5) (N := some 32) (v := ?_) (a' := ?_) #[true, true, true, true, true, true, false, false, false, false, false, false, false, false, false, false, false, false] rfl rfl (any_of HT_.out (by kernel_rfl)) (fun _ _ _ h => h) (Or.inl ⟨by rfl, ?_⟩) ?_ ?_
            rotate_left
            · intro w'
              go_simp
              try with_reducible rfl
            rotate_left
            · simp only [Act.put, List.setIfInBounds_toArray, List.set_cons_zero, List.set_cons_succ]
              rfl
            refine pure_ (i := 6) (N := some 33) (v := ?_) (a' := ?_) #[true, true, true, true, true, true, true, false, false, false, false, false, false, false, false, false, false, false] rfl rfl (any_of HT_.out (by kernel_rfl)) (fun _ _ _ h => h) (Or.inl ⟨by rfl, ?_⟩) ?_ ?_
            rotate_left
            · intro w'
              go_simp
              try with_reducible rfl
            rotate_left
            · simp only [Act.put, List.setIfInBounds_toArray, List.set_cons_zero, List.set_cons_succ]
              rfl
            refine pure_ (i := 7) (N := some 34) (v := undef) (a' := ?_) #[true, true, true, true, true, true, true, true, false, false, false, false, false, false, false, false, false, false] rfl rfl (any_of HT_.out (by kernel_rfl)) (fun _ _ _ h => h) (Or.inr ⟨by rfl, rfl⟩) ?_ ?_
            rotate_left
            · simp only [Act.put, List.setIfInBounds_toArray, List.set_cons_zero, List.set_cons_succ]
              rfl
            refine pure_ (i := 9) (N := some 36) (v := undef) (a' := ?_) #[true, true, true, true, true, true, true, true, false, true, false, false, false, false, false, false, false, false] rfl rfl (any_of HT_.out (by kernel_rfl)) (fun _ _ _ h => h) (Or.inr ⟨by rfl, rfl⟩) ?_ ?_
            rotate_left
            · simp only [Act.put, List.setIfInBounds_toArray, List.set_cons_zero, List.set_cons_succ]
              rfl
            refine pure_ (i := 10) (N := some 37) (v := undef) (a' := ?_) #[true, true, true, true, true, true, true, true, false, true, true, false, false, false, false, false, false, false] rfl rfl (any_of HT_.out (by kernel_rfl)) (fun _ _ _ h => h) (Or.inr ⟨by rfl, rfl⟩) ?_ ?_
            rotate_left
            · simp only [Act.put, List.setIfInBounds_toArray, List.set_cons_zero, List.set_cons_succ]
              rfl
            refine pure_ (i := 11) (N := some 38) (v := undef) (a' := ?_) #[true, true, true, true, true, true, true, true, false, true, true, true, false, false, false, false, false, false] rfl rfl (any_of HT_.out (by kernel_rfl)) (fun _ _ _ h => h) (Or.inr ⟨by rfl, rfl⟩) ?_ ?_
            rotate_left
            · simp only [Act.put, List.setIfInBounds_toArray, List.set_cons_zero, List.set_cons_succ]
              rfl
            refine pure_ (i := 12) (N := some 39) (v := undef) (a' := ?_) #[true, true, true, true, true, true, true, true, false, true, true, true, true, false, false, false, false, false] rfl rfl (any_of HT_.out (by kernel_rfl)) (fun _ _ _ h => h) (Or.inr ⟨by rfl, rfl⟩) ?_ ?_
            rotate_left
            · simp only [Act.put, List.setIfInBounds_toArray, List.set_cons_zero, List.set_cons_succ]
              rfl
            refine pure_ (i := 13) (N := some 40) (v := undef) (a' := ?_) #[true, true, true, true, true, true, true, true, false, true, true, true, true, true, false, false, false, false] rfl rfl (any_of HT_.out (by kernel_rfl)) (fun _ _ _ h => h) (Or.inr ⟨by rfl, rfl⟩) ?_ ?_
            rotate_left
            · simp only [Act.put, List.setIfInBounds_toArray, List.set_cons_zero, List.set_cons_succ]
              rfl
            refine one_ (i := 8) (N := some 35) #[true, true, true, true, true, true, true, true, true, true, true, true, true, true, false, false, false, false] rfl rfl (one_of HT_.out (by kernel_rfl)) (by decide) (fun K hK => ?_)
            refine off_ (by rfl) ?_
            refine hK.out _ _ hHeld (fun hHeld => ?_)
            clear hK K
            refine norm_ (a' := ?_) ?_ ?_
            rotate_left
            · show Act.put _ (some 35) _ = _
              simp only [Act.put, List.setIfInBounds_toArray, List.set_cons_zero, List.set_cons_succ]
              rfl
            refine one_ (i := 14) (N := some 41) #[true, true, true, true, true, true, true, true, true, true, true, true, true, true, true, false, false, false] rfl rfl (one_of HT_.out (by kernel_rfl)) (by decide) (fun K hK => ?_)
            refine off_ (by rfl) ?_
            refine hK.out _ _ hHeld (fun hHeld => ?_)
            clear hK K
            refine norm_ (a' := ?_) ?_ ?_
            rotate_left
            · show Act.put _ (some 41) _ = _
              simp only [Act.put, List.setIfInBounds_toArray, List.set_cons_zero, List.set_cons_succ]
              rfl
            refine pure_ (i := 15) (N := some 42) (v := undef) (a' := ?_) #[true, true, true, true, true, true, true, true, true, true, true, true, true, true, true, true, false, false] rfl rfl (any_of HT_.out (by kernel_rfl)) (fun _ _ _ h => h) (Or.inr ⟨by rfl, rfl⟩) ?_ ?_
            rotate_left
            · simp only [Act.put, List.setIfInBounds_toArray, List.set_cons_zero, List.set_cons_succ]
              rfl
            refine pure_ (i := 16) (N := some 43) (v := ?_) (a' := ?_) #[true, true, true, true, true, true, true, true, true, true, true, true, true, true, true, true, true, false] rfl rfl (any_of HT_.out (by kernel_rfl)) (fun _ _ _ h => h) (Or.inl ⟨by rfl, ?_⟩) ?_ ?_
            rotate_left
            · intro w'
              go_simp
              try with_reducible rfl
            rotate_left
            · simp only [Act.put, List.setIfInBounds_toArray, List.set_cons_zero, List.set_cons_succ]
              rfl
            refine pure_ (i := 17) (N := some 44) (v := ?_) (a' := ?_) #[true, true, true, true, true, true, true, true, true, true, true, true, true, true, true, true, true, true] rfl rfl (any_of HT_.out (by kernel_rfl)) (fun _ _ _ h => h) (Or.inl ⟨by rfl, ?_⟩) ?_ ?_
            rotate_left
            · intro w'
              go_simp
              try with_reducible rfl
            rotate_left
            · simp only [Act.put, List.setIfInBounds_toArray, List.set_cons_zero, List.set_cons_succ]
              rfl
            refine done_ (done_of HT_.out (by kernel_rfl)) ?_
            go_wp2_with fail
            go_roundw
            case rel => exact ⟨1, by omega, by go_num, Lib.hid (HB2.out.trans (hbc0'.mono HB2.out.size)), Lib.hid (HP.out.next hlt (by rw [← HU.out]; exact HUx.out) (fun p hp => absurd hp (by omega)))⟩
            case measure => simp [intOf]; omega
          · obtain ⟨p, rfl⟩ : ∃ p, j = p + 1 := ⟨j - 1, by omega⟩
            obtain ⟨g', o', e', c1, c2, c3⟩ := HXs.out p (by omega)
            obtain ⟨rfl, rfl⟩ : g = g' ∧ o = o' := by
              injection e' with e'
              injection e' with a b _
              exact ⟨a, b⟩
            obtain ⟨z, hz'⟩ : ∃ z, z = S[p] := ⟨_, rfl⟩
            rw [← hz'] at c1 c2 c3
            have hzx : okD z = true := by rw [hz']; exact HP.out.ok p (by omega) (by omega)
            have HZe := Lib.hid hz'
            have C1 := Lib.hid (cellB (cellB c1 K1.out) HB.out)
            have C2 := Lib.hid (cellB (cellB c2 K1.out) HB.out)
            have C3 := Lib.hid (cellB (cellB c3 K1.out) HB.out)
            have HZx := Lib.hid hzx
            have p0 : (0 : Int) ≤ (p : Int) := Int.natCast_nonneg _
            have hwp : IntKind.i64.wrap (p : Int) = (p : Int) := IntWalk.i64_in _ (by omega)
            have p1 : (p : Int) < (S.length : Int) := by omega
            clear c1 c2 c3 e' hz' hzx
            go_wp2_with fail
            obtain ⟨wl, rfl⟩ : ∃ wl, wl = wr := ⟨_, rfl⟩
            obtain ⟨wr, hwr⟩ : ∃ wr, wr = wl.alloc (.cells #[.int .i64 u.1, .int .i64 u.2.1, .int .i64 u.2.2] 27) := ⟨_, rfl⟩
            have q1 : Below wl.heap.size wl wr := by rw [hwr]; exact (Below.refl _ _).alloc (Nat.le_refl _) _
            have q2 : Bx wr wl.heap.size u := by rw [hwr]; exact alnew wl _
            rw [← hwr]
            have HB2 := Lib.hid (HB.out.trans (q1.mono HB.out.size))
            have Q2 := Lib.hid q2
            have D1 := Lib.hid (cellB C1.out q1)
            have D2 := Lib.hid (cellB C2.out q1)
            have D3' := Lib.hid (cellB C3.out q1)
            clear hwr q1 q2 y1 y2 y3
            have HV : Hid (∀ w1, Below wr.heap.size wr w1 → Calls Tryd.prog 19 #[vd u] w1 fun e w' => e = .returned (.bool true) ∧ Below w1.heap.size w1 w') := Lib.hid fun w1 k => (by have := validC u w1 (HG.out.below (HB2.out.trans (k.mono HB2.out.size))); rw [HUx.out] at this; exact this)
            have HN : Hid (∀ t, okD t = true → ∀ w1, Below wr.heap.size wr w1 → Calls Tryd.prog 20 #[vd t] w1 fun e w' => e = .returned (.int .i64 (nm t)) ∧ Below w1.heap.size w1 w') := Lib.hid fun t ht w1 k => number_r t ht w1 (HG.out.below (HB2.out.trans (k.mono HB2.out.size)))
            have HSS : Hid (∀ w', Below wr.heap.size wr w' → (w'.cell? ⟨wl.heap.size, 0, none⟩ = some (.int .i64 u.1) ∧ w'.cell? ⟨wl.heap.size, 1, none⟩ = some (.int .i64 u.2.1) ∧ w'.cell? ⟨wl.heap.size, 2, none⟩ = some (.int .i64 u.2.2) ∧ w'.cell? ⟨g, o + p * 3, none⟩ = some (.int .i64 z.1) ∧ w'.cell? ⟨g, o + p * 3 + 1, none⟩ = some (.int .i64 z.2.1) ∧ w'.cell? ⟨g, o + p * 3 + 2, none⟩ = some (.int .i64 z.2.2))) := Lib.hid fun w' k => ⟨(Q2.out.b3 k).1, (Q2.out.b3 k).2.1, (Q2.out.b3 k).2.2, cellB D1.out k, cellB D2.out k, cellB D3'.out k⟩
            have hb0 : Below wr.heap.size wr wr.drew := (Below.refl _ _).drew
            by_cases hzu : nm z < nm u
            · have hle : decide (nm u ≤ nm z) = false := by simp; omega
              refine start_ (n := 18) (S := fun w' => w'.cell? ⟨wl.heap.size, 0, none⟩ = some (.int .i64 u.1) ∧ w'.cell? ⟨wl.heap.size, 1, none⟩ = some (.int .i64 u.2.1) ∧ w'.cell? ⟨wl.heap.size, 2, none⟩ = some (.int .i64 u.2.2) ∧ w'.cell? ⟨g, o + p * 3, none⟩ = some (.int .i64 z.1) ∧ w'.cell? ⟨g, o + p * 3 + 1, none⟩ = some (.int .i64 z.2.1) ∧ w'.cell? ⟨g, o + p * 3 + 2, none⟩ = some (.int .i64 z.2.2)) (ds := []) #[false, false, false, false, false, false, false, false, false, false, false, false, false, false, false, false, false, false] (by kernel_rfl) rfl rfl (HSS.out _ hb0) (fun hHeld => ?_); refine with_tab goodg_tab (fun HT_ => ?_)
              generalize wr.drew = w6 at hb0 hHeld ⊢
              refine take_ (i := 0) (N := some 27) (v := ?_) (a' := ?_) #[true, false, false, false, false, false, false, false, false, false, false, false, false, false, false, false, false, false] rfl rfl (take_of HT_.out (by kernel_rfl)) (fun _ _ _ h => h) (Or.inl ⟨by rfl, ?_⟩) hHeld ?_ ?_
              rotate_left
              · rintro w' ⟨s1, s2, s3, s4, s5, s6⟩
                go_simp
                try with_reducible rfl
              rotate_left
              · simp only [Act.put, List.setIfInBounds_toArray, List.set_cons_zero, List.set_cons_succ]
                rfl
              refine one_ (i := 1) (N := some 28) #[true, true, false, false, false, false, false, false, false, false, false, false, false, false, false, false, false, false] rfl rfl (one_of HT_.out (by kernel_rfl)) (by decide) (fun K hK => ?_)
              refine goes_ Tryd.func19 (by kernel_rfl) rfl #[vd u] (by rfl) rfl rfl (by (try simp only [List.map_toArray, List.map_cons, List.map_nil]); first | done | rfl) ?_
              with_reducible refine (HV.out _ hb0).mono ?_
              rintro ev w20 ⟨rfl, hbc0⟩
              have hbc0' := hb0.trans (hbc0.mono hb0.size)
              refine ⟨_, rfl, ?_⟩
              refine hK.out _ _ (HSS.out _ hbc0') (fun hHeld => ?_)
              clear hK K
              refine norm_ (a' := ?_) ?_ ?_
              rotate_left
              · show Act.put _ (some 28) _ = _
                simp only [Act.put, List.setIfInBounds_toArray, List.set_cons_zero, List.set_cons_succ]
                rfl
              refine pure_ (i := 2) (N := some 29) (v := ?_) (a' := ?_) #[true, true, true, false, false, false, false, false, false, false, false, false, false, false, false, false, false, false] rfl rfl (any_of HT_.out (by kernel_rfl)) (fun _ _ _ h => h) (Or.inl ⟨by rfl, ?_⟩) ?_ ?_
              rotate_left
              · intro w'
                go_simp
                try with_reducible rfl
              rotate_left
              · simp only [Act.put, List.setIfInBounds_toArray, List.set_cons_zero, List.set_cons_succ]
                rfl
              refine pure_ (i := 3) (N := some 30) (v := ?_) (a' := ?_) #[true, true, true, true, false, false, false, false, false, false, false, false, false, false, false, false, false, false] rfl rfl (any_of HT_.out (by kernel_rfl)) (fun _ _ _ h => h) (Or.inl ⟨by rfl, ?_⟩) ?_ ?_
              rotate_left
              · intro w'
                go_simp
                try with_reducible rfl
              rotate_left
              · simp only [Act.put, List.setIfInBounds_toArray, List.set_cons_zero, List.set_cons_succ]
                rfl
              refine pure_ (i := 4) (N := some 31) (v := ?_) (a' := ?_) #[true, true, true, true, true, false, false, false, false, false, false, false, false, false, false, false, false, false] rfl rfl (any_of HT_.out (by kernel_rfl)) (fun _ _ _ h => h) (Or.inl ⟨by rfl, ?_⟩) ?_ ?_
              rotate_left
              · intro w'
                go_simp
                try with_reducible rfl
              rotate_left
              · simp only [Act.put, List.setIfInBounds_toArray, List.set_cons_zero, List.set_cons_succ]
                rfl
              refine pure_ (i := 5) (N := some 32) (v := ?_) (a' := ?_) #[true, true, true, true, true, true, false, false, false, false, false, false, false, false, false, false, false, false] rfl rfl (any_of HT_.out (by kernel_rfl)) (fun _ _ _ h => h) (Or.inl ⟨by rfl, ?_⟩) ?_ ?_
              rotate_left
              · intro w'
                go_simp
                try with_reducible rfl
              rotate_left
              · simp only [Act.put, List.setIfInBounds_toArray, List.set_cons_zero, List.set_cons_succ]
                rfl
              refine pure_ (i := 6) (N := some 33) (v := ?_) (a' := ?_) #[true, true, true, true, true, true, true, false, false, false, false, false, false, false, false, false, false, false] rfl rfl (any_of HT_.out (by kernel_rfl)) (fun _ _ _ h => h) (Or.inl ⟨by rfl, ?_⟩) ?_ ?_
              rotate_left
              · intro w'
                go_simp
                try with_reducible rfl
              rotate_left
              · simp only [Act.put, List.setIfInBounds_toArray, List.set_cons_zero, List.set_cons_succ]
                rfl
              refine take_ (i := 7) (N := some 34) (v := ?_) (a' := ?_) #[true, true, true, true, true, true, true, true, false, false, false, false, false, false, false, false, false, false] rfl rfl (take_of HT_.out (by kernel_rfl)) (fun _ _ _ h => h) (Or.inl ⟨by rfl, ?_⟩) hHeld ?_ ?_
              rotate_left
              · rintro w' ⟨s1, s2, s3, s4, s5, s6⟩
                go_simp
                try with_reducible rfl
              rotate_left
              · simp only [Act.put, List.setIfInBounds_toArray, List.set_cons_zero, List.set_cons_succ]
                rfl
              refine pure_ (i := 9) (N := some 36) (v := ?_) (a' := ?_) #[true, true, true, true, true, true, true, true, false, true, false, false, false, false, false, false, false, false] rfl rfl (any_of HT_.out (by kernel_rfl)) (fun _ _ _ h => h) (Or.inl ⟨by rfl, ?_⟩) ?_ ?_
              rotate_left
              · intro w'
                go_simp
                try with_reducible rfl
              rotate_left
              · simp only [Act.put, List.setIfInBounds_toArray, List.set_cons_zero, List.set_cons_succ]
                rfl
              refine pure_ (i := 10) (N := some 37) (v := ?_) (a' := ?_) #[true, true, true, true, true, true, true, true, false, true, true, false, false, false, false, false, false, false] rfl rfl (any_of HT_.out (by kernel_rfl)) (fun _ _ _ h => h) (Or.inl ⟨by rfl, ?_⟩) ?_ ?_
              rotate_left
              · intro w'
                go_simp
                try with_reducible rfl
              rotate_left
              · simp only [Act.put, List.setIfInBounds_toArray, List.set_cons_zero, List.set_cons_succ]
                rfl
              refine pure_ (i := 11) (N := some 38) (v := ?_) (a' := ?_) #[true, true, true, true, true, true, true, true, false, true, true, true, false, false, false, false, false, false] rfl rfl (any_of HT_.out (by kernel_rfl)) (fun _ _ _ h => h) (Or.inl ⟨by rfl, ?_⟩) ?_ ?_
              rotate_left
              · intro w'
                go_simp
                (try (rw [hwp]; go_simp))
                try with_reducible rfl
              rotate_left
              · simp only [Act.put, List.setIfInBounds_toArray, List.set_cons_zero, List.set_cons_succ]
                rfl
              refine pure_ (i := 12) (N := some 39) (v := ?_) (a' := ?_) #[true, true, true, true, true, true, true, true, false, true, true, true, true, false, false, false, false, false] rfl rfl (any_of HT_.out (by kernel_rfl)) (fun _ _ _ h => h) (Or.inl ⟨by rfl, ?_⟩) ?_ ?_
              rotate_left
              · intro w'
                go_simp
                (try (simp only [hwp]; rw [if_pos ⟨p0, p1⟩])); (try go_simp)
                try with_reducible rfl
              rotate_left
              · simp only [Act.put, List.setIfInBounds_toArray, List.set_cons_zero, List.set_cons_succ]
                rfl
              refine take_ (i := 13) (N := some 40) (v := ?_) (a' := ?_) #[true, true, true, true, true, true, true, true, false, true, true, true, true, true, false, false, false, false] rfl rfl (take_of HT_.out (by kernel_rfl)) (fun _ _ _ h => h) (Or.inl ⟨by rfl, ?_⟩) hHeld ?_ ?_
              rotate_left
              · rintro w' ⟨s1, s2, s3, s4, s5, s6⟩
                go_simp
                try with_reducible rfl
              rotate_left
              · simp only [Act.put, List.setIfInBounds_toArray, List.set_cons_zero, List.set_cons_succ]
                rfl
              refine one_ (i := 8) (N := some 35) #[true, true, true, true, true, true, true, true, true, true, true, true, true, true, false, false, false, false] rfl rfl (one_of HT_.out (by kernel_rfl)) (by decide) (fun K hK => ?_)
              refine goes_ Tryd.func20 (by kernel_rfl) rfl #[vd u] (by rfl) rfl rfl (by (try simp only [List.map_toArray, List.map_cons, List.map_nil]); first | done | rfl) ?_
              with_reducible refine (HN.out u HUx.out _ hbc0').mono ?_
              rintro ev w21 ⟨rfl, hbc1⟩
              have hbc1' := hbc0'.trans (hbc1.mono hbc0'.size)
              refine ⟨_, rfl, ?_⟩
              refine hK.out _ _ (HSS.out _ hbc1') (fun hHeld => ?_)
              clear hK K
              refine norm_ (a' := ?_) ?_ ?_
              rotate_left
              · show Act.put _ (some 35) _ = _
                simp only [Act.put, List.setIfInBounds_toArray, List.set_cons_zero, List.set_cons_succ]
                rfl
              refine one_ (i := 14) (N := some 41) #[true, true, true, true, true, true, true, true, true, true, true, true, true, true, true, false, false, false] rfl rfl (one_of HT_.out (by kernel_rfl)) (by decide) (fun K hK => ?_)
              refine goes_ Tryd.func20 (by kernel_rfl) rfl #[vd z] (by rfl) rfl rfl (by (try simp only [List.map_toArray, List.map_cons, List.map_nil]); first | done | rfl) ?_
              with_reducible refine (HN.out z HZx.out _ hbc1').mono ?_
              rintro ev w22 ⟨rfl, hbc2⟩
              have hbc2' := hbc1'.trans (hbc2.mono hbc1'.size)
              refine ⟨_, rfl, ?_⟩
              refine hK.out _ _ (HSS.out _ hbc2') (fun hHeld => ?_)
              clear hK K
              refine norm_ (a' := ?_) ?_ ?_
              rotate_left
              · show Act.put _ (some 41) _ = _
                simp only [Act.put, List.setIfInBounds_toArray, List.set_cons_zero, List.set_cons_succ]
                rfl
              refine pure_ (i := 15) (N := some 42) (v := ?_) (a' := ?_) #[true, true, true, true, true, true, true, true, true, true, true, true, true, true, true, true, false, false] rfl rfl (any_of HT_.out (by kernel_rfl)) (fun _ _ _ h => h) (Or.inl ⟨by rfl, ?_⟩) ?_ ?_
              rotate_left
              · intro w'
                go_simp
                try with_reducible rfl
              rotate_left
              · simp only [Act.put, List.setIfInBounds_toArray, List.set_cons_zero, List.set_cons_succ]
                rfl
              refine pure_ (i := 16) (N := some 43) (v := ?_) (a' := ?_) #[true, true, true, true, true, true, true, true, true, true, true, true, true, true, true, true, true, false] rfl rfl (any_of HT_.out (by kernel_rfl)) (fun _ _ _ h => h) (Or.inl ⟨by rfl, ?_⟩) ?_ ?_
              rotate_left
              · intro w'
                go_simp
                try with_reducible rfl
              rotate_left
              · simp only [Act.put, List.setIfInBounds_toArray, List.set_cons_zero, List.set_cons_succ]
                rfl
              refine pure_ (i := 17) (N := some 44) (v := ?_) (a' := ?_) #[true, true, true, true, true, true, true, true, true, true, true, true, true, true, true, true, true, true] rfl rfl (any_of HT_.out (by kernel_rfl)) (fun _ _ _ h => h) (Or.inl ⟨by rfl, ?_⟩) ?_ ?_
              rotate_left
              · intro w'
                go_simp
                try with_reducible rfl
              rotate_left
              · simp only [Act.put, List.setIfInBounds_toArray, List.set_cons_zero, List.set_cons_succ]
                rfl
              refine done_ (done_of HT_.out (by kernel_rfl)) ?_
              go_wp2_with fail
              go_roundw
              case rel =>
                refine ⟨p + 1 + 1, by omega, by go_num, Lib.hid (HB2.out.trans (hbc2'.mono HB2.out.size)), Lib.hid (HP.out.next hlt (by rw [← HU.out]; exact HUx.out) (fun p' hp => ?_))⟩
                obtain rfl : p' = p := by omega
                rw [← HU.out, ← HZe.out]
                exact hzu
              case measure => simp [intOf]; omega
            · have hle : decide (nm u ≤ nm z) = true := decide_eq_true (by omega)
              refine start_ (n := 18) (S := fun w' => w'.cell? ⟨wl.heap.size, 0, none⟩ = some (.int .i64 u.1) ∧ w'.cell? ⟨wl.heap.size, 1, none⟩ = some (.int .i64 u.2.1) ∧ w'.cell? ⟨wl.heap.size, 2, none⟩ = some (.int .i64 u.2.2) ∧ w'.cell? ⟨g, o + p * 3, none⟩ = some (.int .i64 z.1) ∧ w'.cell? ⟨g, o + p * 3 + 1, none⟩ = some (.int .i64 z.2.1) ∧ w'.cell? ⟨g, o + p * 3 + 2, none⟩ = some (.int .i64 z.2.2)) (ds := []) #[false, false, false, false, false, false, false, false, false, false, false, false, false, false, false, false, false, false] (by kernel_rfl) rfl rfl (HSS.out _ hb0) (fun hHeld => ?_); refine with_tab goodg_tab (fun HT_ => ?_)
              generalize wr.drew = w6 at hb0 hHeld ⊢
              refine take_ (i := 0) (N := some 27) (v := ?_) (a' := ?_) #[true, false, false, false, false, false, false, false, false, false, false, false, false, false, false, false, false, false] rfl rfl (take_of HT_.out (by kernel_rfl)) (fun _ _ _ h => h) (Or.inl ⟨by rfl, ?_⟩) hHeld ?_ ?_
              rotate_left
              · rintro w' ⟨s1, s2, s3, s4, s5, s6⟩
                go_simp
                try with_reducible rfl
              rotate_left
              · simp only [Act.put, List.setIfInBounds_toArray, List.set_cons_zero, List.set_cons_succ]
                rfl
              refine one_ (i := 1) (N := some 28) #[true, true, false, false, false, false, false, false, false, false, false, false, false, false, false, false, false, false] rfl rfl (one_of HT_.out (by kernel_rfl)) (by decide) (fun K hK => ?_)
              refine goes_ Tryd.func19 (by kernel_rfl) rfl #[vd u] (by rfl) rfl rfl (by (try simp only [List.map_toArray, List.map_cons, List.map_nil]); first | done | rfl) ?_
              with_reducible refine (HV.out _ hb0).mono ?_
              rintro ev w20 ⟨rfl, hbc0⟩
              have hbc0' := hb0.trans (hbc0.mono hb0.size)
              refine ⟨_, rfl, ?_⟩
              refine hK.out _ _ (HSS.out _ hbc0') (fun hHeld => ?_)
              clear hK K
              refine norm_ (a' := ?_) ?_ ?_
              rotate_left
              · show Act.put _ (some 28) _ = _
                simp only [Act.put, List.setIfInBounds_toArray, List.set_cons_zero, List.set_cons_succ]
                rfl
              refine pure_ (i := 2) (N := some 29) (v := ?_) (a' := ?_) #[true, true, true, false, false, false, false, false, false, false, false, false, false, false, false, false, false, false] rfl rfl (any_of HT_.out (by kernel_rfl)) (fun _ _ _ h => h) (Or.inl ⟨by rfl, ?_⟩) ?_ ?_
              rotate_left
              · intro w'
                go_simp
                try with_reducible rfl
              rotate_left
              · simp only [Act.put, List.setIfInBounds_toArray, List.set_cons_zero, List.set_cons_succ]
                rfl
              refine pure_ (i := 3) (N := some 30) (v := ?_) (a' := ?_) #[true, true, true, true, false, false, false, false, false, false, false, false, false, false, false, false, false, false] rfl rfl (any_of HT_.out (by kernel_rfl)) (fun _ _ _ h => h) (Or.inl ⟨by rfl, ?_⟩) ?_ ?_
              rotate_left
              · intro w'
                go_simp
                try with_reducible rfl
              rotate_left
              · simp only [Act.put, List.setIfInBounds_toArray, List.set_cons_zero, List.set_cons_succ]
                rfl
              refine pure_ (i := 4) (N := some 31) (v := ?_) (a' := ?_) #[true, true, true, true, true, false, false, false, false, false, false, false, false, false, false, false, false, false] rfl rfl (any_of HT_.out (by kernel_rfl)) (fun _ _ _ h => h) (Or.inl ⟨by rfl, ?_⟩) ?_ ?_
              rotate_left
              · intro w'
                go_simp
                try with_reducible rfl
              rotate_left
              · simp only [Act.put, List.setIfInBounds_toArray, List.set_cons_zero, List.set_cons_succ]
                rfl
              refine pure_ (i := 5) (N := some 32) (v := ?_) (a' := ?_) #[true, true, true, true, true, true, false, false, false, false, false, false, false, false, false, false, false, false] rfl rfl (any_of HT_.out (by kernel_rfl)) (fun _ _ _ h => h) (Or.inl ⟨by rfl, ?_⟩) ?_ ?_
              rotate_left
              · intro w'
                go_simp
                try with_reducible rfl
              rotate_left
              · simp only [Act.put, List.setIfInBounds_toArray, List.set_cons_zero, List.set_cons_succ]
                rfl
              refine pure_ (i := 6) (N := some 33) (v := ?_) (a' := ?_) #[true, true, true, true, true, true, true, false, false, false, false, false, false, false, false, false, false, false] rfl rfl (any_of HT_.out (by kernel_rfl)) (fun _ _ _ h => h) (Or.inl ⟨by rfl, ?_⟩) ?_ ?_
              rotate_left
              · intro w'
                go_simp
                try with_reducible rfl
              rotate_left
              · simp only [Act.put, List.setIfInBounds_toArray, List.set_cons_zero, List.set_cons_succ]
                rfl
              refine take_ (i := 7) (N := some 34) (v := ?_) (a' := ?_) #[true, true, true, true, true, true, true, true, false, false, false, false, false, false, false, false, false, false] rfl rfl (take_of HT_.out (by kernel_rfl)) (fun _ _ _ h => h) (Or.inl ⟨by rfl, ?_⟩) hHeld ?_ ?_
              rotate_left
              · rintro w' ⟨s1, s2, s3, s4, s5, s6⟩
                go_simp
                try with_reducible rfl
              rotate_left
              · simp only [Act.put, List.setIfInBounds_toArray, List.set_cons_zero, List.set_cons_succ]
                rfl
              refine pure_ (i := 9) (N := some 36) (v := ?_) (a' := ?_) #[true, true, true, true, true, true, true, true, false, true, false, false, false, false, false, false, false, false] rfl rfl (any_of HT_.out (by kernel_rfl)) (fun _ _ _ h => h) (Or.inl ⟨by rfl, ?_⟩) ?_ ?_
              rotate_left
              · intro w'
                go_simp
                try with_reducible rfl
              rotate_left
              · simp only [Act.put, List.setIfInBounds_toArray, List.set_cons_zero, List.set_cons_succ]
                rfl
              refine pure_ (i := 10) (N := some 37) (v := ?_) (a' := ?_) #[true, true, true, true, true, true, true, true, false, true, true, false, false, false, false, false, false, false] rfl rfl (any_of HT_.out (by kernel_rfl)) (fun _ _ _ h => h) (Or.inl ⟨by rfl, ?_⟩) ?_ ?_
              rotate_left
              · intro w'
                go_simp
                try with_reducible rfl
              rotate_left
              · simp only [Act.put, List.setIfInBounds_toArray, List.set_cons_zero, List.set_cons_succ]
                rfl
              refine pure_ (i := 11) (N := some 38) (v := ?_) (a' := ?_) #[true, true, true, true, true, true, true, true, false, true, true, true, false, false, false, false, false, false] rfl rfl (any_of HT_.out (by kernel_rfl)) (fun _ _ _ h => h) (Or.inl ⟨by rfl, ?_⟩) ?_ ?_
              rotate_left
              · intro w'
                go_simp
                (try (rw [hwp]; go_simp))
                try with_reducible rfl
              rotate_left
              · simp only [Act.put, List.setIfInBounds_toArray, List.set_cons_zero, List.set_cons_succ]
                rfl
              refine pure_ (i := 12) (N := some 39) (v := ?_) (a' := ?_) #[true, true, true, true, true, true, true, true, false, true, true, true, true, false, false, false, false, false] rfl rfl (any_of HT_.out (by kernel_rfl)) (fun _ _ _ h => h) (Or.inl ⟨by rfl, ?_⟩) ?_ ?_
              rotate_left
              · intro w'
                go_simp
                (try (simp only [hwp]; rw [if_pos ⟨p0, p1⟩])); (try go_simp)
                try with_reducible rfl
              rotate_left
              · simp only [Act.put, List.setIfInBounds_toArray, List.set_cons_zero, List.set_cons_succ]
                rfl
              refine take_ (i := 13) (N := some 40) (v := ?_) (a' := ?_) #[true, true, true, true, true, true, true, true, false, true, true, true, true, true, false, false, false, false] rfl rfl (take_of HT_.out (by kernel_rfl)) (fun _ _ _ h => h) (Or.inl ⟨by rfl, ?_⟩) hHeld ?_ ?_
              rotate_left
              · rintro w' ⟨s1, s2, s3, s4, s5, s6⟩
                go_simp
                try with_reducible rfl
              rotate_left
              · simp only [Act.put, List.setIfInBounds_toArray, List.set_cons_zero, List.set_cons_succ]
                rfl
              refine one_ (i := 8) (N := some 35) #[true, true, true, true, true, true, true, true, true, true, true, true, true, true, false, false, false, false] rfl rfl (one_of HT_.out (by kernel_rfl)) (by decide) (fun K hK => ?_)
              refine goes_ Tryd.func20 (by kernel_rfl) rfl #[vd u] (by rfl) rfl rfl (by (try simp only [List.map_toArray, List.map_cons, List.map_nil]); first | done | rfl) ?_
              with_reducible refine (HN.out u HUx.out _ hbc0').mono ?_
              rintro ev w21 ⟨rfl, hbc1⟩
              have hbc1' := hbc0'.trans (hbc1.mono hbc0'.size)
              refine ⟨_, rfl, ?_⟩
              refine hK.out _ _ (HSS.out _ hbc1') (fun hHeld => ?_)
              clear hK K
              refine norm_ (a' := ?_) ?_ ?_
              rotate_left
              · show Act.put _ (some 35) _ = _
                simp only [Act.put, List.setIfInBounds_toArray, List.set_cons_zero, List.set_cons_succ]
                rfl
              refine one_ (i := 14) (N := some 41) #[true, true, true, true, true, true, true, true, true, true, true, true, true, true, true, false, false, false] rfl rfl (one_of HT_.out (by kernel_rfl)) (by decide) (fun K hK => ?_)
              refine goes_ Tryd.func20 (by kernel_rfl) rfl #[vd z] (by rfl) rfl rfl (by (try simp only [List.map_toArray, List.map_cons, List.map_nil]); first | done | rfl) ?_
              with_reducible refine (HN.out z HZx.out _ hbc1').mono ?_
              rintro ev w22 ⟨rfl, hbc2⟩
              have hbc2' := hbc1'.trans (hbc2.mono hbc1'.size)
              refine ⟨_, rfl, ?_⟩
              refine hK.out _ _ (HSS.out _ hbc2') (fun hHeld => ?_)
              clear hK K
              refine norm_ (a' := ?_) ?_ ?_
              rotate_left
              · show Act.put _ (some 41) _ = _
                simp only [Act.put, List.setIfInBounds_toArray, List.set_cons_zero, List.set_cons_succ]
                rfl
              refine pure_ (i := 15) (N := some 42) (v := ?_) (a' := ?_) #[true, true, true, true, true, true, true, true, true, true, true, true, true, true, true, true, false, false] rfl rfl (any_of HT_.out (by kernel_rfl)) (fun _ _ _ h => h) (Or.inl ⟨by rfl, ?_⟩) ?_ ?_
              rotate_left
              · intro w'
                go_simp
                try with_reducible rfl
              rotate_left
              · simp only [Act.put, List.setIfInBounds_toArray, List.set_cons_zero, List.set_cons_succ]
                rfl
              refine pure_ (i := 16) (N := some 43) (v := ?_) (a' := ?_) #[true, true, true, true, true, true, true, true, true, true, true, true, true, true, true, true, true, false] rfl rfl (any_of HT_.out (by kernel_rfl)) (fun _ _ _ h => h) (Or.inl ⟨by rfl, ?_⟩) ?_ ?_
              rotate_left
              · intro w'
                go_simp
                try with_reducible rfl
              rotate_left
              · simp only [Act.put, List.setIfInBounds_toArray, List.set_cons_zero, List.set_cons_succ]
                rfl
              refine pure_ (i := 17) (N := some 44) (v := ?_) (a' := ?_) #[true, true, true, true, true, true, true, true, true, true, true, true, true, true, true, true, true, true] rfl rfl (any_of HT_.out (by kernel_rfl)) (fun _ _ _ h => h) (Or.inl ⟨by rfl, ?_⟩) ?_ ?_
              rotate_left
              · intro w'
                go_simp
                try with_reducible rfl
              rotate_left
              · simp only [Act.put, List.setIfInBounds_toArray, List.set_cons_zero, List.set_cons_succ]
                rfl
              refine done_ (done_of HT_.out (by kernel_rfl)) ?_
              go_wp2_with fail
              go_ret
              have hf : okR = false := by
                cases q : okR with
                | false => rfl
                | true =>
                  have := (HH.out.1 q).1.2.up p hlt hlt
                  rw [← HU.out, ← HZe.out] at this
                  exact absurd this (by omega)
              exact ⟨by rw [hf]; rfl, HK1.out.trans ((HB2.out.trans (hbc2'.mono HB2.out.size)).mono HK1.out.size)⟩
        · obtain rfl : S.length = j := by omega
          clear hlt hj
          go_wp2
          go_roundw
          case rel => exact ⟨1, by omega, by go_num, HB, Lib.hid ⟨fun _ => ⟨hlen, HP.out⟩, fun h => absurd h (by omega)⟩⟩
          case measure => simp [intOf]
    · by_cases hlen : E.length ≤ 1000
      case neg =>
        have z1 : decide ((1000 : Int) < (E.length : Int)) = true := decide_eq_true (by omega)
        have z3 : decide ((E.length : Int) > 1000) = true := decide_eq_true (by omega)
        go_wp2
        go_ret
        have hf : okR = false := by
          cases q : okR with
          | false => rfl
          | true => exact absurd (HH.out.1 q).2.1.1 hlen
        exact ⟨by rw [hf]; rfl, HK1.out.trans (HB.out.mono HK1.out.size)⟩
      have z1 : decide ((1000 : Int) < (E.length : Int)) = false := by simp; omega
      have z2 : decide (1000 < E.length) = false := by simp; omega
      have z3 : decide ((E.length : Int) > 1000) = false := by simp; omega
      go_wp2
      go_loopw [2, 5, 6, 22] (fun _ _ _ i wr => ∃ j : Nat, j ≤ E.length ∧ i = .int .i64 (j : Int) ∧ Hid (Below W.heap.size W wr) ∧ Hid (Pre E j)) (fun _ _ _ i _ => E.length - (intOf i).toNat)
      case atStart => exact ⟨0, Nat.zero_le _, rfl, HB, Lib.hid (Pre.zero _)⟩
      case round =>
        clear HB
        obtain ⟨j, hj, rfl, HB, HP⟩ := hrel
        by_cases hlt : j < E.length
        · obtain ⟨g, o, rfl, c1, c2, c3⟩ := HXe.out j hlt
          have j0 : (0 : Int) ≤ (j : Int) := Int.natCast_nonneg _
          have j1 : (j : Int) < (E.length : Int) := by omega
          have y1 := cellB (cellB c1 K1.out) HB.out
          have y2 := cellB (cellB c2 K1.out) HB.out
          have y3 := cellB (cellB c3 K1.out) HB.out
          obtain ⟨u, hu⟩ : ∃ u, u = E[j] := ⟨_, rfl⟩
          rw [← hu] at y1 y2 y3
          have HU := Lib.hid hu
          clear c1 c2 c3 hu
          cases hux : okD u
          case false =>
            go_wp2_with fail
            obtain ⟨wl, rfl⟩ : ∃ wl, wl = wr := ⟨_, rfl⟩
            obtain ⟨wr, hwr⟩ : ∃ wr, wr = wl.alloc (.cells #[.int .i64 u.1, .int .i64 u.2.1, .int .i64 u.2.2] 27) := ⟨_, rfl⟩
            have q1 : Below wl.heap.size wl wr := by rw [hwr]; exact (Below.refl _ _).alloc (Nat.le_refl _) _
            have q2 : Bx wr wl.heap.size u := by rw [hwr]; exact alnew wl _
            rw [← hwr]
            have HB2 := Lib.hid (HB.out.trans (q1.mono HB.out.size))
            have Q2 := Lib.hid q2
            have HXx := Lib.hid hux
            clear hwr q1 q2 y1 y2 y3
            have HV : Hid (∀ w1, Below wr.heap.size wr w1 → Calls Tryd.prog 19 #[vd u] w1 fun e w' => e = .returned (.bool false) ∧ Below w1.heap.size w1 w') := Lib.hid fun w1 k => by
              have := validC u w1 (HG.out.below (HB2.out.trans (k.mono HB2.out.size)))
              rw [hux] at this
              exact this
            have HSS : Hid (∀ w', Below wr.heap.size wr w' → (w'.cell? ⟨wl.heap.size, 0, none⟩ = some (.int .i64 u.1) ∧ w'.cell? ⟨wl.heap.size, 1, none⟩ = some (.int .i64 u.2.1) ∧ w'.cell? ⟨wl.heap.size, 2, none⟩ = some (.int .i64 u.2.2))) := Lib.hid fun w' k => Q2.out.b3 k
            have hb0 : Below wr.heap.size wr wr.drew := (Below.refl _ _).drew
            clear hux
            refine start_ (n := 18) (S := fun w' => w'.cell? ⟨wl.heap.size, 0, none⟩ = some (.int .i64 u.1) ∧ w'.cell? ⟨wl.heap.size, 1, none⟩ = some (.int .i64 u.2.1) ∧ w'.cell? ⟨wl.heap.size, 2, none⟩ = some (.int .i64 u.2.2)) (ds := []) #[false, false, false, false, false, false, false, false, false, false, false, false, false, false, false, false, false, false] (by kernel_rfl) rfl rfl (HSS.out _ hb0) (fun hHeld => ?_); refine with_tab goodg_tab (fun HT_ => ?_)
            generalize wr.drew = w6 at hb0 hHeld ⊢
            refine take_ (i := 0) (N := some 27) (v := ?_) (a' := ?_) #[true, false, false, false, false, false, false, false, false, false, false, false, false, false, false, false, false, false] rfl rfl (take_of HT_.out (by kernel_rfl)) (fun _ _ _ h => h) (Or.inl ⟨by rfl, ?_⟩) hHeld ?_ ?_
            rotate_left
            · rintro w' ⟨s1, s2, s3⟩
              go_simp
              try with_reducible rfl
            rotate_left
            · simp only [Act.put, List.setIfInBounds_toArray, List.set_cons_zero, List.set_cons_succ]
              rfl
            refine one_ (i := 1) (N := some 28) #[true, true, false, false, false, false, false, false, false, false, false, false, false, false, false, false, false, false] rfl rfl (one_of HT_.out (by kernel_rfl)) (by decide) (fun K hK => ?_)
            refine goes_ Tryd.func19 (by kernel_rfl) rfl #[vd u] (by rfl) rfl rfl (by (try simp only [List.map_toArray, List.map_cons, List.map_nil]); first | done | rfl) ?_
            with_reducible refine (HV.out _ hb0).mono ?_
            rintro ev w20 ⟨rfl, hbc0⟩
            have hbc0' := hb0.trans (hbc0.mono hb0.size)
            refine ⟨_, rfl, ?_⟩
            refine hK.out _ _ (HSS.out _ hbc0') (fun hHeld => ?_)
            clear hK K
            refine norm_ (a' := ?_) ?_ ?_
            rotate_left
            · show Act.put _ (some 28) _ = _
              simp only [Act.put, List.setIfInBounds_toArray, List.set_cons_zero, List.set_cons_succ]
              rfl
            refine pure_ (i := 2) (N := some 29) (v := ?_) (a' := ?_) #[true, true, true, false, false, false, false, false, false, false, false, false, false, false, false, false, false, false] rfl rfl (any_of HT_.out (by kernel_rfl)) (fun _ _ _ h => h) (Or.inl ⟨by rfl, ?_⟩) ?_ ?_
            rotate_left
            · intro w'
              go_simp
              try with_reducible rfl
            rotate_left
            · simp only [Act.put, List.setIfInBounds_toArray, List.set_cons_zero, List.set_cons_succ]
              rfl
            refine pure_ (i := 3) (N := some 30) (v := ?_) (a' := ?_) #[true, true, true, true, false, false, false, false, false, false, false, false, false, false, false, false, false, false] rfl rfl (any_of HT_.out (by kernel_rfl)) (fun _ _ _ h => h) (Or.inl ⟨by rfl, ?_⟩) ?_ ?_
            rotate_left
            · intro w'
              go_simp
              try with_reducible rfl
            rotate_left
            · simp only [Act.put, List.setIfInBounds_toArray, List.set_cons_zero, List.set_cons_succ]
              rfl
            refine pure_ (i := 4) (N := some 31) (v := undef) (a' := ?_) #[true, true, true, true, true, false, false, false, false, false, false, false, false, false, false, false, false, false] rfl rfl (any_of HT_.out (by kernel_rfl)) (fun _ _ _ h => h) (Or.inr ⟨by rfl, rfl⟩) ?_ ?_
            rotate_left
            · simp only [Act.put, List.setIfInBounds_toArray, List.set_cons_zero, List.set_cons_succ]
              rfl
            refine pure_ (i := 5) (N := some 32) (v := undef) (a' := ?_) #[true, true, true, true, true, true, false, false, false, false, false, false, false, false, false, false, false, false] rfl rfl (any_of HT_.out (by kernel_rfl)) (fun _ _ _ h => h) (Or.inr ⟨by rfl, rfl⟩) ?_ ?_
            rotate_left
            · simp only [Act.put, List.setIfInBounds_toArray, List.set_cons_zero, List.set_cons_succ]
              rfl
            refine pure_ (i := 6) (N := some 33) (v := undef) (a' := ?_) #[true, true, true, true, true, true, true, false, false, false, false, false, false, false, false, false, false, false] rfl rfl (any_of HT_.out (by kernel_rfl)) (fun _ _ _ h => h) (Or.inr ⟨by rfl, rfl⟩) ?_ ?_
            rotate_left
            · simp only [Act.put, List.setIfInBounds_toArray, List.set_cons_zero, List.set_cons_succ]
              rfl
            refine pure_ (i := 7) (N := some 34) (v := undef) (a' := ?_) #[true, true, true, true, true, true, true, true, false, false, false, false, false, false, false, false, false, false] rfl rfl (any_of HT_.out (by kernel_rfl)) (fun _ _ _ h => h) (Or.inr ⟨by rfl, rfl⟩) ?_ ?_
            rotate_left
            · simp only [Act.put, List.setIfInBounds_toArray, List.set_cons_zero, List.set_cons_succ]
              rfl
            refine pure_ (i := 9) (N := some 36) (v := undef) (a' := ?_) #[true, true, true, true, true, true, true, true, false, true, false, false, false, false, false, false, false, false] rfl rfl (any_of HT_.out (by kernel_rfl)) (fun _ _ _ h => h) (Or.inr ⟨by rfl, rfl⟩) ?_ ?_
            rotate_left
            · simp only [Act.put, List.setIfInBounds_toArray, List.set_cons_zero, List.set_cons_succ]
              rfl
            refine pure_ (i := 10) (N := some 37) (v := undef) (a' := ?_) #[true, true, true, true, true, true, true, true, false, true, true, false, false, false, false, false, false, false] rfl rfl (any_of HT_.out (by kernel_rfl)) (fun _ _ _ h => h) (Or.inr ⟨by rfl, rfl⟩) ?_ ?_
            rotate_left
            · simp only [Act.put, List.setIfInBounds_toArray, List.set_cons_zero, List.set_cons_succ]
              rfl
            refine pure_ (i := 11) (N := some 38) (v := undef) (a' := ?_) #[true, true, true, true, true, true, true, true, false, true, true, true, false, false, false, false, false, false] rfl rfl (any_of HT_.out (by kernel_rfl)) (fun _ _ _ h => h) (Or.inr ⟨by rfl, rfl⟩) ?_ ?_
            rotate_left
            · simp only [Act.put, List.setIfInBounds_toArray, List.set_cons_zero, List.set_cons_succ]
              rfl
            refine pure_ (i := 12) (N := some 39) (v := undef) (a' := ?_) #[true, true, true, true, true, true, true, true, false, true, true, true, true, false, false, false, false, false] rfl rfl (any_of HT_.out (by kernel_rfl)) (fun _ _ _ h => h) (Or.inr ⟨by rfl, rfl⟩) ?_ ?_
            rotate_left
            · simp only [Act.put, List.setIfInBounds_toArray, List.set_cons_zero, List.set_cons_succ]
              rfl
            refine pure_ (i := 13) (N := some 40) (v := undef) (a' := ?_) #[true, true, true, true, true, true, true, true, false, true, true, true, true, true, false, false, false, false] rfl rfl (any_of HT_.out (by kernel_rfl)) (fun _ _ _ h => h) (Or.inr ⟨by rfl, rfl⟩) ?_ ?_
            rotate_left
            · simp only [Act.put, List.setIfInBounds_toArray, List.set_cons_zero, List.set_cons_succ]
              rfl
            refine one_ (i := 8) (N := some 35) #[true, true, true, true, true, true, true, true, true, true, true, true, true, true, false, false, false, false] rfl rfl (one_of HT_.out (by kernel_rfl)) (by decide) (fun K hK => ?_)
            refine off_ (by rfl) ?_
            refine hK.out _ _ hHeld (fun hHeld => ?_)
            clear hK K
            refine norm_ (a' := ?_) ?_ ?_
            rotate_left
            · show Act.put _ (some 35) _ = _
              simp only [Act.put, List.setIfInBounds_toArray, List.set_cons_zero, List.set_cons_succ]
              rfl
            refine one_ (i := 14) (N := some 41) #[true, true, true, true, true, true, true, true, true, true, true, true, true, true, true, false, false, false] rfl rfl (one_of HT_.out (by kernel_rfl)) (by decide) (fun K hK => ?_)
            refine off_ (by rfl) ?_
            refine hK.out _ _ hHeld (fun hHeld => ?_)
            clear hK K
            refine norm_ (a' := ?_) ?_ ?_
            rotate_left
            · show Act.put _ (some 41) _ = _
              simp only [Act.put, List.setIfInBounds_toArray, List.set_cons_zero, List.set_cons_succ]
              rfl
            refine pure_ (i := 15) (N := some 42) (v := undef) (a' := ?_) #[true, true, true, true, true, true, true, true, true, true, true, true, true, true, true, true, false, false] rfl rfl (any_of HT_.out (by kernel_rfl)) (fun _ _ _ h => h) (Or.inr ⟨by rfl, rfl⟩) ?_ ?_
            rotate_left
            · simp only [Act.put, List.setIfInBounds_toArray, List.set_cons_zero, List.set_cons_succ]
              rfl
            refine pure_ (i := 16) (N := some 43) (v := undef) (a' := ?_) #[true, true, true, true, true, true, true, true, true, true, true, true, true, true, true, true, true, false] rfl rfl (any_of HT_.out (by kernel_rfl)) (fun _ _ _ h => h) (Or.inr ⟨by rfl, rfl⟩) ?_ ?_
            rotate_left
            · simp only [Act.put, List.setIfInBounds_toArray, List.set_cons_zero, List.set_cons_succ]
              rfl
            refine pure_ (i := 17) (N := some 44) (v := ?_) (a' := ?_) #[true, true, true, true, true, true, true, true, true, true, true, true, true, true, true, true, true, true] rfl rfl (any_of HT_.out (by kernel_rfl)) (fun _ _ _ h => h) (Or.inl ⟨by rfl, ?_⟩) ?_ ?_
            rotate_left
            · intro w'
              go_simp
              try with_reducible rfl
            rotate_left
            · simp only [Act.put, List.setIfInBounds_toArray, List.set_cons_zero, List.set_cons_succ]
              rfl
            refine done_ (done_of HT_.out (by kernel_rfl)) ?_
            go_wp2_with fail
            go_ret
            have hf : okR = false := by
              cases q : okR with
              | false => rfl
              | true =>
                have := (HH.out.1 q).2.1.2.ok j hlt hlt
                rw [← HU.out, HXx.out] at this
                cases this
            exact ⟨by rw [hf]; rfl, HK1.out.trans ((HB2.out.trans (hbc0'.mono HB2.out.size)).mono HK1.out.size)⟩
          have HUx := Lib.hid hux
          clear hux
          by_cases hz : j = 0
          · subst hz
            simp only [Nat.zero_mul, Nat.add_zero] at y1 y2 y3
            go_wp2_with fail
            obtain ⟨wl, rfl⟩ : ∃ wl, wl = wr := ⟨_, rfl⟩
            obtain ⟨wr, hwr⟩ : ∃ wr, wr = wl.alloc (.cells #[.int .i64 u.1, .int .i64 u.2.1, .int .i64 u.2.2] 27) := ⟨_, rfl⟩
            have q1 : Below wl.heap.size wl wr := by rw [hwr]; exact (Below.refl _ _).alloc (Nat.le_refl _) _
            have q2 : Bx wr wl.heap.size u := by rw [hwr]; exact alnew wl _
            rw [← hwr]
            have HB2 := Lib.hid (HB.out.trans (q1.mono HB.out.size))
            have Q2 := Lib.hid q2
            clear hwr q1 q2 y1 y2 y3
            have HV : Hid (∀ w1, Below wr.heap.size wr w1 → Calls Tryd.prog 19 #[vd u] w1 fun e w' => e = .returned (.bool true) ∧ Below w1.heap.size w1 w') := Lib.hid fun w1 k => (by have := validC u w1 (HG.out.below (HB2.out.trans (k.mono HB2.out.size))); rw [HUx.out] at this; exact this)
            have HSS : Hid (∀ w', Below wr.heap.size wr w' → (w'.cell? ⟨wl.heap.size, 0, none⟩ = some (.int .i64 u.1) ∧ w'.cell? ⟨wl.heap.size, 1, none⟩ = some (.int .i64 u.2.1) ∧ w'.cell? ⟨wl.heap.size, 2, none⟩ = some (.int .i64 u.2.2))) := Lib.hid fun w' k => Q2.out.b3 k
            have hb0 : Below wr.heap.size wr wr.drew := (Below.refl _ _).drew
            refine start_ (n := 18) (S := fun w' => w'.cell? ⟨wl.heap.size, 0, none⟩ = some (.int .i64 u.1) ∧ w'.cell? ⟨wl.heap.size, 1, none⟩ = some (.int .i64 u.2.1) ∧ w'.cell? ⟨wl.heap.size, 2, none⟩ = some (.int .i64 u.2.2)) (ds := []) #[false, false, false, false, false, false, false, false, false, false, false, false, false, false, false, false, false, false] (by kernel_rfl) rfl rfl (HSS.out _ hb0) (fun hHeld => ?_); refine with_tab goodg_tab (fun HT_ => ?_)
            generalize wr.drew = w6 at hb0 hHeld ⊢
            refine take_ (i := 0) (N := some 27) (v := ?_) (a' := ?_) #[true, false, false, false, false, false, false, false, false, false, false, false, false, false, false, false, false, false] rfl rfl (take_of HT_.out (by kernel_rfl)) (fun _ _ _ h => h) (Or.inl ⟨by rfl, ?_⟩) hHeld ?_ ?_
            rotate_left
            · rintro w' ⟨s1, s2, s3⟩
              go_simp
              try with_reducible rfl
            rotate_left
            · simp only [Act.put, List.setIfInBounds_toArray, List.set_cons_zero, List.set_cons_succ]
              rfl
            refine one_ (i := 1) (N := some 28) #[true, true, false, false, false, false, false, false, false, false, false, false, false, false, false, false, false, false] rfl rfl (one_of HT_.out (by kernel_rfl)) (by decide) (fun K hK => ?_)
            refine goes_ Tryd.func19 (by kernel_rfl) rfl #[vd u] (by rfl) rfl rfl (by (try simp only [List.map_toArray, List.map_cons, List.map_nil]); first | done | rfl) ?_
            with_reducible refine (HV.out _ hb0).mono ?_
            rintro ev w20 ⟨rfl, hbc0⟩
            have hbc0' := hb0.trans (hbc0.mono hb0.size)
            refine ⟨_, rfl, ?_⟩
            refine hK.out _ _ (HSS.out _ hbc0') (fun hHeld => ?_)
            clear hK K
            refine norm_ (a' := ?_) ?_ ?_
            rotate_left
            · show Act.put _ (some 28) _ = _
              simp only [Act.put, List.setIfInBounds_toArray, List.set_cons_zero, List.set_cons_succ]
              rfl
            refine pure_ (i := 2) (N := some 29) (v := ?_) (a' := ?_) #[true, true, true, false, false, false, false, false, false, false, false, false, false, false, false, false, false, false] rfl rfl (any_of HT_.out (by kernel_rfl)) (fun _ _ _ h => h) (Or.inl ⟨by rfl, ?_⟩) ?_ ?_
            rotate_left
            · intro w'
              go_simp
              try with_reducible rfl
            rotate_left
            · simp only [Act.put, List.setIfInBounds_toArray, List.set_cons_zero, List.set_cons_succ]
              rfl
            refine pure_ (i := 3) (N := some 30) (v := ?_) (a' := ?_) #[true, true, true, true, false, false, false, false, false, false, false, false, false, false, false, false, false, false] rfl rfl (any_of HT_.out (by kernel_rfl)) (fun _ _ _ h => h) (Or.inl ⟨by rfl, ?_⟩) ?_ ?_
            rotate_left
            · intro w'
              go_simp
              try with_reducible rfl
            rotate_left
            · simp only [Act.put, List.setIfInBounds_toArray, List.set_cons_zero, List.set_cons_succ]
              rfl
            refine pure_ (i := 4) (N := some 31) (v := ?_) (a' := ?_) #[true, true, true, true, true, false, false, false, false, false, false, false, false, false, false, false, false, false] rfl rfl (any_of HT_.out (by kernel_rfl)) (fun _ _ _ h => h) (Or.inl ⟨by rfl, ?_⟩) ?_ ?_
            rotate_left
            · intro w'
              go_simp
              try with_reducible rfl
            rotate_left
            · simp only [Act.put, List.setIfInBounds_toArray, List.set_cons_zero, List.set_cons_succ]
              rfl
            refine pure_ (i := 5) (N := some 32) (v := ?_) (a' := ?_) #[true, true, true, true, true, true, false, false, false, false, false, false, false, false, false, false, false, false] rfl rfl (any_of HT_.out (by kernel_rfl)) (fun _ _ _ h => h) (Or.inl ⟨by rfl, ?_⟩) ?_ ?_
            rotate_left
            · intro w'
              go_simp
              try with_reducible rfl
            rotate_left
            · simp only [Act.put, List.setIfInBounds_toArray, List.set_cons_zero, List.set_cons_succ]
              rfl
            refine pure_ (i := 6) (N := some 33) (v := ?_) (a' := ?_) #[true, true, true, true, true, true, true, false, false, false, false, false, false, false, false, false, false, false] rfl rfl (any_of HT_.out (by kernel_rfl)) (fun _ _ _ h => h) (Or.inl ⟨by rfl, ?_⟩) ?_ ?_
            rotate_left
            · intro w'
              go_simp
              try with_reducible rfl
            rotate_left
            · simp only [Act.put, List.setIfInBounds_toArray, List.set_cons_zero, List.set_cons_succ]
              rfl
            refine pure_ (i := 7) (N := some 34) (v := undef) (a' := ?_) #[true, true, true, true, true, true, true, true, false, false, false, false, false, false, false, false, false, false] rfl rfl (any_of HT_.out (by kernel_rfl)) (fun _ _ _ h => h) (Or.inr ⟨by rfl, rfl⟩) ?_ ?_
            rotate_left
            · simp only [Act.put, List.setIfInBounds_toArray, List.set_cons_zero, List.set_cons_succ]
              rfl
            refine pure_ (i := 9) (N := some 36) (v := undef) (a' := ?_) #[true, true, true, true, true, true, true, true, false, true, false, false, false, false, false, false, false, false] rfl rfl (any_of HT_.out (by kernel_rfl)) (fun _ _ _ h => h) (Or.inr ⟨by rfl, rfl⟩) ?_ ?_
            rotate_left
            · simp only [Act.put, List.setIfInBounds_toArray, List.set_cons_zero, List.set_cons_succ]
              rfl
            refine pure_ (i := 10) (N := some 37) (v := undef) (a' := ?_) #[true, true, true, true, true, true, true, true, false, true, true, false, false, false, false, false, false, false] rfl rfl (any_of HT_.out (by kernel_rfl)) (fun _ _ _ h => h) (Or.inr ⟨by rfl, rfl⟩) ?_ ?_
            rotate_left
            · simp only [Act.put, List.setIfInBounds_toArray, List.set_cons_zero, List.set_cons_succ]
              rfl
            refine pure_ (i := 11) (N := some 38) (v := undef) (a' := ?_) #[true, true, true, true, true, true, true, true, false, true, true, true, false, false, false, false, false, false] rfl rfl (any_of HT_.out (by kernel_rfl)) (fun _ _ _ h => h) (Or.inr ⟨by rfl, rfl⟩) ?_ ?_
            rotate_left
            · simp only [Act.put, List.setIfInBounds_toArray, List.set_cons_zero, List.set_cons_succ]
              rfl
            refine pure_ (i := 12) (N := some 39) (v := undef) (a' := ?_) #[true, true, true, true, true, true, true, true, false, true, true, true, true, false, false, false, false, false] rfl rfl (any_of HT_.out (by kernel_rfl)) (fun _ _ _ h => h) (Or.inr ⟨by rfl, rfl⟩) ?_ ?_
            rotate_left
            · simp only [Act.put, List.setIfInBounds_toArray, List.set_cons_zero, List.set_cons_succ]
              rfl
            refine pure_ (i := 13) (N := some 40) (v := undef) (a' := ?_) #[true, true, true, true, true, true, true, true, false, true, true, true, true, true, false, false, false, false] rfl rfl (any_of HT_.out (by kernel_rfl)) (fun _ _ _ h => h) (Or.inr ⟨by rfl, rfl⟩) ?_ ?_
            rotate_left
            · simp only [Act.put, List.setIfInBounds_toArray, List.set_cons_zero, List.set_cons_succ]
              rfl
            refine one_ (i := 8) (N := some 35) #[true, true, true, true, true, true, true, true, true, true, true, true, true, true, false, false, false, false] rfl rfl (one_of HT_.out (by kernel_rfl)) (by decide) (fun K hK => ?_)
            refine off_ (by rfl) ?_
            refine hK.out _ _ hHeld (fun hHeld => ?_)
            clear hK K
            refine norm_ (a' := ?_) ?_ ?_
            rotate_left
            · show Act.put _ (some 35) _ = _
              simp only [Act.put, List.setIfInBounds_toArray, List.set_cons_zero, List.set_cons_succ]
              rfl
            refine one_ (i := 14) (N := some 41) #[true, true, true, true, true, true, true, true, true, true, true, true, true, true, true, false, false, false] rfl rfl (one_of HT_.out (by kernel_rfl)) (by decide) (fun K hK => ?_)
            refine off_ (by rfl) ?_
            refine hK.out _ _ hHeld (fun hHeld => ?_)
            clear hK K
            refine norm_ (a' := ?_) ?_ ?_
            rotate_left
            · show Act.put _ (some 41) _ = _
              simp only [Act.put, List.setIfInBounds_toArray, List.set_cons_zero, List.set_cons_succ]
              rfl
            refine pure_ (i := 15) (N := some 42) (v := undef) (a' := ?_) #[true, true, true, true, true, true, true, true, true, true, true, true, true, true, true, true, false, false] rfl rfl (any_of HT_.out (by kernel_rfl)) (fun _ _ _ h => h) (Or.inr ⟨by rfl, rfl⟩) ?_ ?_
            rotate_left
            · simp only [Act.put, List.setIfInBounds_toArray, List.set_cons_zero, List.set_cons_succ]
              rfl
            refine pure_ (i := 16) (N := some 43) (v := ?_) (a' := ?_) #[true, true, true, true, true, true, true, true, true, true, true, true, true, true, true, true, true, false] rfl rfl (any_of HT_.out (by kernel_rfl)) (fun _ _ _ h => h) (Or.inl ⟨by rfl, ?_⟩) ?_ ?_
            rotate_left
            · intro w'
              go_simp
              try with_reducible rfl
            rotate_left
            · simp only [Act.put, List.setIfInBounds_toArray, List.set_cons_zero, List.set_cons_succ]
              rfl
            refine pure_ (i := 17) (N := some 44) (v := ?_) (a' := ?_) #[true, true, true, true, true, true, true, true, true, true, true, true, true, true, true, true, true, true] rfl rfl (any_of HT_.out (by kernel_rfl)) (fun _ _ _ h => h) (Or.inl ⟨by rfl, ?_⟩) ?_ ?_
            rotate_left
            · intro w'
              go_simp
              try with_reducible rfl
            rotate_left
            · simp only [Act.put, List.setIfInBounds_toArray, List.set_cons_zero, List.set_cons_succ]
              rfl
            refine done_ (done_of HT_.out (by kernel_rfl)) ?_
            go_wp2_with fail
            go_roundw
            case rel => exact ⟨1, by omega, by go_num, Lib.hid (HB2.out.trans (hbc0'.mono HB2.out.size)), Lib.hid (HP.out.next hlt (by rw [← HU.out]; exact HUx.out) (fun p hp => absurd hp (by omega)))⟩
            case measure => simp [intOf]; omega
          · obtain ⟨p, rfl⟩ : ∃ p, j = p + 1 := ⟨j - 1, by omega⟩
            obtain ⟨g', o', e', c1, c2, c3⟩ := HXe.out p (by omega)
            obtain ⟨rfl, rfl⟩ : g = g' ∧ o = o' := by
              injection e' with e'
              injection e' with a b _
              exact ⟨a, b⟩
            obtain ⟨z, hz'⟩ : ∃ z, z = E[p] := ⟨_, rfl⟩
            rw [← hz'] at c1 c2 c3
            have hzx : okD z = true := by rw [hz']; exact HP.out.ok p (by omega) (by omega)
            have HZe := Lib.hid hz'
            have C1 := Lib.hid (cellB (cellB c1 K1.out) HB.out)
            have C2 := Lib.hid (cellB (cellB c2 K1.out) HB.out)
            have C3 := Lib.hid (cellB (cellB c3 K1.out) HB.out)
            have HZx := Lib.hid hzx
            have p0 : (0 : Int) ≤ (p : Int) := Int.natCast_nonneg _
            have hwp : IntKind.i64.wrap (p : Int) = (p : Int) := IntWalk.i64_in _ (by omega)
            have p1 : (p : Int) < (E.length : Int) := by omega
            clear c1 c2 c3 e' hz' hzx
            go_wp2_with fail
            obtain ⟨wl, rfl⟩ : ∃ wl, wl = wr := ⟨_, rfl⟩
            obtain ⟨wr, hwr⟩ : ∃ wr, wr = wl.alloc (.cells #[.int .i64 u.1, .int .i64 u.2.1, .int .i64 u.2.2] 27) := ⟨_, rfl⟩
            have q1 : Below wl.heap.size wl wr := by rw [hwr]; exact (Below.refl _ _).alloc (Nat.le_refl _) _
            have q2 : Bx wr wl.heap.size u := by rw [hwr]; exact alnew wl _
            rw [← hwr]
            have HB2 := Lib.hid (HB.out.trans (q1.mono HB.out.size))
            have Q2 := Lib.hid q2
            have D1 := Lib.hid (cellB C1.out q1)
            have D2 := Lib.hid (cellB C2.out q1)
            have D3' := Lib.hid (cellB C3.out q1)
            clear hwr q1 q2 y1 y2 y3
            have HV : Hid (∀ w1, Below wr.heap.size wr w1 → Calls Tryd.prog 19 #[vd u] w1 fun e w' => e = .returned (.bool true) ∧ Below w1.heap.size w1 w') := Lib.hid fun w1 k => (by have := validC u w1 (HG.out.below (HB2.out.trans (k.mono HB2.out.size))); rw [HUx.out] at this; exact this)
            have HN : Hid (∀ t, okD t = true → ∀ w1, Below wr.heap.size wr w1 → Calls Tryd.prog 20 #[vd t] w1 fun e w' => e = .returned (.int .i64 (nm t)) ∧ Below w1.heap.size w1 w') := Lib.hid fun t ht w1 k => number_r t ht w1 (HG.out.below (HB2.out.trans (k.mono HB2.out.size)))
            have HSS : Hid (∀ w', Below wr.heap.size wr w' → (w'.cell? ⟨wl.heap.size, 0, none⟩ = some (.int .i64 u.1) ∧ w'.cell? ⟨wl.heap.size, 1, none⟩ = some (.int .i64 u.2.1) ∧ w'.cell? ⟨wl.heap.size, 2, none⟩ = some (.int .i64 u.2.2) ∧ w'.cell? ⟨g, o + p * 3, none⟩ = some (.int .i64 z.1) ∧ w'.cell? ⟨g, o + p * 3 + 1, none⟩ = some (.int .i64 z.2.1) ∧ w'.cell? ⟨g, o + p * 3 + 2, none⟩ = some (.int .i64 z.2.2))) := Lib.hid fun w' k => ⟨(Q2.out.b3 k).1, (Q2.out.b3 k).2.1, (Q2.out.b3 k).2.2, cellB D1.out k, cellB D2.out k, cellB D3'.out k⟩
            have hb0 : Below wr.heap.size wr wr.drew := (Below.refl _ _).drew
            by_cases hzu : nm z < nm u
            · have hle : decide (nm u ≤ nm z) = false := by simp; omega
              refine start_ (n := 18) (S := fun w' => w'.cell? ⟨wl.heap.size, 0, none⟩ = some (.int .i64 u.1) ∧ w'.cell? ⟨wl.heap.size, 1, none⟩ = some (.int .i64 u.2.1) ∧ w'.cell? ⟨wl.heap.size, 2, none⟩ = some (.int .i64 u.2.2) ∧ w'.cell? ⟨g, o + p * 3, none⟩ = some (.int .i64 z.1) ∧ w'.cell? ⟨g, o + p * 3 + 1, none⟩ = some (.int .i64 z.2.1) ∧ w'.cell? ⟨g, o + p * 3 + 2, none⟩ = some (.int .i64 z.2.2)) (ds := []) #[false, false, false, false, false, false, false, false, false, false, false, false, false, false, false, false, false, false] (by kernel_rfl) rfl rfl (HSS.out _ hb0) (fun hHeld => ?_); refine with_tab goodg_tab (fun HT_ => ?_)
              generalize wr.drew = w6 at hb0 hHeld ⊢
              refine take_ (i := 0) (N := some 27) (v := ?_) (a' := ?_) #[true, false, false, false, false, false, false, false, false, false, false, false, false, false, false, false, false, false] rfl rfl (take_of HT_.out (by kernel_rfl)) (fun _ _ _ h => h) (Or.inl ⟨by rfl, ?_⟩) hHeld ?_ ?_
              rotate_left
              · rintro w' ⟨s1, s2, s3, s4, s5, s6⟩
                go_simp
                try with_reducible rfl
              rotate_left
              · simp only [Act.put, List.setIfInBounds_toArray, List.set_cons_zero, List.set_cons_succ]
                rfl
              refine one_ (i := 1) (N := some 28) #[true, true, false, false, false, false, false, false, false, false, false, false, false, false, false, false, false, false] rfl rfl (one_of HT_.out (by kernel_rfl)) (by decide) (fun K hK => ?_)
              refine goes_ Tryd.func19 (by kernel_rfl) rfl #[vd u] (by rfl) rfl rfl (by (try simp only [List.map_toArray, List.map_cons, List.map_nil]); first | done | rfl) ?_
              with_reducible refine (HV.out _ hb0).mono ?_
              rintro ev w20 ⟨rfl, hbc0⟩
              have hbc0' := hb0.trans (hbc0.mono hb0.size)
              refine ⟨_, rfl, ?_⟩
              refine hK.out _ _ (HSS.out _ hbc0') (fun hHeld => ?_)
              clear hK K
              refine norm_ (a' := ?_) ?_ ?_
              rotate_left
              · show Act.put _ (some 28) _ = _
                simp only [Act.put, List.setIfInBounds_toArray, List.set_cons_zero, List.set_cons_succ]
                rfl
              refine pure_ (i := 2) (N := some 29) (v := ?_) (a' := ?_) #[true, true, true, false, false, false, false, false, false, false, false, false, false, false, false, false, false, false] rfl rfl (any_of HT_.out (by kernel_rfl)) (fun _ _ _ h => h) (Or.inl ⟨by rfl, ?_⟩) ?_ ?_
              rotate_left
              · intro w'
                go_simp
                try with_reducible rfl
              rotate_left
              · simp only [Act.put, List.setIfInBounds_toArray, List.set_cons_zero, List.set_cons_succ]
                rfl
              refine pure_ (i := 3) (N := some 30) (v := ?_) (a' := ?_) #[true, true, true, true, false, false, false, false, false, false, false, false, false, false, false, false, false, false] rfl rfl (any_of HT_.out (by kernel_rfl)) (fun _ _ _ h => h) (Or.inl ⟨by rfl, ?_⟩) ?_ ?_
              rotate_left
              · intro w'
                go_simp
                try with_reducible rfl
              rotate_left
              · simp only [Act.put, List.setIfInBounds_toArray, List.set_cons_zero, List.set_cons_succ]
                rfl
              refine pure_ (i := 4) (N := some 31) (v := ?_) (a' := ?_) #[true, true, true, true, true, false, false, false, false, false, false, false, false, false, false, false, false, false] rfl rfl (any_of HT_.out (by kernel_rfl)) (fun _ _ _ h => h) (Or.inl ⟨by rfl, ?_⟩) ?_ ?_
              rotate_left
              · intro w'
                go_simp
                try with_reducible rfl
              rotate_left
              · simp only [Act.put, List.setIfInBounds_toArray, List.set_cons_zero, List.set_cons_succ]
                rfl
              refine pure_ (i := 5) (N := some 32) (v := ?_) (a' := ?_) #[true, true, true, true, true, true, false, false, false, false, false, false, false, false, false, false, false, false] rfl rfl (any_of HT_.out (by kernel_rfl)) (fun _ _ _ h => h) (Or.inl ⟨by rfl, ?_⟩) ?_ ?_
              rotate_left
              · intro w'
                go_simp
                try with_reducible rfl
              rotate_left
              · simp only [Act.put, List.setIfInBounds_toArray, List.set_cons_zero, List.set_cons_succ]
                rfl
              refine pure_ (i := 6) (N := some 33) (v := ?_) (a' := ?_) #[true, true, true, true, true, true, true, false, false, false, false, false, false, false, false, false, false, false] rfl rfl (any_of HT_.out (by kernel_rfl)) (fun _ _ _ h => h) (Or.inl ⟨by rfl, ?_⟩) ?_ ?_
              rotate_left
              · intro w'
                go_simp
                try with_reducible rfl
              rotate_left
              · simp only [Act.put, List.setIfInBounds_toArray, List.set_cons_zero, List.set_cons_succ]
                rfl
              refine take_ (i := 7) (N := some 34) (v := ?_) (a' := ?_) #[true, true, true, true, true, true, true, true, false, false, false, false, false, false, false, false, false, false] rfl rfl (take_of HT_.out (by kernel_rfl)) (fun _ _ _ h => h) (Or.inl ⟨by rfl, ?_⟩) hHeld ?_ ?_
              rotate_left
              · rintro w' ⟨s1, s2, s3, s4, s5, s6⟩
                go_simp
                try with_reducible rfl
              rotate_left
              · simp only [Act.put, List.setIfInBounds_toArray, List.set_cons_zero, List.set_cons_succ]
                rfl
              refine pure_ (i := 9) (N := some 36) (v := ?_) (a' := ?_) #[true, true, true, true, true, true, true, true, false, true, false, false, false, false, false, false, false, false] rfl rfl (any_of HT_.out (by kernel_rfl)) (fun _ _ _ h => h) (Or.inl ⟨by rfl, ?_⟩) ?_ ?_
              rotate_left
              · intro w'
                go_simp
                try with_reducible rfl
              rotate_left
              · simp only [Act.put, List.setIfInBounds_toArray, List.set_cons_zero, List.set_cons_succ]
                rfl
              refine pure_ (i := 10) (N := some 37) (v := ?_) (a' := ?_) #[true, true, true, true, true, true, true, true, false, true, true, false, false, false, false, false, false, false] rfl rfl (any_of HT_.out (by kernel_rfl)) (fun _ _ _ h => h) (Or.inl ⟨by rfl, ?_⟩) ?_ ?_
              rotate_left
              · intro w'
                go_simp
                try with_reducible rfl
              rotate_left
              · simp only [Act.put, List.setIfInBounds_toArray, List.set_cons_zero, List.set_cons_succ]
                rfl
              refine pure_ (i := 11) (N := some 38) (v := ?_) (a' := ?_) #[true, true, true, true, true, true, true, true, false, true, true, true, false, false, false, false, false, false] rfl rfl (any_of HT_.out (by kernel_rfl)) (fun _ _ _ h => h) (Or.inl ⟨by rfl, ?_⟩) ?_ ?_
              rotate_left
              · intro w'
                go_simp
                (try (rw [hwp]; go_simp))
                try with_reducible rfl
              rotate_left
              · simp only [Act.put, List.setIfInBounds_toArray, List.set_cons_zero, List.set_cons_succ]
                rfl
              refine pure_ (i := 12) (N := some 39) (v := ?_) (a' := ?_) #[true, true, true, true, true, true, true, true, false, true, true, true, true, false, false, false, false, false] rfl rfl (any_of HT_.out (by kernel_rfl)) (fun _ _ _ h => h) (Or.inl ⟨by rfl, ?_⟩) ?_ ?_
              rotate_left
              · intro w'
                go_simp
                (try (simp only [hwp]; rw [if_pos ⟨p0, p1⟩])); (try go_simp)
                try with_reducible rfl
              rotate_left
              · simp only [Act.put, List.setIfInBounds_toArray, List.set_cons_zero, List.set_cons_succ]
                rfl
              refine take_ (i := 13) (N := some 40) (v := ?_) (a' := ?_) #[true, true, true, true, true, true, true, true, false, true, true, true, true, true, false, false, false, false] rfl rfl (take_of HT_.out (by kernel_rfl)) (fun _ _ _ h => h) (Or.inl ⟨by rfl, ?_⟩) hHeld ?_ ?_
              rotate_left
              · rintro w' ⟨s1, s2, s3, s4, s5, s6⟩
                go_simp
                try with_reducible rfl
              rotate_left
              · simp only [Act.put, List.setIfInBounds_toArray, List.set_cons_zero, List.set_cons_succ]
                rfl
              refine one_ (i := 8) (N := some 35) #[true, true, true, true, true, true, true, true, true, true, true, true, true, true, false, false, false, false] rfl rfl (one_of HT_.out (by kernel_rfl)) (by decide) (fun K hK => ?_)
              refine goes_ Tryd.func20 (by kernel_rfl) rfl #[vd u] (by rfl) rfl rfl (by (try simp only [List.map_toArray, List.map_cons, List.map_nil]); first | done | rfl) ?_
              with_reducible refine (HN.out u HUx.out _ hbc0').mono ?_
              rintro ev w21 ⟨rfl, hbc1⟩
              have hbc1' := hbc0'.trans (hbc1.mono hbc0'.size)
              refine ⟨_, rfl, ?_⟩
              refine hK.out _ _ (HSS.out _ hbc1') (fun hHeld => ?_)
              clear hK K
              refine norm_ (a' := ?_) ?_ ?_
              rotate_left
              · show Act.put _ (some 35) _ = _
                simp only [Act.put, List.setIfInBounds_toArray, List.set_cons_zero, List.set_cons_succ]
                rfl
              refine one_ (i := 14) (N := some 41) #[true, true, true, true, true, true, true, true, true, true, true, true, true, true, true, false, false, false] rfl rfl (one_of HT_.out (by kernel_rfl)) (by decide) (fun K hK => ?_)
              refine goes_ Tryd.func20 (by kernel_rfl) rfl #[vd z] (by rfl) rfl rfl (by (try simp only [List.map_toArray, List.map_cons, List.map_nil]); first | done | rfl) ?_
              with_reducible refine (HN.out z HZx.out _ hbc1').mono ?_
              rintro ev w22 ⟨rfl, hbc2⟩
              have hbc2' := hbc1'.trans (hbc2.mono hbc1'.size)
              refine ⟨_, rfl, ?_⟩
              refine hK.out _ _ (HSS.out _ hbc2') (fun hHeld => ?_)
              clear hK K
              refine norm_ (a' := ?_) ?_ ?_
              rotate_left
              · show Act.put _ (some 41) _ = _
                simp only [Act.put, List.setIfInBounds_toArray, List.set_cons_zero, List.set_cons_succ]
                rfl
              refine pure_ (i := 15) (N := some 42) (v := ?_) (a' := ?_) #[true, true, true, true, true, true, true, true, true, true, true, true, true, true, true, true, false, false] rfl rfl (any_of HT_.out (by kernel_rfl)) (fun _ _ _ h => h) (Or.inl ⟨by rfl, ?_⟩) ?_ ?_
              rotate_left
              · intro w'
                go_simp
                try with_reducible rfl
              rotate_left
              · simp only [Act.put, List.setIfInBounds_toArray, List.set_cons_zero, List.set_cons_succ]
                rfl
              refine pure_ (i := 16) (N := some 43) (v := ?_) (a' := ?_) #[true, true, true, true, true, true, true, true, true, true, true, true, true, true, true, true, true, false] rfl rfl (any_of HT_.out (by kernel_rfl)) (fun _ _ _ h => h) (Or.inl ⟨by rfl, ?_⟩) ?_ ?_
              rotate_left
              · intro w'
                go_simp
                try with_reducible rfl
              rotate_left
              · simp only [Act.put, List.setIfInBounds_toArray, List.set_cons_zero, List.set_cons_succ]
                rfl
              refine pure_ (i := 17) (N := some 44) (v := ?_) (a' := ?_) #[true, true, true, true, true, true, true, true, true, true, true, true, true, true, true, true, true, true] rfl rfl (any_of HT_.out (by kernel_rfl)) (fun _ _ _ h => h) (Or.inl ⟨by rfl, ?_⟩) ?_ ?_
              rotate_left
              · intro w'
                go_simp
                try with_reducible rfl
              rotate_left
              · simp only [Act.put, List.setIfInBounds_toArray, List.set_cons_zero, List.set_cons_succ]
                rfl
              refine done_ (done_of HT_.out (by kernel_rfl)) ?_
              go_wp2_with fail
              go_roundw
              case rel =>
                refine ⟨p + 1 + 1, by omega, by go_num, Lib.hid (HB2.out.trans (hbc2'.mono HB2.out.size)), Lib.hid (HP.out.next hlt (by rw [← HU.out]; exact HUx.out) (fun p' hp => ?_))⟩
                obtain rfl : p' = p := by omega
                rw [← HU.out, ← HZe.out]
                exact hzu
              case measure => simp [intOf]; omega
            · have hle : decide (nm u ≤ nm z) = true := decide_eq_true (by omega)
              refine start_ (n := 18) (S := fun w' => w'.cell? ⟨wl.heap.size, 0, none⟩ = some (.int .i64 u.1) ∧ w'.cell? ⟨wl.heap.size, 1, none⟩ = some (.int .i64 u.2.1) ∧ w'.cell? ⟨wl.heap.size, 2, none⟩ = some (.int .i64 u.2.2) ∧ w'.cell? ⟨g, o + p * 3, none⟩ = some (.int .i64 z.1) ∧ w'.cell? ⟨g, o + p * 3 + 1, none⟩ = some (.int .i64 z.2.1) ∧ w'.cell? ⟨g, o + p * 3 + 2, none⟩ = some (.int .i64 z.2.2)) (ds := []) #[false, false, false, false, false, false, false, false, false, false, false, false, false, false, false, false, false, false] (by kernel_rfl) rfl rfl (HSS.out _ hb0) (fun hHeld => ?_); refine with_tab goodg_tab (fun HT_ => ?_)
              generalize wr.drew = w6 at hb0 hHeld ⊢
              refine take_ (i := 0) (N := some 27) (v := ?_) (a' := ?_) #[true, false, false, false, false, false, false, false, false, false, false, false, false, false, false, false, false, false] rfl rfl (take_of HT_.out (by kernel_rfl)) (fun _ _ _ h => h) (Or.inl ⟨by rfl, ?_⟩) hHeld ?_ ?_
              rotate_left
              · rintro w' ⟨s1, s2, s3, s4, s5, s6⟩
                go_simp
                try with_reducible rfl
              rotate_left
              · simp only [Act.put, List.setIfInBounds_toArray, List.set_cons_zero, List.set_cons_succ]
                rfl
              refine one_ (i := 1) (N := some 28) #[true, true, false, false, false, false, false, false, false, false, false, false, false, false, false, false, false, false] rfl rfl (one_of HT_.out (by kernel_rfl)) (by decide) (fun K hK => ?_)
              refine goes_ Tryd.func19 (by kernel_rfl) rfl #[vd u] (by rfl) rfl rfl (by (try simp only [List.map_toArray, List.map_cons, List.map_nil]); first | done | rfl) ?_
              with_reducible refine (HV.out _ hb0).mono ?_
              rintro ev w20 ⟨rfl, hbc0⟩
              have hbc0' := hb0.trans (hbc0.mono hb0.size)
              refine ⟨_, rfl, ?_⟩
              refine hK.out _ _ (HSS.out _ hbc0') (fun hHeld => ?_)
              clear hK K
              refine norm_ (a' := ?_) ?_ ?_
              rotate_left
              · show Act.put _ (some 28) _ = _
                simp only [Act.put, List.setIfInBounds_toArray, List.set_cons_zero, List.set_cons_succ]
                rfl
              refine pure_ (i := 2) (N := some 29) (v := ?_) (a' := ?_) #[true, true, true, false, false, false, false, false, false, false, false, false, false, false, false, false, false, false] rfl rfl (any_of HT_.out (by kernel_rfl)) (fun _ _ _ h => h) (Or.inl ⟨by rfl, ?_⟩) ?_ ?_
              rotate_left
              · intro w'
                go_simp
                try with_reducible rfl
              rotate_left
              · simp only [Act.put, List.setIfInBounds_toArray, List.set_cons_zero, List.set_cons_succ]
                rfl
              refine pure_ (i := 3) (N := some 30) (v := ?_) (a' := ?_) #[true, true, true, true, false, false, false, false, false, false, false, false, false, false, false, false, false, false] rfl rfl (any_of HT_.out (by kernel_rfl)) (fun _ _ _ h => h) (Or.inl ⟨by rfl, ?_⟩) ?_ ?_
              rotate_left
              · intro w'
                go_simp
                try with_reducible rfl
              rotate_left
              · simp only [Act.put, List.setIfInBounds_toArray, List.set_cons_zero, List.set_cons_succ]
                rfl
              refine pure_ (i := 4) (N := some 31) (v := ?_) (a' := ?_) #[true, true, true, true, true, false, false, false, false, false, false, false, false, false, false, false, false, false] rfl rfl (any_of HT_.out (by kernel_rfl)) (fun _ _ _ h => h) (Or.inl ⟨by rfl, ?_⟩) ?_ ?_
              rotate_left
              · intro w'
                go_simp
                try with_reducible rfl
              rotate_left
              · simp only [Act.put, List.setIfInBounds_toArray, List.set_cons_zero, List.set_cons_succ]
                rfl
              refine pure_ (i := 5) (N := some 32) (v := ?_) (a' := ?_) #[true, true, true, true, true, true, false, false, false, false, false, false, false, false, false, false, false, false] rfl rfl (any_of HT_.out (by kernel_rfl)) (fun _ _ _ h => h) (Or.inl ⟨by rfl, ?_⟩) ?_ ?_
              rotate_left
              · intro w'
                go_simp
                try with_reducible rfl
              rotate_left
              · simp only [Act.put, List.setIfInBounds_toArray, List.set_cons_zero, List.set_cons_succ]
                rfl
              refine pure_ (i := 6) (N := some 33) (v := ?_) (a' := ?_) #[true, true, true, true, true, true, true, false, false, false, false, false, false, false, false, false, false, false] rfl rfl (any_of HT_.out (by kernel_rfl)) (fun _ _ _ h => h) (Or.inl ⟨by rfl, ?_⟩) ?_ ?_
              rotate_left
              · intro w'
                go_simp
                try with_reducible rfl
              rotate_left
              · simp only [Act.put, List.setIfInBounds_toArray, List.set_cons_zero, List.set_cons_succ]
                rfl
              refine take_ (i := 7) (N := some 34) (v := ?_) (a' := ?_) #[true, true, true, true, true, true, true, true, false, false, false, false, false, false, false, false, false, false] rfl rfl (take_of HT_.out (by kernel_rfl)) (fun _ _ _ h => h) (Or.inl ⟨by rfl, ?_⟩) hHeld ?_ ?_
              rotate_left
              · rintro w' ⟨s1, s2, s3, s4, s5, s6⟩
                go_simp
                try with_reducible rfl
              rotate_left
              · simp only [Act.put, List.setIfInBounds_toArray, List.set_cons_zero, List.set_cons_succ]
                rfl
              refine pure_ (i := 9) (N := some 36) (v := ?_) (a' := ?_) #[true, true, true, true, true, true, true, true, false, true, false, false, false, false, false, false, false, false] rfl rfl (any_of HT_.out (by kernel_rfl)) (fun _ _ _ h => h) (Or.inl ⟨by rfl, ?_⟩) ?_ ?_
              rotate_left
              · intro w'
                go_simp
                try with_reducible rfl
              rotate_left
              · simp only [Act.put, List.setIfInBounds_toArray, List.set_cons_zero, List.set_cons_succ]
                rfl
              refine pure_ (i := 10) (N := some 37) (v := ?_) (a' := ?_) #[true, true, true, true, true, true, true, true, false, true, true, false, false, false, false, false, false, false] rfl rfl (any_of HT_.out (by kernel_rfl)) (fun _ _ _ h => h) (Or.inl ⟨by rfl, ?_⟩) ?_ ?_
              rotate_left
              · intro w'
                go_simp
                try with_reducible rfl
              rotate_left
              · simp only [Act.put, List.setIfInBounds_toArray, List.set_cons_zero, List.set_cons_succ]
                rfl
              refine pure_ (i := 11) (N := some 38) (v := ?_) (a' := ?_) #[true, true, true, true, true, true, true, true, false, true, true, true, false, false, false, false, false, false] rfl rfl (any_of HT_.out (by kernel_rfl)) (fun _ _ _ h => h) (Or.inl ⟨by rfl, ?_⟩) ?_ ?_
              rotate_left
              · intro w'
                go_simp
                (try (rw [hwp]; go_simp))
                try with_reducible rfl
              rotate_left
              · simp only [Act.put, List.setIfInBounds_toArray, List.set_cons_zero, List.set_cons_succ]
                rfl
              refine pure_ (i := 12) (N := some 39) (v := ?_) (a' := ?_) #[true, true, true, true, true, true, true, true, false, true, true, true, true, false, false, false, false, false] rfl rfl (any_of HT_.out (by kernel_rfl)) (fun _ _ _ h => h) (Or.inl ⟨by rfl, ?_⟩) ?_ ?_
              rotate_left
              · intro w'
                go_simp
                (try (simp only [hwp]; rw [if_pos ⟨p0, p1⟩])); (try go_simp)
                try with_reducible rfl
              rotate_left
              · simp only [Act.put, List.setIfInBounds_toArray, List.set_cons_zero, List.set_cons_succ]
                rfl
              refine take_ (i := 13) (N := some 40) (v := ?_) (a' := ?_) #[true, true, true, true, true, true, true, true, false, true, true, true, true, true, false, false, false, false] rfl rfl (take_of HT_.out (by kernel_rfl)) (fun _ _ _ h => h) (Or.inl ⟨by rfl, ?_⟩) hHeld ?_ ?_
              rotate_left
              · rintro w' ⟨s1, s2, s3, s4, s5, s6⟩
                go_simp
                try with_reducible rfl
              rotate_left
              · simp only [Act.put, List.setIfInBounds_toArray, List.set_cons_zero, List.set_cons_succ]
                rfl
              refine one_ (i := 8) (N := some 35) #[true, true, true, true, true, true, true, true, true, true, true, true, true, true, false, false, false, false] rfl rfl (one_of HT_.out (by kernel_rfl)) (by decide) (fun K hK => ?_)
              refine goes_ Tryd.func20 (by kernel_rfl) rfl #[vd u] (by rfl) rfl rfl (by (try simp only [List.map_toArray, List.map_cons, List.map_nil]); first | done | rfl) ?_
              with_reducible refine (HN.out u HUx.out _ hbc0').mono ?_
              rintro ev w21 ⟨rfl, hbc1⟩
              have hbc1' := hbc0'.trans (hbc1.mono hbc0'.size)
              refine ⟨_, rfl, ?_⟩
              refine hK.out _ _ (HSS.out _ hbc1') (fun hHeld => ?_)
              clear hK K
              refine norm_ (a' := ?_) ?_ ?_
              rotate_left
              · show Act.put _ (some 35) _ = _
                simp only [Act.put, List.setIfInBounds_toArray, List.set_cons_zero, List.set_cons_succ]
                rfl
              refine one_ (i := 14) (N := some 41) #[true, true, true, true, true, true, true, true, true, true, true, true, true, true, true, false, false, false] rfl rfl (one_of HT_.out (by kernel_rfl)) (by decide) (fun K hK => ?_)
              refine goes_ Tryd.func20 (by kernel_rfl) rfl #[vd z] (by rfl) rfl rfl (by (try simp only [List.map_toArray, List.map_cons, List.map_nil]); first | done | rfl) ?_
              with_reducible refine (HN.out z HZx.out _ hbc1').mono ?_
              rintro ev w22 ⟨rfl, hbc2⟩
              have hbc2' := hbc1'.trans (hbc2.mono hbc1'.size)
              refine ⟨_, rfl, ?_⟩
              refine hK.out _ _ (HSS.out _ hbc2') (fun hHeld => ?_)
              clear hK K
              refine norm_ (a' := ?_) ?_ ?_
              rotate_left
              · show Act.put _ (some 41) _ = _
                simp only [Act.put, List.setIfInBounds_toArray, List.set_cons_zero, List.set_cons_succ]
                rfl
              refine pure_ (i := 15) (N := some 42) (v := ?_) (a' := ?_) #[true, true, true, true, true, true, true, true, true, true, true, true, true, true, true, true, false, false] rfl rfl (any_of HT_.out (by kernel_rfl)) (fun _ _ _ h => h) (Or.inl ⟨by rfl, ?_⟩) ?_ ?_
              rotate_left
              · intro w'
                go_simp
                try with_reducible rfl
              rotate_left
              · simp only [Act.put, List.setIfInBounds_toArray, List.set_cons_zero, List.set_cons_succ]
                rfl
              refine pure_ (i := 16) (N := some 43) (v := ?_) (a' := ?_) #[true, true, true, true, true, true, true, true, true, true, true, true, true, true, true, true, true, false] rfl rfl (any_of HT_.out (by kernel_rfl)) (fun _ _ _ h => h) (Or.inl ⟨by rfl, ?_⟩) ?_ ?_
              rotate_left
              · intro w'
                go_simp
                try with_reducible rfl
              rotate_left
              · simp only [Act.put, List.setIfInBounds_toArray, List.set_cons_zero, List.set_cons_succ]
                rfl
              refine pure_ (i := 17) (N := some 44) (v := ?_) (a' := ?_) #[true, true, true, true, true, true, true, true, true, true, true, true, true, true, true, true, true, true] rfl rfl (any_of HT_.out (by kernel_rfl)) (fun _ _ _ h => h) (Or.inl ⟨by rfl, ?_⟩) ?_ ?_
              rotate_left
              · intro w'
                go_simp
                try with_reducible rfl
              rotate_left
              · simp only [Act.put, List.setIfInBounds_toArray, List.set_cons_zero, List.set_cons_succ]
                rfl
              refine done_ (done_of HT_.out (by kernel_rfl)) ?_
              go_wp2_with fail
              go_ret
              have hf : okR = false := by
                cases q : okR with
                | false => rfl
                | true =>
                  have := (HH.out.1 q).2.1.2.up p hlt hlt
                  rw [← HU.out, ← HZe.out] at this
                  exact absurd this (by omega)
              exact ⟨by rw [hf]; rfl, HK1.out.trans ((HB2.out.trans (hbc2'.mono HB2.out.size)).mono HK1.out.size)⟩
        · obtain rfl : E.length = j := by omega
          clear hlt hj
          go_wp2
          go_roundw
          case rel => exact ⟨2, by omega, by go_num, HB, Lib.hid ⟨fun _ => HK.out.1 (by omega), fun _ => ⟨hlen, HP.out⟩⟩⟩
          case measure => simp [intOf]
    · have d9 := cellB d7 HB.out
      go_wp2
      go_loopw [2, 8, 50] (fun _ _ i wr => ∃ j : Nat, j ≤ S.length ∧ i = .int .i64 (j : Int) ∧ Hid (Below W.heap.size W wr) ∧ Hid (∀ i (h : i < S.length), i < j → has E (nm S[i]) = false)) (fun _ _ i _ => S.length - (intOf i).toNat)
      case atStart => exact ⟨0, Nat.zero_le _, rfl, HB, Lib.hid fun _ _ h => absurd h (by omega)⟩
      case round =>
        clear HB d9
        obtain ⟨j, hj, rfl, HB, HJ⟩ := hrel
        by_cases hlt : j < S.length
        · obtain ⟨g, o, rfl, c1, c2, c3⟩ := HXs.out j hlt
          have j0 : (0 : Int) ≤ (j : Int) := Int.natCast_nonneg _
          have j1 : (j : Int) < (S.length : Int) := by omega
          have y1 := cellB (cellB c1 K1.out) HB.out
          have y2 := cellB (cellB c2 K1.out) HB.out
          have y3 := cellB (cellB c3 K1.out) HB.out
          have d9 := cellB d8 HB.out
          have l9 : W.heap.size ≤ wr.heap.size := HB.out.size
          have l8 : w.heap.size < wr.heap.size := World.block_lt_of_cell? _ ⟨w.heap.size, 8, none⟩ d9
          obtain ⟨u, hu⟩ : ∃ u, u = S[j] := ⟨_, rfl⟩
          rw [← hu] at y1 y2 y3
          have hux : okD u = true := by rw [hu]; exact (HK.out.1 (by omega)).good.ok _ (List.getElem_mem _)
          have hgE := (HK.out.2 (by omega)).good
          obtain ⟨b, hb⟩ : ∃ b, b = has E (nm u) := ⟨_, rfl⟩
          have HSt : Hid (∀ w1, Below W.heap.size W w1 → Calls Tryd.prog 32 #[.slice xe E.length ce, vd u] w1 fun e w' => e = .returned (.bool b) ∧ Below w1.heap.size w1 w') := Lib.hid fun w1 k => by
            rw [hb]
            exact stands_r E u _ w1 (HG.out.below k) ((HR.out.below k).de) hgE.ok hux hgE.up
          have HBv := Lib.hid hb
          have HU := Lib.hid hu
          clear c1 c2 c3 hu hux hb hgE
          cases b
          · go_wp2_with (first
              | (go_at_call 32; (with_reducible refine (HSt.out _ (HB.out.trans (((Below.refl wr.heap.size wr).alloc (Nat.le_refl _) _).mono HB.out.size))).mono ?_); rintro ev w2 ⟨rfl, hb2⟩))
            go_roundw
            case rel =>
              refine ⟨j + 1, by omega, by go_num, Lib.hid (HB.out.trans ((((Below.refl wr.heap.size wr).alloc (Nat.le_refl _) _).trans (hb2.mono (by simp))).mono HB.out.size)), Lib.hid fun i hi q => ?_⟩
              by_cases e : i = j
              · subst e
                rw [← HU.out]
                exact HBv.out.symm
              · exact HJ.out i hi (by omega)
            case measure => simp [intOf]; omega
          · go_wp2_with (first
              | (go_at_call 32; (with_reducible refine (HSt.out _ (HB.out.trans (((Below.refl wr.heap.size wr).alloc (Nat.le_refl _) _).mono HB.out.size))).mono ?_); rintro ev w2 ⟨rfl, hb2⟩))
            go_ret
            have hf : okR = false := by
              cases q : okR with
              | false => rfl
              | true =>
                have := (HH.out.1 q).2.2 S[j] (List.getElem_mem _)
                rw [← HU.out, ← HBv.out] at this
                cases this
            exact ⟨by rw [hf]; rfl, HK1.out.trans ((HB.out.trans ((((Below.refl wr.heap.size wr).alloc (Nat.le_refl _) _).trans (hb2.mono (by simp))).mono HB.out.size)).mono HK1.out.size)⟩
        · obtain rfl : S.length = j := by omega
          clear hlt hj
          go_wp2
          go_ret
          have ht : okR = true := HH.out.2 ⟨HK.out.1 (by omega), HK.out.2 (by omega), fun d hd => by
            obtain ⟨i, hi, rfl⟩ := List.mem_iff_getElem.1 hd
            exact HJ.out i hi hi⟩
          exact ⟨by rw [ht]; rfl, HK1.out.trans (HB.out.mono HK1.out.size)⟩
end Go.Proofs.YtjifinacnofmiaaDoor.Ext

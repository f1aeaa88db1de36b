/- The reference's Count and Move (printed by gen_calrm.py). -/
import Derived.Test.YtjifinacnofmiaaDoorCalRj
set_option linter.unusedVariables false
set_option linter.unusedSimpArgs false
namespace Go.Proofs.YtjifinacnofmiaaDoor.Ext
open Go Go.RowKit Go.Proofs.YtjifinacnofmiaaDoorW.PrintWords Go.Proofs.YtjifinacnofmiaaDoorW.PrintLast Go.Proofs.YtjifinacnofmiaaDoor.PCal Go.Proofs.YtjifinacnofmiaaDoor.GC Go.Proofs.YtjifinacnofmiaaDoor.CalP
theorem goodP_R {S E : List D3} (h : GoodP S E) : GoodR S E := ⟨h.1.good, h.2.1.good, h.1.1, h.2.1.1, h.2.2⟩
set_option maxHeartbeats 8000000 in
set_option maxRecDepth 100000 in
theorem rCount_r (w : World) (dy : Nat → Bool) (vs ve : Value) (S E : List D3) (f t : D3) (okR : Bool) (hS : DQ w vs S) (hE : DQ w ve E) (hk : okR = true ↔ GoodP S E) :
    Calls Tryd.prog 15 #[rvV dy vs ve, vd f, vd t] w fun e w' => e = .returned (.tuple #[.int .i64 (countF okR dy S E f t).1, .int .i64 (countF okR dy S E f t).2]) ∧ Below w.heap.size w w' := by
  obtain ⟨W, hW⟩ : ∃ W, W = (((w.alloc (.cells (rcells dy vs ve) 25)).alloc (.cells #[.int .i64 f.1, .int .i64 f.2.1, .int .i64 f.2.2] 27)).alloc (.cells #[.int .i64 t.1, .int .i64 t.2.1, .int .i64 t.2.2] 27)) := ⟨_, rfl⟩
  have k1 : Below w.heap.size w W := by
    rw [hW]
    exact below_alloc (below_alloc (below_alloc (Below.refl _ _) _) _) _
  have hR : RuleAt W w.heap.size dy vs ve S E := by
    refine ⟨?_, hS.dl.below k1, hE.dl.below k1⟩
    rw [hW]
    exact (Below.heap_alloc _ _ _ (by simp <;> omega)).trans ((Below.heap_alloc _ _ _ (by simp)).trans (alnew w _))
  have y1 : Bx W (w.heap.size + 1) f := by
    rw [hW]
    refine (Below.heap_alloc _ _ _ (by simp)).trans ?_
    have := alnew (w.alloc (.cells (rcells dy vs ve) 25)) (.cells #[.int .i64 f.1, .int .i64 f.2.1, .int .i64 f.2.2] 27)
    rw [World.size_alloc] at this
    exact this
  have y2 : Bx W (w.heap.size + 1 + 1) t := by
    rw [hW]
    have := alnew ((w.alloc (.cells (rcells dy vs ve) 25)).alloc (.cells #[.int .i64 f.1, .int .i64 f.2.1, .int .i64 f.2.2] 27)) (.cells #[.int .i64 t.1, .int .i64 t.2.1, .int .i64 t.2.2] 27)
    rw [World.size_alloc, World.size_alloc] at this
    exact this
  have HXX : Hid (∀ w', Below W.heap.size W w' → _) := Lib.hid fun w' k => (⟨hR.all k, y1.b3 k, y2.b3 k⟩ : _ ∧ _ ∧ _)
  have HGd : Hid (∀ w', Below W.heap.size W w' → Calls Tryd.prog 27 #[rvV dy vs ve] w' fun e w'' => e = .returned (.bool okR) ∧ Below w'.heap.size w' w'') := Lib.hid fun w' k => right_r w' dy vs ve S E okR (hS.below (k1.trans (k.mono k1.size))) (hE.below (k1.trans (k.mono k1.size))) hk
  have HDf : Hid (∀ w', Calls Tryd.prog 28 #[vd f] w' fun e w'' => e = .returned (.tuple #[.int .i64 (if okD f = true then nm f else 0), .int .i64 (if okD f = true then 0 else 30)]) ∧ Below w'.heap.size w' w'') := Lib.hid fun w' => rdays_r f w'
  have HDt : Hid (∀ w', Calls Tryd.prog 28 #[vd t] w' fun e w'' => e = .returned (.tuple #[.int .i64 (if okD t = true then nm t else 0), .int .i64 (if okD t = true then 0 else 30)]) ∧ Below w'.heap.size w' w'') := Lib.hid fun w' => rdays_r t w'
  have HBt : Hid (okR = true → ∀ a b : Int, 0 ≤ a → a ≤ b → b ≤ 3652425 → ∀ w', Below W.heap.size W w' → Calls Tryd.prog 30 #[rvV dy vs ve, .int .i64 a, .int .i64 b] w' fun e w'' => e = .returned (.int .i64 (belF dy S E b - belF dy S E a)) ∧ Below w'.heap.size w' w'') :=
    Lib.hid fun hr a b h0 hab h1 w' k => between_r w' dy vs ve S E a b (hS.below (k1.trans (k.mono k1.size))) (hE.below (k1.trans (k.mono k1.size))) (hk.1 hr) h0 hab h1
  have K1 := Lib.hid k1
  have HW := Lib.hid hW
  obtain ⟨⟨r0, r1, r2, r3, r4, r5, r6, r7, r8⟩, ⟨d0, d1, d2⟩, e0, e1, e2⟩ := HXX.out W (Below.refl _ _)
  clear hS hE hk k1 hR y1 y2 hW
  go_enter Tryd.func15, Tryd.ntmps15
  go_upto_region 1 with fail
  have hw := HW.out
  unfold rcells at hw
  rw [← hw]
  clear hw HW
  cases okR
  · go_wp2_with (first
      | (go_at_call 27; (with_reducible refine (HGd.out _ (Below.refl _ _)).mono ?_); rintro ev w_HB ⟨rfl, hb⟩; have HB := Lib.hid (hb); clear hb; obtain ⟨⟨r0, r1, r2, r3, r4, r5, r6, r7, r8⟩, ⟨d0, d1, d2⟩, e0, e1, e2⟩ := HXX.out _ HB.out))
    go_ret2
    exact ⟨rfl, K1.out.trans (HB.out.mono K1.out.size)⟩
  · cases hf : okD f
    · rw [hf, if_neg (by simp), if_neg (by simp)] at HDf
      cases ht : okD t
      · rw [ht, if_neg (by simp), if_neg (by simp)] at HDt
        go_wp2_with (first
          | (go_at_call 27; (with_reducible refine (HGd.out _ (Below.refl _ _)).mono ?_); rintro ev w_HB ⟨rfl, hb⟩; have HB := Lib.hid (hb); clear hb; obtain ⟨⟨r0, r1, r2, r3, r4, r5, r6, r7, r8⟩, ⟨d0, d1, d2⟩, e0, e1, e2⟩ := HXX.out _ HB.out)
          | (go_at_call 28; (with_reducible refine (HDf.out _).mono ?_); rintro ev w_HB2 ⟨rfl, hb⟩; have HB2 := Lib.hid (below_step HB.out hb); clear hb; obtain ⟨⟨r0, r1, r2, r3, r4, r5, r6, r7, r8⟩, ⟨d0, d1, d2⟩, e0, e1, e2⟩ := HXX.out _ HB2.out)
          | (go_at_call 28; (with_reducible refine (HDt.out _).mono ?_); rintro ev w_HB3 ⟨rfl, hb⟩; have HB3 := Lib.hid (below_step HB2.out hb); clear hb; obtain ⟨⟨r0, r1, r2, r3, r4, r5, r6, r7, r8⟩, ⟨d0, d1, d2⟩, e0, e1, e2⟩ := HXX.out _ HB3.out))
        go_ret2
        exact ⟨by simp [countF, hf], K1.out.trans (HB3.out.mono K1.out.size)⟩
      · rw [ht, if_pos rfl, if_pos rfl] at HDt
        go_wp2_with (first
          | (go_at_call 27; (with_reducible refine (HGd.out _ (Below.refl _ _)).mono ?_); rintro ev w_HB ⟨rfl, hb⟩; have HB := Lib.hid (hb); clear hb; obtain ⟨⟨r0, r1, r2, r3, r4, r5, r6, r7, r8⟩, ⟨d0, d1, d2⟩, e0, e1, e2⟩ := HXX.out _ HB.out)
          | (go_at_call 28; (with_reducible refine (HDf.out _).mono ?_); rintro ev w_HB2 ⟨rfl, hb⟩; have HB2 := Lib.hid (below_step HB.out hb); clear hb; obtain ⟨⟨r0, r1, r2, r3, r4, r5, r6, r7, r8⟩, ⟨d0, d1, d2⟩, e0, e1, e2⟩ := HXX.out _ HB2.out)
          | (go_at_call 28; (with_reducible refine (HDt.out _).mono ?_); rintro ev w_HB3 ⟨rfl, hb⟩; have HB3 := Lib.hid (below_step HB2.out hb); clear hb; obtain ⟨⟨r0, r1, r2, r3, r4, r5, r6, r7, r8⟩, ⟨d0, d1, d2⟩, e0, e1, e2⟩ := HXX.out _ HB3.out))
        go_ret2
        exact ⟨by simp [countF, hf], K1.out.trans (HB3.out.mono K1.out.size)⟩
    · rw [hf, if_pos rfl, if_pos rfl] at HDf
      cases ht : okD t
      · rw [ht, if_neg (by simp), if_neg (by simp)] at HDt
        go_wp2_with (first
          | (go_at_call 27; (with_reducible refine (HGd.out _ (Below.refl _ _)).mono ?_); rintro ev w_HB ⟨rfl, hb⟩; have HB := Lib.hid (hb); clear hb; obtain ⟨⟨r0, r1, r2, r3, r4, r5, r6, r7, r8⟩, ⟨d0, d1, d2⟩, e0, e1, e2⟩ := HXX.out _ HB.out)
          | (go_at_call 28; (with_reducible refine (HDf.out _).mono ?_); rintro ev w_HB2 ⟨rfl, hb⟩; have HB2 := Lib.hid (below_step HB.out hb); clear hb; obtain ⟨⟨r0, r1, r2, r3, r4, r5, r6, r7, r8⟩, ⟨d0, d1, d2⟩, e0, e1, e2⟩ := HXX.out _ HB2.out)
          | (go_at_call 28; (with_reducible refine (HDt.out _).mono ?_); rintro ev w_HB3 ⟨rfl, hb⟩; have HB3 := Lib.hid (below_step HB2.out hb); clear hb; obtain ⟨⟨r0, r1, r2, r3, r4, r5, r6, r7, r8⟩, ⟨d0, d1, d2⟩, e0, e1, e2⟩ := HXX.out _ HB3.out))
        go_ret2
        exact ⟨by simp [countF, hf, ht], K1.out.trans (HB3.out.mono K1.out.size)⟩
      · rw [ht, if_pos rfl, if_pos rfl] at HDt
        have HCf := Lib.hid (show countF true dy S E f t = (if nm t < nm f then (0, 2) else (belF dy S E (nm t) - belF dy S E (nm f), 0)) by simp [countF, hf, ht])
        obtain ⟨f1, f2⟩ := nm_bd hf
        obtain ⟨t1, t2⟩ := nm_bd ht
        by_cases hlt : nm t < nm f
        · have z1 : decide (nm t < nm f) = true := decide_eq_true hlt
          go_wp2_with (first
            | (go_at_call 27; (with_reducible refine (HGd.out _ (Below.refl _ _)).mono ?_); rintro ev w_HB ⟨rfl, hb⟩; have HB := Lib.hid (hb); clear hb; obtain ⟨⟨r0, r1, r2, r3, r4, r5, r6, r7, r8⟩, ⟨d0, d1, d2⟩, e0, e1, e2⟩ := HXX.out _ HB.out)
            | (go_at_call 28; (with_reducible refine (HDf.out _).mono ?_); rintro ev w_HB2 ⟨rfl, hb⟩; have HB2 := Lib.hid (below_step HB.out hb); clear hb; obtain ⟨⟨r0, r1, r2, r3, r4, r5, r6, r7, r8⟩, ⟨d0, d1, d2⟩, e0, e1, e2⟩ := HXX.out _ HB2.out)
            | (go_at_call 28; (with_reducible refine (HDt.out _).mono ?_); rintro ev w_HB3 ⟨rfl, hb⟩; have HB3 := Lib.hid (below_step HB2.out hb); clear hb; obtain ⟨⟨r0, r1, r2, r3, r4, r5, r6, r7, r8⟩, ⟨d0, d1, d2⟩, e0, e1, e2⟩ := HXX.out _ HB3.out))
          go_ret2
          exact ⟨by rw [HCf.out, if_pos hlt]; rfl, K1.out.trans (HB3.out.mono K1.out.size)⟩
        · have z1 : decide (nm t < nm f) = false := decide_eq_false hlt
          have HBb := Lib.hid (HBt.out rfl (nm f) (nm t) f1 (by omega) (by omega))
          go_wp2_with (first
            | (go_at_call 27; (with_reducible refine (HGd.out _ (Below.refl _ _)).mono ?_); rintro ev w_HB ⟨rfl, hb⟩; have HB := Lib.hid (hb); clear hb; obtain ⟨⟨r0, r1, r2, r3, r4, r5, r6, r7, r8⟩, ⟨d0, d1, d2⟩, e0, e1, e2⟩ := HXX.out _ HB.out)
            | (go_at_call 28; (with_reducible refine (HDf.out _).mono ?_); rintro ev w_HB2 ⟨rfl, hb⟩; have HB2 := Lib.hid (below_step HB.out hb); clear hb; obtain ⟨⟨r0, r1, r2, r3, r4, r5, r6, r7, r8⟩, ⟨d0, d1, d2⟩, e0, e1, e2⟩ := HXX.out _ HB2.out)
            | (go_at_call 28; (with_reducible refine (HDt.out _).mono ?_); rintro ev w_HB3 ⟨rfl, hb⟩; have HB3 := Lib.hid (below_step HB2.out hb); clear hb; obtain ⟨⟨r0, r1, r2, r3, r4, r5, r6, r7, r8⟩, ⟨d0, d1, d2⟩, e0, e1, e2⟩ := HXX.out _ HB3.out)
            | (go_at_call 30; (with_reducible refine (HBb.out _ HB3.out).mono ?_); rintro ev w_HB4 ⟨rfl, hb⟩; have HB4 := Lib.hid (below_step HB3.out hb); clear hb; obtain ⟨⟨r0, r1, r2, r3, r4, r5, r6, r7, r8⟩, ⟨d0, d1, d2⟩, e0, e1, e2⟩ := HXX.out _ HB4.out))
          go_ret2
          exact ⟨by rw [HCf.out, if_neg (by omega)]; rfl, K1.out.trans (HB4.out.mono K1.out.size)⟩
set_option maxHeartbeats 8000000 in
set_option maxRecDepth 100000 in
theorem rMove_r (w : World) (dy : Nat → Bool) (vs ve : Value) (S E : List D3) (t : D3) (n : Int) (okR : Bool) (hS : DQ w vs S) (hE : DQ w ve E) (hk : okR = true ↔ GoodP S E) :
    Calls Tryd.prog 14 #[rvV dy vs ve, vd t, .int .i64 n] w fun e w' => ∃ d c, MoveR okR dy S E t n d c ∧ e = .returned (.tuple #[vd d, .int .i64 c]) ∧ Below w.heap.size w w' := by
  obtain ⟨W, hW⟩ : ∃ W, W = ((((w.alloc (.cells (rcells dy vs ve) 25)).alloc (.cells #[.int .i64 t.1, .int .i64 t.2.1, .int .i64 t.2.2] 27)).alloc (.cells #[.int .i64 0, .int .i64 0, .int .i64 0] 27)).alloc (.cells #[.int .i64 0, .int .i64 0, .int .i64 0] 27)) := ⟨_, rfl⟩
  have k1 : Below w.heap.size w W := by
    rw [hW]
    exact below_alloc (below_alloc (below_alloc (below_alloc (Below.refl _ _) _) _) _) _
  have hR : RuleAt W w.heap.size dy vs ve S E := by
    refine ⟨?_, hS.dl.below k1, hE.dl.below k1⟩
    rw [hW]
    exact (Below.heap_alloc _ _ _ (by simp <;> omega)).trans ((Below.heap_alloc _ _ _ (by simp <;> omega)).trans ((Below.heap_alloc _ _ _ (by simp)).trans (alnew w _)))
  have y1 : Bx W (w.heap.size + 1) t := by
    rw [hW]
    refine (Below.heap_alloc _ _ _ (by simp <;> omega)).trans ((Below.heap_alloc _ _ _ (by simp)).trans ?_)
    have := alnew (w.alloc (.cells (rcells dy vs ve) 25)) (.cells #[.int .i64 t.1, .int .i64 t.2.1, .int .i64 t.2.2] 27)
    rw [World.size_alloc] at this
    exact this
  have y2 : Bx W (w.heap.size + 1 + 1) (0, 0, 0) := by
    rw [hW]
    refine (Below.heap_alloc _ _ _ (by simp)).trans ?_
    have := alnew ((w.alloc (.cells (rcells dy vs ve) 25)).alloc (.cells #[.int .i64 t.1, .int .i64 t.2.1, .int .i64 t.2.2] 27)) (.cells #[.int .i64 0, .int .i64 0, .int .i64 0] 27)
    rw [World.size_alloc, World.size_alloc] at this
    exact this
  have y3 : Bx W (w.heap.size + 1 + 1 + 1) (0, 0, 0) := by
    rw [hW]
    have := alnew (((w.alloc (.cells (rcells dy vs ve) 25)).alloc (.cells #[.int .i64 t.1, .int .i64 t.2.1, .int .i64 t.2.2] 27)).alloc (.cells #[.int .i64 0, .int .i64 0, .int .i64 0] 27)) (.cells #[.int .i64 0, .int .i64 0, .int .i64 0] 27)
    rw [World.size_alloc, World.size_alloc, World.size_alloc] at this
    exact this
  have HZ : Hid (∀ w', Below W.heap.size W w' → Bx w' (w.heap.size + 1 + 1) (0, 0, 0)) := Lib.hid fun w' k => y2.below k
  have HXX : Hid (∀ w', Below W.heap.size W w' → _) := Lib.hid fun w' k => (⟨hR.all k, y1.b3 k, y2.b3 k, frz3 (y2.below k), y3.b3 k⟩ : _ ∧ _ ∧ _ ∧ (w'.frozen? ⟨w.heap.size + 1 + 1, 0, none⟩ = false ∧ w'.frozen? ⟨w.heap.size + 1 + 1, 1, none⟩ = false ∧ w'.frozen? ⟨w.heap.size + 1 + 1, 2, none⟩ = false) ∧ _)
  have HGd : Hid (∀ w', Below W.heap.size W w' → Calls Tryd.prog 27 #[rvV dy vs ve] w' fun e w'' => e = .returned (.bool okR) ∧ Below w'.heap.size w' w'') := Lib.hid fun w' k => right_r w' dy vs ve S E okR (hS.below (k1.trans (k.mono k1.size))) (hE.below (k1.trans (k.mono k1.size))) hk
  have HDa : Hid (∀ w', Calls Tryd.prog 28 #[vd t] w' fun e w'' => e = .returned (.tuple #[.int .i64 (if okD t = true then nm t else 0), .int .i64 (if okD t = true then 0 else 30)]) ∧ Below w'.heap.size w' w'') := Lib.hid fun w' => rdays_r t w'
  have HDt : Hid (∀ i : Int, 0 ≤ i → i ≤ 3652424 → ∀ w', Calls Tryd.prog 31 #[.int .i64 i] w' fun e w'' => e = .returned (vd (dt i)) ∧ Below w'.heap.size w' w'') := Lib.hid fun i h0 h1 w' => rdate_r i h0 h1 w'
  have HOp : Hid (okR = true → okD t = true → ∀ w', Below W.heap.size W w' → Calls Tryd.prog 29 #[rvV dy vs ve, .int .i64 (nm t)] w' fun e w'' => e = .returned (.bool (opn dy S E (nm t))) ∧ Below w'.heap.size w' w'') :=
    Lib.hid fun hr ht w' k => ropen_r w' dy vs ve S E (nm t) (hS.below (k1.trans (k.mono k1.size))) (hE.below (k1.trans (k.mono k1.size))) (hk.1 hr) (nm_bd ht).1 (nm_bd ht).2
  have HBt : Hid (okR = true → ∀ a b : Int, 0 ≤ a → a ≤ b → b ≤ 3652425 → ∀ w', Below W.heap.size W w' → Calls Tryd.prog 30 #[rvV dy vs ve, .int .i64 a, .int .i64 b] w' fun e w'' => e = .returned (.int .i64 (belF dy S E b - belF dy S E a)) ∧ Below w'.heap.size w' w'') :=
    Lib.hid fun hr a b h0 hab h1 w' k => between_r w' dy vs ve S E a b (hS.below (k1.trans (k.mono k1.size))) (hE.below (k1.trans (k.mono k1.size))) (hk.1 hr) h0 hab h1
  have HBd : Hid (okR = true → ∀ n, 0 ≤ n → n ≤ 3652425 → -1000 ≤ belF dy S E n ∧ belF dy S E n ≤ 4000000) := Lib.hid fun hr n h0 h1 => belF_bd (goodP_R (hk.1 hr)) h0 h1
  have HBz : Hid (okR = true → belF dy S E 0 = 0) := Lib.hid fun hr => bel_zero dy (goodP_R (hk.1 hr))
  have HBm : Hid (okR = true → ∀ a b : Int, 0 ≤ a → a ≤ b → belF dy S E a ≤ belF dy S E b) := Lib.hid fun hr a b h0 hab => bel_le (goodP_R (hk.1 hr)) h0 hab
  have HMR : Hid (∀ d c, MoveR okR dy S E t n d c = MoveR okR dy S E t n d c) := Lib.hid fun _ _ => rfl
  have K1 := Lib.hid k1
  have HW := Lib.hid hW
  obtain ⟨⟨r0, r1, r2, r3, r4, r5, r6, r7, r8⟩, ⟨d0, d1, d2⟩, ⟨e0, e1, e2⟩, ⟨f0, f1, f2⟩, n0, n1, n2⟩ := HXX.out W (Below.refl _ _)
  clear hS hE hk k1 hR y1 y2 y3 hW
  go_enter Tryd.func14, Tryd.ntmps14
  go_upto_region 2 with fail
  have hw := HW.out
  unfold rcells at hw
  rw [← hw]
  clear hw HW
  cases okR
  · go_wp2_with (first
      | (go_at_call 27; (with_reducible refine (HGd.out _ (Below.refl _ _)).mono ?_); rintro ev w_HB ⟨rfl, hb⟩; have HB := Lib.hid (hb); clear hb; obtain ⟨⟨r0, r1, r2, r3, r4, r5, r6, r7, r8⟩, ⟨d0, d1, d2⟩, ⟨e0, e1, e2⟩, ⟨f0, f1, f2⟩, n0, n1, n2⟩ := HXX.out _ HB.out))
    have hz := HZ.out _ HB.out
    refine bodyPost_ret (results_ct rfl _ _ (w.heap.size + 1 + 1) 27 #[.int .i64 0, .int .i64 0, .int .i64 0] (0, 0) _ rfl (stored3 hz) Tryd.underlying27 rfl rfl) rfl ?_
    exact ⟨(0, 0, 0), _, .inl ⟨rfl, rfl, rfl⟩, rfl, (((K1.out.trans (HB.out.mono K1.out.size)).setCell (by show w.heap.size ≤ w.heap.size + 1 + 1; omega) _).setCell (by show w.heap.size ≤ w.heap.size + 1 + 1; omega) _).setCell (by show w.heap.size ≤ w.heap.size + 1 + 1; omega) _⟩
  · cases ht : okD t
    · rw [ht, if_neg (by simp), if_neg (by simp)] at HDa
      go_wp2_with (first
        | (go_at_call 27; (with_reducible refine (HGd.out _ (Below.refl _ _)).mono ?_); rintro ev w_HB ⟨rfl, hb⟩; have HB := Lib.hid (hb); clear hb; obtain ⟨⟨r0, r1, r2, r3, r4, r5, r6, r7, r8⟩, ⟨d0, d1, d2⟩, ⟨e0, e1, e2⟩, ⟨f0, f1, f2⟩, n0, n1, n2⟩ := HXX.out _ HB.out)
        | (go_at_call 28; (with_reducible refine (HDa.out _).mono ?_); rintro ev w_HB2 ⟨rfl, hb⟩; have HB2 := Lib.hid (below_step HB.out hb); clear hb; obtain ⟨⟨r0, r1, r2, r3, r4, r5, r6, r7, r8⟩, ⟨d0, d1, d2⟩, ⟨e0, e1, e2⟩, ⟨f0, f1, f2⟩, n0, n1, n2⟩ := HXX.out _ HB2.out))
      have hz := HZ.out _ HB2.out
      refine bodyPost_ret (results_ct rfl _ _ (w.heap.size + 1 + 1) 27 #[.int .i64 0, .int .i64 0, .int .i64 0] (0, 0) _ rfl (stored3 hz) Tryd.underlying27 rfl rfl) rfl ?_
      exact ⟨(0, 0, 0), _, .inr (.inl ⟨rfl, ht, rfl, rfl⟩), rfl, (((K1.out.trans (HB2.out.mono K1.out.size)).setCell (by show w.heap.size ≤ w.heap.size + 1 + 1; omega) _).setCell (by show w.heap.size ≤ w.heap.size + 1 + 1; omega) _).setCell (by show w.heap.size ≤ w.heap.size + 1 + 1; omega) _⟩
    · rw [ht, if_pos rfl, if_pos rfl] at HDa
      have HT := Lib.hid ht
      have HO2 := Lib.hid (HOp.out rfl ht)
      have HBt' := Lib.hid (HBt.out rfl)
      have HBd' := Lib.hid (HBd.out rfl)
      have HBz' := Lib.hid (HBz.out rfl)
      have HBm' := Lib.hid (HBm.out rfl)
      obtain ⟨t1, t2⟩ := nm_bd ht
      clear HOp HBt HBd HBz HBm ht
      by_cases hlo : n < -100000
      · have z1 : decide (n < -100000) = true := decide_eq_true hlo
        go_wp2_with (first
          | (go_at_call 27; (with_reducible refine (HGd.out _ (Below.refl _ _)).mono ?_); rintro ev w_HB ⟨rfl, hb⟩; have HB := Lib.hid (hb); clear hb; obtain ⟨⟨r0, r1, r2, r3, r4, r5, r6, r7, r8⟩, ⟨d0, d1, d2⟩, ⟨e0, e1, e2⟩, ⟨f0, f1, f2⟩, n0, n1, n2⟩ := HXX.out _ HB.out)
          | (go_at_call 28; (with_reducible refine (HDa.out _).mono ?_); rintro ev w_HB2 ⟨rfl, hb⟩; have HB2 := Lib.hid (below_step HB.out hb); clear hb; obtain ⟨⟨r0, r1, r2, r3, r4, r5, r6, r7, r8⟩, ⟨d0, d1, d2⟩, ⟨e0, e1, e2⟩, ⟨f0, f1, f2⟩, n0, n1, n2⟩ := HXX.out _ HB2.out))
        have hz := HZ.out _ HB2.out
        refine bodyPost_ret (results_ct rfl _ _ (w.heap.size + 1 + 1) 27 #[.int .i64 0, .int .i64 0, .int .i64 0] (0, 0) _ rfl (stored3 hz) Tryd.underlying27 rfl rfl) rfl ?_
        exact ⟨(0, 0, 0), _, .inr (.inr (.inl ⟨rfl, HT.out, .inl hlo, rfl, rfl⟩)), rfl, (((K1.out.trans (HB2.out.mono K1.out.size)).setCell (by show w.heap.size ≤ w.heap.size + 1 + 1; omega) _).setCell (by show w.heap.size ≤ w.heap.size + 1 + 1; omega) _).setCell (by show w.heap.size ≤ w.heap.size + 1 + 1; omega) _⟩
      · have z1 : decide (n < -100000) = false := decide_eq_false hlo
        by_cases hhi : 100000 < n
        · have z2 : decide (100000 < n) = true := decide_eq_true hhi
          have z3 : decide (n > 100000) = true := decide_eq_true hhi
          go_wp2_with (first
            | (go_at_call 27; (with_reducible refine (HGd.out _ (Below.refl _ _)).mono ?_); rintro ev w_HB ⟨rfl, hb⟩; have HB := Lib.hid (hb); clear hb; obtain ⟨⟨r0, r1, r2, r3, r4, r5, r6, r7, r8⟩, ⟨d0, d1, d2⟩, ⟨e0, e1, e2⟩, ⟨f0, f1, f2⟩, n0, n1, n2⟩ := HXX.out _ HB.out)
            | (go_at_call 28; (with_reducible refine (HDa.out _).mono ?_); rintro ev w_HB2 ⟨rfl, hb⟩; have HB2 := Lib.hid (below_step HB.out hb); clear hb; obtain ⟨⟨r0, r1, r2, r3, r4, r5, r6, r7, r8⟩, ⟨d0, d1, d2⟩, ⟨e0, e1, e2⟩, ⟨f0, f1, f2⟩, n0, n1, n2⟩ := HXX.out _ HB2.out))
          have hz := HZ.out _ HB2.out
          refine bodyPost_ret (results_ct rfl _ _ (w.heap.size + 1 + 1) 27 #[.int .i64 0, .int .i64 0, .int .i64 0] (0, 0) _ rfl (stored3 hz) Tryd.underlying27 rfl rfl) rfl ?_
          exact ⟨(0, 0, 0), _, .inr (.inr (.inl ⟨rfl, HT.out, .inr hhi, rfl, rfl⟩)), rfl, (((K1.out.trans (HB2.out.mono K1.out.size)).setCell (by show w.heap.size ≤ w.heap.size + 1 + 1; omega) _).setCell (by show w.heap.size ≤ w.heap.size + 1 + 1; omega) _).setCell (by show w.heap.size ≤ w.heap.size + 1 + 1; omega) _⟩
        · have z2 : decide (100000 < n) = false := decide_eq_false hhi
          have z3 : decide (n > 100000) = false := decide_eq_false hhi
          by_cases hn0 : n = 0
          · subst hn0
            cases hop : opn dy S E (nm t)
            · rw [hop] at HO2
              go_wp2_with (first
                | (go_at_call 27; (with_reducible refine (HGd.out _ (Below.refl _ _)).mono ?_); rintro ev w_HB ⟨rfl, hb⟩; have HB := Lib.hid (hb); clear hb; obtain ⟨⟨r0, r1, r2, r3, r4, r5, r6, r7, r8⟩, ⟨d0, d1, d2⟩, ⟨e0, e1, e2⟩, ⟨f0, f1, f2⟩, n0, n1, n2⟩ := HXX.out _ HB.out)
                | (go_at_call 28; (with_reducible refine (HDa.out _).mono ?_); rintro ev w_HB2 ⟨rfl, hb⟩; have HB2 := Lib.hid (below_step HB.out hb); clear hb; obtain ⟨⟨r0, r1, r2, r3, r4, r5, r6, r7, r8⟩, ⟨d0, d1, d2⟩, ⟨e0, e1, e2⟩, ⟨f0, f1, f2⟩, n0, n1, n2⟩ := HXX.out _ HB2.out)
                | (go_at_call 29; (with_reducible refine (HO2.out _ HB2.out).mono ?_); rintro ev w_HB3 ⟨rfl, hb⟩; have HB3 := Lib.hid (below_step HB2.out hb); clear hb; obtain ⟨⟨r0, r1, r2, r3, r4, r5, r6, r7, r8⟩, ⟨d0, d1, d2⟩, ⟨e0, e1, e2⟩, ⟨f0, f1, f2⟩, n0, n1, n2⟩ := HXX.out _ HB3.out))
              have hz := HZ.out _ HB3.out
              refine bodyPost_ret (results_ct rfl _ _ (w.heap.size + 1 + 1) 27 #[.int .i64 0, .int .i64 0, .int .i64 0] (0, 0) _ rfl (stored3 hz) Tryd.underlying27 rfl rfl) rfl ?_
              exact ⟨(0, 0, 0), _, .inr (.inr (.inr (.inr (.inl ⟨rfl, HT.out, rfl, hop, rfl, rfl⟩)))), rfl, (((K1.out.trans (HB3.out.mono K1.out.size)).setCell (by show w.heap.size ≤ w.heap.size + 1 + 1; omega) _).setCell (by show w.heap.size ≤ w.heap.size + 1 + 1; omega) _).setCell (by show w.heap.size ≤ w.heap.size + 1 + 1; omega) _⟩
            · rw [hop] at HO2
              go_wp2_with (first
                | (go_at_call 27; (with_reducible refine (HGd.out _ (Below.refl _ _)).mono ?_); rintro ev w_HB ⟨rfl, hb⟩; have HB := Lib.hid (hb); clear hb; obtain ⟨⟨r0, r1, r2, r3, r4, r5, r6, r7, r8⟩, ⟨d0, d1, d2⟩, ⟨e0, e1, e2⟩, ⟨f0, f1, f2⟩, n0, n1, n2⟩ := HXX.out _ HB.out)
                | (go_at_call 28; (with_reducible refine (HDa.out _).mono ?_); rintro ev w_HB2 ⟨rfl, hb⟩; have HB2 := Lib.hid (below_step HB.out hb); clear hb; obtain ⟨⟨r0, r1, r2, r3, r4, r5, r6, r7, r8⟩, ⟨d0, d1, d2⟩, ⟨e0, e1, e2⟩, ⟨f0, f1, f2⟩, n0, n1, n2⟩ := HXX.out _ HB2.out)
                | (go_at_call 29; (with_reducible refine (HO2.out _ HB2.out).mono ?_); rintro ev w_HB3 ⟨rfl, hb⟩; have HB3 := Lib.hid (below_step HB2.out hb); clear hb; obtain ⟨⟨r0, r1, r2, r3, r4, r5, r6, r7, r8⟩, ⟨d0, d1, d2⟩, ⟨e0, e1, e2⟩, ⟨f0, f1, f2⟩, n0, n1, n2⟩ := HXX.out _ HB3.out))
              have hz := HZ.out _ HB3.out
              refine bodyPost_ret (results_ct rfl _ _ (w.heap.size + 1 + 1) 27 #[.int .i64 t.1, .int .i64 t.2.1, .int .i64 t.2.2] (0, 0) _ rfl (stored3 hz) Tryd.underlying27 rfl rfl) rfl ?_
              exact ⟨t, _, .inr (.inr (.inr (.inl ⟨rfl, HT.out, rfl, hop, rfl, rfl⟩))), rfl, (((K1.out.trans (HB3.out.mono K1.out.size)).setCell (by show w.heap.size ≤ w.heap.size + 1 + 1; omega) _).setCell (by show w.heap.size ≤ w.heap.size + 1 + 1; omega) _).setCell (by show w.heap.size ≤ w.heap.size + 1 + 1; omega) _⟩
          · have z4 : (n == 0) = false := by simpa using hn0
            have z5 : decide (n = 0) = false := decide_eq_false hn0
            obtain ⟨B, hB⟩ : ∃ B : Int → Int, B = belF dy S E := ⟨_, rfl⟩
            rw [← hB] at HBt' HBd' HBz' HBm'
            obtain ⟨at_, hat⟩ : ∃ x, x = nm t := ⟨_, rfl⟩
            have HAt := Lib.hid hat
            rw [← hat] at t1 t2 HDa
            have HTg := Lib.hid (show targ dy S E at_ n = if 0 < n then B (at_ + 1) + n else B at_ + n + 1 by rw [hB]; rfl)
            have HBB := Lib.hid hB
            clear hB hat HO2
            by_cases hpos : 0 < n
            · have z6 : decide (0 < n) = true := decide_eq_true hpos
              have z7 : decide (n > 0) = true := decide_eq_true hpos
              have q1 := HBd'.out (at_ + 1) (by omega) (by omega)
              have q2 := HBd'.out 3652425 (by omega) (by omega)
              have q3 := HBm'.out 0 (at_ + 1) (by omega) (by omega)
              rw [HBz'.out] at q3
              have HBa := Lib.hid (HBt'.out (at_ + 1) 3652425 (by omega) (by omega) (by omega))
              have HTg' := Lib.hid (HTg.out.trans (if_pos hpos))
              obtain ⟨v, hv⟩ : ∃ v, v = B 3652425 - B (at_ + 1) := ⟨_, rfl⟩
              rw [← hv] at HBa
              have ba : -5000000 ≤ v ∧ v ≤ 5000000 := by omega
              obtain ⟨ba1, ba2⟩ := ba
              have HV := Lib.hid hv
              have HQ3 := Lib.hid q3
              clear q1 q2 q3 hv
              by_cases hr : v < n
              · have z8 : decide (v < n) = true := decide_eq_true hr
                go_wp2_with (first
                  | (go_at_call 27; (with_reducible refine (HGd.out _ (Below.refl _ _)).mono ?_); rintro ev w_HB ⟨rfl, hb⟩; have HB := Lib.hid (hb); clear hb; obtain ⟨⟨r0, r1, r2, r3, r4, r5, r6, r7, r8⟩, ⟨d0, d1, d2⟩, ⟨e0, e1, e2⟩, ⟨f0, f1, f2⟩, n0, n1, n2⟩ := HXX.out _ HB.out)
                  | (go_at_call 28; (with_reducible refine (HDa.out _).mono ?_); rintro ev w_HB2 ⟨rfl, hb⟩; have HB2 := Lib.hid (below_step HB.out hb); clear hb; obtain ⟨⟨r0, r1, r2, r3, r4, r5, r6, r7, r8⟩, ⟨d0, d1, d2⟩, ⟨e0, e1, e2⟩, ⟨f0, f1, f2⟩, n0, n1, n2⟩ := HXX.out _ HB2.out)
                  | (go_at_call 30; (with_reducible refine (HBa.out _ HB2.out).mono ?_); rintro ev w_HB3 ⟨rfl, hb⟩; have HB3 := Lib.hid (below_step HB2.out hb); clear hb; obtain ⟨⟨r0, r1, r2, r3, r4, r5, r6, r7, r8⟩, ⟨d0, d1, d2⟩, ⟨e0, e1, e2⟩, ⟨f0, f1, f2⟩, n0, n1, n2⟩ := HXX.out _ HB3.out))
                have hh : B 3652425 < targ dy S E (nm t) n := by
                  rw [← HAt.out, HTg'.out]
                  have := HV.out
                  omega
                rw [HBB.out] at hh
                have hz := HZ.out _ HB3.out
                refine bodyPost_ret (results_ct rfl _ _ (w.heap.size + 1 + 1) 27 #[.int .i64 0, .int .i64 0, .int .i64 0] (0, 0) _ rfl (stored3 hz) Tryd.underlying27 rfl rfl) rfl ?_
                exact ⟨(0, 0, 0), _, .inr (.inr (.inr (.inr (.inr (.inl ⟨rfl, HT.out, ⟨by omega, by omega⟩, hn0, .inr hh, rfl, rfl⟩))))), rfl, (((K1.out.trans (HB3.out.mono K1.out.size)).setCell (by show w.heap.size ≤ w.heap.size + 1 + 1; omega) _).setCell (by show w.heap.size ≤ w.heap.size + 1 + 1; omega) _).setCell (by show w.heap.size ≤ w.heap.size + 1 + 1; omega) _⟩
              · have z8 : decide (v < n) = false := decide_eq_false hr
                have hat1 : at_ + 1 ≤ 3652424 := by
                  rcases (show at_ + 1 = 3652425 ∨ at_ + 1 ≤ 3652424 by omega) with e | e
                  · have h := HV.out
                    rw [e] at h
                    omega
                  · exact e
                go_wp2_with (first
                  | (go_at_call 27; (with_reducible refine (HGd.out _ (Below.refl _ _)).mono ?_); rintro ev w_HB ⟨rfl, hb⟩; have HB := Lib.hid (hb); clear hb; obtain ⟨⟨r0, r1, r2, r3, r4, r5, r6, r7, r8⟩, ⟨d0, d1, d2⟩, ⟨e0, e1, e2⟩, ⟨f0, f1, f2⟩, n0, n1, n2⟩ := HXX.out _ HB.out)
                  | (go_at_call 28; (with_reducible refine (HDa.out _).mono ?_); rintro ev w_HB2 ⟨rfl, hb⟩; have HB2 := Lib.hid (below_step HB.out hb); clear hb; obtain ⟨⟨r0, r1, r2, r3, r4, r5, r6, r7, r8⟩, ⟨d0, d1, d2⟩, ⟨e0, e1, e2⟩, ⟨f0, f1, f2⟩, n0, n1, n2⟩ := HXX.out _ HB2.out)
                  | (go_at_call 30; (with_reducible refine (HBa.out _ HB2.out).mono ?_); rintro ev w_HB3 ⟨rfl, hb⟩; have HB3 := Lib.hid (below_step HB2.out hb); clear hb; obtain ⟨⟨r0, r1, r2, r3, r4, r5, r6, r7, r8⟩, ⟨d0, d1, d2⟩, ⟨e0, e1, e2⟩, ⟨f0, f1, f2⟩, n0, n1, n2⟩ := HXX.out _ HB3.out))
                clear r0 r1 r2 r3 r4 r5 r6 r7 r8 d0 d1 d2 e0 e1 e2 f0 f1 f2 n0 n1 n2
                go_loopw [12, 13, 14] (fun lo hi m wr => ∃ l h : Int, at_ + 1 ≤ l ∧ l ≤ h ∧ h ≤ 3652424 ∧ lo = .int .i64 l ∧ hi = .int .i64 h ∧ Hid (Below W.heap.size W wr) ∧ Hid ((at_ + 1 < l → B l < B (at_ + 1) + n) ∧ (h < 3652424 → B (at_ + 1) + n ≤ B (h + 1)))) (fun lo hi _ _ => (intOf hi - intOf lo).toNat)
                case atStart => exact ⟨at_ + 1, 3652424, by omega, hat1, by omega, rfl, rfl, HB3, Lib.hid ⟨fun z => absurd z (by omega), fun z => absurd z (by omega)⟩⟩
                case round =>
                  clear HB HB2 HB3
                  obtain ⟨l, h, c1, c2, c3, rfl, rfl, HB, HI⟩ := hrel
                  obtain ⟨⟨r0, r1, r2, r3, r4, r5, r6, r7, r8⟩, ⟨d0, d1, d2⟩, ⟨e0, e1, e2⟩, ⟨f0, f1, f2⟩, n0, n1, n2⟩ := HXX.out _ HB.out
                  by_cases hlt : l < h
                  · have t1' : decide (l < h) = true := decide_eq_true hlt
                    have qd : Int.tdiv (l + h) 2 = (l + h) / 2 := td _ 2 (by omega)
                    obtain ⟨md, hmd⟩ : ∃ md, (l + h) / 2 = md := ⟨_, rfl⟩
                    have hm1 : l ≤ md := by omega
                    have hm2 : md < h := by omega
                    rw [hmd] at qd
                    have q1 := HBd'.out (at_ + 1) (by omega) (by omega)
                    have q2 := HBd'.out (md + 1) (by omega) (by omega)
                    have HBc := Lib.hid (HBt'.out (at_ + 1) (md + 1) (by omega) (by omega) (by omega))
                    obtain ⟨u, hu⟩ : ∃ u, u = B (md + 1) - B (at_ + 1) := ⟨_, rfl⟩
                    rw [← hu] at HBc
                    have bu : -5000000 ≤ u ∧ u ≤ 5000000 := by omega
                    obtain ⟨bu1, bu2⟩ := bu
                    have HU := Lib.hid hu
                    clear q1 q2 hu hmd
                    by_cases hge : n ≤ u
                    · have z9 : decide (n ≤ u) = true := decide_eq_true hge
                      have z9' : decide (u ≥ n) = true := decide_eq_true hge
                      go_wp2_with (first
                        | (go_at_call 30; (with_reducible refine (HBc.out _ HB.out).mono ?_); rintro ev w_HB2 ⟨rfl, hb⟩; have HB2 := Lib.hid (below_step HB.out hb); clear hb; obtain ⟨⟨r0, r1, r2, r3, r4, r5, r6, r7, r8⟩, ⟨d0, d1, d2⟩, ⟨e0, e1, e2⟩, ⟨f0, f1, f2⟩, n0, n1, n2⟩ := HXX.out _ HB2.out))
                      go_roundw
                      case rel => exact ⟨l, md, c1, hm1, by omega, rfl, rfl, HB2, Lib.hid ⟨HI.out.1, fun _ => by have := HU.out; omega⟩⟩
                      case measure => simp [intOf]; omega
                    · have z9 : decide (n ≤ u) = false := decide_eq_false hge
                      have z9' : decide (u ≥ n) = false := decide_eq_false hge
                      go_wp2_with (first
                        | (go_at_call 30; (with_reducible refine (HBc.out _ HB.out).mono ?_); rintro ev w_HB2 ⟨rfl, hb⟩; have HB2 := Lib.hid (below_step HB.out hb); clear hb; obtain ⟨⟨r0, r1, r2, r3, r4, r5, r6, r7, r8⟩, ⟨d0, d1, d2⟩, ⟨e0, e1, e2⟩, ⟨f0, f1, f2⟩, n0, n1, n2⟩ := HXX.out _ HB2.out))
                      go_roundw
                      case rel => exact ⟨md + 1, h, by omega, by omega, c3, by go_num, rfl, HB2, Lib.hid ⟨fun _ => by have := HU.out; omega, HI.out.2⟩⟩
                      case measure => simp [intOf]; omega
                  · obtain rfl : l = h := by omega
                    have HDl := Lib.hid (HDt.out l (by omega) (by omega))
                    have hq := HI.out
                    have hv := HV.out
                    have hq3 := HQ3.out
                    have h1 : 1 ≤ targ dy S E (nm t) n ∧ targ dy S E (nm t) n ≤ B 3652425 := by
                      rw [← HAt.out, HTg'.out]
                      omega
                    have h2 : (0 < l → B l < targ dy S E (nm t) n) ∧ (l < 3652424 → targ dy S E (nm t) n ≤ B (l + 1)) := by
                      rw [← HAt.out, HTg'.out]
                      refine ⟨fun _ => ?_, hq.2⟩
                      rcases (show l = at_ + 1 ∨ at_ + 1 < l by omega) with e | e
                      · rw [e]
                        omega
                      · exact hq.1 e
                    rw [HBB.out] at h1 h2
                    have H1 := Lib.hid h1
                    have H2 := Lib.hid h2
                    clear hq hv h1 h2 hq3 hlt
                    go_wp2_with (first
                      | (go_at_call 31; (with_reducible refine (HDl.out _).mono ?_); rintro ev w_HB2 ⟨rfl, hb⟩; have HB2 := Lib.hid (below_step HB.out hb); clear hb; obtain ⟨⟨r0, r1, r2, r3, r4, r5, r6, r7, r8⟩, ⟨d0, d1, d2⟩, ⟨e0, e1, e2⟩, ⟨f0, f1, f2⟩, n0, n1, n2⟩ := HXX.out _ HB2.out))
                    have hz := HZ.out _ HB2.out
                    refine bodyPost_ret (results_ct rfl _ _ (w.heap.size + 1 + 1) 27 #[.int .i64 (dt l).1, .int .i64 (dt l).2.1, .int .i64 (dt l).2.2] (0, 0) _ rfl (stored3 hz) Tryd.underlying27 rfl rfl) rfl ?_
                    exact ⟨dt l, _, .inr (.inr (.inr (.inr (.inr (.inr ⟨rfl, HT.out, ⟨by omega, by omega⟩, hn0, H1.out, rfl, l, by omega, by omega, H2.out.1, H2.out.2, rfl⟩))))), rfl, (((K1.out.trans (HB2.out.mono K1.out.size)).setCell (by show w.heap.size ≤ w.heap.size + 1 + 1; omega) _).setCell (by show w.heap.size ≤ w.heap.size + 1 + 1; omega) _).setCell (by show w.heap.size ≤ w.heap.size + 1 + 1; omega) _⟩
            · have z6 : decide (0 < n) = false := decide_eq_false hpos
              have z7 : decide (n > 0) = false := decide_eq_false hpos
              have q1 := HBd'.out at_ (by omega) (by omega)
              have q3 := HBm'.out 0 at_ (by omega) (by omega)
              have q4 := HBm'.out at_ 3652425 (by omega) (by omega)
              have hz0 := HBz'.out
              have HBa := Lib.hid (HBt'.out 0 at_ (by omega) (by omega) (by omega))
              have HTg' := Lib.hid (HTg.out.trans (if_neg hpos))
              obtain ⟨v, hv⟩ : ∃ v, v = B at_ - B 0 := ⟨_, rfl⟩
              rw [← hv] at HBa
              have ba : -5000000 ≤ v ∧ v ≤ 5000000 := by omega
              obtain ⟨ba1, ba2⟩ := ba
              have HV : Hid (v = B at_) := Lib.hid (by omega)
              have HQ4 := Lib.hid q4
              clear q1 q3 q4 hv hz0
              have eneg : IntKind.i64.wrap (-n) = -n := IntWalk.i64_in _ (by omega)
              by_cases hr : v < -n
              · have z8 : decide (v < -n) = true := decide_eq_true hr
                go_wp2_with (first
                  | (go_at_call 27; (with_reducible refine (HGd.out _ (Below.refl _ _)).mono ?_); rintro ev w_HB ⟨rfl, hb⟩; have HB := Lib.hid (hb); clear hb; obtain ⟨⟨r0, r1, r2, r3, r4, r5, r6, r7, r8⟩, ⟨d0, d1, d2⟩, ⟨e0, e1, e2⟩, ⟨f0, f1, f2⟩, n0, n1, n2⟩ := HXX.out _ HB.out)
                  | (go_at_call 28; (with_reducible refine (HDa.out _).mono ?_); rintro ev w_HB2 ⟨rfl, hb⟩; have HB2 := Lib.hid (below_step HB.out hb); clear hb; obtain ⟨⟨r0, r1, r2, r3, r4, r5, r6, r7, r8⟩, ⟨d0, d1, d2⟩, ⟨e0, e1, e2⟩, ⟨f0, f1, f2⟩, n0, n1, n2⟩ := HXX.out _ HB2.out)
                  | (go_at_call 30; (with_reducible refine (HBa.out _ HB2.out).mono ?_); rintro ev w_HB3 ⟨rfl, hb⟩; have HB3 := Lib.hid (below_step HB2.out hb); clear hb; obtain ⟨⟨r0, r1, r2, r3, r4, r5, r6, r7, r8⟩, ⟨d0, d1, d2⟩, ⟨e0, e1, e2⟩, ⟨f0, f1, f2⟩, n0, n1, n2⟩ := HXX.out _ HB3.out))
                have hh : targ dy S E (nm t) n < 1 := by
                  rw [← HAt.out, HTg'.out]
                  have := HV.out
                  omega
                have hz := HZ.out _ HB3.out
                refine bodyPost_ret (results_ct rfl _ _ (w.heap.size + 1 + 1) 27 #[.int .i64 0, .int .i64 0, .int .i64 0] (0, 0) _ rfl (stored3 hz) Tryd.underlying27 rfl rfl) rfl ?_
                exact ⟨(0, 0, 0), _, .inr (.inr (.inr (.inr (.inr (.inl ⟨rfl, HT.out, ⟨by omega, by omega⟩, hn0, .inl hh, rfl, rfl⟩))))), rfl, (((K1.out.trans (HB3.out.mono K1.out.size)).setCell (by show w.heap.size ≤ w.heap.size + 1 + 1; omega) _).setCell (by show w.heap.size ≤ w.heap.size + 1 + 1; omega) _).setCell (by show w.heap.size ≤ w.heap.size + 1 + 1; omega) _⟩
              · have z8 : decide (v < -n) = false := decide_eq_false hr
                have hat1 : 1 ≤ at_ := by
                  rcases (show at_ = 0 ∨ 1 ≤ at_ by omega) with e | e
                  · have h := HV.out
                    rw [e, HBz'.out] at h
                    omega
                  · exact e
                go_wp2_with (first
                  | (go_at_call 27; (with_reducible refine (HGd.out _ (Below.refl _ _)).mono ?_); rintro ev w_HB ⟨rfl, hb⟩; have HB := Lib.hid (hb); clear hb; obtain ⟨⟨r0, r1, r2, r3, r4, r5, r6, r7, r8⟩, ⟨d0, d1, d2⟩, ⟨e0, e1, e2⟩, ⟨f0, f1, f2⟩, n0, n1, n2⟩ := HXX.out _ HB.out)
                  | (go_at_call 28; (with_reducible refine (HDa.out _).mono ?_); rintro ev w_HB2 ⟨rfl, hb⟩; have HB2 := Lib.hid (below_step HB.out hb); clear hb; obtain ⟨⟨r0, r1, r2, r3, r4, r5, r6, r7, r8⟩, ⟨d0, d1, d2⟩, ⟨e0, e1, e2⟩, ⟨f0, f1, f2⟩, n0, n1, n2⟩ := HXX.out _ HB2.out)
                  | (go_at_call 30; (with_reducible refine (HBa.out _ HB2.out).mono ?_); rintro ev w_HB3 ⟨rfl, hb⟩; have HB3 := Lib.hid (below_step HB2.out hb); clear hb; obtain ⟨⟨r0, r1, r2, r3, r4, r5, r6, r7, r8⟩, ⟨d0, d1, d2⟩, ⟨e0, e1, e2⟩, ⟨f0, f1, f2⟩, n0, n1, n2⟩ := HXX.out _ HB3.out))
                clear r0 r1 r2 r3 r4 r5 r6 r7 r8 d0 d1 d2 e0 e1 e2 f0 f1 f2 n0 n1 n2
                go_loopw [15, 16, 17] (fun lo hi m wr => ∃ l h : Int, 0 ≤ l ∧ l ≤ h ∧ h ≤ at_ - 1 ∧ lo = .int .i64 l ∧ hi = .int .i64 h ∧ Hid (Below W.heap.size W wr) ∧ Hid ((B l ≤ B at_ + n) ∧ (h < at_ - 1 → B at_ + n + 1 ≤ B (h + 1)))) (fun lo hi _ _ => (intOf hi - intOf lo).toNat)
                case atStart => exact ⟨0, at_ - 1, by omega, by omega, by omega, rfl, rfl, HB3, Lib.hid ⟨by rw [HBz'.out]; have := HV.out; omega, fun z => absurd z (by omega)⟩⟩
                case round =>
                  clear HB HB2 HB3
                  obtain ⟨l, h, c1, c2, c3, rfl, rfl, HB, HI⟩ := hrel
                  obtain ⟨⟨r0, r1, r2, r3, r4, r5, r6, r7, r8⟩, ⟨d0, d1, d2⟩, ⟨e0, e1, e2⟩, ⟨f0, f1, f2⟩, n0, n1, n2⟩ := HXX.out _ HB.out
                  by_cases hlt : l < h
                  · have t1' : decide (l < h) = true := decide_eq_true hlt
                    have qd : Int.tdiv (l + h + 1) 2 = (l + h + 1) / 2 := td _ 2 (by omega)
                    obtain ⟨md, hmd⟩ : ∃ md, (l + h + 1) / 2 = md := ⟨_, rfl⟩
                    have hm1 : l < md := by omega
                    have hm2 : md ≤ h := by omega
                    rw [hmd] at qd
                    have q1 := HBd'.out at_ (by omega) (by omega)
                    have q2 := HBd'.out md (by omega) (by omega)
                    have HBc := Lib.hid (HBt'.out md at_ (by omega) (by omega) (by omega))
                    obtain ⟨u, hu⟩ : ∃ u, u = B at_ - B md := ⟨_, rfl⟩
                    rw [← hu] at HBc
                    have bu : -5000000 ≤ u ∧ u ≤ 5000000 := by omega
                    obtain ⟨bu1, bu2⟩ := bu
                    have HU := Lib.hid hu
                    clear q1 q2 hu hmd
                    by_cases hge : -n ≤ u
                    · have z9 : decide (-n ≤ u) = true := decide_eq_true hge
                      have z9' : decide (u ≥ -n) = true := decide_eq_true hge
                      go_wp2_with (first
                        | (go_at_call 30; (with_reducible refine (HBc.out _ HB.out).mono ?_); rintro ev w_HB2 ⟨rfl, hb⟩; have HB2 := Lib.hid (below_step HB.out hb); clear hb; obtain ⟨⟨r0, r1, r2, r3, r4, r5, r6, r7, r8⟩, ⟨d0, d1, d2⟩, ⟨e0, e1, e2⟩, ⟨f0, f1, f2⟩, n0, n1, n2⟩ := HXX.out _ HB2.out))
                      go_roundw
                      case rel => exact ⟨md, h, by omega, hm2, c3, rfl, rfl, HB2, Lib.hid ⟨by have := HU.out; omega, HI.out.2⟩⟩
                      case measure => simp [intOf]; omega
                    · have z9 : decide (-n ≤ u) = false := decide_eq_false hge
                      have z9' : decide (u ≥ -n) = false := decide_eq_false hge
                      go_wp2_with (first
                        | (go_at_call 30; (with_reducible refine (HBc.out _ HB.out).mono ?_); rintro ev w_HB2 ⟨rfl, hb⟩; have HB2 := Lib.hid (below_step HB.out hb); clear hb; obtain ⟨⟨r0, r1, r2, r3, r4, r5, r6, r7, r8⟩, ⟨d0, d1, d2⟩, ⟨e0, e1, e2⟩, ⟨f0, f1, f2⟩, n0, n1, n2⟩ := HXX.out _ HB2.out))
                      go_roundw
                      case rel => exact ⟨l, md - 1, c1, by omega, by omega, rfl, by go_num, HB2, Lib.hid ⟨HI.out.1, fun _ => by have := HU.out; rw [show md - 1 + 1 = md by omega]; omega⟩⟩
                      case measure => simp [intOf]; omega
                  · obtain rfl : l = h := by omega
                    have HDl := Lib.hid (HDt.out l (by omega) (by omega))
                    have hq := HI.out
                    have hv := HV.out
                    have hq4 := HQ4.out
                    have h1 : 1 ≤ targ dy S E (nm t) n ∧ targ dy S E (nm t) n ≤ B 3652425 := by
                      rw [← HAt.out, HTg'.out]
                      omega
                    have h2 : (0 < l → B l < targ dy S E (nm t) n) ∧ (l < 3652424 → targ dy S E (nm t) n ≤ B (l + 1)) := by
                      rw [← HAt.out, HTg'.out]
                      refine ⟨fun _ => by omega, fun _ => ?_⟩
                      rcases (show l = at_ - 1 ∨ l < at_ - 1 by omega) with e | e
                      · rw [e, show at_ - 1 + 1 = at_ by omega]
                        omega
                      · exact hq.2 e
                    rw [HBB.out] at h1 h2
                    have H1 := Lib.hid h1
                    have H2 := Lib.hid h2
                    clear hq hv h1 h2 hq4 hlt
                    go_wp2_with (first
                      | (go_at_call 31; (with_reducible refine (HDl.out _).mono ?_); rintro ev w_HB2 ⟨rfl, hb⟩; have HB2 := Lib.hid (below_step HB.out hb); clear hb; obtain ⟨⟨r0, r1, r2, r3, r4, r5, r6, r7, r8⟩, ⟨d0, d1, d2⟩, ⟨e0, e1, e2⟩, ⟨f0, f1, f2⟩, n0, n1, n2⟩ := HXX.out _ HB2.out))
                    have hz := HZ.out _ HB2.out
                    refine bodyPost_ret (results_ct rfl _ _ (w.heap.size + 1 + 1) 27 #[.int .i64 (dt l).1, .int .i64 (dt l).2.1, .int .i64 (dt l).2.2] (0, 0) _ rfl (stored3 hz) Tryd.underlying27 rfl rfl) rfl ?_
                    exact ⟨dt l, _, .inr (.inr (.inr (.inr (.inr (.inr ⟨rfl, HT.out, ⟨by omega, by omega⟩, hn0, H1.out, rfl, l, by omega, by omega, H2.out.1, H2.out.2, rfl⟩))))), rfl, (((K1.out.trans (HB2.out.mono K1.out.size)).setCell (by show w.heap.size ≤ w.heap.size + 1 + 1; omega) _).setCell (by show w.heap.size ≤ w.heap.size + 1 + 1; omega) _).setCell (by show w.heap.size ≤ w.heap.size + 1 + 1; omega) _⟩
end Go.Proofs.YtjifinacnofmiaaDoor.Ext

/- cal's Open and Count, sort.Search over Move's closure. -/
import Derived.Test.YtjifinacnofmiaaDoorCalBw
import Derived.Test.YtjifinacnofmiaaDoorCalGd
set_option linter.unusedVariables false
set_option linter.unusedSimpArgs false
namespace Go.Proofs.YtjifinacnofmiaaDoor.Ext
open Go Go.RowKit Go.Proofs.YtjifinacnofmiaaDoorW.PrintWords Go.Proofs.YtjifinacnofmiaaDoorW.PrintLast Go.Proofs.YtjifinacnofmiaaDoor.PCal Go.Proofs.YtjifinacnofmiaaDoor.GC Go.Proofs.YtjifinacnofmiaaDoor.CalP
/-- what good answers at a rule -/
def GoodC (w : World) (rv : Value) (okR : Bool) : Prop := ∀ w1, Below w.heap.size w w1 → Calls Tryd.prog 18 #[rv] w1 fun e w' => e = .returned (.bool okR) ∧ Below w1.heap.size w1 w'
theorem goodC_right (w : World) (dy : Nat → Bool) (vs ve : Value) (S E : List D3) (hG : GlobOk w) (hS : DL w vs S) (hE : DL w ve E) (h : GoodR S E) : GoodC w (rvV dy vs ve) true :=
  fun w1 k => good_r w1 dy vs ve S E (hG.below k) (hS.below k) (hE.below k) h
theorem validC (t : D3) (w : World) (hG : GlobOk w) : Calls Tryd.prog 19 #[vd t] w fun e w' => e = .returned (.bool (okD t)) ∧ Below w.heap.size w w' :=
  cal_Valid.calls t.1 t.2.1 t.2.2 (okD t) w hG rfl
theorem RuleAt.all {w w' : World} {g : Nat} {dy : Nat → Bool} {vs ve : Value} {S E : List D3} (h : RuleAt w g dy vs ve S E) (k : Below w.heap.size w w') :
    w'.cell? ⟨g, 0, none⟩ = some (.bool (dy 0)) ∧ w'.cell? ⟨g, 1, none⟩ = some (.bool (dy 1)) ∧ w'.cell? ⟨g, 2, none⟩ = some (.bool (dy 2)) ∧ w'.cell? ⟨g, 3, none⟩ = some (.bool (dy 3)) ∧ w'.cell? ⟨g, 4, none⟩ = some (.bool (dy 4)) ∧ w'.cell? ⟨g, 5, none⟩ = some (.bool (dy 5)) ∧ w'.cell? ⟨g, 6, none⟩ = some (.bool (dy 6)) ∧ w'.cell? ⟨g, 7, none⟩ = some vs ∧ w'.cell? ⟨g, 8, none⟩ = some ve :=
  have r := h.below k
  ⟨r.day 0 (by omega), r.day 1 (by omega), r.day 2 (by omega), r.day 3 (by omega), r.day 4 (by omega), r.day 5 (by omega), r.day 6 (by omega), r.shut, r.extra⟩
def openF (okR : Bool) (dy : Nat → Bool) (S E : List D3) (t : D3) : Bool × Int := if okR = true then (if okD t = true then (opn dy S E (nm t), 0) else (false, 30)) else (false, 36)
set_option maxHeartbeats 4000000 in
set_option maxRecDepth 100000 in
theorem Open_r (w : World) (dy : Nat → Bool) (vs ve : Value) (S E : List D3) (t : D3) (okR : Bool) (hG : GlobOk w) (hS : DL w vs S) (hE : DL w ve E) (hC : GoodC w (rvV dy vs ve) okR) (hk : okR = true → GoodR S E) :
    Calls Tryd.prog 11 #[rvV dy vs ve, vd t] w fun e w' => e = .returned (.tuple #[.bool (openF okR dy S E t).1, .int .i64 (openF okR dy S E t).2]) ∧ Below w.heap.size w w' := by
  obtain ⟨W, hW⟩ : ∃ W, W = ((w.alloc (.cells (rcells dy vs ve) 25)).alloc (.cells #[.int .i64 t.1, .int .i64 t.2.1, .int .i64 t.2.2] 27)) := ⟨_, rfl⟩
  have k0 : Below w.heap.size w (w.alloc (.cells (rcells dy vs ve) 25)) := (Below.refl w.heap.size w).alloc (Nat.le_refl _) _
  have k1 : Below w.heap.size w W := by
    rw [hW]
    exact k0.alloc (by simp) _
  have hR : RuleAt W w.heap.size dy vs ve S E := by
    refine ⟨?_, hS.below k1, hE.below k1⟩
    rw [hW]
    exact (Below.heap_alloc _ _ _ (by simp)).trans (alnew w _)
  have y1 : Bx W (w.heap.size + 1) t := by
    rw [hW]
    have := alnew (w.alloc (.cells (rcells dy vs ve) 25)) (.cells #[.int .i64 t.1, .int .i64 t.2.1, .int .i64 t.2.2] 27)
    rw [World.size_alloc] at this
    exact this
  have HXX : Hid (∀ w', Below W.heap.size W w' → _) := Lib.hid fun w' k => (⟨hR.all k, y1.b3 k⟩ : _ ∧ _)
  have HGd : Hid (∀ w', Below W.heap.size W w' → Calls Tryd.prog 18 #[rvV dy vs ve] w' fun e w'' => e = .returned (.bool okR) ∧ Below w'.heap.size w' w'') := Lib.hid fun w' k => hC w' (k1.trans (k.mono k1.size))
  have HVa : Hid (∀ w', Below W.heap.size W w' → Calls Tryd.prog 19 #[vd t] w' fun e w'' => e = .returned (.bool (okD t)) ∧ Below w'.heap.size w' w'') := Lib.hid fun w' k => validC t w' (hG.below (k1.trans (k.mono k1.size)))
  have HOp : Hid (okR = true → okD t = true → ∀ w', Below W.heap.size W w' → Calls Tryd.prog 23 #[.pointer (some ⟨w.heap.size, 0, none⟩), vd t] w' fun e w'' => e = .returned (.bool (opn dy S E (nm t))) ∧ Below w'.heap.size w' w'') :=
    Lib.hid fun hr ht w' k => open_r w' w.heap.size dy vs ve S E t (hG.below (k1.trans (k.mono k1.size))) (hR.below k) (hk hr).s (hk hr).e ht
  have K1 := Lib.hid k1
  have HW := Lib.hid hW
  obtain ⟨⟨r0, r1, r2, r3, r4, r5, r6, r7, r8⟩, d0, d1, d2⟩ := HXX.out W (Below.refl _ _)
  clear hG hS hE hC hk k0 k1 hR y1 hW
  go_enter Tryd.func11, Tryd.ntmps11
  go_upto_region 1 with fail
  have hw := HW.out
  unfold rcells at hw
  rw [← hw]
  clear hw HW
  cases okR
  · go_wp2_with (first
      | (go_at_call 18; (with_reducible refine (HGd.out _ (Below.refl _ _)).mono ?_); rintro ev w2 ⟨rfl, hb⟩; have HB := Lib.hid hb; clear hb))
    go_ret2
    exact ⟨rfl, K1.out.trans (HB.out.mono K1.out.size)⟩
  · cases ht : okD t
    · rw [ht] at HVa
      go_wp2_with (first
        | (go_at_call 18; (with_reducible refine (HGd.out _ (Below.refl _ _)).mono ?_); rintro ev w2 ⟨rfl, hb⟩; have HB := Lib.hid hb; clear hb; obtain ⟨⟨r0, r1, r2, r3, r4, r5, r6, r7, r8⟩, d0, d1, d2⟩ := HXX.out _ HB.out)
        | (go_at_call 19; (with_reducible refine (HVa.out _ HB.out).mono ?_); rintro ev w3 ⟨rfl, hb⟩; have HB2 := Lib.hid (below_step HB.out hb); clear hb))
      go_ret2
      exact ⟨by simp [openF, ht], K1.out.trans (HB2.out.mono K1.out.size)⟩
    · rw [ht] at HVa
      have HO2 := Lib.hid (HOp.out rfl ht)
      clear HOp
      go_wp2_with (first
        | (go_at_call 18; (with_reducible refine (HGd.out _ (Below.refl _ _)).mono ?_); rintro ev w2 ⟨rfl, hb⟩; have HB := Lib.hid hb; clear hb; obtain ⟨⟨r0, r1, r2, r3, r4, r5, r6, r7, r8⟩, d0, d1, d2⟩ := HXX.out _ HB.out)
        | (go_at_call 19; (with_reducible refine (HVa.out _ HB.out).mono ?_); rintro ev w3 ⟨rfl, hb⟩; have HB2 := Lib.hid (below_step HB.out hb); clear hb; obtain ⟨⟨r0, r1, r2, r3, r4, r5, r6, r7, r8⟩, d0, d1, d2⟩ := HXX.out _ HB2.out)
        | (go_at_call 23; (with_reducible refine (HO2.out _ HB2.out).mono ?_); rintro ev w4 ⟨rfl, hb⟩; have HB3 := Lib.hid (below_step HB2.out hb); clear hb))
      go_ret2
      exact ⟨by simp [openF, ht], K1.out.trans (HB3.out.mono K1.out.size)⟩
set_option maxHeartbeats 4000000 in
set_option maxRecDepth 100000 in
theorem bsearch_r (N : Int) (hN0 : 0 ≤ N) (hN1 : N ≤ 4000000) (r tb : Value) (p : Int → Bool) (w : World) (hp : ∀ x w1, 0 ≤ x → x < N → Below w.heap.size w w1 → Calls Tryd.prog 26 #[.int .i64 x, r, tb] w1 fun e w' => e = .returned (.bool (p x)) ∧ Below w1.heap.size w1 w') :
    Calls Tryd.prog 25 #[.int .i64 N, .func (.func 26) #[] #[r, tb]] w fun e w' => ∃ i, e = .returned (.int .i64 i) ∧ Below w.heap.size w w' ∧ 0 ≤ i ∧ i ≤ N ∧ (0 < i → p (i - 1) = false) ∧ (i < N → p i = true) := by
  have HP := Lib.hid hp
  have eg := enters_of Tryd.func26 (by kernel_rfl) rfl
  clear hp
  go_enter Tryd.func25, Tryd.ntmps25
  go_wp2
  go_loopw [5, 6, 7] (fun i j _ wr => ∃ lo hi : Int, 0 ≤ lo ∧ lo ≤ hi ∧ hi ≤ N ∧ i = .int .i64 lo ∧ j = .int .i64 hi ∧ Hid (Below w.heap.size w wr) ∧ Hid ((0 < lo → p (lo - 1) = false) ∧ (hi < N → p hi = true))) (fun i j _ _ => (intOf j - intOf i).toNat)
  case atStart => exact ⟨0, N, by omega, hN0, by omega, rfl, rfl, Lib.hid (Below.refl _ _), Lib.hid ⟨fun h => absurd h (by omega), fun h => absurd h (by omega)⟩⟩
  case round =>
    obtain ⟨lo, hi, h1, h2, h3, rfl, rfl, HB, HI⟩ := hrel
    by_cases hlt : lo < hi
    · obtain ⟨md, hmd⟩ : ∃ md, md = (lo + hi) / 2 := ⟨_, rfl⟩
      have hm1 : lo ≤ md := by omega
      have hm2 : md < hi := by omega
      have emd : (lo + hi) / 2 = md := hmd.symm
      have t1 : decide (lo < hi) = true := decide_eq_true hlt
      have HC := Lib.hid (HP.out md wr (by omega) (by omega) HB.out)
      have hmb : 0 ≤ md := by omega
      clear hmd
      cases hpm : p md
      · rw [hpm] at HC
        go_wp2_with (first
          | (go_at_call 26; (with_reducible refine HC.out.mono ?_); rintro ev w2 ⟨rfl, hb⟩; have HB2 := Lib.hid (below_step HB.out hb); clear hb))
        go_roundw
        case rel => exact ⟨md + 1, hi, by omega, by omega, h3, by go_num, rfl, HB2, Lib.hid ⟨fun _ => by rw [show md + 1 - 1 = md by omega]; exact hpm, HI.out.2⟩⟩
        case measure => simp [intOf]; omega
      · rw [hpm] at HC
        go_wp2_with (first
          | (go_at_call 26; (with_reducible refine HC.out.mono ?_); rintro ev w2 ⟨rfl, hb⟩; have HB2 := Lib.hid (below_step HB.out hb); clear hb))
        go_roundw
        case rel => exact ⟨lo, md, h1, hm1, by omega, rfl, rfl, HB2, Lib.hid ⟨HI.out.1, fun _ => hpm⟩⟩
        case measure => simp [intOf]; omega
    · obtain rfl : lo = hi := by omega
      go_wp2_with fail
      go_ret
      exact ⟨lo, rfl, HB.out, h1, h3, HI.out.1, HI.out.2⟩
end Go.Proofs.YtjifinacnofmiaaDoor.Ext

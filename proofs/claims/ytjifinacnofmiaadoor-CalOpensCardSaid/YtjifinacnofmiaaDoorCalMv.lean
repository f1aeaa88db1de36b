/- cal's Count and Move (printed by gen_calmv.py). -/
import Derived.Test.YtjifinacnofmiaaDoorCalSc
set_option linter.unusedVariables false
set_option linter.unusedSimpArgs false
namespace Go.Proofs.YtjifinacnofmiaaDoor.Ext
open Go Go.RowKit Go.Proofs.YtjifinacnofmiaaDoorW.PrintWords Go.Proofs.YtjifinacnofmiaaDoorW.PrintLast Go.Proofs.YtjifinacnofmiaaDoor.PCal Go.Proofs.YtjifinacnofmiaaDoor.GC Go.Proofs.YtjifinacnofmiaaDoor.CalP
theorem belF_bd {dy : Nat → Bool} {S E : List D3} (h : GoodR S E) {n : Int} (h0 : 0 ≤ n) (h1 : n ≤ 3652425) : -1000 ≤ belF dy S E n ∧ belF dy S E n ≤ 4000000 := by
  have a := ahead_le dy S n S.length
  have b := ahead_le (fun k => !dy k) E n E.length
  rw [List.take_length] at a b
  have c := left_le dy n
  have d := trues_le dy 7
  have e := h.ls
  have f := h.le
  have q0 : 0 ≤ n / 7 := by omega
  have m0 : 0 ≤ (trues dy 7 : Int) * (n / 7) := Int.mul_nonneg (by omega) q0
  have m1 : (trues dy 7 : Int) * (n / 7) ≤ 7 * (n / 7) := Int.mul_le_mul_of_nonneg_right (by omega) q0
  unfold belF
  omega
def countF (okR : Bool) (dy : Nat → Bool) (S E : List D3) (f t : D3) : Int × Int :=
  if okR = true then (if okD f = true ∧ okD t = true then (if nm t < nm f then (0, 2) else (belF dy S E (nm t) - belF dy S E (nm f), 0)) else (0, 30)) else (0, 36)
set_option maxHeartbeats 4000000 in
set_option maxRecDepth 100000 in
theorem Count_r (w : World) (dy : Nat → Bool) (vs ve : Value) (S E : List D3) (f t : D3) (okR : Bool) (hG : GlobOk w) (hS : DL w vs S) (hE : DL w ve E) (hC : GoodC w (rvV dy vs ve) okR) (hk : okR = true → GoodR S E) :
    Calls Tryd.prog 9 #[rvV dy vs ve, vd f, vd t] w fun e w' => e = .returned (.tuple #[.int .i64 (countF okR dy S E f t).1, .int .i64 (countF okR dy S E f t).2]) ∧ Below w.heap.size w w' := by
  obtain ⟨W, hW⟩ : ∃ W, W = (((w.alloc (.cells (rcells dy vs ve) 25)).alloc (.cells #[.int .i64 f.1, .int .i64 f.2.1, .int .i64 f.2.2] 27)).alloc (.cells #[.int .i64 t.1, .int .i64 t.2.1, .int .i64 t.2.2] 27)) := ⟨_, rfl⟩
  have k1 : Below w.heap.size w W := by
    rw [hW]
    exact below_alloc (below_alloc (below_alloc (Below.refl _ _) _) _) _
  have hR : RuleAt W w.heap.size dy vs ve S E := by
    refine ⟨?_, hS.below k1, hE.below k1⟩
    rw [hW]
    exact (Below.heap_alloc _ _ _ (by simp; omega)).trans ((Below.heap_alloc _ _ _ (by simp)).trans (alnew w _))
  have y1 : Bx W (w.heap.size + 1) f := by
    rw [hW]
    refine (Below.heap_alloc _ _ _ (by simp)).trans ?_
    have := alnew (w.alloc (.cells (rcells dy vs ve) 25)) (.cells #[.int .i64 f.1, .int .i64 f.2.1, .int .i64 f.2.2] 27)
    rw [World.size_alloc] at this
    exact this
  have y2 : Bx W (w.heap.size + 1 + 1) t := by
    rw [hW]
    have := alnew ((w.alloc (.cells (rcells dy vs ve) 25)).alloc (.cells #[.int .i64 f.1, .int .i64 f.2.1, .int .i64 f.2.2] 27)) (.cells #[.int .i64 t.1, .int .i64 t.2.1, .int .i64 t.2.2] 27)
    rw [World.size_alloc, World.size_alloc] at this
    exact this
  have HXX : Hid (∀ w', Below W.heap.size W w' → _) := Lib.hid fun w' k => (⟨hR.all k, y1.b3 k, y2.b3 k⟩ : _ ∧ _ ∧ _)
  have HSS : Hid (∀ w', Below W.heap.size W w' → (w'.cell? ⟨w.heap.size + 1, 0, none⟩ = some (.int .i64 f.1) ∧ w'.cell? ⟨w.heap.size + 1, 1, none⟩ = some (.int .i64 f.2.1) ∧ w'.cell? ⟨w.heap.size + 1, 2, none⟩ = some (.int .i64 f.2.2) ∧ w'.cell? ⟨w.heap.size + 1 + 1, 0, none⟩ = some (.int .i64 t.1) ∧ w'.cell? ⟨w.heap.size + 1 + 1, 1, none⟩ = some (.int .i64 t.2.1) ∧ w'.cell? ⟨w.heap.size + 1 + 1, 2, none⟩ = some (.int .i64 t.2.2))) := Lib.hid fun w' k => six (y1.b3 k) (y2.b3 k)
  have HGd : Hid (∀ w', Below W.heap.size W w' → Calls Tryd.prog 18 #[rvV dy vs ve] w' fun e w'' => e = .returned (.bool okR) ∧ Below w'.heap.size w' w'') := Lib.hid fun w' k => hC w' (k1.trans (k.mono k1.size))
  have HVf : Hid (∀ w', Below W.heap.size W w' → Calls Tryd.prog 19 #[vd f] w' fun e w'' => e = .returned (.bool (okD f)) ∧ Below w'.heap.size w' w'') := Lib.hid fun w' k => validC f w' (hG.below (k1.trans (k.mono k1.size)))
  have HVt : Hid (∀ w', Below W.heap.size W w' → Calls Tryd.prog 19 #[vd t] w' fun e w'' => e = .returned (.bool (okD t)) ∧ Below w'.heap.size w' w'') := Lib.hid fun w' k => validC t w' (hG.below (k1.trans (k.mono k1.size)))
  have HN : Hid (∀ u, okD u = true → ∀ w', Below W.heap.size W w' → Calls Tryd.prog 20 #[vd u] w' fun e w'' => e = .returned (.int .i64 (nm u)) ∧ Below w'.heap.size w' w'') := Lib.hid fun u hu w' k => number_r u hu w' (hG.below (k1.trans (k.mono k1.size)))
  have HBl : Hid (okR = true → ∀ n, 0 ≤ n → n ≤ 3652425 → ∀ w', Below W.heap.size W w' → Calls Tryd.prog 21 #[.pointer (some ⟨w.heap.size, 0, none⟩), .int .i64 n] w' fun e w'' => e = .returned (.int .i64 (belF dy S E n)) ∧ Below w'.heap.size w' w'') :=
    Lib.hid fun hr n h0 h1 w' k => below_r w' w.heap.size dy vs ve S E n (hG.below (k1.trans (k.mono k1.size))) (hR.below k) (hk hr).s (hk hr).e h0 h1
  have HBd : Hid (okR = true → ∀ n, 0 ≤ n → n ≤ 3652425 → -1000 ≤ belF dy S E n ∧ belF dy S E n ≤ 4000000) := Lib.hid fun hr n h0 h1 => belF_bd (hk hr) h0 h1
  have K1 := Lib.hid k1
  have HW := Lib.hid hW
  obtain ⟨⟨r0, r1, r2, r3, r4, r5, r6, r7, r8⟩, ⟨d0, d1, d2⟩, e0, e1, e2⟩ := HXX.out W (Below.refl _ _)
  clear hG hS hE hC hk k1 hR y1 y2 hW
  go_enter Tryd.func9, Tryd.ntmps9
  go_upto_region 1 with fail
  have hw := HW.out
  unfold rcells at hw
  rw [← hw]
  clear hw HW
  cases okR
  · go_wp2_with (first
      | (go_at_call 18; (with_reducible refine (HGd.out _ (Below.refl _ _)).mono ?_); rintro ev w2 ⟨rfl, hb⟩; have HB := Lib.hid (hb); clear hb; obtain ⟨⟨r0, r1, r2, r3, r4, r5, r6, r7, r8⟩, ⟨d0, d1, d2⟩, e0, e1, e2⟩ := HXX.out _ HB.out))
    go_ret2
    exact ⟨rfl, K1.out.trans (HB.out.mono K1.out.size)⟩
  · cases hf : okD f
    · rw [hf] at HVf
      go_wp2_with (first
        | (go_at_call 18; (with_reducible refine (HGd.out _ (Below.refl _ _)).mono ?_); rintro ev w2 ⟨rfl, hb⟩; have HB := Lib.hid (hb); clear hb; obtain ⟨⟨r0, r1, r2, r3, r4, r5, r6, r7, r8⟩, ⟨d0, d1, d2⟩, e0, e1, e2⟩ := HXX.out _ HB.out)
        | (go_at_call 19; (with_reducible refine (HVf.out _ HB.out).mono ?_); rintro ev w3 ⟨rfl, hb⟩; have HB2 := Lib.hid (below_step HB.out hb); clear hb; obtain ⟨⟨r0, r1, r2, r3, r4, r5, r6, r7, r8⟩, ⟨d0, d1, d2⟩, e0, e1, e2⟩ := HXX.out _ HB2.out))
      go_ret2
      exact ⟨by simp [countF, hf], K1.out.trans (HB2.out.mono K1.out.size)⟩
    · cases ht : okD t
      · rw [hf] at HVf
        rw [ht] at HVt
        go_wp2_with (first
          | (go_at_call 18; (with_reducible refine (HGd.out _ (Below.refl _ _)).mono ?_); rintro ev w2 ⟨rfl, hb⟩; have HB := Lib.hid (hb); clear hb; obtain ⟨⟨r0, r1, r2, r3, r4, r5, r6, r7, r8⟩, ⟨d0, d1, d2⟩, e0, e1, e2⟩ := HXX.out _ HB.out)
          | (go_at_call 19; (with_reducible refine (HVf.out _ HB.out).mono ?_); rintro ev w3 ⟨rfl, hb⟩; have HB2 := Lib.hid (below_step HB.out hb); clear hb; obtain ⟨⟨r0, r1, r2, r3, r4, r5, r6, r7, r8⟩, ⟨d0, d1, d2⟩, e0, e1, e2⟩ := HXX.out _ HB2.out)
          | (go_at_call 19; (with_reducible refine (HVt.out _ HB2.out).mono ?_); rintro ev w4 ⟨rfl, hb⟩; have HB3 := Lib.hid (below_step HB2.out hb); clear hb; obtain ⟨⟨r0, r1, r2, r3, r4, r5, r6, r7, r8⟩, ⟨d0, d1, d2⟩, e0, e1, e2⟩ := HXX.out _ HB3.out))
        go_ret2
        exact ⟨by simp [countF, hf, ht], K1.out.trans (HB3.out.mono K1.out.size)⟩
      · rw [hf] at HVf
        rw [ht] at HVt
        have HNf := Lib.hid (HN.out f hf)
        have HNt := Lib.hid (HN.out t ht)
        have HCf := Lib.hid (show countF true dy S E f t = (if nm t < nm f then (0, 2) else (belF dy S E (nm t) - belF dy S E (nm f), 0)) by simp [countF, hf, ht])
        obtain ⟨f1, f2⟩ := nm_bd hf
        obtain ⟨t1, t2⟩ := nm_bd ht
        have HBf := Lib.hid (HBl.out rfl (nm f) (by omega) (by omega))
        have HBt := Lib.hid (HBl.out rfl (nm t) (by omega) (by omega))
        have bf := HBd.out rfl (nm f) (by omega) (by omega)
        have bt := HBd.out rfl (nm t) (by omega) (by omega)
        clear HBl HBd HN hf ht
        generalize belF dy S E (nm f) = bf' at *
        generalize belF dy S E (nm t) = bt' at *
        go_upto_region 5 with (first
          | (go_at_call 18; (with_reducible refine (HGd.out _ (Below.refl _ _)).mono ?_); rintro ev w2 ⟨rfl, hb⟩; have HB := Lib.hid (hb); clear hb; obtain ⟨⟨r0, r1, r2, r3, r4, r5, r6, r7, r8⟩, ⟨d0, d1, d2⟩, e0, e1, e2⟩ := HXX.out _ HB.out)
          | (go_at_call 19; (with_reducible refine (HVf.out _ HB.out).mono ?_); rintro ev w3 ⟨rfl, hb⟩; have HB2 := Lib.hid (below_step HB.out hb); clear hb; obtain ⟨⟨r0, r1, r2, r3, r4, r5, r6, r7, r8⟩, ⟨d0, d1, d2⟩, e0, e1, e2⟩ := HXX.out _ HB2.out)
          | (go_at_call 19; (with_reducible refine (HVt.out _ HB2.out).mono ?_); rintro ev w4 ⟨rfl, hb⟩; have HB3 := Lib.hid (below_step HB2.out hb); clear hb; obtain ⟨⟨r0, r1, r2, r3, r4, r5, r6, r7, r8⟩, ⟨d0, d1, d2⟩, e0, e1, e2⟩ := HXX.out _ HB3.out))
        have hb0 := HB3.out.drew
        clear r0 r1 r2 r3 r4 r5 r6 r7 r8 d0 d1 d2 e0 e1 e2
        go_region_held3 (fun w' => w'.cell? ⟨w.heap.size + 1, 0, none⟩ = some (.int .i64 f.1) ∧ w'.cell? ⟨w.heap.size + 1, 1, none⟩ = some (.int .i64 f.2.1) ∧ w'.cell? ⟨w.heap.size + 1, 2, none⟩ = some (.int .i64 f.2.2) ∧ w'.cell? ⟨w.heap.size + 1 + 1, 0, none⟩ = some (.int .i64 t.1) ∧ w'.cell? ⟨w.heap.size + 1 + 1, 1, none⟩ = some (.int .i64 t.2.1) ∧ w'.cell? ⟨w.heap.size + 1 + 1, 2, none⟩ = some (.int .i64 t.2.2)) (exact HSS.out _ (by assumption)) (first
          | (go_at_call 20; (with_reducible refine (HNt.out _ hb0).mono ?_); rintro ev w5 ⟨rfl, hb1⟩; have hb2 := below_step hb0 hb1; clear hb1)
          | (go_at_call 20; (with_reducible refine (HNf.out _ hb2).mono ?_); rintro ev w6 ⟨rfl, hb1⟩; have hb3 := below_step hb2 hb1; clear hb1))
        by_cases hlt : nm t < nm f
        · have z1 : decide (nm t < nm f) = true := decide_eq_true hlt
          go_wp2_with fail
          go_ret2
          exact ⟨by rw [HCf.out, if_pos hlt]; rfl, K1.out.trans (hb3.mono K1.out.size)⟩
        · have z1 : decide (nm t < nm f) = false := decide_eq_false hlt
          have z2 : IntKind.i64.wrap (bt' - bf') = bt' - bf' := IntWalk.i64_in _ (by omega)
          clear hb0 hb2
          go_wp2_with fail
          have hb0 := hb3.drew
          go_region_held3 (fun w' => w'.cell? ⟨w.heap.size + 1, 0, none⟩ = some (.int .i64 f.1) ∧ w'.cell? ⟨w.heap.size + 1, 1, none⟩ = some (.int .i64 f.2.1) ∧ w'.cell? ⟨w.heap.size + 1, 2, none⟩ = some (.int .i64 f.2.2) ∧ w'.cell? ⟨w.heap.size + 1 + 1, 0, none⟩ = some (.int .i64 t.1) ∧ w'.cell? ⟨w.heap.size + 1 + 1, 1, none⟩ = some (.int .i64 t.2.1) ∧ w'.cell? ⟨w.heap.size + 1 + 1, 2, none⟩ = some (.int .i64 t.2.2)) (exact HSS.out _ (by assumption)) (first
            | (go_at_call 20; (with_reducible refine (HNt.out _ hb0).mono ?_); rintro ev w7 ⟨rfl, hb1⟩; have hb4 := below_step hb0 hb1; clear hb1)
            | (go_at_call 21; (with_reducible refine (HBt.out _ hb4).mono ?_); rintro ev w8 ⟨rfl, hb1⟩; have hb5 := below_step hb4 hb1; clear hb1)
            | (go_at_call 20; (with_reducible refine (HNf.out _ hb5).mono ?_); rintro ev w9 ⟨rfl, hb1⟩; have hb6 := below_step hb5 hb1; clear hb1)
            | (go_at_call 21; (with_reducible refine (HBf.out _ hb6).mono ?_); rintro ev w10 ⟨rfl, hb1⟩; have hb7 := below_step hb6 hb1; clear hb1))
          go_wp2_with fail
          go_ret2
          refine ⟨?_, K1.out.trans (hb7.mono K1.out.size)⟩
          rw [HCf.out, if_neg (by omega)]
          first
            | rfl
            | (rw [← z2]; rfl)
            | (simp only []; rw [← z2]; rfl)
set_option maxHeartbeats 1000000 in
set_option maxRecDepth 100000 in
theorem move1_r (w : World) (g tb : Nat) (dy : Nat → Bool) (vs ve : Value) (S E : List D3) (x tg : Int) (hG : GlobOk w) (hR : RuleAt w g dy vs ve S E) (hS : GoodL S) (hE : GoodL E) (h0 : 0 ≤ x) (h1 : x ≤ 3652424) (hT : w.heap[tb]? = some (.cells #[.int .i64 tg] 3 (0, 0))) :
    Calls Tryd.prog 26 #[.int .i64 x, .pointer (some ⟨g, 0, none⟩), .pointer (some ⟨tb, 0, none⟩)] w fun e w' => e = .returned (.bool (decide (tg ≤ belF dy S E (x + 1)))) ∧ Below w.heap.size w w' := by
  have HBl : Hid (∀ w', Below w.heap.size w w' → Calls Tryd.prog 21 #[.pointer (some ⟨g, 0, none⟩), .int .i64 (x + 1)] w' fun e w'' => e = .returned (.int .i64 (belF dy S E (x + 1))) ∧ Below w'.heap.size w' w'') :=
    Lib.hid fun w' k => below_r w' g dy vs ve S E (x + 1) (hG.below k) (hR.below k) hS hE (by omega) (by omega)
  have HSS : Hid (∀ w', Below w.heap.size w w' → (w'.cell? ⟨tb, 0, none⟩ = some (.int .i64 tg))) := Lib.hid fun w' k => by
    have := (k.block tb (Array.getElem?_eq_some_iff.1 hT).1).trans hT
    simp [cell_of_row _ _ _ _ _ _ this]
  generalize belF dy S E (x + 1) = b at *
  have hw1 : IntKind.i64.wrap (x + 1) = x + 1 := IntWalk.i64_in _ (by omega)
  have hb0 : Below w.heap.size w w.drew := (Below.refl _ _).drew
  clear hG hR hS hE hT
  go_enter Tryd.func26, Tryd.ntmps26
  go_wp2_with fail
  go_region_held3 (fun w' => w'.cell? ⟨tb, 0, none⟩ = some (.int .i64 tg)) (exact HSS.out _ (by assumption)) (first
    | (go_at_call 21; (with_reducible refine (HBl.out _ hb0).mono ?_); rintro ev w7 ⟨rfl, hb1⟩; have hb4 := below_step hb0 hb1; clear hb1))
  go_wp2_with fail
  go_ret
  exact ⟨rfl, hb4⟩

theorem stored3 {w : World} {b : Nat} {x0 x1 x2 v0 v1 v2 : Value} (h : w.heap[b]? = some (.cells #[x0, x1, x2] 27 (0, 0))) :
    (((w.setCell ⟨b, 0, none⟩ v0).setCell ⟨b, 1, none⟩ v1).setCell ⟨b, 2, none⟩ v2).heap[b]? = some (.cells #[v0, v1, v2] 27 (0, 0)) := by
  simp only [World.setCell]
  rw [Array.getElem?_modify, if_pos rfl, Array.getElem?_modify, if_pos rfl, Array.getElem?_modify, if_pos rfl, h]
  rfl
theorem frz3 {w : World} {b : Nat} {t : D3} (h : Bx w b t) : w.frozen? ⟨b, 0, none⟩ = false ∧ w.frozen? ⟨b, 1, none⟩ = false ∧ w.frozen? ⟨b, 2, none⟩ = false := by
  unfold Bx at h
  refine ⟨?_, ?_, ?_⟩ <;> simp [World.frozen?, h]
theorem put1 {w : World} {b : Nat} {x v : Int} (h : w.heap[b]? = some (.cells #[.int .i64 x] 3 (0, 0))) : (w.setCell ⟨b, 0, none⟩ (.int .i64 v)).heap[b]? = some (.cells #[.int .i64 v] 3 (0, 0)) := by
  simp only [World.setCell]
  rw [Array.getElem?_modify, if_pos rfl, h]
  rfl
theorem one1 {w : World} {b : Nat} {x : Int} (h : w.heap[b]? = some (.cells #[.int .i64 x] 3 (0, 0))) : w.cell? ⟨b, 0, none⟩ = some (.int .i64 x) ∧ w.frozen? ⟨b, 0, none⟩ = false :=
  ⟨by simp [cell_of_row _ _ _ _ _ _ h], by simp [World.frozen?, h]⟩
def targ (dy : Nat → Bool) (S E : List D3) (m n : Int) : Int := if 0 < n then belF dy S E (m + 1) + n else belF dy S E m + n + 1
/-- what Move answers -/
def MoveR (okR : Bool) (dy : Nat → Bool) (S E : List D3) (t : D3) (n : Int) (d : D3) (c : Int) : Prop :=
  (okR = false ∧ d = (0, 0, 0) ∧ c = 36) ∨ (okR = true ∧ okD t = false ∧ d = (0, 0, 0) ∧ c = 30) ∨ (okR = true ∧ okD t = true ∧ (n < -100000 ∨ 100000 < n) ∧ d = (0, 0, 0) ∧ c = 2) ∨
  (okR = true ∧ okD t = true ∧ n = 0 ∧ opn dy S E (nm t) = true ∧ d = t ∧ c = 0) ∨ (okR = true ∧ okD t = true ∧ n = 0 ∧ opn dy S E (nm t) = false ∧ d = (0, 0, 0) ∧ c = 37) ∨
  (okR = true ∧ okD t = true ∧ (-100000 ≤ n ∧ n ≤ 100000) ∧ n ≠ 0 ∧ (targ dy S E (nm t) n < 1 ∨ belF dy S E 3652425 < targ dy S E (nm t) n) ∧ d = (0, 0, 0) ∧ c = 35) ∨
  (okR = true ∧ okD t = true ∧ (-100000 ≤ n ∧ n ≤ 100000) ∧ n ≠ 0 ∧ (1 ≤ targ dy S E (nm t) n ∧ targ dy S E (nm t) n ≤ belF dy S E 3652425) ∧ c = 0 ∧
    ∃ i, 0 ≤ i ∧ i ≤ 3652424 ∧ (0 < i → belF dy S E i < targ dy S E (nm t) n) ∧ (i < 3652424 → targ dy S E (nm t) n ≤ belF dy S E (i + 1)) ∧ d = dt i)
def mv14T : Bool × List (List Nat × List Nat) := (true, [([], []), ([0], [0]), ([1], [1]), ([2], [2]), ([2, 2], [2]), ([3, 4, 2], [2, 3, 4]), ([2, 5], [2, 5])])
theorem mv14_tab : rtab .any (opsOf Tryd.f12 14) = mv14T := by kernel_rfl
set_option maxHeartbeats 8000000 in
set_option maxRecDepth 100000 in
theorem Move_r (w : World) (dy : Nat → Bool) (vs ve : Value) (S E : List D3) (t : D3) (n : Int) (okR : Bool) (hG : GlobOk w) (hS : DL w vs S) (hE : DL w ve E) (hC : GoodC w (rvV dy vs ve) okR) (hk : okR = true → GoodR S E) :
    Calls Tryd.prog 12 #[rvV dy vs ve, vd t, .int .i64 n] w fun e w' => ∃ d c, MoveR okR dy S E t n d c ∧ e = .returned (.tuple #[vd d, .int .i64 c]) ∧ Below w.heap.size w w' := by
  obtain ⟨W, hW⟩ : ∃ W, W = (((w.alloc (.cells (rcells dy vs ve) 25)).alloc (.cells #[.int .i64 t.1, .int .i64 t.2.1, .int .i64 t.2.2] 27)).alloc (.cells #[.int .i64 0, .int .i64 0, .int .i64 0] 27)) := ⟨_, rfl⟩
  have k1 : Below w.heap.size w W := by
    rw [hW]
    exact below_alloc (below_alloc (below_alloc (Below.refl _ _) _) _) _
  have hR : RuleAt W w.heap.size dy vs ve S E := by
    refine ⟨?_, hS.below k1, hE.below k1⟩
    rw [hW]
    exact (Below.heap_alloc _ _ _ (by simp; omega)).trans ((Below.heap_alloc _ _ _ (by simp)).trans (alnew w _))
  have y1 : Bx W (w.heap.size + 1) t := by
    rw [hW]
    refine (Below.heap_alloc _ _ _ (by simp)).trans ?_
    have := alnew (w.alloc (.cells (rcells dy vs ve) 25)) (.cells #[.int .i64 t.1, .int .i64 t.2.1, .int .i64 t.2.2] 27)
    rw [World.size_alloc] at this
    exact this
  have y2 : Bx W (w.heap.size + 1 + 1) (0, 0, 0) := by
    rw [hW]
    have := alnew ((w.alloc (.cells (rcells dy vs ve) 25)).alloc (.cells #[.int .i64 t.1, .int .i64 t.2.1, .int .i64 t.2.2] 27)) (.cells #[.int .i64 0, .int .i64 0, .int .i64 0] 27)
    rw [World.size_alloc, World.size_alloc] at this
    exact this
  have sz : W.heap.size = w.heap.size + 3 := by rw [hW]; simp
  have HZ : Hid (∀ w', Below W.heap.size W w' → Bx w' (w.heap.size + 1 + 1) (0, 0, 0)) := Lib.hid fun w' k => y2.below k
  have HXX : Hid (∀ w', Below W.heap.size W w' → _) := Lib.hid fun w' k => (⟨hR.all k, y1.b3 k, y2.b3 k, frz3 (y2.below k)⟩ : _ ∧ _ ∧ _ ∧ w'.frozen? ⟨w.heap.size + 1 + 1, 0, none⟩ = false ∧ w'.frozen? ⟨w.heap.size + 1 + 1, 1, none⟩ = false ∧ w'.frozen? ⟨w.heap.size + 1 + 1, 2, none⟩ = false)
  have HGd : Hid (∀ w', Below W.heap.size W w' → Calls Tryd.prog 18 #[rvV dy vs ve] w' fun e w'' => e = .returned (.bool okR) ∧ Below w'.heap.size w' w'') := Lib.hid fun w' k => hC w' (k1.trans (k.mono k1.size))
  have HVt : Hid (∀ w', Below W.heap.size W w' → Calls Tryd.prog 19 #[vd t] w' fun e w'' => e = .returned (.bool (okD t)) ∧ Below w'.heap.size w' w'') := Lib.hid fun w' k => validC t w' (hG.below (k1.trans (k.mono k1.size)))
  have HN : Hid (okD t = true → ∀ w', Below W.heap.size W w' → Calls Tryd.prog 20 #[vd t] w' fun e w'' => e = .returned (.int .i64 (nm t)) ∧ Below w'.heap.size w' w'') := Lib.hid fun hu w' k => number_r t hu w' (hG.below (k1.trans (k.mono k1.size)))
  have HDt : Hid (∀ i, 0 ≤ i → i ≤ 3652424 → ∀ w', Below W.heap.size W w' → Calls Tryd.prog 24 #[.int .i64 i] w' fun e w'' => e = .returned (vd (dt i)) ∧ Below w'.heap.size w' w'') := Lib.hid fun i h0 h1 w' k =>
    cal_date.calls 30000 i (dt i).1 (dt i).2.1 (dt i).2.2 w' (hG.below (k1.trans (k.mono k1.size))) (date_dt 30000 (Nat.le_refl _) h0 h1)
  have HOp : Hid (okR = true → okD t = true → ∀ w', Below W.heap.size W w' → Calls Tryd.prog 23 #[.pointer (some ⟨w.heap.size, 0, none⟩), vd t] w' fun e w'' => e = .returned (.bool (opn dy S E (nm t))) ∧ Below w'.heap.size w' w'') :=
    Lib.hid fun hr ht w' k => open_r w' w.heap.size dy vs ve S E t (hG.below (k1.trans (k.mono k1.size))) (hR.below k) (hk hr).s (hk hr).e ht
  have HBl : Hid (okR = true → ∀ n, 0 ≤ n → n ≤ 3652425 → ∀ w', Below W.heap.size W w' → Calls Tryd.prog 21 #[.pointer (some ⟨w.heap.size, 0, none⟩), .int .i64 n] w' fun e w'' => e = .returned (.int .i64 (belF dy S E n)) ∧ Below w'.heap.size w' w'') :=
    Lib.hid fun hr n h0 h1 w' k => below_r w' w.heap.size dy vs ve S E n (hG.below (k1.trans (k.mono k1.size))) (hR.below k) (hk hr).s (hk hr).e h0 h1
  have HBd : Hid (okR = true → ∀ n, 0 ≤ n → n ≤ 3652425 → -1000 ≤ belF dy S E n ∧ belF dy S E n ≤ 4000000) := Lib.hid fun hr n h0 h1 => belF_bd (hk hr) h0 h1
  have HSe : Hid (okR = true → ∀ (tb : Nat) (tg : Int) w', Below W.heap.size W w' → w'.heap[tb]? = some (.cells #[.int .i64 tg] 3 (0, 0)) → Calls Tryd.prog 25 #[.int .i64 3652424, .func (.func 26) #[] #[.pointer (some ⟨w.heap.size, 0, none⟩), .pointer (some ⟨tb, 0, none⟩)]] w' fun e w'' =>
      ∃ i, e = .returned (.int .i64 i) ∧ Below w'.heap.size w' w'' ∧ 0 ≤ i ∧ i ≤ 3652424 ∧ (0 < i → belF dy S E i < tg) ∧ (i < 3652424 → tg ≤ belF dy S E (i + 1))) := Lib.hid fun hr tb tg w' k hT => by
    refine (bsearch_r 3652424 (by omega) (by omega) _ _ (fun x => decide (tg ≤ belF dy S E (x + 1))) w' (fun x w1 h0 h1 k1' => ?_)).mono ?_
    · exact move1_r w1 w.heap.size tb dy vs ve S E x tg ((hG.below (k1.trans (k.mono k1.size))).below k1') ((hR.below k).below k1') (hk hr).s (hk hr).e h0 (by omega) ((k1'.block tb (Array.getElem?_eq_some_iff.1 hT).1).trans hT)
    · rintro e w'' ⟨i, e1, e2, e3, e4, e5, e6⟩
      refine ⟨i, e1, e2, e3, e4, fun h => ?_, fun h => by simpa using e6 h⟩
      have := e5 h
      rw [show i - 1 + 1 = i by omega] at this
      simpa using this
  have K1 := Lib.hid k1
  have HW := Lib.hid hW
  obtain ⟨⟨r0, r1, r2, r3, r4, r5, r6, r7, r8⟩, ⟨d0, d1, d2⟩, ⟨e0, e1, e2⟩, f0, f1, f2⟩ := HXX.out W (Below.refl _ _)
  clear hG hS hE hC hk k1 hR y1 y2 hW
  cases okR
  · go_enter Tryd.func12, Tryd.ntmps12
    go_upto_region 1 with fail
    have hw := HW.out
    unfold rcells at hw
    rw [← hw]
    clear hw HW
    go_wp2_with (first
      | (go_at_call 18; (with_reducible refine (HGd.out _ (Below.refl _ _)).mono ?_); rintro ev w2 ⟨rfl, hb⟩; have HB := Lib.hid (hb); clear hb; obtain ⟨⟨r0, r1, r2, r3, r4, r5, r6, r7, r8⟩, ⟨d0, d1, d2⟩, ⟨e0, e1, e2⟩, f0, f1, f2⟩ := HXX.out _ HB.out))
    have hz := HZ.out _ HB.out
    refine bodyPost_ret (results_ct rfl _ _ (w.heap.size + 1 + 1) 27 #[.int .i64 0, .int .i64 0, .int .i64 0] (0, 0) _ rfl (stored3 hz) Tryd.underlying27 rfl rfl) rfl ?_
    first
      | exact ⟨(0, 0, 0), _, (.inl ⟨rfl, rfl, rfl⟩), rfl, (((K1.out.trans (HB.out.mono K1.out.size)).setCell (by show w.heap.size ≤ w.heap.size + 1 + 1; omega) _).setCell (by show w.heap.size ≤ w.heap.size + 1 + 1; omega) _).setCell (by show w.heap.size ≤ w.heap.size + 1 + 1; omega) _⟩
      | exact ⟨0, 0, 0, _, (.inl ⟨rfl, rfl, rfl⟩), rfl, (((K1.out.trans (HB.out.mono K1.out.size)).setCell (by show w.heap.size ≤ w.heap.size + 1 + 1; omega) _).setCell (by show w.heap.size ≤ w.heap.size + 1 + 1; omega) _).setCell (by show w.heap.size ≤ w.heap.size + 1 + 1; omega) _⟩
  · cases ht : okD t
    · rw [ht] at HVt
      go_enter Tryd.func12, Tryd.ntmps12
      go_upto_region 1 with fail
      have hw := HW.out
      unfold rcells at hw
      rw [← hw]
      clear hw HW
      go_wp2_with (first
        | (go_at_call 18; (with_reducible refine (HGd.out _ (Below.refl _ _)).mono ?_); rintro ev w2 ⟨rfl, hb⟩; have HB := Lib.hid (hb); clear hb; obtain ⟨⟨r0, r1, r2, r3, r4, r5, r6, r7, r8⟩, ⟨d0, d1, d2⟩, ⟨e0, e1, e2⟩, f0, f1, f2⟩ := HXX.out _ HB.out)
        | (go_at_call 19; (with_reducible refine (HVt.out _ HB.out).mono ?_); rintro ev w3 ⟨rfl, hb⟩; have HB2 := Lib.hid (below_step HB.out hb); clear hb; obtain ⟨⟨r0, r1, r2, r3, r4, r5, r6, r7, r8⟩, ⟨d0, d1, d2⟩, ⟨e0, e1, e2⟩, f0, f1, f2⟩ := HXX.out _ HB2.out))
      have hz := HZ.out _ HB2.out
      refine bodyPost_ret (results_ct rfl _ _ (w.heap.size + 1 + 1) 27 #[.int .i64 0, .int .i64 0, .int .i64 0] (0, 0) _ rfl (stored3 hz) Tryd.underlying27 rfl rfl) rfl ?_
      first
        | exact ⟨(0, 0, 0), _, (.inr (.inl ⟨rfl, ht, rfl, rfl⟩)), rfl, (((K1.out.trans (HB2.out.mono K1.out.size)).setCell (by show w.heap.size ≤ w.heap.size + 1 + 1; omega) _).setCell (by show w.heap.size ≤ w.heap.size + 1 + 1; omega) _).setCell (by show w.heap.size ≤ w.heap.size + 1 + 1; omega) _⟩
        | exact ⟨0, 0, 0, _, (.inr (.inl ⟨rfl, ht, rfl, rfl⟩)), rfl, (((K1.out.trans (HB2.out.mono K1.out.size)).setCell (by show w.heap.size ≤ w.heap.size + 1 + 1; omega) _).setCell (by show w.heap.size ≤ w.heap.size + 1 + 1; omega) _).setCell (by show w.heap.size ≤ w.heap.size + 1 + 1; omega) _⟩
    · rw [ht] at HVt
      have HT := Lib.hid ht
      have HN2 := Lib.hid (HN.out ht)
      have HO2 := Lib.hid (HOp.out rfl ht)
      have HB' := Lib.hid (HBl.out rfl)
      have HBd' := Lib.hid (HBd.out rfl)
      have HSe' := Lib.hid (HSe.out rfl)
      obtain ⟨t1, t2⟩ := nm_bd ht
      clear HN HOp HBl HBd HSe ht
      by_cases hlo : n < -100000
      · have z1 : decide (n < -100000) = true := decide_eq_true hlo
        go_enter Tryd.func12, Tryd.ntmps12
        go_upto_region 1 with fail
        have hw := HW.out
        unfold rcells at hw
        rw [← hw]
        clear hw HW
        go_wp2_with (first
          | (go_at_call 18; (with_reducible refine (HGd.out _ (Below.refl _ _)).mono ?_); rintro ev w2 ⟨rfl, hb⟩; have HB := Lib.hid (hb); clear hb; obtain ⟨⟨r0, r1, r2, r3, r4, r5, r6, r7, r8⟩, ⟨d0, d1, d2⟩, ⟨e0, e1, e2⟩, f0, f1, f2⟩ := HXX.out _ HB.out)
          | (go_at_call 19; (with_reducible refine (HVt.out _ HB.out).mono ?_); rintro ev w3 ⟨rfl, hb⟩; have HB2 := Lib.hid (below_step HB.out hb); clear hb; obtain ⟨⟨r0, r1, r2, r3, r4, r5, r6, r7, r8⟩, ⟨d0, d1, d2⟩, ⟨e0, e1, e2⟩, f0, f1, f2⟩ := HXX.out _ HB2.out))
        have hz := HZ.out _ HB2.out
        refine bodyPost_ret (results_ct rfl _ _ (w.heap.size + 1 + 1) 27 #[.int .i64 0, .int .i64 0, .int .i64 0] (0, 0) _ rfl (stored3 hz) Tryd.underlying27 rfl rfl) rfl ?_
        first
          | exact ⟨(0, 0, 0), _, (.inr (.inr (.inl ⟨rfl, HT.out, .inl hlo, rfl, rfl⟩))), rfl, (((K1.out.trans (HB2.out.mono K1.out.size)).setCell (by show w.heap.size ≤ w.heap.size + 1 + 1; omega) _).setCell (by show w.heap.size ≤ w.heap.size + 1 + 1; omega) _).setCell (by show w.heap.size ≤ w.heap.size + 1 + 1; omega) _⟩
          | exact ⟨0, 0, 0, _, (.inr (.inr (.inl ⟨rfl, HT.out, .inl hlo, rfl, rfl⟩))), rfl, (((K1.out.trans (HB2.out.mono K1.out.size)).setCell (by show w.heap.size ≤ w.heap.size + 1 + 1; omega) _).setCell (by show w.heap.size ≤ w.heap.size + 1 + 1; omega) _).setCell (by show w.heap.size ≤ w.heap.size + 1 + 1; omega) _⟩
      · have z1 : decide (n < -100000) = false := decide_eq_false hlo
        by_cases hhi : 100000 < n
        · have z2 : decide (100000 < n) = true := decide_eq_true hhi
          have z3 : decide (n > 100000) = true := decide_eq_true hhi
          go_enter Tryd.func12, Tryd.ntmps12
          go_upto_region 1 with fail
          have hw := HW.out
          unfold rcells at hw
          rw [← hw]
          clear hw HW
          go_wp2_with (first
            | (go_at_call 18; (with_reducible refine (HGd.out _ (Below.refl _ _)).mono ?_); rintro ev w2 ⟨rfl, hb⟩; have HB := Lib.hid (hb); clear hb; obtain ⟨⟨r0, r1, r2, r3, r4, r5, r6, r7, r8⟩, ⟨d0, d1, d2⟩, ⟨e0, e1, e2⟩, f0, f1, f2⟩ := HXX.out _ HB.out)
            | (go_at_call 19; (with_reducible refine (HVt.out _ HB.out).mono ?_); rintro ev w3 ⟨rfl, hb⟩; have HB2 := Lib.hid (below_step HB.out hb); clear hb; obtain ⟨⟨r0, r1, r2, r3, r4, r5, r6, r7, r8⟩, ⟨d0, d1, d2⟩, ⟨e0, e1, e2⟩, f0, f1, f2⟩ := HXX.out _ HB2.out))
          have hz := HZ.out _ HB2.out
          refine bodyPost_ret (results_ct rfl _ _ (w.heap.size + 1 + 1) 27 #[.int .i64 0, .int .i64 0, .int .i64 0] (0, 0) _ rfl (stored3 hz) Tryd.underlying27 rfl rfl) rfl ?_
          first
            | exact ⟨(0, 0, 0), _, (.inr (.inr (.inl ⟨rfl, HT.out, .inr hhi, rfl, rfl⟩))), rfl, (((K1.out.trans (HB2.out.mono K1.out.size)).setCell (by show w.heap.size ≤ w.heap.size + 1 + 1; omega) _).setCell (by show w.heap.size ≤ w.heap.size + 1 + 1; omega) _).setCell (by show w.heap.size ≤ w.heap.size + 1 + 1; omega) _⟩
            | exact ⟨0, 0, 0, _, (.inr (.inr (.inl ⟨rfl, HT.out, .inr hhi, rfl, rfl⟩))), rfl, (((K1.out.trans (HB2.out.mono K1.out.size)).setCell (by show w.heap.size ≤ w.heap.size + 1 + 1; omega) _).setCell (by show w.heap.size ≤ w.heap.size + 1 + 1; omega) _).setCell (by show w.heap.size ≤ w.heap.size + 1 + 1; omega) _⟩
        · have z2 : decide (100000 < n) = false := decide_eq_false hhi
          have z3 : decide (n > 100000) = false := decide_eq_false hhi
          by_cases hn0 : n = 0
          · subst hn0
            cases hop : opn dy S E (nm t)
            · rw [hop] at HO2
              go_enter Tryd.func12, Tryd.ntmps12
              go_upto_region 1 with fail
              have hw := HW.out
              unfold rcells at hw
              rw [← hw]
              clear hw HW
              go_wp2_with (first
                | (go_at_call 18; (with_reducible refine (HGd.out _ (Below.refl _ _)).mono ?_); rintro ev w2 ⟨rfl, hb⟩; have HB := Lib.hid (hb); clear hb; obtain ⟨⟨r0, r1, r2, r3, r4, r5, r6, r7, r8⟩, ⟨d0, d1, d2⟩, ⟨e0, e1, e2⟩, f0, f1, f2⟩ := HXX.out _ HB.out)
                | (go_at_call 19; (with_reducible refine (HVt.out _ HB.out).mono ?_); rintro ev w3 ⟨rfl, hb⟩; have HB2 := Lib.hid (below_step HB.out hb); clear hb; obtain ⟨⟨r0, r1, r2, r3, r4, r5, r6, r7, r8⟩, ⟨d0, d1, d2⟩, ⟨e0, e1, e2⟩, f0, f1, f2⟩ := HXX.out _ HB2.out)
                | (go_at_call 23; (with_reducible refine (HO2.out _ HB2.out).mono ?_); rintro ev w4 ⟨rfl, hb⟩; have HB3 := Lib.hid (below_step HB2.out hb); clear hb; obtain ⟨⟨r0, r1, r2, r3, r4, r5, r6, r7, r8⟩, ⟨d0, d1, d2⟩, ⟨e0, e1, e2⟩, f0, f1, f2⟩ := HXX.out _ HB3.out))
              have hz := HZ.out _ HB3.out
              refine bodyPost_ret (results_ct rfl _ _ (w.heap.size + 1 + 1) 27 #[.int .i64 0, .int .i64 0, .int .i64 0] (0, 0) _ rfl (stored3 hz) Tryd.underlying27 rfl rfl) rfl ?_
              first
                | exact ⟨(0, 0, 0), _, (.inr (.inr (.inr (.inr (.inl ⟨rfl, HT.out, rfl, hop, rfl, rfl⟩))))), rfl, (((K1.out.trans (HB3.out.mono K1.out.size)).setCell (by show w.heap.size ≤ w.heap.size + 1 + 1; omega) _).setCell (by show w.heap.size ≤ w.heap.size + 1 + 1; omega) _).setCell (by show w.heap.size ≤ w.heap.size + 1 + 1; omega) _⟩
                | exact ⟨0, 0, 0, _, (.inr (.inr (.inr (.inr (.inl ⟨rfl, HT.out, rfl, hop, rfl, rfl⟩))))), rfl, (((K1.out.trans (HB3.out.mono K1.out.size)).setCell (by show w.heap.size ≤ w.heap.size + 1 + 1; omega) _).setCell (by show w.heap.size ≤ w.heap.size + 1 + 1; omega) _).setCell (by show w.heap.size ≤ w.heap.size + 1 + 1; omega) _⟩
            · rw [hop] at HO2
              go_enter Tryd.func12, Tryd.ntmps12
              go_upto_region 1 with fail
              have hw := HW.out
              unfold rcells at hw
              rw [← hw]
              clear hw HW
              go_wp2_with (first
                | (go_at_call 18; (with_reducible refine (HGd.out _ (Below.refl _ _)).mono ?_); rintro ev w2 ⟨rfl, hb⟩; have HB := Lib.hid (hb); clear hb; obtain ⟨⟨r0, r1, r2, r3, r4, r5, r6, r7, r8⟩, ⟨d0, d1, d2⟩, ⟨e0, e1, e2⟩, f0, f1, f2⟩ := HXX.out _ HB.out)
                | (go_at_call 19; (with_reducible refine (HVt.out _ HB.out).mono ?_); rintro ev w3 ⟨rfl, hb⟩; have HB2 := Lib.hid (below_step HB.out hb); clear hb; obtain ⟨⟨r0, r1, r2, r3, r4, r5, r6, r7, r8⟩, ⟨d0, d1, d2⟩, ⟨e0, e1, e2⟩, f0, f1, f2⟩ := HXX.out _ HB2.out)
                | (go_at_call 23; (with_reducible refine (HO2.out _ HB2.out).mono ?_); rintro ev w4 ⟨rfl, hb⟩; have HB3 := Lib.hid (below_step HB2.out hb); clear hb; obtain ⟨⟨r0, r1, r2, r3, r4, r5, r6, r7, r8⟩, ⟨d0, d1, d2⟩, ⟨e0, e1, e2⟩, f0, f1, f2⟩ := HXX.out _ HB3.out))
              have hz := HZ.out _ HB3.out
              refine bodyPost_ret (results_ct rfl _ _ (w.heap.size + 1 + 1) 27 #[.int .i64 t.1, .int .i64 t.2.1, .int .i64 t.2.2] (0, 0) _ rfl (stored3 hz) Tryd.underlying27 rfl rfl) rfl ?_
              exact ⟨t, _, (.inr (.inr (.inr (.inl ⟨rfl, HT.out, rfl, hop, rfl, rfl⟩)))), rfl, (((K1.out.trans (HB3.out.mono K1.out.size)).setCell (by show w.heap.size ≤ w.heap.size + 1 + 1; omega) _).setCell (by show w.heap.size ≤ w.heap.size + 1 + 1; omega) _).setCell (by show w.heap.size ≤ w.heap.size + 1 + 1; omega) _⟩
          · have z4 : (n == 0) = false := beq_eq_false_iff_ne.2 hn0
            have b1 := HBd'.out (nm t) (by omega) (by omega)
            have b2 := HBd'.out (nm t + 1) (by omega) (by omega)
            have b3 := HBd'.out 3652425 (by omega) (by omega)
            have HB1a := Lib.hid (HB'.out (nm t) (by omega) (by omega))
            have HB1b := Lib.hid (HB'.out (nm t + 1) (by omega) (by omega))
            have HB1c := Lib.hid (HB'.out 3652425 (by omega) (by omega))
            have HTG : Hid (targ dy S E (nm t) n = if 0 < n then belF dy S E (nm t + 1) + n else belF dy S E (nm t) + n + 1) := Lib.hid rfl
            have HEN : Hid (∀ d c, (((targ dy S E (nm t) n < 1 ∨ belF dy S E 3652425 < targ dy S E (nm t) n) ∧ d = (0, 0, 0) ∧ c = 35) ∨ ((1 ≤ targ dy S E (nm t) n ∧ targ dy S E (nm t) n ≤ belF dy S E 3652425) ∧ c = 0 ∧
                ∃ i, 0 ≤ i ∧ i ≤ 3652424 ∧ (0 < i → belF dy S E i < targ dy S E (nm t) n) ∧ (i < 3652424 → targ dy S E (nm t) n ≤ belF dy S E (i + 1)) ∧ d = dt i)) → MoveR true dy S E t n d c) := Lib.hid fun d c h => by
              rcases h with h | h
              · exact .inr (.inr (.inr (.inr (.inr (.inl ⟨rfl, HT.out, ⟨by omega, by omega⟩, hn0, h⟩)))))
              · exact .inr (.inr (.inr (.inr (.inr (.inr ⟨rfl, HT.out, ⟨by omega, by omega⟩, hn0, h⟩)))))
            have HSf : Hid (∀ (tb : Nat) (tg : Int) w', Below W.heap.size W w' → w'.heap[tb]? = some (.cells #[.int .i64 tg] 3 (0, 0)) → _) := HSe'
            generalize targ dy S E (nm t) n = tgt at *
            obtain ⟨x1, hx1⟩ : ∃ x1, x1 = belF dy S E (nm t) := ⟨_, rfl⟩
            obtain ⟨x2, hx2⟩ : ∃ x2, x2 = belF dy S E (nm t + 1) := ⟨_, rfl⟩
            obtain ⟨x3, hx3⟩ : ∃ x3, x3 = belF dy S E 3652425 := ⟨_, rfl⟩
            rw [← hx1] at b1 HB1a HTG
            rw [← hx2] at b2 HB1b HTG
            rw [← hx3] at b3 HB1c HEN
            clear hx1 hx2 hx3 HB' HBd' HSe'
            have y0 : ∀ (w' : World) (tb : Nat) (v : Int), (w'.alloc (.cells #[.int .i64 v] 3)).heap[w'.heap.size]? = some (.cells #[.int .i64 v] 3 (0, 0)) := fun w' tb v => alnew w' _
            have Y0 := Lib.hid y0
            clear y0
            by_cases hp : 0 < n
            · have z5 : decide (0 < n) = true := decide_eq_true hp
              have z6 : decide (n > 0) = true := decide_eq_true hp
              have htg : tgt = x2 + n := by rw [HTG.out, if_pos hp]
              clear HTG
              go_enter Tryd.func12, Tryd.ntmps12
              go_upto_region 1 with fail
              have hw := HW.out
              unfold rcells at hw
              rw [← hw]
              clear hw HW
              go_upto_region 12 with (first
                | (go_at_call 18; (with_reducible refine (HGd.out _ (Below.refl _ _)).mono ?_); rintro ev w2 ⟨rfl, hb⟩; have HB := Lib.hid (hb); clear hb; obtain ⟨⟨r0, r1, r2, r3, r4, r5, r6, r7, r8⟩, ⟨d0, d1, d2⟩, ⟨e0, e1, e2⟩, f0, f1, f2⟩ := HXX.out _ HB.out)
                | (go_at_call 19; (with_reducible refine (HVt.out _ HB.out).mono ?_); rintro ev w3 ⟨rfl, hb⟩; have HB2 := Lib.hid (below_step HB.out hb); clear hb; obtain ⟨⟨r0, r1, r2, r3, r4, r5, r6, r7, r8⟩, ⟨d0, d1, d2⟩, ⟨e0, e1, e2⟩, f0, f1, f2⟩ := HXX.out _ HB2.out)
                | (go_at_call 20; (with_reducible refine (HN2.out _ HB2.out).mono ?_); rintro ev w4 ⟨rfl, hb⟩; have HB3 := Lib.hid (below_step HB2.out hb); clear hb; obtain ⟨⟨r0, r1, r2, r3, r4, r5, r6, r7, r8⟩, ⟨d0, d1, d2⟩, ⟨e0, e1, e2⟩, f0, f1, f2⟩ := HXX.out _ HB3.out)
                | (go_at_call 21; (with_reducible refine (HB1a.out _ HB3.out).mono ?_); rintro ev w5 ⟨rfl, hb⟩; have HB4 := Lib.hid (below_step HB3.out hb); clear hb; obtain ⟨⟨r0, r1, r2, r3, r4, r5, r6, r7, r8⟩, ⟨d0, d1, d2⟩, ⟨e0, e1, e2⟩, f0, f1, f2⟩ := HXX.out _ HB4.out))
              obtain ⟨X, hX⟩ : ∃ X, X = w5.alloc (.cells #[.int .i64 (x1 + n + 1)] 3) := ⟨_, rfl⟩
              rw [← hX]
              have HB5 : Hid (Below W.heap.size W X) := Lib.hid (by rw [hX]; exact below_alloc HB4.out _)
              have HTB0 : Hid (∀ w', Below X.heap.size X w' → w'.heap[w5.heap.size]? = some (.cells #[.int .i64 (x1 + n + 1)] 3 (0, 0))) := Lib.hid fun w' k => by
                have hx : X.heap[w5.heap.size]? = some (.cells #[.int .i64 (x1 + n + 1)] 3 (0, 0)) := by rw [hX]; exact alnew w5 _
                exact (k.block _ (Array.getElem?_eq_some_iff.1 hx).1).trans hx
              have HTC : Hid (∀ w', Below X.heap.size X w' → (w'.cell? ⟨w5.heap.size, 0, none⟩ = some (.int .i64 (x1 + n + 1)) ∧ w'.frozen? ⟨w5.heap.size, 0, none⟩ = false)) := Lib.hid fun w' k => one1 (HTB0.out w' k)
              have HX5 := Lib.hid (Below.refl X.heap.size X)
              clear hX
              obtain ⟨⟨r0, r1, r2, r3, r4, r5, r6, r7, r8⟩, ⟨d0, d1, d2⟩, ⟨e0, e1, e2⟩, f0, f1, f2⟩ := HXX.out _ HB5.out
              obtain ⟨g0, g1⟩ := HTC.out _ HX5.out
              go_upto_region 14 with (first
                | (go_at_call 20; (with_reducible refine (HN2.out _ HB5.out).mono ?_); rintro ev w6 ⟨rfl, hb⟩; have HB6 := Lib.hid (below_step HB5.out hb); have HX6 := Lib.hid (below_step HX5.out hb); clear hb; obtain ⟨g0, g1⟩ := HTC.out _ HX6.out; obtain ⟨⟨r0, r1, r2, r3, r4, r5, r6, r7, r8⟩, ⟨d0, d1, d2⟩, ⟨e0, e1, e2⟩, f0, f1, f2⟩ := HXX.out _ HB6.out)
                | (go_at_call 21; (with_reducible refine (HB1b.out _ HB6.out).mono ?_); rintro ev w7 ⟨rfl, hb⟩; have HB7 := Lib.hid (below_step HB6.out hb); have HX7 := Lib.hid (below_step HX6.out hb); clear hb; obtain ⟨g0, g1⟩ := HTC.out _ HX7.out; obtain ⟨⟨r0, r1, r2, r3, r4, r5, r6, r7, r8⟩, ⟨d0, d1, d2⟩, ⟨e0, e1, e2⟩, f0, f1, f2⟩ := HXX.out _ HB7.out))
              have hty := HTB0.out _ HX7.out
              have hs5 := HB4.out.size
              obtain ⟨wr, hwr⟩ : ∃ wr, wr = w7.setCell ⟨w5.heap.size, 0, none⟩ (.int .i64 (x2 + n)) := ⟨_, rfl⟩
              rw [← hwr]
              have HBY : Hid (Below W.heap.size W wr) := Lib.hid (by rw [hwr]; exact HB7.out.setCell (by show W.heap.size ≤ w5.heap.size; exact hs5) _)
              have HTB : Hid (wr.heap[w5.heap.size]? = some (.cells #[.int .i64 tgt] 3 (0, 0))) := Lib.hid (by rw [hwr, htg]; exact put1 hty)
              clear hwr hty hs5 g0 g1 htg
              have HBL : Hid (∀ w1, Below wr.heap.size wr w1 → Calls Tryd.prog 21 #[.pointer (some ⟨w.heap.size, 0, none⟩), .int .i64 3652425] w1 fun e w'' => e = .returned (.int .i64 x3) ∧ Below w1.heap.size w1 w'') := Lib.hid fun w1 k => HB1c.out w1 (below_step HBY.out k)
              have HSS : Hid (∀ w', Below wr.heap.size wr w' → (w'.cell? ⟨w5.heap.size, 0, none⟩ = some (.int .i64 tgt))) := Lib.hid fun w' k => (one1 ((k.block _ (Array.getElem?_eq_some_iff.1 HTB.out).1).trans HTB.out)).1
              have hb0 : Below wr.heap.size wr wr.drew := (Below.refl _ _).drew
              clear r0 r1 r2 r3 r4 r5 r6 r7 r8 d0 d1 d2 e0 e1 e2 f0 f1 f2
              by_cases h1 : tgt < 1
              · have q1 : decide (tgt < 1) = true := decide_eq_true h1
                refine start_ (n := 7) (S := fun w' => w'.cell? ⟨w5.heap.size, 0, none⟩ = some (.int .i64 tgt)) (ds := []) #[false, false, false, false, false, false, false] (by kernel_rfl) rfl rfl (HSS.out _ hb0) (fun hHeld => ?_); refine with_tab mv14_tab (fun HT_ => ?_)
                generalize wr.drew = w6 at hb0 hHeld ⊢
                refine take_ (i := 0) (N := some 53) (v := ?_) (a' := ?_) #[true, false, false, false, false, false, false] rfl rfl (take_of HT_.out (by kernel_rfl)) (fun _ _ _ h => h) (Or.inl ⟨by rfl, ?_⟩) hHeld ?_ ?_
                rotate_left
                · rintro w' s1
                  go_simp
                  try with_reducible rfl
                rotate_left
                · simp only [Act.put, List.setIfInBounds_toArray, List.set_cons_zero, List.set_cons_succ]
                  rfl
                refine pure_ (i := 1) (N := some 54) (v := ?_) (a' := ?_) #[true, true, false, false, false, false, false] rfl rfl (any_of HT_.out (by kernel_rfl)) (fun _ _ _ h => h) (Or.inl ⟨by rfl, ?_⟩) ?_ ?_
                rotate_left
                · intro w'
                  go_simp
                  try with_reducible rfl
                rotate_left
                · simp only [Act.put, List.setIfInBounds_toArray, List.set_cons_zero, List.set_cons_succ]
                  rfl
                refine pure_ (i := 2) (N := some 55) (v := ?_) (a' := ?_) #[true, true, true, false, false, false, false] rfl rfl (any_of HT_.out (by kernel_rfl)) (fun _ _ _ h => h) (Or.inl ⟨by rfl, ?_⟩) ?_ ?_
                rotate_left
                · intro w'
                  go_simp
                  try with_reducible rfl
                rotate_left
                · simp only [Act.put, List.setIfInBounds_toArray, List.set_cons_zero, List.set_cons_succ]
                  rfl
                refine pure_ (i := 3) (N := some 56) (v := undef) (a' := ?_) #[true, true, true, true, false, false, false] rfl rfl (any_of HT_.out (by kernel_rfl)) (fun _ _ _ h => h) (Or.inr ⟨by rfl, rfl⟩) ?_ ?_
                rotate_left
                · simp only [Act.put, List.setIfInBounds_toArray, List.set_cons_zero, List.set_cons_succ]
                  rfl
                refine one_ (i := 4) (N := some 57) #[true, true, true, true, true, false, false] rfl rfl (one_of HT_.out (by kernel_rfl)) (by decide) (fun K hK => ?_)
                refine off_ (by rfl) ?_
                refine hK.out _ _ hHeld (fun hHeld => ?_)
                clear hK K
                refine norm_ (a' := ?_) ?_ ?_
                rotate_left
                · show Act.put _ (some 57) _ = _
                  simp only [Act.put, List.setIfInBounds_toArray, List.set_cons_zero, List.set_cons_succ]
                  rfl
                refine pure_ (i := 5) (N := some 58) (v := undef) (a' := ?_) #[true, true, true, true, true, true, false] rfl rfl (any_of HT_.out (by kernel_rfl)) (fun _ _ _ h => h) (Or.inr ⟨by rfl, rfl⟩) ?_ ?_
                rotate_left
                · simp only [Act.put, List.setIfInBounds_toArray, List.set_cons_zero, List.set_cons_succ]
                  rfl
                refine pure_ (i := 6) (N := some 59) (v := ?_) (a' := ?_) #[true, true, true, true, true, true, true] rfl rfl (any_of HT_.out (by kernel_rfl)) (fun _ _ _ h => h) (Or.inl ⟨by rfl, ?_⟩) ?_ ?_
                rotate_left
                · intro w'
                  go_simp
                  try with_reducible rfl
                rotate_left
                · simp only [Act.put, List.setIfInBounds_toArray, List.set_cons_zero, List.set_cons_succ]
                  rfl
                refine done_ (done_of HT_.out (by kernel_rfl)) ?_
                have HBe := Lib.hid (below_step HBY.out hb0)
                obtain ⟨⟨r0, r1, r2, r3, r4, r5, r6, r7, r8⟩, ⟨d0, d1, d2⟩, ⟨e0, e1, e2⟩, f0, f1, f2⟩ := HXX.out _ HBe.out
                go_wp2_with fail
                have hz := HZ.out _ HBe.out
                refine bodyPost_ret (results_ct rfl _ _ (w.heap.size + 1 + 1) 27 #[.int .i64 0, .int .i64 0, .int .i64 0] (0, 0) _ rfl (stored3 hz) Tryd.underlying27 rfl rfl) rfl ?_
                first
                  | exact ⟨(0, 0, 0), _, (HEN.out _ _ (.inl ⟨.inl h1, rfl, rfl⟩)), rfl, (((K1.out.trans (HBe.out.mono K1.out.size)).setCell (by show w.heap.size ≤ w.heap.size + 1 + 1; omega) _).setCell (by show w.heap.size ≤ w.heap.size + 1 + 1; omega) _).setCell (by show w.heap.size ≤ w.heap.size + 1 + 1; omega) _⟩
                  | exact ⟨0, 0, 0, _, (HEN.out _ _ (.inl ⟨.inl h1, rfl, rfl⟩)), rfl, (((K1.out.trans (HBe.out.mono K1.out.size)).setCell (by show w.heap.size ≤ w.heap.size + 1 + 1; omega) _).setCell (by show w.heap.size ≤ w.heap.size + 1 + 1; omega) _).setCell (by show w.heap.size ≤ w.heap.size + 1 + 1; omega) _⟩
              · have q1 : decide (tgt < 1) = false := decide_eq_false h1
                by_cases h2 : x3 < tgt
                · have q2 : decide (x3 < tgt) = true := decide_eq_true h2
                  have q3 : decide (tgt > x3) = true := decide_eq_true h2
                  refine start_ (n := 7) (S := fun w' => w'.cell? ⟨w5.heap.size, 0, none⟩ = some (.int .i64 tgt)) (ds := []) #[false, false, false, false, false, false, false] (by kernel_rfl) rfl rfl (HSS.out _ hb0) (fun hHeld => ?_); refine with_tab mv14_tab (fun HT_ => ?_)
                  generalize wr.drew = w6 at hb0 hHeld ⊢
                  refine take_ (i := 0) (N := some 53) (v := ?_) (a' := ?_) #[true, false, false, false, false, false, false] rfl rfl (take_of HT_.out (by kernel_rfl)) (fun _ _ _ h => h) (Or.inl ⟨by rfl, ?_⟩) hHeld ?_ ?_
                  rotate_left
                  · rintro w' s1
                    go_simp
                    try with_reducible rfl
                  rotate_left
                  · simp only [Act.put, List.setIfInBounds_toArray, List.set_cons_zero, List.set_cons_succ]
                    rfl
                  refine pure_ (i := 1) (N := some 54) (v := ?_) (a' := ?_) #[true, true, false, false, false, false, false] rfl rfl (any_of HT_.out (by kernel_rfl)) (fun _ _ _ h => h) (Or.inl ⟨by rfl, ?_⟩) ?_ ?_
                  rotate_left
                  · intro w'
                    go_simp
                    try with_reducible rfl
                  rotate_left
                  · simp only [Act.put, List.setIfInBounds_toArray, List.set_cons_zero, List.set_cons_succ]
                    rfl
                  refine pure_ (i := 2) (N := some 55) (v := ?_) (a' := ?_) #[true, true, true, false, false, false, false] rfl rfl (any_of HT_.out (by kernel_rfl)) (fun _ _ _ h => h) (Or.inl ⟨by rfl, ?_⟩) ?_ ?_
                  rotate_left
                  · intro w'
                    go_simp
                    try with_reducible rfl
                  rotate_left
                  · simp only [Act.put, List.setIfInBounds_toArray, List.set_cons_zero, List.set_cons_succ]
                    rfl
                  refine take_ (i := 3) (N := some 56) (v := ?_) (a' := ?_) #[true, true, true, true, false, false, false] rfl rfl (take_of HT_.out (by kernel_rfl)) (fun _ _ _ h => h) (Or.inl ⟨by rfl, ?_⟩) hHeld ?_ ?_
                  rotate_left
                  · rintro w' s1
                    go_simp
                    try with_reducible rfl
                  rotate_left
                  · simp only [Act.put, List.setIfInBounds_toArray, List.set_cons_zero, List.set_cons_succ]
                    rfl
                  refine one_ (i := 4) (N := some 57) #[true, true, true, true, true, false, false] rfl rfl (one_of HT_.out (by kernel_rfl)) (by decide) (fun K hK => ?_)
                  refine goes_ Tryd.func21 (by kernel_rfl) rfl #[.pointer (some ⟨w.heap.size, 0, none⟩), .int .i64 3652425] (by rfl) rfl rfl (by (try simp only [List.map_toArray, List.map_cons, List.map_nil]); first | done | rfl) ?_
                  with_reducible refine (HBL.out _ hb0).mono ?_
                  rintro ev w20 ⟨rfl, hbc0⟩
                  have hbc0' := hb0.trans (hbc0.mono hb0.size)
                  refine ⟨_, rfl, ?_⟩
                  refine hK.out _ _ (HSS.out _ hbc0') (fun hHeld => ?_)
                  clear hK K
                  refine norm_ (a' := ?_) ?_ ?_
                  rotate_left
                  · show Act.put _ (some 57) _ = _
                    simp only [Act.put, List.setIfInBounds_toArray, List.set_cons_zero, List.set_cons_succ]
                    rfl
                  refine pure_ (i := 5) (N := some 58) (v := ?_) (a' := ?_) #[true, true, true, true, true, true, false] rfl rfl (any_of HT_.out (by kernel_rfl)) (fun _ _ _ h => h) (Or.inl ⟨by rfl, ?_⟩) ?_ ?_
                  rotate_left
                  · intro w'
                    go_simp
                    try with_reducible rfl
                  rotate_left
                  · simp only [Act.put, List.setIfInBounds_toArray, List.set_cons_zero, List.set_cons_succ]
                    rfl
                  refine pure_ (i := 6) (N := some 59) (v := ?_) (a' := ?_) #[true, true, true, true, true, true, true] rfl rfl (any_of HT_.out (by kernel_rfl)) (fun _ _ _ h => h) (Or.inl ⟨by rfl, ?_⟩) ?_ ?_
                  rotate_left
                  · intro w'
                    go_simp
                    try with_reducible rfl
                  rotate_left
                  · simp only [Act.put, List.setIfInBounds_toArray, List.set_cons_zero, List.set_cons_succ]
                    rfl
                  refine done_ (done_of HT_.out (by kernel_rfl)) ?_
                  have HBe := Lib.hid (below_step HBY.out hbc0')
                  obtain ⟨⟨r0, r1, r2, r3, r4, r5, r6, r7, r8⟩, ⟨d0, d1, d2⟩, ⟨e0, e1, e2⟩, f0, f1, f2⟩ := HXX.out _ HBe.out
                  go_wp2_with fail
                  have hz := HZ.out _ HBe.out
                  refine bodyPost_ret (results_ct rfl _ _ (w.heap.size + 1 + 1) 27 #[.int .i64 0, .int .i64 0, .int .i64 0] (0, 0) _ rfl (stored3 hz) Tryd.underlying27 rfl rfl) rfl ?_
                  first
                    | exact ⟨(0, 0, 0), _, (HEN.out _ _ (.inl ⟨.inr h2, rfl, rfl⟩)), rfl, (((K1.out.trans (HBe.out.mono K1.out.size)).setCell (by show w.heap.size ≤ w.heap.size + 1 + 1; omega) _).setCell (by show w.heap.size ≤ w.heap.size + 1 + 1; omega) _).setCell (by show w.heap.size ≤ w.heap.size + 1 + 1; omega) _⟩
                    | exact ⟨0, 0, 0, _, (HEN.out _ _ (.inl ⟨.inr h2, rfl, rfl⟩)), rfl, (((K1.out.trans (HBe.out.mono K1.out.size)).setCell (by show w.heap.size ≤ w.heap.size + 1 + 1; omega) _).setCell (by show w.heap.size ≤ w.heap.size + 1 + 1; omega) _).setCell (by show w.heap.size ≤ w.heap.size + 1 + 1; omega) _⟩
                · have q2 : decide (x3 < tgt) = false := decide_eq_false h2
                  have q3 : decide (tgt > x3) = false := decide_eq_false h2
                  refine start_ (n := 7) (S := fun w' => w'.cell? ⟨w5.heap.size, 0, none⟩ = some (.int .i64 tgt)) (ds := []) #[false, false, false, false, false, false, false] (by kernel_rfl) rfl rfl (HSS.out _ hb0) (fun hHeld => ?_); refine with_tab mv14_tab (fun HT_ => ?_)
                  generalize wr.drew = w6 at hb0 hHeld ⊢
                  refine take_ (i := 0) (N := some 53) (v := ?_) (a' := ?_) #[true, false, false, false, false, false, false] rfl rfl (take_of HT_.out (by kernel_rfl)) (fun _ _ _ h => h) (Or.inl ⟨by rfl, ?_⟩) hHeld ?_ ?_
                  rotate_left
                  · rintro w' s1
                    go_simp
                    try with_reducible rfl
                  rotate_left
                  · simp only [Act.put, List.setIfInBounds_toArray, List.set_cons_zero, List.set_cons_succ]
                    rfl
                  refine pure_ (i := 1) (N := some 54) (v := ?_) (a' := ?_) #[true, true, false, false, false, false, false] rfl rfl (any_of HT_.out (by kernel_rfl)) (fun _ _ _ h => h) (Or.inl ⟨by rfl, ?_⟩) ?_ ?_
                  rotate_left
                  · intro w'
                    go_simp
                    try with_reducible rfl
                  rotate_left
                  · simp only [Act.put, List.setIfInBounds_toArray, List.set_cons_zero, List.set_cons_succ]
                    rfl
                  refine pure_ (i := 2) (N := some 55) (v := ?_) (a' := ?_) #[true, true, true, false, false, false, false] rfl rfl (any_of HT_.out (by kernel_rfl)) (fun _ _ _ h => h) (Or.inl ⟨by rfl, ?_⟩) ?_ ?_
                  rotate_left
                  · intro w'
                    go_simp
                    try with_reducible rfl
                  rotate_left
                  · simp only [Act.put, List.setIfInBounds_toArray, List.set_cons_zero, List.set_cons_succ]
                    rfl
                  refine take_ (i := 3) (N := some 56) (v := ?_) (a' := ?_) #[true, true, true, true, false, false, false] rfl rfl (take_of HT_.out (by kernel_rfl)) (fun _ _ _ h => h) (Or.inl ⟨by rfl, ?_⟩) hHeld ?_ ?_
                  rotate_left
                  · rintro w' s1
                    go_simp
                    try with_reducible rfl
                  rotate_left
                  · simp only [Act.put, List.setIfInBounds_toArray, List.set_cons_zero, List.set_cons_succ]
                    rfl
                  refine one_ (i := 4) (N := some 57) #[true, true, true, true, true, false, false] rfl rfl (one_of HT_.out (by kernel_rfl)) (by decide) (fun K hK => ?_)
                  refine goes_ Tryd.func21 (by kernel_rfl) rfl #[.pointer (some ⟨w.heap.size, 0, none⟩), .int .i64 3652425] (by rfl) rfl rfl (by (try simp only [List.map_toArray, List.map_cons, List.map_nil]); first | done | rfl) ?_
                  with_reducible refine (HBL.out _ hb0).mono ?_
                  rintro ev w20 ⟨rfl, hbc0⟩
                  have hbc0' := hb0.trans (hbc0.mono hb0.size)
                  refine ⟨_, rfl, ?_⟩
                  refine hK.out _ _ (HSS.out _ hbc0') (fun hHeld => ?_)
                  clear hK K
                  refine norm_ (a' := ?_) ?_ ?_
                  rotate_left
                  · show Act.put _ (some 57) _ = _
                    simp only [Act.put, List.setIfInBounds_toArray, List.set_cons_zero, List.set_cons_succ]
                    rfl
                  refine pure_ (i := 5) (N := some 58) (v := ?_) (a' := ?_) #[true, true, true, true, true, true, false] rfl rfl (any_of HT_.out (by kernel_rfl)) (fun _ _ _ h => h) (Or.inl ⟨by rfl, ?_⟩) ?_ ?_
                  rotate_left
                  · intro w'
                    go_simp
                    try with_reducible rfl
                  rotate_left
                  · simp only [Act.put, List.setIfInBounds_toArray, List.set_cons_zero, List.set_cons_succ]
                    rfl
                  refine pure_ (i := 6) (N := some 59) (v := ?_) (a' := ?_) #[true, true, true, true, true, true, true] rfl rfl (any_of HT_.out (by kernel_rfl)) (fun _ _ _ h => h) (Or.inl ⟨by rfl, ?_⟩) ?_ ?_
                  rotate_left
                  · intro w'
                    go_simp
                    try with_reducible rfl
                  rotate_left
                  · simp only [Act.put, List.setIfInBounds_toArray, List.set_cons_zero, List.set_cons_succ]
                    rfl
                  refine done_ (done_of HT_.out (by kernel_rfl)) ?_
                  have HBe := Lib.hid (below_step HBY.out hbc0')
                  have HTe := Lib.hid ((hbc0'.block _ (Array.getElem?_eq_some_iff.1 HTB.out).1).trans HTB.out)
                  obtain ⟨⟨r0, r1, r2, r3, r4, r5, r6, r7, r8⟩, ⟨d0, d1, d2⟩, ⟨e0, e1, e2⟩, f0, f1, f2⟩ := HXX.out _ HBe.out
                  go_wp2_with (first
                    | (go_at_call 25; (with_reducible refine (HSf.out _ tgt _ HBe.out HTe.out).mono ?_); rintro ev w8 ⟨i, rfl, hb, hi⟩; have HB8 := Lib.hid (below_step HBe.out hb); have HI := Lib.hid hi; clear hb hi; obtain ⟨⟨r0, r1, r2, r3, r4, r5, r6, r7, r8⟩, ⟨d0, d1, d2⟩, ⟨e0, e1, e2⟩, f0, f1, f2⟩ := HXX.out _ HB8.out)
                    | (go_at_call 24; (with_reducible refine (HDt.out i HI.out.1 HI.out.2.1 _ HB8.out).mono ?_); rintro ev w9 ⟨rfl, hb⟩; have HB9 := Lib.hid (below_step HB8.out hb); clear hb; obtain ⟨⟨r0, r1, r2, r3, r4, r5, r6, r7, r8⟩, ⟨d0, d1, d2⟩, ⟨e0, e1, e2⟩, f0, f1, f2⟩ := HXX.out _ HB9.out))
                  have hz := HZ.out _ HB9.out
                  refine bodyPost_ret (results_ct rfl _ _ (w.heap.size + 1 + 1) 27 #[.int .i64 (dt i).1, .int .i64 (dt i).2.1, .int .i64 (dt i).2.2] (0, 0) _ rfl (stored3 hz) Tryd.underlying27 rfl rfl) rfl ?_
                  exact ⟨(dt i), _, (HEN.out _ _ (.inr ⟨⟨by omega, by omega⟩, rfl, i, HI.out.1, HI.out.2.1, HI.out.2.2.1, HI.out.2.2.2, rfl⟩)), rfl, (((K1.out.trans (HB9.out.mono K1.out.size)).setCell (by show w.heap.size ≤ w.heap.size + 1 + 1; omega) _).setCell (by show w.heap.size ≤ w.heap.size + 1 + 1; omega) _).setCell (by show w.heap.size ≤ w.heap.size + 1 + 1; omega) _⟩
            · have z5 : decide (0 < n) = false := decide_eq_false hp
              have z6 : decide (n > 0) = false := decide_eq_false hp
              have htg : tgt = x1 + n + 1 := by rw [HTG.out, if_neg hp]
              clear HTG
              go_enter Tryd.func12, Tryd.ntmps12
              go_upto_region 1 with fail
              have hw := HW.out
              unfold rcells at hw
              rw [← hw]
              clear hw HW
              go_upto_region 12 with (first
                | (go_at_call 18; (with_reducible refine (HGd.out _ (Below.refl _ _)).mono ?_); rintro ev w2 ⟨rfl, hb⟩; have HB := Lib.hid (hb); clear hb; obtain ⟨⟨r0, r1, r2, r3, r4, r5, r6, r7, r8⟩, ⟨d0, d1, d2⟩, ⟨e0, e1, e2⟩, f0, f1, f2⟩ := HXX.out _ HB.out)
                | (go_at_call 19; (with_reducible refine (HVt.out _ HB.out).mono ?_); rintro ev w3 ⟨rfl, hb⟩; have HB2 := Lib.hid (below_step HB.out hb); clear hb; obtain ⟨⟨r0, r1, r2, r3, r4, r5, r6, r7, r8⟩, ⟨d0, d1, d2⟩, ⟨e0, e1, e2⟩, f0, f1, f2⟩ := HXX.out _ HB2.out)
                | (go_at_call 20; (with_reducible refine (HN2.out _ HB2.out).mono ?_); rintro ev w4 ⟨rfl, hb⟩; have HB3 := Lib.hid (below_step HB2.out hb); clear hb; obtain ⟨⟨r0, r1, r2, r3, r4, r5, r6, r7, r8⟩, ⟨d0, d1, d2⟩, ⟨e0, e1, e2⟩, f0, f1, f2⟩ := HXX.out _ HB3.out)
                | (go_at_call 21; (with_reducible refine (HB1a.out _ HB3.out).mono ?_); rintro ev w5 ⟨rfl, hb⟩; have HB4 := Lib.hid (below_step HB3.out hb); clear hb; obtain ⟨⟨r0, r1, r2, r3, r4, r5, r6, r7, r8⟩, ⟨d0, d1, d2⟩, ⟨e0, e1, e2⟩, f0, f1, f2⟩ := HXX.out _ HB4.out))
              obtain ⟨X, hX⟩ : ∃ X, X = w5.alloc (.cells #[.int .i64 (x1 + n + 1)] 3) := ⟨_, rfl⟩
              rw [← hX]
              have HB5 : Hid (Below W.heap.size W X) := Lib.hid (by rw [hX]; exact below_alloc HB4.out _)
              have HTB0 : Hid (∀ w', Below X.heap.size X w' → w'.heap[w5.heap.size]? = some (.cells #[.int .i64 (x1 + n + 1)] 3 (0, 0))) := Lib.hid fun w' k => by
                have hx : X.heap[w5.heap.size]? = some (.cells #[.int .i64 (x1 + n + 1)] 3 (0, 0)) := by rw [hX]; exact alnew w5 _
                exact (k.block _ (Array.getElem?_eq_some_iff.1 hx).1).trans hx
              have HTC : Hid (∀ w', Below X.heap.size X w' → (w'.cell? ⟨w5.heap.size, 0, none⟩ = some (.int .i64 (x1 + n + 1)) ∧ w'.frozen? ⟨w5.heap.size, 0, none⟩ = false)) := Lib.hid fun w' k => one1 (HTB0.out w' k)
              have HX5 := Lib.hid (Below.refl X.heap.size X)
              clear hX
              obtain ⟨⟨r0, r1, r2, r3, r4, r5, r6, r7, r8⟩, ⟨d0, d1, d2⟩, ⟨e0, e1, e2⟩, f0, f1, f2⟩ := HXX.out _ HB5.out
              obtain ⟨g0, g1⟩ := HTC.out _ HX5.out
              go_upto_region 14 with fail
              have hty := HTB0.out _ (Below.refl _ _)
              obtain ⟨wr, hwr⟩ : ∃ wr, wr = X := ⟨_, rfl⟩
              rw [← hwr]
              have HBY : Hid (Below W.heap.size W wr) := Lib.hid (by rw [hwr]; exact HB5.out)
              have HTB : Hid (wr.heap[w5.heap.size]? = some (.cells #[.int .i64 tgt] 3 (0, 0))) := Lib.hid (by rw [hwr, htg]; exact hty)
              clear hwr hty g0 g1 htg
              have HBL : Hid (∀ w1, Below wr.heap.size wr w1 → Calls Tryd.prog 21 #[.pointer (some ⟨w.heap.size, 0, none⟩), .int .i64 3652425] w1 fun e w'' => e = .returned (.int .i64 x3) ∧ Below w1.heap.size w1 w'') := Lib.hid fun w1 k => HB1c.out w1 (below_step HBY.out k)
              have HSS : Hid (∀ w', Below wr.heap.size wr w' → (w'.cell? ⟨w5.heap.size, 0, none⟩ = some (.int .i64 tgt))) := Lib.hid fun w' k => (one1 ((k.block _ (Array.getElem?_eq_some_iff.1 HTB.out).1).trans HTB.out)).1
              have hb0 : Below wr.heap.size wr wr.drew := (Below.refl _ _).drew
              clear r0 r1 r2 r3 r4 r5 r6 r7 r8 d0 d1 d2 e0 e1 e2 f0 f1 f2
              by_cases h1 : tgt < 1
              · have q1 : decide (tgt < 1) = true := decide_eq_true h1
                refine start_ (n := 7) (S := fun w' => w'.cell? ⟨w5.heap.size, 0, none⟩ = some (.int .i64 tgt)) (ds := []) #[false, false, false, false, false, false, false] (by kernel_rfl) rfl rfl (HSS.out _ hb0) (fun hHeld => ?_); refine with_tab mv14_tab (fun HT_ => ?_)
                generalize wr.drew = w6 at hb0 hHeld ⊢
                refine take_ (i := 0) (N := some 53) (v := ?_) (a' := ?_) #[true, false, false, false, false, false, false] rfl rfl (take_of HT_.out (by kernel_rfl)) (fun _ _ _ h => h) (Or.inl ⟨by rfl, ?_⟩) hHeld ?_ ?_
                rotate_left
                · rintro w' s1
                  go_simp
                  try with_reducible rfl
                rotate_left
                · simp only [Act.put, List.setIfInBounds_toArray, List.set_cons_zero, List.set_cons_succ]
                  rfl
                refine pure_ (i := 1) (N := some 54) (v := ?_) (a' := ?_) #[true, true, false, false, false, false, false] rfl rfl (any_of HT_.out (by kernel_rfl)) (fun _ _ _ h => h) (Or.inl ⟨by rfl, ?_⟩) ?_ ?_
                rotate_left
                · intro w'
                  go_simp
                  try with_reducible rfl
                rotate_left
                · simp only [Act.put, List.setIfInBounds_toArray, List.set_cons_zero, List.set_cons_succ]
                  rfl
                refine pure_ (i := 2) (N := some 55) (v := ?_) (a' := ?_) #[true, true, true, false, false, false, false] rfl rfl (any_of HT_.out (by kernel_rfl)) (fun _ _ _ h => h) (Or.inl ⟨by rfl, ?_⟩) ?_ ?_
                rotate_left
                · intro w'
                  go_simp
                  try with_reducible rfl
                rotate_left
                · simp only [Act.put, List.setIfInBounds_toArray, List.set_cons_zero, List.set_cons_succ]
                  rfl
                refine pure_ (i := 3) (N := some 56) (v := undef) (a' := ?_) #[true, true, true, true, false, false, false] rfl rfl (any_of HT_.out (by kernel_rfl)) (fun _ _ _ h => h) (Or.inr ⟨by rfl, rfl⟩) ?_ ?_
                rotate_left
                · simp only [Act.put, List.setIfInBounds_toArray, List.set_cons_zero, List.set_cons_succ]
                  rfl
                refine one_ (i := 4) (N := some 57) #[true, true, true, true, true, false, false] rfl rfl (one_of HT_.out (by kernel_rfl)) (by decide) (fun K hK => ?_)
                refine off_ (by rfl) ?_
                refine hK.out _ _ hHeld (fun hHeld => ?_)
                clear hK K
                refine norm_ (a' := ?_) ?_ ?_
                rotate_left
                · show Act.put _ (some 57) _ = _
                  simp only [Act.put, List.setIfInBounds_toArray, List.set_cons_zero, List.set_cons_succ]
                  rfl
                refine pure_ (i := 5) (N := some 58) (v := undef) (a' := ?_) #[true, true, true, true, true, true, false] rfl rfl (any_of HT_.out (by kernel_rfl)) (fun _ _ _ h => h) (Or.inr ⟨by rfl, rfl⟩) ?_ ?_
                rotate_left
                · simp only [Act.put, List.setIfInBounds_toArray, List.set_cons_zero, List.set_cons_succ]
                  rfl
                refine pure_ (i := 6) (N := some 59) (v := ?_) (a' := ?_) #[true, true, true, true, true, true, true] rfl rfl (any_of HT_.out (by kernel_rfl)) (fun _ _ _ h => h) (Or.inl ⟨by rfl, ?_⟩) ?_ ?_
                rotate_left
                · intro w'
                  go_simp
                  try with_reducible rfl
                rotate_left
                · simp only [Act.put, List.setIfInBounds_toArray, List.set_cons_zero, List.set_cons_succ]
                  rfl
                refine done_ (done_of HT_.out (by kernel_rfl)) ?_
                have HBe := Lib.hid (below_step HBY.out hb0)
                obtain ⟨⟨r0, r1, r2, r3, r4, r5, r6, r7, r8⟩, ⟨d0, d1, d2⟩, ⟨e0, e1, e2⟩, f0, f1, f2⟩ := HXX.out _ HBe.out
                go_wp2_with fail
                have hz := HZ.out _ HBe.out
                refine bodyPost_ret (results_ct rfl _ _ (w.heap.size + 1 + 1) 27 #[.int .i64 0, .int .i64 0, .int .i64 0] (0, 0) _ rfl (stored3 hz) Tryd.underlying27 rfl rfl) rfl ?_
                first
                  | exact ⟨(0, 0, 0), _, (HEN.out _ _ (.inl ⟨.inl h1, rfl, rfl⟩)), rfl, (((K1.out.trans (HBe.out.mono K1.out.size)).setCell (by show w.heap.size ≤ w.heap.size + 1 + 1; omega) _).setCell (by show w.heap.size ≤ w.heap.size + 1 + 1; omega) _).setCell (by show w.heap.size ≤ w.heap.size + 1 + 1; omega) _⟩
                  | exact ⟨0, 0, 0, _, (HEN.out _ _ (.inl ⟨.inl h1, rfl, rfl⟩)), rfl, (((K1.out.trans (HBe.out.mono K1.out.size)).setCell (by show w.heap.size ≤ w.heap.size + 1 + 1; omega) _).setCell (by show w.heap.size ≤ w.heap.size + 1 + 1; omega) _).setCell (by show w.heap.size ≤ w.heap.size + 1 + 1; omega) _⟩
              · have q1 : decide (tgt < 1) = false := decide_eq_false h1
                by_cases h2 : x3 < tgt
                · have q2 : decide (x3 < tgt) = true := decide_eq_true h2
                  have q3 : decide (tgt > x3) = true := decide_eq_true h2
                  refine start_ (n := 7) (S := fun w' => w'.cell? ⟨w5.heap.size, 0, none⟩ = some (.int .i64 tgt)) (ds := []) #[false, false, false, false, false, false, false] (by kernel_rfl) rfl rfl (HSS.out _ hb0) (fun hHeld => ?_); refine with_tab mv14_tab (fun HT_ => ?_)
                  generalize wr.drew = w6 at hb0 hHeld ⊢
                  refine take_ (i := 0) (N := some 53) (v := ?_) (a' := ?_) #[true, false, false, false, false, false, false] rfl rfl (take_of HT_.out (by kernel_rfl)) (fun _ _ _ h => h) (Or.inl ⟨by rfl, ?_⟩) hHeld ?_ ?_
                  rotate_left
                  · rintro w' s1
                    go_simp
                    try with_reducible rfl
                  rotate_left
                  · simp only [Act.put, List.setIfInBounds_toArray, List.set_cons_zero, List.set_cons_succ]
                    rfl
                  refine pure_ (i := 1) (N := some 54) (v := ?_) (a' := ?_) #[true, true, false, false, false, false, false] rfl rfl (any_of HT_.out (by kernel_rfl)) (fun _ _ _ h => h) (Or.inl ⟨by rfl, ?_⟩) ?_ ?_
                  rotate_left
                  · intro w'
                    go_simp
                    try with_reducible rfl
                  rotate_left
                  · simp only [Act.put, List.setIfInBounds_toArray, List.set_cons_zero, List.set_cons_succ]
                    rfl
                  refine pure_ (i := 2) (N := some 55) (v := ?_) (a' := ?_) #[true, true, true, false, false, false, false] rfl rfl (any_of HT_.out (by kernel_rfl)) (fun _ _ _ h => h) (Or.inl ⟨by rfl, ?_⟩) ?_ ?_
                  rotate_left
                  · intro w'
                    go_simp
                    try with_reducible rfl
                  rotate_left
                  · simp only [Act.put, List.setIfInBounds_toArray, List.set_cons_zero, List.set_cons_succ]
                    rfl
                  refine take_ (i := 3) (N := some 56) (v := ?_) (a' := ?_) #[true, true, true, true, false, false, false] rfl rfl (take_of HT_.out (by kernel_rfl)) (fun _ _ _ h => h) (Or.inl ⟨by rfl, ?_⟩) hHeld ?_ ?_
                  rotate_left
                  · rintro w' s1
                    go_simp
                    try with_reducible rfl
                  rotate_left
                  · simp only [Act.put, List.setIfInBounds_toArray, List.set_cons_zero, List.set_cons_succ]
                    rfl
                  refine one_ (i := 4) (N := some 57) #[true, true, true, true, true, false, false] rfl rfl (one_of HT_.out (by kernel_rfl)) (by decide) (fun K hK => ?_)
                  refine goes_ Tryd.func21 (by kernel_rfl) rfl #[.pointer (some ⟨w.heap.size, 0, none⟩), .int .i64 3652425] (by rfl) rfl rfl (by (try simp only [List.map_toArray, List.map_cons, List.map_nil]); first | done | rfl) ?_
                  with_reducible refine (HBL.out _ hb0).mono ?_
                  rintro ev w20 ⟨rfl, hbc0⟩
                  have hbc0' := hb0.trans (hbc0.mono hb0.size)
                  refine ⟨_, rfl, ?_⟩
                  refine hK.out _ _ (HSS.out _ hbc0') (fun hHeld => ?_)
                  clear hK K
                  refine norm_ (a' := ?_) ?_ ?_
                  rotate_left
                  · show Act.put _ (some 57) _ = _
                    simp only [Act.put, List.setIfInBounds_toArray, List.set_cons_zero, List.set_cons_succ]
                    rfl
                  refine pure_ (i := 5) (N := some 58) (v := ?_) (a' := ?_) #[true, true, true, true, true, true, false] rfl rfl (any_of HT_.out (by kernel_rfl)) (fun _ _ _ h => h) (Or.inl ⟨by rfl, ?_⟩) ?_ ?_
                  rotate_left
                  · intro w'
                    go_simp
                    try with_reducible rfl
                  rotate_left
                  · simp only [Act.put, List.setIfInBounds_toArray, List.set_cons_zero, List.set_cons_succ]
                    rfl
                  refine pure_ (i := 6) (N := some 59) (v := ?_) (a' := ?_) #[true, true, true, true, true, true, true] rfl rfl (any_of HT_.out (by kernel_rfl)) (fun _ _ _ h => h) (Or.inl ⟨by rfl, ?_⟩) ?_ ?_
                  rotate_left
                  · intro w'
                    go_simp
                    try with_reducible rfl
                  rotate_left
                  · simp only [Act.put, List.setIfInBounds_toArray, List.set_cons_zero, List.set_cons_succ]
                    rfl
                  refine done_ (done_of HT_.out (by kernel_rfl)) ?_
                  have HBe := Lib.hid (below_step HBY.out hbc0')
                  obtain ⟨⟨r0, r1, r2, r3, r4, r5, r6, r7, r8⟩, ⟨d0, d1, d2⟩, ⟨e0, e1, e2⟩, f0, f1, f2⟩ := HXX.out _ HBe.out
                  go_wp2_with fail
                  have hz := HZ.out _ HBe.out
                  refine bodyPost_ret (results_ct rfl _ _ (w.heap.size + 1 + 1) 27 #[.int .i64 0, .int .i64 0, .int .i64 0] (0, 0) _ rfl (stored3 hz) Tryd.underlying27 rfl rfl) rfl ?_
                  first
                    | exact ⟨(0, 0, 0), _, (HEN.out _ _ (.inl ⟨.inr h2, rfl, rfl⟩)), rfl, (((K1.out.trans (HBe.out.mono K1.out.size)).setCell (by show w.heap.size ≤ w.heap.size + 1 + 1; omega) _).setCell (by show w.heap.size ≤ w.heap.size + 1 + 1; omega) _).setCell (by show w.heap.size ≤ w.heap.size + 1 + 1; omega) _⟩
                    | exact ⟨0, 0, 0, _, (HEN.out _ _ (.inl ⟨.inr h2, rfl, rfl⟩)), rfl, (((K1.out.trans (HBe.out.mono K1.out.size)).setCell (by show w.heap.size ≤ w.heap.size + 1 + 1; omega) _).setCell (by show w.heap.size ≤ w.heap.size + 1 + 1; omega) _).setCell (by show w.heap.size ≤ w.heap.size + 1 + 1; omega) _⟩
                · have q2 : decide (x3 < tgt) = false := decide_eq_false h2
                  have q3 : decide (tgt > x3) = false := decide_eq_false h2
                  refine start_ (n := 7) (S := fun w' => w'.cell? ⟨w5.heap.size, 0, none⟩ = some (.int .i64 tgt)) (ds := []) #[false, false, false, false, false, false, false] (by kernel_rfl) rfl rfl (HSS.out _ hb0) (fun hHeld => ?_); refine with_tab mv14_tab (fun HT_ => ?_)
                  generalize wr.drew = w6 at hb0 hHeld ⊢
                  refine take_ (i := 0) (N := some 53) (v := ?_) (a' := ?_) #[true, false, false, false, false, false, false] rfl rfl (take_of HT_.out (by kernel_rfl)) (fun _ _ _ h => h) (Or.inl ⟨by rfl, ?_⟩) hHeld ?_ ?_
                  rotate_left
                  · rintro w' s1
                    go_simp
                    try with_reducible rfl
                  rotate_left
                  · simp only [Act.put, List.setIfInBounds_toArray, List.set_cons_zero, List.set_cons_succ]
                    rfl
                  refine pure_ (i := 1) (N := some 54) (v := ?_) (a' := ?_) #[true, true, false, false, false, false, false] rfl rfl (any_of HT_.out (by kernel_rfl)) (fun _ _ _ h => h) (Or.inl ⟨by rfl, ?_⟩) ?_ ?_
                  rotate_left
                  · intro w'
                    go_simp
                    try with_reducible rfl
                  rotate_left
                  · simp only [Act.put, List.setIfInBounds_toArray, List.set_cons_zero, List.set_cons_succ]
                    rfl
                  refine pure_ (i := 2) (N := some 55) (v := ?_) (a' := ?_) #[true, true, true, false, false, false, false] rfl rfl (any_of HT_.out (by kernel_rfl)) (fun _ _ _ h => h) (Or.inl ⟨by rfl, ?_⟩) ?_ ?_
                  rotate_left
                  · intro w'
                    go_simp
                    try with_reducible rfl
                  rotate_left
                  · simp only [Act.put, List.setIfInBounds_toArray, List.set_cons_zero, List.set_cons_succ]
                    rfl
                  refine take_ (i := 3) (N := some 56) (v := ?_) (a' := ?_) #[true, true, true, true, false, false, false] rfl rfl (take_of HT_.out (by kernel_rfl)) (fun _ _ _ h => h) (Or.inl ⟨by rfl, ?_⟩) hHeld ?_ ?_
                  rotate_left
                  · rintro w' s1
                    go_simp
                    try with_reducible rfl
                  rotate_left
                  · simp only [Act.put, List.setIfInBounds_toArray, List.set_cons_zero, List.set_cons_succ]
                    rfl
                  refine one_ (i := 4) (N := some 57) #[true, true, true, true, true, false, false] rfl rfl (one_of HT_.out (by kernel_rfl)) (by decide) (fun K hK => ?_)
                  refine goes_ Tryd.func21 (by kernel_rfl) rfl #[.pointer (some ⟨w.heap.size, 0, none⟩), .int .i64 3652425] (by rfl) rfl rfl (by (try simp only [List.map_toArray, List.map_cons, List.map_nil]); first | done | rfl) ?_
                  with_reducible refine (HBL.out _ hb0).mono ?_
                  rintro ev w20 ⟨rfl, hbc0⟩
                  have hbc0' := hb0.trans (hbc0.mono hb0.size)
                  refine ⟨_, rfl, ?_⟩
                  refine hK.out _ _ (HSS.out _ hbc0') (fun hHeld => ?_)
                  clear hK K
                  refine norm_ (a' := ?_) ?_ ?_
                  rotate_left
                  · show Act.put _ (some 57) _ = _
                    simp only [Act.put, List.setIfInBounds_toArray, List.set_cons_zero, List.set_cons_succ]
                    rfl
                  refine pure_ (i := 5) (N := some 58) (v := ?_) (a' := ?_) #[true, true, true, true, true, true, false] rfl rfl (any_of HT_.out (by kernel_rfl)) (fun _ _ _ h => h) (Or.inl ⟨by rfl, ?_⟩) ?_ ?_
                  rotate_left
                  · intro w'
                    go_simp
                    try with_reducible rfl
                  rotate_left
                  · simp only [Act.put, List.setIfInBounds_toArray, List.set_cons_zero, List.set_cons_succ]
                    rfl
                  refine pure_ (i := 6) (N := some 59) (v := ?_) (a' := ?_) #[true, true, true, true, true, true, true] rfl rfl (any_of HT_.out (by kernel_rfl)) (fun _ _ _ h => h) (Or.inl ⟨by rfl, ?_⟩) ?_ ?_
                  rotate_left
                  · intro w'
                    go_simp
                    try with_reducible rfl
                  rotate_left
                  · simp only [Act.put, List.setIfInBounds_toArray, List.set_cons_zero, List.set_cons_succ]
                    rfl
                  refine done_ (done_of HT_.out (by kernel_rfl)) ?_
                  have HBe := Lib.hid (below_step HBY.out hbc0')
                  have HTe := Lib.hid ((hbc0'.block _ (Array.getElem?_eq_some_iff.1 HTB.out).1).trans HTB.out)
                  obtain ⟨⟨r0, r1, r2, r3, r4, r5, r6, r7, r8⟩, ⟨d0, d1, d2⟩, ⟨e0, e1, e2⟩, f0, f1, f2⟩ := HXX.out _ HBe.out
                  go_wp2_with (first
                    | (go_at_call 25; (with_reducible refine (HSf.out _ tgt _ HBe.out HTe.out).mono ?_); rintro ev w8 ⟨i, rfl, hb, hi⟩; have HB8 := Lib.hid (below_step HBe.out hb); have HI := Lib.hid hi; clear hb hi; obtain ⟨⟨r0, r1, r2, r3, r4, r5, r6, r7, r8⟩, ⟨d0, d1, d2⟩, ⟨e0, e1, e2⟩, f0, f1, f2⟩ := HXX.out _ HB8.out)
                    | (go_at_call 24; (with_reducible refine (HDt.out i HI.out.1 HI.out.2.1 _ HB8.out).mono ?_); rintro ev w9 ⟨rfl, hb⟩; have HB9 := Lib.hid (below_step HB8.out hb); clear hb; obtain ⟨⟨r0, r1, r2, r3, r4, r5, r6, r7, r8⟩, ⟨d0, d1, d2⟩, ⟨e0, e1, e2⟩, f0, f1, f2⟩ := HXX.out _ HB9.out))
                  have hz := HZ.out _ HB9.out
                  refine bodyPost_ret (results_ct rfl _ _ (w.heap.size + 1 + 1) 27 #[.int .i64 (dt i).1, .int .i64 (dt i).2.1, .int .i64 (dt i).2.2] (0, 0) _ rfl (stored3 hz) Tryd.underlying27 rfl rfl) rfl ?_
                  exact ⟨(dt i), _, (HEN.out _ _ (.inr ⟨⟨by omega, by omega⟩, rfl, i, HI.out.1, HI.out.2.1, HI.out.2.2.1, HI.out.2.2.2, rfl⟩)), rfl, (((K1.out.trans (HB9.out.mono K1.out.size)).setCell (by show w.heap.size ≤ w.heap.size + 1 + 1; omega) _).setCell (by show w.heap.size ≤ w.heap.size + 1 + 1; omega) _).setCell (by show w.heap.size ≤ w.heap.size + 1 + 1; omega) _⟩
end Go.Proofs.YtjifinacnofmiaaDoor.Ext

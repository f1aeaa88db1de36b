-- joined out of the texts CalRf CalRg CalRh CalRb
import Derived.Test.YtjifinacnofmiaaDoorCalGf
import Derived.Test.YtjifinacnofmiaaDoorCalMv
import Derived.Test.YtjifinacnofmiaaDoorCalBel
import Derived.Test.YtjifinacnofmiaaDoorCalP
import Derived.Test.YtjifinacnofmiaaDoorGCxf38
import Derived.Test.YtjifinacnofmiaaDoorGCxf39
import Derived.Test.YtjifinacnofmiaaDoorGCxf42
import Derived.Test.YtjifinacnofmiaaDoorGCxf28
import Derived.Test.YtjifinacnofmiaaDoorGCxf16
set_option linter.unusedVariables false
set_option linter.unusedSimpArgs false
namespace Go.Proofs.YtjifinacnofmiaaDoor.Ext
open Go Go.RowKit Go.Proofs.YtjifinacnofmiaaDoorW.PrintWords Go.Proofs.YtjifinacnofmiaaDoorW.PrintLast Go.Proofs.YtjifinacnofmiaaDoor.PCal Go.Proofs.YtjifinacnofmiaaDoor.GC Go.Proofs.YtjifinacnofmiaaDoor.CalP
/-- a day as the printed texts have it -/
def sD (t : D3) : S27 := ⟨t.1, t.2.1, t.2.2⟩
theorem rd_sD (l : List D3) (i : Nat) (h : i < l.length) : rd_T27 (l.map sD) (i : Int) = sD l[i] := by
  unfold rd_T27
  rw [Int.toNat_natCast, List.getD_eq_getElem?_getD, List.getElem?_eq_getElem (by rw [List.length_map]; exact h), List.getElem_map]
  rfl
theorem cadd {w : World} {g o n : Nat} {u : Option Value} (h : w.cell? ⟨g, o + n, none⟩ = u) : w.cell? ((⟨g, o, none⟩ : Addr).add n) = u := by
  unfold Addr.add
  split
  · rename_i h0
    subst h0
    exact h
  · exact h
/-- a list of days with its room -/
structure DQ (w : World) (v : Value) (l : List D3) : Prop where
  dl : DL w v l
  room : ∀ x n c, v = .slice x n c → n ≤ c
theorem DQ.below {w w' : World} {v : Value} {l : List D3} (h : DQ w v l) (k : Below w.heap.size w w') : DQ w' v l := ⟨h.dl.below k, h.room⟩
theorem DQ.kd {w : World} {v : Value} {l : List D3} (h : DQ w v l) : ∃ x c, v = .slice x (l.map sD).length c ∧ (l.map sD).length ≤ c ∧ Kd.C k27 w x (l.map sD).length (l.map sD) := by
  obtain ⟨⟨x, c, rfl, h2, h3⟩, hr⟩ := h
  have hl : (l.map sD).length = l.length := List.length_map _
  refine ⟨x, c, by rw [hl], by rw [hl]; exact hr _ _ _ rfl, rfl, by rw [hl]; omega, fun h0 => ?_⟩
  obtain ⟨g, o, rfl, _⟩ := h3 0 (by rw [hl] at h0; exact h0)
  refine ⟨_, rfl, fun j p hj => ?_⟩
  obtain ⟨hj1, rfl⟩ := List.getElem?_eq_some_iff.1 hj
  rw [hl] at hj1
  obtain ⟨g', o', e, c1, c2, c3⟩ := h3 j hj1
  obtain ⟨rfl, rfl⟩ : g = g' ∧ o = o' := by
    have := Option.some.inj e
    exact ⟨congrArg Addr.block this, congrArg Addr.off this⟩
  refine ⟨_, rfl, k27_mk w _, fun i u hu => ?_⟩
  rw [List.getElem_map] at hu
  rcases (show i = 0 ∨ i = 1 ∨ i = 2 ∨ 3 ≤ i by omega) with rfl | rfl | rfl | h3
  · obtain rfl : Value.int .i64 (sD l[j]).f0 = u := by simpa using hu
    exact cadd (n := j * 3 + 0) c1
  · obtain rfl : Value.int .i64 (sD l[j]).f1 = u := by simpa using hu
    exact cadd (n := j * 3 + 1) c2
  · obtain rfl : Value.int .i64 (sD l[j]).f2 = u := by simpa using hu
    exact cadd (n := j * 3 + 2) c3
  · rw [List.getElem?_eq_none (by simp; omega)] at hu
    cases hu
theorem rdate_dt (k : Nat) (hk : 30000 ≤ k) {n : Int} (h0 : 0 ≤ n) (h1 : n ≤ 3652424) : larderref03_date.f k n = some (dt n) := by
  obtain ⟨a, b⟩ := dt_spec h0 h1
  have := rdate_eq k hk a
  rwa [b] at this
theorem dt_nm {t : D3} (h : okD t = true) : dt (nm t) = t := dt_num h
/-- the first k days of a list are days and rise (a test) -/
theorem rises_l0 (l : List D3) (hl : l.length ≤ 1000) : ∀ (g i k : Nat), i + g = l.length → Pre l i → g + 30 < k → ∃ b, larderref03_rises.l0 k (l.map sD) (i : Int) = some b ∧ (b = true ↔ Pre l l.length) := by
  have hlm : (l.map sD).length = l.length := List.length_map _
  intro g
  induction g with
  | zero =>
    intro i k hi hp hk
    obtain ⟨k, rfl⟩ : ∃ q, k = q + 1 := ⟨k - 1, by omega⟩
    refine ⟨true, ?_, ?_⟩
    · rw [larderref03_rises.l0, if_neg (by rw [hlm]; omega)]
    · obtain rfl : i = l.length := by omega
      exact ⟨fun _ => hp, fun _ => rfl⟩
  | succ g ih =>
    intro i k hi hp hk
    obtain ⟨k, rfl⟩ : ∃ q, k = q + 1 := ⟨k - 1, by omega⟩
    have hlt : i < l.length := by omega
    rw [larderref03_rises.l0, if_pos (by rw [hlm]; omega), if_pos (by omega), rd_sD l i hlt]
    show ∃ b, ((larderref03_Valid.f k l[i].1 l[i].2.1 l[i].2.2).bind _) = some b ∧ _
    rw [rvalid_eq k _ _ _ (by omega)]
    simp only [Option.bind_some]
    cases hv : vldB l[i].1 l[i].2.1 l[i].2.2 with
    | false =>
      rw [if_neg (by simp)]
      refine ⟨false, rfl, fun h => absurd h (by simp), fun h => ?_⟩
      have := h.ok i hlt hlt
      rw [show okD l[i] = false from hv] at this
      cases this
    | true =>
      rw [if_pos rfl]
      have e2 : wrap64 ((i : Int) + 1) = ((i + 1 : Nat) : Int) := by rw [w64 (by omega) (by omega)]; omega
      by_cases h0 : i = 0
      · rw [if_neg (by omega), e2]
        refine ih (i + 1) k (by omega) (hp.next hlt hv (fun p hp => by omega)) (by omega)
      · have e1 : wrap64 ((i : Int) - 1) = ((i - 1 : Nat) : Int) := by rw [w64 (by omega) (by omega)]; omega
        have hv1 : vldB (l[i - 1]'(by omega)).1 (l[i - 1]'(by omega)).2.1 (l[i - 1]'(by omega)).2.2 = true := hp.ok (i - 1) (by omega) (by omega)
        rw [if_pos (by omega), e1, if_pos (by omega), if_pos (by rw [hlm]; omega), rd_sD l (i - 1) (by omega)]
        show ∃ b, ((larderref03_number.f k (l[i - 1]'(by omega)).1 (l[i - 1]'(by omega)).2.1 (l[i - 1]'(by omega)).2.2).bind fun a => ((larderref03_number.f k l[i].1 l[i].2.1 l[i].2.2).bind _)) = some b ∧ _
        rw [rnumber_eq k _ _ _ (by omega) hv1, rnumber_eq k _ _ _ (by omega) hv]
        simp only [Option.bind_some]
        by_cases hge : num (l[i - 1]'(by omega)).1 (l[i - 1]'(by omega)).2.1 (l[i - 1]'(by omega)).2.2 ≥ num l[i].1 l[i].2.1 l[i].2.2
        · rw [if_pos hge]
          refine ⟨false, rfl, fun h => absurd h (by simp), fun h => ?_⟩
          have := h.up (i - 1) (by omega) (by omega)
          have e3 : l[i - 1 + 1]'(by omega) = l[i] := by congr 1; omega
          rw [e3] at this
          unfold nm at this
          omega
        · rw [if_neg hge, e2]
          refine ih (i + 1) k (by omega) (hp.next hlt hv (fun p hp => ?_)) (by omega)
          obtain rfl : p = i - 1 := by omega
          unfold nm
          omega
theorem rises_eq (l : List D3) (k : Nat) (hk : 2000 ≤ k) : ∃ b, larderref03_rises.f k (l.map sD) = some b ∧ (b = true ↔ RisP l) := by
  unfold larderref03_rises.f
  rw [List.length_map]
  by_cases h : (l.length : Int) > 1000
  · rw [if_pos h]
    exact ⟨false, rfl, fun h => absurd h (by simp), fun h' => by have := h'.1; omega⟩
  · rw [if_neg h]
    obtain ⟨b, h1, h2⟩ := rises_l0 l (by omega) l.length 0 k (by omega) (Pre.zero l) (by omega)
    exact ⟨b, h1, h2.trans ⟨fun z => ⟨by omega, z⟩, fun z => z.2⟩⟩
theorem stands_l0 (l : List D3) (t : D3) (hl : l.length ≤ 4611686018427387903) : ∀ (g i k : Nat), i + g = l.length → g < k → larderref03_stands.l0 k (l.map sD) (i : Int) t.1 t.2.1 t.2.2 = some ((l.drop i).any fun x => x == t) := by
  have hlm : (l.map sD).length = l.length := List.length_map _
  intro g
  induction g with
  | zero =>
    intro i k hi hk
    obtain ⟨k, rfl⟩ : ∃ q, k = q + 1 := ⟨k - 1, by omega⟩
    rw [larderref03_stands.l0, if_neg (by rw [hlm]; omega), List.drop_of_length_le (by omega)]
    rfl
  | succ g ih =>
    intro i k hi hk
    obtain ⟨k, rfl⟩ : ∃ q, k = q + 1 := ⟨k - 1, by omega⟩
    have hlt : i < l.length := by omega
    have e2 : wrap64 ((i : Int) + 1) = ((i + 1 : Nat) : Int) := by rw [w64 (by omega) (by omega)]; omega
    have ed : ((sD l[i]).f0 == t.1 && ((sD l[i]).f1 == t.2.1 && ((sD l[i]).f2 == t.2.2))) = (l[i] == t) := rfl
    rw [larderref03_stands.l0, if_pos (by rw [hlm]; omega), if_pos (by omega), rd_sD l i hlt, e2, ih (i + 1) k (by omega) (by omega), ed, List.drop_eq_getElem_cons hlt, List.any_cons]
    cases l[i] == t <;> rfl
theorem stands_eq (l : List D3) (t : D3) (hl : l.length ≤ 4611686018427387903) (k : Nat) (hk : l.length < k) : larderref03_stands.f k (l.map sD) t.1 t.2.1 t.2.2 = some (l.any fun x => x == t) := by
  unfold larderref03_stands.f
  exact stands_l0 l t hl l.length 0 k (by omega) hk
theorem rises_r {w : World} {v : Value} {l : List D3} (h : DQ w v l) : ∃ b, (b = true ↔ RisP l) ∧ ∀ w', Below w.heap.size w w' → Calls Tryd.prog 38 #[v] w' fun e w'' => e = .returned (.bool b) ∧ Below w'.heap.size w' w'' := by
  obtain ⟨b, h1, h2⟩ := rises_eq l 2000 (Nat.le_refl _)
  refine ⟨b, h2, fun w' k => ?_⟩
  obtain ⟨x, c, rfl, hc, hk⟩ := (h.below k).kd
  exact larderref03_rises.calls 2000 x c _ b w' hk hc h1
theorem rstands_r {w : World} {v : Value} {l : List D3} (h : DQ w v l) (t : D3) (w' : World) (k : Below w.heap.size w w') : Calls Tryd.prog 39 #[v, vd t] w' fun e w'' => e = .returned (.bool (l.any fun x => x == t)) ∧ Below w'.heap.size w' w'' := by
  have hl : l.length ≤ 4611686018427387903 := by obtain ⟨⟨_, _, _, h2, _⟩, _⟩ := h; exact h2
  obtain ⟨x, c, rfl, hc, hk⟩ := (h.below k).kd
  exact larderref03_stands.calls (l.length + 1) x c _ t.1 t.2.1 t.2.2 _ w' hk hc (stands_eq l t hl (l.length + 1) (by omega))
/-- among days, to stand in a list is to have a number there -/
theorem any_has {l : List D3} (h : ∀ x ∈ l, okD x = true) {t : D3} (ht : okD t = true) : (l.any fun x => x == t) = has l (nm t) := by
  unfold has
  rw [Bool.eq_iff_iff, List.any_eq_true, List.any_eq_true]
  constructor
  · rintro ⟨x, hx, e⟩
    exact ⟨x, hx, by rw [eq_of_beq e]; simp⟩
  · rintro ⟨x, hx, e⟩
    refine ⟨x, hx, beq_iff_eq.2 ?_⟩
    have e2 : nm x = nm t := by simpa using e
    rw [← dt_nm (h x hx), ← dt_nm ht, e2]
theorem rdate_r (n : Int) (h0 : 0 ≤ n) (h1 : n ≤ 3652424) (w : World) : Calls Tryd.prog 31 #[.int .i64 n] w fun e w' => e = .returned (vd (dt n)) ∧ Below w.heap.size w w' :=
  larderref03_date.calls 30000 n (dt n).1 (dt n).2.1 (dt n).2.2 w (rdate_dt 30000 (Nat.le_refl _) h0 h1)
theorem rweekday_r (n : Int) (h0 : 0 ≤ n) (h1 : n ≤ 3652425) (w : World) : Calls Tryd.prog 42 #[.int .i64 n] w fun e w' => e = .returned (.int .i64 ((wdN n : Int) + 1)) ∧ Below w.heap.size w w' :=
  (larderref03_weekday.calls n ((wdN n : Int) + 1) w (by
    unfold larderref03_weekday.f
    rw [wdN_val, w64 (x := n + 700) (by omega) (by omega), w64 (x := n + 700 + 5) (by omega) (by omega), tm _ _ (by omega), w64 (by omega) (by omega)]
    congr 1
    omega)).mono fun e w' h => ⟨h.1, h.2.below⟩
theorem rnumber_r (t : D3) (h : okD t = true) (w : World) : Calls Tryd.prog 41 #[vd t] w fun e w' => e = .returned (.int .i64 (nm t)) ∧ Below w.heap.size w w' :=
  larderref03_number.calls 20 t.1 t.2.1 t.2.2 (nm t) w (rnumber_eq 20 _ _ _ (Nat.le_refl _) h)
theorem rdays_r (t : D3) (w : World) : Calls Tryd.prog 28 #[vd t] w fun e w' => e = .returned (.tuple #[.int .i64 (if okD t = true then nm t else 0), .int .i64 (if okD t = true then 0 else 30)]) ∧ Below w.heap.size w w' :=
  larderref03_Days.calls 20 t.1 t.2.1 t.2.2 _ _ w (by
    rw [rdays_eq 20 _ _ _ (Nat.le_refl _)]
    show some (if okD t = true then (nm t, (0 : Int)) else (0, 30)) = _
    cases okD t <;> rfl)
end Go.Proofs.YtjifinacnofmiaaDoor.Ext
set_option linter.unusedVariables false
set_option linter.unusedSimpArgs false
namespace Go.Proofs.YtjifinacnofmiaaDoor.Ext
open Go Go.RowKit Go.Proofs.YtjifinacnofmiaaDoorW.PrintWords Go.Proofs.YtjifinacnofmiaaDoorW.PrintLast Go.Proofs.YtjifinacnofmiaaDoor.PCal Go.Proofs.YtjifinacnofmiaaDoor.GC Go.Proofs.YtjifinacnofmiaaDoor.CalP
theorem has_any {S E : List D3} (hS : RisP S) (hE : RisP E) (j : Nat) (h : j < S.length) : (E.any fun x => x == S[j]) = has E (nm S[j]) :=
  any_has hE.good.ok (hS.good.ok _ (List.getElem_mem h))
set_option maxHeartbeats 4000000 in
set_option maxRecDepth 100000 in
theorem right_r (w : World) (dy : Nat → Bool) (vs ve : Value) (S E : List D3) (okR : Bool) (hS : DQ w vs S) (hE : DQ w ve E) (h : okR = true ↔ GoodP S E) :
    Calls Tryd.prog 27 #[rvV dy vs ve] w fun e w' => e = .returned (.bool okR) ∧ Below w.heap.size w w' := by
  obtain ⟨W, hW⟩ : ∃ W, W = w.alloc (.cells (rcells dy vs ve) 25) := ⟨_, rfl⟩
  have k1 : Below w.heap.size w W := by rw [hW]; exact below_alloc (Below.refl _ _) _
  have hR : RuleAt W w.heap.size dy vs ve S E := ⟨by rw [hW]; exact alnew w _, hS.dl.below k1, hE.dl.below k1⟩
  obtain ⟨a, ha, hra⟩ := rises_r (hS.below k1)
  obtain ⟨b, hb, hrb⟩ := rises_r (hE.below k1)
  have HSt : Hid (∀ t w', Below W.heap.size W w' → _) := Lib.hid fun t w' k => rstands_r (hE.below k1) t w' k
  have HRa := Lib.hid hra
  have HRb := Lib.hid hrb
  have HA := Lib.hid ha
  have HB0 := Lib.hid hb
  have HH := Lib.hid h
  have HXX : Hid (∀ w', Below W.heap.size W w' → _) := Lib.hid fun w' k => hR.all k
  have HDS := Lib.hid (hS.below k1).dl
  have K1 := Lib.hid k1
  have hls : S.length ≤ 4611686018427387903 := by obtain ⟨⟨_, _, _, h2, _⟩, _⟩ := hS; exact h2
  obtain ⟨⟨xs, cs, rfl, -, -⟩, -⟩ := hS
  have s0 : (0 : Int) ≤ (S.length : Int) := Int.natCast_nonneg _
  obtain ⟨r0, r1, r2, r3, r4, r5, r6, r7, r8⟩ := HXX.out W (Below.refl _ _)
  have HW := Lib.hid hW
  clear hE hra hrb ha hb h hR k1 hW
  go_enter Tryd.func27, Tryd.ntmps27
  go_upto_region 1 with fail
  have hw := HW.out
  unfold rcells at hw
  rw [← hw]
  clear hw HW
  cases a
  · go_wp2_with (first
      | (go_at_call 38; (with_reducible refine (HRa.out _ (Below.refl _ _)).mono ?_); rintro ev w2 ⟨rfl, hb⟩; have HB := Lib.hid hb; clear hb; obtain ⟨r0, r1, r2, r3, r4, r5, r6, r7, r8⟩ := HXX.out _ HB.out)
      | (go_at_call 38; (with_reducible refine (HRb.out _ HB.out).mono ?_); rintro ev w3 ⟨rfl, hb⟩; have HB2 := Lib.hid (below_step HB.out hb); clear hb))
    go_ret
    have hf : okR = false := by
      cases q : okR with
      | false => rfl
      | true => exact absurd (HA.out.2 (HH.out.1 q).1) (by simp)
    exact ⟨by rw [hf]; rfl, K1.out.trans (HB2.out.mono K1.out.size)⟩
  · cases b
    · go_wp2_with (first
        | (go_at_call 38; (with_reducible refine (HRa.out _ (Below.refl _ _)).mono ?_); rintro ev w2 ⟨rfl, hb⟩; have HB := Lib.hid hb; clear hb; obtain ⟨r0, r1, r2, r3, r4, r5, r6, r7, r8⟩ := HXX.out _ HB.out)
        | (go_at_call 38; (with_reducible refine (HRb.out _ HB.out).mono ?_); rintro ev w3 ⟨rfl, hb⟩; have HB2 := Lib.hid (below_step HB.out hb); clear hb))
      go_ret
      have hf : okR = false := by
        cases q : okR with
        | false => rfl
        | true => exact absurd (HB0.out.2 (HH.out.1 q).2.1) (by simp)
      exact ⟨by rw [hf]; rfl, K1.out.trans (HB2.out.mono K1.out.size)⟩
    · have hrs : RisP S := HA.out.1 rfl
      have hre : RisP E := HB0.out.1 rfl
      have HRS := Lib.hid hrs
      have HRE := Lib.hid hre
      clear hrs hre
      go_wp2_with (first
        | (go_at_call 38; (with_reducible refine (HRa.out _ (Below.refl _ _)).mono ?_); rintro ev w2 ⟨rfl, hb⟩; have HB := Lib.hid hb; clear hb; obtain ⟨r0, r1, r2, r3, r4, r5, r6, r7, r8⟩ := HXX.out _ HB.out)
        | (go_at_call 38; (with_reducible refine (HRb.out _ HB.out).mono ?_); rintro ev w3 ⟨rfl, hb⟩; have HB2 := Lib.hid (below_step HB.out hb); clear hb))
      clear r0 r1 r2 r3 r4 r5 r6 r7 r8
      go_loopw [5] (fun i wr => ∃ j : Nat, j ≤ S.length ∧ i = .int .i64 (j : Int) ∧ Hid (Below W.heap.size W wr) ∧ Hid (∀ i (h : i < S.length), i < j → has E (nm S[i]) = false)) (fun i _ => S.length - (intOf i).toNat)
      case atStart => exact ⟨0, Nat.zero_le _, rfl, HB2, Lib.hid fun _ _ h => absurd h (by omega)⟩
      case round =>
        clear HB HB2
        obtain ⟨j, hj, rfl, HB, HJ⟩ := hrel
        obtain ⟨r0, r1, r2, r3, r4, r5, r6, r7, r8⟩ := HXX.out _ HB.out
        have j0 : (0 : Int) ≤ (j : Int) := Int.natCast_nonneg _
        by_cases hlt : j < S.length
        · have t1 : decide ((j : Int) < (S.length : Int)) = true := decide_eq_true (by omega)
          have t2 : decide (j < S.length) = true := decide_eq_true hlt
          have j1 : (j : Int) < (S.length : Int) := by omega
          go_wp2_with fail
          clear r0 r1 r2 r3 r4 r5 r6 r7 r8
          obtain ⟨x', c', e, -, hcells⟩ := HDS.out
          obtain ⟨rfl, rfl⟩ : xs = x' ∧ cs = c' := by injection e with e1 e2 e3; exact ⟨e1, e3⟩
          obtain ⟨g, o, rfl, c1, c2, c3⟩ := hcells j hlt
          have HC1 := Lib.hid c1
          have HC2 := Lib.hid c2
          have HC3 := Lib.hid c3
          have hab : Hid ((E.any fun x => x == S[j]) = has E (nm S[j])) := Lib.hid (has_any HRS.out HRE.out j hlt)
          obtain ⟨u, hu⟩ : ∃ u, u = S[j] := ⟨_, rfl⟩
          rw [← hu] at HC1 HC2 HC3 hab
          have HU := Lib.hid hu
          have HSu := Lib.hid (HSt.out u)
          clear hcells c1 c2 c3 hu e
          obtain ⟨b, hb⟩ : ∃ b, (E.any fun x => x == u) = b := ⟨_, rfl⟩
          rw [hb] at HSu hab
          clear hb
          have HL : Hid (∀ w', Below W.heap.size W w' → w'.cell? ⟨w.heap.size, 7, none⟩ = some (.slice (some ⟨g, o, none⟩) S.length cs) ∧ w'.cell? ⟨w.heap.size, 8, none⟩ = some ve ∧ w'.cell? ⟨g, o + j * 3, none⟩ = some (.int .i64 u.1) ∧ w'.cell? ⟨g, o + j * 3 + 1, none⟩ = some (.int .i64 u.2.1) ∧ w'.cell? ⟨g, o + j * 3 + 2, none⟩ = some (.int .i64 u.2.2)) := Lib.hid fun w' k => by
            obtain ⟨_, _, _, _, _, _, _, q7, q8⟩ := HXX.out _ k
            exact ⟨q7, q8, cellB HC1.out k, cellB HC2.out k, cellB HC3.out k⟩
          have hb0 := HB.out.drew
          go_region_held3 (fun w' => w'.cell? ⟨w.heap.size, 7, none⟩ = some (.slice (some ⟨g, o, none⟩) S.length cs) ∧ w'.cell? ⟨w.heap.size, 8, none⟩ = some ve ∧ w'.cell? ⟨g, o + j * 3, none⟩ = some (.int .i64 u.1) ∧ w'.cell? ⟨g, o + j * 3 + 1, none⟩ = some (.int .i64 u.2.1) ∧ w'.cell? ⟨g, o + j * 3 + 2, none⟩ = some (.int .i64 u.2.2)) (exact HL.out _ (by assumption)) (first
            | (go_at_call 39; (with_reducible refine (HSu.out _ hb0).mono ?_); rintro ev w4 ⟨rfl, hb1⟩; have hb2 := below_step hb0 hb1; clear hb1))
          have HB3 := Lib.hid hb2
          clear hb0 hb2
          cases b
          · go_wp2_with fail
            go_roundw
            case rel =>
              refine ⟨j + 1, by omega, by go_num, HB3, Lib.hid fun i hi q => ?_⟩
              by_cases e : i = j
              · subst e
                rw [← HU.out]
                exact hab.out.symm
              · exact HJ.out i hi (by omega)
            case measure => simp [intOf]; omega
          · go_wp2_with fail
            go_ret
            have hf : okR = false := by
              cases q : okR with
              | false => rfl
              | true =>
                have := (HH.out.1 q).2.2 S[j] (List.getElem_mem _)
                rw [← HU.out, ← hab.out] at this
                cases this
            exact ⟨by rw [hf]; rfl, K1.out.trans (HB3.out.mono K1.out.size)⟩
        · obtain rfl : S.length = j := by omega
          clear hlt hj
          go_wp2_with fail
          go_ret
          have ht : okR = true := HH.out.2 ⟨HRS.out, HRE.out, fun d hd => by
            obtain ⟨i, hi, rfl⟩ := List.mem_iff_getElem.1 hd
            exact HJ.out i hi hi⟩
          exact ⟨by rw [ht]; rfl, K1.out.trans (HB.out.mono K1.out.size)⟩
end Go.Proofs.YtjifinacnofmiaaDoor.Ext
set_option linter.unusedVariables false
set_option linter.unusedSimpArgs false
namespace Go.Proofs.YtjifinacnofmiaaDoor.Ext
open Go Go.RowKit Go.Proofs.YtjifinacnofmiaaDoorW.PrintWords Go.Proofs.YtjifinacnofmiaaDoorW.PrintLast Go.Proofs.YtjifinacnofmiaaDoor.PCal Go.Proofs.YtjifinacnofmiaaDoor.GC Go.Proofs.YtjifinacnofmiaaDoor.CalP
set_option maxHeartbeats 4000000 in
set_option maxRecDepth 100000 in
theorem ropen_r (w : World) (dy : Nat → Bool) (vs ve : Value) (S E : List D3) (n : Int) (hS : DQ w vs S) (hE : DQ w ve E) (h : GoodP S E) (h0 : 0 ≤ n) (h1 : n ≤ 3652424) :
    Calls Tryd.prog 29 #[rvV dy vs ve, .int .i64 n] w fun e w' => e = .returned (.bool (opn dy S E n)) ∧ Below w.heap.size w w' := by
  obtain ⟨W, hW⟩ : ∃ W, W = w.alloc (.cells (rcells dy vs ve) 25) := ⟨_, rfl⟩
  have k1 : Below w.heap.size w W := by rw [hW]; exact below_alloc (Below.refl _ _) _
  have hR : RuleAt W w.heap.size dy vs ve S E := ⟨by rw [hW]; exact alnew w _, hS.dl.below k1, hE.dl.below k1⟩
  have hee : (E.any fun x => x == dt n) = has E n := by
    rw [any_has h.2.1.good.ok (dt_ok n), nm_dt h0 h1]
  have hss : (S.any fun x => x == dt n) = has S n := by
    rw [any_has h.1.good.ok (dt_ok n), nm_dt h0 h1]
  have HSe : Hid (∀ w', Below W.heap.size W w' → Calls Tryd.prog 39 #[ve, vd (dt n)] w' fun e w'' => e = .returned (.bool (has E n)) ∧ Below w'.heap.size w' w'') := Lib.hid fun w' k => by
    rw [← hee]
    exact rstands_r (hE.below k1) (dt n) w' k
  have HSs : Hid (∀ w', Below W.heap.size W w' → Calls Tryd.prog 39 #[vs, vd (dt n)] w' fun e w'' => e = .returned (.bool (has S n)) ∧ Below w'.heap.size w' w'') := Lib.hid fun w' k => by
    rw [← hss]
    exact rstands_r (hS.below k1) (dt n) w' k
  have HDt : Hid (∀ w', Calls Tryd.prog 31 #[.int .i64 n] w' fun e w'' => e = .returned (vd (dt n)) ∧ Below w'.heap.size w' w'') := Lib.hid fun w' => rdate_r n h0 h1 w'
  have HWd : Hid (∀ w', Calls Tryd.prog 42 #[.int .i64 n] w' fun e w'' => e = .returned (.int .i64 ((wdN n : Int) + 1)) ∧ Below w'.heap.size w' w'') := Lib.hid fun w' => rweekday_r n h0 (by omega) w'
  have hwd := wdN_lt n
  obtain ⟨kk, hkk⟩ : ∃ kk, wdN n = kk := ⟨_, rfl⟩
  have hop : opn dy S E n = (has E n || (dy kk && !has S n)) := by unfold opn; rw [hkk]
  rw [hop]
  rw [hkk] at hwd HWd
  generalize has E n = be at *
  generalize has S n = bs at *
  generalize dt n = t at *
  have HXX : Hid (∀ w', Below W.heap.size W w' → _) := Lib.hid fun w' k => hR.all k
  have HDy : Hid (∀ w', Below W.heap.size W w' → w'.cell? ⟨w.heap.size, kk, none⟩ = some (.bool (dy kk))) := Lib.hid fun w' k => (hR.below k).day kk hwd
  have K1 := Lib.hid k1
  have hwd0 : (0 : Int) ≤ (kk : Int) := Int.natCast_nonneg _
  have hwd1 : (kk : Int) < 7 := by omega
  have e1 : IntKind.i64.wrap ((kk : Int) + 1 - 1) = (kk : Int) := by rw [show (kk : Int) + 1 - 1 = kk by omega]; exact IntWalk.i64_in _ (by omega)
  obtain ⟨r0, r1, r2, r3, r4, r5, r6, r7, r8⟩ := HXX.out W (Below.refl _ _)
  have HW := Lib.hid hW
  clear hS hE h hR k1 hW hee hss hkk hop
  go_enter Tryd.func29, Tryd.ntmps29
  go_upto_region 1 with fail
  have hw := HW.out
  unfold rcells at hw
  rw [← hw]
  clear hw HW
  go_upto_region 2 with (first
    | (go_at_call 31; (with_reducible refine (HDt.out _).mono ?_); rintro ev w2 ⟨rfl, hb⟩; have HB := Lib.hid hb; clear hb))
  obtain ⟨X, hX⟩ : ∃ X, X = w2.alloc (.cells #[.int .i64 t.1, .int .i64 t.2.1, .int .i64 t.2.2] 27) := ⟨_, rfl⟩
  rw [← hX]
  have kx : Below W.heap.size W X := HB.out.trans (by rw [hX]; exact (below_alloc (Below.refl _ _) _).mono HB.out.size)
  have y1 : Bx X w2.heap.size t := by rw [hX]; exact alnew w2 _
  have HBX := Lib.hid kx
  have HXY : Hid (∀ w', Below X.heap.size X w' → _) := Lib.hid fun w' k => (⟨HXX.out w' (kx.trans (k.mono kx.size)), y1.b3 k⟩ : _ ∧ _)
  have HSe2 : Hid (∀ w', Below X.heap.size X w' → _) := Lib.hid fun w' k => HSe.out w' (kx.trans (k.mono kx.size))
  have HSs2 : Hid (∀ w', Below X.heap.size X w' → _) := Lib.hid fun w' k => HSs.out w' (kx.trans (k.mono kx.size))
  have HDy2 : Hid (∀ w', Below X.heap.size X w' → _) := Lib.hid fun w' k => HDy.out w' (kx.trans (k.mono kx.size))
  clear hX kx y1 HB HXX HSe HSs HDy r0 r1 r2 r3 r4 r5 r6 r7 r8
  obtain ⟨⟨r0, r1, r2, r3, r4, r5, r6, r7, r8⟩, d0, d1, d2⟩ := HXY.out X (Below.refl _ _)
  cases be
  · cases bs
    · go_wp2_with (first
        | (go_at_call 39; (with_reducible refine (HSe2.out _ (Below.refl _ _)).mono ?_); rintro ev w3 ⟨rfl, hb⟩; have HB := Lib.hid hb; clear hb; obtain ⟨⟨r0, r1, r2, r3, r4, r5, r6, r7, r8⟩, d0, d1, d2⟩ := HXY.out _ HB.out)
        | (go_at_call 39; (with_reducible refine (HSs2.out _ HB.out).mono ?_); rintro ev w4 ⟨rfl, hb⟩; have HB2 := Lib.hid (below_step HB.out hb); clear hb; obtain ⟨⟨r0, r1, r2, r3, r4, r5, r6, r7, r8⟩, d0, d1, d2⟩ := HXY.out _ HB2.out)
        | (go_at_call 42; (with_reducible refine (HWd.out _).mono ?_); rintro ev w5 ⟨rfl, hb⟩; have HB3 := Lib.hid (below_step HB2.out hb); clear hb; have hdy := HDy2.out _ HB3.out))
      go_ret
      exact ⟨by simp, K1.out.trans ((HBX.out.trans (HB3.out.mono HBX.out.size)).mono K1.out.size)⟩
    · go_wp2_with (first
        | (go_at_call 39; (with_reducible refine (HSe2.out _ (Below.refl _ _)).mono ?_); rintro ev w3 ⟨rfl, hb⟩; have HB := Lib.hid hb; clear hb; obtain ⟨⟨r0, r1, r2, r3, r4, r5, r6, r7, r8⟩, d0, d1, d2⟩ := HXY.out _ HB.out)
        | (go_at_call 39; (with_reducible refine (HSs2.out _ HB.out).mono ?_); rintro ev w4 ⟨rfl, hb⟩; have HB2 := Lib.hid (below_step HB.out hb); clear hb))
      go_ret
      exact ⟨by simp, K1.out.trans ((HBX.out.trans (HB2.out.mono HBX.out.size)).mono K1.out.size)⟩
  · go_wp2_with (first
      | (go_at_call 39; (with_reducible refine (HSe2.out _ (Below.refl _ _)).mono ?_); rintro ev w3 ⟨rfl, hb⟩; have HB := Lib.hid hb; clear hb))
    go_ret
    exact ⟨by simp, K1.out.trans ((HBX.out.trans (HB.out.mono HBX.out.size)).mono K1.out.size)⟩
/-- what right answers at a rule -/
def RightC (w : World) (rv : Value) (okR : Bool) : Prop := ∀ w1, Below w.heap.size w w1 → Calls Tryd.prog 27 #[rv] w1 fun e w' => e = .returned (.bool okR) ∧ Below w1.heap.size w1 w'
set_option maxHeartbeats 4000000 in
set_option maxRecDepth 100000 in
theorem rOpen_r (w : World) (dy : Nat → Bool) (vs ve : Value) (S E : List D3) (t : D3) (okR : Bool) (hS : DQ w vs S) (hE : DQ w ve E) (hk : okR = true ↔ GoodP S E) :
    Calls Tryd.prog 13 #[rvV dy vs ve, vd t] w fun e w' => e = .returned (.tuple #[.bool (openF okR dy S E t).1, .int .i64 (openF okR dy S E t).2]) ∧ Below w.heap.size w w' := by
  obtain ⟨W, hW⟩ : ∃ W, W = ((w.alloc (.cells (rcells dy vs ve) 25)).alloc (.cells #[.int .i64 t.1, .int .i64 t.2.1, .int .i64 t.2.2] 27)) := ⟨_, rfl⟩
  have k0 : Below w.heap.size w (w.alloc (.cells (rcells dy vs ve) 25)) := (Below.refl w.heap.size w).alloc (Nat.le_refl _) _
  have k1 : Below w.heap.size w W := by
    rw [hW]
    exact k0.alloc (by simp) _
  have hR : RuleAt W w.heap.size dy vs ve S E := by
    refine ⟨?_, hS.dl.below k1, hE.dl.below k1⟩
    rw [hW]
    exact (Below.heap_alloc _ _ _ (by simp)).trans (alnew w _)
  have y1 : Bx W (w.heap.size + 1) t := by
    rw [hW]
    have := alnew (w.alloc (.cells (rcells dy vs ve) 25)) (.cells #[.int .i64 t.1, .int .i64 t.2.1, .int .i64 t.2.2] 27)
    rw [World.size_alloc] at this
    exact this
  have HXX : Hid (∀ w', Below W.heap.size W w' → _) := Lib.hid fun w' k => (⟨hR.all k, y1.b3 k⟩ : _ ∧ _)
  have HGd : Hid (∀ w', Below W.heap.size W w' → Calls Tryd.prog 27 #[rvV dy vs ve] w' fun e w'' => e = .returned (.bool okR) ∧ Below w'.heap.size w' w'') := Lib.hid fun w' k => right_r w' dy vs ve S E okR (hS.below (k1.trans (k.mono k1.size))) (hE.below (k1.trans (k.mono k1.size))) hk
  have HDa : Hid (∀ w', Calls Tryd.prog 28 #[vd t] w' fun e w'' => e = .returned (.tuple #[.int .i64 (if okD t = true then nm t else 0), .int .i64 (if okD t = true then 0 else 30)]) ∧ Below w'.heap.size w' w'') := Lib.hid fun w' => rdays_r t w'
  have HOp : Hid (okR = true → okD t = true → ∀ w', Below W.heap.size W w' → Calls Tryd.prog 29 #[rvV dy vs ve, .int .i64 (nm t)] w' fun e w'' => e = .returned (.bool (opn dy S E (nm t))) ∧ Below w'.heap.size w' w'') :=
    Lib.hid fun hr ht w' k => ropen_r w' dy vs ve S E (nm t) (hS.below (k1.trans (k.mono k1.size))) (hE.below (k1.trans (k.mono k1.size))) (hk.1 hr) (nm_bd ht).1 (nm_bd ht).2
  have K1 := Lib.hid k1
  have HW := Lib.hid hW
  obtain ⟨⟨r0, r1, r2, r3, r4, r5, r6, r7, r8⟩, d0, d1, d2⟩ := HXX.out W (Below.refl _ _)
  clear hS hE hk k0 k1 hR y1 hW
  go_enter Tryd.func13, Tryd.ntmps13
  go_upto_region 1 with fail
  have hw := HW.out
  unfold rcells at hw
  rw [← hw]
  clear hw HW
  cases okR
  · go_wp2_with (first
      | (go_at_call 27; (with_reducible refine (HGd.out _ (Below.refl _ _)).mono ?_); rintro ev w2 ⟨rfl, hb⟩; have HB := Lib.hid hb; clear hb))
    go_ret2
    exact ⟨rfl, K1.out.trans (HB.out.mono K1.out.size)⟩
  · cases ht : okD t
    · rw [ht, if_neg (by simp), if_neg (by simp)] at HDa
      go_wp2_with (first
        | (go_at_call 27; (with_reducible refine (HGd.out _ (Below.refl _ _)).mono ?_); rintro ev w2 ⟨rfl, hb⟩; have HB := Lib.hid hb; clear hb; obtain ⟨⟨r0, r1, r2, r3, r4, r5, r6, r7, r8⟩, d0, d1, d2⟩ := HXX.out _ HB.out)
        | (go_at_call 28; (with_reducible refine (HDa.out _).mono ?_); rintro ev w3 ⟨rfl, hb⟩; have HB2 := Lib.hid (below_step HB.out hb); clear hb))
      go_ret2
      exact ⟨by simp [openF, ht], K1.out.trans (HB2.out.mono K1.out.size)⟩
    · rw [ht, if_pos rfl, if_pos rfl] at HDa
      have HO2 := Lib.hid (HOp.out rfl ht)
      clear HOp
      go_wp2_with (first
        | (go_at_call 27; (with_reducible refine (HGd.out _ (Below.refl _ _)).mono ?_); rintro ev w2 ⟨rfl, hb⟩; have HB := Lib.hid hb; clear hb; obtain ⟨⟨r0, r1, r2, r3, r4, r5, r6, r7, r8⟩, d0, d1, d2⟩ := HXX.out _ HB.out)
        | (go_at_call 28; (with_reducible refine (HDa.out _).mono ?_); rintro ev w3 ⟨rfl, hb⟩; have HB2 := Lib.hid (below_step HB.out hb); clear hb; obtain ⟨⟨r0, r1, r2, r3, r4, r5, r6, r7, r8⟩, d0, d1, d2⟩ := HXX.out _ HB2.out)
        | (go_at_call 29; (with_reducible refine (HO2.out _ HB2.out).mono ?_); rintro ev w4 ⟨rfl, hb⟩; have HB3 := Lib.hid (below_step HB2.out hb); clear hb))
      go_ret2
      exact ⟨by simp [openF, ht], K1.out.trans (HB3.out.mono K1.out.size)⟩
end Go.Proofs.YtjifinacnofmiaaDoor.Ext
set_option linter.unusedVariables false
set_option linter.unusedSimpArgs false
namespace Go.Proofs.YtjifinacnofmiaaDoor.Ext
open Go Go.RowKit Go.Proofs.YtjifinacnofmiaaDoorW.PrintWords Go.Proofs.YtjifinacnofmiaaDoorW.PrintLast Go.Proofs.YtjifinacnofmiaaDoor.PCal Go.Proofs.YtjifinacnofmiaaDoor.GC Go.Proofs.YtjifinacnofmiaaDoor.CalP
/-- the open days of the week's rule ahead of a day -/
def upU (dy : Nat → Bool) (n : Int) : Int := (trues dy 7 : Int) * (n / 7) + left dy n
theorem upU_step (dy : Nat → Bool) (n : Int) (h0 : 0 ≤ n) : upU dy (n + 1) = upU dy n + (if dy (wdN n) = true then 1 else 0) := by
  unfold upU
  by_cases hm : n % 7 < 6
  · obtain ⟨e1, e2⟩ := left_step dy n h0 hm
    rw [e1, e2]
    push_cast
    split <;> omega
  · obtain ⟨e1, e2, e3⟩ := left_week dy n h0 (by omega)
    rw [e1, e2, Int.mul_add]
    have : (trues dy 7 : Int) = left dy n + (if dy (wdN n) = true then 1 else 0) := by
      rw [e3]
      push_cast
      split <;> rfl
    omega
theorem left_weeks (dy : Nat → Bool) (n q : Int) : left dy (n + 7 * q) = left dy n := by
  unfold left
  have e1 : (n + 7 * q) % 7 = n % 7 := by omega
  rw [e1, List.countP_map, List.countP_map]
  congr 1
  funext i
  have h1 := wdN_val (n + 7 * q - n % 7 + (i : Int))
  have h2 := wdN_val (n - n % 7 + (i : Int))
  have : wdN (n + 7 * q - n % 7 + (i : Int)) = wdN (n - n % 7 + (i : Int)) := by omega
  show dy _ = dy _
  rw [this]
theorem upU_weeks (dy : Nat → Bool) (n q : Int) : upU dy (n + 7 * q) = upU dy n + q * (trues dy 7 : Int) := by
  unfold upU
  rw [left_weeks, show (n + 7 * q) / 7 = n / 7 + q by omega, Int.mul_add, Int.mul_comm q]
  omega
theorem upU_bd (dy : Nat → Bool) (n : Int) (h0 : 0 ≤ n) (h1 : n ≤ 3652425) : 0 ≤ upU dy n ∧ upU dy n ≤ 4000000 := by
  have c := left_le dy n
  have d := trues_le dy 7
  have q0 : 0 ≤ n / 7 := by omega
  have m0 : 0 ≤ (trues dy 7 : Int) * (n / 7) := Int.mul_nonneg (by omega) q0
  have m1 : (trues dy 7 : Int) * (n / 7) ≤ 7 * (n / 7) := Int.mul_le_mul_of_nonneg_right (by omega) q0
  unfold upU
  omega
/-- how many of a list's days lie from a on, ahead of b -/
def btw (p : Nat → Bool) (l : List D3) (a b : Int) : Int := (ahead p l b : Int) - ahead p l a
theorem btw_zero (p : Nat → Bool) (l : List D3) (a b : Int) : btw p (l.take 0) a b = 0 := rfl
theorem btw_take (p : Nat → Bool) (l : List D3) (a b : Int) (hab : a ≤ b) (k : Nat) (h : k < l.length) : btw p (l.take (k + 1)) a b = btw p (l.take k) a b + (if a ≤ nm l[k] ∧ nm l[k] < b ∧ p (wdN (nm l[k])) = true then 1 else 0) := by
  unfold btw
  rw [ahead_take p l b k h, ahead_take p l a k h]
  by_cases h1 : a ≤ nm l[k]
  · by_cases h2 : nm l[k] < b
    · cases hp : p (wdN (nm l[k])) <;> simp [h1, h2, show ¬ nm l[k] < a by omega] <;> omega
    · simp [h1, h2, show ¬ nm l[k] < a by omega]
  · cases hp : p (wdN (nm l[k])) <;> simp [h1, show nm l[k] < a by omega, show nm l[k] < b by omega] <;> omega
theorem btw_bd (p : Nat → Bool) (l : List D3) (a b : Int) (k : Nat) : -(k : Int) ≤ btw p (l.take k) a b ∧ btw p (l.take k) a b ≤ k := by
  have h1 := ahead_le p l a k
  have h2 := ahead_le p l b k
  unfold btw
  omega
theorem belF_up (dy : Nat → Bool) (S E : List D3) (a b : Int) : belF dy S E b - belF dy S E a = upU dy b - upU dy a - btw dy S a b + btw (fun k => !dy k) E a b := by
  unfold belF upU btw
  omega
set_option maxHeartbeats 8000000 in
set_option maxRecDepth 100000 in
theorem between_r (w : World) (dy : Nat → Bool) (vs ve : Value) (S E : List D3) (a b : Int) (hS : DQ w vs S) (hE : DQ w ve E) (h : GoodP S E) (h0 : 0 ≤ a) (hab : a ≤ b) (h1 : b ≤ 3652425) :
    Calls Tryd.prog 30 #[rvV dy vs ve, .int .i64 a, .int .i64 b] w fun e w' => e = .returned (.int .i64 (belF dy S E b - belF dy S E a)) ∧ Below w.heap.size w w' := by
  obtain ⟨W, hW⟩ : ∃ W, W = w.alloc (.cells (rcells dy vs ve) 25) := ⟨_, rfl⟩
  have k1 : Below w.heap.size w W := by rw [hW]; exact below_alloc (Below.refl _ _) _
  have hR : RuleAt W w.heap.size dy vs ve S E := ⟨by rw [hW]; exact alnew w _, hS.dl.below k1, hE.dl.below k1⟩
  have HR := Lib.hid hR
  have HXX : Hid (∀ w', Below W.heap.size W w' → _) := Lib.hid fun w' k => hR.all k
  have HDS := Lib.hid (hS.below k1).dl
  have HDE := Lib.hid (hE.below k1).dl
  have K1 := Lib.hid k1
  have HP := Lib.hid h
  have lS : S.length ≤ 1000 := h.1.1
  have lE : E.length ≤ 1000 := h.2.1.1
  have bS := fun (k : Nat) (hk : k ≤ S.length) => btw_bd dy S a b k
  have HbS : Hid (∀ k : Nat, k ≤ S.length → -1000 ≤ btw dy (S.take k) a b ∧ btw dy (S.take k) a b ≤ 1000) := Lib.hid fun k hk => by have := btw_bd dy S a b k; omega
  have HbE : Hid (∀ k : Nat, k ≤ E.length → -1000 ≤ btw (fun k => !dy k) (E.take k) a b ∧ btw (fun k => !dy k) (E.take k) a b ≤ 1000) := Lib.hid fun k hk => by have := btw_bd (fun k => !dy k) E a b k; omega
  have HsS : Hid (∀ (k : Nat) (h : k < S.length), _) := Lib.hid fun k h => btw_take dy S a b hab k h
  have HsE : Hid (∀ (k : Nat) (h : k < E.length), _) := Lib.hid fun k h => btw_take (fun k => !dy k) E a b hab k h
  have HUp : Hid (∀ n : Int, 0 ≤ n → n ≤ 3652425 → 0 ≤ upU dy n ∧ upU dy n ≤ 4000000) := Lib.hid fun n x y => upU_bd dy n x y
  have HUs : Hid (∀ n : Int, 0 ≤ n → _) := Lib.hid fun n x => upU_step dy n x
  have HUw := Lib.hid (upU_weeks dy a ((b - a) / 7))
  have HFin := Lib.hid (belF_up dy S E a b)
  have HWd : Hid (∀ n : Int, 0 ≤ n → n ≤ 3652425 → ∀ w', Calls Tryd.prog 42 #[.int .i64 n] w' fun e w'' => e = .returned (.int .i64 ((wdN n : Int) + 1)) ∧ Below w'.heap.size w' w'') := Lib.hid fun n x y w' => rweekday_r n x y w'
  have HTr := Lib.hid (trues_succ dy)
  have hT7 : (trues dy 7 : Int) ≤ 7 := by have := trues_le dy 7; omega
  obtain ⟨⟨xs, cs, rfl, -, -⟩, -⟩ := hS
  obtain ⟨⟨xe, ce, rfl, -, -⟩, -⟩ := hE
  have s0 : (0 : Int) ≤ (S.length : Int) := Int.natCast_nonneg _
  have e0 : (0 : Int) ≤ (E.length : Int) := Int.natCast_nonneg _
  obtain ⟨r0, r1, r2, r3, r4, r5, r6, r7, r8⟩ := HXX.out W (Below.refl _ _)
  have HW := Lib.hid hW
  clear h hR k1 hW bS
  go_enter Tryd.func30, Tryd.ntmps30
  go_upto_region 1 with fail
  have hw := HW.out
  unfold rcells at hw
  rw [← hw]
  clear hw HW
  go_wp2_with fail
  clear r0 r1 r2 r3 r4 r5 r6 r7 r8
  go_loopw [8, 9] (fun p i wr => ∃ k : Nat, k ≤ 7 ∧ p = .int .i64 (trues dy k : Int) ∧ i = .int .i64 (k : Int) ∧ Hid (Below W.heap.size W wr)) (fun _ i _ => 7 - (intOf i).toNat)
  case atStart => exact ⟨0, by omega, rfl, rfl, Lib.hid (Below.refl _ _)⟩
  case round =>
    obtain ⟨k, hk, rfl, rfl, HB⟩ := hrel
    have k0 : (0 : Int) ≤ (k : Int) := Int.natCast_nonneg _
    by_cases hlt : k < 7
    · have hdy := (HR.out.below HB.out).day k hlt
      have t1 : decide ((k : Int) < 7) = true := decide_eq_true (by omega)
      have hs := HTr.out k
      have hle : trues dy k ≤ 7 := by have := trues_le dy k; omega
      have tk0 : (0 : Int) ≤ (trues dy k : Int) := Int.natCast_nonneg _
      have tk1 : (trues dy k : Int) ≤ 7 := by omega
      have hk1 : (k : Int) < 7 := by omega
      have HS1 := Lib.hid hs
      clear hs hle
      cases hd : dy k with
      | false =>
        rw [hd] at hdy
        go_wp2_with fail
        go_roundw
        case rel => exact ⟨k + 1, by omega, by rw [HS1.out, hd]; rfl, by go_num, HB⟩
        case measure => simp [intOf]; omega
      | true =>
        rw [hd] at hdy
        go_wp2_with fail
        go_roundw
        case rel =>
          refine ⟨k + 1, by omega, ?_, by go_num, HB⟩
          rw [HS1.out, hd, if_pos rfl]
          go_num
        case measure => simp [intOf]; omega
    · obtain rfl : k = 7 := by omega
      clear hlt
      rw [show ((7 : Nat) : Int) = 7 from rfl]
      have HU0 := HUw.out
      have qd : Int.tdiv (b - a) 7 = (b - a) / 7 := td _ 7 (by omega)
      have hUa := HUp.out a h0 (by omega)
      obtain ⟨q, hq⟩ : ∃ q, (b - a) / 7 = q := ⟨_, rfl⟩
      have hq0 : 0 ≤ q := by omega
      have hq1 : q ≤ 521775 := by omega
      have hq2 : a + 7 * q ≤ b := by omega
      have hq3 : b < a + 7 * q + 7 := by omega
      rw [hq] at qd HU0
      have hUq := HUp.out (a + 7 * q) (by omega) (by omega)
      obtain ⟨pr, hpr⟩ : ∃ pr, pr = (trues dy 7 : Int) := ⟨_, rfl⟩
      rw [← hpr] at HU0
      obtain ⟨mm, hmm⟩ : ∃ mm, mm = q * pr := ⟨_, rfl⟩
      have hmul : q * pr = mm := hmm.symm
      rw [hmul] at HU0
      have b1 : 0 ≤ mm := by rw [hmm]; exact Int.mul_nonneg hq0 (by omega)
      have b2 : mm ≤ 4000000 := by omega
      have HU1 := Lib.hid HU0
      rw [← hpr]
      clear hmm hUa hUq HU0 hq hpr
      go_wp2_with fail
      go_loopw [7, 11] (fun n i wr => ∃ k : Int, a + 7 * q ≤ k ∧ k ≤ b ∧ n = .int .i64 (upU dy k - upU dy a) ∧ i = .int .i64 k ∧ Hid (Below W.heap.size W wr)) (fun _ i _ => (b - intOf i).toNat)
      case atStart => exact ⟨a + 7 * q, by omega, hq2, by rw [HU1.out]; congr 1; omega, rfl, HB⟩
      case round =>
        clear HB
        obtain ⟨k, hk1, hk2, rfl, rfl, HB⟩ := hrel
        by_cases hlt : k < b
        · have t1 : decide (k < b) = true := decide_eq_true hlt
          have hUs := HUs.out k (by omega)
          have hUk := HUp.out k (by omega) (by omega)
          have hUa := HUp.out a h0 (by omega)
          have HWx := Lib.hid (HWd.out k (by omega) (by omega))
          have hwl := wdN_lt k
          obtain ⟨kk, hkk⟩ : ∃ kk, kk = wdN k := ⟨_, rfl⟩
          rw [← hkk] at hUs hwl HWx
          have HDk : Hid (∀ w', Below W.heap.size W w' → w'.cell? ⟨w.heap.size, kk, none⟩ = some (.bool (dy kk))) := Lib.hid fun w' k => (HR.out.below k).day kk hwl
          have kk0 : (0 : Int) ≤ (kk : Int) := Int.natCast_nonneg _
          have kk1 : (kk : Int) < 7 := by omega
          have ek : IntKind.i64.wrap ((kk : Int) + 1 - 1) = (kk : Int) := by rw [show (kk : Int) + 1 - 1 = kk by omega]; exact IntWalk.i64_in _ (by omega)
          have HSt := Lib.hid hUs
          have HVk := Lib.hid (show ∃ m, m = upU dy k - upU dy a ∧ -5000000 ≤ m ∧ m ≤ 5000000 from ⟨_, rfl, by omega, by omega⟩)
          clear hUs hUk hUa hwl hkk
          obtain ⟨m, hm, bm1, bm2⟩ := HVk.out
          rw [← hm]
          have HM := Lib.hid hm
          clear hm HVk
          cases q3 : dy kk
          · rw [q3] at HDk
            go_wp2_with (first
              | (go_at_call 42; (with_reducible refine (HWx.out _).mono ?_); rintro ev w3 ⟨rfl, hb⟩; have HB3 := Lib.hid (below_step HB.out hb); clear hb; have hdk3 := HDk.out _ HB3.out))
            go_roundw
            case rel =>
              refine ⟨k + 1, by omega, by omega, ?_, by go_num, HB3⟩
              rw [HSt.out, q3]
              simp only [if_true, Bool.false_eq_true, if_false, Int.add_zero]
              have := HM.out
              first | (go_num; done) | (congr 1; omega)
            case measure => simp [intOf]; omega
          · rw [q3] at HDk
            go_wp2_with (first
              | (go_at_call 42; (with_reducible refine (HWx.out _).mono ?_); rintro ev w3 ⟨rfl, hb⟩; have HB3 := Lib.hid (below_step HB.out hb); clear hb; have hdk3 := HDk.out _ HB3.out))
            go_roundw
            case rel =>
              refine ⟨k + 1, by omega, by omega, ?_, by go_num, HB3⟩
              rw [HSt.out, q3]
              simp only [if_true, Bool.false_eq_true, if_false, Int.add_zero]
              have := HM.out
              first | (go_num; done) | (congr 1; omega)
            case measure => simp [intOf]; omega
        · obtain rfl : k = b := by omega
          clear hlt hk1 hk2
          obtain ⟨r0, r1, r2, r3, r4, r5, r6, r7, r8⟩ := HXX.out _ HB.out
          go_wp2_with fail
          clear r0 r1 r2 r3 r4 r5 r6 r7 r8
          go_loopw [7, 12, 13] (fun n i u13 wr => ∃ (j : Nat) (m : Int) (u : Value), j ≤ S.length ∧ n = .int .i64 m ∧ i = .int .i64 (j : Int) ∧ u13 = u ∧ Hid (Below W.heap.size W wr) ∧ Hid (m = upU dy k - upU dy a - btw dy (S.take j) a k)) (fun _ i _ _ => S.length - (intOf i).toNat)
          case atStart => exact ⟨0, _, _, Nat.zero_le _, rfl, rfl, rfl, HB, Lib.hid (by rw [btw_zero]; omega)⟩
          case round =>
            clear HB
            obtain ⟨j, m, u, hj, rfl, rfl, rfl, HB, HM⟩ := hrel
            obtain ⟨r0, r1, r2, r3, r4, r5, r6, r7, r8⟩ := HXX.out _ HB.out
            have j0 : (0 : Int) ≤ (j : Int) := Int.natCast_nonneg _
            by_cases hlt : j < S.length
            · have t1 : decide ((j : Int) < (S.length : Int)) = true := decide_eq_true (by omega)
              have j1 : (j : Int) < (S.length : Int) := by omega
              obtain ⟨x', c', e, -, hcells⟩ := HDS.out
              obtain ⟨rfl, rfl⟩ : xs = x' ∧ cs = c' := by injection e with e1 e2 e3; exact ⟨e1, e3⟩
              obtain ⟨g, o, rfl, c1, c2, c3⟩ := hcells j hlt
              have y1 := cellB c1 HB.out
              have y2 := cellB c2 HB.out
              have y3 := cellB c3 HB.out
              have hst := HsS.out j hlt
              have hux : okD S[j] = true := HP.out.1.good.ok _ (List.getElem_mem hlt)
              have hbd := nm_bd hux
              have hb1 := HbS.out j (by omega)
              have hb2 := HbS.out (j + 1) (by omega)
              have hUa := HUp.out a h0 (by omega)
              have hUb := HUp.out k (by omega) h1
              obtain ⟨u, hu⟩ : ∃ u, u = S[j] := ⟨_, rfl⟩
              rw [← hu] at y1 y2 y3 hst hux hbd
              have HNu := Lib.hid (fun w' => rnumber_r u hux w')
              obtain ⟨x, hx⟩ : ∃ x, x = nm u := ⟨_, rfl⟩
              rw [← hx] at hst hbd HNu
              have HWx := Lib.hid (HWd.out x (by omega) (by omega))
              have hwl := wdN_lt x
              obtain ⟨kk, hkk⟩ : ∃ kk, kk = wdN x := ⟨_, rfl⟩
              rw [← hkk] at hst hwl HWx
              have HDk : Hid (∀ w', Below W.heap.size W w' → w'.cell? ⟨w.heap.size, kk, none⟩ = some (.bool (dy kk))) := Lib.hid fun w' k => (HR.out.below k).day kk hwl
              have kk0 : (0 : Int) ≤ (kk : Int) := Int.natCast_nonneg _
              have kk1 : (kk : Int) < 7 := by omega
              have ek : IntKind.i64.wrap ((kk : Int) + 1 - 1) = (kk : Int) := by rw [show (kk : Int) + 1 - 1 = kk by omega]; exact IntWalk.i64_in _ (by omega)
              have HSt := Lib.hid hst
              have hmm := HM.out
              have bm : -5000000 ≤ m ∧ m ≤ 5000000 := by rw [hmm]; omega
              obtain ⟨bm1, bm2⟩ := bm
              clear c1 c2 c3 hcells e hu hux hx hkk hwl hst hb1 hb2 hUa hUb hmm
              by_cases q1 : a ≤ x
              · have z1 : decide (a ≤ x) = true := decide_eq_true q1
                by_cases q2 : x < k
                · have z2 : decide (x < k) = true := decide_eq_true q2
                  cases q3 : dy kk
                  · rw [q3] at HDk
                    go_wp2_with (first
                      | (go_at_call 41; (with_reducible refine (HNu.out _).mono ?_); rintro ev w2 ⟨rfl, hb⟩; have HB2 := Lib.hid (below_step HB.out hb); clear hb; have hdk := HDk.out _ HB2.out)
                      | (go_at_call 42; (with_reducible refine (HWx.out _).mono ?_); rintro ev w3 ⟨rfl, hb⟩; have HB3 := Lib.hid (below_step HB2.out hb); clear hb; have hdk3 := HDk.out _ HB3.out))
                    go_roundw
                    case rel =>
                      refine ⟨j + 1, _, _, by omega, rfl, by go_num, rfl, HB3, Lib.hid ?_⟩
                      rw [HSt.out, HM.out, q3]
                      simp only [q1, q2, true_and, if_true, Bool.not_true, Bool.not_false, Bool.false_eq_true, if_false, Int.add_zero]
                      first | done | (try go_num); try omega
                    case measure => simp [intOf]; omega
                  · rw [q3] at HDk
                    go_wp2_with (first
                      | (go_at_call 41; (with_reducible refine (HNu.out _).mono ?_); rintro ev w2 ⟨rfl, hb⟩; have HB2 := Lib.hid (below_step HB.out hb); clear hb; have hdk := HDk.out _ HB2.out)
                      | (go_at_call 42; (with_reducible refine (HWx.out _).mono ?_); rintro ev w3 ⟨rfl, hb⟩; have HB3 := Lib.hid (below_step HB2.out hb); clear hb; have hdk3 := HDk.out _ HB3.out))
                    go_roundw
                    case rel =>
                      refine ⟨j + 1, _, _, by omega, rfl, by go_num, rfl, HB3, Lib.hid ?_⟩
                      rw [HSt.out, HM.out, q3]
                      simp only [q1, q2, true_and, if_true, Bool.not_true, Bool.not_false, Bool.false_eq_true, if_false, Int.add_zero]
                      first | done | (try go_num); try omega
                    case measure => simp [intOf]; omega
                · have z2 : decide (x < k) = false := decide_eq_false q2
                  go_wp2_with (first
                    | (go_at_call 41; (with_reducible refine (HNu.out _).mono ?_); rintro ev w2 ⟨rfl, hb⟩; have HB2 := Lib.hid (below_step HB.out hb); clear hb; have hdk := HDk.out _ HB2.out))
                  go_roundw
                  case rel => exact ⟨j + 1, _, _, by omega, rfl, by go_num, rfl, HB2, Lib.hid (by rw [HSt.out, HM.out, if_neg (fun z => absurd z.2.1 (by omega))]; omega)⟩
                  case measure => simp [intOf]; omega
              · have z1 : decide (a ≤ x) = false := decide_eq_false q1
                go_wp2_with (first
                  | (go_at_call 41; (with_reducible refine (HNu.out _).mono ?_); rintro ev w2 ⟨rfl, hb⟩; have HB2 := Lib.hid (below_step HB.out hb); clear hb; have hdk := HDk.out _ HB2.out))
                go_roundw
                case rel => exact ⟨j + 1, _, _, by omega, rfl, by go_num, rfl, HB2, Lib.hid (by rw [HSt.out, HM.out, if_neg (fun z => absurd z.1 (by omega))]; omega)⟩
                case measure => simp [intOf]; omega
            · obtain rfl : S.length = j := by omega
              clear hlt hj
              go_wp2_with fail
              clear r0 r1 r2 r3 r4 r5 r6 r7 r8
              have HM0 := HM
              go_loopw [7, 14, 15] (fun n i u15 wr => ∃ (j : Nat) (m : Int) (u : Value), j ≤ E.length ∧ n = .int .i64 m ∧ i = .int .i64 (j : Int) ∧ u15 = u ∧ Hid (Below W.heap.size W wr) ∧ Hid (m = upU dy k - upU dy a - btw dy (S.take S.length) a k + btw (fun k => !dy k) (E.take j) a k)) (fun _ i _ _ => E.length - (intOf i).toNat)
              case atStart => exact ⟨0, _, _, Nat.zero_le _, rfl, rfl, rfl, HB, Lib.hid (by rw [btw_zero, HM.out]; omega)⟩
              case round =>
                clear HB
                obtain ⟨j, m, u, hj, rfl, rfl, rfl, HB, HM⟩ := hrel
                obtain ⟨r0, r1, r2, r3, r4, r5, r6, r7, r8⟩ := HXX.out _ HB.out
                have j0 : (0 : Int) ≤ (j : Int) := Int.natCast_nonneg _
                by_cases hlt : j < E.length
                · have t1 : decide ((j : Int) < (E.length : Int)) = true := decide_eq_true (by omega)
                  have j1 : (j : Int) < (E.length : Int) := by omega
                  obtain ⟨x', c', e, -, hcells⟩ := HDE.out
                  obtain ⟨rfl, rfl⟩ : xe = x' ∧ ce = c' := by injection e with e1 e2 e3; exact ⟨e1, e3⟩
                  obtain ⟨g, o, rfl, c1, c2, c3⟩ := hcells j hlt
                  have y1 := cellB c1 HB.out
                  have y2 := cellB c2 HB.out
                  have y3 := cellB c3 HB.out
                  have hst := HsE.out j hlt
                  have hux : okD E[j] = true := HP.out.2.1.good.ok _ (List.getElem_mem hlt)
                  have hbd := nm_bd hux
                  have hb0 := HbS.out S.length (Nat.le_refl _)
                  have hb1 := HbE.out j (by omega)
                  have hb2 := HbE.out (j + 1) (by omega)
                  have hUa := HUp.out a h0 (by omega)
                  have hUb := HUp.out k (by omega) h1
                  obtain ⟨u, hu⟩ : ∃ u, u = E[j] := ⟨_, rfl⟩
                  rw [← hu] at y1 y2 y3 hst hux hbd
                  have HNu := Lib.hid (fun w' => rnumber_r u hux w')
                  obtain ⟨x, hx⟩ : ∃ x, x = nm u := ⟨_, rfl⟩
                  rw [← hx] at hst hbd HNu
                  have HWx := Lib.hid (HWd.out x (by omega) (by omega))
                  have hwl := wdN_lt x
                  obtain ⟨kk, hkk⟩ : ∃ kk, kk = wdN x := ⟨_, rfl⟩
                  rw [← hkk] at hst hwl HWx
                  have HDk : Hid (∀ w', Below W.heap.size W w' → w'.cell? ⟨w.heap.size, kk, none⟩ = some (.bool (dy kk))) := Lib.hid fun w' k => (HR.out.below k).day kk hwl
                  have kk0 : (0 : Int) ≤ (kk : Int) := Int.natCast_nonneg _
                  have kk1 : (kk : Int) < 7 := by omega
                  have ek : IntKind.i64.wrap ((kk : Int) + 1 - 1) = (kk : Int) := by rw [show (kk : Int) + 1 - 1 = kk by omega]; exact IntWalk.i64_in _ (by omega)
                  have HSt := Lib.hid hst
                  have hmm := HM.out
                  have bm : -5000000 ≤ m ∧ m ≤ 5000000 := by rw [hmm]; omega
                  obtain ⟨bm1, bm2⟩ := bm
                  clear c1 c2 c3 hcells e hu hux hx hkk hwl hst hb0 hb1 hb2 hUa hUb hmm
                  by_cases q1 : a ≤ x
                  · have z1 : decide (a ≤ x) = true := decide_eq_true q1
                    by_cases q2 : x < k
                    · have z2 : decide (x < k) = true := decide_eq_true q2
                      cases q3 : dy kk
                      · rw [q3] at HDk
                        go_wp2_with (first
                          | (go_at_call 41; (with_reducible refine (HNu.out _).mono ?_); rintro ev w2 ⟨rfl, hb⟩; have HB2 := Lib.hid (below_step HB.out hb); clear hb; have hdk := HDk.out _ HB2.out)
                          | (go_at_call 42; (with_reducible refine (HWx.out _).mono ?_); rintro ev w3 ⟨rfl, hb⟩; have HB3 := Lib.hid (below_step HB2.out hb); clear hb; have hdk3 := HDk.out _ HB3.out))
                        go_roundw
                        case rel =>
                          refine ⟨j + 1, _, _, by omega, rfl, by go_num, rfl, HB3, Lib.hid ?_⟩
                          rw [HSt.out, HM.out, q3]
                          simp only [q1, q2, true_and, if_true, Bool.not_true, Bool.not_false, Bool.false_eq_true, if_false, Int.add_zero]
                          first | done | (try go_num); try omega
                        case measure => simp [intOf]; omega
                      · rw [q3] at HDk
                        go_wp2_with (first
                          | (go_at_call 41; (with_reducible refine (HNu.out _).mono ?_); rintro ev w2 ⟨rfl, hb⟩; have HB2 := Lib.hid (below_step HB.out hb); clear hb; have hdk := HDk.out _ HB2.out)
                          | (go_at_call 42; (with_reducible refine (HWx.out _).mono ?_); rintro ev w3 ⟨rfl, hb⟩; have HB3 := Lib.hid (below_step HB2.out hb); clear hb; have hdk3 := HDk.out _ HB3.out))
                        go_roundw
                        case rel =>
                          refine ⟨j + 1, _, _, by omega, rfl, by go_num, rfl, HB3, Lib.hid ?_⟩
                          rw [HSt.out, HM.out, q3]
                          simp only [q1, q2, true_and, if_true, Bool.not_true, Bool.not_false, Bool.false_eq_true, if_false, Int.add_zero]
                          first | done | (try go_num); try omega
                        case measure => simp [intOf]; omega
                    · have z2 : decide (x < k) = false := decide_eq_false q2
                      go_wp2_with (first
                        | (go_at_call 41; (with_reducible refine (HNu.out _).mono ?_); rintro ev w2 ⟨rfl, hb⟩; have HB2 := Lib.hid (below_step HB.out hb); clear hb; have hdk := HDk.out _ HB2.out))
                      go_roundw
                      case rel => exact ⟨j + 1, _, _, by omega, rfl, by go_num, rfl, HB2, Lib.hid (by rw [HSt.out, HM.out, if_neg (fun z => absurd z.2.1 (by omega))]; omega)⟩
                      case measure => simp [intOf]; omega
                  · have z1 : decide (a ≤ x) = false := decide_eq_false q1
                    go_wp2_with (first
                      | (go_at_call 41; (with_reducible refine (HNu.out _).mono ?_); rintro ev w2 ⟨rfl, hb⟩; have HB2 := Lib.hid (below_step HB.out hb); clear hb; have hdk := HDk.out _ HB2.out))
                    go_roundw
                    case rel => exact ⟨j + 1, _, _, by omega, rfl, by go_num, rfl, HB2, Lib.hid (by rw [HSt.out, HM.out, if_neg (fun z => absurd z.1 (by omega))]; omega)⟩
                    case measure => simp [intOf]; omega
                · obtain rfl : E.length = j := by omega
                  clear hlt hj
                  go_wp2_with fail
                  go_ret
                  have e : m = belF dy S E k - belF dy S E a := by
                    rw [HFin.out]
                    have := HM.out
                    rw [List.take_length, List.take_length] at this
                    exact this
                  refine ⟨?_, K1.out.trans (HB.out.mono K1.out.size)⟩
                  show Ending.returned (Value.int .i64 m) = _
                  rw [e]
end Go.Proofs.YtjifinacnofmiaaDoor.Ext

/- cal's stands: a day in a list that rises. -/
import Derived.Test.YtjifinacnofmiaaDoorCalExt
import Derived.Test.YtjifinacnofmiaaDoorCalValX
import Derived.Test.YtjifinacnofmiaaDoorGCxf37
import Derived.WalkKit
import Derived.Deep.QuietTactic
import Derived.BigQuiet
import Derived.Deep.RegionHeld3
import Derived.Lib.Hide
import Derived.IntWalk
import Derived.Shelf.SlCmpFuncs.BinarySearchFunc
set_option linter.unusedVariables false
set_option linter.unusedSimpArgs false
namespace Go.Proofs.YtjifinacnofmiaaDoor.Ext
open Go Go.RowKit Go.Proofs.YtjifinacnofmiaaDoorW.PrintWords Go.Proofs.YtjifinacnofmiaaDoor.PCal Go.Proofs.YtjifinacnofmiaaDoor.GC
abbrev D3 := Int × Int × Int
abbrev vd (t : D3) : Value := .agg #[.int .i64 t.1, .int .i64 t.2.1, .int .i64 t.2.2]
def nm (t : D3) : Int := num t.1 t.2.1 t.2.2
def okD (t : D3) : Bool := vldB t.1 t.2.1 t.2.2
theorem nm_bd {t : D3} (h : okD t = true) : 0 ≤ nm t ∧ nm t ≤ 3652424 := ⟨(num_bd h).2.2.1, (num_bd h).2.2.2⟩
theorem number_r (t : D3) (h : okD t = true) (w : World) (hG : GlobOk w) : Calls Tryd.prog 20 #[vd t] w fun e w' => e = .returned (.int .i64 (nm t)) ∧ Below w.heap.size w w' :=
  cal_number.calls t.1 t.2.1 t.2.2 (nm t) w hG (by unfold cal_number.f; exact if_pos h)
/-- a list of days in memory -/
def DL (w : World) (v : Value) (l : List D3) : Prop := ∃ (x : Option Addr) (cap : Nat), v = .slice x l.length cap ∧ l.length ≤ 4611686018427387903 ∧ ∀ i (h : i < l.length), ∃ g o, x = some ⟨g, o, none⟩ ∧ w.cell? ⟨g, o + i * 3, none⟩ = some (.int .i64 l[i].1) ∧ w.cell? ⟨g, o + i * 3 + 1, none⟩ = some (.int .i64 l[i].2.1) ∧ w.cell? ⟨g, o + i * 3 + 2, none⟩ = some (.int .i64 l[i].2.2)
theorem cellB {w w' : World} {a : Addr} {v : Value} (h : w.cell? a = some v) (k : Below w.heap.size w w') : w'.cell? a = some v := (k.cell (World.block_lt_of_cell? _ _ h)).trans h
theorem DL.below {w w' : World} {v : Value} {l : List D3} (h : DL w v l) (k : Below w.heap.size w w') : DL w' v l := by
  obtain ⟨x, cap, h1, h2, h3⟩ := h
  refine ⟨x, cap, h1, h2, fun i hi => ?_⟩
  obtain ⟨g, o, e, c1, c2, c3⟩ := h3 i hi
  exact ⟨g, o, e, cellB c1 k, cellB c2 k, cellB c3 k⟩
theorem belowDn (w : World) (n : Nat) : Below w.heap.size w (w.drewN n) := ⟨rfl, rfl, rfl, Nat.le_refl _, fun _ _ => rfl⟩
theorem alnew (w : World) (o : Obj) : (w.alloc o).heap[w.heap.size]? = some o := by
  show (w.heap.push o)[w.heap.size]? = _
  simp
/-- a boxed day -/
def Bx (w : World) (g : Nat) (t : D3) : Prop := w.heap[g]? = some (.cells #[.int .i64 t.1, .int .i64 t.2.1, .int .i64 t.2.2] 27 (0, 0))
theorem Bx.below {w w' : World} {g : Nat} {t : D3} (h : Bx w g t) (k : Below w.heap.size w w') : Bx w' g t := (k.block g (Array.getElem?_eq_some_iff.1 h).1).trans h
theorem Bx.c0 {w : World} {g : Nat} {t : D3} (h : Bx w g t) : w.cell? ⟨g, 0, none⟩ = some (.int .i64 t.1) := by simp [cell_of_row _ _ _ _ _ _ h]
theorem Bx.c1 {w : World} {g : Nat} {t : D3} (h : Bx w g t) : w.cell? ⟨g, 1, none⟩ = some (.int .i64 t.2.1) := by simp [cell_of_row _ _ _ _ _ _ h]
theorem Bx.c2 {w : World} {g : Nat} {t : D3} (h : Bx w g t) : w.cell? ⟨g, 2, none⟩ = some (.int .i64 t.2.2) := by simp [cell_of_row _ _ _ _ _ _ h]
/-- what a region may load: a boxed day's cells -/
def B3 (w : World) (g : Nat) (t : D3) : Prop := w.cell? ⟨g, 0, none⟩ = some (.int .i64 t.1) ∧ w.cell? ⟨g, 1, none⟩ = some (.int .i64 t.2.1) ∧ w.cell? ⟨g, 2, none⟩ = some (.int .i64 t.2.2)
theorem Bx.b3 {w w' : World} {g : Nat} {t : D3} (h : Bx w g t) (k : Below w.heap.size w w') : B3 w' g t := ⟨(h.below k).c0, (h.below k).c1, (h.below k).c2⟩
theorem six {w : World} {g h : Nat} {a b : D3} (x : B3 w g a) (y : B3 w h b) : w.cell? ⟨g, 0, none⟩ = some (.int .i64 a.1) ∧ w.cell? ⟨g, 1, none⟩ = some (.int .i64 a.2.1) ∧ w.cell? ⟨g, 2, none⟩ = some (.int .i64 a.2.2) ∧ w.cell? ⟨h, 0, none⟩ = some (.int .i64 b.1) ∧ w.cell? ⟨h, 1, none⟩ = some (.int .i64 b.2.1) ∧ w.cell? ⟨h, 2, none⟩ = some (.int .i64 b.2.2) :=
  ⟨x.1, x.2.1, x.2.2, y.1, y.2.1, y.2.2⟩
set_option maxHeartbeats 1000000 in
set_option maxRecDepth 100000 in
theorem cmp_r (a b : D3) (ha : okD a = true) (hb : okD b = true) (w : World) (hG : GlobOk w) : Calls Tryd.prog 46 #[vd a, vd b] w fun e w' => e = .returned (.int .i64 (nm a - nm b)) ∧ Below w.heap.size w w' := by
  have HG := Lib.hid hG
  obtain ⟨a1, a2⟩ := nm_bd ha
  obtain ⟨b1, b2⟩ := nm_bd hb
  have HA : Hid (∀ w1, GlobOk w1 → Calls Tryd.prog 20 #[vd a] w1 fun e w' => e = .returned (.int .i64 (nm a)) ∧ Below w1.heap.size w1 w') := Lib.hid fun w1 h => number_r a ha w1 h
  have HB : Hid (∀ w1, GlobOk w1 → Calls Tryd.prog 20 #[vd b] w1 fun e w' => e = .returned (.int .i64 (nm b)) ∧ Below w1.heap.size w1 w') := Lib.hid fun w1 h => number_r b hb w1 h
  generalize nm a = na at *
  generalize nm b = nb at *
  clear hG ha hb
  go_enter Tryd.func46, Tryd.ntmps46
  go_wp2_with fail
  obtain ⟨W, hW⟩ : ∃ W, W = ((w.alloc (.cells #[.int .i64 a.1, .int .i64 a.2.1, .int .i64 a.2.2] 27)).alloc (.cells #[.int .i64 b.1, .int .i64 b.2.1, .int .i64 b.2.2] 27)) := ⟨_, rfl⟩
  have k1 : Below w.heap.size w W := by
    rw [hW]
    exact ((Below.refl w.heap.size w).alloc (Nat.le_refl _) _).alloc (by simp) _
  have y1 : Bx W w.heap.size a := by
    rw [hW]
    exact (Bx.below (w := w.alloc _) (alnew w _) ((Below.refl _ _).alloc (Nat.le_refl _) _))
  have y2 : Bx W (w.heap.size + 1) b := by
    rw [hW]
    have := alnew (w.alloc (.cells #[.int .i64 a.1, .int .i64 a.2.1, .int .i64 a.2.2] 27)) (.cells #[.int .i64 b.1, .int .i64 b.2.1, .int .i64 b.2.2] 27)
    rw [World.size_alloc] at this
    exact this
  rw [← hW]
  have Y1 := Lib.hid y1
  have Y2 := Lib.hid y2
  have K1 := Lib.hid k1
  clear y1 y2 k1 hW
  have hb0 : Below W.heap.size W W.drew := (Below.refl _ _).drew
  go_region_held3 (fun w' => w'.cell? ⟨w.heap.size, 0, none⟩ = some (.int .i64 a.1) ∧ w'.cell? ⟨w.heap.size, 1, none⟩ = some (.int .i64 a.2.1) ∧ w'.cell? ⟨w.heap.size, 2, none⟩ = some (.int .i64 a.2.2) ∧ w'.cell? ⟨w.heap.size + 1, 0, none⟩ = some (.int .i64 b.1) ∧ w'.cell? ⟨w.heap.size + 1, 1, none⟩ = some (.int .i64 b.2.1) ∧ w'.cell? ⟨w.heap.size + 1, 2, none⟩ = some (.int .i64 b.2.2)) (exact six (Y1.out.b3 (by assumption)) (Y2.out.b3 (by assumption))) (first
    | (go_at_call 20; (with_reducible refine (HA.out _ (HG.out.below (K1.out.trans (hb0.mono K1.out.size)))).mono ?_); rintro ev w2 ⟨rfl, hb1⟩; have hb2 : Below W.heap.size W w2 := hb0.trans (hb1.mono (by simp)))
    | (go_at_call 20; (with_reducible refine (HB.out _ (HG.out.below (K1.out.trans (hb2.mono K1.out.size)))).mono ?_); rintro ev w3 ⟨rfl, hb3⟩; have hb4 : Below W.heap.size W w3 := hb2.trans (hb3.mono hb2.size)))
  go_wp2
  go_ret
  refine ⟨?_, K1.out.trans (hb4.mono K1.out.size)⟩
  show Ending.returned (Value.int .i64 (IntKind.i64.wrap (na - nb))) = _
  rw [IntWalk.i64_in _ (by omega)]
def Rising (l : List D3) : Prop := ∀ i j (hi : i < l.length) (hj : j < l.length), i < j → nm l[i] < nm l[j]
def has (l : List D3) (n : Int) : Bool := l.any fun x => nm x == n
theorem has_iff (l : List D3) (n : Int) : has l n = true ↔ ∃ i, ∃ h : i < l.length, nm l[i] = n := by
  unfold has
  rw [List.any_eq_true]
  constructor
  · rintro ⟨x, hx, hn⟩
    obtain ⟨i, hi, rfl⟩ := List.mem_iff_getElem.1 hx
    exact ⟨i, hi, by simpa using hn⟩
  · rintro ⟨i, hi, hn⟩
    exact ⟨l[i], List.getElem_mem hi, by simpa using hn⟩
theorem six2 {w w' : World} {g h i : Nat} {a b : D3} (k : Below w.heap.size w w') (c1 : w.cell? ⟨g, i, none⟩ = some (.int .i64 a.1)) (c2 : w.cell? ⟨g, i + 1, none⟩ = some (.int .i64 a.2.1)) (c3 : w.cell? ⟨g, i + 2, none⟩ = some (.int .i64 a.2.2)) (y : Bx w h b) :
    w'.cell? ⟨g, i, none⟩ = some (.int .i64 a.1) ∧ w'.cell? ⟨g, i + 1, none⟩ = some (.int .i64 a.2.1) ∧ w'.cell? ⟨g, i + 2, none⟩ = some (.int .i64 a.2.2) ∧ w'.cell? ⟨h, 0, none⟩ = some (.int .i64 b.1) ∧ w'.cell? ⟨h, 1, none⟩ = some (.int .i64 b.2.1) ∧ w'.cell? ⟨h, 2, none⟩ = some (.int .i64 b.2.2) :=
  ⟨cellB c1 k, cellB c2 k, cellB c3 k, (y.b3 k).1, (y.b3 k).2.1, (y.b3 k).2.2⟩
set_option maxHeartbeats 4000000 in
set_option maxRecDepth 100000 in
theorem search_r (l : List D3) (t : D3) (v : Value) (w : World) (hG : GlobOk w) (hD : DL w v l) (hv : ∀ x ∈ l, okD x = true) (ht : okD t = true) (hr : Rising l) :
    Calls Tryd.prog 45 #[v, vd t, .func (.func 46) #[] #[]] w fun e w' => ∃ i : Nat, e = .returned (.tuple #[.int .i64 (i : Int), .bool (has l (nm t))]) ∧ Below w.heap.size w w' := by
  have HG := Lib.hid hG
  obtain ⟨x, cap, rfl, hlen, hx⟩ := hD
  have HX := Lib.hid hx
  have HV := Lib.hid hv
  have HT := Lib.hid ht
  have HR := Lib.hid hr
  have eg := enters_of Tryd.func46 (by kernel_rfl) rfl
  have l0 : (0 : Int) ≤ (l.length : Int) := Int.natCast_nonneg _
  clear hG hx hv ht hr
  go_enter Tryd.func45, Tryd.ntmps45
  go_wp2
  obtain ⟨W, hW⟩ : ∃ W, W = (w.alloc (.cells #[.int .i64 t.1, .int .i64 t.2.1, .int .i64 t.2.2] 27)) := ⟨_, rfl⟩
  have k1 : Below w.heap.size w W := by
    rw [hW]
    exact ((Below.refl w.heap.size w).alloc (Nat.le_refl _) _)
  have y1 : Bx W w.heap.size t := by
    rw [hW]
    exact alnew w _
  rw [← hW]
  have Y1 := Lib.hid y1
  have K1 := Lib.hid k1
  clear y1 k1 hW
  go_loopw [9, 10, 11] (fun i j _ wr => ∃ lo hi : Nat, lo ≤ hi ∧ hi ≤ l.length ∧ i = .int .i64 (lo : Int) ∧ j = .int .i64 (hi : Int) ∧ Hid (Below W.heap.size W wr) ∧ Hid ((∀ k (h : k < l.length), k < lo → nm l[k] < nm t) ∧ (∀ k (h : k < l.length), hi ≤ k → nm t ≤ nm l[k]))) (fun i j _ _ => (intOf j).toNat - (intOf i).toNat)
  case atStart => exact ⟨0, l.length, Nat.zero_le _, Nat.le_refl _, rfl, rfl, Lib.hid (Below.refl _ _), Lib.hid ⟨fun k h q => absurd q (Nat.not_lt_zero _), fun k h q => by omega⟩⟩
  case round =>
    obtain ⟨lo, hi, h1, h2, rfl, rfl, HB, HI⟩ := hrel
    by_cases hlt : lo < hi
    · obtain ⟨md, hmd⟩ : ∃ md, md = (lo + hi) / 2 := ⟨_, rfl⟩
      have hh : md < l.length := by omega
      have hm1 : lo ≤ md := by omega
      have hm2 : md < hi := by omega
      have emd : ((lo : Int) + (hi : Int)) / 2 = (md : Int) := by omega
      obtain ⟨g, o, rfl, c1, c2, c3⟩ := HX.out _ hh
      have n1 : (0 : Int) ≤ (lo : Int) := Int.natCast_nonneg _
      have n2 : (lo : Int) < (hi : Int) := by omega
      have n3 : (hi : Int) ≤ (l.length : Int) := by omega
      have C1 := Lib.hid (cellB (cellB c1 K1.out) HB.out)
      have C2 := Lib.hid (cellB (cellB c2 K1.out) HB.out)
      have C3 := Lib.hid (cellB (cellB c3 K1.out) HB.out)
      have Y2 := Lib.hid (Y1.out.below HB.out)
      obtain ⟨u, hu⟩ : ∃ u, u = l[md] := ⟨_, rfl⟩
      rw [← hu] at C1 C2 C3
      have HU := Lib.hid hu
      have hc : ∀ w1, GlobOk w1 → Calls Tryd.prog 46 #[vd u, vd t] w1 fun e w' => e = .returned (.int .i64 (nm u - nm t)) ∧ Below w1.heap.size w1 w' := fun w1 h => cmp_r u t (by rw [hu]; exact HV.out _ (List.getElem_mem _)) HT.out w1 h
      have hux : okD u = true := by rw [hu]; exact HV.out _ (List.getElem_mem _)
      have HUx := Lib.hid hux
      have HC := Lib.hid hc
      have hb0 : Below wr.heap.size wr wr.drew := (Below.refl _ _).drew
      have HMd := Lib.hid hmd
      clear c1 c2 c3 hu hc hux hmd
      have m0 : (0 : Int) ≤ (md : Int) := Int.natCast_nonneg _
      have m1 : (md : Int) < (l.length : Int) := by omega
      go_wp2
      go_region_held3 (fun w' => w'.cell? ⟨g, o + md * 3, none⟩ = some (.int .i64 u.1) ∧ w'.cell? ⟨g, o + md * 3 + 1, none⟩ = some (.int .i64 u.2.1) ∧ w'.cell? ⟨g, o + md * 3 + 2, none⟩ = some (.int .i64 u.2.2) ∧ w'.cell? ⟨w.heap.size, 0, none⟩ = some (.int .i64 t.1) ∧ w'.cell? ⟨w.heap.size, 1, none⟩ = some (.int .i64 t.2.1) ∧ w'.cell? ⟨w.heap.size, 2, none⟩ = some (.int .i64 t.2.2)) (first | exact six2 hb0 C1.out C2.out C3.out Y2.out | exact six2 hb2 C1.out C2.out C3.out Y2.out) (first
        | (go_at_call 46; (with_reducible refine (HC.out _ (HG.out.below (K1.out.trans (((HB.out.trans (hb0.mono HB.out.size))).mono K1.out.size)))).mono ?_); rintro ev w2 ⟨rfl, hb1⟩; have hb2 : Below wr.heap.size wr w2 := hb0.trans (hb1.mono (by simp))))
      have hb3 := HB.out.trans (hb2.mono HB.out.size)
      by_cases hs : nm u - nm t < 0
      · have d1 : decide (nm u - nm t < 0) = true := decide_eq_true hs
        go_wp2_with fail
        go_roundw
        case rel =>
          refine ⟨md + 1, hi, by omega, h2, by go_num, rfl, Lib.hid hb3, Lib.hid ⟨fun k h q => ?_, HI.out.2⟩⟩
          by_cases e : k = md
          · subst e
            rw [← HU.out]
            omega
          · have := HR.out k md h hh (by omega)
            rw [← HU.out] at this
            omega
        case measure => simp [intOf]; omega
      · have d1 : decide (nm u - nm t < 0) = false := decide_eq_false hs
        go_wp2_with fail
        go_roundw
        case rel =>
          refine ⟨lo, md, hm1, by omega, rfl, rfl, Lib.hid hb3, Lib.hid ⟨HI.out.1, fun k h q => ?_⟩⟩
          by_cases e : k = md
          · subst e
            rw [← HU.out]
            omega
          · have := HR.out md k hh h (by omega)
            rw [← HU.out] at this
            omega
        case measure => simp [intOf]; omega
    · obtain rfl : lo = hi := by omega
      have n1 : (0 : Int) ≤ (lo : Int) := Int.natCast_nonneg _
      by_cases hin : lo < l.length
      · obtain ⟨g, o, rfl, c1, c2, c3⟩ := HX.out _ hin
        have n3 : (lo : Int) < (l.length : Int) := by omega
        have t1 : decide ((lo : Int) < (l.length : Int)) = true := decide_eq_true n3
        have C1 := Lib.hid (cellB (cellB c1 K1.out) HB.out)
        have C2 := Lib.hid (cellB (cellB c2 K1.out) HB.out)
        have C3 := Lib.hid (cellB (cellB c3 K1.out) HB.out)
        have Y2 := Lib.hid (Y1.out.below HB.out)
        obtain ⟨u, hu⟩ : ∃ u, u = l[lo] := ⟨_, rfl⟩
        rw [← hu] at C1 C2 C3
        have HU := Lib.hid hu
        have hux : okD u = true := by rw [hu]; exact HV.out _ (List.getElem_mem _)
        have HC : Hid (∀ w1, GlobOk w1 → Calls Tryd.prog 46 #[vd u, vd t] w1 fun e w' => e = .returned (.int .i64 (nm u - nm t)) ∧ Below w1.heap.size w1 w') := Lib.hid fun w1 h => cmp_r u t hux HT.out w1 h
        have hb0 : Below wr.heap.size wr wr.drew := (Below.refl _ _).drew
        have hres : (nm u - nm t == 0) = has l (nm t) := by
          by_cases q : nm u = nm t
          · rw [(has_iff l (nm t)).2 ⟨lo, hin, by rw [← hu]; exact q⟩]
            simp [q]
          · have : has l (nm t) = false := by
              cases hh : has l (nm t) with
              | false => rfl
              | true =>
                obtain ⟨i, hi, he⟩ := (has_iff l (nm t)).1 hh
                rcases Nat.lt_trichotomy i lo with h | h | h
                · have := HI.out.1 i hi h
                  omega
                · subst h
                  rw [← hu] at he
                  exact absurd he q
                · have h1 := HR.out lo i hin hi h
                  have h2 := HI.out.2 lo hin (Nat.le_refl _)
                  omega
            rw [this, beq_eq_false_iff_ne]
            omega
        have HRes := Lib.hid hres
        clear c1 c2 c3 hu hux hres
        go_wp2_with fail
        go_region_held3 (fun w' => w'.cell? ⟨g, o + lo * 3, none⟩ = some (.int .i64 u.1) ∧ w'.cell? ⟨g, o + lo * 3 + 1, none⟩ = some (.int .i64 u.2.1) ∧ w'.cell? ⟨g, o + lo * 3 + 2, none⟩ = some (.int .i64 u.2.2) ∧ w'.cell? ⟨w.heap.size, 0, none⟩ = some (.int .i64 t.1) ∧ w'.cell? ⟨w.heap.size, 1, none⟩ = some (.int .i64 t.2.1) ∧ w'.cell? ⟨w.heap.size, 2, none⟩ = some (.int .i64 t.2.2)) (first | exact six2 hb0 C1.out C2.out C3.out Y2.out | exact six2 hb2 C1.out C2.out C3.out Y2.out) (first
          | (go_at_call 46; (with_reducible refine (HC.out _ (HG.out.below (K1.out.trans (((HB.out.trans (hb0.mono HB.out.size))).mono K1.out.size)))).mono ?_); rintro ev w2 ⟨rfl, hb1⟩; have hb2 : Below wr.heap.size wr w2 := hb0.trans (hb1.mono (by simp))))
        go_wp2_with fail
        go_ret2
        refine ⟨lo, ?_, K1.out.trans ((HB.out.trans (hb2.mono HB.out.size)).mono K1.out.size)⟩
        rw [← HRes.out]
        rfl
      · have t1 : decide ((lo : Int) < (l.length : Int)) = false := by simp; omega
        have t2 : decide (lo < l.length) = false := by simp; omega
        have hres : has l (nm t) = false := by
          cases hh : has l (nm t) with
          | false => rfl
          | true =>
            obtain ⟨i, hi, he⟩ := (has_iff l (nm t)).1 hh
            have := HI.out.1 i hi (by omega)
            omega
        have HRes := Lib.hid hres
        clear hres
        go_wp2_with fail
        go_quiet (fail)
        go_wp2_with fail
        go_ret2
        refine ⟨lo, by rw [HRes.out]; rfl, K1.out.trans ((HB.out.trans ((belowDn wr nq).mono HB.out.size)).mono K1.out.size)⟩
set_option maxHeartbeats 1000000 in
set_option maxRecDepth 100000 in
theorem stands_r (l : List D3) (t : D3) (v : Value) (w : World) (hG : GlobOk w) (hD : DL w v l) (hv : ∀ x ∈ l, okD x = true) (ht : okD t = true) (hr : Rising l) :
    Calls Tryd.prog 32 #[v, vd t] w fun e w' => e = .returned (.bool (has l (nm t))) ∧ Below w.heap.size w w' := by
  have k1 := (Below.refl w.heap.size w).alloc (Nat.le_refl _) (.cells #[.int .i64 t.1, .int .i64 t.2.1, .int .i64 t.2.2] 27)
  have HC := Lib.hid (search_r l t v _ (hG.below k1) (hD.below k1) hv ht hr)
  have K1 := Lib.hid k1
  obtain ⟨x, cap, rfl, _⟩ := hD
  clear hG hv ht hr k1
  go_enter Tryd.func32, Tryd.ntmps32
  go_wp2_with (first
    | (go_at_call 45; (with_reducible refine HC.out.mono ?_); rintro ev w2 ⟨i, rfl, hb⟩))
  go_ret
  exact ⟨rfl, K1.out.trans (hb.mono K1.out.size)⟩
end Go.Proofs.YtjifinacnofmiaaDoor.Ext

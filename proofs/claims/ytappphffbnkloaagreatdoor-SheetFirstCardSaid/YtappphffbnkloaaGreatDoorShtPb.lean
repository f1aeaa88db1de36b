/- Print, walked: the first fault of rows. -/
import Derived.Test.YtappphffbnkloaaGreatDoorShtPa
import Derived.Test.YtappphffbnkloaaGreatDoorShtW
set_option linter.unusedVariables false
set_option linter.unusedSimpArgs false
namespace Go.Proofs.YtappphffbnkloaaGreatDoor.Sht
open Go Go.RowKit Qd
attribute [local go_sem ↓] Go.wp_at_zero Go.wp_at_succ
/-- rows of texts in memory, whatever else lies there -/
def RowIn (w : World) (v : Value) (r : List (List UInt8)) : Prop :=
  ∃ x cap, v = .slice x r.length cap ∧ r.length ≤ 9223372036854775807 ∧ ∀ i (h : i < r.length), ∃ a : Addr, x = some a ∧ w.cell? (a.add i) = some (st r[i])
def RowsIn (w : World) (v : Value) (rs : Rows) : Prop :=
  ∃ x cap, v = .slice x rs.length cap ∧ rs.length ≤ 9223372036854775807 ∧ ∀ i (h : i < rs.length), ∃ (a : Addr) (u : Value), x = some a ∧ w.cell? (a.add i) = some u ∧ RowIn w u rs[i]
theorem RowIn.below {w w' : World} {v : Value} {r : List (List UInt8)} (h : RowIn w v r) (k : Below w.heap.size w w') : RowIn w' v r := by
  obtain ⟨x, cap, h1, h2, h3⟩ := h
  refine ⟨x, cap, h1, h2, fun i hi => ?_⟩
  obtain ⟨a, q1, q2⟩ := h3 i hi
  exact ⟨a, q1, (k.cell (World.block_lt_of_cell? _ _ q2)).trans q2⟩
theorem RowsIn.below {w w' : World} {v : Value} {rs : Rows} (h : RowsIn w v rs) (k : Below w.heap.size w w') : RowsIn w' v rs := by
  obtain ⟨x, cap, h1, h2, h3⟩ := h
  refine ⟨x, cap, h1, h2, fun i hi => ?_⟩
  obtain ⟨a, u, q1, q2, q3⟩ := h3 i hi
  exact ⟨a, u, q1, (k.cell (World.block_lt_of_cell? _ _ q2)).trans q2, q3.below k⟩
/-- a fault behind a pointer -/
def FaultP (W : World) (B : Nat) (A : Nat → Addr) : Value → Option (Nat × Nat × Nat) → Prop
  | v, none => v = .pointer none
  | v, some (l, c, e) => coded e ∧ ∃ g, B ≤ g ∧ v = PT g ∧ W.heap[g]? = some (.cells #[I l, I c, errV A e] 70 (0, 0))
def Chk (A : Nat → Addr) (w : World) (f : Option (Nat × Nat × Nat)) (e : Ending) (w' : World) : Prop := ∃ v, e = .returned v ∧ FaultP w' w.heap.size A v f ∧ Below w.heap.size w w'
theorem chk_fault {A : Nat → Addr} {w wr : World} {f : Option (Nat × Nat × Nat)} {l c e : Nat} (hf : f = some (l, c, e)) (hb : Below w.heap.size w wr) (he : coded e) : Chk A w f (.returned (PT wr.heap.size)) (wr.alloc (.cells #[I l, I c, errV A e] 70)) := by
  subst hf
  exact ⟨_, rfl, ⟨he, _, hb.size, rfl, heap_alloc_new wr _⟩, hb.alloc hb.size _⟩
theorem chk_none {A : Nat → Addr} {w wr : World} {f : Option (Nat × Nat × Nat)} (hf : f = none) (hb : Below w.heap.size w wr) : Chk A w f (.returned (.pointer none)) wr := by
  subst hf
  exact ⟨_, rfl, rfl, hb⟩
theorem belowN {B : Nat} {w w' : World} (h : Below B w w') (n : Nat) : Below B w (w'.drewN n) := ⟨h.os, h.tape, h.output, h.size, h.block⟩
theorem cod' {c : Nat} (h : (1 ≤ c ∧ c ≤ 9) ∨ c = 20) : coded c := h
/-- what a row's check reads -/
structure ChkAt (A : Nat → Addr) (wr : World) (a : Addr) (k : Nat) (y : Option Addr) (n cap : Nat) (y0 : Option Addr) (n0 cap0 : Nat) : Prop where
  row : wr.cell? (a.add k) = some (.slice y n cap)
  head : wr.cell? a = some (.slice y0 n0 cap0)
  e6 : wr.cell? ⟨9, 0, none⟩ = some (errV A 6)
  e7 : wr.cell? ⟨10, 0, none⟩ = some (errV A 7)
  e8 : wr.cell? ⟨3, 0, none⟩ = some (errV A 8)
  e5 : wr.cell? ⟨8, 0, none⟩ = some (errV A 5)
  e4 : wr.cell? ⟨7, 0, none⟩ = some (errV A 4)
theorem rowsF_drop (w0 : Nat) (rs : Rows) (k : Nat) (h : k < rs.length) : rowsF w0 k (rs.drop k) = if (rowF w0 k rs[k]).isSome then rowF w0 k rs[k] else rowsF w0 (k + 1) (rs.drop (k + 1)) := by
  rw [List.drop_eq_getElem_cons h]; rfl
theorem cellsF_drop (line : Nat) (r : List (List UInt8)) (k : Nat) (h : k < r.length) : cellsF line k (r.drop k) = if 4096 < r[k].length then some (line, k, 5) else if r[k].all okB = false then some (line, k, 4) else cellsF line (k + 1) (r.drop (k + 1)) := by
  rw [List.drop_eq_getElem_cons h]; rfl
set_option maxHeartbeats 8000000 in
set_option maxRecDepth 100000 in
theorem checked_r (A : Nat → Addr) (rs : Rows) (v : Value) (w : World) (hF : SF w A) (h : RowsIn w v rs) : Calls Tryz.prog 75 #[v] w (Chk A w (checkO rs)) := by
  obtain ⟨x, cap, rfl, hlen, hx⟩ := h
  have HX := Lib.hid hx
  have HF := Lib.hid hF
  have HCl := Lib.hid (fun s hl w => clean_r s hl w)
  obtain ⟨w0, hw0⟩ : ∃ w0, w0 = (rs.headD []).length := ⟨_, rfl⟩
  have HW0 := Lib.hid hw0
  have HCk : Hid (checkO rs = rowsF w0 0 rs) := Lib.hid (by rw [hw0]; rfl)
  obtain ⟨fl, hfl⟩ : ∃ fl, fl = checkO rs := ⟨_, rfl⟩
  rw [← hfl]
  rw [← hfl] at HCk
  have HFl := Lib.hid hfl
  clear hx hF hw0 hfl
  go_enter Tryz.func75, Tryz.ntmps75
  go_wp2
  go_loopw [10] (fun i wr => ∃ k : Nat, k ≤ rs.length ∧ i = .int .i64 (k : Int) ∧ Hid (fl = rowsF w0 k (rs.drop k)) ∧ Hid (Below w.heap.size w wr)) (fun i _ => rs.length - (intOf i).toNat)
  case atStart => exact ⟨0, Nat.zero_le _, rfl, Lib.hid (by rw [HCk.out]; rfl), Lib.hid (Below.refl _ _)⟩
  case round =>
    obtain ⟨k, hk, rfl, HK, HB⟩ := hrel
    by_cases hlt : k < rs.length
    · obtain ⟨a, u, rfl, hc, y, capy, rfl, hyl, hy⟩ := HX.out k hlt
      obtain ⟨a', u0, ha', hc0, y0, capy0, rfl, hyl0, hy0⟩ := HX.out 0 (by omega)
      obtain rfl : a = a' := Option.some.inj ha'
      have hsf := HF.out.below HB.out
      have hn0 : rs[0].length = w0 := by rw [HW0.out]; cases rs with
        | nil => simp at hlt
        | cons r rs => rfl
      have HAt : Hid (ChkAt A wr a k y rs[k].length capy y0 w0 capy0) := Lib.hid ⟨(HB.out.cell (World.block_lt_of_cell? _ _ hc)).trans hc, by rw [← hn0]; exact (HB.out.cell (p := a) (World.block_lt_of_cell? _ _ hc0)).trans (by simpa [Addr.add] using hc0), hsf.hv 6 (cod' (by omega)), hsf.hv 7 (cod' (by omega)), hsf.hv 8 (cod' (by omega)), hsf.hv 5 (cod' (by omega)), hsf.hv 4 (cod' (by omega))⟩
      have hkk := rowsF_drop w0 rs k hlt
      obtain ⟨r, hr⟩ : ∃ r, r = rs[k] := ⟨_, rfl⟩
      rw [← hr] at hkk hyl hy HAt
      have HY := Lib.hid hy
      rw [← HK.out] at hkk
      have HKK := Lib.hid hkk
      clear hc hc0 hsf ha' hy hy0 hkk hr hn0 hyl0
      have lt0 : (0 : Int) < (rs.length : Int) := by omega
      by_cases g1 : k = 4096
      · have t1 : ((k : Int) == 4096) = true := by simp; omega
        have HG := Lib.hid (show fl = some (k + 1, 0, 7) by rw [HKK.out]; unfold rowF; rw [if_pos g1]; rfl)
        clear g1
        obtain ⟨c1, c2, c6, c7, c8, c5, c4⟩ := HAt.out
        go_wp2
        go_ret
        exact chk_fault HG.out HB.out (cod' (by omega))
      have t1 : ((k : Int) == 4096) = false := by simp; omega
      by_cases g2 : r.length = 0
      · have HG := Lib.hid (show fl = some (k + 1, 0, 6) by rw [HKK.out]; unfold rowF; rw [if_neg g1, if_pos g2]; rfl)
        have t2 : ((r.length : Int) == 0) = true := beq_iff_eq.2 (by omega)
        clear g1 g2
        obtain ⟨c1, c2, c6, c7, c8, c5, c4⟩ := HAt.out
        go_wp2
        go_ret
        exact chk_fault HG.out HB.out (cod' (by omega))
      have t2 : ((r.length : Int) == 0) = false := beq_eq_false_iff_ne.2 (by omega)
      by_cases g3 : 64 < r.length
      · have HG := Lib.hid (show fl = some (k + 1, 64, 6) by rw [HKK.out]; unfold rowF; rw [if_neg g1, if_neg g2, if_pos g3]; rfl)
        have t3 : decide ((r.length : Int) > 64) = true := by simp; omega
        clear g1 g2 g3
        obtain ⟨c1, c2, c6, c7, c8, c5, c4⟩ := HAt.out
        go_wp2
        go_ret
        exact chk_fault HG.out HB.out (cod' (by omega))
      have t3 : decide ((r.length : Int) > 64) = false := by simp; omega
      by_cases g4 : r.length ≠ w0
      · have HG := Lib.hid (show fl = some (k + 1, 0, 8) by rw [HKK.out]; unfold rowF; rw [if_neg g1, if_neg g2, if_neg g3, if_pos g4]; rfl)
        have t4 : ((r.length : Int) != (w0 : Int)) = true := by simp; omega
        have t4' : (r.length != w0) = true := by simpa using g4
        clear g1 g2 g3 g4
        obtain ⟨c1, c2, c6, c7, c8, c5, c4⟩ := HAt.out
        go_wp2
        go_ret
        exact chk_fault HG.out HB.out (cod' (by omega))
      have t4 : ((r.length : Int) != (w0 : Int)) = false := by simp; omega
      have t4' : (r.length != w0) = false := by simp; omega
      have hr64 : r.length ≤ 64 := by omega
      have HG : Hid (∀ f, cellsF (k + 1) 0 r = some f → fl = some f) := Lib.hid fun f hf => by
        rw [HKK.out]; unfold rowF; rw [if_neg g1, if_neg g2, if_neg g3, if_neg g4, hf]; rfl
      have HN : Hid (cellsF (k + 1) 0 r = none → fl = rowsF w0 (k + 1) (rs.drop (k + 1))) := Lib.hid fun hf => by
        rw [HKK.out]; unfold rowF; rw [if_neg g1, if_neg g2, if_neg g3, if_neg g4, hf]; rfl
      clear g1 g2 g3 g4
      obtain ⟨c1, c2, _, _, _, _, _⟩ := HAt.out
      obtain ⟨wo, rfl⟩ : ∃ wo : World, wo = wr := ⟨_, rfl⟩
      go_wp2
      go_loopw [54] (fun i wr => ∃ j : Nat, j ≤ r.length ∧ i = .int .i64 (j : Int) ∧ Hid (cellsF (k + 1) 0 r = cellsF (k + 1) j (r.drop j)) ∧ Hid (Below w.heap.size w wr)) (fun i _ => r.length - (intOf i).toNat)
      case atStart => exact ⟨0, Nat.zero_le _, rfl, Lib.hid rfl, HB⟩
      case round =>
        obtain ⟨j, hj, rfl, HJ, HBj⟩ := hrel
        clear c1 c2
        by_cases hjt : j < r.length
        · obtain ⟨b, rfl, hcb⟩ := HY.out j hjt
          have hjj := cellsF_drop (k + 1) r j hjt
          rw [← HJ.out] at hjj
          obtain ⟨s, hs⟩ : ∃ s, s = r[j] := ⟨_, rfl⟩
          rw [← hs] at hjj hcb
          have hsz : (⟨s.toArray⟩ : ByteArray).size = s.length := by simp [ByteArray.size]
          have d1 := (HBj.out.cell (World.block_lt_of_cell? _ _ hcb)).trans hcb
          have hsf := HF.out.below HBj.out
          have e5 : wr.cell? ⟨8, 0, none⟩ = some (errV A 5) := hsf.hv 5 (cod' (by omega))
          have e4 : wr.cell? ⟨7, 0, none⟩ = some (errV A 4) := hsf.hv 4 (cod' (by omega))
          have HJJ := Lib.hid hjj
          have HZ := Lib.hid hsz
          clear hjj hcb hs hsz hsf
          by_cases q1 : 4096 < s.length
          · have HG2 := Lib.hid (HG.out (k + 1, j, 5) (by rw [HJJ.out, if_pos q1]))
            have t5 : decide ((s.length : Int) > 4096) = true := by simp; omega
            clear q1
            go_wp2
            go_ret
            first | exact chk_fault HG2.out HBj.out (cod' (by omega)) | exact chk_fault HG2.out HBj.out.drew (cod' (by omega))
          have t5 : decide ((s.length : Int) > 4096) = false := by simp; omega
          have HC1 := Lib.hid (fun w => HCl.out ⟨s.toArray⟩ (by rw [HZ.out]; omega) w)
          by_cases q2 : s.all okB = false
          · have HG2 := Lib.hid (HG.out (k + 1, j, 4) (by rw [HJJ.out, if_neg q1, if_pos q2]))
            have HO : Hid (okL s = false) := Lib.hid q2
            clear q1 q2
            go_wp2_with (go_at_call 91; (with_reducible refine (HC1.out _).mono ?_); rintro e w1 ⟨rfl, rfl⟩; rw [show okL (⟨s.toArray⟩ : ByteArray).data.toList = false from HO.out])
            go_ret
            first | exact chk_fault HG2.out HBj.out (cod' (by omega)) | exact chk_fault HG2.out HBj.out.drew (cod' (by omega))
          have HJ2 := Lib.hid (show cellsF (k + 1) 0 r = cellsF (k + 1) (j + 1) (r.drop (j + 1)) by rw [HJJ.out, if_neg q1, if_neg q2])
          have HO : Hid (okL s = true) := Lib.hid (by unfold okL; simpa only [Bool.not_eq_false] using q2)
          clear q1 q2
          go_wp2_with (go_at_call 91; (with_reducible refine (HC1.out _).mono ?_); rintro e w1 ⟨rfl, rfl⟩; rw [show okL (⟨s.toArray⟩ : ByteArray).data.toList = true from HO.out])
          go_roundw
          case rel => exact ⟨j + 1, by omega, by go_num, HJ2, by first | exact HBj | exact Lib.hid HBj.out.drew⟩
          case measure => simp [intOf]; omega
        · obtain rfl : j = r.length := by omega
          have hn : cellsF (k + 1) 0 r = none := by rw [HJ.out, List.drop_length]; rfl
          have HN2 := Lib.hid (HN.out hn)
          clear hn
          go_wp2
          go_roundw
          case rel => exact ⟨k + 1, by omega, by go_num, HN2, HBj⟩
          case measure => simp [intOf]; omega
    · obtain rfl : k = rs.length := by omega
      have HN : Hid (fl = none) := Lib.hid (by rw [HK.out, List.drop_length]; rfl)
      go_wp2
      go_ret
      exact chk_none HN.out HB.out
end Go.Proofs.YtappphffbnkloaaGreatDoor.Sht

/- Print, walked: told, Print. -/
import Derived.Test.YtappphffbnkloaaGreatDoorShtPb
set_option linter.unusedVariables false
set_option linter.unusedSimpArgs false
namespace Go.Proofs.YtappphffbnkloaaGreatDoor.Sht
open Go Go.RowKit Qd
attribute [local go_sem ↓] Go.wp_at_zero Go.wp_at_succ
def Tld (A : Nat → Addr) (w : World) (o : List UInt8 × Option (Nat × Nat × Nat)) (e : Ending) (w' : World) : Prop := ∃ v, e = .returned (.tuple #[st o.1, v]) ∧ FaultP w' w.heap.size A v o.2 ∧ Below w.heap.size w w'
theorem cellsO_len : ∀ (l : List (List UInt8)), (∀ c ∈ l, c.length ≤ 4096) → (cellsO l).length ≤ 8195 * l.length
  | [], _ => Nat.zero_le _
  | c :: l, h => by
    have ht : ∀ l : List (List UInt8), (∀ c ∈ l, c.length ≤ 4096) → (tailO l).length ≤ 8195 * l.length := by
      intro l
      induction l with
      | nil => intro _; exact Nat.zero_le _
      | cons d l ih =>
        intro h
        have h1 := cellO_size d
        have h2 := h d List.mem_cons_self
        have h3 := ih (fun y hy => h y (List.mem_cons_of_mem _ hy))
        show (44 :: (cellO d ++ tailO l)).length ≤ _
        simp only [List.length_cons, List.length_append]; omega
    have h1 := cellO_size c
    have h2 := h c List.mem_cons_self
    have h3 := ht l (fun y hy => h y (List.mem_cons_of_mem _ hy))
    show (cellO c ++ tailO l).length ≤ _
    simp only [List.length_cons, List.length_append]; omega
theorem textO_take_le (rs : Rows) (k : Nat) : (textO (rs.take k)).length ≤ (textO rs).length := by
  conv => rhs; rw [← List.take_append_drop k rs, textO_app]
  simp
theorem textO_take (rs : Rows) (k : Nat) (h : k < rs.length) : textO (rs.take (k + 1)) = textO (rs.take k) ++ (cellsO rs[k] ++ [13, 10]) := by
  rw [List.take_succ_eq_append_getElem h, textO_snoc]; rfl
theorem cellsO_take (r : List (List UInt8)) (j : Nat) (h : j < r.length) : cellsO (r.take (j + 1)) = cellsO (r.take j) ++ ((if j = 0 then [] else [44]) ++ cellO r[j]) := by
  rw [List.take_succ_eq_append_getElem h, cellsO_snoc]
  congr 2
  by_cases h0 : j = 0
  · subst h0; simp
  · rw [if_neg h0, if_neg]
    intro e
    have := congrArg List.length e
    rw [List.length_take, List.length_nil] at this; omega
theorem print_over (rs : Rows) (hc : checkO rs = none) (k : Nat) (h : 262144 < (textO (rs.take k)).length) : printO rs = ([], some (0, 0, 20)) := by
  have := textO_take_le rs k
  unfold printO
  rw [hc]
  simp only [Option.isSome_none, Bool.false_eq_true, if_false]
  rw [if_pos (by omega)]
theorem print_done (rs : Rows) (hc : checkO rs = none) (h : (textO rs).length ≤ 262144) : printO rs = (textO rs, none) := by
  unfold printO
  rw [hc]
  simp only [Option.isSome_none, Bool.false_eq_true, if_false]
  rw [if_neg (by omega)]
theorem print_bad (rs : Rows) {f : Nat × Nat × Nat} (hc : checkO rs = some f) : printO rs = ([], some f) := by
  unfold printO
  rw [hc]; simp
set_option maxHeartbeats 8000000 in
set_option maxRecDepth 100000 in
theorem told_w (A : Nat → Addr) (rs : Rows) (v : Value) (w : World) (hF : SF w A) (h : RowsIn w v rs) (hM : ML w) : Calls Tryz.prog 57 #[v] w (Tld A w (printO rs)) := by
  have HCk := Lib.hid (checked_r A rs v w hF h)
  obtain ⟨x, cap, rfl, hlen, hx⟩ := h
  cases hc : checkO rs with
  | some f =>
    rw [hc] at HCk
    have HP := Lib.hid (print_bad rs hc)
    obtain ⟨l, c, e0⟩ := f
    clear hx hF hM hc
    go_enter Tryz.func57, Tryz.ntmps57
    go_wp2_with (go_at_call 75; (with_reducible refine HCk.out.mono ?_); rintro e w1 ⟨v1, rfl, hf, hb⟩; obtain ⟨he, g, hg, rfl, hh⟩ := hf; have HH := Lib.hid hh; have HE := Lib.hid he; have HB := Lib.hid hb; clear hh he hb)
    go_ret2
    rw [HP.out]
    exact ⟨_, rfl, ⟨HE.out, g, hg, rfl, HH.out⟩, HB.out⟩
  | none =>
    rw [hc] at HCk
    have HO := Lib.hid (fun k hk => print_over rs hc k hk)
    have HD := Lib.hid (fun hk => print_done rs hc hk)
    have HOk := Lib.hid ((checkO_none rs).1 hc).2
    have HX := Lib.hid hx
    have HF := Lib.hid hF
    have HM := Lib.hid hM
    clear hx hF hM hc
    go_enter Tryz.func57, Tryz.ntmps57
    go_wp2_with (go_at_call 75; (with_reducible refine HCk.out.mono ?_); rintro e w1 ⟨v1, rfl, hf, hb⟩; obtain rfl : v1 = .pointer none := hf; have HB := Lib.hid hb; clear hb)
    have HML : Hid (22 < w1.heap.size) := Lib.hid (Nat.lt_of_lt_of_le HM.out.lt HB.out.size)
    go_loopw [17] (fun i wr => ∃ k : Nat, k ≤ rs.length ∧ i = .int .i64 (k : Int) ∧ Hid (Bld w1.heap.size w1.heap.size (textO (rs.take k)) wr) ∧ Hid (Below w1.heap.size w1 wr) ∧ (textO (rs.take k)).length ≤ 262144) (fun i _ => rs.length - (intOf i).toNat)
    case atStart => exact ⟨0, Nat.zero_le _, rfl, Lib.hid ⟨Lib.fresh_isBuilder RW 5 w1, by simp⟩, Lib.hid ((Below.refl _ _).alloc (Nat.le_refl _) _), Nat.zero_le _⟩
    case round =>
      obtain ⟨k, hk, rfl, HL, HBk, hlk⟩ := hrel
      by_cases hlt : k < rs.length
      · obtain ⟨a, u, rfl, hca, y, capy, rfl, hyl, hy⟩ := HX.out k hlt
        have hroww := HOk.out rs[k] (List.getElem_mem hlt)
        have htk := textO_take rs k hlt
        obtain ⟨r, hr⟩ : ∃ r, r = rs[k] := ⟨_, rfl⟩
        rw [← hr] at hroww htk hyl hy hca
        have hbase : Below w.heap.size w wr := HB.out.trans (HBk.out.mono HB.out.size)
        have c1 := (hbase.cell (World.block_lt_of_cell? _ _ hca)).trans hca
        have HRow := Lib.hid hroww
        have HTk := Lib.hid htk
        have HY := Lib.hid hy
        have hr64 := hroww.few
        obtain ⟨acc, hacc⟩ : ∃ acc, acc = textO (rs.take k) := ⟨_, rfl⟩
        rw [← hacc] at HL hlk HTk
        clear hca hroww htk hr hy hbase hacc
        obtain ⟨wo, rfl⟩ : ∃ wo : World, wo = wr := ⟨_, rfl⟩
        go_wp2
        go_loopw [23] (fun i wr => ∃ j : Nat, j ≤ r.length ∧ i = .int .i64 (j : Int) ∧ Hid (Bld w1.heap.size w1.heap.size (acc ++ cellsO (r.take j)) wr) ∧ Hid (Below w1.heap.size w1 wr)) (fun i _ => r.length - (intOf i).toNat)
        case atStart => exact ⟨0, Nat.zero_le _, rfl, Lib.hid (by simpa [cellsO] using HL.out), HBk⟩
        case round =>
          obtain ⟨j, hj, rfl, HLj, HBj⟩ := hrel
          clear c1
          have hcl := cellsO_len (r.take j) (fun c hc => (HRow.out.cells c (List.mem_of_mem_take hc)).1)
          rw [List.length_take] at hcl
          by_cases hjt : j < r.length
          · obtain ⟨b, rfl, hcb⟩ := HY.out j hjt
            have hct := cellsO_take r j hjt
            have hsz := (HRow.out.cells r[j] (List.getElem_mem hjt)).1
            obtain ⟨s, hs⟩ : ∃ s, s = r[j] := ⟨_, rfl⟩
            rw [← hs] at hct hcb hsz
            have hbase : Below w.heap.size w wr := HB.out.trans (HBj.out.mono HB.out.size)
            have d1 := (hbase.cell (World.block_lt_of_cell? _ _ hcb)).trans hcb
            have HCt := Lib.hid hct
            have hll : (acc ++ cellsO (r.take j)).length ≤ 1000000 := by rw [List.length_append]; omega
            have hm := HM.out.below hbase HM.out.lt
            by_cases j0 : j = 0
            · have t0 : ((j : Int) == 0) = true := by simp; omega
              have HC1 := Lib.hid (cell_r true ⟨s.toArray⟩ (by simpa [ByteArray.size] using hsz) HLj.out hll hm HML.out)
              have HJ0 := Lib.hid j0
              clear hct hcb hs hsz hbase hll hm hcl j0
              go_wp2_with (go_at_call 76; (with_reducible refine HC1.out.mono ?_); rintro e w2 ⟨rfl, h2, b2⟩; have H2 := Lib.hid h2; have B2 := Lib.hid b2; clear h2 b2)
              go_roundw
              case rel => exact ⟨j + 1, by omega, by go_num, Lib.hid (by rw [HCt.out, if_pos HJ0.out, ← List.append_assoc]; exact H2.out), Lib.hid (HBj.out.trans B2.out)⟩
              case measure => simp [intOf]; omega
            · have t0 : ((j : Int) == 0) = false := by simp; omega
              have HC1 := Lib.hid (cell_r false ⟨s.toArray⟩ (by simpa [ByteArray.size] using hsz) HLj.out hll hm HML.out)
              have HJ0 := Lib.hid j0
              clear hct hcb hs hsz hbase hll hm hcl j0
              go_wp2_with (go_at_call 76; (with_reducible refine HC1.out.mono ?_); rintro e w2 ⟨rfl, h2, b2⟩; have H2 := Lib.hid h2; have B2 := Lib.hid b2; clear h2 b2)
              go_roundw
              case rel => exact ⟨j + 1, by omega, by go_num, Lib.hid (by rw [HCt.out, if_neg HJ0.out, ← List.append_assoc]; exact H2.out), Lib.hid (HBj.out.trans B2.out)⟩
              case measure => simp [intOf]; omega
          · obtain rfl : j = r.length := by omega
            rw [List.take_length] at HLj hcl
            have hll : (acc ++ cellsO r).length ≤ 1000000 := by rw [List.length_append]; omega
            have HW := Lib.hid (bld_str HLj.out ⟨#[13, 10]⟩ (by show _ + 2 ≤ _; omega))
            have hE : acc ++ cellsO r ++ [13, 10] = textO (rs.take (k + 1)) := by rw [HTk.out, List.append_assoc]
            have HE := Lib.hid hE
            obtain ⟨t2, ht2⟩ : ∃ t2, t2 = textO (rs.take (k + 1)) := ⟨_, rfl⟩
            have HT2 := Lib.hid ht2
            by_cases hov : 262144 < t2.length
            · have HP := Lib.hid (HO.out (k + 1) (by rw [← ht2]; exact hov))
              have t1 : decide ((t2.length : Int) > 262144) = true := by simp; omega
              clear hcl hll hE ht2 hov
              go_wp2_with (first
                | (go_at_call 77; (with_reducible refine HW.out.mono ?_); rintro e w2 ⟨rfl, h2, b2⟩; have H2 : Hid (Bld w1.heap.size w1.heap.size t2 w2) := Lib.hid (by rw [HT2.out, ← HE.out]; exact h2); have B2 := Lib.hid (HBj.out.trans b2); have hv20 : w2.cell? ⟨0, 0, none⟩ = some (errV A 20) := (HF.out.below (HB.out.trans (B2.out.mono HB.out.size))).hv 20 (cod' (by omega)); have HLn := Lib.hid (blen H2.out.1); rw [Lib.byteCells_length] at HLn; clear h2 b2)
                | (go_at_call 78; (with_reducible refine HLn.out.mono ?_); rintro e w3 ⟨rfl, rfl⟩))
              go_region
              all_goals
                go_wp2
                go_ret2
                rw [HP.out]
                exact ⟨_, rfl, ⟨cod' (by omega), _, Nat.le_trans (HB.out.trans (B2.out.mono HB.out.size)).size (Nat.le_refl _), rfl, heap_alloc_new _ _⟩, ((HB.out.trans (B2.out.mono HB.out.size)).drew).alloc (HB.out.trans (B2.out.mono HB.out.size)).size _⟩
            · have t1 : decide ((t2.length : Int) > 262144) = false := by simp; omega
              have hle : t2.length ≤ 262144 := by omega
              clear hcl hll hE ht2 hov
              go_wp2_with (first
                | (go_at_call 77; (with_reducible refine HW.out.mono ?_); rintro e w2 ⟨rfl, h2, b2⟩; have H2 : Hid (Bld w1.heap.size w1.heap.size t2 w2) := Lib.hid (by rw [HT2.out, ← HE.out]; exact h2); have B2 := Lib.hid (HBj.out.trans b2); have HLn := Lib.hid (blen H2.out.1); rw [Lib.byteCells_length] at HLn; clear h2 b2)
                | (go_at_call 78; (with_reducible refine HLn.out.mono ?_); rintro e w3 ⟨rfl, rfl⟩))
              go_roundw
              case rel => exact ⟨k + 1, by omega, by go_num, Lib.hid (by rw [← HT2.out]; exact H2.out), B2, by rw [← HT2.out]; exact hle⟩
              case measure => simp [intOf]; omega
      · obtain rfl : k = rs.length := by omega
        rw [List.take_length] at HL hlk
        have HP := Lib.hid (HD.out hlk)
        have HG := Lib.hid (bget (textO rs) HL.out.1 HL.out.2)
        clear hlk
        go_wp2_with (go_at_call 79; (with_reducible refine HG.out.mono ?_); rintro e w2 ⟨rfl, b2⟩; have B2 := Lib.hid (HBk.out.trans b2); clear b2)
        go_ret2
        rw [HP.out]
        exact ⟨_, rfl, rfl, HB.out.trans (B2.out.mono HB.out.size)⟩
/-- what Print answers -/
def Prt (A : Nat → Addr) (w : World) (o : List UInt8 × Option (Nat × Nat × Nat)) (e : Ending) (w' : World) : Prop := ∃ ve, e = .returned (.tuple #[st o.1, ve]) ∧ FaultAt w' w.heap.size A ve o.2 ∧ Below w.heap.size w w'
theorem print_bad1 (rs : Rows) {f : Nat × Nat × Nat} (h : (printO rs).2 = some f) : printO rs = ([], some f) := by
  unfold printO at h ⊢
  split
  · rename_i hc
    rw [if_pos hc] at h
    exact Prod.ext rfl h
  · rename_i hc
    rw [if_neg hc] at h
    split
    · rename_i hl
      rw [if_pos hl] at h
      exact Prod.ext rfl h
    · rename_i hl
      rw [if_neg hl] at h
      cases h
set_option maxHeartbeats 4000000 in
theorem print_r (A : Nat → Addr) (rs : Rows) (v : Value) (w : World) (hF : SF w A) (h : RowsIn w v rs) (hM : ML w) : Calls Tryz.prog 20 #[v] w (Prt A w (printO rs)) := by
  have HT := Lib.hid (told_w A rs v w hF h hM)
  obtain ⟨x, cap, rfl, _, _⟩ := h
  clear hF hM
  cases hp : (printO rs).2 with
  | some f =>
    have HP := Lib.hid (print_bad1 rs hp)
    obtain ⟨l, c, e0⟩ := f
    clear hp
    go_enter Tryz.func20, Tryz.ntmps20
    go_wp2_with (go_at_call 57; (with_reducible refine HT.out.mono ?_); rintro e w1 ⟨v1, rfl, hf, hb⟩; rw [HP.out] at hf; rw [HP.out]; obtain ⟨he, g, hg, rfl, hh⟩ := hf; have HH := Lib.hid hh; have HE := Lib.hid he; have HB := Lib.hid hb; clear hh he hb)
    go_ret2
    rw [HP.out]
    exact ⟨_, rfl, ⟨HE.out, g, hg, rfl, HH.out⟩, HB.out⟩
  | none =>
    have HP := Lib.hid hp
    clear hp
    go_enter Tryz.func20, Tryz.ntmps20
    go_wp2_with (go_at_call 57; (with_reducible refine HT.out.mono ?_); rintro e w1 ⟨v1, rfl, hf, hb⟩; rw [HP.out] at hf; obtain rfl : v1 = .pointer none := hf; have HB := Lib.hid hb; clear hb)
    go_ret2
    exact ⟨_, rfl, by rw [HP.out]; exact rfl, HB.out⟩
end Go.Proofs.YtappphffbnkloaaGreatDoor.Sht

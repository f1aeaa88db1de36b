-- joined out of the texts ShtLr ShtLs ShtLk ShtPn
import Derived.Test.YtappphffbnkloaaGreatDoorShtPrj
import Derived.Test.YtappphffbnkloaaGreatDoorShtOw
import Derived.Laws.AppendOwnNone
import Derived.Lib.ItoaMem
import Derived.Deep.RegionHeld3
import Derived.Deep.QuietTactic
import Derived.BigQuiet
import Derived.IntWalk
import Derived.Test.YtappphffbnkloaaGreatDoorGSxf56
import Derived.Test.YtappphffbnkloaaGreatDoorGSxf61
import Derived.Test.YtappphffbnkloaaGreatDoorShtPq
import Derived.Test.YtappphffbnkloaaGreatDoorShtZ
import Derived.Test.YtappphffbnkloaaGreatDoorShtDg
import Derived.Test.YtappphffbnkloaaGreatDoorGSxPr
set_option linter.unusedVariables false
set_option linter.unusedSimpArgs false
namespace Go.Proofs.YtappphffbnkloaaGreatDoor.Sht
open Go Go.RowKit Go.Proofs.YtappphffbnkloaaGreatDoorW.PrintWords Go.Proofs.YtappphffbnkloaaGreatDoorW.PrintLast Go.Proofs.YtappphffbnkloaaGreatDoor.GS
attribute [local go_sem ↓] Go.wp_at_zero Go.wp_at_succ
def noteB (i : Nat) : ByteArray := strOfNums [(Int.tmod (i : Int) 251) % 256, (wrap64 (Int.tdiv (i : Int) 251)) % 256]
theorem noteB_size (i : Nat) : (noteB i).size = 2 := rfl
def markB (i : Nat) : ByteArray := noteB i ++ ⟨#[108, 101, 110, 116]⟩
theorem note_r (i : Nat) (w : World) : Calls Tryz.prog 56 #[.int .i64 (i : Int)] w fun e w' => e = .returned (.string (noteB i)) ∧ Below w.heap.size w w' := larderref01_note.calls (i : Int) (noteB i) w rfl
def marks (k : Nat) : List Value := (List.range k).map fun i => Value.string (markB i)
theorem marks_len (k : Nat) : (marks k).length = k := by simp [marks]
theorem marks_succ (k : Nat) : marks (k + 1) = marks k ++ [.string (markB k)] := by simp [marks, List.range_succ]
theorem own_below {w w' : World} {B : Nat} {e : TypeId} {v : Value} {n : Nat} {xs : List Value} (h : w.ownsRow B e 1 v n xs) (k : Below w.heap.size w w') : w'.ownsRow B e 1 v n xs :=
  ownsRow_kept h fun j hj => k.block j (h.lt j hj).2
theorem own_slice {w : World} {B : Nat} {e : TypeId} {v : Value} {n : Nat} {xs : List Value} (h : w.ownsRow B e 1 v n xs) (hn : 0 < n) : ∃ g cap, v = .slice (some ⟨g, 0, none⟩) n cap ∧ n ≤ cap ∧ cap ≤ 9223372036854775807 := by
  rcases h.2 with ⟨_, h0⟩ | ⟨g, cap, cur, rfl, _, _, h1, h2, _⟩
  · omega
  · exact ⟨g, cap, rfl, h1, maxLen_le h2⟩
/-- a lent row -/
def Lrow (w : World) (B : Nat) (u : Value) (r : List (List UInt8)) : Prop := ∃ g cap, u = .slice (some ⟨g, 0, none⟩) r.length cap ∧ w.ownsRow B 9 1 (.slice (some ⟨g, 0, none⟩) (r.length + 9) cap) (r.length + 9) (sts r ++ marks 9)
def LentT (w : World) (r : List (List UInt8)) (e : Ending) (w' : World) : Prop := ∃ v, e = .returned v ∧ Lrow w' w.heap.size v r ∧ Below w.heap.size w w'
theorem rowIn_cells {w : World} {a : Addr} {n cap : Nat} {r : List (List UInt8)} (h : ∀ i (h : i < r.length), ∃ ad : Addr, (some a : Option Addr) = some ad ∧ w.cell? (ad.add i) = some (st r[i])) : ∀ j u, (sts r)[j]? = some u → w.cell? (a.add j) = some u := fun j u hj => by
  unfold sts at hj
  rw [List.getElem?_map, Option.map_eq_some_iff] at hj
  obtain ⟨q, hq, rfl⟩ := hj
  obtain ⟨hl, he⟩ := List.getElem?_eq_some_iff.1 hq
  obtain ⟨ad, e, hc⟩ := h j hl
  obtain rfl := Option.some.inj e
  rw [hc, he]
theorem one_sts (r : List (List UInt8)) : ∀ u ∈ sts r, u.oneCell' = true := fun u hu => by
  obtain ⟨q, _, rfl⟩ := List.mem_map.1 hu
  rfl
/-- append(own, row...) -/
theorem wpList_append_row {w : World} {ops : Array Oper} {rest : List Oper} {o : Oper} {a : Act} {Q : Exit → Act → World → Prop} (hgd : o.guard = none) (s x : Operand)
    (ho : o.op = .call { callee := .builtin .append, args := #[s, x], argTypes := #[28, 28] }) (base : Nat) (v : Value) (n : Nat) (xs : List Value) (hs : a.eval s = v) (hown : w.ownsRow base 9 1 v n xs)
    {v3 : Value} {r : List (List UInt8)} (hx : a.eval x = v3) (hr : RowIn w v3 r) (hnil : NilOk v3) (hb : (n + r.length) * 16 ≤ 140737488355328) (hbase : base ≤ w.heap.size)
    (h : ∀ v' w', w'.ownsRow base 9 1 v' (n + r.length) (xs ++ sts r) → w.grownBy w' v.ownBlock → wpList Tryz.prog ops Q rest (a.put o.dst v') w') : wpList Tryz.prog ops Q (o :: rest) a w := by
  obtain ⟨i0, hi, hz0, hz1, hz2⟩ := info_parts info9
  obtain ⟨y, cap, rfl, hlen, hy⟩ := hr
  cases y with
  | none =>
    have h0 : r.length = 0 := by
      rcases Nat.eq_zero_or_pos r.length with q | q
      · exact q
      · obtain ⟨ad, e, _⟩ := hy 0 q
        cases e
    have hr0 : r = [] := List.eq_nil_of_length_eq_zero h0
    subst hr0
    refine wpList_append_own_none hgd s x 28 ho base 9 i0 1 Tryz.underlying28 hi v n xs hs hown (hx.trans (hnil _ _ rfl)) ?_
    exact h v w (by simpa [sts] using hown) ⟨rfl, rfl, rfl, Nat.le_refl _, fun _ _ _ => rfl⟩
  | some ad =>
    exact wpList_append_own w hgd s x 28 ho base 9 i0 _ 1 16 Tryz.underlying28 hi hz0 hz1 hz2 rfl (by decide) v n xs hs hown ad r.length cap (sts r) hx (by rw [sts_len, Nat.mul_one]) (rowIn_cells (n := 0) (cap := 0) hy) (one_sts r) (by unfold maxLen; omega) hb hbase (fun v' w' q1 q2 _ => h v' w' q1 q2)
/-- append(own, one text) -/
theorem wpList_append_text {w : World} {ops : Array Oper} {rest : List Oper} {o : Oper} {a : Act} {Q : Exit → Act → World → Prop} (hgd : o.guard = none) (s x : Operand)
    (ho : o.op = .call { callee := .builtin .append, args := #[s, x], argTypes := #[28, 28] }) (base : Nat) (v : Value) (n : Nat) (xs : List Value) (t : ByteArray) (hs : a.eval s = v) (hown : w.ownsRow base 9 1 v n xs)
    (hx : a.eval x = .slice (some ⟨w.heap.size, 0, none⟩) 1 1) (hb : (n + 1) * 16 ≤ 140737488355328) (hbase : base ≤ w.heap.size)
    (h : ∀ v' w', w'.ownsRow base 9 1 v' (n + 1) (xs ++ [.string t]) → (w.alloc (.cells #[.string t] 9)).grownBy w' v.ownBlock → wpList Tryz.prog ops Q rest (a.put o.dst v') w') : wpList Tryz.prog ops Q (o :: rest) a (w.alloc (.cells #[.string t] 9)) := by
  obtain ⟨i0, hi, hz0, hz1, hz2⟩ := info_parts info9
  exact wpList_append_own (w.alloc (.cells #[.string t] 9)) hgd s x 28 ho base 9 i0 _ 1 16 Tryz.underlying28 hi hz0 hz1 hz2 rfl (by decide) v n xs hs (hown.alloc _) ⟨w.heap.size, 0, none⟩ 1 1 [.string t] hx rfl
    (fun j u hj => by
      match j, hj with
      | 0, hj => simp at hj; subst hj; simp [Addr.add])
    (fun u hu => by simp at hu; subst hu; rfl) (by unfold maxLen; omega) hb (by simp; omega) (fun v' w' q1 q2 _ => h v' w' q1 q2)
set_option maxHeartbeats 1000000 in
set_option maxRecDepth 100000 in
theorem lentTexts_r (r : List (List UInt8)) (v : Value) (w : World) (h : RowIn w v r) (hnil : NilOk v) (hsz : r.length * 16 ≤ 140737488351232) : Calls Tryz.prog 55 #[v] w (LentT w r) := by
  have HR := Lib.hid h
  have HN := Lib.hid hnil
  obtain ⟨x, cap, rfl, hlen, _⟩ := h
  clear hnil
  go_enter Tryz.func55, Tryz.ntmps55
  go_wp2_with (at_builtin; refine wpList_append_row rfl (.tmp 5) (.tmp 6) rfl w.heap.size (.slice none 0 0) 0 [] rfl (World.ownsRow_nil _ _ _ _) rfl HR.out HN.out (by omega) (Nat.le_refl _) ?_; intro v1 w1 hown hg; have HO : Hid (w1.ownsRow w.heap.size 9 1 v1 r.length (sts r)) := Lib.hid (by simpa using hown); have HB := Lib.hid ((Below.refl w.heap.size w).grown hg (Nat.le_refl _) (fun k hk => by simp [Value.ownBlock] at hk)); clear hown hg)
  go_loopw [3, 4] (fun v i wr => ∃ k : Nat, k ≤ 9 ∧ i = .int .i64 (k : Int) ∧ Hid (wr.ownsRow w.heap.size 9 1 v (r.length + k) (sts r ++ marks k)) ∧ Hid (Below w.heap.size w wr)) (fun _ i _ => 9 - (intOf i).toNat)
  case atStart => exact ⟨0, by omega, rfl, Lib.hid (by simpa [marks] using HO.out), HB⟩
  case round =>
    obtain ⟨k, hk, rfl, HOk, HBk⟩ := hrel
    by_cases hlt : k < 9
    · have HNt := Lib.hid (fun w1 => note_r k w1)
      have z2 := noteB_size k
      go_wp2_with (first
        | (go_at_call 56; (with_reducible refine (HNt.out _).mono ?_); rintro e w2 ⟨rfl, hb⟩; have HB2 := Lib.hid (HBk.out.trans (hb.mono HBk.out.size)); have HO2 := Lib.hid (own_below HOk.out hb); clear hb)
        | (at_builtin; refine wpList_append_text (w := w2) rfl (.tmp 12) (.tmp 16) rfl w.heap.size _ _ _ (markB k) rfl HO2.out rfl (by omega) HB2.out.size ?_; intro v3 w3 hown hg; have HO3 := Lib.hid hown; have HB3 := Lib.hid ((HB2.out.alloc HB2.out.size _).grown hg (by simp; have := HB2.out.size; omega) (fun j hj => (HO2.out.lt j hj).1)); clear hown hg))
      go_roundw
      case rel => exact ⟨k + 1, by omega, by go_num, Lib.hid (by rw [marks_succ, ← List.append_assoc]; exact HO3.out), HB3⟩
      case measure => simp [intOf]; omega
    · obtain rfl : k = 9 := by omega
      obtain ⟨g, cap', rfl, h1, h2⟩ := own_slice HOk.out (by omega)
      have n0 : (0 : Int) ≤ (r.length : Int) := Int.natCast_nonneg _
      have n1 : (r.length : Int) ≤ (cap' : Int) := by omega
      go_wp2
      go_ret
      exact ⟨_, rfl, ⟨g, cap', rfl, HOk.out⟩, HBk.out⟩
theorem kept_cell' {w w' : World} {a : Addr} {v : Value} (h : w.cell? a = some v) (k : Below w.heap.size w w') : w'.cell? a = some v := (k.cell (World.block_lt_of_cell? _ _ h)).trans h
theorem marks_get (j : Nat) (h : j < 9) : (marks 9)[j]? = some (.string (markB j)) := by
  unfold marks
  rw [List.getElem?_map, List.getElem?_range h]; rfl
def keptT : Bool × List (List Nat × List Nat) := (true,
  [([], []), ([], []), ([1], [1]), ([0, 2], [0, 2]), ([3], [3]), ([4], [4]), ([4], [4]), ([5, 6, 4], [4, 5, 6]),
    ([7, 4], [4, 7]), ([4], [4]), ([4], [4]), ([9, 10, 4], [4, 9, 10]), ([11, 4], [4, 11]), ([8, 12, 4], [4, 8, 12]),
    ([4, 13], [4, 13]), ([14, 4], [14]), ([15], [15]), ([15], [15]), ([17, 15], [15, 17]), ([16, 18, 15], [15, 16, 18]),
    ([19, 15, 15], [15, 19]), ([20], [20]), ([20], [20]), ([21, 22, 20], [20, 21, 22]), ([23, 20], [20, 23]),
    ([20], [20]), ([20], [20]), ([26, 20], [20, 26]), ([25, 27, 20], [20, 25, 27]), ([28, 20, 20], [20, 28]),
    ([29, 20], [20, 29]), ([24, 30, 20], [20, 24, 30]), ([20, 31, 15], [15, 20, 31]), ([15, 32], [15, 32])])
theorem kept_tab : rtab .any (opsOf Tryz.f60 7) = keptT := by kernel_rfl
set_option maxHeartbeats 1000000 in
set_option maxRecDepth 100000 in
theorem keptTexts_r (B : Nat) (r : List (List UInt8)) (u v : Value) (w : World) (hu : Lrow w B u r) (h : RowIn w v r) (hsz : r.length * 16 ≤ 140737488351232) : Calls Tryz.prog 60 #[u, v] w fun e w' => e = .returned (.bool true) ∧ Below w.heap.size w w' := by
  obtain ⟨g, capg, rfl, ho⟩ := hu
  obtain ⟨x, cap, rfl, hlen, hx⟩ := h
  obtain ⟨g', cap', e, h1, h2⟩ := own_slice ho (by omega)
  obtain ⟨-, -, rfl⟩ : True ∧ True ∧ cap' = capg := by cases e; exact ⟨trivial, trivial, rfl⟩
  have hcell : ∀ j u, (sts r ++ marks 9)[j]? = some u → w.cell? ⟨g, j, none⟩ = some u := fun j u hj => by
    have := ho.cells (g := g) rfl j u hj
    rwa [Lib.add_plain, Nat.zero_add] at this
  have HC := Lib.hid hcell
  have HX := Lib.hid hx
  clear ho e hcell hx
  have n0 : (0 : Int) ≤ (r.length : Int) + 9 := by omega
  have n1 : (r.length : Int) + 9 ≤ (cap' : Int) := by omega
  go_enter Tryz.func60, Tryz.ntmps60
  go_wp2
  go_loopw [6] (fun i wr => ∃ k : Nat, k ≤ r.length + 9 ∧ i = .int .i64 (k : Int) ∧ Hid (Below w.heap.size w wr)) (fun i _ => r.length + 9 - (intOf i).toNat)
  case atStart => exact ⟨0, Nat.zero_le _, rfl, Lib.hid (Below.refl _ _)⟩
  case round =>
    obtain ⟨k, hk, rfl, HB⟩ := hrel
    by_cases hlt : k < r.length
    · obtain ⟨b, rfl, hcb⟩ := HX.out k hlt
      obtain ⟨s, hs⟩ : ∃ s, s = (⟨r[k].toArray⟩ : ByteArray) := ⟨_, rfl⟩
      have c1 : wr.cell? ⟨g, k, none⟩ = some (.string s) := kept_cell' (HC.out k (.string s) (by rw [List.getElem?_append_left (by rw [sts_len]; exact hlt), hs]; simp [sts, hlt])) HB.out
      have c2 : wr.cell? (b.add k) = some (.string s) := kept_cell' (by rw [hs]; exact hcb) HB.out
      have t1 : decide ((k : Int) < (r.length : Int)) = true := by simp; omega
      have t3 : decide (r.length ≤ k) = false := by simp; omega
      have k0 : (0 : Int) ≤ (k : Int) := Int.natCast_nonneg _
      have k1 : (k : Int) < ((r.length + 9 : Nat) : Int) := by omega
      have k2 : (k : Int) < (r.length : Int) := by omega
      have k3 : k < r.length + 9 := by omega
      clear hcb hs
      go_wp2_with fail
      go_quiet (fail)
      go_wp2
      go_roundw
      case rel => exact ⟨k + 1, by omega, by go_num, Lib.hid (belowN HB.out _)⟩
      case measure => simp [intOf]; omega
    · by_cases hlt2 : k < r.length + 9
      · obtain ⟨j, hj⟩ : ∃ j, k = r.length + j := ⟨k - r.length, by omega⟩
        have c1 : wr.cell? ⟨g, k, none⟩ = some (.string (noteB j ++ ⟨#[108, 101, 110, 116]⟩)) := kept_cell' (HC.out k _ (by rw [List.getElem?_append_right (by rw [sts_len]; omega), sts_len, hj, Nat.add_sub_cancel_left]; exact marks_get j (by omega))) HB.out
        have t1 : decide ((k : Int) < (r.length : Int)) = false := by simp; omega
        have t2 : decide ((k : Int) ≥ (r.length : Int)) = true := by simp; omega
        have k0 : (0 : Int) ≤ (k : Int) := Int.natCast_nonneg _
        have k1 : (k : Int) < ((r.length + 9 : Nat) : Int) := by omega
        have t3 : decide (r.length ≤ k) = true := by simp; omega
        have t4 : decide (k < r.length) = false := by simp; omega
        have t5 : decide ((r.length : Int) ≤ (k : Int)) = true := by simp; omega
        have hsub : (k : Int) - (r.length : Int) = (j : Int) := by omega
        have hwj : IntKind.i64.wrap (j : Int) = (j : Int) := IntWalk.i64_in _ (by omega)
        have z2 := noteB_size j
        have HNt : Hid (∀ w1, Below wr.heap.size wr w1 → Calls Tryz.prog 56 #[.int .i64 (j : Int)] w1 fun ev w' => ev = .returned (.string (noteB j)) ∧ Below wr.heap.size wr w') := Lib.hid fun w1 b => (note_r j w1).mono fun _ _ q => ⟨q.1, b.trans (q.2.mono b.size)⟩
        have C1 := Lib.hid c1
        have hb0 : Below wr.heap.size wr wr.drew := (Below.refl _ _).drew
        clear hj hlt hk
        go_wp2_with fail
        -- REGION
        refine start_ (n := 34) (S := fun w' => w'.cell? ⟨g, k, none⟩ = some (.string (noteB j ++ ⟨#[108, 101, 110, 116]⟩))) (ds := []) #[false, false, false, false, false, false, false, false, false, false, false, false, false, false, false, false, false, false, false, false, false, false, false, false, false, false, false, false, false, false, false, false, false, false] (by kernel_rfl) rfl rfl (kept_cell' C1.out hb0) (fun hHeld => ?_); refine with_tab kept_tab (fun HT_ => ?_)
        generalize wr.drew = w6 at hb0 hHeld ⊢
        refine pure_ (i := 0) (N := some 23) (v := ?_) (a' := ?_) #[true, false, false, false, false, false, false, false, false, false, false, false, false, false, false, false, false, false, false, false, false, false, false, false, false, false, false, false, false, false, false, false, false, false] rfl rfl (any_of HT_.out (by kernel_rfl)) (fun _ _ _ h => h) (Or.inl ⟨by rfl, ?_⟩) ?_ ?_
        rotate_left
        · intro w'
          go_simp
          try with_reducible rfl
        rotate_left
        · simp only [Act.put, List.setIfInBounds_toArray, List.set_cons_zero, List.set_cons_succ]
          rfl
        refine pure_ (i := 1) (N := some 24) (v := ?_) (a' := ?_) #[true, true, false, false, false, false, false, false, false, false, false, false, false, false, false, false, false, false, false, false, false, false, false, false, false, false, false, false, false, false, false, false, false, false] rfl rfl (any_of HT_.out (by kernel_rfl)) (fun _ _ _ h => h) (Or.inl ⟨by rfl, ?_⟩) ?_ ?_
        rotate_left
        · intro w'
          go_simp
          try with_reducible rfl
        rotate_left
        · simp only [Act.put, List.setIfInBounds_toArray, List.set_cons_zero, List.set_cons_succ]
          rfl
        refine pure_ (i := 2) (N := some 25) (v := ?_) (a' := ?_) #[true, true, true, false, false, false, false, false, false, false, false, false, false, false, false, false, false, false, false, false, false, false, false, false, false, false, false, false, false, false, false, false, false, false] rfl rfl (any_of HT_.out (by kernel_rfl)) (fun _ _ _ h => h) (Or.inl ⟨by rfl, ?_⟩) ?_ ?_
        rotate_left
        · intro w'
          go_simp
          try with_reducible rfl
        rotate_left
        · simp only [Act.put, List.setIfInBounds_toArray, List.set_cons_zero, List.set_cons_succ]
          rfl
        refine pure_ (i := 3) (N := some 26) (v := ?_) (a' := ?_) #[true, true, true, true, false, false, false, false, false, false, false, false, false, false, false, false, false, false, false, false, false, false, false, false, false, false, false, false, false, false, false, false, false, false] rfl rfl (any_of HT_.out (by kernel_rfl)) (fun _ _ _ h => h) (Or.inl ⟨by rfl, ?_⟩) ?_ ?_
        rotate_left
        · intro w'
          go_simp
          try with_reducible rfl
        rotate_left
        · simp only [Act.put, List.setIfInBounds_toArray, List.set_cons_zero, List.set_cons_succ]
          rfl
        refine pure_ (i := 4) (N := some 27) (v := ?_) (a' := ?_) #[true, true, true, true, true, false, false, false, false, false, false, false, false, false, false, false, false, false, false, false, false, false, false, false, false, false, false, false, false, false, false, false, false, false] rfl rfl (any_of HT_.out (by kernel_rfl)) (fun _ _ _ h => h) (Or.inl ⟨by rfl, ?_⟩) ?_ ?_
        rotate_left
        · intro w'
          go_simp
          try with_reducible rfl
        rotate_left
        · simp only [Act.put, List.setIfInBounds_toArray, List.set_cons_zero, List.set_cons_succ]
          rfl
        refine pure_ (i := 5) (N := some 28) (v := undef) (a' := ?_) #[true, true, true, true, true, true, false, false, false, false, false, false, false, false, false, false, false, false, false, false, false, false, false, false, false, false, false, false, false, false, false, false, false, false] rfl rfl (any_of HT_.out (by kernel_rfl)) (fun _ _ _ h => h) (Or.inr ⟨by rfl, rfl⟩) ?_ ?_
        rotate_left
        · simp only [Act.put, List.setIfInBounds_toArray, List.set_cons_zero, List.set_cons_succ]
          rfl
        refine pure_ (i := 6) (N := some 29) (v := undef) (a' := ?_) #[true, true, true, true, true, true, true, false, false, false, false, false, false, false, false, false, false, false, false, false, false, false, false, false, false, false, false, false, false, false, false, false, false, false] rfl rfl (any_of HT_.out (by kernel_rfl)) (fun _ _ _ h => h) (Or.inr ⟨by rfl, rfl⟩) ?_ ?_
        rotate_left
        · simp only [Act.put, List.setIfInBounds_toArray, List.set_cons_zero, List.set_cons_succ]
          rfl
        refine pure_ (i := 7) (N := some 30) (v := undef) (a' := ?_) #[true, true, true, true, true, true, true, true, false, false, false, false, false, false, false, false, false, false, false, false, false, false, false, false, false, false, false, false, false, false, false, false, false, false] rfl rfl (any_of HT_.out (by kernel_rfl)) (fun _ _ _ h => h) (Or.inr ⟨by rfl, rfl⟩) ?_ ?_
        rotate_left
        · simp only [Act.put, List.setIfInBounds_toArray, List.set_cons_zero, List.set_cons_succ]
          rfl
        refine pure_ (i := 8) (N := some 31) (v := undef) (a' := ?_) #[true, true, true, true, true, true, true, true, true, false, false, false, false, false, false, false, false, false, false, false, false, false, false, false, false, false, false, false, false, false, false, false, false, false] rfl rfl (any_of HT_.out (by kernel_rfl)) (fun _ _ _ h => h) (Or.inr ⟨by rfl, rfl⟩) ?_ ?_
        rotate_left
        · simp only [Act.put, List.setIfInBounds_toArray, List.set_cons_zero, List.set_cons_succ]
          rfl
        refine pure_ (i := 9) (N := some 32) (v := undef) (a' := ?_) #[true, true, true, true, true, true, true, true, true, true, false, false, false, false, false, false, false, false, false, false, false, false, false, false, false, false, false, false, false, false, false, false, false, false] rfl rfl (any_of HT_.out (by kernel_rfl)) (fun _ _ _ h => h) (Or.inr ⟨by rfl, rfl⟩) ?_ ?_
        rotate_left
        · simp only [Act.put, List.setIfInBounds_toArray, List.set_cons_zero, List.set_cons_succ]
          rfl
        refine pure_ (i := 10) (N := some 33) (v := undef) (a' := ?_) #[true, true, true, true, true, true, true, true, true, true, true, false, false, false, false, false, false, false, false, false, false, false, false, false, false, false, false, false, false, false, false, false, false, false] rfl rfl (any_of HT_.out (by kernel_rfl)) (fun _ _ _ h => h) (Or.inr ⟨by rfl, rfl⟩) ?_ ?_
        rotate_left
        · simp only [Act.put, List.setIfInBounds_toArray, List.set_cons_zero, List.set_cons_succ]
          rfl
        refine pure_ (i := 11) (N := some 34) (v := undef) (a' := ?_) #[true, true, true, true, true, true, true, true, true, true, true, true, false, false, false, false, false, false, false, false, false, false, false, false, false, false, false, false, false, false, false, false, false, false] rfl rfl (any_of HT_.out (by kernel_rfl)) (fun _ _ _ h => h) (Or.inr ⟨by rfl, rfl⟩) ?_ ?_
        rotate_left
        · simp only [Act.put, List.setIfInBounds_toArray, List.set_cons_zero, List.set_cons_succ]
          rfl
        refine pure_ (i := 12) (N := some 35) (v := undef) (a' := ?_) #[true, true, true, true, true, true, true, true, true, true, true, true, true, false, false, false, false, false, false, false, false, false, false, false, false, false, false, false, false, false, false, false, false, false] rfl rfl (any_of HT_.out (by kernel_rfl)) (fun _ _ _ h => h) (Or.inr ⟨by rfl, rfl⟩) ?_ ?_
        rotate_left
        · simp only [Act.put, List.setIfInBounds_toArray, List.set_cons_zero, List.set_cons_succ]
          rfl
        refine pure_ (i := 13) (N := some 36) (v := undef) (a' := ?_) #[true, true, true, true, true, true, true, true, true, true, true, true, true, true, false, false, false, false, false, false, false, false, false, false, false, false, false, false, false, false, false, false, false, false] rfl rfl (any_of HT_.out (by kernel_rfl)) (fun _ _ _ h => h) (Or.inr ⟨by rfl, rfl⟩) ?_ ?_
        rotate_left
        · simp only [Act.put, List.setIfInBounds_toArray, List.set_cons_zero, List.set_cons_succ]
          rfl
        refine pure_ (i := 14) (N := some 37) (v := ?_) (a' := ?_) #[true, true, true, true, true, true, true, true, true, true, true, true, true, true, true, false, false, false, false, false, false, false, false, false, false, false, false, false, false, false, false, false, false, false] rfl rfl (any_of HT_.out (by kernel_rfl)) (fun _ _ _ h => h) (Or.inl ⟨by rfl, ?_⟩) ?_ ?_
        rotate_left
        · intro w'
          go_simp
          try with_reducible rfl
        rotate_left
        · simp only [Act.put, List.setIfInBounds_toArray, List.set_cons_zero, List.set_cons_succ]
          rfl
        refine pure_ (i := 15) (N := some 38) (v := ?_) (a' := ?_) #[true, true, true, true, true, true, true, true, true, true, true, true, true, true, true, true, false, false, false, false, false, false, false, false, false, false, false, false, false, false, false, false, false, false] rfl rfl (any_of HT_.out (by kernel_rfl)) (fun _ _ _ h => h) (Or.inl ⟨by rfl, ?_⟩) ?_ ?_
        rotate_left
        · intro w'
          go_simp
          try with_reducible rfl
        rotate_left
        · simp only [Act.put, List.setIfInBounds_toArray, List.set_cons_zero, List.set_cons_succ]
          rfl
        refine pure_ (i := 16) (N := some 39) (v := ?_) (a' := ?_) #[true, true, true, true, true, true, true, true, true, true, true, true, true, true, true, true, true, false, false, false, false, false, false, false, false, false, false, false, false, false, false, false, false, false] rfl rfl (any_of HT_.out (by kernel_rfl)) (fun _ _ _ h => h) (Or.inl ⟨by rfl, ?_⟩) ?_ ?_
        rotate_left
        · intro w'
          go_simp
          try with_reducible rfl
        rotate_left
        · simp only [Act.put, List.setIfInBounds_toArray, List.set_cons_zero, List.set_cons_succ]
          rfl
        refine pure_ (i := 17) (N := some 40) (v := ?_) (a' := ?_) #[true, true, true, true, true, true, true, true, true, true, true, true, true, true, true, true, true, true, false, false, false, false, false, false, false, false, false, false, false, false, false, false, false, false] rfl rfl (any_of HT_.out (by kernel_rfl)) (fun _ _ _ h => h) (Or.inl ⟨by rfl, ?_⟩) ?_ ?_
        rotate_left
        · intro w'
          go_simp
          try with_reducible rfl
        rotate_left
        · simp only [Act.put, List.setIfInBounds_toArray, List.set_cons_zero, List.set_cons_succ]
          rfl
        refine pure_ (i := 18) (N := some 41) (v := ?_) (a' := ?_) #[true, true, true, true, true, true, true, true, true, true, true, true, true, true, true, true, true, true, true, false, false, false, false, false, false, false, false, false, false, false, false, false, false, false] rfl rfl (any_of HT_.out (by kernel_rfl)) (fun _ _ _ h => h) (Or.inl ⟨by rfl, ?_⟩) ?_ ?_
        rotate_left
        · intro w'
          go_simp
          try with_reducible rfl
        rotate_left
        · simp only [Act.put, List.setIfInBounds_toArray, List.set_cons_zero, List.set_cons_succ]
          rfl
        refine pure_ (i := 19) (N := some 42) (v := ?_) (a' := ?_) #[true, true, true, true, true, true, true, true, true, true, true, true, true, true, true, true, true, true, true, true, false, false, false, false, false, false, false, false, false, false, false, false, false, false] rfl rfl (any_of HT_.out (by kernel_rfl)) (fun _ _ _ h => h) (Or.inl ⟨by rfl, ?_⟩) ?_ ?_
        rotate_left
        · intro w'
          go_simp
          try with_reducible rfl
        rotate_left
        · simp only [Act.put, List.setIfInBounds_toArray, List.set_cons_zero, List.set_cons_succ]
          rfl
        refine pure_ (i := 20) (N := some 43) (v := ?_) (a' := ?_) #[true, true, true, true, true, true, true, true, true, true, true, true, true, true, true, true, true, true, true, true, true, false, false, false, false, false, false, false, false, false, false, false, false, false] rfl rfl (any_of HT_.out (by kernel_rfl)) (fun _ _ _ h => h) (Or.inl ⟨by rfl, ?_⟩) ?_ ?_
        rotate_left
        · intro w'
          go_simp
          try with_reducible rfl
        rotate_left
        · simp only [Act.put, List.setIfInBounds_toArray, List.set_cons_zero, List.set_cons_succ]
          rfl
        refine pure_ (i := 21) (N := some 44) (v := ?_) (a' := ?_) #[true, true, true, true, true, true, true, true, true, true, true, true, true, true, true, true, true, true, true, true, true, true, false, false, false, false, false, false, false, false, false, false, false, false] rfl rfl (any_of HT_.out (by kernel_rfl)) (fun _ _ _ h => h) (Or.inl ⟨by rfl, ?_⟩) ?_ ?_
        rotate_left
        · intro w'
          go_simp
          try with_reducible rfl
        rotate_left
        · simp only [Act.put, List.setIfInBounds_toArray, List.set_cons_zero, List.set_cons_succ]
          rfl
        refine pure_ (i := 22) (N := some 45) (v := ?_) (a' := ?_) #[true, true, true, true, true, true, true, true, true, true, true, true, true, true, true, true, true, true, true, true, true, true, true, false, false, false, false, false, false, false, false, false, false, false] rfl rfl (any_of HT_.out (by kernel_rfl)) (fun _ _ _ h => h) (Or.inl ⟨by rfl, ?_⟩) ?_ ?_
        rotate_left
        · intro w'
          go_simp
          try with_reducible rfl
        rotate_left
        · simp only [Act.put, List.setIfInBounds_toArray, List.set_cons_zero, List.set_cons_succ]
          rfl
        refine pure_ (i := 23) (N := some 46) (v := ?_) (a' := ?_) #[true, true, true, true, true, true, true, true, true, true, true, true, true, true, true, true, true, true, true, true, true, true, true, true, false, false, false, false, false, false, false, false, false, false] rfl rfl (any_of HT_.out (by kernel_rfl)) (fun _ _ _ h => h) (Or.inl ⟨by rfl, ?_⟩) ?_ ?_
        rotate_left
        · intro w'
          go_simp
          try with_reducible rfl
        rotate_left
        · simp only [Act.put, List.setIfInBounds_toArray, List.set_cons_zero, List.set_cons_succ]
          rfl
        refine take_ (i := 24) (N := some 47) (v := ?_) (a' := ?_) #[true, true, true, true, true, true, true, true, true, true, true, true, true, true, true, true, true, true, true, true, true, true, true, true, true, false, false, false, false, false, false, false, false, false] rfl rfl (take_of HT_.out (by kernel_rfl)) (fun _ _ _ h => h) (Or.inl ⟨by rfl, ?_⟩) hHeld ?_ ?_
        rotate_left
        · intro w' s0
          go_simp
          try with_reducible rfl
        rotate_left
        · simp only [Act.put, List.setIfInBounds_toArray, List.set_cons_zero, List.set_cons_succ]
          rfl
        refine pure_ (i := 25) (N := some 48) (v := ?_) (a' := ?_) #[true, true, true, true, true, true, true, true, true, true, true, true, true, true, true, true, true, true, true, true, true, true, true, true, true, true, false, false, false, false, false, false, false, false] rfl rfl (any_of HT_.out (by kernel_rfl)) (fun _ _ _ h => h) (Or.inl ⟨by rfl, ?_⟩) ?_ ?_
        rotate_left
        · intro w'
          go_simp
          try with_reducible rfl
        rotate_left
        · simp only [Act.put, List.setIfInBounds_toArray, List.set_cons_zero, List.set_cons_succ]
          rfl
        refine pure_ (i := 26) (N := some 49) (v := ?_) (a' := ?_) #[true, true, true, true, true, true, true, true, true, true, true, true, true, true, true, true, true, true, true, true, true, true, true, true, true, true, true, false, false, false, false, false, false, false] rfl rfl (any_of HT_.out (by kernel_rfl)) (fun _ _ _ h => h) (Or.inl ⟨by rfl, ?_⟩) ?_ ?_
        rotate_left
        · intro w'
          go_simp
          try with_reducible rfl
        rotate_left
        · simp only [Act.put, List.setIfInBounds_toArray, List.set_cons_zero, List.set_cons_succ]
          rfl
        refine pure_ (i := 27) (N := some 50) (v := ?_) (a' := ?_) #[true, true, true, true, true, true, true, true, true, true, true, true, true, true, true, true, true, true, true, true, true, true, true, true, true, true, true, true, false, false, false, false, false, false] rfl rfl (any_of HT_.out (by kernel_rfl)) (fun _ _ _ h => h) (Or.inl ⟨by rfl, ?_⟩) ?_ ?_
        rotate_left
        · intro w'
          go_simp
          try with_reducible rfl
        rotate_left
        · simp only [Act.put, List.setIfInBounds_toArray, List.set_cons_zero, List.set_cons_succ]
          rfl
        refine pure_ (i := 28) (N := some 51) (v := ?_) (a' := ?_) #[true, true, true, true, true, true, true, true, true, true, true, true, true, true, true, true, true, true, true, true, true, true, true, true, true, true, true, true, true, false, false, false, false, false] rfl rfl (any_of HT_.out (by kernel_rfl)) (fun _ _ _ h => h) (Or.inl ⟨by rfl, ?_⟩) ?_ ?_
        rotate_left
        · intro w'
          go_simp
          (try simp only [hsub, hwj]); (try with_reducible rfl)
        rotate_left
        · simp only [Act.put, List.setIfInBounds_toArray, List.set_cons_zero, List.set_cons_succ]
          rfl
        refine one_ (i := 29) (N := some 52) #[true, true, true, true, true, true, true, true, true, true, true, true, true, true, true, true, true, true, true, true, true, true, true, true, true, true, true, true, true, true, false, false, false, false] rfl rfl (one_of HT_.out (by kernel_rfl)) (by decide) (fun K hK => ?_)
        refine goes_ Tryz.func56 (by kernel_rfl) rfl #[.int .i64 (j : Int)] (by rfl) rfl rfl (by (try simp only [List.map_toArray, List.map_cons, List.map_nil]); first | done | rfl) ?_
        with_reducible refine (HNt.out _ hb0).mono ?_
        rintro ev w2 ⟨rfl, hb2⟩
        refine ⟨_, rfl, ?_⟩
        refine hK.out _ _ (kept_cell' C1.out hb2) (fun hHeld => ?_)
        clear hK K
        refine norm_ (a' := ?_) ?_ ?_
        rotate_left
        · show Act.put _ (some 52) _ = _
          simp only [Act.put, List.setIfInBounds_toArray, List.set_cons_zero, List.set_cons_succ]
          rfl
        refine pure_ (i := 30) (N := some 53) (v := ?_) (a' := ?_) #[true, true, true, true, true, true, true, true, true, true, true, true, true, true, true, true, true, true, true, true, true, true, true, true, true, true, true, true, true, true, true, false, false, false] rfl rfl (any_of HT_.out (by kernel_rfl)) (fun _ _ _ h => h) (Or.inl ⟨by rfl, ?_⟩) ?_ ?_
        rotate_left
        · intro w'
          go_simp
          try with_reducible rfl
        rotate_left
        · simp only [Act.put, List.setIfInBounds_toArray, List.set_cons_zero, List.set_cons_succ]
          rfl
        refine pure_ (i := 31) (N := some 54) (v := ?_) (a' := ?_) #[true, true, true, true, true, true, true, true, true, true, true, true, true, true, true, true, true, true, true, true, true, true, true, true, true, true, true, true, true, true, true, true, false, false] rfl rfl (any_of HT_.out (by kernel_rfl)) (fun _ _ _ h => h) (Or.inl ⟨by rfl, ?_⟩) ?_ ?_
        rotate_left
        · intro w'
          go_simp
          try with_reducible rfl
        rotate_left
        · simp only [Act.put, List.setIfInBounds_toArray, List.set_cons_zero, List.set_cons_succ]
          rfl
        refine pure_ (i := 32) (N := some 55) (v := ?_) (a' := ?_) #[true, true, true, true, true, true, true, true, true, true, true, true, true, true, true, true, true, true, true, true, true, true, true, true, true, true, true, true, true, true, true, true, true, false] rfl rfl (any_of HT_.out (by kernel_rfl)) (fun _ _ _ h => h) (Or.inl ⟨by rfl, ?_⟩) ?_ ?_
        rotate_left
        · intro w'
          go_simp
          try with_reducible rfl
        rotate_left
        · simp only [Act.put, List.setIfInBounds_toArray, List.set_cons_zero, List.set_cons_succ]
          rfl
        refine pure_ (i := 33) (N := some 56) (v := ?_) (a' := ?_) #[true, true, true, true, true, true, true, true, true, true, true, true, true, true, true, true, true, true, true, true, true, true, true, true, true, true, true, true, true, true, true, true, true, true] rfl rfl (any_of HT_.out (by kernel_rfl)) (fun _ _ _ h => h) (Or.inl ⟨by rfl, ?_⟩) ?_ ?_
        rotate_left
        · intro w'
          go_simp
          try with_reducible rfl
        rotate_left
        · simp only [Act.put, List.setIfInBounds_toArray, List.set_cons_zero, List.set_cons_succ]
          rfl
        refine done_ (done_of HT_.out (by kernel_rfl)) ?_
        -- END REGION
        go_wp2_with fail
        exact ⟨⟨k + 1, by omega, by go_num, Lib.hid (HB.out.trans (hb2.mono HB.out.size))⟩, by simp [intOf]; omega⟩
      · obtain rfl : k = r.length + 9 := by omega
        go_wp2
        go_ret
        exact ⟨rfl, HB.out⟩
end Go.Proofs.YtappphffbnkloaaGreatDoor.Sht
set_option linter.unusedVariables false
set_option linter.unusedSimpArgs false
namespace Go.Proofs.YtappphffbnkloaaGreatDoor.Sht
open Go Go.RowKit Go.Proofs.YtappphffbnkloaaGreatDoorW.PrintWords Go.Proofs.YtappphffbnkloaaGreatDoor.GS
attribute [local go_sem ↓] Go.wp_at_zero Go.wp_at_succ
/-- append(out, one row) -/
theorem wpList_append_one {w : World} {ops : Array Oper} {rest : List Oper} {o : Oper} {a : Act} {Q : Exit → Act → World → Prop} (hgd : o.guard = none) (s x : Operand)
    (ho : o.op = .call { callee := .builtin .append, args := #[s, x], argTypes := #[30, 30] }) (base : Nat) (v : Value) (n : Nat) (xs : List Value) (u : Value) (hu : u.oneCell' = true) (hs : a.eval s = v) (hown : w.ownsRow base 28 1 v n xs)
    (hx : a.eval x = .slice (some ⟨w.heap.size, 0, none⟩) 1 1) (hb : (n + 1) * 24 ≤ 140737488355328) (hbase : base ≤ w.heap.size)
    (h : ∀ v' w', w'.ownsRow base 28 1 v' (n + 1) (xs ++ [u]) → (w.alloc (.cells #[u] 28)).grownBy w' v.ownBlock → wpList Tryz.prog ops Q rest (a.put o.dst v') w') : wpList Tryz.prog ops Q (o :: rest) a (w.alloc (.cells #[u] 28)) := by
  obtain ⟨i0, hi, hz0, hz1, hz2⟩ := info_parts info28
  exact wpList_append_own (w.alloc (.cells #[u] 28)) hgd s x 30 ho base 28 i0 _ 1 24 Tryz.underlying30 hi hz0 hz1 hz2 rfl (by decide) v n xs hs (hown.alloc _) ⟨w.heap.size, 0, none⟩ 1 1 [u] hx rfl
    (fun j q hj => by
      match j, hj with
      | 0, hj => simp at hj; subst hj; simp [Addr.add])
    (fun q hq => by simp at hq; subst hq; exact hu) (by unfold maxLen; omega) hb (by simp; omega) (fun v' w' q1 q2 _ => h v' w' q1 q2)
theorem own_mono {w : World} {B B' : Nat} {e : TypeId} {v : Value} {n : Nat} {xs : List Value} (h : w.ownsRow B e 1 v n xs) (k : B' ≤ B) : w.ownsRow B' e 1 v n xs := by
  obtain ⟨h1, h2 | ⟨g, cap, cur, hv, hg, q⟩⟩ := h
  · exact ⟨h1, .inl h2⟩
  · exact ⟨h1, .inr ⟨g, cap, cur, hv, Nat.le_trans k hg, q⟩⟩
theorem lrow_mono {w : World} {B B' : Nat} {u : Value} {r : List (List UInt8)} (h : Lrow w B u r) (k : B' ≤ B) : Lrow w B' u r := by
  obtain ⟨g, cap, rfl, ho⟩ := h
  exact ⟨g, cap, rfl, own_mono ho k⟩
theorem lrow_block {w : World} {B : Nat} {u : Value} {r : List (List UInt8)} (h : Lrow w B u r) : ∃ g cs, B ≤ g ∧ w.heap[g]? = some (.cells cs 9 (0, 0)) ∧ ∀ w' : World, w'.heap[g]? = w.heap[g]? → Lrow w' B u r := by
  obtain ⟨g, cap, rfl, ho⟩ := h
  have ho' := ho
  obtain ⟨h1, ⟨e, _⟩ | ⟨g', cap', cur, hv, hg, hh, q⟩⟩ := ho'
  · cases e
  · cases hv
    exact ⟨g, cur, hg, hh, fun w' k => ⟨g, cap, rfl, ownsRow_kept ho fun j hj => by cases hj; exact k⟩⟩
def Nrow (w : World) (B : Nat) (u : Value) (i : Nat) : Prop := ∃ g, u = .slice (some ⟨g, 0, none⟩) 1 1 ∧ B ≤ g ∧ w.heap[g]? = some (.cells #[.string (noteB i)] 9 (0, 0))
def Lent1 (w : World) (B : Nat) (rs : Rows) (k : Nat) (vs : List Value) : Prop := vs.length = k ∧ ∀ i (h : i < rs.length), i < k → ∃ u, vs[i]? = some u ∧ Lrow w B u rs[i]
def Not1 (w : World) (B m : Nat) (ex : List Value) : Prop := ex.length = m ∧ ∀ i, i < m → ∃ u, ex[i]? = some u ∧ Nrow w B u i
/-- the blocks of texts are as they were -/
def Keep9 (B : Nat) (w w' : World) : Prop := ∀ g cs, B ≤ g → w.heap[g]? = some (.cells cs 9 (0, 0)) → w'.heap[g]? = w.heap[g]?
theorem Lent1.keep {w w' : World} {B : Nat} {rs : Rows} {k : Nat} {vs : List Value} (h : Lent1 w B rs k vs) (hk : Keep9 B w w') : Lent1 w' B rs k vs := ⟨h.1, fun i hi hik => by
  obtain ⟨u, h1, h2⟩ := h.2 i hi hik
  obtain ⟨g, cs, hg, hh, q⟩ := lrow_block h2
  exact ⟨u, h1, q w' (hk g cs hg hh)⟩⟩
theorem Not1.keep {w w' : World} {B m : Nat} {ex : List Value} (h : Not1 w B m ex) (hk : Keep9 B w w') : Not1 w' B m ex := ⟨h.1, fun i hi => by
  obtain ⟨u, h1, g, rfl, hg, hh⟩ := h.2 i hi
  exact ⟨_, h1, g, rfl, hg, (hk g _ hg hh).trans hh⟩⟩
theorem Keep9.below {B : Nat} {w w' : World} (h : Below w.heap.size w w') : Keep9 B w w' := fun g cs _ hh => h.block g (blt hh)
theorem Keep9.grown {B B0 : Nat} {w w' : World} {o : Obj} {v : Value} {n : Nat} {xs : List Value} (hv : w.ownsRow B0 28 1 v n xs) (hg : (w.alloc o).grownBy w' v.ownBlock) : Keep9 B w w' := fun g cs _ hh => by
  have h1 : (w.alloc o).heap[g]? = w.heap[g]? := ((Below.refl w.heap.size w).alloc (Nat.le_refl _) o).block g (blt hh)
  refine (hg.block g (by simp; have := blt hh; omega) fun e => ?_).trans h1
  obtain ⟨cs', hc'⟩ := kind_row hv g e.symm
  rw [hh] at hc'
  have := (Obj.cells.inj (Option.some.inj hc')).2.1
  revert this
  decide
theorem Keep9.trans {B : Nat} {a b c : World} (h : Keep9 B a b) (k : Keep9 B b c) : Keep9 B a c := fun g cs hB hh => by
  have := h g cs hB hh
  exact (k g cs hB (this.trans hh)).trans this
theorem Lent1.snoc {w : World} {B : Nat} {rs : Rows} {k : Nat} {vs : List Value} {u : Value} (h : Lent1 w B rs k vs) (hk : k < rs.length) (hu : Lrow w B u rs[k]) : Lent1 w B rs (k + 1) (vs ++ [u]) := by
  refine ⟨by rw [List.length_append, h.1]; rfl, fun i hi hik => ?_⟩
  by_cases e : i < k
  · obtain ⟨u0, h1, h2⟩ := h.2 i hi e
    exact ⟨u0, by rw [List.getElem?_append_left (by rw [h.1]; exact e)]; exact h1, h2⟩
  · obtain rfl : i = k := by omega
    exact ⟨u, by rw [List.getElem?_append_right (by rw [h.1]; exact Nat.le_refl _), h.1, Nat.sub_self]; rfl, hu⟩
theorem Not1.snoc {w : World} {B m : Nat} {ex : List Value} {u : Value} (h : Not1 w B m ex) (hu : Nrow w B u m) : Not1 w B (m + 1) (ex ++ [u]) := by
  refine ⟨by rw [List.length_append, h.1]; rfl, fun i hi => ?_⟩
  by_cases e : i < m
  · obtain ⟨u0, h1, h2⟩ := h.2 i e
    exact ⟨u0, by rw [List.getElem?_append_left (by rw [h.1]; exact e)]; exact h1, h2⟩
  · obtain rfl : i = m := by omega
    exact ⟨u, by rw [List.getElem?_append_right (by rw [h.1]; exact Nat.le_refl _), h.1, Nat.sub_self]; rfl, hu⟩
/-- what LentRows leaves -/
def LentR (w : World) (B : Nat) (v : Value) (rs : Rows) : Prop := ∃ g cap vs ex, v = .slice (some ⟨g, 0, none⟩) rs.length cap ∧ w.ownsRow B 28 1 (.slice (some ⟨g, 0, none⟩) (rs.length + 9) cap) (rs.length + 9) (vs ++ ex) ∧ Lent1 w B rs rs.length vs ∧ Not1 w B 9 ex
set_option maxHeartbeats 1000000 in
set_option maxRecDepth 100000 in
theorem lentRows_r (rs : Rows) (v : Value) (w : World) (h : RowsN w v rs) (hsz : rs.length * 24 ≤ 140737488351232) (hrz : ∀ r ∈ rs, r.length * 16 ≤ 140737488351232) : Calls Tryz.prog 19 #[v] w fun e w' => ∃ v', e = .returned v' ∧ LentR w' w.heap.size v' rs ∧ Below w.heap.size w w' := by
  obtain ⟨x, cap, rfl, hlen, hx⟩ := h
  have HX := Lib.hid hx
  have HZ := Lib.hid hrz
  clear hx hrz
  have n0 : (0 : Int) ≤ (rs.length : Int) := Int.natCast_nonneg _
  go_enter Tryz.func19, Tryz.ntmps19
  go_wp2
  go_loopw [3, 4] (fun v i wr => ∃ (k : Nat) (vs : List Value), k ≤ rs.length ∧ i = .int .i64 (k : Int) ∧ Hid (wr.ownsRow w.heap.size 28 1 v k vs) ∧ Hid (Lent1 wr w.heap.size rs k vs) ∧ Hid (Below w.heap.size w wr)) (fun _ i _ => rs.length - (intOf i).toNat)
  case atStart => exact ⟨0, [], Nat.zero_le _, rfl, Lib.hid (World.ownsRow_nil _ _ _ _), Lib.hid ⟨rfl, fun i _ h => absurd h (Nat.not_lt_zero _)⟩, Lib.hid (Below.refl _ _)⟩
  case round =>
    obtain ⟨k, vs, hk, rfl, HO, HL, HB⟩ := hrel
    by_cases hlt : k < rs.length
    · obtain ⟨a, u, rfl, hc, hrow, hnil⟩ := HX.out k hlt
      have c1 : wr.cell? (a.add k) = some u := kept_cell' hc HB.out
      have HRow := Lib.hid (hrow.below HB.out)
      have HNil := Lib.hid hnil
      have hz := HZ.out rs[k] (List.getElem_mem hlt)
      obtain ⟨r, hr⟩ : ∃ r, r = rs[k] := ⟨_, rfl⟩
      rw [← hr] at HRow hz
      have HRk := Lib.hid hr
      have k0 : (0 : Int) ≤ (k : Int) := Int.natCast_nonneg _
      have k1 : (k : Int) < (rs.length : Int) := by omega
      clear hc hrow hnil hr
      go_wp2_with (first
        | (go_at_call 55; (with_reducible refine (lentTexts_r r u _ HRow.out HNil.out hz).mono ?_); rintro e w2 ⟨u', rfl, hl, hb⟩; have HU := Lib.hid (lrow_mono hl HB.out.size); obtain ⟨g', cap', rfl, -⟩ := hl; have HB2 := Lib.hid (HB.out.trans (hb.mono HB.out.size)); have HO2 := Lib.hid (own_below HO.out hb); have HL2 := Lib.hid (HL.out.keep (Keep9.below hb)); clear hb)
        | (at_builtin; refine wpList_append_one (w := w2) rfl (.tmp 12) (.tmp 18) rfl w.heap.size _ _ _ (.slice (some ⟨g', 0, none⟩) r.length cap') rfl rfl HO2.out rfl (by omega) HB2.out.size ?_; intro v3 w3 hown hg; have HK := Lib.hid (Keep9.grown (B := w.heap.size) HO2.out hg); have HO3 := Lib.hid hown; have HB3 := Lib.hid ((HB2.out.alloc HB2.out.size _).grown hg (by simp; have := HB2.out.size; omega) (fun j hj => (HO2.out.lt j hj).1)); clear hown hg))
      go_roundw
      case rel =>
        refine ⟨k + 1, vs ++ [.slice (some ⟨g', 0, none⟩) r.length cap'], by omega, by go_num, HO3, Lib.hid ((HL2.out.keep HK.out).snoc hlt ?_), HB3⟩
        rw [← HRk.out]
        obtain ⟨g0, cs, hg, hh, q⟩ := lrow_block HU.out
        exact q _ (HK.out g0 cs hg hh)
      case measure => simp [intOf]; omega
    · obtain rfl : k = rs.length := by omega
      clear hlt
      go_wp2
      go_loopw [3, 5] (fun v i wr => ∃ (k : Nat) (ex : List Value), k ≤ 9 ∧ i = .int .i64 (k : Int) ∧ Hid (wr.ownsRow w.heap.size 28 1 v (rs.length + k) (vs ++ ex)) ∧ Hid (Lent1 wr w.heap.size rs rs.length vs) ∧ Hid (Not1 wr w.heap.size k ex) ∧ Hid (Below w.heap.size w wr)) (fun _ i _ => 9 - (intOf i).toNat)
      case atStart => exact ⟨0, [], by omega, rfl, Lib.hid (by simpa using HO.out), HL, Lib.hid ⟨rfl, fun i h => absurd h (Nat.not_lt_zero _)⟩, HB⟩
      case round =>
        clear HO HL HB
        obtain ⟨k, ex, hk, rfl, HO, HL, HN, HB⟩ := hrel
        by_cases hlt : k < 9
        · have HNt := Lib.hid (fun w1 => note_r k w1)
          have z2 := noteB_size k
          go_wp2_with (first
            | (go_at_call 56; (with_reducible refine (HNt.out _).mono ?_); rintro e w2 ⟨rfl, hb⟩; have HB2 := Lib.hid (HB.out.trans (hb.mono HB.out.size)); have HO2 := Lib.hid (own_below HO.out hb); have HL2 := Lib.hid (HL.out.keep (Keep9.below hb)); have HN2 := Lib.hid (HN.out.keep (Keep9.below hb)); clear hb)
            | (at_builtin; refine wpList_append_one (w := w2.alloc (.cells #[.string (noteB k)] 9)) rfl (.tmp 24) (.tmp 28) rfl w.heap.size _ _ _ (.slice (some ⟨w2.heap.size, 0, none⟩) 1 1) rfl rfl (HO2.out.alloc _) (by show Value.slice (some ⟨w2.heap.size + 1, 0, none⟩) 1 1 = _; simp) (by omega) (by simp; have := HB2.out.size; omega) ?_; intro v3 w3 hown hg; have HK := Lib.hid (Keep9.grown (B := w.heap.size) (HO2.out.alloc _) hg); have HO3 := Lib.hid hown; have HB3 := Lib.hid (((HB2.out.alloc HB2.out.size _).alloc (by simp; have := HB2.out.size; omega) _).grown hg (by simp; have := HB2.out.size; omega) (fun j hj => (HO2.out.lt j hj).1)); clear hown hg))
          go_roundw
          case rel =>
            have hk2 := (Keep9.below (B := w.heap.size) ((Below.refl w2.heap.size w2).alloc (Nat.le_refl _) (.cells #[.string (noteB k)] 9))).trans HK.out
            have hx : (w2.alloc (.cells #[.string (noteB k)] 9)).heap[w2.heap.size]? = some (.cells #[.string (noteB k)] 9 (0, 0)) := by show (w2.heap.push _)[w2.heap.size]? = _; simp
            refine ⟨k + 1, ex ++ [.slice (some ⟨w2.heap.size, 0, none⟩) 1 1], by omega, by go_num, Lib.hid (by rw [← List.append_assoc]; exact HO3.out), Lib.hid (HL2.out.keep hk2), Lib.hid ((HN2.out.keep hk2).snoc ⟨w2.heap.size, rfl, HB2.out.size, ?_⟩), HB3⟩
            exact (HK.out _ _ HB2.out.size hx).trans hx
          case measure => simp [intOf]; omega
        · obtain rfl : k = 9 := by omega
          obtain ⟨g, cap', rfl, h1, h2⟩ := own_slice HO.out (by omega)
          have n1 : (rs.length : Int) ≤ (cap' : Int) := by omega
          go_wp2
          go_ret
          exact ⟨_, rfl, ⟨g, cap', vs, ex, rfl, HO.out, HL.out, HN.out⟩, HB.out⟩
end Go.Proofs.YtappphffbnkloaaGreatDoor.Sht
set_option linter.unusedVariables false
set_option linter.unusedSimpArgs false
namespace Go.Proofs.YtappphffbnkloaaGreatDoor.Sht
open Go Go.RowKit Go.Proofs.YtappphffbnkloaaGreatDoorW.PrintWords Go.Proofs.YtappphffbnkloaaGreatDoor.GS
attribute [local go_sem ↓] Go.wp_at_zero Go.wp_at_succ
theorem named_r (gx i : Nat) (w : World) (hx : w.heap[gx]? = some (.cells #[.string (noteB i)] 9 (0, 0))) : Calls Tryz.prog 61 #[.slice (some ⟨gx, 0, none⟩) 1 1, .int .i64 (i : Int)] w fun e w' => e = .returned (.bool true) ∧ Below w.heap.size w w' := by
  refine larderref01_named.calls (some ⟨gx, 0, none⟩) 1 [noteB i] (i : Int) true w ⟨rfl, by simp, fun _ => ⟨_, rfl, fun j q hj => ⟨[.string q], rfl, rfl, fun m u hu => ?_⟩⟩⟩ (by simp) ?_
  · match j, hj with
    | 0, hj =>
      obtain rfl : noteB i = q := by simpa using hj
      match m, hu with
      | 0, hu =>
        obtain rfl : Value.string (noteB i) = u := by simpa using hu
        show w.cell? ⟨gx, 0, none⟩ = _
        simp [World.cell?, hx]
  · have e : larderref01_note.f (i : Int) = some (noteB i) := rfl
    unfold larderref01_named.f
    rw [e]
    simp [rdOf]
theorem LentR.below {w w' : World} {B : Nat} {v : Value} {rs : Rows} (h : LentR w B v rs) (k : Below w.heap.size w w') : LentR w' B v rs := by
  obtain ⟨g, cap, vs, ex, h1, h2, h3, h4⟩ := h
  exact ⟨g, cap, vs, ex, h1, own_below h2 k, h3.keep (Keep9.below k), h4.keep (Keep9.below k)⟩
theorem rowIn_lrow {w : World} {B : Nat} {u : Value} {r : List (List UInt8)} (h : Lrow w B u r) (hz : r.length ≤ 9223372036854775807) : RowIn w u r := by
  obtain ⟨g, cap, rfl, ho⟩ := h
  refine ⟨_, cap, rfl, hz, fun i hi => ⟨_, rfl, ?_⟩⟩
  have := ho.cells (g := g) rfl i (st r[i]) (by rw [List.getElem?_append_left (by rw [sts_len]; exact hi)]; simp [sts, hi])
  exact this
theorem rowsIn_lent {w : World} {B : Nat} {v : Value} {rs : Rows} (h : LentR w B v rs) (hz : rs.length ≤ 9223372036854775807) (hrz : ∀ r ∈ rs, r.length * 16 ≤ 140737488351232) : RowsIn w v rs := by
  obtain ⟨g, cap, vs, ex, rfl, h2, h3, h4⟩ := h
  refine ⟨_, cap, rfl, hz, fun i hi => ?_⟩
  obtain ⟨u, h5, h6⟩ := h3.2 i hi hi
  refine ⟨_, u, rfl, ?_, rowIn_lrow h6 (by have := hrz _ (List.getElem_mem hi); omega)⟩
  exact h2.cells (g := g) rfl i u (by rw [List.getElem?_append_left (by rw [h3.1]; exact hi)]; exact h5)
set_option maxHeartbeats 1000000 in
set_option maxRecDepth 100000 in
theorem keptRows_r (B : Nat) (rs : Rows) (u v : Value) (w : World) (hu : LentR w B u rs) (h : RowsN w v rs) (hsz : rs.length * 24 ≤ 140737488351232) (hrz : ∀ r ∈ rs, r.length * 16 ≤ 140737488351232) : Calls Tryz.prog 22 #[u, v] w fun e w' => e = .returned (.bool true) ∧ Below w.heap.size w w' := by
  obtain ⟨g, capg, vs, ex, rfl, ho, hL, hN⟩ := hu
  obtain ⟨x, cap, rfl, hlen, hx⟩ := h
  obtain ⟨g', cap', e, h1, h2⟩ := own_slice ho (by omega)
  obtain ⟨-, -, rfl⟩ : True ∧ True ∧ cap' = capg := by cases e; exact ⟨trivial, trivial, rfl⟩
  have hcell : ∀ j u, (vs ++ ex)[j]? = some u → w.cell? ⟨g, j, none⟩ = some u := fun j u hj => by
    have := ho.cells (g := g) rfl j u hj
    rwa [Lib.add_plain, Nat.zero_add] at this
  have HC := Lib.hid hcell
  have HX := Lib.hid hx
  have HL := Lib.hid hL
  have HN := Lib.hid hN
  have HZ := Lib.hid hrz
  clear ho e hcell hx hL hN hrz
  have n0 : (0 : Int) ≤ (rs.length : Int) + 9 := by omega
  have n1 : (rs.length : Int) + 9 ≤ (cap' : Int) := by omega
  go_enter Tryz.func22, Tryz.ntmps22
  go_wp2
  go_loopw [5] (fun i wr => ∃ k : Nat, k ≤ rs.length ∧ i = .int .i64 (k : Int) ∧ Hid (Below w.heap.size w wr)) (fun i _ => rs.length - (intOf i).toNat)
  case atStart => exact ⟨0, Nat.zero_le _, rfl, Lib.hid (Below.refl _ _)⟩
  case round =>
    obtain ⟨k, hk, rfl, HB⟩ := hrel
    by_cases hlt : k < rs.length
    · obtain ⟨a, u2, rfl, hc, hrow, hnil⟩ := HX.out k hlt
      obtain ⟨u1, hu1, hl1⟩ := HL.out.2 k hlt hlt
      have C1 := Lib.hid (kept_cell' (HC.out k u1 (by rw [List.getElem?_append_left (by rw [HL.out.1]; exact hlt)]; exact hu1)) HB.out)
      have C2 := Lib.hid (kept_cell' hc HB.out)
      have hz := HZ.out rs[k] (List.getElem_mem hlt)
      have HT : Hid (∀ w1, Below wr.heap.size wr w1 → Calls Tryz.prog 60 #[u1, u2] w1 fun ev w' => ev = .returned (.bool true) ∧ Below wr.heap.size wr w') := Lib.hid fun w1 b => (keptTexts_r B rs[k] u1 u2 w1 (by obtain ⟨g0, cs, _, hh, q⟩ := lrow_block hl1; exact q w1 (((HB.out.trans (b.mono HB.out.size)).block g0 (blt hh)))) (hrow.below (HB.out.trans (b.mono HB.out.size))) hz).mono fun _ _ q => ⟨q.1, b.trans (q.2.mono b.size)⟩
      have k0 : (0 : Int) ≤ (k : Int) := Int.natCast_nonneg _
      have k1 : (k : Int) < (rs.length : Int) := by omega
      have hb0 : Below wr.heap.size wr wr.drew := (Below.refl _ _).drew
      clear hc hrow hnil hu1 hl1 hz
      go_wp2_with fail
      go_region_held3 (fun w' => w'.cell? ⟨g, k, none⟩ = some u1 ∧ w'.cell? (a.add k) = some u2) (exact ⟨kept_cell' C1.out (by assumption), kept_cell' C2.out (by assumption)⟩) (first | (go_at_call 60; (with_reducible refine (HT.out _ (by assumption)).mono ?_); rintro ev w2 ⟨rfl, hb2⟩))
      go_wp2_with fail
      go_roundw
      case rel => exact ⟨k + 1, by omega, by go_num, Lib.hid (HB.out.trans (hb2.mono HB.out.size))⟩
      case measure => simp [intOf]; omega
    · obtain rfl : k = rs.length := by omega
      clear hlt
      go_wp2
      go_loopw [7] (fun i wr => ∃ k : Nat, k ≤ 9 ∧ i = .int .i64 (k : Int) ∧ Hid (Below w.heap.size w wr)) (fun i _ => 9 - (intOf i).toNat)
      case atStart => exact ⟨0, by omega, rfl, HB⟩
      case round =>
        clear HB
        obtain ⟨k, hk, rfl, HB⟩ := hrel
        by_cases hlt : k < 9
        · obtain ⟨u1, hu1, gx, rfl, hgx, hh⟩ := HN.out.2 k hlt
          have c1 : wr.cell? ⟨g, rs.length + k, none⟩ = some (.slice (some ⟨gx, 0, none⟩) 1 1) := kept_cell' (HC.out (rs.length + k) _ (by rw [List.getElem?_append_right (by rw [HL.out.1]; omega), HL.out.1, Nat.add_sub_cancel_left]; exact hu1)) HB.out
          have HT : Hid (∀ w1, Below wr.heap.size wr w1 → Calls Tryz.prog 61 #[.slice (some ⟨gx, 0, none⟩) 1 1, .int .i64 (k : Int)] w1 fun ev w' => ev = .returned (.bool true) ∧ Below wr.heap.size wr w') := Lib.hid fun w1 b => (named_r gx k w1 (((HB.out.trans (b.mono HB.out.size)).block gx (blt hh)).trans hh)).mono fun _ _ q => ⟨q.1, b.trans (q.2.mono b.size)⟩
          have k0 : (0 : Int) ≤ (rs.length : Int) + (k : Int) := by omega
          have k1 : (rs.length : Int) + (k : Int) < (rs.length : Int) + 9 := by omega
          have k2 : rs.length + k < rs.length + 9 := by omega
          clear hu1 hgx hh
          go_wp2_with (first | (go_at_call 61; (with_reducible refine (HT.out _ ?_).mono ?_); exact Below.refl _ _; rintro ev w2 ⟨rfl, hb2⟩))
          go_roundw
          case rel => exact ⟨k + 1, by omega, by go_num, Lib.hid (HB.out.trans (hb2.mono HB.out.size))⟩
          case measure => simp [intOf]; omega
        · obtain rfl : k = 9 := by omega
          go_wp2
          go_ret
          exact ⟨rfl, HB.out⟩
end Go.Proofs.YtappphffbnkloaaGreatDoor.Sht
set_option linter.unusedVariables false
set_option linter.unusedSimpArgs false
namespace Go.Proofs.YtappphffbnkloaaGreatDoor.Sht
open Go Go.RowKit Go.Proofs.YtappphffbnkloaaGreatDoorW.PrintWords Go.Proofs.YtappphffbnkloaaGreatDoor.GS
attribute [local go_sem ↓] Go.wp_at_zero Go.wp_at_succ
theorem RowsN.below {w w' : World} {v : Value} {rs : Rows} (h : RowsN w v rs) (k : Below w.heap.size w w') : RowsN w' v rs := by
  obtain ⟨x, cap, h1, h2, h3⟩ := h
  refine ⟨x, cap, h1, h2, fun i hi => ?_⟩
  obtain ⟨a, u, q1, q2, q3, q4⟩ := h3 i hi
  exact ⟨a, u, q1, kept_cell' q2 k, q3.below k, q4⟩
theorem coded_factsN {e : Nat} (h : coded e) : 1 ≤ e ∧ e ≤ 20 ∧ e ≠ 16 ∧ e ≠ 17 := by unfold coded at h; omega
set_option maxHeartbeats 8000000 in
set_option maxRecDepth 100000 in
theorem sheetPrints_calls {A : Nat → Addr} (w : World) (hS : SG w A) (hE : ET w) (hM : ML w) (hT : Lib.TabIs Tryz.prog w "internal/strconv.uint64pow10" .u64 Lib.pow10Tab) (rs : Rows) (v : Value) (hn : RowsN w v rs) (hc : RowsC w v rs) (hsz : rs.length * 24 ≤ 140737488351232) (hrz : ∀ r ∈ rs, r.length * 16 ≤ 140737488351232) :
    Calls Tryz.prog 4 #[v] w fun e w' => e = .returned (.bool true) ∧ Below w.heap.size w w' := by
  obtain ⟨K, hK⟩ := refPrint rs (by omega) (fun r hr => by have := hrz r hr; omega)
  have hK := hK K (Nat.le_refl _)
  have HLn := Lib.hid (lentRows_r rs v w hn hsz hrz)
  have HPr : Hid (∀ w1 v1, Below w.heap.size w w1 → LentR w1 w.heap.size v1 rs → Calls Tryz.prog 20 #[v1] w1 (Prt A w1 (printO rs))) := Lib.hid fun w1 v1 k hl => print_r A rs v1 w1 (hS.sf.below k) (rowsIn_lent hl (by omega) hrz) (hM.below k hM.lt)
  have HKp : Hid (∀ w1 v1, Below w.heap.size w w1 → LentR w1 w.heap.size v1 rs → Calls Tryz.prog 22 #[v1, v] w1 fun e w' => e = .returned (.bool true) ∧ Below w1.heap.size w1 w') := Lib.hid fun w1 v1 k hl => keptRows_r w.heap.size rs v1 v w1 hl (hn.below k) hsz hrz
  have HI := Lib.hid (it_of_tab w hT)
  have HS := Lib.hid hS
  have HE := Lib.hid hE
  obtain ⟨x, cap, rfl, hcap, hC⟩ := hc
  have HC := Lib.hid hC
  obtain ⟨T, hTx⟩ : ∃ T, T = tx (printO rs).1 := ⟨_, rfl⟩
  have hPT : ∀ w1 e w2, Prt A w1 (printO rs) e w2 → ∃ ve, e = .returned (.tuple #[.string T, ve]) ∧ FaultAt w2 w1.heap.size A ve (printO rs).2 ∧ Below w1.heap.size w1 w2 := fun w1 e w2 h => by rw [hTx]; exact h
  have HPT := Lib.hid hPT
  cases hp : (printO rs).2 with
  | none =>
    have hK2 : larderref04_Print.f K (rws rs) = some (T, 0, 0, 0, 0, 0) := hK.trans (by rw [hTx]; unfold pq; rw [hp]; rfl)
    have HR := Lib.hid (fun w' h => larderref04_Print.calls K x cap (rws rs) _ _ _ _ _ _ w' h hcap hK2)
    have Hp := Lib.hid hp
    clear hK2 hK hS hE hM hn hC hp hTx hPT hT hrz
    go_enter Tryz.func4, Tryz.ntmps4
    go_wp2_with (first
      | (go_at_call 19; (with_reducible refine HLn.out.mono ?_); rintro e w1 ⟨v1, rfl, hl, hb⟩; have HL1 := Lib.hid hl; have HB1 := Lib.hid hb; clear hl hb)
      | (go_at_call 20; (with_reducible refine (HPr.out _ _ HB1.out HL1.out).mono ?_); intro e w2 h2; obtain ⟨ve, rfl, hf, hb⟩ := HPT.out _ _ _ h2; rw [Hp.out] at hf; obtain rfl : ve = .nilIface := hf; have HL2 := Lib.hid (HL1.out.below hb); have HB2 := Lib.hid (HB1.out.trans (hb.mono HB1.out.size)); clear hb h2)
      | (go_at_call 21; (with_reducible refine (HR.out _ (Kd.C_below HC.out HB2.out)).mono ?_); rintro e w3 ⟨rfl, hb⟩; have HL3 := Lib.hid (HL2.out.below hb); have HB3 := Lib.hid (HB2.out.trans (hb.mono HB2.out.size)); clear hb)
      | (go_at_call 11; (with_reducible refine (said_none 0 0 0 0 _).mono ?_); rintro e w4 ⟨rfl, hb⟩; have hb4 := ((Below.refl _ w3).alloc (Nat.le_refl _) _).trans (hb.mono (by simp)); have HL4 := Lib.hid (HL3.out.below hb4); have HB4 := Lib.hid (HB3.out.trans (hb4.mono HB3.out.size)); clear hb hb4)
      | (go_at_call 22; (with_reducible refine (HKp.out _ _ HB4.out HL4.out).mono ?_); rintro e w5 ⟨rfl, hb⟩; have HB5 := Lib.hid (HB4.out.trans (hb.mono HB4.out.size)); clear hb))
    go_ret
    exact ⟨rfl, HB5.out⟩
  | some f =>
    obtain ⟨l, c, e⟩ := f
    obtain ⟨he0, hl1, hc1, hcd⟩ := print_coded rs l c e hp
    have hK2 : larderref04_Print.f K (rws rs) = some (T, (e : Int), (l : Int), (c : Int), 0, 0) := hK.trans (by rw [hTx]; unfold pq; rw [hp]; rfl)
    have HR := Lib.hid (fun w' h => larderref04_Print.calls K x cap (rws rs) _ _ _ _ _ _ w' h hcap hK2)
    have Hp := Lib.hid hp
    have HCd := Lib.hid (coded_factsN hcd)
    have H4 : Hid (l ≤ 4611686018427387904) := Lib.hid (by omega)
    have H5 : Hid (c ≤ 4611686018427387904) := Lib.hid (by omega)
    clear hK2 hK hS hE hM hn hC hp hTx hPT hT hrz he0 hl1 hc1 hcd
    go_enter Tryz.func4, Tryz.ntmps4
    go_wp2_with (first
      | (go_at_call 19; (with_reducible refine HLn.out.mono ?_); rintro ev w1 ⟨v1, rfl, hl, hb⟩; have HL1 := Lib.hid hl; have HB1 := Lib.hid hb; clear hl hb)
      | (go_at_call 20; (with_reducible refine (HPr.out _ _ HB1.out HL1.out).mono ?_); intro ev w2 h2; obtain ⟨ve, rfl, hf, hb⟩ := HPT.out _ _ _ h2; rw [Hp.out] at hf; obtain ⟨-, g, -, rfl, hgc⟩ := hf; have HGc := Lib.hid hgc; have HL2 := Lib.hid (HL1.out.below hb); have HB2 := Lib.hid (HB1.out.trans (hb.mono HB1.out.size)); clear hb h2 hgc)
      | (go_at_call 21; (with_reducible refine (HR.out _ (Kd.C_below HC.out HB2.out)).mono ?_); rintro ev w3 ⟨rfl, hb⟩; have HL3 := Lib.hid (HL2.out.below hb); have HB23 := Lib.hid hb; clear hb)
      | (go_at_call 11; have HK := Lib.hid (HB23.out.trans (((Below.refl _ w3).alloc (Nat.le_refl _) (.cells #[.int .i64 (e : Int), .int .i64 (l : Int), .int .i64 (c : Int), .int .i64 0, .int .i64 0] 46)).mono HB23.out.size)); have HK0 := Lib.hid (HB2.out.trans (HK.out.mono HB2.out.size)); (with_reducible refine (said_some A numeral _ _ _ _ _ _ (HS.out.below HK0.out) (HE.out.below HK0.out) (HI.out.below HK0.out) HCd.out.1 HCd.out.2.1 HCd.out.2.2.1 HCd.out.2.2.2 H4.out H5.out digits_eq ((HK.out.block _ (blt HGc.out)).trans HGc.out)).mono ?_); rintro ev w4 ⟨rfl, hb⟩; have hb4 := ((Below.refl _ w3).alloc (Nat.le_refl _) _).trans (hb.mono (by simp)); have HL4 := Lib.hid (HL3.out.below hb4); have HB4 := Lib.hid (HB2.out.trans ((HB23.out.trans (hb4.mono HB23.out.size)).mono HB2.out.size)); clear hb hb4)
      | (go_at_call 22; (with_reducible refine (HKp.out _ _ HB4.out HL4.out).mono ?_); rintro ev w5 ⟨rfl, hb⟩; have HB5 := Lib.hid (HB4.out.trans (hb.mono HB4.out.size)); clear hb))
    go_ret
    exact ⟨rfl, HB5.out⟩
end Go.Proofs.YtappphffbnkloaaGreatDoor.Sht

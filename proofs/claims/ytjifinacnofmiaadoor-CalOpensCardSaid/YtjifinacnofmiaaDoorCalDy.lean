/- The law's days: days of one parity, rising. -/
import Derived.Test.YtjifinacnofmiaaDoorCalBel
import Derived.Test.YtjifinacnofmiaaDoorCalAtP
import Derived.Test.YtjifinacnofmiaaDoorGCxf10
import Derived.Maps.AppendAt
import Derived.Deep.AppendLies
import Derived.OwnWalk
set_option linter.unusedVariables false
set_option linter.unusedSimpArgs false
namespace Go.Proofs.YtjifinacnofmiaaDoor.Ext
open Go Go.RowKit Go.Proofs.YtjifinacnofmiaaDoorW.PrintWords Go.Proofs.YtjifinacnofmiaaDoorW.PrintLast Go.Proofs.YtjifinacnofmiaaDoor.PCal Go.Proofs.YtjifinacnofmiaaDoor.GC Go.Proofs.YtjifinacnofmiaaDoor.CalP
/-- a list of whole numbers in memory -/
def NL (w : World) (x : Option Addr) (zs : List Int) : Prop := zs.length ≤ 4611686018427387904 ∧ (∀ z ∈ zs, -9223372036854775808 ≤ z ∧ z ≤ 9223372036854775807) ∧ ∀ i (h : i < zs.length), ∃ ad : Addr, x = some ad ∧ w.cell? (ad.add i) = some (.int .i64 zs[i])
theorem NL.below {w w' : World} {x : Option Addr} {zs : List Int} (h : NL w x zs) (k : Below w.heap.size w w') : NL w' x zs :=
  ⟨h.1, h.2.1, fun i hi => by obtain ⟨ad, e, c⟩ := h.2.2 i hi; exact ⟨ad, e, cellB c k⟩⟩
theorem at_r (n : Int) (h0 : 0 ≤ n) (h1 : n ≤ 3652424) (w : World) (hG : GlobOk w) : Calls Tryd.prog 10 #[.int .i64 n] w fun e w' => e = .returned (vd (dt n)) ∧ Below w.heap.size w w' := by
  obtain ⟨p1, p2⟩ := dt_spec h0 h1
  have := at_eq 30000 (Nat.le_refl _) p1
  rw [p2] at this
  exact larderlaw03_at.calls 30000 n (dt n).1 (dt n).2.1 (dt n).2.2 w hG this
theorem within_r (z lo hi : Int) (hz : -9223372036854775808 ≤ z ∧ z ≤ 9223372036854775807) (h0 : 0 ≤ lo) (h1 : lo ≤ hi) (h2 : hi ≤ 1000000000000) : ∃ v, lo ≤ v ∧ v ≤ hi ∧ ∀ w, Calls Tryd.prog 8 #[.int .i64 z, .int .i64 lo, .int .i64 hi] w fun e w' => e = .returned (.int .i64 v) ∧ Below w.heap.size w w' := by
  obtain ⟨v, hv, a, b⟩ := within_eq z lo hi hz h0 h1 h2
  exact ⟨v, a, b, fun w => (larderlaw03_within.calls z lo hi v w hv).mono fun _ _ q => ⟨q.1, q.2.below⟩⟩
/-- the table of the days that are drawn -/
def Inn (w : World) (ib : Nat) (odd : Int) : Prop := ∃ cs : Array Value, w.heap[ib]? = some (.cells cs 57 (0, 0)) ∧ cs.size = 2000 ∧ ∀ j : Nat, j < 2000 → ∃ b : Bool, cs[j]? = some (Value.bool b) ∧ (b = true → (j : Int) % 2 = odd)
theorem Inn.below {w w' : World} {ib : Nat} {odd : Int} (h : Inn w ib odd) (k : Below w.heap.size w w') : Inn w' ib odd := by
  obtain ⟨cs, h1, h2⟩ := h
  exact ⟨cs, (k.block ib (Array.getElem?_eq_some_iff.1 h1).1).trans h1, h2⟩
theorem Inn.grown {w w' : World} {ib : Nat} {odd : Int} {row : Option Nat} (h : Inn w ib odd) (k : w.grownBy w' row) (hr : ∀ r, row = some r → ib < r) : Inn w' ib odd := by
  obtain ⟨cs, h1, h2⟩ := h
  exact ⟨cs, (k.block ib (Array.getElem?_eq_some_iff.1 h1).1 (fun e => by have := hr ib e.symm; omega)).trans h1, h2⟩
theorem Inn.free {w : World} {ib : Nat} {odd : Int} (h : Inn w ib odd) (n : Nat) : w.frozen? ⟨ib, n, none⟩ = false := by
  obtain ⟨cs, h1, _⟩ := h
  simp [World.frozen?, h1]
theorem Inn.set {w : World} {ib : Nat} {odd : Int} (h : Inn w ib odd) (n : Nat) (hn : (n : Int) % 2 = odd) (hn2 : n < 2000) : Inn (w.setCell ⟨ib, n, none⟩ (.bool true)) ib odd := by
  obtain ⟨cs, h1, h2, h3⟩ := h
  refine ⟨cs.setIfInBounds n (.bool true), ?_, by simpa using h2, fun j hj => ?_⟩
  · simp only [World.setCell]
    rw [Array.getElem?_modify, if_pos rfl, h1]
    rfl
  · by_cases e : n = j
    · subst e
      exact ⟨true, by rw [Array.getElem?_setIfInBounds_self]; simp [h2, hj], fun _ => hn⟩
    · rw [Array.getElem?_setIfInBounds_ne e]
      exact h3 j hj
theorem Inn.cell {w : World} {ib : Nat} {odd : Int} (h : Inn w ib odd) (j : Nat) (hj : j < 2000) : ∃ b : Bool, w.cell? ⟨ib, j, none⟩ = some (.bool b) ∧ (b = true → (j : Int) % 2 = odd) := by
  obtain ⟨cs, h1, h2, h3⟩ := h
  obtain ⟨b, e, p⟩ := h3 j hj
  exact ⟨b, by rw [cell_of_row _ _ _ _ _ _ h1]; exact e, p⟩
def dcells (l : List Int) : List Value := l.flatMap fun x => [.int .i64 (dt x).1, .int .i64 (dt x).2.1, .int .i64 (dt x).2.2]
theorem dcells_snoc (l : List Int) (x : Int) : dcells (l ++ [x]) = dcells l ++ [.int .i64 (dt x).1, .int .i64 (dt x).2.1, .int .i64 (dt x).2.2] := by simp [dcells]
theorem dcells_at (l : List Int) : ∀ i (h : i < l.length), (dcells l)[i * 3]? = some (.int .i64 (dt l[i]).1) ∧ (dcells l)[i * 3 + 1]? = some (.int .i64 (dt l[i]).2.1) ∧ (dcells l)[i * 3 + 2]? = some (.int .i64 (dt l[i]).2.2) := by
  induction l with
  | nil => intro i h; exact absurd h (by simp)
  | cons x l ih =>
    intro i h
    have e : dcells (x :: l) = .int .i64 (dt x).1 :: .int .i64 (dt x).2.1 :: .int .i64 (dt x).2.2 :: dcells l := rfl
    rw [e]
    cases i with
    | zero => exact ⟨rfl, rfl, rfl⟩
    | succ i =>
      have := ih i (by simpa using h)
      rw [show (i + 1) * 3 = i * 3 + 3 by omega]
      simpa using this
theorem own_shape {w : World} {base : Nat} {e : TypeId} {size n : Nat} {v : Value} {xs : List Value} (h : w.ownsRow base e size v n xs) : ∃ a cap, v = .slice a n cap := by
  rcases h.2 with ⟨rfl, rfl⟩ | ⟨g, cap, cur, rfl, _⟩
  · exact ⟨none, 0, rfl⟩
  · exact ⟨_, cap, rfl⟩
theorem own_below {w w' : World} {base : Nat} {e : TypeId} {size n : Nat} {v : Value} {xs : List Value} (h : w.ownsRow base e size v n xs) (k : Below w.heap.size w w') : w'.ownsRow base e size v n xs := by
  refine ⟨h.1, ?_⟩
  rcases h.2 with h0 | ⟨g, cap, cur, hv, hb, hg, rest⟩
  · exact .inl h0
  · exact .inr ⟨g, cap, cur, hv, hb, (k.block g (Array.getElem?_eq_some_iff.1 hg).1).trans hg, rest⟩
theorem own_DL {w : World} {base : Nat} {v : Value} {l : List Int} (h : w.ownsRow base 27 3 v l.length (dcells l)) (hl : l.length ≤ 1000) : DL w v (l.map dt) := by
  rcases h.2 with ⟨rfl, h0⟩ | ⟨g, cap, cur, rfl, _, hg, _, _, _, ht⟩
  · obtain rfl : l = [] := List.length_eq_zero_iff.1 h0
    exact ⟨none, 0, rfl, by simp, fun i hi => absurd hi (by simp)⟩
  · refine ⟨some ⟨g, 0, none⟩, cap, by rw [List.length_map], by rw [List.length_map]; omega, fun i hi => ?_⟩
    rw [List.length_map] at hi
    have hlen : (dcells l).length = l.length * 3 := h.1
    have cell : ∀ j u, (dcells l)[j]? = some u → w.cell? ⟨g, j, none⟩ = some u := fun j u hu => by
      rw [cell_of_row _ _ _ _ _ _ hg]
      have hj : j < l.length * 3 := by rw [← hlen]; exact (List.getElem?_eq_some_iff.1 hu).1
      have ht' : cur.toList.take (l.length * 3) = dcells l := by simpa using ht
      rw [← ht', List.getElem?_take, if_pos hj] at hu
      simpa using hu
    obtain ⟨c1, c2, c3⟩ := dcells_at l i hi
    refine ⟨g, 0, rfl, ?_, ?_, ?_⟩
    · simpa using cell _ _ c1
    · simpa using cell _ _ c2
    · simpa using cell _ _ c3
/-- a list of days whose cells lie at a block or behind it -/
structure DLn (n : Nat) (w : World) (v : Value) (l : List D3) : Prop where
  dl : DL w v l
  far : ∀ a k c, v = .slice (some a) k c → n ≤ a.block
theorem own_DLn {w : World} {n base : Nat} {v : Value} {l : List Int} (h : w.ownsRow base 27 3 v l.length (dcells l)) (hl : l.length ≤ 1000) (hn : n ≤ base) : DLn n w v (l.map dt) := by
  refine ⟨own_DL h hl, fun a k c e => ?_⟩
  rcases h.2 with ⟨rfl, h0⟩ | ⟨g, cap, cur, rfl, hb, _⟩
  · cases e
  · cases e
    exact Nat.le_trans hn hb
theorem DLn.below {n : Nat} {w w' : World} {v : Value} {l : List D3} (h : DLn n w v l) (k : Below w.heap.size w w') : DLn n w' v l := ⟨h.dl.below k, h.far⟩
theorem DLn.set {n : Nat} {w : World} {v : Value} {l : List D3} (h : DLn n w v l) {p : Addr} (hp : p.block < n) (u : Value) : DLn n (w.setCell p u) v l := by
  obtain ⟨⟨x, cap, rfl, h2, h3⟩, hf⟩ := h
  refine ⟨⟨x, cap, rfl, h2, fun i hi => ?_⟩, hf⟩
  obtain ⟨g, o, rfl, c1, c2, c3⟩ := h3 i hi
  have hg := hf _ _ _ rfl
  have e : (w.setCell p u).heap[g]? = w.heap[g]? := Below.heap_setCell w p u g (by show g ≠ p.block; have : n ≤ g := hg; omega)
  exact ⟨g, o, rfl, (World.cell?_of_block e).trans c1, (World.cell?_of_block e).trans c2, (World.cell?_of_block e).trans c3⟩
/-- the days drawn so far -/
structure Drw (l : List Int) (k : Nat) (odd : Int) : Prop where
  rng : ∀ x ∈ l, 730000 ≤ x ∧ x < 730000 + k ∧ x % 2 = odd
  up : l.Pairwise (· < ·)
  len : 2 * (l.length : Int) ≤ k + 1 - odd
theorem Drw.good {l : List Int} {k : Nat} {odd : Int} (h : Drw l k odd) (hk : k ≤ 2000) : GoodL (l.map dt) ∧ ∀ d ∈ l.map dt, nm d % 2 = odd := by
  have hn : ∀ x ∈ l, nm (dt x) = x := fun x hx => nm_dt (by have := h.rng x hx; omega) (by have := h.rng x hx; omega)
  refine ⟨⟨fun d hd => ?_, fun i j hi hj hij => ?_⟩, fun d hd => ?_⟩
  · obtain ⟨x, hx, rfl⟩ := List.mem_map.1 hd
    exact dt_ok x
  · rw [List.length_map] at hi hj
    rw [List.getElem_map, List.getElem_map, hn _ (List.getElem_mem hi), hn _ (List.getElem_mem hj)]
    exact List.pairwise_iff_getElem.1 h.up i j hi hj hij
  · obtain ⟨x, hx, rfl⟩ := List.mem_map.1 hd
    rw [hn x hx]
    exact (h.rng x hx).2.2
theorem Drw.skip {l : List Int} {k : Nat} {odd : Int} (h : Drw l k odd) : Drw l (k + 1) odd :=
  ⟨fun x hx => by have := h.rng x hx; omega, h.up, by have := h.len; omega⟩
theorem Drw.take {l : List Int} {k : Nat} {odd : Int} (h : Drw l k odd) (ho : odd = 0 ∨ odd = 1) (hk : (k : Int) % 2 = odd) : Drw (l ++ [730000 + (k : Int)]) (k + 1) odd := by
  refine ⟨fun x hx => ?_, ?_, ?_⟩
  · rcases List.mem_append.1 hx with hx | hx
    · have := h.rng x hx
      omega
    · rw [List.mem_singleton.1 hx]
      omega
  · rw [List.pairwise_append]
    refine ⟨h.up, by simp, fun a ha b hb => ?_⟩
    rw [List.mem_singleton.1 hb]
    exact (h.rng a ha).2.1
  · have := h.len
    rw [List.length_append, List.length_singleton]
    omega
theorem infoD : (Tryd.prog.info? 27).map (fun i => (i.zero, i.size, i.bytes)) = some (some (.agg #[.int .i64 0, .int .i64 0, .int .i64 0]), 3, 24) := by kernel_rfl
set_option maxRecDepth 100000 in
theorem zeroBools (w : World) : (zeroValue 57).run Tryd.prog w = .ok (.agg (Array.replicate 2000 (.bool false))) w := by kernel_rfl
theorem below_grown {n : Nat} {a w w' : World} {row : Option Nat} (h : Below n a w) (hn : n ≤ w.heap.size) (k : w.grownBy w' row) (hr : ∀ r, row = some r → n ≤ r) : Below n a w' :=
  h.trans ⟨k.os, k.tape, k.output, k.size, fun j hj => k.block j (by omega) (fun e => by have := hr j e.symm; omega)⟩
set_option maxHeartbeats 4000000 in
set_option maxRecDepth 100000 in
theorem days_r (x : Option Addr) (zs : List Int) (cap : Nat) (odd : Int) (ho : odd = 0 ∨ odd = 1) (w : World) (hG : GlobOk w) (hN : NL w x zs) :
    Calls Tryd.prog 17 #[.slice x zs.length cap, .int .i64 odd] w fun e w' => ∃ v L, e = .returned v ∧ DLn w.heap.size w' v L ∧ GoodL L ∧ L.length ≤ 1000 ∧ (∀ d ∈ L, nm d % 2 = odd) ∧ Below w.heap.size w w' := by
  have hz := zeroBools
  have hob : 0 ≤ odd ∧ odd ≤ 1 := by omega
  have HO := Lib.hid ho
  have HG := Lib.hid hG
  have HN := Lib.hid hN
  have l0 : (0 : Int) ≤ (zs.length : Int) := Int.natCast_nonneg _
  have l1 : (zs.length : Int) ≤ 4611686018427387904 := by have := hN.1; omega
  clear hG hN ho
  go_enter Tryd.func17, Tryd.ntmps17
  go_upto_region 2 with fail
  obtain ⟨W, hW⟩ : ∃ W, W = w.alloc (.cells (Array.replicate 2000 (.bool false)) 57) := ⟨_, rfl⟩
  rw [← hW]
  have K1 : Hid (Below w.heap.size w W) := Lib.hid (by rw [hW]; exact below_alloc (Below.refl _ _) _)
  have HI : Hid (Inn W w.heap.size odd) := Lib.hid (by
    rw [hW]
    refine ⟨_, alnew w _, by simp, fun j hj => ⟨false, ?_, fun h => by cases h⟩⟩
    rw [Array.getElem?_replicate, if_pos hj])
  have hsz : W.heap.size = w.heap.size + 1 := by rw [hW]; simp
  have SZ := Lib.hid hsz
  clear hz hW hsz
  go_wp2_with fail
  go_loopw [6] (fun i wr => ∃ k : Nat, k ≤ zs.length ∧ i = .int .i64 (k : Int) ∧ Hid (Below w.heap.size w wr) ∧ Hid (Inn wr w.heap.size odd) ∧ Hid (w.heap.size + 1 ≤ wr.heap.size)) (fun i _ => zs.length - (intOf i).toNat)
  case atStart => exact ⟨0, Nat.zero_le _, rfl, K1, HI, Lib.hid (by have := SZ.out; omega)⟩
  case round =>
    clear HI SZ K1
    obtain ⟨k, hk, rfl, HB, HI, SZ⟩ := hrel
    by_cases hlt : k < zs.length
    · obtain ⟨ad, rfl, hc⟩ := (HN.out.below HB.out).2.2 k hlt
      obtain ⟨z, hz⟩ : ∃ z, z = zs[k] := ⟨_, rfl⟩
      rw [← hz] at hc
      obtain ⟨v, v0, v1, hv⟩ := within_r z 0 999 (by rw [hz]; exact HN.out.2.1 _ (List.getElem_mem _)) (by omega) (by omega) (by omega)
      obtain ⟨n, hn⟩ : ∃ n : Nat, v * 2 + odd = (n : Int) := ⟨(v * 2 + odd).toNat, by omega⟩
      have hn2 : (n : Int) < 2000 := by omega
      have hn0 : (0 : Int) ≤ (n : Int) := Int.natCast_nonneg _
      have HNn : Hid (n < 2000) := Lib.hid (by omega)
      have HM : Hid ((n : Int) % 2 = odd) := Lib.hid (by omega)
      have HV := Lib.hid hv
      have k0 : (0 : Int) ≤ (k : Int) := Int.natCast_nonneg _
      have k1 : (k : Int) < (zs.length : Int) := by omega
      clear hz hv
      go_wp2_with (first
        | (go_at_call 8; (with_reducible refine (HV.out _).mono ?_); rintro ev w2 ⟨rfl, hb⟩; have HI2 := Lib.hid (HI.out.below hb); have SZ2 := Lib.hid (Nat.le_trans SZ.out hb.size); have HB2 := Lib.hid (below_step HB.out hb); clear hb; have hfr := HI2.out.free n; obtain ⟨bx, hcl, hxx⟩ := HI2.out.cell n HNn.out; clear hxx))
      go_roundw
      case rel => exact ⟨k + 1, by omega, by go_num, Lib.hid (HB2.out.setCell (Nat.le_refl _) _), Lib.hid (HI2.out.set n HM.out (by omega)), Lib.hid (by simp [World.setCell]; exact SZ2.out)⟩
      case measure => simp [intOf]; omega
    · obtain rfl : zs.length = k := by omega
      clear hlt hk
      obtain ⟨i0, hi, hz0, hz1, hz2⟩ := info_parts infoD
      go_wp2_with fail
      go_loopw [7, 8, 9] (fun v i _ wr => ∃ (k : Nat) (l : List Int), k ≤ 2000 ∧ i = .int .i64 (k : Int) ∧ Hid (Below w.heap.size w wr) ∧ Hid (Inn wr w.heap.size odd) ∧ Hid (w.heap.size + 1 ≤ wr.heap.size) ∧ Hid (wr.ownsRow (w.heap.size + 1) 27 3 v l.length (dcells l)) ∧ Hid (Drw l k odd)) (fun _ i _ _ => 2000 - (intOf i).toNat)
      case atStart =>
        exact ⟨0, [], by omega, rfl, HB, HI, SZ, Lib.hid (World.ownsRow_nil _ _ _ _), Lib.hid ⟨fun x hx => absurd hx (by simp), List.Pairwise.nil, by simp; omega⟩⟩
      case round =>
        clear HI SZ HB
        obtain ⟨k, l, hk, rfl, HB, HI, SZ, HW, HD⟩ := hrel
        obtain ⟨a0, c0, rfl⟩ := own_shape HW.out
        have hll := HD.out.len
        have lb : (l.length : Int) ≤ 1001 := by omega
        have lb0 : (0 : Int) ≤ (l.length : Int) := Int.natCast_nonneg _
        have k0 : (0 : Int) ≤ (k : Int) := Int.natCast_nonneg _
        clear hll
        by_cases hlt : k < 2000
        · have t1 : decide ((k : Int) < 2000) = true := decide_eq_true (by omega)
          by_cases hlt2 : l.length < 1000
          · have t2 : decide ((l.length : Int) < 1000) = true := decide_eq_true (by omega)
            obtain ⟨b, hb, hpar⟩ := HI.out.cell k hlt
            have HP := Lib.hid hpar
            clear hpar
            cases b
            · go_wp2_with fail
              go_roundw
              case rel => exact ⟨k + 1, l, by omega, by go_num, HB, HI, SZ, HW, Lib.hid HD.out.skip⟩
              case measure => simp [intOf]; omega
            · have HP2 := Lib.hid (HP.out rfl)
              clear HP
              have HAt := Lib.hid (at_r (730000 + (k : Int)) (by omega) (by omega) wr (HG.out.below HB.out))
              go_upto_region 12 with (first
                | (go_at_call 10; (with_reducible refine HAt.out.mono ?_); rintro ev w2 ⟨rfl, hb2⟩; have HB2 := Lib.hid (below_step HB.out hb2); have HI2 := Lib.hid (HI.out.below hb2); have HW2 := Lib.hid (own_below HW.out hb2); have SZ2 := Lib.hid (Nat.le_trans SZ.out hb2.size); clear hb2))
              obtain ⟨X, hX⟩ : ∃ X, X = w2.alloc (.cells #[.int .i64 (dt (730000 + (k : Int))).1, .int .i64 (dt (730000 + (k : Int))).2.1, .int .i64 (dt (730000 + (k : Int))).2.2] 27) := ⟨_, rfl⟩
              rw [← hX]
              have kx : Below w2.heap.size w2 X := by rw [hX]; exact below_alloc (Below.refl _ _) _
              have y1 : Bx X w2.heap.size (dt (730000 + (k : Int))) := by rw [hX]; exact alnew w2 _
              clear hX
              have HBX := Lib.hid (below_step HB2.out kx)
              have HIX := Lib.hid (HI2.out.below kx)
              have HWX := Lib.hid (own_below HW2.out kx)
              have SZX := Lib.hid (Nat.le_trans SZ2.out kx.size)
              have d0 := y1.c0
              have d1 := y1.c1
              have d2 := y1.c2
              clear kx y1 HB2 HI2 HW2 SZ2 HB HI HW SZ
              have h1c : ∀ u ∈ ([.int .i64 (dt (730000 + (k : Int))).1, .int .i64 (dt (730000 + (k : Int))).2.1, .int .i64 (dt (730000 + (k : Int))).2.2] : List Value), u.oneCell' = true := by intro u hu; simp at hu; rcases hu with rfl | rfl | rfl <;> rfl
              have HH1 := Lib.hid h1c
              have HLl := Lib.hid lb
              clear h1c
              go_wp2_with (at_builtin; refine wpList_append_own _ rfl _ _ 23 (by rfl) (w.heap.size + 1) 27 i0 _ 3 24 Tryd.underlying23 hi hz0 hz1 hz2 rfl (by decide) _ _ _ rfl (HWX.out.alloc _) ⟨X.heap.size, 0, none⟩ 1 1 [.int .i64 (dt (730000 + (k : Int))).1, .int .i64 (dt (730000 + (k : Int))).2.1, .int .i64 (dt (730000 + (k : Int))).2.2] rfl rfl (World.news_of_block (World.alloc_heap_new _ _)) HH1.out (by simp only [maxLen]; omega) (by omega) (by have := SZX.out; simp; omega) ?_; intro v' w1 hown' hgrow _; have HW1 := Lib.hid hown'; have HGr := Lib.hid hgrow; clear hown' hgrow)
              have hr : ∀ r, (Value.slice a0 l.length c0).ownBlock = some r → w.heap.size + 1 ≤ r := fun r e => own_base HWX.out r e
              have kX : Below X.heap.size X (X.alloc (.cells #[.int .i64 (dt (730000 + (k : Int))).1, .int .i64 (dt (730000 + (k : Int))).2.1, .int .i64 (dt (730000 + (k : Int))).2.2] 27)) := below_alloc (Below.refl _ _) _
              go_roundw
              case rel =>
                refine ⟨k + 1, l ++ [730000 + (k : Int)], by omega, by go_num, Lib.hid (below_grown (below_step HBX.out kX) (by have := SZX.out; simp; omega) HGr.out (fun r e => by have := hr r e; omega)), Lib.hid ((HIX.out.below kX).grown HGr.out (fun r e => by have := hr r e; omega)), Lib.hid (Nat.le_trans (Nat.le_trans SZX.out kX.size) HGr.out.size), Lib.hid ?_, Lib.hid (HD.out.take HO.out HP2.out)⟩
                rw [dcells_snoc, List.length_append, List.length_singleton]
                exact HW1.out
              case measure => simp [intOf]; omega
          · have t2 : decide ((l.length : Int) < 1000) = false := decide_eq_false (by omega)
            go_wp2_with fail
            go_ret
            obtain ⟨g1, g2⟩ := HD.out.good (by omega)
            have hl : l.length ≤ 1000 := by have := HD.out.len; omega
            exact ⟨_, l.map dt, rfl, own_DLn HW.out hl (Nat.le_succ _), g1, by rw [List.length_map]; exact hl, g2, HB.out⟩
        · have t1 : decide ((k : Int) < 2000) = false := decide_eq_false (by omega)
          go_wp2_with fail
          go_ret
          obtain ⟨g1, g2⟩ := HD.out.good (by omega)
          have hl : l.length ≤ 1000 := by have := HD.out.len; omega
          exact ⟨_, l.map dt, rfl, own_DLn HW.out hl (Nat.le_succ _), g1, by rw [List.length_map]; exact hl, g2, HB.out⟩
end Go.Proofs.YtjifinacnofmiaaDoor.Ext

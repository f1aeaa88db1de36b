-- joined out of the texts ShtNr ShtBr ShtSt2 ShtRd ShtHo ShtOr ShtOw ShtLr ShtLs ShtLk ShtLb
import Derived.Test.YtappphffbnkloaaGreatDoorShtJb
import Derived.Test.YtappphffbnkloaaGreatDoorShtJc
import Derived.Deep.RegionHeld3
import Derived.Test.YtappphffbnkloaaGreatDoorGSxf39
import Derived.BigQuiet
import Derived.Test.YtappphffbnkloaaGreatDoorShtJa
import Derived.Test.YtappphffbnkloaaGreatDoorGSxf12
import Derived.Deep.Slices
import Derived.SliceStrings
import Derived.Laws.AppendOwnNone
import Derived.Lib.ItoaMem
import Derived.Deep.QuietTactic
import Derived.IntWalk
import Derived.Test.YtappphffbnkloaaGreatDoorGSxf56
import Derived.Test.YtappphffbnkloaaGreatDoorGSxf61
import Derived.Laws.IdiomStrings
set_option linter.unusedVariables false
set_option linter.unusedSimpArgs false
namespace Go.Proofs.YtappphffbnkloaaGreatDoor.Sht
open Go Go.RowKit Go.Proofs.YtappphffbnkloaaGreatDoorW.PrintWords Go.Proofs.YtappphffbnkloaaGreatDoor.GS
attribute [local go_sem ↓] Go.wp_at_zero Go.wp_at_succ
/-- the reference's Reader: its text, how many rows it told, its fault, is it closed -/
def RfAt (w : World) (b : Nat) (t : ByteArray) (n : Nat) (c l k a : Int) (o : Bool) : Prop :=
  w.heap[b]? = some (.cells #[.string t, .int .i64 (n : Int), .int .i64 c, .int .i64 l, .int .i64 k, .int .i64 a, .int .i64 0, .bool o] 85 (0, 0))
section
variable {w : World} {b n : Nat} {t : ByteArray} {c l k a : Int} {o : Bool}
theorem RfAt.cells (h : RfAt w b t n c l k a o) : w.cell? ⟨b, 0, none⟩ = some (.string t) ∧ w.cell? ⟨b, 1, none⟩ = some (.int .i64 (n : Int)) ∧ w.cell? ⟨b, 2, none⟩ = some (.int .i64 c) ∧ w.cell? ⟨b, 3, none⟩ = some (.int .i64 l) ∧ w.cell? ⟨b, 4, none⟩ = some (.int .i64 k) ∧ w.cell? ⟨b, 5, none⟩ = some (.int .i64 a) ∧ w.cell? ⟨b, 6, none⟩ = some (.int .i64 0) ∧ w.cell? ⟨b, 7, none⟩ = some (.bool o) :=
  ⟨(bcell h 0).trans rfl, (bcell h 1).trans rfl, (bcell h 2).trans rfl, (bcell h 3).trans rfl, (bcell h 4).trans rfl, (bcell h 5).trans rfl, (bcell h 6).trans rfl, (bcell h 7).trans rfl⟩
theorem RfAt.free (h : RfAt w b t n c l k a o) : w.frozen? ⟨b, 0, none⟩ = false ∧ w.frozen? ⟨b, 1, none⟩ = false ∧ w.frozen? ⟨b, 2, none⟩ = false ∧ w.frozen? ⟨b, 3, none⟩ = false ∧ w.frozen? ⟨b, 4, none⟩ = false ∧ w.frozen? ⟨b, 5, none⟩ = false ∧ w.frozen? ⟨b, 6, none⟩ = false ∧ w.frozen? ⟨b, 7, none⟩ = false :=
  ⟨bfree h 0, bfree h 1, bfree h 2, bfree h 3, bfree h 4, bfree h 5, bfree h 6, bfree h 7⟩
theorem RfAt.below {w' : World} (h : RfAt w b t n c l k a o) (q : Below w.heap.size w w') : RfAt w' b t n c l k a o := (q.block b (blt h)).trans h
/-- told nothing, this fault -/
def Nought (w : World) (f : Value) (e : Ending) (w' : World) : Prop := e = .returned (.tuple #[.slice none 0 0, f]) ∧ Below w.heap.size w w'
end
/-- all but this block is as it was -/
structure Fq (b : Nat) (w w' : World) : Prop where
  os : w'.os = w.os
  tape : w'.tape = w.tape
  output : w'.output = w.output
  size : w.heap.size ≤ w'.heap.size
  keep : ∀ j, j < w.heap.size → j ≠ b → w'.heap[j]? = w.heap[j]?
theorem Fq.refl (b : Nat) (w : World) : Fq b w w := ⟨rfl, rfl, rfl, Nat.le_refl _, fun _ _ _ => rfl⟩
theorem Fq.trans {b : Nat} {u v w : World} (h : Fq b u v) (k : Fq b v w) : Fq b u w :=
  ⟨k.os.trans h.os, k.tape.trans h.tape, k.output.trans h.output, Nat.le_trans h.size k.size, fun j hj hn => (k.keep j (Nat.lt_of_lt_of_le hj h.size) hn).trans (h.keep j hj hn)⟩
theorem Fq.below {b : Nat} {u v w : World} (h : Fq b u v) (k : Below v.heap.size v w) : Fq b u w := h.trans ⟨k.os, k.tape, k.output, k.size, fun j hj _ => k.block j hj⟩
theorem Fq.drew {b : Nat} {u v : World} (h : Fq b u v) : Fq b u v.drew := ⟨h.os, h.tape, h.output, h.size, h.keep⟩
theorem Fq.alloc {b : Nat} {u v : World} (h : Fq b u v) (o : Obj) : Fq b u (v.alloc o) := h.below ((Below.refl _ _).alloc (Nat.le_refl _) _)
theorem Fq.set {b : Nat} {u v : World} (h : Fq b u v) (i : Nat) (x : Value) : Fq b u (v.setCell ⟨b, i, none⟩ x) :=
  h.trans ⟨rfl, rfl, rfl, by rw [setSize]; exact Nat.le_refl _, fun j hj hn => Below.heap_setCell v ⟨b, i, none⟩ x j hn⟩
theorem Fq.setNew {b g : Nat} {u v : World} (h : Fq b u v) (hg : u.heap.size ≤ g) (i : Nat) (x : Value) : Fq b u (v.setCell ⟨g, i, none⟩ x) :=
  ⟨h.os, h.tape, h.output, by rw [setSize]; exact h.size, fun j hj hn => (Below.heap_setCell v ⟨g, i, none⟩ x j (by show j ≠ g; omega)).trans (h.keep j hj hn)⟩
set_option maxHeartbeats 1000000 in
theorem rnew_r (w : World) : Calls Tryz.prog 8 #[] w fun e w' => e = .returned (PT w.heap.size) ∧ RfAt w' w.heap.size ByteArray.empty 0 0 0 0 0 false ∧ Below w.heap.size w w' := by
  go_enter Tryz.func8, Tryz.ntmps8
  go_wp2
  go_ret
  exact ⟨rfl, heap_alloc_new w _, (Below.refl _ _).alloc (Nat.le_refl _) _⟩
set_option maxHeartbeats 1000000 in
theorem rfeed_nil (v : Value) (w : World) : Calls Tryz.prog 16 #[.pointer none, v] w (Nought w (fv 0 0 0 0 0)) := by
  go_enter Tryz.func16, Tryz.ntmps16
  go_wp2
  refine bodyPost_ret (results_tc rfl _ _ w.heap.size 46 #[.int .i64 0, .int .i64 0, .int .i64 0, .int .i64 0, .int .i64 0] (0, 0) _ rfl (blk_new _ _) Tryz.underlying46 rfl (by kernel_rfl)) rfl ?_
  exact ⟨rfl, ((Below.refl _ _).alloc (Nat.le_refl _) _)⟩
set_option maxHeartbeats 1000000 in
theorem rclose_nil (w : World) : Calls Tryz.prog 10 #[.pointer none] w (Nought w (fv 0 0 0 0 0)) := by
  go_enter Tryz.func10, Tryz.ntmps10
  go_wp2
  refine bodyPost_ret (results_tc rfl _ _ w.heap.size 46 #[.int .i64 0, .int .i64 0, .int .i64 0, .int .i64 0, .int .i64 0] (0, 0) _ rfl (blk_new _ _) Tryz.underlying46 rfl (by kernel_rfl)) rfl ?_
  exact ⟨rfl, ((Below.refl _ _).alloc (Nat.le_refl _) _)⟩
set_option maxHeartbeats 1000000 in
theorem rfeed_over (b n : Nat) (t : ByteArray) (c l k a : Int) (v : Value) (w : World) (h : RfAt w b t n c l k a true) : Calls Tryz.prog 16 #[PT b, v] w (Nought w (fv 9 0 0 0 0)) := by
  obtain ⟨-, -, -, -, -, -, -, c7⟩ := h.cells
  have hb := blt h
  clear h
  go_enter Tryz.func16, Tryz.ntmps16
  go_wp2
  refine bodyPost_ret (results_tc rfl _ _ w.heap.size 46 #[.int .i64 9, .int .i64 0, .int .i64 0, .int .i64 0, .int .i64 0] (0, 0) _ rfl (blk_new _ _) Tryz.underlying46 rfl (by kernel_rfl)) rfl ?_
  exact ⟨rfl, ((Below.refl _ _).alloc (Nat.le_refl _) _)⟩
set_option maxHeartbeats 1000000 in
theorem rclose_over (b n : Nat) (t : ByteArray) (c l k a : Int) (w : World) (h : RfAt w b t n c l k a true) : Calls Tryz.prog 10 #[PT b] w (Nought w (fv 9 0 0 0 0)) := by
  obtain ⟨-, -, -, -, -, -, -, c7⟩ := h.cells
  have hb := blt h
  clear h
  go_enter Tryz.func10, Tryz.ntmps10
  go_wp2
  refine bodyPost_ret (results_tc rfl _ _ w.heap.size 46 #[.int .i64 9, .int .i64 0, .int .i64 0, .int .i64 0, .int .i64 0] (0, 0) _ rfl (blk_new _ _) Tryz.underlying46 rfl (by kernel_rfl)) rfl ?_
  exact ⟨rfl, ((Below.refl _ _).alloc (Nat.le_refl _) _)⟩
set_option maxHeartbeats 1000000 in
theorem rfeed_bad (b n : Nat) (t : ByteArray) (c l k a : Int) (hc : c ≠ 0) (v : Value) (w : World) (h : RfAt w b t n c l k a false) : Calls Tryz.prog 16 #[PT b, v] w (Nought w (fv c l k a 0)) := by
  obtain ⟨-, -, c2, c3, c4, c5, c6, c7⟩ := h.cells
  have hb := blt h
  have z1 : (c == 0) = false := by simpa using hc
  have z2 : (c != 0) = true := by simpa using hc
  clear h
  go_enter Tryz.func16, Tryz.ntmps16
  go_wp2
  go_region
  go_wp2
  refine bodyPost_ret (results_tc rfl _ _ w.heap.size 46 #[.int .i64 c, .int .i64 l, .int .i64 k, .int .i64 a, .int .i64 0] (0, 0) _ rfl (blk_drew (blk_new _ _)) Tryz.underlying46 rfl (by kernel_rfl)) rfl ?_
  exact ⟨rfl, ((Below.refl _ _).alloc (Nat.le_refl _) _).drew⟩
set_option maxHeartbeats 1000000 in
theorem rclose_bad (b n : Nat) (t : ByteArray) (c l k a : Int) (hc : c ≠ 0) (w : World) (h : RfAt w b t n c l k a false) :
    Calls Tryz.prog 10 #[PT b] w fun e w' => e = .returned (.tuple #[.slice none 0 0, fv c l k a 0]) ∧ RfAt w' b t n c l k a true ∧ Fq b w w' := by
  obtain ⟨-, -, c2, c3, c4, c5, c6, c7⟩ := h.cells
  obtain ⟨-, -, -, -, -, -, -, f7⟩ := h.free
  have hb := blt h
  have H := Lib.hid h
  have z1 : (c == 0) = false := by simpa using hc
  have z2 : (c != 0) = true := by simpa using hc
  clear h
  go_enter Tryz.func10, Tryz.ntmps10
  go_wp2
  go_region
  go_wp2
  refine bodyPost_ret (results_tc rfl _ _ w.heap.size 46 #[.int .i64 c, .int .i64 l, .int .i64 k, .int .i64 a, .int .i64 0] (0, 0) _ rfl (blk_drew (by have := blk_new (w.setCell ⟨b, 7, none⟩ (.bool true)) (.cells #[.int .i64 c, .int .i64 l, .int .i64 k, .int .i64 a, .int .i64 0] 46); rwa [setSize] at this)) Tryz.underlying46 rfl (by kernel_rfl)) rfl ?_
  exact ⟨rfl, blk_drew (blk_alloc (blk_put H.out 7 (.bool true) rfl) _), (((Fq.refl b w).set 7 _).alloc _).drew⟩
theorem rowIn_C {w : World} {x : Option Addr} {r : List (List UInt8)} {n cap : Nat} (hn : n = (txs r).length) (h : Kd.string.C w x (txs r).length (txs r)) : RowIn w (.slice x n cap) r := by
  obtain ⟨h1, h2, h3⟩ := h
  refine ⟨x, cap, by rw [hn, txs_len], by rw [txs_len] at h2; exact h2, fun i hi => ?_⟩
  obtain ⟨a, e, h4⟩ := h3 (by rw [txs_len]; omega)
  obtain ⟨vs, _, hk, hc⟩ := h4 i (tx r[i]) (by simp [txs, hi])
  obtain rfl : vs = [.string (tx r[i])] := hk
  have := hc 0 _ rfl
  rw [show Kd.string.sz = 1 from rfl, Nat.mul_one, Nat.add_zero] at this
  exact ⟨a, e, this⟩
theorem rowsIn_C {w : World} {x : Option Addr} {rs : Rows} (h : Kd.C (Kd.slice 9 Kd.string) w x (rws rs).length (rws rs)) : rs.length ≤ 9223372036854775807 ∧ ∀ i (h : i < rs.length), ∃ (a : Addr) (u : Value), x = some a ∧ w.cell? (a.add i) = some u ∧ RowIn w u rs[i] := by
  obtain ⟨h1, h2, h3⟩ := h
  refine ⟨by rw [rws_len] at h2; exact h2, fun i hi => ?_⟩
  obtain ⟨a, e, h4⟩ := h3 (by rw [rws_len]; omega)
  obtain ⟨vs, _, ⟨x', c', hk, _, hC⟩, hc⟩ := h4 i (txs rs[i]) (by simp [rws, hi])
  subst hk
  have := hc 0 _ rfl
  rw [show (Kd.slice 9 Kd.string).sz = 1 from rfl, Nat.mul_one, Nat.add_zero] at this
  exact ⟨a, _, e, this, rowIn_C rfl hC⟩
/-- rows are read as they were, where one block of numbers alone was written -/
theorem cell_fq {w w' : World} {g : Nat} {cs : Array Value} {t : TypeId} {p : Addr} {v : Value} (hg : w.heap[g]? = some (.cells cs t (0, 0))) (hi : ∀ (i : Nat) (u : Value), cs[i]? = some u → ∃ k z, u = Value.int k z) (h : Fq g w w') (hv : ∀ k z, v ≠ Value.int k z) (hc : w.cell? p = some v) : w'.cell? p = some v := by
  have hne : p.block ≠ g := fun e => by
    have : ∃ i : Nat, cs[i]? = some v := by
      unfold World.cell? at hc
      rw [e, hg] at hc
      simp at hc
      exact ⟨_, hc.2⟩
    obtain ⟨i, hi'⟩ := this
    obtain ⟨k, z, e'⟩ := hi i v hi'
    exact hv k z e'
  exact (World.cell?_of_block (w := w) (h.keep p.block (World.block_lt_of_cell? _ _ hc) hne)).trans hc
theorem rowIn_fq {w w' : World} {g : Nat} {cs : Array Value} {t : TypeId} {v : Value} {r : List (List UInt8)} (hg : w.heap[g]? = some (.cells cs t (0, 0))) (hi : ∀ (i : Nat) (u : Value), cs[i]? = some u → ∃ k z, u = Value.int k z) (h : Fq g w w') (hr : RowIn w v r) : RowIn w' v r := by
  obtain ⟨x, cap, h1, h2, h3⟩ := hr
  refine ⟨x, cap, h1, h2, fun i q => ?_⟩
  obtain ⟨a, e, hc⟩ := h3 i q
  exact ⟨a, e, cell_fq hg hi h (fun k z e' => by cases e') hc⟩
theorem rowsIn_fq {w w' : World} {g : Nat} {cs : Array Value} {t : TypeId} {v : Value} {rs : Rows} (hg : w.heap[g]? = some (.cells cs t (0, 0))) (hi : ∀ (i : Nat) (u : Value), cs[i]? = some u → ∃ k z, u = Value.int k z) (h : Fq g w w') (hr : RowsIn w v rs) : RowsIn w' v rs := by
  obtain ⟨x, cap, h1, h2, h3⟩ := hr
  refine ⟨x, cap, h1, h2, fun i q => ?_⟩
  obtain ⟨a, u, e, hc, hu⟩ := h3 i q
  refine ⟨a, u, e, cell_fq hg hi h (fun k z e' => ?_) hc, rowIn_fq hg hi h hu⟩
  obtain ⟨_, _, e2, _⟩ := hu
  rw [e'] at e2
  cases e2
theorem add_add (ad : Addr) (n i : Nat) : (ad.add n).add i = ad.add (n + i) := by
  rcases Nat.eq_zero_or_pos n with rfl | h1
  · rw [Addr.add_zero', Nat.zero_add]
  · rcases Nat.eq_zero_or_pos i with rfl | h2
    · rw [Addr.add_zero', Nat.add_zero]
    · have e1 : n ≠ 0 := by omega
      have e2 : i ≠ 0 := by omega
      simp [Addr.add, e1, e2, Nat.add_assoc]
theorem rowsIn_none (w : World) (x : Option Addr) (cap : Nat) : RowsIn w (.slice x 0 cap) [] := ⟨x, cap, rfl, by simp, fun i h => absurd h (by simp)⟩
theorem rowsIn_part {w : World} {ad : Addr} {rs : Rows} (h : Kd.C (Kd.slice 9 Kd.string) w (some ad) (rws rs).length (rws rs)) (n m cap : Nat) (hm : m ≤ rs.length) (hn : n ≤ m) : RowsIn w (.slice (some (ad.add n)) (m - n) cap) ((rs.take m).drop n) := by
  obtain ⟨h1, h2⟩ := rowsIn_C h
  have hl : ((rs.take m).drop n).length = m - n := by rw [List.length_drop, List.length_take]; omega
  refine ⟨_, cap, by rw [hl], by omega, fun i hi => ?_⟩
  rw [hl] at hi
  obtain ⟨a, u, e, hc, hu⟩ := h2 (n + i) (by omega)
  obtain rfl := Option.some.inj e
  refine ⟨_, u, rfl, ?_, ?_⟩
  · rw [show (ad.add n).add i = ad.add (n + i) from add_add ad n i]; exact hc
  · simpa using hu
theorem ints5 (c l k a y : Int) : ∀ (i : Nat) (u : Value), (#[.int .i64 c, .int .i64 l, .int .i64 k, .int .i64 a, .int .i64 y] : Array Value)[i]? = some u → ∃ k z, u = Value.int k z := by
  intro i u h
  match i, h with
  | 0, h => exact ⟨_, _, (Option.some.inj h).symm⟩
  | 1, h => exact ⟨_, _, (Option.some.inj h).symm⟩
  | 2, h => exact ⟨_, _, (Option.some.inj h).symm⟩
  | 3, h => exact ⟨_, _, (Option.some.inj h).symm⟩
  | 4, h => exact ⟨_, _, (Option.some.inj h).symm⟩
  | n + 5, h => simp at h
/-- a fault, laid into the result's block -/
def put5 (w : World) (g : Nat) (c l k a y : Int) : World := ((((w.setCell ⟨g, 0, none⟩ (.int .i64 c)).setCell ⟨g, 1, none⟩ (.int .i64 l)).setCell ⟨g, 2, none⟩ (.int .i64 k)).setCell ⟨g, 3, none⟩ (.int .i64 a)).setCell ⟨g, 4, none⟩ (.int .i64 y)
theorem put5_blk {w : World} {g : Nat} {t : TypeId} {v0 v1 v2 v3 v4 : Value} (h : w.heap[g]? = some (.cells #[v0, v1, v2, v3, v4] t (0, 0))) (c l k a y : Int) : (put5 w g c l k a y).heap[g]? = some (.cells #[.int .i64 c, .int .i64 l, .int .i64 k, .int .i64 a, .int .i64 y] t (0, 0)) :=
  blk_put (blk_put (blk_put (blk_put (blk_put h 0 _ rfl) 1 _ rfl) 2 _ rfl) 3 _ rfl) 4 _ rfl
theorem put5_fq (w : World) (g : Nat) (c l k a y : Int) : Fq g w (put5 w g c l k a y) := ((((((Fq.refl g w).set 0 _).set 1 _).set 2 _).set 3 _).set 4 _)
theorem put5_new {b g : Nat} {u w : World} (h : Fq b u w) (hg : u.heap.size ≤ g) (c l k a y : Int) : Fq b u (put5 w g c l k a y) := ((((h.setNew hg 0 _).setNew hg 1 _).setNew hg 2 _).setNew hg 3 _).setNew hg 4 _
set_option maxHeartbeats 1000000 in
theorem rclose_on (b n m K : Nat) (t : ByteArray) (rs : Rows) (c l k a : Int) (w : World) (h : RfAt w b t n 0 0 0 0 false) (hK : larderref04_Read.f K t = some (rws rs, (m : Int), c, l, k, a, 0)) (hn : n ≤ rs.length) :
    Calls Tryz.prog 10 #[PT b] w fun e w' => ∃ v, e = .returned (.tuple #[v, fv c l k a 0]) ∧ RowsIn w' v (rs.drop n) ∧ RfAt w' b t n 0 0 0 0 true ∧ Fq b w w' := by
  obtain ⟨c0, c1, c2, c3, c4, c5, c6, c7⟩ := h.cells
  obtain ⟨-, -, -, -, -, -, -, f7⟩ := h.free
  have hb := blt h
  have H := Lib.hid h
  have HR := Lib.hid (fun w' => larderref04_Read.calls K t _ _ _ _ _ _ _ w' hK)
  have hlen := rws_len rs
  have hL : ((rws rs).length : Int) = (rs.length : Int) := by rw [hlen]
  have hn' := hn
  rw [← hlen] at hn'
  have n0 : (0 : Int) ≤ (n : Int) := Int.natCast_nonneg _
  have n1 : (n : Int) ≤ ((rws rs).length : Int) := by omega
  clear h hK hL hlen
  go_enter Tryz.func10, Tryz.ntmps10
  have HW := Lib.hid (blk_alloc (blk_put H.out 7 (.bool true) rfl) (.cells #[.int .i64 0, .int .i64 0, .int .i64 0, .int .i64 0, .int .i64 0] 46))
  have HZ := Lib.hid (blk_new (w.setCell ⟨b, 7, none⟩ (.bool true)) (.cells #[.int .i64 0, .int .i64 0, .int .i64 0, .int .i64 0, .int .i64 0] 46))
  have HQ := Lib.hid (((Fq.refl b w).set 7 (.bool true)).alloc (.cells #[.int .i64 0, .int .i64 0, .int .i64 0, .int .i64 0, .int .i64 0] 46))
  go_wp2_with (go_at_call 39; (with_reducible refine (HR.out _).mono ?_); rintro e w2 ⟨v0, rfl, hs, hb2⟩; obtain ⟨A, cA, rfl, hcA, hC⟩ := Kd.R_reads (Kd.S_R hs); have HC := Lib.hid hC; have HB2 := Lib.hid hb2; clear hs hb2 hC)
  have hb2 : RfAt w2 b t n 0 0 0 0 true := blk_below HW.out HB2.out
  have hz2 := blk_below HZ.out HB2.out
  rw [setSize] at hz2
  have HQ2 := Lib.hid (HQ.out.below HB2.out)
  obtain ⟨-, d1, -⟩ := hb2.cells
  have z0 : w2.cell? ⟨w.heap.size, 0, none⟩ = some (.int .i64 0) := (bcell hz2 0).trans rfl
  have z1 : w2.cell? ⟨w.heap.size, 1, none⟩ = some (.int .i64 0) := (bcell hz2 1).trans rfl
  have z2 : w2.cell? ⟨w.heap.size, 2, none⟩ = some (.int .i64 0) := (bcell hz2 2).trans rfl
  have z3 : w2.cell? ⟨w.heap.size, 3, none⟩ = some (.int .i64 0) := (bcell hz2 3).trans rfl
  have z4 : w2.cell? ⟨w.heap.size, 4, none⟩ = some (.int .i64 0) := (bcell hz2 4).trans rfl
  have y0 := bfree hz2 0
  have y1 := bfree hz2 1
  have y2 := bfree hz2 2
  have y3 := bfree hz2 3
  have y4 := bfree hz2 4
  have l1 := blt hz2
  have l2 := blt hb2
  have hne : b ≠ w.heap.size := by omega
  have HZ2 := Lib.hid hz2
  have HBk := Lib.hid hb2
  clear hz2 hb2
  have HRL := Lib.hid (rws_len rs)
  cases A with
  | none =>
    have h0 : (rws rs).length = 0 := by
      rcases Nat.eq_zero_or_pos (rws rs).length with q | q
      · exact q
      · obtain ⟨_, _, h3⟩ := HC.out
        obtain ⟨a, e, _⟩ := h3 q
        cases e
    obtain rfl : rs = [] := List.eq_nil_of_length_eq_zero (by rw [← HRL.out]; exact h0)
    obtain rfl : n = 0 := by simpa using hn
    go_region
    go_wp2
    refine bodyPost_ret (results_tc rfl _ _ w.heap.size 46 #[.int .i64 c, .int .i64 l, .int .i64 k, .int .i64 a, .int .i64 0] (0, 0) _ rfl (blk_drew (blk_alloc (put5_blk HZ2.out _ _ _ _ _) _)) Tryz.underlying46 rfl (by kernel_rfl)) rfl ?_
    exact ⟨_, rfl, rowsIn_none _ _ _, blk_drew (blk_alloc (((put5_fq _ _ _ _ _ _ _).keep b l2 hne).trans HBk.out) _), ((put5_new HQ2.out (Nat.le_refl _) _ _ _ _ _).alloc _).drew⟩
  | some ad =>
    have n2 : ((rws rs).length : Int) ≤ (cA : Int) := by omega
    have hpart := Lib.hid (fun cap => rowsIn_part HC.out n rs.length cap (Nat.le_refl _) hn)
    go_region
    all_goals go_wp2
    case some.inr =>
      refine bodyPost_ret (results_tc rfl _ _ w.heap.size 46 #[.int .i64 c, .int .i64 l, .int .i64 k, .int .i64 a, .int .i64 0] (0, 0) _ rfl (blk_drew (blk_alloc (put5_blk HZ2.out _ _ _ _ _) _)) Tryz.underlying46 rfl (by kernel_rfl)) rfl ?_
      refine ⟨_, rfl, rowsIn_fq HZ2.out (ints5 _ _ _ _ _) ((put5_fq _ _ _ _ _ _ _).alloc _).drew ?_, blk_drew (blk_alloc (((put5_fq _ _ _ _ _ _ _).keep b l2 hne).trans HBk.out) _), ((put5_new HQ2.out (Nat.le_refl _) _ _ _ _ _).alloc _).drew⟩
      have := hpart.out (cA - n)
      rw [List.take_length, ← HRL.out] at this
      exact this
    case some.inl =>
      have e0 : (rws rs).length - n = 0 := by omega
      have e1 : rs.drop n = [] := List.drop_eq_nil_of_le (by rw [← HRL.out]; omega)
      refine bodyPost_ret (results_tc rfl _ _ w.heap.size 46 #[.int .i64 c, .int .i64 l, .int .i64 k, .int .i64 a, .int .i64 0] (0, 0) _ rfl (blk_drew (blk_alloc (put5_blk HZ2.out _ _ _ _ _) _)) Tryz.underlying46 rfl (by kernel_rfl)) rfl ?_
      refine ⟨_, rfl, ?_, blk_drew (blk_alloc (((put5_fq _ _ _ _ _ _ _).keep b l2 hne).trans HBk.out) _), ((put5_new HQ2.out (Nat.le_refl _) _ _ _ _ _).alloc _).drew⟩
      rw [e1]
      show RowsIn _ (.slice (some ad) ((rws rs).length - n) 0) []
      rw [e0]
      exact rowsIn_none _ _ _
theorem rows_fq {w w' : World} {b base tt : Nat} {cs : Array Value} {ok : Nat → Prop} {v : Value} {xs : List (List ByteArray)} (h : (Kd.slice 9 Kd.string).R 28 w base ok v xs) (hb : w.heap[b]? = some (.cells cs tt (0, 0))) (ht : ∀ q, q ∈ 28 :: (Kd.slice 9 Kd.string).E → q ≠ tt) (k : Fq b w w') :
    (Kd.slice 9 Kd.string).R 28 w' base (fun k => ok k ∧ k ≠ b) v xs := Kd.R_step (Kd.R_types h hb ht) (fun j hj hlt => k.keep j hlt hj.2)
theorem kc {w w' : World} {p : Addr} {v : Value} (k : Below w.heap.size w w') (h : w.cell? p = some v) : w'.cell? p = some v := (k.cell (World.block_lt_of_cell? _ _ h)).trans h
/-- a fault, laid into the Reader -/
def put5b (w : World) (b : Nat) (c l k a y : Int) : World := ((((w.setCell ⟨b, 2, none⟩ (.int .i64 c)).setCell ⟨b, 3, none⟩ (.int .i64 l)).setCell ⟨b, 4, none⟩ (.int .i64 k)).setCell ⟨b, 5, none⟩ (.int .i64 a)).setCell ⟨b, 6, none⟩ (.int .i64 y)
theorem put5b_fq (w : World) (b : Nat) (c l k a y : Int) : Fq b w (put5b w b c l k a y) := (((((Fq.refl b w).set 2 _).set 3 _).set 4 _).set 5 _).set 6 _
theorem put5b_blk {w : World} {b n : Nat} {t : ByteArray} (h : RfAt w b t n 0 0 0 0 false) (c l k a y : Int) (hy : y = 0) : RfAt (put5b w b c l k a y) b t n c l k a false := by
  subst hy
  exact blk_put (blk_put (blk_put (blk_put (blk_put h 2 _ rfl) 3 _ rfl) 4 _ rfl) 5 _ rfl) 6 _ rfl
set_option maxHeartbeats 4000000 in
set_option maxRecDepth 100000 in
theorem rfeed_on (b n m K K2 : Nat) (t q : ByteArray) (pv : Value) (rs : Rows) (c l k a : Int) (sh : Bool) (w : World) (h : RfAt w b t n 0 0 0 0 false)
    (hcv : ∀ w', Below w.heap.size w w' → (convert 37 9 pv).run Tryz.prog w' = .ok (.string q) w')
    (hz : t.size + q.size ≤ 4611686018427387904) (hK : larderref04_Read.f K (t ++ q) = some (rws rs, (m : Int), c, l, k, a, 0)) (hsh : larderref04_shows.f K2 (t ++ q) c l k a 0 = some sh) (hn : n ≤ m) (hm : m ≤ rs.length) :
    Calls Tryz.prog 16 #[PT b, pv] w fun e w' => ∃ v, e = .returned (.tuple #[v, if sh then fv c l k a 0 else fv 0 0 0 0 0]) ∧ RowsIn w' v ((rs.take m).drop n) ∧
      RfAt w' b (t ++ q) m (if sh then c else 0) (if sh then l else 0) (if sh then k else 0) (if sh then a else 0) false ∧ Fq b w w' := by
  obtain ⟨c0, c1, c2, c3, c4, c5, c6, c7⟩ := h.cells
  obtain ⟨f0, -, -, -, -, -, -, -⟩ := h.free
  have hb := blt h
  have H := Lib.hid h
  have HR := Lib.hid (fun w' => larderref04_Read.calls K (t ++ q) _ _ _ _ _ _ _ w' hK)
  have hz' : ¬ (9223372036854775807 < t.size + q.size) := by omega
  have HSh := Lib.hid (fun w' => larderref04_shows.calls K2 (t ++ q) c l k a 0 sh w' hsh)
  have hcv0 := hcv _ ((Below.refl w.heap.size w).alloc (Nat.le_refl _) (.cells #[.int .i64 0, .int .i64 0, .int .i64 0, .int .i64 0, .int .i64 0] 46)).drew
  clear h hK hsh hcv
  go_enter Tryz.func16, Tryz.ntmps16
  go_wp2
  go_region
  have HW := Lib.hid (blk_drew (blk_alloc (blk_put H.out 0 (.string (t ++ q)) rfl) (.cells #[.int .i64 0, .int .i64 0, .int .i64 0, .int .i64 0, .int .i64 0] 46)))
  have HZ := Lib.hid (blk_drew (blk_new (w.setCell ⟨b, 0, none⟩ (.string (t ++ q))) (.cells #[.int .i64 0, .int .i64 0, .int .i64 0, .int .i64 0, .int .i64 0] 46)))
  have HQ := Lib.hid (((Fq.refl b w).set 0 (.string (t ++ q))).alloc (.cells #[.int .i64 0, .int .i64 0, .int .i64 0, .int .i64 0, .int .i64 0] 46)).drew
  go_upto_region 9 with (go_at_call 39; (with_reducible refine (HR.out _).mono ?_); rintro e w2 ⟨v0, rfl, hs, hb2⟩; obtain ⟨A, cA, rfl, hcA, hC⟩ := Kd.R_reads (Kd.S_R hs); have HRr := Lib.hid (Kd.S_R hs); have HC := Lib.hid hC; have HB2 := Lib.hid hb2; clear hs hb2 hC)
  have hb2 : RfAt w2 b (t ++ q) n 0 0 0 0 false := blk_below HW.out HB2.out
  have hz2 := blk_below HZ.out HB2.out
  rw [setSize] at hz2
  have HQ2 := Lib.hid (HQ.out.below HB2.out)
  obtain ⟨-, d1, -⟩ := hb2.cells
  obtain ⟨-, g1, -⟩ := hb2.free
  have l1 := blt hz2
  have l2 := blt hb2
  have hne : b ≠ w.heap.size := by omega
  have HZ2 := Lib.hid hz2
  have HBk := Lib.hid hb2
  have HRL := Lib.hid (rws_len rs)
  have hm' : m ≤ (rws rs).length := by rw [HRL.out]; exact hm
  have n0 : (0 : Int) ≤ (n : Int) := Int.natCast_nonneg _
  have n1 : (n : Int) ≤ (m : Int) := by omega
  have n2 : (m : Int) ≤ (cA : Int) := by omega
  have n3 : (0 : Int) ≤ (m : Int) := Int.natCast_nonneg _
  clear hz2 hb2 c0 c1 c2 c3 c4 c5 c6 c7 f0 hcv0 hz'
  have HWb : Hid (RfAt ((w2.setCell ⟨b, 1, none⟩ (.int .i64 (m : Int))).alloc (.cells #[.int .i64 c, .int .i64 l, .int .i64 k, .int .i64 a, .int .i64 0] 46)) b (t ++ q) m 0 0 0 0 false) := Lib.hid (blk_alloc (blk_put HBk.out 1 (.int .i64 (m : Int)) rfl) _)
  have HWf : Hid (((w2.setCell ⟨b, 1, none⟩ (.int .i64 (m : Int))).alloc (.cells #[.int .i64 c, .int .i64 l, .int .i64 k, .int .i64 a, .int .i64 0] 46)).heap[w2.heap.size]? = some (.cells #[.int .i64 c, .int .i64 l, .int .i64 k, .int .i64 a, .int .i64 0] 46)) := Lib.hid (by have := blk_new (w2.setCell ⟨b, 1, none⟩ (.int .i64 (m : Int))) (.cells #[.int .i64 c, .int .i64 l, .int .i64 k, .int .i64 a, .int .i64 0] 46); rwa [setSize] at this)
  have HWz := Lib.hid (blk_alloc ((((Fq.refl b w2).set 1 (.int .i64 (m : Int))).keep w.heap.size l1 (Ne.symm hne)).trans HZ2.out) (.cells #[.int .i64 c, .int .i64 l, .int .i64 k, .int .i64 a, .int .i64 0] 46))
  have HWq := Lib.hid ((HQ2.out.set 1 (.int .i64 (m : Int))).alloc (.cells #[.int .i64 c, .int .i64 l, .int .i64 k, .int .i64 a, .int .i64 0] 46))
  have HS6 := Lib.hid (And.intro HWb.out.cells.1 (And.intro ((bcell HWf.out 0).trans rfl) (And.intro ((bcell HWf.out 1).trans rfl) (And.intro ((bcell HWf.out 2).trans rfl) (And.intro ((bcell HWf.out 3).trans rfl) ((bcell HWf.out 4).trans rfl))))))
  -- FROM HERE
  cases A with
  | none =>
    have h0 : (rws rs).length = 0 := by
      rcases Nat.eq_zero_or_pos (rws rs).length with q | q
      · exact q
      · obtain ⟨_, _, h3⟩ := HC.out
        obtain ⟨a, e, _⟩ := h3 q
        cases e
    obtain rfl : rs = [] := List.eq_nil_of_length_eq_zero (by rw [← HRL.out]; exact h0)
    obtain rfl : m = 0 := by simpa using hm
    obtain rfl : n = 0 := by omega
    go_wp2
    cases sh with
    | true =>
      go_region_held3 (fun w' => w'.cell? ⟨b, 0, none⟩ = some (.string (t ++ q)) ∧ w'.cell? ⟨w2.heap.size, 0, none⟩ = some (.int .i64 c) ∧ w'.cell? ⟨w2.heap.size, 1, none⟩ = some (.int .i64 l) ∧ w'.cell? ⟨w2.heap.size, 2, none⟩ = some (.int .i64 k) ∧ w'.cell? ⟨w2.heap.size, 3, none⟩ = some (.int .i64 a) ∧ w'.cell? ⟨w2.heap.size, 4, none⟩ = some (.int .i64 0)) (first | exact HS6.out | exact ⟨kc hb4 HS6.out.1, kc hb4 HS6.out.2.1, kc hb4 HS6.out.2.2.1, kc hb4 HS6.out.2.2.2.1, kc hb4 HS6.out.2.2.2.2.1, kc hb4 HS6.out.2.2.2.2.2⟩) (first | (go_at_call 46; (with_reducible refine (HSh.out _).mono ?_); rintro ev w4 ⟨rfl, hb4⟩))
      have HB4 := Lib.hid hb4
      have hb5 : RfAt w4 b (t ++ q) 0 0 0 0 0 false := blk_below (blk_drew HWb.out) HB4.out
      have hz5 := blk_below (blk_drew HWz.out) HB4.out
      have hf5 := blk_below (blk_drew HWf.out) HB4.out
      have HQ5 := Lib.hid (HWq.out.drew.below HB4.out)
      obtain ⟨-, -, e2, e3, e4, e5, e6, -⟩ := hb5.cells
      obtain ⟨-, -, x2, x3, x4, x5, x6, -⟩ := hb5.free
      have z0 : w4.cell? ⟨w.heap.size, 0, none⟩ = some (.int .i64 0) := (bcell hz5 0).trans rfl
      have y0 := bfree hz5 0
      have p0 : w4.cell? ⟨w2.heap.size, 0, none⟩ = some (.int .i64 c) := (bcell hf5 0).trans rfl
      have z1 : w4.cell? ⟨w.heap.size, 1, none⟩ = some (.int .i64 0) := (bcell hz5 1).trans rfl
      have y1 := bfree hz5 1
      have p1 : w4.cell? ⟨w2.heap.size, 1, none⟩ = some (.int .i64 l) := (bcell hf5 1).trans rfl
      have z2 : w4.cell? ⟨w.heap.size, 2, none⟩ = some (.int .i64 0) := (bcell hz5 2).trans rfl
      have y2 := bfree hz5 2
      have p2 : w4.cell? ⟨w2.heap.size, 2, none⟩ = some (.int .i64 k) := (bcell hf5 2).trans rfl
      have z3 : w4.cell? ⟨w.heap.size, 3, none⟩ = some (.int .i64 0) := (bcell hz5 3).trans rfl
      have y3 := bfree hz5 3
      have p3 : w4.cell? ⟨w2.heap.size, 3, none⟩ = some (.int .i64 a) := (bcell hf5 3).trans rfl
      have z4 : w4.cell? ⟨w.heap.size, 4, none⟩ = some (.int .i64 0) := (bcell hz5 4).trans rfl
      have y4 := bfree hz5 4
      have p4 : w4.cell? ⟨w2.heap.size, 4, none⟩ = some (.int .i64 0) := (bcell hf5 4).trans rfl
      have l4 := blt hz5
      have l5 := blt hb5
      have l6 := blt hf5
      have HZ5 := Lib.hid hz5
      have HB5 := Lib.hid hb5
      clear hz5 hb5 hf5 hb4
      go_wp2
      go_region
      go_wp2
      refine bodyPost_ret (results_tc rfl _ _ w.heap.size 46 #[.int .i64 c, .int .i64 l, .int .i64 k, .int .i64 a, .int .i64 0] (0, 0) _ rfl (blk_drew (put5_blk (w := (put5b w4 b c l k a 0)) ((put5b_fq w4 b c l k a 0).keep _ l4 (Ne.symm hne) |>.trans HZ5.out) _ _ _ _ _)) Tryz.underlying46 rfl (by kernel_rfl)) rfl ?_
      have HF := Lib.hid (put5_fq (put5b w4 b c l k a 0) w.heap.size c l k a 0).drew
      have r1 := rows_fq HRr.out HBk.out (by decide) ((Fq.below ((Fq.refl _ _).set 1 _ |>.alloc _).drew HB4.out).trans (put5b_fq w4 b c l k a 0))
      have r2 := rows_fq r1 ((put5b_fq w4 b c l k a 0).keep _ l4 (Ne.symm hne) |>.trans HZ5.out) (by decide) HF.out
      obtain ⟨_, _, hC5⟩ := Kd.R_reads' r2
      refine ⟨_, rfl, ?_, ?_, ?_⟩
      · exact rowsIn_none _ _ _
      · exact (HF.out.keep b (Nat.lt_of_lt_of_le l5 (put5b_fq w4 b c l k a 0).size) hne).trans (put5b_blk HB5.out _ _ _ _ _ rfl)
      · exact (put5_new (HQ5.out.trans (put5b_fq w4 b c l k a 0)) (Nat.le_refl _) c l k a 0).drew
    | false =>
      go_region_held3 (fun w' => w'.cell? ⟨b, 0, none⟩ = some (.string (t ++ q)) ∧ w'.cell? ⟨w2.heap.size, 0, none⟩ = some (.int .i64 c) ∧ w'.cell? ⟨w2.heap.size, 1, none⟩ = some (.int .i64 l) ∧ w'.cell? ⟨w2.heap.size, 2, none⟩ = some (.int .i64 k) ∧ w'.cell? ⟨w2.heap.size, 3, none⟩ = some (.int .i64 a) ∧ w'.cell? ⟨w2.heap.size, 4, none⟩ = some (.int .i64 0)) (first | exact HS6.out | exact ⟨kc hb4 HS6.out.1, kc hb4 HS6.out.2.1, kc hb4 HS6.out.2.2.1, kc hb4 HS6.out.2.2.2.1, kc hb4 HS6.out.2.2.2.2.1, kc hb4 HS6.out.2.2.2.2.2⟩) (first | (go_at_call 46; (with_reducible refine (HSh.out _).mono ?_); rintro ev w4 ⟨rfl, hb4⟩))
      have HB4 := Lib.hid hb4
      have hb5 : RfAt w4 b (t ++ q) 0 0 0 0 0 false := blk_below (blk_drew HWb.out) HB4.out
      have hz5 := blk_below (blk_drew HWz.out) HB4.out
      have hf5 := blk_below (blk_drew HWf.out) HB4.out
      have HQ5 := Lib.hid (HWq.out.drew.below HB4.out)
      obtain ⟨-, -, e2, e3, e4, e5, e6, -⟩ := hb5.cells
      obtain ⟨-, -, x2, x3, x4, x5, x6, -⟩ := hb5.free
      have z0 : w4.cell? ⟨w.heap.size, 0, none⟩ = some (.int .i64 0) := (bcell hz5 0).trans rfl
      have y0 := bfree hz5 0
      have p0 : w4.cell? ⟨w2.heap.size, 0, none⟩ = some (.int .i64 c) := (bcell hf5 0).trans rfl
      have z1 : w4.cell? ⟨w.heap.size, 1, none⟩ = some (.int .i64 0) := (bcell hz5 1).trans rfl
      have y1 := bfree hz5 1
      have p1 : w4.cell? ⟨w2.heap.size, 1, none⟩ = some (.int .i64 l) := (bcell hf5 1).trans rfl
      have z2 : w4.cell? ⟨w.heap.size, 2, none⟩ = some (.int .i64 0) := (bcell hz5 2).trans rfl
      have y2 := bfree hz5 2
      have p2 : w4.cell? ⟨w2.heap.size, 2, none⟩ = some (.int .i64 k) := (bcell hf5 2).trans rfl
      have z3 : w4.cell? ⟨w.heap.size, 3, none⟩ = some (.int .i64 0) := (bcell hz5 3).trans rfl
      have y3 := bfree hz5 3
      have p3 : w4.cell? ⟨w2.heap.size, 3, none⟩ = some (.int .i64 a) := (bcell hf5 3).trans rfl
      have z4 : w4.cell? ⟨w.heap.size, 4, none⟩ = some (.int .i64 0) := (bcell hz5 4).trans rfl
      have y4 := bfree hz5 4
      have p4 : w4.cell? ⟨w2.heap.size, 4, none⟩ = some (.int .i64 0) := (bcell hf5 4).trans rfl
      have l4 := blt hz5
      have l5 := blt hb5
      have l6 := blt hf5
      have HZ5 := Lib.hid hz5
      have HB5 := Lib.hid hb5
      clear hz5 hb5 hf5 hb4
      go_wp2
      go_region
      go_wp2
      refine bodyPost_ret (results_tc rfl _ _ w.heap.size 46 #[.int .i64 0, .int .i64 0, .int .i64 0, .int .i64 0, .int .i64 0] (0, 0) _ rfl (blk_drew (put5_blk (w := w4) HZ5.out _ _ _ _ _)) Tryz.underlying46 rfl (by kernel_rfl)) rfl ?_
      have HF := Lib.hid (put5_fq w4 w.heap.size 0 0 0 0 0).drew
      have r1 := rows_fq HRr.out HBk.out (by decide) (Fq.below ((Fq.refl _ _).set 1 _ |>.alloc _).drew HB4.out)
      have r2 := rows_fq r1 HZ5.out (by decide) HF.out
      obtain ⟨_, _, hC5⟩ := Kd.R_reads' r2
      refine ⟨_, rfl, ?_, ?_, ?_⟩
      · exact rowsIn_none _ _ _
      · exact (HF.out.keep b l5 hne).trans HB5.out
      · exact (put5_new HQ5.out (Nat.le_refl _) 0 0 0 0 0).drew
  | some ad =>
    go_wp2
    case inl =>
      cases sh with
      | true =>
        go_region_held3 (fun w' => w'.cell? ⟨b, 0, none⟩ = some (.string (t ++ q)) ∧ w'.cell? ⟨w2.heap.size, 0, none⟩ = some (.int .i64 c) ∧ w'.cell? ⟨w2.heap.size, 1, none⟩ = some (.int .i64 l) ∧ w'.cell? ⟨w2.heap.size, 2, none⟩ = some (.int .i64 k) ∧ w'.cell? ⟨w2.heap.size, 3, none⟩ = some (.int .i64 a) ∧ w'.cell? ⟨w2.heap.size, 4, none⟩ = some (.int .i64 0)) (first | exact HS6.out | exact ⟨kc hb4 HS6.out.1, kc hb4 HS6.out.2.1, kc hb4 HS6.out.2.2.1, kc hb4 HS6.out.2.2.2.1, kc hb4 HS6.out.2.2.2.2.1, kc hb4 HS6.out.2.2.2.2.2⟩) (first | (go_at_call 46; (with_reducible refine (HSh.out _).mono ?_); rintro ev w4 ⟨rfl, hb4⟩))
        have HB4 := Lib.hid hb4
        have hb5 : RfAt w4 b (t ++ q) m 0 0 0 0 false := blk_below (blk_drew HWb.out) HB4.out
        have hz5 := blk_below (blk_drew HWz.out) HB4.out
        have hf5 := blk_below (blk_drew HWf.out) HB4.out
        have HQ5 := Lib.hid (HWq.out.drew.below HB4.out)
        obtain ⟨-, -, e2, e3, e4, e5, e6, -⟩ := hb5.cells
        obtain ⟨-, -, x2, x3, x4, x5, x6, -⟩ := hb5.free
        have z0 : w4.cell? ⟨w.heap.size, 0, none⟩ = some (.int .i64 0) := (bcell hz5 0).trans rfl
        have y0 := bfree hz5 0
        have p0 : w4.cell? ⟨w2.heap.size, 0, none⟩ = some (.int .i64 c) := (bcell hf5 0).trans rfl
        have z1 : w4.cell? ⟨w.heap.size, 1, none⟩ = some (.int .i64 0) := (bcell hz5 1).trans rfl
        have y1 := bfree hz5 1
        have p1 : w4.cell? ⟨w2.heap.size, 1, none⟩ = some (.int .i64 l) := (bcell hf5 1).trans rfl
        have z2 : w4.cell? ⟨w.heap.size, 2, none⟩ = some (.int .i64 0) := (bcell hz5 2).trans rfl
        have y2 := bfree hz5 2
        have p2 : w4.cell? ⟨w2.heap.size, 2, none⟩ = some (.int .i64 k) := (bcell hf5 2).trans rfl
        have z3 : w4.cell? ⟨w.heap.size, 3, none⟩ = some (.int .i64 0) := (bcell hz5 3).trans rfl
        have y3 := bfree hz5 3
        have p3 : w4.cell? ⟨w2.heap.size, 3, none⟩ = some (.int .i64 a) := (bcell hf5 3).trans rfl
        have z4 : w4.cell? ⟨w.heap.size, 4, none⟩ = some (.int .i64 0) := (bcell hz5 4).trans rfl
        have y4 := bfree hz5 4
        have p4 : w4.cell? ⟨w2.heap.size, 4, none⟩ = some (.int .i64 0) := (bcell hf5 4).trans rfl
        have l4 := blt hz5
        have l5 := blt hb5
        have l6 := blt hf5
        have HZ5 := Lib.hid hz5
        have HB5 := Lib.hid hb5
        clear hz5 hb5 hf5 hb4
        go_wp2
        go_region
        go_wp2
        refine bodyPost_ret (results_tc rfl _ _ w.heap.size 46 #[.int .i64 c, .int .i64 l, .int .i64 k, .int .i64 a, .int .i64 0] (0, 0) _ rfl (blk_drew (put5_blk (w := (put5b w4 b c l k a 0)) ((put5b_fq w4 b c l k a 0).keep _ l4 (Ne.symm hne) |>.trans HZ5.out) _ _ _ _ _)) Tryz.underlying46 rfl (by kernel_rfl)) rfl ?_
        have HF := Lib.hid (put5_fq (put5b w4 b c l k a 0) w.heap.size c l k a 0).drew
        have r1 := rows_fq HRr.out HBk.out (by decide) ((Fq.below ((Fq.refl _ _).set 1 _ |>.alloc _).drew HB4.out).trans (put5b_fq w4 b c l k a 0))
        have r2 := rows_fq r1 ((put5b_fq w4 b c l k a 0).keep _ l4 (Ne.symm hne) |>.trans HZ5.out) (by decide) HF.out
        obtain ⟨_, _, hC5⟩ := Kd.R_reads' r2
        refine ⟨_, rfl, ?_, ?_, ?_⟩
        · show RowsIn _ (.slice (some ad) (m - n) 0) _; rw [show m - n = 0 by omega, List.drop_eq_nil_of_le (by rw [List.length_take]; omega)]; exact rowsIn_none _ _ _
        · exact (HF.out.keep b (Nat.lt_of_lt_of_le l5 (put5b_fq w4 b c l k a 0).size) hne).trans (put5b_blk HB5.out _ _ _ _ _ rfl)
        · exact (put5_new (HQ5.out.trans (put5b_fq w4 b c l k a 0)) (Nat.le_refl _) c l k a 0).drew
      | false =>
        go_region_held3 (fun w' => w'.cell? ⟨b, 0, none⟩ = some (.string (t ++ q)) ∧ w'.cell? ⟨w2.heap.size, 0, none⟩ = some (.int .i64 c) ∧ w'.cell? ⟨w2.heap.size, 1, none⟩ = some (.int .i64 l) ∧ w'.cell? ⟨w2.heap.size, 2, none⟩ = some (.int .i64 k) ∧ w'.cell? ⟨w2.heap.size, 3, none⟩ = some (.int .i64 a) ∧ w'.cell? ⟨w2.heap.size, 4, none⟩ = some (.int .i64 0)) (first | exact HS6.out | exact ⟨kc hb4 HS6.out.1, kc hb4 HS6.out.2.1, kc hb4 HS6.out.2.2.1, kc hb4 HS6.out.2.2.2.1, kc hb4 HS6.out.2.2.2.2.1, kc hb4 HS6.out.2.2.2.2.2⟩) (first | (go_at_call 46; (with_reducible refine (HSh.out _).mono ?_); rintro ev w4 ⟨rfl, hb4⟩))
        have HB4 := Lib.hid hb4
        have hb5 : RfAt w4 b (t ++ q) m 0 0 0 0 false := blk_below (blk_drew HWb.out) HB4.out
        have hz5 := blk_below (blk_drew HWz.out) HB4.out
        have hf5 := blk_below (blk_drew HWf.out) HB4.out
        have HQ5 := Lib.hid (HWq.out.drew.below HB4.out)
        obtain ⟨-, -, e2, e3, e4, e5, e6, -⟩ := hb5.cells
        obtain ⟨-, -, x2, x3, x4, x5, x6, -⟩ := hb5.free
        have z0 : w4.cell? ⟨w.heap.size, 0, none⟩ = some (.int .i64 0) := (bcell hz5 0).trans rfl
        have y0 := bfree hz5 0
        have p0 : w4.cell? ⟨w2.heap.size, 0, none⟩ = some (.int .i64 c) := (bcell hf5 0).trans rfl
        have z1 : w4.cell? ⟨w.heap.size, 1, none⟩ = some (.int .i64 0) := (bcell hz5 1).trans rfl
        have y1 := bfree hz5 1
        have p1 : w4.cell? ⟨w2.heap.size, 1, none⟩ = some (.int .i64 l) := (bcell hf5 1).trans rfl
        have z2 : w4.cell? ⟨w.heap.size, 2, none⟩ = some (.int .i64 0) := (bcell hz5 2).trans rfl
        have y2 := bfree hz5 2
        have p2 : w4.cell? ⟨w2.heap.size, 2, none⟩ = some (.int .i64 k) := (bcell hf5 2).trans rfl
        have z3 : w4.cell? ⟨w.heap.size, 3, none⟩ = some (.int .i64 0) := (bcell hz5 3).trans rfl
        have y3 := bfree hz5 3
        have p3 : w4.cell? ⟨w2.heap.size, 3, none⟩ = some (.int .i64 a) := (bcell hf5 3).trans rfl
        have z4 : w4.cell? ⟨w.heap.size, 4, none⟩ = some (.int .i64 0) := (bcell hz5 4).trans rfl
        have y4 := bfree hz5 4
        have p4 : w4.cell? ⟨w2.heap.size, 4, none⟩ = some (.int .i64 0) := (bcell hf5 4).trans rfl
        have l4 := blt hz5
        have l5 := blt hb5
        have l6 := blt hf5
        have HZ5 := Lib.hid hz5
        have HB5 := Lib.hid hb5
        clear hz5 hb5 hf5 hb4
        go_wp2
        go_region
        go_wp2
        refine bodyPost_ret (results_tc rfl _ _ w.heap.size 46 #[.int .i64 0, .int .i64 0, .int .i64 0, .int .i64 0, .int .i64 0] (0, 0) _ rfl (blk_drew (put5_blk (w := w4) HZ5.out _ _ _ _ _)) Tryz.underlying46 rfl (by kernel_rfl)) rfl ?_
        have HF := Lib.hid (put5_fq w4 w.heap.size 0 0 0 0 0).drew
        have r1 := rows_fq HRr.out HBk.out (by decide) (Fq.below ((Fq.refl _ _).set 1 _ |>.alloc _).drew HB4.out)
        have r2 := rows_fq r1 HZ5.out (by decide) HF.out
        obtain ⟨_, _, hC5⟩ := Kd.R_reads' r2
        refine ⟨_, rfl, ?_, ?_, ?_⟩
        · show RowsIn _ (.slice (some ad) (m - n) 0) _; rw [show m - n = 0 by omega, List.drop_eq_nil_of_le (by rw [List.length_take]; omega)]; exact rowsIn_none _ _ _
        · exact (HF.out.keep b l5 hne).trans HB5.out
        · exact (put5_new HQ5.out (Nat.le_refl _) 0 0 0 0 0).drew
    case inr =>
      cases sh with
      | true =>
        go_region_held3 (fun w' => w'.cell? ⟨b, 0, none⟩ = some (.string (t ++ q)) ∧ w'.cell? ⟨w2.heap.size, 0, none⟩ = some (.int .i64 c) ∧ w'.cell? ⟨w2.heap.size, 1, none⟩ = some (.int .i64 l) ∧ w'.cell? ⟨w2.heap.size, 2, none⟩ = some (.int .i64 k) ∧ w'.cell? ⟨w2.heap.size, 3, none⟩ = some (.int .i64 a) ∧ w'.cell? ⟨w2.heap.size, 4, none⟩ = some (.int .i64 0)) (first | exact HS6.out | exact ⟨kc hb4 HS6.out.1, kc hb4 HS6.out.2.1, kc hb4 HS6.out.2.2.1, kc hb4 HS6.out.2.2.2.1, kc hb4 HS6.out.2.2.2.2.1, kc hb4 HS6.out.2.2.2.2.2⟩) (first | (go_at_call 46; (with_reducible refine (HSh.out _).mono ?_); rintro ev w4 ⟨rfl, hb4⟩))
        have HB4 := Lib.hid hb4
        have hb5 : RfAt w4 b (t ++ q) m 0 0 0 0 false := blk_below (blk_drew HWb.out) HB4.out
        have hz5 := blk_below (blk_drew HWz.out) HB4.out
        have hf5 := blk_below (blk_drew HWf.out) HB4.out
        have HQ5 := Lib.hid (HWq.out.drew.below HB4.out)
        obtain ⟨-, -, e2, e3, e4, e5, e6, -⟩ := hb5.cells
        obtain ⟨-, -, x2, x3, x4, x5, x6, -⟩ := hb5.free
        have z0 : w4.cell? ⟨w.heap.size, 0, none⟩ = some (.int .i64 0) := (bcell hz5 0).trans rfl
        have y0 := bfree hz5 0
        have p0 : w4.cell? ⟨w2.heap.size, 0, none⟩ = some (.int .i64 c) := (bcell hf5 0).trans rfl
        have z1 : w4.cell? ⟨w.heap.size, 1, none⟩ = some (.int .i64 0) := (bcell hz5 1).trans rfl
        have y1 := bfree hz5 1
        have p1 : w4.cell? ⟨w2.heap.size, 1, none⟩ = some (.int .i64 l) := (bcell hf5 1).trans rfl
        have z2 : w4.cell? ⟨w.heap.size, 2, none⟩ = some (.int .i64 0) := (bcell hz5 2).trans rfl
        have y2 := bfree hz5 2
        have p2 : w4.cell? ⟨w2.heap.size, 2, none⟩ = some (.int .i64 k) := (bcell hf5 2).trans rfl
        have z3 : w4.cell? ⟨w.heap.size, 3, none⟩ = some (.int .i64 0) := (bcell hz5 3).trans rfl
        have y3 := bfree hz5 3
        have p3 : w4.cell? ⟨w2.heap.size, 3, none⟩ = some (.int .i64 a) := (bcell hf5 3).trans rfl
        have z4 : w4.cell? ⟨w.heap.size, 4, none⟩ = some (.int .i64 0) := (bcell hz5 4).trans rfl
        have y4 := bfree hz5 4
        have p4 : w4.cell? ⟨w2.heap.size, 4, none⟩ = some (.int .i64 0) := (bcell hf5 4).trans rfl
        have l4 := blt hz5
        have l5 := blt hb5
        have l6 := blt hf5
        have HZ5 := Lib.hid hz5
        have HB5 := Lib.hid hb5
        clear hz5 hb5 hf5 hb4
        go_wp2
        go_region
        go_wp2
        refine bodyPost_ret (results_tc rfl _ _ w.heap.size 46 #[.int .i64 c, .int .i64 l, .int .i64 k, .int .i64 a, .int .i64 0] (0, 0) _ rfl (blk_drew (put5_blk (w := (put5b w4 b c l k a 0)) ((put5b_fq w4 b c l k a 0).keep _ l4 (Ne.symm hne) |>.trans HZ5.out) _ _ _ _ _)) Tryz.underlying46 rfl (by kernel_rfl)) rfl ?_
        have HF := Lib.hid (put5_fq (put5b w4 b c l k a 0) w.heap.size c l k a 0).drew
        have r1 := rows_fq HRr.out HBk.out (by decide) ((Fq.below ((Fq.refl _ _).set 1 _ |>.alloc _).drew HB4.out).trans (put5b_fq w4 b c l k a 0))
        have r2 := rows_fq r1 ((put5b_fq w4 b c l k a 0).keep _ l4 (Ne.symm hne) |>.trans HZ5.out) (by decide) HF.out
        obtain ⟨_, _, hC5⟩ := Kd.R_reads' r2
        refine ⟨_, rfl, ?_, ?_, ?_⟩
        · exact rowsIn_part hC5 n m _ hm hn
        · exact (HF.out.keep b (Nat.lt_of_lt_of_le l5 (put5b_fq w4 b c l k a 0).size) hne).trans (put5b_blk HB5.out _ _ _ _ _ rfl)
        · exact (put5_new (HQ5.out.trans (put5b_fq w4 b c l k a 0)) (Nat.le_refl _) c l k a 0).drew
      | false =>
        go_region_held3 (fun w' => w'.cell? ⟨b, 0, none⟩ = some (.string (t ++ q)) ∧ w'.cell? ⟨w2.heap.size, 0, none⟩ = some (.int .i64 c) ∧ w'.cell? ⟨w2.heap.size, 1, none⟩ = some (.int .i64 l) ∧ w'.cell? ⟨w2.heap.size, 2, none⟩ = some (.int .i64 k) ∧ w'.cell? ⟨w2.heap.size, 3, none⟩ = some (.int .i64 a) ∧ w'.cell? ⟨w2.heap.size, 4, none⟩ = some (.int .i64 0)) (first | exact HS6.out | exact ⟨kc hb4 HS6.out.1, kc hb4 HS6.out.2.1, kc hb4 HS6.out.2.2.1, kc hb4 HS6.out.2.2.2.1, kc hb4 HS6.out.2.2.2.2.1, kc hb4 HS6.out.2.2.2.2.2⟩) (first | (go_at_call 46; (with_reducible refine (HSh.out _).mono ?_); rintro ev w4 ⟨rfl, hb4⟩))
        have HB4 := Lib.hid hb4
        have hb5 : RfAt w4 b (t ++ q) m 0 0 0 0 false := blk_below (blk_drew HWb.out) HB4.out
        have hz5 := blk_below (blk_drew HWz.out) HB4.out
        have hf5 := blk_below (blk_drew HWf.out) HB4.out
        have HQ5 := Lib.hid (HWq.out.drew.below HB4.out)
        obtain ⟨-, -, e2, e3, e4, e5, e6, -⟩ := hb5.cells
        obtain ⟨-, -, x2, x3, x4, x5, x6, -⟩ := hb5.free
        have z0 : w4.cell? ⟨w.heap.size, 0, none⟩ = some (.int .i64 0) := (bcell hz5 0).trans rfl
        have y0 := bfree hz5 0
        have p0 : w4.cell? ⟨w2.heap.size, 0, none⟩ = some (.int .i64 c) := (bcell hf5 0).trans rfl
        have z1 : w4.cell? ⟨w.heap.size, 1, none⟩ = some (.int .i64 0) := (bcell hz5 1).trans rfl
        have y1 := bfree hz5 1
        have p1 : w4.cell? ⟨w2.heap.size, 1, none⟩ = some (.int .i64 l) := (bcell hf5 1).trans rfl
        have z2 : w4.cell? ⟨w.heap.size, 2, none⟩ = some (.int .i64 0) := (bcell hz5 2).trans rfl
        have y2 := bfree hz5 2
        have p2 : w4.cell? ⟨w2.heap.size, 2, none⟩ = some (.int .i64 k) := (bcell hf5 2).trans rfl
        have z3 : w4.cell? ⟨w.heap.size, 3, none⟩ = some (.int .i64 0) := (bcell hz5 3).trans rfl
        have y3 := bfree hz5 3
        have p3 : w4.cell? ⟨w2.heap.size, 3, none⟩ = some (.int .i64 a) := (bcell hf5 3).trans rfl
        have z4 : w4.cell? ⟨w.heap.size, 4, none⟩ = some (.int .i64 0) := (bcell hz5 4).trans rfl
        have y4 := bfree hz5 4
        have p4 : w4.cell? ⟨w2.heap.size, 4, none⟩ = some (.int .i64 0) := (bcell hf5 4).trans rfl
        have l4 := blt hz5
        have l5 := blt hb5
        have l6 := blt hf5
        have HZ5 := Lib.hid hz5
        have HB5 := Lib.hid hb5
        clear hz5 hb5 hf5 hb4
        go_wp2
        go_region
        go_wp2
        refine bodyPost_ret (results_tc rfl _ _ w.heap.size 46 #[.int .i64 0, .int .i64 0, .int .i64 0, .int .i64 0, .int .i64 0] (0, 0) _ rfl (blk_drew (put5_blk (w := w4) HZ5.out _ _ _ _ _)) Tryz.underlying46 rfl (by kernel_rfl)) rfl ?_
        have HF := Lib.hid (put5_fq w4 w.heap.size 0 0 0 0 0).drew
        have r1 := rows_fq HRr.out HBk.out (by decide) (Fq.below ((Fq.refl _ _).set 1 _ |>.alloc _).drew HB4.out)
        have r2 := rows_fq r1 HZ5.out (by decide) HF.out
        obtain ⟨_, _, hC5⟩ := Kd.R_reads' r2
        refine ⟨_, rfl, ?_, ?_, ?_⟩
        · exact rowsIn_part hC5 n m _ hm hn
        · exact (HF.out.keep b l5 hne).trans HB5.out
        · exact (put5_new HQ5.out (Nat.le_refl _) 0 0 0 0 0).drew
  -- TO HERE
end Go.Proofs.YtappphffbnkloaaGreatDoor.Sht
set_option linter.unusedVariables false
set_option linter.unusedSimpArgs false
namespace Go.Proofs.YtappphffbnkloaaGreatDoor.Sht
open Go Go.RowKit Go.Proofs.YtappphffbnkloaaGreatDoorW.PrintWords Go.Proofs.YtappphffbnkloaaGreatDoor.GS
attribute [local go_sem ↓] Go.wp_at_zero Go.wp_at_succ
theorem info30 : (Tryz.prog.info? 30).map (fun i => (i.zero, i.size, i.bytes)) = some (some (.slice none 0 0), 1, 24) := by kernel_rfl
/-- the books' block is none of the entries' -/
theorem bk_apart {w : World} {B bk : Nat} {tv t0 rv r0 : Value} {L : List En} (h : BkAt w bk tv t0 rv r0) (hL : OwnsAll w B L) (ht : ∀ x ∈ L, x.1 ≠ 36) : bk ∉ blks L := fun hm => by
  obtain ⟨x, hx, hj⟩ := List.mem_flatMap.1 hm
  obtain ⟨cs, hc⟩ := kind_row (hL.own x hx) bk (mem_ob.1 hj)
  rw [h] at hc
  exact ht x hx (Obj.cells.inj (Option.some.inj hc)).2.1.symm
theorem Bf.trans2 {bk : Nat} {tv t0 rv r0 tv' t0' : Value} {w wr w2 : World} (h : Bf bk [tv, t0, rv, r0] w wr) (k : Bf bk [tv', t0'] wr w2) (n1 : Nb w tv tv') (n2 : Nb w t0 t0') : Bf bk [tv, t0, rv, r0] w w2 :=
  ⟨k.os.trans h.os, k.tape.trans h.tape, k.output.trans h.output, Nat.le_trans h.size k.size, fun j hj hb hv => (k.keep j (Nat.lt_of_lt_of_le hj h.size) hb (fun v hv' e => by
    rcases List.mem_cons.1 hv' with rfl | hv'
    · rcases n1 j e with q | q
      · exact hv tv (by simp) q
      · omega
    · obtain rfl : v = t0' := by simpa using hv'
      rcases n2 j e with q | q
      · exact hv t0 (by simp) q
      · omega)).trans (h.keep j hj hb hv)⟩
theorem Nb.refl (w : World) (v : Value) : Nb w v v := fun _ h => .inl h
theorem Nb.trans {w wr : World} {v v' v'' : Value} (h : Nb w v v') (k : Nb wr v' v'') (hs : w.heap.size ≤ wr.heap.size) : Nb w v v'' := fun j hj => by
  rcases k j hj with q | q
  · exact h j q
  · exact .inr (Nat.le_trans hs q)
theorem Bf.refl (bk : Nat) (vs : List Value) (w : World) : Bf bk vs w w := ⟨rfl, rfl, rfl, Nat.le_refl _, fun _ _ _ _ => rfl⟩
/-- copies of rows -/
def Cop (C : List En) (cs : List Value) (rs : Rows) (k : Nat) : Prop := cs.length = k ∧ (∀ x ∈ C, x.1 = 9) ∧ ∀ i (h : i < rs.length), i < k → ∃ c, cs[i]? = some c ∧ (9, c, sts rs[i]) ∈ C
theorem Cop.snoc {C : List En} {cs : List Value} {rs : Rows} {k : Nat} {c : Value} (h : Cop C cs rs k) (hk : k < rs.length) : Cop ((9, c, sts rs[k]) :: C) (cs ++ [c]) rs (k + 1) := by
  obtain ⟨h1, h2, h3⟩ := h
  refine ⟨by simp [h1], fun x hx => ?_, fun i hi hik => ?_⟩
  · rcases List.mem_cons.1 hx with rfl | hx
    · rfl
    · exact h2 x hx
  · by_cases e : i < k
    · obtain ⟨c0, q1, q2⟩ := h3 i hi e
      exact ⟨c0, by rw [List.getElem?_append_left (by omega)]; exact q1, List.mem_cons_of_mem _ q2⟩
    · obtain rfl : i = k := by omega
      exact ⟨c, by rw [List.getElem?_append_right (by omega), h1, Nat.sub_self]; rfl, List.mem_cons_self⟩
theorem types_ok {C L : List En} (hc : ∀ x ∈ C, x.1 = 9) (hl : ∀ x ∈ L, x.1 ≠ 36) : ∀ x ∈ C ++ L, x.1 ≠ 36 := fun x hx => by
  rcases List.mem_append.1 hx with hx | hx
  · rw [hc x hx]; decide
  · exact hl x hx
theorem types_cons {x : En} {L : List En} (hx : x.1 ≠ 36) (hl : ∀ y ∈ L, y.1 ≠ 36) : ∀ y ∈ x :: L, y.1 ≠ 36 := fun y hy => by
  rcases List.mem_cons.1 hy with rfl | hy
  · exact hx
  · exact hl y hy
theorem ne28 : (28 : Nat) ≠ 36 := by decide
theorem ne30 : (30 : Nat) ≠ 36 := by decide
theorem ne9 : (9 : Nat) ≠ 36 := by decide
theorem own_le' {w : World} {B : Nat} {e : TypeId} {x : Option Addr} {m cap n : Nat} {xs : List Value} (h : w.ownsRow B e 1 (.slice x m cap) n xs) : m ≤ cap ∧ cap ≤ 9223372036854775807 := by
  rcases h.2 with ⟨e, rfl⟩ | ⟨g, cap', cur, e, _, _, h1, h2, _⟩
  · injection e with h1 h2 h3
    omega
  · injection e with q1 q2 q3
    have : maxLen = 9223372036854775807 := rfl
    omega
theorem strC_own {w : World} {B : Nat} {x : Option Addr} {cap : Nat} {r : List (List UInt8)} (h : w.ownsRow B 9 1 (.slice x r.length cap) (sts r).length (sts r)) : Kd.string.C w x (txs r).length (txs r) := by
  obtain ⟨h1, h2⟩ := own_le' h
  refine ⟨rfl, by rw [txs_len]; omega, fun hp => ?_⟩
  rw [txs_len] at hp
  obtain ⟨g, cap', e, _, _⟩ := World.ownsRow.form h (by rw [sts_len]; exact hp)
  injection e with e1 e2 e3
  subst e1
  refine ⟨_, rfl, fun j q hj => ⟨[.string q], rfl, rfl, fun i u hu => ?_⟩⟩
  match i, hu with
  | 0, hu =>
    obtain rfl : Value.string q = u := by simpa using hu
    have := World.ownsRow.cells h (g := g) rfl j (.string q) (by
      have hj' : (r.map tx)[j]? = some q := hj
      rw [List.getElem?_map, Option.map_eq_some_iff] at hj'
      obtain ⟨y, hy, rfl⟩ := hj'
      unfold sts
      rw [List.getElem?_map, hy]
      rfl)
    show w.cell? ((⟨g, 0, none⟩ : Addr).add (j * 1 + 0)) = _
    rw [Nat.mul_one, Nat.add_zero]
    exact this
theorem rowsC_own {w : World} {B : Nat} {ax : Option Addr} {capa : Nat} {lv : List Value} {rs : Rows} (h : w.ownsRow B 28 1 (.slice ax rs.length capa) lv.length lv) (hl : lv.length = rs.length)
    (hr : ∀ i (h : i < rs.length), ∃ g cap, lv[i]? = some (.slice (some ⟨g, 0, none⟩) rs[i].length cap) ∧ w.ownsRow B 9 1 (.slice (some ⟨g, 0, none⟩) rs[i].length cap) (sts rs[i]).length (sts rs[i])) : Kd.C (Kd.slice 9 Kd.string) w ax (rws rs).length (rws rs) := by
  obtain ⟨h1, h2⟩ := own_le' h
  refine ⟨rfl, by rw [rws_len]; omega, fun hp => ?_⟩
  rw [rws_len] at hp
  obtain ⟨g, cap', e, _, _⟩ := World.ownsRow.form h (by rw [hl]; exact hp)
  injection e with e1 e2 e3
  subst e1
  refine ⟨_, rfl, fun j q hj => ?_⟩
  obtain ⟨hj1, hj2⟩ := List.getElem?_eq_some_iff.1 hj
  rw [rws_len] at hj1
  obtain ⟨gj, cj, q1, q2⟩ := hr j hj1
  have hq : (rws rs)[j]? = some (txs rs[j]) := by
    unfold rws
    rw [List.getElem?_map, List.getElem?_eq_getElem hj1]
    rfl
  obtain rfl : q = txs rs[j] := Option.some.inj (hj.symm.trans hq)
  refine ⟨[.slice (some ⟨gj, 0, none⟩) rs[j].length cj], rfl, ⟨some ⟨gj, 0, none⟩, cj, by rw [txs_len], by rw [txs_len]; exact (own_le' q2).1, strC_own q2⟩, fun i u hu => ?_⟩
  match i, hu with
  | 0, hu =>
    obtain rfl : Value.slice (some ⟨gj, 0, none⟩) rs[j].length cj = u := by simpa using hu
    have := World.ownsRow.cells h (g := g) rfl j _ q1
    show w.cell? ((⟨g, 0, none⟩ : Addr).add (j * 1 + 0)) = _
    rw [Nat.mul_one, Nat.add_zero]
    exact this
set_option maxHeartbeats 2000000 in
set_option maxRecDepth 100000 in
theorem rows_b (bk B K : Nat) (tv t0 rv r0 : Value) (ax : Option Addr) (capa : Nat) (lv : List Value) (rs : Rows) (xs ys az ss : List Value) (L : List En) (R : ByteArray) (w : World) (hK : larderref01_told.f K (rws rs) = some R)
    (h : BkAt w bk tv t0 rv r0) (hL : OwnsAll w B ((28, tv, xs) :: (28, t0, ys) :: (30, rv, az) :: (9, r0, ss) :: L)) (hty : ∀ x ∈ L, x.1 ≠ 36)
    (ha : (28, .slice ax rs.length capa, lv) ∈ L) (hl : lv.length = rs.length) (hca : rs.length ≤ capa)
    (hrows : ∀ i (h : i < rs.length), ∃ g cap, lv[i]? = some (.slice (some ⟨g, 0, none⟩) rs[i].length cap) ∧ (9, .slice (some ⟨g, 0, none⟩) rs[i].length cap, sts rs[i]) ∈ L ∧ 0 < rs[i].length ∧ rs[i].length ≤ 100)
    (hx : xs.length + rs.length ≤ 4000000000000) (hy : ys.length = xs.length) (haz : az.length ≤ 5000000000000) (hss : ss.length = az.length) (hB : B ≤ w.heap.size) :
    Calls Tryz.prog 13 #[PT bk, .slice ax rs.length capa] w fun e w' => e = .returned (.tuple #[]) ∧ ∃ tv' t0' rv' r0' cs C, BkAt w' bk tv' t0' rv' r0' ∧
      OwnsAll w' B ((28, tv', xs ++ lv) :: (28, t0', ys ++ cs) :: (30, rv', az ++ [.slice ax rs.length capa]) :: (9, r0', ss ++ [.string R]) :: (C ++ L)) ∧ Cop C cs rs rs.length ∧ Bf bk [tv, t0, rv, r0] w w' := by
  have H := Lib.hid h
  have HL := Lib.hid hL
  have HA := Lib.hid ha
  have HR := Lib.hid hrows
  have HT := Lib.hid hty
  have Hl := Lib.hid hl
  have Hy := Lib.hid hy
  have HK := Lib.hid hK
  have hssb : ss.length ≤ 5000000000000 := by omega
  clear h hL ha hrows hty hl hy hK hss
  go_enter Tryz.func13, Tryz.ntmps13
  go_wp2
  go_loopw [4] (fun i wr => ∃ (k : Nat) (tv' t0' : Value) (cs : List Value) (C : List En), k ≤ rs.length ∧ i = .int .i64 (k : Int) ∧ Hid (BkAt wr bk tv' t0' rv r0) ∧ Hid (OwnsAll wr B ((28, tv', xs ++ lv.take k) :: (28, t0', ys ++ cs) :: (30, rv, az) :: (9, r0, ss) :: (C ++ L))) ∧ Hid (Cop C cs rs k) ∧ Hid (Bf bk [tv, t0, rv, r0] w wr) ∧ Hid (Nb w tv tv') ∧ Hid (Nb w t0 t0')) (fun i _ => rs.length - (intOf i).toNat)
  case atStart => exact ⟨0, tv, t0, [], [], Nat.zero_le _, rfl, H, Lib.hid (by simpa using HL.out), Lib.hid ⟨rfl, by simp, fun i _ hi => absurd hi (Nat.not_lt_zero _)⟩, Lib.hid (Bf.refl _ _ _), Lib.hid (Nb.refl _ _), Lib.hid (Nb.refl _ _)⟩
  case round =>
    obtain ⟨k, tv', t0', cs, C, hk, rfl, HBk, HO, HC, HF, HNa, HNb⟩ := hrel
    by_cases hlt : k < rs.length
    · obtain ⟨g, cap, hlk, hmem, hp, hc⟩ := HR.out k hlt
      have hown := HO.out.own _ (List.mem_cons_of_mem _ (List.mem_cons_of_mem _ (List.mem_cons_of_mem _ (List.mem_cons_of_mem _ (List.mem_append_right C HA.out)))))
      obtain ⟨ga, cap', e, _, _⟩ := World.ownsRow.form hown (by rw [Hl.out]; omega)
      obtain rfl : ax = some ⟨ga, 0, none⟩ := by injection e
      have c1 : wr.cell? ⟨ga, k, none⟩ = some (.slice (some ⟨g, 0, none⟩) rs[k].length cap) := by
        have := World.ownsRow.cells hown (g := ga) rfl k _ hlk
        rwa [Lib.add_plain, Nat.zero_add] at this
      have hbs : B ≤ wr.heap.size := Nat.le_trans hB HF.out.size
      have hcl : (ys ++ cs).length = (xs ++ lv.take k).length := by
        rw [List.length_append, List.length_append, List.length_take, Hy.out, HC.out.1, Hl.out, Nat.min_eq_left hk]
      have hxl : (xs ++ lv.take k).length ≤ 4000000000000 := by
        rw [List.length_append, List.length_take, Hl.out]
        omega
      have HX := Lib.hid (texts_b bk B tv' t0' rv r0 g cap rs[k] (xs ++ lv.take k) (ys ++ cs) ((30, rv, az) :: (9, r0, ss) :: (C ++ L)) wr HBk.out HO.out (bk_apart HBk.out HO.out (fun x hx => by
        rcases List.mem_cons.1 hx with rfl | hx
        · show (28 : Nat) ≠ 36; decide
        rcases List.mem_cons.1 hx with rfl | hx
        · show (28 : Nat) ≠ 36; decide
        rcases List.mem_cons.1 hx with rfl | hx
        · show (30 : Nat) ≠ 36; decide
        rcases List.mem_cons.1 hx with rfl | hx
        · show (9 : Nat) ≠ 36; decide
        rcases List.mem_append.1 hx with hx | hx
        · rw [HC.out.2.1 x hx]; decide
        · exact HT.out x hx)) (List.mem_cons_of_mem _ (List.mem_cons_of_mem _ (List.mem_append_right C hmem))) hp hc hxl hcl hbs)
      have HLk := Lib.hid hlk
      have k0 : (0 : Int) ≤ (k : Int) := Int.natCast_nonneg _
      have k1 : (k : Int) < (rs.length : Int) := by omega
      clear hlk hmem hp hc hown e hbs hcl hxl
      go_wp2_with (go_at_call 43; (with_reducible refine HX.out.mono ?_); rintro e w2 ⟨rfl, tv2, t02, c, hb, ho, hf, hn1, hn2⟩; have HB2 := Lib.hid hb; have HO2 := Lib.hid ho; have HF2 := Lib.hid hf; have HN1 := Lib.hid hn1; have HN2 := Lib.hid hn2; clear hb ho hf hn1 hn2)
      go_roundw
      case rel => exact ⟨k + 1, tv2, t02, cs ++ [c], (9, c, sts rs[k]) :: C, by omega, by go_num, HB2, Lib.hid (by rw [show lv.take (k + 1) = lv.take k ++ [.slice (some ⟨g, 0, none⟩) rs[k].length cap] from by rw [List.take_add_one, HLk.out]; rfl, ← List.append_assoc, ← List.append_assoc]; exact HO2.out.perm (List.Perm.cons _ (List.Perm.cons _ ((List.Perm.swap _ _ _).trans (List.Perm.cons _ (List.Perm.swap _ _ _)))))), Lib.hid (HC.out.snoc hlt), Lib.hid (HF.out.trans2 HF2.out HNa.out HNb.out), Lib.hid (HNa.out.trans HN1.out HF.out.size), Lib.hid (HNb.out.trans HN2.out HF.out.size)⟩
      case measure => simp [intOf]; omega
    · obtain rfl : k = rs.length := by omega
      have HO0 : Hid (OwnsAll wr B ((30, rv, az) :: (28, tv', xs ++ lv) :: (28, t0', ys ++ cs) :: (9, r0, ss) :: (C ++ L))) := Lib.hid (by
        have := HO.out
        rw [← Hl.out, List.take_length] at this
        exact this.perm ((List.Perm.cons _ (List.Perm.swap _ _ _)).trans (List.Perm.swap _ _ _)))
      obtain ⟨i3, hi3, h30, h31, h32⟩ := info_parts info30
      obtain ⟨i9, hi9, hy0, hy1, hy2⟩ := info_parts info9
      have k12 : wr.cell? ⟨bk, 12, none⟩ = some rv := (bcell HBk.out 12).trans rfl
      have hbk := blt HBk.out
      have hbs : B ≤ wr.heap.size := Nat.le_trans hB HF.out.size
      have HNo := Lib.hid (bk_apart HBk.out HO0.out (fun x hx => by
        rcases List.mem_cons.1 hx with rfl | hx
        · show (30 : Nat) ≠ 36; decide
        rcases List.mem_cons.1 hx with rfl | hx
        · show (28 : Nat) ≠ 36; decide
        rcases List.mem_cons.1 hx with rfl | hx
        · show (28 : Nat) ≠ 36; decide
        rcases List.mem_cons.1 hx with rfl | hx
        · show (9 : Nat) ≠ 36; decide
        rcases List.mem_append.1 hx with hx | hx
        · rw [HC.out.2.1 x hx]; decide
        · exact HT.out x hx))
      have HNe : Hid (rv.ownBlock ≠ some bk) := Lib.hid (fun e => HNo.out (mem_blks.2 (.inl (mem_ob.2 e))))
      clear hlt hk
      go_wp2_with (at_builtin; refine wpList_append_lies (wr.alloc (.cells #[.slice ax rs.length capa] 30)) rfl (.tmp 21) (.tmp 23) 34 rfl B 30 i3 _ 1 24 Tryz.underlying34 hi3 h30 h31 h32 rfl (by decide) rv az.length az rfl (HO0.out.head.alloc _) ⟨wr.heap.size, 0, none⟩ 1 1 [.slice ax rs.length capa] rfl rfl (World.news_of_block (cs := #[.slice ax rs.length capa]) (t := 30) (fr := (0, 0)) (heap_alloc_new wr _)) (by simp [Value.oneCell']) (by omega) (by unfold maxLen; omega) (by omega) (by simp; omega) _ rfl ?_; intro g1 cap1 w1 hown hg hat hlt; have HO1 := Lib.hid (HO0.out.grow1 rfl hown hg (by rcases hat with e | e; exact .inl e.symm; exact .inr (by rw [e]; rfl))); have hb1 : BkAt w1 bk tv' t0' rv r0 := (hg.block bk (by simp; omega) (fun e => HNe.out e.symm)).trans ((((Below.refl wr.heap.size wr).alloc (Nat.le_refl _) _).block bk hbk).trans HBk.out); have e12 : w1.cell? ⟨bk, 12, none⟩ = some rv := (bcell hb1 12).trans rfl; have q12 := bfree hb1 12; have HB1 := Lib.hid hb1; have HG1 := Lib.hid hg; have HA1 := Lib.hid hat; clear hown hg hat hb1)
      obtain ⟨w2, hw2⟩ : ∃ w2, w2 = w1.setCell ⟨bk, 12, none⟩ (.slice (some ⟨g1, 0, none⟩) (az.length + 1) cap1) := ⟨_, rfl⟩
      rw [← hw2]
      have hb2 : BkAt w2 bk tv' t0' (.slice (some ⟨g1, 0, none⟩) (az.length + 1) cap1) r0 := by rw [hw2]; exact bset HB1.out 12 _
      have HNo1 := Lib.hid (bk_apart HB1.out HO1.out (types_cons ne30 (types_cons ne28 (types_cons ne28 (types_cons ne9 (types_ok HC.out.2.1 HT.out))))))
      have HO2 := Lib.hid (show OwnsAll w2 B _ from hw2 ▸ owns_set HO1.out HNo1.out)
      have hz2' : wr.heap.size ≤ w2.heap.size := by rw [hw2, setSize]; have := HG1.out.size; simp at this; omega
      have k13 : w2.cell? ⟨bk, 13, none⟩ = some r0 := (bcell hb2 13).trans rfl
      have l13 := blt hb2
      have HB2 := Lib.hid hb2
      have HW2 := Lib.hid hw2
      have hav := HO2.out.own _ (List.mem_cons_of_mem _ (List.mem_cons_of_mem _ (List.mem_cons_of_mem _ (List.mem_cons_of_mem _ (List.mem_append_right C HA.out)))))
      have HTo : Hid (Calls Tryz.prog 44 #[.slice ax rs.length capa] w2.drew fun e w' => e = .returned (.string R) ∧ Below w2.drew.heap.size w2.drew w') := Lib.hid (by
        have hC := rowsC_own hav Hl.out (fun i hi => by
          obtain ⟨g, cap, q1, q2, _, _⟩ := HR.out i hi
          exact ⟨g, cap, q1, HO2.out.own _ (List.mem_cons_of_mem _ (List.mem_cons_of_mem _ (List.mem_cons_of_mem _ (List.mem_cons_of_mem _ (List.mem_append_right C q2)))))⟩)
        have := larderref01_told.calls K ax capa (rws rs) R w2.drew (Kd.C_below hC (Below.refl _ _).drew) (by rw [rws_len]; exact hca) HK.out
        rw [rws_len] at this
        exact this)
      have HNo2 := Lib.hid (bk_apart HB2.out HO2.out (types_cons ne30 (types_cons ne28 (types_cons ne28 (types_cons ne9 (types_ok HC.out.2.1 HT.out))))))
      have HNr : Hid (r0.ownBlock ≠ some bk) := Lib.hid (fun e => HNo2.out (mem_blks.2 (.inr (mem_blks.2 (.inr (mem_blks.2 (.inr (mem_blks.2 (.inl (mem_ob.2 e)))))))))) 
      clear hb2 hw2 hav e12 q12 k12
      go_region_law (first
        | (refine step_append_lies (w3.alloc (.cells #[.string R] 9)) (by rfl) _ _ 28 (by rfl) B 9 i9 (.string ⟨#[]⟩) 1 16 Tryz.underlying28 hi9 hy0 hy1 hy2 rfl (by decide) r0 ss.length ss (by rfl) (HO3.out.head.alloc _) ⟨w3.heap.size, 0, none⟩ 1 1 [.string R] (by rfl) rfl (World.news_of_block (cs := #[.string R]) (t := 9) (fr := (0, 0)) (heap_alloc_new w3 _)) (by simp [Value.oneCell']) (by omega) (by unfold maxLen; omega) (by omega) (by simp; omega) _ rfl ?_; intro g3 cap3 wB hownB hgB hatB hltB; have hzB := hgB.size; simp only [World.alloc, Array.size_push] at hzB; have hbB : BkAt wB bk _ _ _ r0 := (hgB.block bk (by simp; omega) (fun e => HNr.out e.symm)).trans ((((Below.refl w3.heap.size w3).alloc (Nat.le_refl _) _).block bk lA).trans (blk_below HB2.out HB3.out)); have kB : wB.cell? ⟨bk, 13, none⟩ = some r0 := (bcell hbB 13).trans rfl; have qB := bfree hbB 13; have HBB := Lib.hid hbB; have HOwB := Lib.hid hownB; have HGB := Lib.hid hgB; have HAB := Lib.hid hatB; clear hownB hgB hatB hbB)
        | (go_simp; go_at_call 44; (with_reducible refine HTo.out.mono ?_); rintro ev w3 ⟨rfl, hb3⟩; have kA : w3.cell? ⟨bk, 13, none⟩ = some r0 := (bcell (blk_below (blk_drew HB2.out) hb3) 13).trans rfl; have lA := blt (blk_below (blk_drew HB2.out) hb3); have HB3 := Lib.hid ((Below.refl w2.heap.size w2).drew.trans hb3); have HO3 := Lib.hid ((HO2.out.below HB3.out).perm ((List.Perm.cons _ (List.Perm.cons _ (List.Perm.swap _ _ _))).trans ((List.Perm.cons _ (List.Perm.swap _ _ _)).trans (List.Perm.swap _ _ _)))); have hz3 := HB3.out.size; clear hb3))
      all_goals go_wp2
      all_goals go_end0
      all_goals
        have hB1 := HO3.out.grow1 (news := [.string R]) rfl HOwB.out HGB.out (by
          rcases HAB.out with e | e
          · exact .inl e.symm
          · exact .inr (by rw [e]; rfl))
        have hNb := bk_apart HBB.out hB1 (types_cons ne9 (types_cons ne30 (types_cons ne28 (types_cons ne28 (types_ok HC.out.2.1 HT.out)))))
        have hB2 := (owns_set (i := 13) (u := .slice (some ⟨g3, 0, none⟩) (ss.length + 1) cap3) hB1 hNb).perm ((List.Perm.swap _ _ _).trans (List.Perm.cons _ ((List.Perm.swap _ _ _).trans (List.Perm.cons _ (List.Perm.swap _ _ _)))))
        have hp : ∀ {a b c d : En} {l : List En} {w : World}, OwnsAll w B (a :: b :: c :: d :: l) → OwnsAll w B (b :: c :: a :: d :: l) := fun h => h.perm ((List.Perm.swap _ _ _).trans (List.Perm.cons _ (List.Perm.swap _ _ _)))
        refine ⟨rfl, _, _, _, _, _, _, bset HBB.out 13 _, hp hB2, HC.out, ?_⟩
        have hW2 := HW2.out
        have hF := HF.out
        have hzw := hF.size
        refine ⟨?_, ?_, ?_, ?_, fun j hj hjb hjv => ?_⟩
        · show wB.os = _
          rw [HGB.out.os]
          show w3.os = _
          rw [HB3.out.os, hW2]
          show w1.os = _
          rw [HG1.out.os]
          exact hF.os
        · show wB.tape = _
          rw [HGB.out.tape]
          show w3.tape = _
          rw [HB3.out.tape, hW2]
          show w1.tape = _
          rw [HG1.out.tape]
          exact hF.tape
        · show wB.output = _
          rw [HGB.out.output]
          show w3.output = _
          rw [HB3.out.output, hW2]
          show w1.output = _
          rw [HG1.out.output]
          exact hF.output
        · rw [setSize]
          omega
        · have h1 : (wB.setCell ⟨bk, 13, none⟩ (.slice (some ⟨g3, 0, none⟩) (ss.length + 1) cap3)).heap[j]? = wB.heap[j]? := Below.heap_setCell wB ⟨bk, 13, none⟩ _ j hjb
          have h2 := HGB.out.block j (by simp; omega) (fun e => hjv r0 (by simp) e.symm)
          have h3 := ((Below.refl w3.heap.size w3).alloc (Nat.le_refl _) (.cells #[.string R] 9)).block j (by omega)
          have h4 := HB3.out.block j (by omega)
          have h6 : w2.heap[j]? = w1.heap[j]? := by rw [hW2]; exact Below.heap_setCell w1 ⟨bk, 12, none⟩ _ j hjb
          have h7 := HG1.out.block j (by simp; omega) (fun e => hjv rv (by simp) e.symm)
          have h8 := ((Below.refl wr.heap.size wr).alloc (Nat.le_refl _) (.cells #[.slice ax rs.length capa] 30)).block j (by omega)
          exact h1.trans (h2.trans (h3.trans (h4.trans (h6.trans (h7.trans (h8.trans (hF.keep j hj hjb hjv)))))))
end Go.Proofs.YtappphffbnkloaaGreatDoor.Sht
set_option linter.unusedVariables false
set_option linter.unusedSimpArgs false
namespace Go.Proofs.YtappphffbnkloaaGreatDoor.Sht
open Go Go.RowKit Go.Proofs.YtappphffbnkloaaGreatDoorW.PrintWords Go.Proofs.YtappphffbnkloaaGreatDoor.GS
attribute [local go_sem ↓] Go.wp_at_zero Go.wp_at_succ
/-- the rows that were held, and their copies -/
def Texts2 (L : List En) (xs ys : List Value) (ts : Rows) : Prop := xs.length = ts.length ∧ ys.length = ts.length ∧ ∀ i (h : i < ts.length), ∃ g cap c, xs[i]? = some (.slice (some ⟨g, 0, none⟩) ts[i].length cap) ∧ (9, .slice (some ⟨g, 0, none⟩) ts[i].length cap, sts ts[i]) ∈ L ∧ ys[i]? = some c ∧ (9, c, sts ts[i]) ∈ L ∧ 0 < ts[i].length
/-- the answers that were held, and what was told of them -/
def Rows2 (L : List En) (az ss : List Value) (as' : List Rows) : Prop := az.length = as'.length ∧ ss.length = as'.length ∧ ∀ i (h : i < as'.length), ∃ ax cap lv R K, az[i]? = some (.slice ax as'[i].length cap) ∧ (28, .slice ax as'[i].length cap, lv) ∈ L ∧ lv.length = as'[i].length ∧ as'[i].length ≤ cap ∧
  (∀ j (h' : j < as'[i].length), ∃ g c, lv[j]? = some (.slice (some ⟨g, 0, none⟩) as'[i][j].length c) ∧ (9, .slice (some ⟨g, 0, none⟩) as'[i][j].length c, sts as'[i][j]) ∈ L) ∧ ss[i]? = some (.string R) ∧ larderref01_told.f K (rws as'[i]) = some R
theorem BkAt.below {w w' : World} {bk : Nat} {tv t0 rv r0 : Value} (h : BkAt w bk tv t0 rv r0) (k : Below w.heap.size w w') : BkAt w' bk tv t0 rv r0 := (k.block bk (blt h)).trans h
theorem own_read {w : World} {B : Nat} {e : TypeId} {v : Value} {xs : List Value} (h : w.ownsRow B e 1 v xs.length xs) {i : Nat} (hi : i < xs.length) : ∃ g cap, v = .slice (some ⟨g, 0, none⟩) xs.length cap ∧ xs.length ≤ cap ∧ ∀ j u, xs[j]? = some u → w.cell? ⟨g, j, none⟩ = some u := by
  obtain ⟨g, cap, e, _, _⟩ := World.ownsRow.form h (by omega)
  subst e
  refine ⟨g, cap, rfl, (own_le' h).1, fun j u hj => ?_⟩
  have := World.ownsRow.cells h (g := g) rfl j u hj
  rwa [Lib.add_plain, Nat.zero_add] at this
theorem own_slice_form {w : World} {B : Nat} {e : TypeId} {v : Value} {xs : List Value} (h : w.ownsRow B e 1 v xs.length xs) : ∃ x cap, v = .slice x xs.length cap := by
  rcases h.2 with ⟨e, h0⟩ | ⟨g, cap, cur, e, _⟩
  · exact ⟨none, 0, by rw [e, h0]⟩
  · exact ⟨_, cap, e⟩
theorem texts2_cells {w : World} {B : Nat} {tv t0 rv r0 : Value} {xs ys az ss : List Value} {L : List En} {ts : Rows} (hL : OwnsAll w B ((28, tv, xs) :: (28, t0, ys) :: (30, rv, az) :: (9, r0, ss) :: L)) (ht : Texts2 L xs ys ts) (k : Nat) (hk : k < xs.length) :
    ∃ (r : List (List UInt8)) (gt ct g0 c0 g cap gc cc : Nat), xs.length ≤ 9223372036854775807 ∧ r.length ≤ 9223372036854775807 ∧ tv = .slice (some ⟨gt, 0, none⟩) xs.length ct ∧ t0 = .slice (some ⟨g0, 0, none⟩) ys.length c0 ∧ w.cell? ⟨gt, k, none⟩ = some (.slice (some ⟨g, 0, none⟩) r.length cap) ∧ w.cell? ⟨g0, k, none⟩ = some (.slice (some ⟨gc, 0, none⟩) r.length cc) ∧
      ∀ j (hj : j < r.length), w.cell? ⟨g, j, none⟩ = some (st r[j]) ∧ w.cell? ⟨gc, j, none⟩ = some (st r[j]) := by
  obtain ⟨h1, h2, h3⟩ := ht
  obtain ⟨g, cap, c, q1, q2, q3, q4, q5⟩ := h3 k (by omega)
  have m4 : ∀ {x : En}, x ∈ L → x ∈ ((28, tv, xs) :: (28, t0, ys) :: (30, rv, az) :: (9, r0, ss) :: L) := fun h => List.mem_cons_of_mem _ (List.mem_cons_of_mem _ (List.mem_cons_of_mem _ (List.mem_cons_of_mem _ h)))
  obtain ⟨gt, ct, e1, _, z1⟩ := own_read (show w.ownsRow B 28 1 tv xs.length xs from hL.head) hk
  obtain ⟨g0, c0, e2, _, z2⟩ := own_read (show w.ownsRow B 28 1 t0 ys.length ys from hL.tail.head) (i := k) (by omega)
  have o1 : w.ownsRow B 9 1 (.slice (some ⟨g, 0, none⟩) ts[k].length cap) (sts ts[k]).length (sts ts[k]) := hL.own _ (m4 q2)
  have o2 : w.ownsRow B 9 1 c (sts ts[k]).length (sts ts[k]) := hL.own _ (m4 q4)
  obtain ⟨g', cap', e3, _, z3⟩ := own_read o1 (i := 0) (by rw [sts_len]; exact q5)
  obtain ⟨gc, cc, e4, _, z4⟩ := own_read o2 (i := 0) (by rw [sts_len]; exact q5)
  have e5 : g = g' := by
    injection e3 with e3 _ _
    injection e3 with e3
    injection e3
  subst e5
  rw [sts_len] at e4
  have b1 : xs.length ≤ 9223372036854775807 := by
    have o : w.ownsRow B 28 1 tv xs.length xs := hL.head
    rw [e1] at o
    have := own_le' o
    omega
  have b2 : ts[k].length ≤ 9223372036854775807 := by
    have := own_le' o1
    omega
  refine ⟨ts[k], gt, ct, g0, c0, g, cap, gc, cc, b1, b2, e1, e2, z1 k _ q1, z2 k _ (by rw [q3, e4]), fun j hj => ⟨z3 j _ (by simp [sts, hj]), z4 j _ (by simp [sts, hj])⟩⟩
theorem rows2_cells {w : World} {B : Nat} {tv t0 rv r0 : Value} {xs ys az ss : List Value} {L : List En} {as' : List Rows} (hL : OwnsAll w B ((28, tv, xs) :: (28, t0, ys) :: (30, rv, az) :: (9, r0, ss) :: L)) (hr : Rows2 L az ss as') (k : Nat) (hk : k < az.length) :
    ∃ (ax : Option Addr) (n cap gr cr g0 c0 : Nat) (R : ByteArray), az.length ≤ 9223372036854775807 ∧ rv = .slice (some ⟨gr, 0, none⟩) az.length cr ∧ r0 = .slice (some ⟨g0, 0, none⟩) ss.length c0 ∧ w.cell? ⟨gr, k, none⟩ = some (.slice ax n cap) ∧ w.cell? ⟨g0, k, none⟩ = some (.string R) ∧
      ∀ w1, Below w.heap.size w w1 → Calls Tryz.prog 44 #[.slice ax n cap] w1 fun e w' => e = .returned (.string R) ∧ Below w1.heap.size w1 w' := by
  obtain ⟨h1, h2, h3⟩ := hr
  obtain ⟨ax, cap, lv, R, K, q1, q2, q3, q4, q5, q6, q7⟩ := h3 k (by omega)
  have m4 : ∀ {x : En}, x ∈ L → x ∈ ((28, tv, xs) :: (28, t0, ys) :: (30, rv, az) :: (9, r0, ss) :: L) := fun h => List.mem_cons_of_mem _ (List.mem_cons_of_mem _ (List.mem_cons_of_mem _ (List.mem_cons_of_mem _ h)))
  have o0 : w.ownsRow B 30 1 rv az.length az := hL.tail.tail.head
  obtain ⟨gr, cr, e1, _, z1⟩ := own_read o0 hk
  obtain ⟨g0, c0, e2, _, z2⟩ := own_read (show w.ownsRow B 9 1 r0 ss.length ss from hL.tail.tail.tail.head) (i := k) (by omega)
  have b1 : az.length ≤ 9223372036854775807 := by
    rw [e1] at o0
    have := own_le' o0
    omega
  refine ⟨ax, as'[k].length, cap, gr, cr, g0, c0, R, b1, e1, e2, z1 k _ q1, z2 k _ q6, fun w1 hb => ?_⟩
  have hC := rowsC_own (B := B) (hL.own _ (m4 q2)) q3 (fun i hi => by
    obtain ⟨g, c, p1, p2⟩ := q5 i hi
    exact ⟨g, c, p1, hL.own _ (m4 p2)⟩)
  have := larderref01_told.calls K ax cap (rws as'[k]) R w1 (Kd.C_below hC hb) (by rw [rws_len]; exact q4) q7
  rw [rws_len] at this
  exact this
set_option maxHeartbeats 4000000 in
set_option maxRecDepth 100000 in
theorem still_b (bk B : Nat) (tv t0 rv r0 : Value) (xs ys az ss : List Value) (L : List En) (ts : Rows) (as' : List Rows) (w : World) (h : BkAt w bk tv t0 rv r0)
    (hL : OwnsAll w B ((28, tv, xs) :: (28, t0, ys) :: (30, rv, az) :: (9, r0, ss) :: L)) (ht : Texts2 L xs ys ts) (hr : Rows2 L az ss as') :
    Calls Tryz.prog 47 #[PT bk] w fun e w' => e = .returned (.bool true) ∧ Below w.heap.size w w' := by
  have HBk : Hid (∀ wr, Below w.heap.size w wr → BkAt wr bk tv t0 rv r0) := Lib.hid fun wr k => h.below k
  have HL := Lib.hid hL
  have HT := Lib.hid ht
  have HX := Lib.hid (texts2_cells hL ht)
  have HZ := Lib.hid (rows2_cells hL hr)
  have HSl := Lib.hid (show ss.length = az.length by rw [hr.1, hr.2.1])
  have HYl := Lib.hid (show ys.length = xs.length by rw [ht.1, ht.2.1])
  have HR := Lib.hid hr
  obtain ⟨tx', tc, rfl⟩ : ∃ x cap, tv = .slice x xs.length cap := own_slice_form (xs := xs) hL.head
  obtain ⟨rx, rc, rfl⟩ : ∃ x cap, rv = .slice x az.length cap := own_slice_form (xs := az) hL.tail.tail.head
  clear h hL ht hr
  go_enter Tryz.func47, Tryz.ntmps47
  go_wp2
  go_loopw [3] (fun i wr => i = .int .i64 0 ∧ Hid (Below w.heap.size w wr)) (fun _ _ => 0)
  case atStart => exact ⟨rfl, Lib.hid (Below.refl _ _)⟩
  case round =>
    obtain ⟨rfl, HB⟩ := hrel
    have k0 : wr.cell? ⟨bk, 0, none⟩ = some nl := (bcell (HBk.out _ HB.out) 0).trans rfl
    go_wp2
    clear k0
    go_loopw [4, 5] (fun i _ wr => i = .int .i64 0 ∧ Hid (Below w.heap.size w wr)) (fun _ _ _ => 0)
    case atStart => exact ⟨rfl, HB⟩
    case round =>
      clear HB
      obtain ⟨rfl, HB⟩ := hrel
      have k0 : wr.cell? ⟨bk, 2, none⟩ = some nl := (bcell (HBk.out _ HB.out) 2).trans rfl
      go_wp2
      clear k0
      go_loopw [6, 7] (fun i _ wr => i = .int .i64 0 ∧ Hid (Below w.heap.size w wr)) (fun _ _ _ => 0)
      case atStart => exact ⟨rfl, HB⟩
      case round =>
        clear HB
        obtain ⟨rfl, HB⟩ := hrel
        have k0 : wr.cell? ⟨bk, 4, none⟩ = some nl := (bcell (HBk.out _ HB.out) 4).trans rfl
        go_wp2
        clear k0
        go_loopw [8, 9] (fun i _ wr => ∃ k : Nat, k ≤ xs.length ∧ i = .int .i64 (k : Int) ∧ Hid (Below w.heap.size w wr)) (fun i _ _ => xs.length - (intOf i).toNat)
        case atStart => exact ⟨0, Nat.zero_le _, rfl, HB⟩
        case round =>
          clear HB
          obtain ⟨k, hk, rfl, HB⟩ := hrel
          have k6 : wr.cell? ⟨bk, 6, none⟩ = some (.slice tx' xs.length tc) := (bcell (HBk.out _ HB.out) 6).trans rfl
          by_cases hlt : k < xs.length
          · obtain ⟨r, gt, ct, g0, c0, g, cap, gc, cc, hxb, hrb, e1, e2, a1, a2, a3⟩ := HX.out k hlt
            obtain rfl : tx' = some ⟨gt, 0, none⟩ := by injection e1
            have HE2 := Lib.hid e2
            have A1 := Lib.hid a1
            have A2 := Lib.hid a2
            have A3 := Lib.hid a3
            have b1 := kc HB.out a1
            have n0 : (0 : Int) ≤ (k : Int) := Int.natCast_nonneg _
            have n1 : (k : Int) < (xs.length : Int) := by omega
            clear e1 e2 a1 a2 a3
            go_wp2
            clear b1 k6
            go_loopw [9] (fun i wr => ∃ j : Nat, j ≤ r.length ∧ i = .int .i64 (j : Int) ∧ Hid (Below w.heap.size w wr)) (fun i _ => r.length - (intOf i).toNat)
            case atStart => exact ⟨0, Nat.zero_le _, rfl, HB⟩
            case round =>
              clear HB
              obtain ⟨j, hj, rfl, HB⟩ := hrel
              have k6 : wr.cell? ⟨bk, 6, none⟩ = some (.slice (some ⟨gt, 0, none⟩) xs.length tc) := (bcell (HBk.out _ HB.out) 6).trans rfl
              have b1 := kc HB.out A1.out
              by_cases hjl : j < r.length
              · obtain ⟨s1, s2⟩ := A3.out j hjl
                have k7 : wr.cell? ⟨bk, 7, none⟩ = some (.slice (some ⟨g0, 0, none⟩) ys.length c0) := by rw [← HE2.out]; exact (bcell (HBk.out _ HB.out) 7).trans rfl
                have b2 := kc HB.out A2.out
                obtain ⟨s, hs⟩ : ∃ s, s = (⟨r[j].toArray⟩ : ByteArray) := ⟨_, rfl⟩
                have b3 := kc HB.out s1
                have b4 := kc HB.out s2
                rw [show st r[j] = .string s from by rw [hs]] at b3 b4
                have m0 : (0 : Int) ≤ (j : Int) := Int.natCast_nonneg _
                have m1 : (j : Int) < (r.length : Int) := by omega
                have m2 : (k : Int) < (ys.length : Int) := by rw [HYl.out]; exact n1
                have m3 : k < ys.length := by rw [HYl.out]; exact hlt
                clear s1 s2 hs
                go_wp2_with fail
                go_quiet (fail)
                go_wp2
                go_roundw
                case rel => exact ⟨j + 1, by omega, by go_num, Lib.hid (belowN HB.out _)⟩
                case measure => simp [intOf]; omega
              · obtain rfl : j = r.length := by omega
                clear hjl hj
                go_wp2
                go_roundw
                case rel => exact ⟨k + 1, by omega, by go_num, HB⟩
                case measure => simp [intOf]; omega
          · obtain rfl : k = xs.length := by omega
            clear hlt hk
            go_wp2
            clear k6
            go_loopw [10, 11] (fun i _ wr => i = .int .i64 0 ∧ Hid (Below w.heap.size w wr)) (fun _ _ _ => 0)
            case atStart => exact ⟨rfl, HB⟩
            case round =>
              clear HB
              obtain ⟨rfl, HB⟩ := hrel
              have k0 : wr.cell? ⟨bk, 8, none⟩ = some nl := (bcell (HBk.out _ HB.out) 8).trans rfl
              go_wp2
              clear k0
              go_loopw [12, 13] (fun i _ wr => i = .int .i64 0 ∧ Hid (Below w.heap.size w wr)) (fun _ _ _ => 0)
              case atStart => exact ⟨rfl, HB⟩
              case round =>
                clear HB
                obtain ⟨rfl, HB⟩ := hrel
                have k0 : wr.cell? ⟨bk, 10, none⟩ = some nl := (bcell (HBk.out _ HB.out) 10).trans rfl
                go_wp2
                clear k0
                go_loopw [14] (fun i wr => ∃ k : Nat, k ≤ az.length ∧ i = .int .i64 (k : Int) ∧ Hid (Below w.heap.size w wr)) (fun i _ => az.length - (intOf i).toNat)
                case atStart => exact ⟨0, Nat.zero_le _, rfl, HB⟩
                case round =>
                  clear HB
                  obtain ⟨k, hk, rfl, HB⟩ := hrel
                  have k12 : wr.cell? ⟨bk, 12, none⟩ = some (.slice rx az.length rc) := (bcell (HBk.out _ HB.out) 12).trans rfl
                  by_cases hlt : k < az.length
                  · obtain ⟨ax, n, cap, gr, cr, g0, c0, R, hzb, e1, e2, a1, a2, a3⟩ := HZ.out k hlt
                    obtain rfl : rx = some ⟨gr, 0, none⟩ := by injection e1
                    have A1 := Lib.hid (kc HB.out a1)
                    have A2 := Lib.hid (kc HB.out a2)
                    have A3 := Lib.hid a3
                    have K12 := Lib.hid k12
                    have K13 : Hid (wr.cell? ⟨bk, 13, none⟩ = some (.slice (some ⟨g0, 0, none⟩) ss.length c0)) := Lib.hid (by rw [← e2]; exact (bcell (HBk.out _ HB.out) 13).trans rfl)
                    have HTo : Hid (∀ w1, Below wr.heap.size wr w1 → Calls Tryz.prog 44 #[.slice ax n cap] w1 fun e w' => e = .returned (.string R) ∧ Below wr.heap.size wr w') := Lib.hid fun w1 b => (a3 w1 (HB.out.trans (b.mono HB.out.size))).mono fun _ _ q => ⟨q.1, b.trans (q.2.mono b.size)⟩
                    have n0 : (0 : Int) ≤ (k : Int) := Int.natCast_nonneg _
                    have n1 : (k : Int) < (az.length : Int) := by omega
                    have n2 : (k : Int) < (ss.length : Int) := by rw [HSl.out]; exact n1
                    have n3 : k < ss.length := by rw [HSl.out]; exact hlt
                    have hb0 : Below wr.heap.size wr wr.drew := (Below.refl _ _).drew
                    clear e1 e2 a1 a2 a3
                    go_wp2_with fail
                    clear k12
                    go_region_held3 (fun w' => w'.cell? ⟨bk, 12, none⟩ = some (.slice (some ⟨gr, 0, none⟩) az.length rc) ∧ w'.cell? ⟨gr, k, none⟩ = some (.slice ax n cap) ∧ w'.cell? ⟨bk, 13, none⟩ = some (.slice (some ⟨g0, 0, none⟩) ss.length c0) ∧ w'.cell? ⟨g0, k, none⟩ = some (.string R)) (first | exact ⟨kc hb0 K12.out, kc hb0 A1.out, kc hb0 K13.out, kc hb0 A2.out⟩ | exact ⟨kc hb2 K12.out, kc hb2 A1.out, kc hb2 K13.out, kc hb2 A2.out⟩) (first | (go_at_call 44; (with_reducible refine (HTo.out _ (by assumption)).mono ?_); rintro ev w2 ⟨rfl, hb2⟩))
                    go_wp2_with fail
                    go_roundw
                    case rel => exact ⟨k + 1, by omega, by go_num, Lib.hid (HB.out.trans (hb2.mono HB.out.size))⟩
                    case measure => simp [intOf]; omega
                  · obtain rfl : k = az.length := by omega
                    clear hlt hk
                    go_wp2
                    go_ret
                    exact ⟨rfl, HB.out⟩
end Go.Proofs.YtappphffbnkloaaGreatDoor.Sht
set_option linter.unusedVariables false
set_option linter.unusedSimpArgs false
namespace Go.Proofs.YtappphffbnkloaaGreatDoor.Sht
open Go Go.RowKit Go.Proofs.YtappphffbnkloaaGreatDoorW.PrintWords Go.Proofs.YtappphffbnkloaaGreatDoor.GS
theorem rows_get {w : World} {B : Nat} : ∀ {lv : List Value} {rs : Rows}, RowsAt w B lv rs → lv.length = rs.length ∧ ∀ (j : Nat) (r : List (List UInt8)), rs[j]? = some r → ∃ v, lv[j]? = some v ∧ w.ownsRow B 9 1 v r.length (sts r)
  | [], [], _ => ⟨rfl, fun j r h => by simp at h⟩
  | v :: lv, r :: rs, h => by
    obtain ⟨h1, h2⟩ := rows_get h.2
    refine ⟨by simp [h1], fun j p hj => ?_⟩
    cases j with
    | zero => exact ⟨v, rfl, by simp at hj; rw [← hj]; exact h.1⟩
    | succ j => exact h2 j p (by simpa using hj)
  | [], _ :: _, h => h.elim
  | _ :: _, [], h => h.elim
end Go.Proofs.YtappphffbnkloaaGreatDoor.Sht
set_option linter.unusedVariables false
set_option linter.unusedSimpArgs false
namespace Go.Proofs.YtappphffbnkloaaGreatDoor.Sht
open Go Go.RowKit Go.Proofs.YtappphffbnkloaaGreatDoorW.PrintWords Go.Proofs.YtappphffbnkloaaGreatDoor.GS
/-- rows and their slices, as entries -/
def Z9 (lv : List Value) (rs : Rows) : List En := List.zipWith (fun x r => ((9 : TypeId), x, sts r)) lv rs
/-- answers and their cells, as entries -/
def An (az : List Value) (lvs : List (List Value)) : List En := List.zipWith (fun a l => ((28 : TypeId), a, l)) az lvs
structure BX where
  tv : Value
  t0 : Value
  rv : Value
  r0 : Value
  ys : List Value
  az : List Value
  ss : List Value
  lvs : List (List Value)
  C : List En
def BX.Fl (X : BX) (as' : List Rows) (Z : List En) : List En := (28, X.tv, X.lvs.flatten) :: (28, X.t0, X.ys) :: (30, X.rv, X.az) :: (9, X.r0, X.ss) :: (Z9 X.lvs.flatten as'.flatten ++ (An X.az X.lvs ++ (X.C ++ Z)))
structure Hold (w : World) (B bk : Nat) (X : BX) (as' : List Rows) (Z : List En) : Prop where
  bk : BkAt w bk X.tv X.t0 X.rv X.r0
  own : OwnsAll w B (X.Fl as' Z)
  az : X.az.length = as'.length
  lv : X.lvs.map List.length = as'.map List.length
  ok : ∀ r ∈ as'.flatten, 0 < r.length ∧ r.length ≤ 100
  ss : X.ss.length = as'.length
  told : ∀ i (h : i < as'.length), ∃ R K, X.ss[i]? = some (.string R) ∧ larderref01_told.f K (rws as'[i]) = some R
  ys : X.ys.length = as'.flatten.length
  cop : ∀ i (h : i < as'.flatten.length), ∃ c, X.ys[i]? = some c ∧ (9, c, sts as'.flatten[i]) ∈ X.C
  ty : ∀ x ∈ X.C, x.1 = 9
theorem Z9_blks : ∀ (lv : List Value) (rs : Rows), lv.length = rs.length → blks (Z9 lv rs) = lv.flatMap ob
  | [], [], _ => rfl
  | v :: lv, r :: rs, h => by
    show ob v ++ blks (Z9 lv rs) = ob v ++ lv.flatMap ob
    rw [Z9_blks lv rs (by simpa using h)]
  | [], _ :: _, h => by simp at h
  | _ :: _, [], h => by simp at h
theorem blks_app (L M : List En) : blks (L ++ M) = blks L ++ blks M := List.flatMap_append
theorem OwnsAll.adds {w : World} {B : Nat} {L : List En} (h : OwnsAll w B L) : ∀ {lv : List Value} {rs : Rows}, RowsAt w B lv rs → (lv.flatMap ob).Nodup → (∀ j ∈ lv.flatMap ob, j ∉ blks L) → OwnsAll w B (Z9 lv rs ++ L)
  | [], [], _, _, _ => h
  | v :: lv, r :: rs, hr, hn, ha => by
    have hn' : (ob v ++ lv.flatMap ob).Nodup := hn
    have hm : ∀ j, j ∈ ob v ∨ j ∈ lv.flatMap ob → j ∈ (v :: lv).flatMap ob := fun j q => List.mem_append.2 q
    have ih := OwnsAll.adds h (lv := lv) (rs := rs) hr.2 (List.nodup_append.1 hn').2.1 (fun j hj => ha j (hm j (.inr hj)))
    refine ih.cons (by rw [sts_len]; exact hr.1) fun j hj hb => ?_
    rw [blks_app, Z9_blks lv rs (by have := (rows_get hr.2).1; exact this)] at hb
    rcases List.mem_append.1 hb with hb | hb
    · exact (List.nodup_append.1 hn').2.2 j (mem_ob.2 hj) j hb rfl
    · exact ha j (hm j (.inl (mem_ob.2 hj))) hb
  | [], _ :: _, hr, _, _ => hr.elim
  | _ :: _, [], hr, _, _ => hr.elim
theorem own_form {w : World} {B : Nat} {e : TypeId} {v : Value} {n : Nat} {xs : List Value} (h : w.ownsRow B e 1 v n xs) : ∃ ax cap, v = .slice ax n cap ∧ n ≤ cap := by
  rcases h.2 with ⟨e, h0⟩ | ⟨g, cap, cur, e, _, _, h1, _⟩
  · exact ⟨none, 0, by rw [e, h0], by omega⟩
  · exact ⟨_, cap, e, h1⟩
theorem flat_len {lvs : List (List Value)} {as' : List Rows} (h : lvs.map List.length = as'.map List.length) : lvs.flatten.length = as'.flatten.length := by
  rw [List.length_flatten, List.length_flatten, h]
theorem pm {a b c : List En} : (a ++ (b ++ c)).Perm (b ++ (a ++ c)) := by
  rw [← List.append_assoc, ← List.append_assoc]
  exact List.Perm.append_right _ List.perm_append_comm
theorem hold_perm {H C1 Z T A C Q : List En} {x : En} : (H ++ (C1 ++ (x :: (Z ++ (T ++ (A ++ (C ++ Q))))))).Perm (H ++ ((T ++ Z) ++ ((A ++ [x]) ++ ((C1 ++ C) ++ Q)))) := by
  refine List.Perm.append_left _ ?_
  have e : ((T ++ Z) ++ ((A ++ [x]) ++ ((C1 ++ C) ++ Q))) = T ++ (Z ++ (A ++ ([x] ++ (C1 ++ (C ++ Q))))) := by simp
  rw [e]
  have e2 : (x :: (Z ++ (T ++ (A ++ (C ++ Q))))) = [x] ++ (Z ++ (T ++ (A ++ (C ++ Q)))) := rfl
  rw [e2]
  have p1 : ([x] ++ (Z ++ (T ++ (A ++ (C ++ Q))))).Perm (T ++ (Z ++ (A ++ ([x] ++ (C ++ Q))))) :=
    (List.Perm.append_left _ pm).trans (pm.trans (List.Perm.append_left _ (pm.trans (List.Perm.append_left _ pm))))
  refine (List.Perm.append_left _ p1).trans (pm.trans (List.Perm.append_left _ (pm.trans (List.Perm.append_left _ (pm.trans (List.Perm.append_left _ pm))))))
theorem Fl_ty {X : BX} {as' : List Rows} {Z : List En} (hC : ∀ x ∈ X.C, x.1 = 9) : ∀ x ∈ X.Fl as' Z, (x.1 = 9 ∨ x.1 = 28 ∨ x.1 = 30) ∨ x ∈ Z := fun x hx => by
  unfold BX.Fl at hx
  simp only [List.mem_cons, List.mem_append] at hx
  rcases hx with rfl | rfl | rfl | rfl | hx | hx | hx | hx
  · exact .inl (.inr (.inl rfl))
  · exact .inl (.inr (.inl rfl))
  · exact .inl (.inr (.inr rfl))
  · exact .inl (.inl rfl)
  · unfold Z9 at hx
    obtain ⟨i, hi, rfl⟩ := List.mem_iff_getElem.1 hx
    rw [List.getElem_zipWith]
    exact .inl (.inl rfl)
  · unfold An at hx
    obtain ⟨i, hi, rfl⟩ := List.mem_iff_getElem.1 hx
    rw [List.getElem_zipWith]
    exact .inl (.inr (.inl rfl))
  · exact .inl (.inl (hC x hx))
  · exact .inr hx
theorem hold_rows {w : World} {B bk : Nat} {X : BX} {as' : List Rows} {Z : List En} (h : Hold w B bk X as' Z) (hB : B ≤ w.heap.size) (hZ : ∀ x ∈ Z, x.1 ≠ 36) (v : Value) (rs : Rows) (lv : List Value) (ho : w.ownsRow B 28 1 v rs.length lv) (hr : RowsAt w B lv rs)
    (hnd : (ob v ++ lv.flatMap ob).Nodup) (hap : ∀ j ∈ ob v ++ lv.flatMap ob, j ∉ blks (X.Fl as' Z)) (hrs : ∀ r ∈ rs, 0 < r.length ∧ r.length ≤ 100) (K : Nat) (R : ByteArray) (hK : larderref01_told.f K (rws rs) = some R)
    (hx : as'.flatten.length + rs.length ≤ 4000000000000) (haz : as'.length ≤ 5000000000000) :
    Calls Tryz.prog 13 #[PT bk, v] w fun e w' => e = .returned (.tuple #[]) ∧ ∃ X' : BX, Hold w' B bk X' (as' ++ [rs]) Z ∧ Bf bk [X.tv, X.t0, X.rv, X.r0] w w' := by
  obtain ⟨ax, capa, rfl, hca⟩ := own_form ho
  have hlv : lv.length = rs.length := (rows_get hr).1
  have hfl := flat_len h.lv
  obtain ⟨n1, n2, n3⟩ := List.nodup_append.1 hnd
  have hM := h.own.adds hr n2 (fun j hj => hap j (List.mem_append_right _ hj))
  have hM2 := hM.cons (e := 28) (v := .slice ax rs.length capa) (xs := lv) (by rw [hlv]; exact ho) (fun j hj hb => by
    rw [blks_app, Z9_blks lv rs hlv] at hb
    rcases List.mem_append.1 hb with hb | hb
    · exact n3 j (mem_ob.2 hj) j hb rfl
    · exact hap j (List.mem_append_left _ (mem_ob.2 hj)) hb)
  have hL : OwnsAll w B ((28, X.tv, X.lvs.flatten) :: (28, X.t0, X.ys) :: (30, X.rv, X.az) :: (9, X.r0, X.ss) :: ((28, .slice ax rs.length capa, lv) :: (Z9 lv rs ++ (Z9 X.lvs.flatten as'.flatten ++ (An X.az X.lvs ++ (X.C ++ Z)))))) :=
    hM2.perm (pm (a := (28, .slice ax rs.length capa, lv) :: Z9 lv rs) (b := [(28, X.tv, X.lvs.flatten), (28, X.t0, X.ys), (30, X.rv, X.az), (9, X.r0, X.ss)]) (c := Z9 X.lvs.flatten as'.flatten ++ (An X.az X.lvs ++ (X.C ++ Z))))
  have hty : ∀ x ∈ ((28, .slice ax rs.length capa, lv) :: (Z9 lv rs ++ (Z9 X.lvs.flatten as'.flatten ++ (An X.az X.lvs ++ (X.C ++ Z)))) : List En), x.1 ≠ 36 := fun x hx => by
    rcases List.mem_cons.1 hx with rfl | hx
    · exact ne28
    · rcases List.mem_append.1 hx with hx | hx
      · unfold Z9 at hx
        obtain ⟨i, hi, rfl⟩ := List.mem_iff_getElem.1 hx
        rw [List.getElem_zipWith]
        exact ne9
      · rcases Fl_ty (X := X) (as' := as') (Z := Z) h.ty x (by unfold BX.Fl; exact List.mem_cons_of_mem _ (List.mem_cons_of_mem _ (List.mem_cons_of_mem _ (List.mem_cons_of_mem _ hx)))) with (q | q | q) | q
        · rw [q]; exact ne9
        · rw [q]; exact ne28
        · rw [q]; exact ne30
        · exact hZ x q
  have hrows : ∀ i (hi : i < rs.length), ∃ g cap, lv[i]? = some (.slice (some ⟨g, 0, none⟩) rs[i].length cap) ∧ (9, .slice (some ⟨g, 0, none⟩) rs[i].length cap, sts rs[i]) ∈ ((28, .slice ax rs.length capa, lv) :: (Z9 lv rs ++ (Z9 X.lvs.flatten as'.flatten ++ (An X.az X.lvs ++ (X.C ++ Z)))) : List En) ∧ 0 < rs[i].length ∧ rs[i].length ≤ 100 := fun i hi => by
    obtain ⟨q1, q2⟩ := hrs _ (List.getElem_mem hi)
    obtain ⟨u, h1, h2⟩ := (rows_get hr).2 i rs[i] (List.getElem?_eq_getElem hi)
    obtain ⟨g, cap, e, _, _⟩ := World.ownsRow.form h2 q1
    subst e
    refine ⟨g, cap, h1, List.mem_cons_of_mem _ (List.mem_append_left _ ?_), q1, q2⟩
    refine List.mem_of_getElem? (i := i) ?_
    unfold Z9
    rw [List.getElem?_zipWith, h1, List.getElem?_eq_getElem hi]
  refine (rows_b bk B K X.tv X.t0 X.rv X.r0 ax capa lv rs X.lvs.flatten X.ys X.az X.ss _ R w hK h.bk hL hty List.mem_cons_self hlv hca hrows (by rw [hfl]; exact hx) (by rw [h.ys, hfl]) (by rw [h.az]; exact haz) (by rw [h.ss, h.az]) hB).mono ?_
  rintro e w' ⟨he, tv', t0', rv', r0', cs, C1, hb, hO, hC, hF⟩
  refine ⟨he, ⟨tv', t0', rv', r0', X.ys ++ cs, X.az ++ [.slice ax rs.length capa], X.ss ++ [.string R], X.lvs ++ [lv], C1 ++ X.C⟩, ⟨hb, ?_, ?_, ?_, ?_, ?_, ?_, ?_, ?_, ?_⟩, hF⟩
  · have e1 : (X.lvs ++ [lv]).flatten = X.lvs.flatten ++ lv := by simp
    have e2 : (as' ++ [rs]).flatten = as'.flatten ++ rs := by simp
    have e3 : Z9 (X.lvs.flatten ++ lv) (as'.flatten ++ rs) = Z9 X.lvs.flatten as'.flatten ++ Z9 lv rs := by
      unfold Z9
      exact List.zipWith_append hfl
    have e4 : An (X.az ++ [.slice ax rs.length capa]) (X.lvs ++ [lv]) = An X.az X.lvs ++ [(28, .slice ax rs.length capa, lv)] := by
      unfold An
      have e5 : X.az.length = X.lvs.length := by
        have := congrArg List.length h.lv
        simp only [List.length_map] at this
        rw [h.az, this]
      rw [List.zipWith_append e5]
      rfl
    unfold BX.Fl
    simp only [e1, e2, e3, e4]
    refine OwnsAll.perm ?_ (hold_perm (H := ([(28, tv', X.lvs.flatten ++ lv), (28, t0', X.ys ++ cs), (30, rv', X.az ++ [Value.slice ax rs.length capa]), (9, r0', X.ss ++ [Value.string R])] : List En)) (C1 := C1) (x := (28, .slice ax rs.length capa, lv)) (Z := Z9 lv rs) (T := Z9 X.lvs.flatten as'.flatten) (A := An X.az X.lvs) (C := X.C) (Q := Z))
    exact hO
  · simp [h.az]
  · simp [h.lv, hlv]
  · intro r hr'
    simp only [List.flatten_append, List.flatten_cons, List.flatten_nil, List.append_nil, List.mem_append] at hr'
    rcases hr' with q | q
    · exact h.ok r q
    · exact hrs r q
  · simp [h.ss]
  · intro i hi
    by_cases q : i < as'.length
    · obtain ⟨R', K', q1, q2⟩ := h.told i q
      exact ⟨R', K', by rw [List.getElem?_append_left (by rw [h.ss]; exact q)]; exact q1, by rw [List.getElem_append_left q]; exact q2⟩
    · have q' : i = as'.length := by simp at hi; omega
      subst q'
      exact ⟨R, K, by rw [List.getElem?_append_right (by rw [h.ss]; exact Nat.le_refl _), h.ss, Nat.sub_self]; rfl, by rw [List.getElem_append_right (Nat.le_refl _)]; simpa using hK⟩
  · simp [h.ys, hC.1]
  · have e2 : (as' ++ [rs]).flatten = as'.flatten ++ rs := by simp
    intro i hi
    by_cases q : i < as'.flatten.length
    · obtain ⟨c, q1, q2⟩ := h.cop i q
      refine ⟨c, by rw [List.getElem?_append_left (by rw [h.ys]; exact q)]; exact q1, List.mem_append_right _ ?_⟩
      have : (as' ++ [rs]).flatten[i] = as'.flatten[i] := by simp only [e2, List.getElem_append_left q]
      rw [this]
      exact q2
    · have hi2 : i - as'.flatten.length < rs.length := by
        have := hi
        rw [e2, List.length_append] at this
        omega
      obtain ⟨c, q1, q2⟩ := hC.2.2 (i - as'.flatten.length) hi2 hi2
      refine ⟨c, by rw [List.getElem?_append_right (by rw [h.ys]; omega), h.ys]; exact q1, List.mem_append_left _ ?_⟩
      have : (as' ++ [rs]).flatten[i] = rs[i - as'.flatten.length] := by simp only [e2, List.getElem_append_right (Nat.not_lt.1 q)]
      rw [this]
      exact q2
  · intro x hx
    rcases List.mem_append.1 hx with hx | hx
    · exact hC.2.1 x hx
    · exact h.ty x hx
end Go.Proofs.YtappphffbnkloaaGreatDoor.Sht
set_option linter.unusedVariables false
namespace Go.Proofs.YtappphffbnkloaaGreatDoor.Sht
open Go Go.RowKit Go.ChangeShapes Go.WideShapes Go.Deep
end Go.Proofs.YtappphffbnkloaaGreatDoor.Sht
set_option linter.unusedVariables false
set_option linter.unusedSimpArgs false
namespace Go.Proofs.YtappphffbnkloaaGreatDoor.Sht
open Go Go.RowKit Go.ChangeShapes Go.WideShapes Go.Deep Go.Proofs.YtappphffbnkloaaGreatDoorW.PrintWords
/-- a nil slice has no room -/
def NilOk (v : Value) : Prop := ∀ n c, v = .slice none n c → v = .slice none 0 0
def RowsN (w : World) (v : Value) (rs : Rows) : Prop :=
  ∃ x cap, v = .slice x rs.length cap ∧ rs.length ≤ 9223372036854775807 ∧ ∀ i (h : i < rs.length), ∃ (a : Addr) (u : Value), x = some a ∧ w.cell? (a.add i) = some u ∧ RowIn w u rs[i] ∧ NilOk u
theorem RowsN.rows {w : World} {v : Value} {rs : Rows} (h : RowsN w v rs) : RowsIn w v rs := by
  obtain ⟨x, cap, h1, h2, h3⟩ := h
  refine ⟨x, cap, h1, h2, fun i hi => ?_⟩
  obtain ⟨a, u, q1, q2, q3, _⟩ := h3 i hi
  exact ⟨a, u, q1, q2, q3⟩
end Go.Proofs.YtappphffbnkloaaGreatDoor.Sht
set_option linter.unusedVariables false
set_option linter.unusedSimpArgs false
namespace Go.Proofs.YtappphffbnkloaaGreatDoor.Sht
open Go Go.RowKit Go.Proofs.YtappphffbnkloaaGreatDoorW.PrintWords Go.Proofs.YtappphffbnkloaaGreatDoorW.PrintLast Go.Proofs.YtappphffbnkloaaGreatDoor.GS
attribute [local go_sem ↓] Go.wp_at_zero Go.wp_at_succ
def noteB (i : Nat) : ByteArray := strOfNums [(Int.tmod (i : Int) 251) % 256, (wrap64 (Int.tdiv (i : Int) 251)) % 256]
theorem noteB_size (i : Nat) : (noteB i).size = 2 := rfl
def markB (i : Nat) : ByteArray := noteB i ++ ⟨#[108, 101, 110, 116]⟩
theorem note_r (i : Nat) (w : World) : Calls Tryz.prog 56 #[.int .i64 (i : Int)] w fun e w' => e = .returned (.string (noteB i)) ∧ Below w.heap.size w w' := larderref01_note.calls (i : Int) (noteB i) w rfl
def marks (k : Nat) : List Value := (List.range k).map fun i => Value.string (markB i)
theorem own_below {w w' : World} {B : Nat} {e : TypeId} {v : Value} {n : Nat} {xs : List Value} (h : w.ownsRow B e 1 v n xs) (k : Below w.heap.size w w') : w'.ownsRow B e 1 v n xs :=
  ownsRow_kept h fun j hj => k.block j (h.lt j hj).2
theorem own_slice {w : World} {B : Nat} {e : TypeId} {v : Value} {n : Nat} {xs : List Value} (h : w.ownsRow B e 1 v n xs) (hn : 0 < n) : ∃ g cap, v = .slice (some ⟨g, 0, none⟩) n cap ∧ n ≤ cap ∧ cap ≤ 9223372036854775807 := by
  rcases h.2 with ⟨_, h0⟩ | ⟨g, cap, cur, rfl, _, _, h1, h2, _⟩
  · omega
  · exact ⟨g, cap, rfl, h1, maxLen_le h2⟩
/-- a lent row -/
def Lrow (w : World) (B : Nat) (u : Value) (r : List (List UInt8)) : Prop := ∃ g cap, u = .slice (some ⟨g, 0, none⟩) r.length cap ∧ w.ownsRow B 9 1 (.slice (some ⟨g, 0, none⟩) (r.length + 9) cap) (r.length + 9) (sts r ++ marks 9)
theorem kept_cell' {w w' : World} {a : Addr} {v : Value} (h : w.cell? a = some v) (k : Below w.heap.size w w') : w'.cell? a = some v := (k.cell (World.block_lt_of_cell? _ _ h)).trans h
end Go.Proofs.YtappphffbnkloaaGreatDoor.Sht
set_option linter.unusedVariables false
set_option linter.unusedSimpArgs false
namespace Go.Proofs.YtappphffbnkloaaGreatDoor.Sht
open Go Go.RowKit Go.Proofs.YtappphffbnkloaaGreatDoorW.PrintWords Go.Proofs.YtappphffbnkloaaGreatDoor.GS
attribute [local go_sem ↓] Go.wp_at_zero Go.wp_at_succ
theorem own_mono {w : World} {B B' : Nat} {e : TypeId} {v : Value} {n : Nat} {xs : List Value} (h : w.ownsRow B e 1 v n xs) (k : B' ≤ B) : w.ownsRow B' e 1 v n xs := by
  obtain ⟨h1, h2 | ⟨g, cap, cur, hv, hg, q⟩⟩ := h
  · exact ⟨h1, .inl h2⟩
  · exact ⟨h1, .inr ⟨g, cap, cur, hv, Nat.le_trans k hg, q⟩⟩
theorem lrow_block {w : World} {B : Nat} {u : Value} {r : List (List UInt8)} (h : Lrow w B u r) : ∃ g cs, B ≤ g ∧ w.heap[g]? = some (.cells cs 9 (0, 0)) ∧ ∀ w' : World, w'.heap[g]? = w.heap[g]? → Lrow w' B u r := by
  obtain ⟨g, cap, rfl, ho⟩ := h
  have ho' := ho
  obtain ⟨h1, ⟨e, _⟩ | ⟨g', cap', cur, hv, hg, hh, q⟩⟩ := ho'
  · cases e
  · cases hv
    exact ⟨g, cur, hg, hh, fun w' k => ⟨g, cap, rfl, ownsRow_kept ho fun j hj => by cases hj; exact k⟩⟩
def Nrow (w : World) (B : Nat) (u : Value) (i : Nat) : Prop := ∃ g, u = .slice (some ⟨g, 0, none⟩) 1 1 ∧ B ≤ g ∧ w.heap[g]? = some (.cells #[.string (noteB i)] 9 (0, 0))
def Lent1 (w : World) (B : Nat) (rs : Rows) (k : Nat) (vs : List Value) : Prop := vs.length = k ∧ ∀ i (h : i < rs.length), i < k → ∃ u, vs[i]? = some u ∧ Lrow w B u rs[i]
def Not1 (w : World) (B m : Nat) (ex : List Value) : Prop := ex.length = m ∧ ∀ i, i < m → ∃ u, ex[i]? = some u ∧ Nrow w B u i
/-- the blocks of texts are as they were -/
def Keep9 (B : Nat) (w w' : World) : Prop := ∀ g cs, B ≤ g → w.heap[g]? = some (.cells cs 9 (0, 0)) → w'.heap[g]? = w.heap[g]?
theorem Lent1.keep {w w' : World} {B : Nat} {rs : Rows} {k : Nat} {vs : List Value} (h : Lent1 w B rs k vs) (hk : Keep9 B w w') : Lent1 w' B rs k vs := ⟨h.1, fun i hi hik => by
  obtain ⟨u, h1, h2⟩ := h.2 i hi hik
  obtain ⟨g, cs, hg, hh, q⟩ := lrow_block h2
  exact ⟨u, h1, q w' (hk g cs hg hh)⟩⟩
theorem Not1.keep {w w' : World} {B m : Nat} {ex : List Value} (h : Not1 w B m ex) (hk : Keep9 B w w') : Not1 w' B m ex := ⟨h.1, fun i hi => by
  obtain ⟨u, h1, g, rfl, hg, hh⟩ := h.2 i hi
  exact ⟨_, h1, g, rfl, hg, (hk g _ hg hh).trans hh⟩⟩
theorem Keep9.below {B : Nat} {w w' : World} (h : Below w.heap.size w w') : Keep9 B w w' := fun g cs _ hh => h.block g (blt hh)
theorem Keep9.grown {B B0 : Nat} {w w' : World} {o : Obj} {v : Value} {n : Nat} {xs : List Value} (hv : w.ownsRow B0 28 1 v n xs) (hg : (w.alloc o).grownBy w' v.ownBlock) : Keep9 B w w' := fun g cs _ hh => by
  have h1 : (w.alloc o).heap[g]? = w.heap[g]? := ((Below.refl w.heap.size w).alloc (Nat.le_refl _) o).block g (blt hh)
  refine (hg.block g (by simp; have := blt hh; omega) fun e => ?_).trans h1
  obtain ⟨cs', hc'⟩ := kind_row hv g e.symm
  rw [hh] at hc'
  have := (Obj.cells.inj (Option.some.inj hc')).2.1
  revert this
  decide
theorem Keep9.trans {B : Nat} {a b c : World} (h : Keep9 B a b) (k : Keep9 B b c) : Keep9 B a c := fun g cs hB hh => by
  have := h g cs hB hh
  exact (k g cs hB (this.trans hh)).trans this
theorem Lent1.snoc {w : World} {B : Nat} {rs : Rows} {k : Nat} {vs : List Value} {u : Value} (h : Lent1 w B rs k vs) (hk : k < rs.length) (hu : Lrow w B u rs[k]) : Lent1 w B rs (k + 1) (vs ++ [u]) := by
  refine ⟨by rw [List.length_append, h.1]; rfl, fun i hi hik => ?_⟩
  by_cases e : i < k
  · obtain ⟨u0, h1, h2⟩ := h.2 i hi e
    exact ⟨u0, by rw [List.getElem?_append_left (by rw [h.1]; exact e)]; exact h1, h2⟩
  · obtain rfl : i = k := by omega
    exact ⟨u, by rw [List.getElem?_append_right (by rw [h.1]; exact Nat.le_refl _), h.1, Nat.sub_self]; rfl, hu⟩
theorem Not1.snoc {w : World} {B m : Nat} {ex : List Value} {u : Value} (h : Not1 w B m ex) (hu : Nrow w B u m) : Not1 w B (m + 1) (ex ++ [u]) := by
  refine ⟨by rw [List.length_append, h.1]; rfl, fun i hi => ?_⟩
  by_cases e : i < m
  · obtain ⟨u0, h1, h2⟩ := h.2 i e
    exact ⟨u0, by rw [List.getElem?_append_left (by rw [h.1]; exact e)]; exact h1, h2⟩
  · obtain rfl : i = m := by omega
    exact ⟨u, by rw [List.getElem?_append_right (by rw [h.1]; exact Nat.le_refl _), h.1, Nat.sub_self]; rfl, hu⟩
/-- what LentRows leaves -/
def LentR (w : World) (B : Nat) (v : Value) (rs : Rows) : Prop := ∃ g cap vs ex, v = .slice (some ⟨g, 0, none⟩) rs.length cap ∧ w.ownsRow B 28 1 (.slice (some ⟨g, 0, none⟩) (rs.length + 9) cap) (rs.length + 9) (vs ++ ex) ∧ Lent1 w B rs rs.length vs ∧ Not1 w B 9 ex
end Go.Proofs.YtappphffbnkloaaGreatDoor.Sht
set_option linter.unusedVariables false
set_option linter.unusedSimpArgs false
namespace Go.Proofs.YtappphffbnkloaaGreatDoor.Sht
open Go Go.RowKit Go.Proofs.YtappphffbnkloaaGreatDoorW.PrintWords Go.Proofs.YtappphffbnkloaaGreatDoor.GS
attribute [local go_sem ↓] Go.wp_at_zero Go.wp_at_succ
theorem named_r (gx i : Nat) (w : World) (hx : w.heap[gx]? = some (.cells #[.string (noteB i)] 9 (0, 0))) : Calls Tryz.prog 61 #[.slice (some ⟨gx, 0, none⟩) 1 1, .int .i64 (i : Int)] w fun e w' => e = .returned (.bool true) ∧ Below w.heap.size w w' := by
  refine larderref01_named.calls (some ⟨gx, 0, none⟩) 1 [noteB i] (i : Int) true w ⟨rfl, by simp, fun _ => ⟨_, rfl, fun j q hj => ⟨[.string q], rfl, rfl, fun m u hu => ?_⟩⟩⟩ (by simp) ?_
  · match j, hj with
    | 0, hj =>
      obtain rfl : noteB i = q := by simpa using hj
      match m, hu with
      | 0, hu =>
        obtain rfl : Value.string (noteB i) = u := by simpa using hu
        show w.cell? ⟨gx, 0, none⟩ = _
        simp [World.cell?, hx]
  · have e : larderref01_note.f (i : Int) = some (noteB i) := rfl
    unfold larderref01_named.f
    rw [e]
    simp [rdOf]
theorem LentR.below {w w' : World} {B : Nat} {v : Value} {rs : Rows} (h : LentR w B v rs) (k : Below w.heap.size w w') : LentR w' B v rs := by
  obtain ⟨g, cap, vs, ex, h1, h2, h3, h4⟩ := h
  exact ⟨g, cap, vs, ex, h1, own_below h2 k, h3.keep (Keep9.below k), h4.keep (Keep9.below k)⟩
end Go.Proofs.YtappphffbnkloaaGreatDoor.Sht
set_option linter.unusedVariables false
set_option linter.unusedSimpArgs false
namespace Go.Proofs.YtappphffbnkloaaGreatDoor.Sht
open Go Go.RowKit Go.Joins
attribute [local go_sem ↓] Go.wp_at_zero Go.wp_at_succ
/-- bytes among the arguments -/
def ByteIn (w : World) (v : Value) (l : List UInt8) : Prop :=
  ∃ x cap, v = .slice x l.length cap ∧ l.length ≤ cap ∧ cap ≤ 9223372036854775807 ∧ ∀ i (h : i < l.length), ∃ a : Addr, x = some a ∧ w.cell? (a.add i) = some (ch l[i])
theorem ByteIn.below {w w' : World} {v : Value} {l : List UInt8} (h : ByteIn w v l) (k : Below w.heap.size w w') : ByteIn w' v l := by
  obtain ⟨x, cap, h1, h2, h3, h4⟩ := h
  refine ⟨x, cap, h1, h2, h3, fun i hi => ?_⟩
  obtain ⟨a, e, hc⟩ := h4 i hi
  exact ⟨a, e, kept_cell' hc k⟩
def bmarks (k : Nat) : List Value := (List.range k).map fun i => Value.int .u8 ((208 + i : Nat) : Int)
theorem bmarks_succ (k : Nat) : bmarks (k + 1) = bmarks k ++ [.int .u8 ((208 + k : Nat) : Int)] := by simp [bmarks, List.range_succ]
theorem bmarks_get (j : Nat) (h : j < 9) : (bmarks 9)[j]? = some (.int .u8 ((208 + j : Nat) : Int)) := by
  unfold bmarks
  rw [List.getElem?_map, List.getElem?_range h]; rfl
/-- append(own, bytes...) -/
theorem wpList_append_bytes {w : World} {ops : Array Oper} {rest : List Oper} {o : Oper} {a : Act} {Q : Exit → Act → World → Prop} (hgd : o.guard = none) (s x : Operand)
    (ho : o.op = .call { callee := .builtin .append, args := #[s, x], argTypes := #[37, 37] }) (base : Nat) (v : Value) (n : Nat) (xs : List Value) (hs : a.eval s = v) (hown : w.ownsRow base 5 1 v n xs)
    {v3 : Value} {l : List UInt8} (hx : a.eval x = v3) (hr : ByteIn w v3 l) (hnil : NilOk v3) (hb : n + l.length ≤ 140737488355328) (hbase : base ≤ w.heap.size)
    (h : ∀ v' w', w'.ownsRow base 5 1 v' (n + l.length) (xs ++ bs l) → w.grownBy w' v.ownBlock → wpList Tryz.prog ops Q rest (a.put o.dst v') w') : wpList Tryz.prog ops Q (o :: rest) a w := by
  obtain ⟨i0, hi, hz0, hz1, hz2⟩ := info_parts info5
  obtain ⟨y, cap, rfl, hlen, _, hy⟩ := hr
  cases y with
  | none =>
    have h0 : l.length = 0 := by
      rcases Nat.eq_zero_or_pos l.length with q | q
      · exact q
      · obtain ⟨ad, e, _⟩ := hy 0 q
        cases e
    have hr0 : l = [] := List.eq_nil_of_length_eq_zero h0
    subst hr0
    refine wpList_append_own_none hgd s x 37 ho base 5 i0 1 Tryz.underlying37 hi v n xs hs hown (hx.trans (hnil _ _ rfl)) ?_
    exact h v w (by simpa [bs] using hown) ⟨rfl, rfl, rfl, Nat.le_refl _, fun _ _ _ => rfl⟩
  | some ad =>
    exact wpList_append_own w hgd s x 37 ho base 5 i0 _ 1 1 Tryz.underlying37 hi hz0 hz1 hz2 rfl (by decide) v n xs hs hown ad l.length cap (bs l) hx (by rw [bs_len, Nat.mul_one]) (fun j u hj => by
      unfold bs at hj
      rw [List.getElem?_map, Option.map_eq_some_iff] at hj
      obtain ⟨q, hq, rfl⟩ := hj
      obtain ⟨hl, he⟩ := List.getElem?_eq_some_iff.1 hq
      obtain ⟨ad, e, hc⟩ := hy j hl
      obtain rfl := Option.some.inj e
      rw [hc, he]) (fun u hu => by
      obtain ⟨q, _, rfl⟩ := List.mem_map.1 hu
      rfl) (by unfold maxLen; omega) (by omega) hbase (fun v' w' q1 q2 _ => h v' w' q1 q2)
/-- append(own, one byte) -/
theorem wpList_append_byte1 {w : World} {ops : Array Oper} {rest : List Oper} {o : Oper} {a : Act} {Q : Exit → Act → World → Prop} (hgd : o.guard = none) (s x : Operand)
    (ho : o.op = .call { callee := .builtin .append, args := #[s, x], argTypes := #[37, 37] }) (base : Nat) (v : Value) (n : Nat) (xs : List Value) (z : Int) (hs : a.eval s = v) (hown : w.ownsRow base 5 1 v n xs)
    (hx : a.eval x = .slice (some ⟨w.heap.size, 0, none⟩) 1 1) (hb : n + 1 ≤ 140737488355328) (hbase : base ≤ w.heap.size)
    (h : ∀ v' w', w'.ownsRow base 5 1 v' (n + 1) (xs ++ [.int .u8 z]) → (w.alloc (.cells #[.int .u8 z] 5)).grownBy w' v.ownBlock → wpList Tryz.prog ops Q rest (a.put o.dst v') w') : wpList Tryz.prog ops Q (o :: rest) a (w.alloc (.cells #[.int .u8 z] 5)) := by
  obtain ⟨i0, hi, hz0, hz1, hz2⟩ := info_parts info5
  exact wpList_append_own (w.alloc (.cells #[.int .u8 z] 5)) hgd s x 37 ho base 5 i0 _ 1 1 Tryz.underlying37 hi hz0 hz1 hz2 rfl (by decide) v n xs hs (hown.alloc _) ⟨w.heap.size, 0, none⟩ 1 1 [.int .u8 z] hx rfl
    (fun j u hj => by
      match j, hj with
      | 0, hj => simp at hj; subst hj; simp [Addr.add])
    (fun u hu => by simp at hu; subst hu; rfl) (by unfold maxLen; omega) (by omega) (by simp; omega) (fun v' w' q1 q2 _ => h v' w' q1 q2)
/-- lent bytes -/
def Lbyte (w : World) (B : Nat) (u : Value) (l : List UInt8) : Prop := ∃ g cap, u = .slice (some ⟨g, 0, none⟩) l.length cap ∧ w.ownsRow B 5 1 (.slice (some ⟨g, 0, none⟩) (l.length + 9) cap) (l.length + 9) (bs l ++ bmarks 9)
set_option maxHeartbeats 1000000 in
set_option maxRecDepth 100000 in
theorem lent_r (l : List UInt8) (v : Value) (w : World) (h : ByteIn w v l) (hnil : NilOk v) (hsz : l.length ≤ 140737488351232) : Calls Tryz.prog 14 #[v] w fun e w' => ∃ u, e = .returned u ∧ Lbyte w' w.heap.size u l ∧ Below w.heap.size w w' := by
  have HR := Lib.hid h
  have HN := Lib.hid hnil
  obtain ⟨x, cap, rfl, hlen, _, _⟩ := h
  clear hnil
  go_enter Tryz.func14, Tryz.ntmps14
  go_wp2_with (at_builtin; refine wpList_append_bytes rfl (.tmp 5) (.tmp 6) rfl w.heap.size (.slice none 0 0) 0 [] rfl (World.ownsRow_nil _ _ _ _) rfl HR.out HN.out (by omega) (Nat.le_refl _) ?_; intro v1 w1 hown hg; have HO : Hid (w1.ownsRow w.heap.size 5 1 v1 l.length (bs l)) := Lib.hid (by simpa using hown); have HB := Lib.hid ((Below.refl w.heap.size w).grown hg (Nat.le_refl _) (fun k hk => by simp [Value.ownBlock] at hk)); clear hown hg)
  go_loopw [3, 4] (fun v i wr => ∃ k : Nat, k ≤ 9 ∧ i = .int .i64 (k : Int) ∧ Hid (wr.ownsRow w.heap.size 5 1 v (l.length + k) (bs l ++ bmarks k)) ∧ Hid (Below w.heap.size w wr)) (fun _ i _ => 9 - (intOf i).toNat)
  case atStart => exact ⟨0, by omega, rfl, Lib.hid (by simpa [bmarks] using HO.out), HB⟩
  case round =>
    obtain ⟨k, hk, rfl, HOk, HBk⟩ := hrel
    by_cases hlt : k < 9
    · have e1 : IntKind.i64.wrap (208 + (k : Int)) = 208 + (k : Int) := IntWalk.i64_in _ (by omega)
      have e2 : IntKind.u8.wrap (208 + (k : Int)) = 208 + (k : Int) := IntWalk.u8_in _ (by omega)
      go_wp2_with (first
        | (at_builtin; refine wpList_append_byte1 (w := wr) rfl (.tmp 12) (.tmp 16) rfl w.heap.size _ _ _ (208 + (k : Int)) rfl HOk.out rfl (by omega) HBk.out.size ?_; intro v3 w3 hown hg; have HO3 := Lib.hid hown; have HB3 := Lib.hid ((HBk.out.alloc HBk.out.size _).grown hg (by simp; have := HBk.out.size; omega) (fun j hj => (HOk.out.lt j hj).1)); clear hown hg))
      go_roundw
      case rel => exact ⟨k + 1, by omega, by go_num, Lib.hid (by rw [bmarks_succ, ← List.append_assoc]; exact HO3.out), HB3⟩
      case measure => simp [intOf]; omega
    · obtain rfl : k = 9 := by omega
      obtain ⟨g, cap', rfl, h1, h2⟩ := own_slice HOk.out (by omega)
      have n0 : (0 : Int) ≤ (l.length : Int) := Int.natCast_nonneg _
      have n1 : (l.length : Int) ≤ (cap' : Int) := by omega
      go_wp2
      go_ret
      exact ⟨_, rfl, ⟨g, cap', rfl, HOk.out⟩, HBk.out⟩
theorem conv_in {w : World} {v : Value} {l : List UInt8} (h : ByteIn w v l) : (convert 37 9 v).run Tryz.prog w = .ok (.string ⟨l.toArray⟩) w := by
  obtain ⟨x, cap, rfl, _, _, hx⟩ := h
  cases x with
  | none =>
    have h0 : l = [] := by
      rcases Nat.eq_zero_or_pos l.length with q | q
      · exact List.eq_nil_of_length_eq_zero q
      · obtain ⟨_, e, _⟩ := hx 0 q
        cases e
    subst h0
    exact run_convert_bytes_nil w 37 5 Tryz.underlying37 Tryz.underlying5 _ cap 9 Tryz.underlying9
  | some ad =>
    exact run_convert_bytes_back w 37 9 5 ad cap l Tryz.underlying37 Tryz.underlying5 Tryz.underlying9 (fun j hj => by
      obtain ⟨a, e, hc⟩ := hx j hj
      obtain rfl := Option.some.inj e
      exact hc)
theorem byteIn_lent {w : World} {B : Nat} {u : Value} {l : List UInt8} (h : Lbyte w B u l) : ByteIn w u l := by
  obtain ⟨g, cap, rfl, ho⟩ := h
  obtain ⟨g', cap', e, h1, h2⟩ := own_slice ho (by omega)
  cases e
  refine ⟨_, cap, rfl, by omega, h2, fun i hi => ⟨_, rfl, ?_⟩⟩
  exact ho.cells (g := g) rfl i (ch l[i]) (by rw [List.getElem?_append_left (by rw [bs_len]; exact hi)]; simp [bs, hi])
set_option maxHeartbeats 1000000 in
set_option maxRecDepth 100000 in
theorem kept_r (B : Nat) (l : List UInt8) (u v : Value) (w : World) (hu : Lbyte w B u l) (h : ByteIn w v l) (hsz : l.length ≤ 140737488351232) : Calls Tryz.prog 17 #[u, v] w fun e w' => e = .returned (.bool true) ∧ Below w.heap.size w w' := by
  have hcv1 := conv_in (byteIn_lent hu)
  obtain ⟨g, capg, rfl, ho⟩ := hu
  have hcv2 := conv_in h
  obtain ⟨x, cap, rfl, hlen, hcx, hx⟩ := h
  obtain ⟨g', cap', e, h1, h2⟩ := own_slice ho (by omega)
  obtain ⟨-, -, rfl⟩ : True ∧ True ∧ cap' = capg := by cases e; exact ⟨trivial, trivial, rfl⟩
  have hcell : ∀ j u, (bs l ++ bmarks 9)[j]? = some u → w.cell? ⟨g, j, none⟩ = some u := fun j u hj => by
    have := ho.cells (g := g) rfl j u hj
    rwa [Lib.add_plain, Nat.zero_add] at this
  have HC := Lib.hid hcell
  clear ho e hcell hx
  have n0 : (0 : Int) ≤ (l.length : Int) + 9 := by omega
  have n1 : (l.length : Int) + 9 ≤ (cap' : Int) := by omega
  go_enter Tryz.func17, Tryz.ntmps17
  go_wp2
  clear hcv1 hcv2
  go_loopw [6] (fun i wr => ∃ k : Nat, k ≤ 9 ∧ i = .int .i64 (k : Int) ∧ Hid (Below w.heap.size w wr)) (fun i _ => 9 - (intOf i).toNat)
  case atStart => exact ⟨0, by omega, rfl, Lib.hid (Below.refl _ _)⟩
  case round =>
    obtain ⟨k, hk, rfl, HB⟩ := hrel
    by_cases hlt : k < 9
    · have e1 : IntKind.i64.wrap (208 + (k : Int)) = 208 + (k : Int) := IntWalk.i64_in _ (by omega)
      have e2 : IntKind.u8.wrap (208 + (k : Int)) = 208 + (k : Int) := IntWalk.u8_in _ (by omega)
      have c1 : wr.cell? ⟨g, l.length + k, none⟩ = some (.int .u8 (208 + (k : Int))) := kept_cell' (HC.out (l.length + k) _ (by rw [List.getElem?_append_right (by rw [bs_len]; omega), bs_len, Nat.add_sub_cancel_left]; exact bmarks_get k hlt)) HB.out
      have k0 : (0 : Int) ≤ (l.length : Int) + (k : Int) := by omega
      have k1 : (l.length : Int) + (k : Int) < (l.length : Int) + 9 := by omega
      have k2 : l.length + k < l.length + 9 := by omega
      go_wp2
      go_roundw
      case rel => exact ⟨k + 1, by omega, by go_num, HB⟩
      case measure => simp [intOf]; omega
    · obtain rfl : k = 9 := by omega
      go_wp2
      go_ret
      exact ⟨rfl, HB.out⟩
end Go.Proofs.YtappphffbnkloaaGreatDoor.Sht

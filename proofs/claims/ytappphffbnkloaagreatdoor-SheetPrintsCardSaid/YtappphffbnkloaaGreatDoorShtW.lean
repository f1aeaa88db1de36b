/- The reader in memory: its thirteen cells, its lists, its fault; what a step leaves alone. -/
import Derived.Test.YtappphffbnkloaaGreatDoorShtM
import Derived.Test.YtappphffbnkloaaGreatDoorProg
import Derived.WalkKit
import Derived.Below
import Derived.Deep.AppendLies
set_option linter.unusedVariables false
namespace Go.Proofs.YtappphffbnkloaaGreatDoor.Sht
open Go Go.RowKit
/-! ### blocks -/
theorem bset {w : World} {g : Nat} {t : TypeId} {cs : Array Value} (h : w.heap[g]? = some (.cells cs t (0, 0))) (i : Nat) (u : Value) : (w.setCell ⟨g, i, none⟩ u).heap[g]? = some (.cells (cs.setIfInBounds i u) t (0, 0)) := by
  have hlt := (Array.getElem?_eq_some_iff.1 h).1
  simp only [World.setCell, Array.getElem?_modify]
  simp [h]
theorem bfar {w : World} {g : Nat} {o : Obj} (h : w.heap[g]? = some o) {p : Addr} (hp : g ≠ p.block) (u : Value) : (w.setCell p u).heap[g]? = some o := (Below.heap_setCell w p u g hp).trans h
theorem blt {w : World} {g : Nat} {o : Obj} (h : w.heap[g]? = some o) : g < w.heap.size := (Array.getElem?_eq_some_iff.1 h).1
theorem bcell {w : World} {g : Nat} {t : TypeId} {cs : Array Value} (h : w.heap[g]? = some (.cells cs t (0, 0))) (i : Nat) : w.cell? ⟨g, i, none⟩ = cs[i]? := cell_of_row w g i cs t (0, 0) h
theorem bfree {w : World} {g : Nat} {t : TypeId} {cs : Array Value} (h : w.heap[g]? = some (.cells cs t (0, 0))) (i : Nat) : w.frozen? ⟨g, i, none⟩ = false := by simp [World.frozen?, h]
theorem setSize (w : World) (p : Addr) (u : Value) : (w.setCell p u).heap.size = w.heap.size := by simp [World.setCell]
/-! ### values -/
abbrev PT (b : Nat) : Value := .pointer (some ⟨b, 0, none⟩)
abbrev I (n : Nat) : Value := .int .i64 (n : Int)
abbrev ch (x : UInt8) : Value := .int .u8 (x.toNat : Int)
def bs (l : List UInt8) : List Value := l.map ch
abbrev st (l : List UInt8) : Value := .string ⟨l.toArray⟩
def sts (l : List (List UInt8)) : List Value := l.map st
theorem bs_len (l : List UInt8) : (bs l).length = l.length := by simp [bs]
theorem sts_len (l : List (List UInt8)) : (sts l).length = l.length := by simp [sts]
theorem bs_app (l : List UInt8) (x : UInt8) : bs (l ++ [x]) = bs l ++ [ch x] := by simp [bs]
theorem sts_app (l : List (List UInt8)) (x : List UInt8) : sts (l ++ [x]) = sts l ++ [st x] := by simp [sts]
def nx (b : Nat) : Md → Value
  | .fresh => .func (.func 35) #[PT b] #[]
  | .start => .func (.func 69) #[PT b] #[]
  | .plain => .func (.func 88) #[PT b] #[]
  | .quoted => .func (.func 86) #[PT b] #[]
  | .closed => .func (.func 98) #[PT b] #[]
  | .back => .func (.func 112) #[PT b] #[]
def ov (b : Nat) : Md → Value
  | .fresh => .func (.func 36) #[PT b] #[]
  | .start => .func (.func 89) #[PT b] #[]
  | .plain => .func (.func 89) #[PT b] #[]
  | .quoted => .func (.func 87) #[PT b] #[]
  | .closed => .func (.func 89) #[PT b] #[]
  | .back => .func (.func 113) #[PT b] #[]
/-- the variable of a fault's code -/
def gl (c : Nat) : Nat :=
  if c = 1 then 2 else if c = 2 then 6 else if c = 3 then 1 else if c = 4 then 7 else if c = 5 then 8
  else if c = 6 then 9 else if c = 7 then 10 else if c = 8 then 3 else if c = 9 then 4 else 0
abbrev errV (A : Nat → Addr) (c : Nat) : Value := .iface 215 (.pointer (some (A c)))
/-- the errors that the reader tells: they lie below every block of its own -/
def coded (c : Nat) : Prop := (1 ≤ c ∧ c ≤ 9) ∨ c = 20
structure SF (W : World) (A : Nat → Addr) : Prop where
  hv : ∀ c, coded c → W.cell? ⟨gl c, 0, none⟩ = some (errV A c)
  hn : ∀ c c', coded c → coded c' → c ≠ c' → A c ≠ A c'
  hb : ∀ c, coded c → ∃ cs t, W.heap[(A c).block]? = some (.cells cs t (0, 0))
theorem SF.below {W W' : World} {A : Nat → Addr} (h : SF W A) (k : Below W.heap.size W W') : SF W' A :=
  ⟨fun c hc => (k.cell (p := ⟨gl c, 0, none⟩) (World.block_lt_of_cell? W _ (h.hv c hc))).trans (h.hv c hc), h.hn, fun c hc => by
    obtain ⟨cs, t, hb⟩ := h.hb c hc
    exact ⟨cs, t, (k.block _ (blt hb)).trans hb⟩⟩
/-! ### what is the reader's own -/
def ob (v : Value) : List Nat := v.ownBlock.toList
def fb : Value → List Nat
  | .iface _ (.pointer (some a)) => [a.block]
  | _ => []
def RowsAt (W : World) (B : Nat) : List Value → List (List (List UInt8)) → Prop
  | [], [] => True
  | v :: lv, r :: rs => W.ownsRow B 9 1 v r.length (sts r) ∧ RowsAt W B lv rs
  | _, _ => False
def FaultAt (W : World) (B : Nat) (A : Nat → Addr) : Value → Option (Nat × Nat × Nat) → Prop
  | v, none => v = .nilIface
  | v, some (l, c, e) => coded e ∧ ∃ g, B ≤ g ∧ v = .iface 65 (PT g) ∧ W.heap[g]? = some (.cells #[I l, I c, errV A e] 70 (0, 0))
abbrev cellsOf (b : Nat) (s : RS) (vc vr vl fl : Value) : Array Value := #[nx b s.md, ov b s.md, I s.line, I s.col, I s.all, I s.ml, I s.mc, vc, vr, vl, I s.count, I s.width, fl]
structure RD (A : Nat → Addr) (W0 W : World) (b : Nat) (s : RS) (vc vr vl fl : Value) (lv : List Value) : Prop where
  below : Below W0.heap.size W0 W
  hb : W0.heap.size ≤ b
  blk : W.heap[b]? = some (.cells (cellsOf b s vc vr vl fl) 82 (0, 0))
  hc : W.ownsRow W0.heap.size 5 1 vc s.cell.length (bs s.cell)
  hr : W.ownsRow W0.heap.size 9 1 vr s.row.length (sts s.row)
  hl : W.ownsRow W0.heap.size 28 1 vl s.rows.length lv
  rws : RowsAt W W0.heap.size lv s.rows
  flt : FaultAt W W0.heap.size A fl s.fault
  dis : (b :: (ob vc ++ (ob vr ++ (ob vl ++ (fb fl ++ lv.flatMap ob))))).Nodup
def R (A : Nat → Addr) (W0 W : World) (b : Nat) (s : RS) : Prop := ∃ vc vr vl fl lv, RD A W0 W b s vc vr vl fl lv
theorem R.mk {A : Nat → Addr} {W0 W : World} {b : Nat} {s : RS} {vc vr vl fl : Value} {lv : List Value} (h : RD A W0 W b s vc vr vl fl lv) : R A W0 W b s := ⟨vc, vr, vl, fl, lv, h⟩
/-! ### what a step leaves alone -/
def wr (w : World) (b j : Nat) : Prop := j = b ∨ ∃ o v, (o = 7 ∨ o = 8 ∨ o = 9) ∧ w.cell? ⟨b, o, none⟩ = some v ∧ v.ownBlock = some j
structure Fr (b : Nat) (w w' : World) : Prop where
  os : w'.os = w.os
  tape : w'.tape = w.tape
  output : w'.output = w.output
  size : w.heap.size ≤ w'.heap.size
  keep : ∀ j, j < w.heap.size → ¬ wr w b j → w'.heap[j]? = w.heap[j]?
  own : ∀ j, wr w' b j → wr w b j ∨ w.heap.size ≤ j
theorem Fr.refl (b : Nat) (w : World) : Fr b w w := ⟨rfl, rfl, rfl, Nat.le_refl _, fun _ _ _ => rfl, fun _ h => .inl h⟩
theorem Fr.trans {b : Nat} {u v w : World} (h : Fr b u v) (k : Fr b v w) : Fr b u w :=
  ⟨k.os.trans h.os, k.tape.trans h.tape, k.output.trans h.output, Nat.le_trans h.size k.size,
    fun j hj hn => (k.keep j (Nat.lt_of_lt_of_le hj h.size) (fun hw => by rcases h.own j hw with h1 | h1; exact hn h1; omega)).trans (h.keep j hj hn),
    fun j hw => by
      rcases k.own j hw with h1 | h1
      · exact h.own j h1
      · exact .inr (Nat.le_trans h.size h1)⟩
theorem Fr.drew {b : Nat} {u v : World} (h : Fr b u v) : Fr b u v.drew := ⟨h.os, h.tape, h.output, h.size, h.keep, h.own⟩
section
variable {A : Nat → Addr} {W0 W : World} {b : Nat} {s : RS} {vc vr vl fl : Value} {lv : List Value}
theorem RD.lt (h : RD A W0 W b s vc vr vl fl lv) : b < W.heap.size := blt h.blk
theorem RD.cells (h : RD A W0 W b s vc vr vl fl lv) : W.cell? ⟨b, 0, none⟩ = some (nx b s.md) ∧ W.cell? ⟨b, 1, none⟩ = some (ov b s.md) ∧ W.cell? ⟨b, 2, none⟩ = some (I s.line) ∧ W.cell? ⟨b, 3, none⟩ = some (I s.col) ∧ W.cell? ⟨b, 4, none⟩ = some (I s.all) ∧
    W.cell? ⟨b, 5, none⟩ = some (I s.ml) ∧ W.cell? ⟨b, 6, none⟩ = some (I s.mc) ∧ W.cell? ⟨b, 7, none⟩ = some vc ∧ W.cell? ⟨b, 8, none⟩ = some vr ∧ W.cell? ⟨b, 9, none⟩ = some vl ∧ W.cell? ⟨b, 10, none⟩ = some (I s.count) ∧ W.cell? ⟨b, 11, none⟩ = some (I s.width) ∧ W.cell? ⟨b, 12, none⟩ = some fl :=
  ⟨(bcell h.blk 0).trans rfl, (bcell h.blk 1).trans rfl, (bcell h.blk 2).trans rfl, (bcell h.blk 3).trans rfl, (bcell h.blk 4).trans rfl, (bcell h.blk 5).trans rfl, (bcell h.blk 6).trans rfl, (bcell h.blk 7).trans rfl, (bcell h.blk 8).trans rfl, (bcell h.blk 9).trans rfl, (bcell h.blk 10).trans rfl, (bcell h.blk 11).trans rfl, (bcell h.blk 12).trans rfl⟩
theorem RD.free (h : RD A W0 W b s vc vr vl fl lv) : W.frozen? ⟨b, 0, none⟩ = false ∧ W.frozen? ⟨b, 1, none⟩ = false ∧ W.frozen? ⟨b, 2, none⟩ = false ∧ W.frozen? ⟨b, 3, none⟩ = false ∧ W.frozen? ⟨b, 4, none⟩ = false ∧ W.frozen? ⟨b, 5, none⟩ = false ∧ W.frozen? ⟨b, 6, none⟩ = false ∧
    W.frozen? ⟨b, 7, none⟩ = false ∧ W.frozen? ⟨b, 8, none⟩ = false ∧ W.frozen? ⟨b, 9, none⟩ = false ∧ W.frozen? ⟨b, 10, none⟩ = false ∧ W.frozen? ⟨b, 11, none⟩ = false ∧ W.frozen? ⟨b, 12, none⟩ = false :=
  ⟨bfree h.blk 0, bfree h.blk 1, bfree h.blk 2, bfree h.blk 3, bfree h.blk 4, bfree h.blk 5, bfree h.blk 6, bfree h.blk 7, bfree h.blk 8, bfree h.blk 9, bfree h.blk 10, bfree h.blk 11, bfree h.blk 12⟩
/-- which blocks are written: by the values in the cells -/
theorem RD.wr_iff (h : RD A W0 W b s vc vr vl fl lv) (j : Nat) : wr W b j ↔ j = b ∨ vc.ownBlock = some j ∨ vr.ownBlock = some j ∨ vl.ownBlock = some j := by
  obtain ⟨_, _, _, _, _, _, _, c7, c8, c9, _, _, _⟩ := h.cells
  constructor
  · rintro (h1 | ⟨o, v, (rfl | rfl | rfl), h2, h3⟩)
    · exact .inl h1
    · rw [c7] at h2; obtain rfl := Option.some.inj h2; exact .inr (.inl h3)
    · rw [c8] at h2; obtain rfl := Option.some.inj h2; exact .inr (.inr (.inl h3))
    · rw [c9] at h2; obtain rfl := Option.some.inj h2; exact .inr (.inr (.inr h3))
  · rintro (h1 | h1 | h1 | h1)
    · exact .inl h1
    · exact .inr ⟨7, vc, .inl rfl, c7, h1⟩
    · exact .inr ⟨8, vr, .inr (.inl rfl), c8, h1⟩
    · exact .inr ⟨9, vl, .inr (.inr rfl), c9, h1⟩
theorem rowsAt_kept {W W' : World} {B : Nat} : ∀ {lv : List Value} {rs : List (List (List UInt8))}, RowsAt W B lv rs → (∀ j, j ∈ lv.flatMap ob → W'.heap[j]? = W.heap[j]?) → RowsAt W' B lv rs
  | [], [], _, _ => trivial
  | v :: lv, r :: rs, h, hk => ⟨by
      obtain ⟨h1, h2⟩ := h.1
      refine ⟨h1, ?_⟩
      rcases h2 with h2 | ⟨g, cap, cur, hv, hg, hh, q⟩
      · exact .inl h2
      · refine .inr ⟨g, cap, cur, hv, hg, ?_, q⟩
        rw [hk g (by subst hv; simp [ob, Value.ownBlock])]
        exact hh, rowsAt_kept h.2 (fun j hj => hk j (by simp only [List.flatMap_cons, List.mem_append]; exact .inr hj))⟩
  | [], _ :: _, h, _ => h.elim
  | _ :: _, [], h, _ => h.elim
theorem ownsRow_kept {W W' : World} {B : Nat} {e : TypeId} {v : Value} {n : Nat} {xs : List Value} (h : W.ownsRow B e 1 v n xs) (hk : ∀ j, v.ownBlock = some j → W'.heap[j]? = W.heap[j]?) : W'.ownsRow B e 1 v n xs := by
  obtain ⟨h1, h2⟩ := h
  refine ⟨h1, ?_⟩
  rcases h2 with h2 | ⟨g, cap, cur, hv, hg, hh, q⟩
  · exact .inl h2
  · refine .inr ⟨g, cap, cur, hv, hg, ?_, q⟩
    rw [hk g (by subst hv; rfl)]
    exact hh
theorem faultAt_kept {W W' : World} {B : Nat} {A : Nat → Addr} {v : Value} {f : Option (Nat × Nat × Nat)} (h : FaultAt W B A v f) (hk : ∀ j, j ∈ fb v → W'.heap[j]? = W.heap[j]?) : FaultAt W' B A v f := by
  cases f with
  | none => exact h
  | some f =>
    obtain ⟨l, c, e⟩ := f
    obtain ⟨hc, g, hg, hv, hh⟩ := h
    exact ⟨hc, g, hg, hv, (hk g (by subst hv; simp [fb])).trans hh⟩
theorem RD.all_lt (h : RD A W0 W b s vc vr vl fl lv) : ∀ j ∈ b :: (ob vc ++ (ob vr ++ (ob vl ++ (fb fl ++ lv.flatMap ob)))), j < W.heap.size := by
  have own : ∀ {e : TypeId} {v : Value} {n : Nat} {xs : List Value}, W.ownsRow W0.heap.size e 1 v n xs → ∀ j ∈ ob v, j < W.heap.size := fun ho j hj => (ho.lt j (by simpa [ob] using hj)).2
  have rows : ∀ (lv : List Value) (rs : List (List (List UInt8))), RowsAt W W0.heap.size lv rs → ∀ j ∈ lv.flatMap ob, j < W.heap.size := by
    intro lv
    induction lv with
    | nil => intro _ _ j hj; simp at hj
    | cons v lv ih =>
      intro rs hr j hj
      cases rs with
      | nil => exact hr.elim
      | cons r rs =>
        simp only [List.flatMap_cons, List.mem_append] at hj
        rcases hj with hj | hj
        · exact own hr.1 j hj
        · exact ih rs hr.2 j hj
  intro j hj
  simp only [List.mem_cons, List.mem_append] at hj
  rcases hj with rfl | hj | hj | hj | hj | hj
  · exact h.lt
  · exact own h.hc j hj
  · exact own h.hr j hj
  · exact own h.hl j hj
  · have := h.flt
    cases hf : s.fault with
    | none => rw [hf] at this; simp only [FaultAt] at this; subst this; simp [fb] at hj
    | some f =>
      obtain ⟨l, c, e⟩ := f
      rw [hf] at this
      obtain ⟨_, g, _, hv, hh⟩ := this
      subst hv
      simp only [fb, List.mem_singleton] at hj
      subst hj
      exact blt hh
  · exact rows lv s.rows h.rws j hj
theorem mem_ob {v : Value} {j : Nat} : j ∈ ob v ↔ v.ownBlock = some j := by simp [ob, eq_comm]
/-- what is kept of the reader where its own blocks are as they were -/
theorem RD.kept {W' : World} (h : RD A W0 W b s vc vr vl fl lv) (hb : Below W0.heap.size W W') (hk : ∀ j ∈ b :: (ob vc ++ (ob vr ++ (ob vl ++ (fb fl ++ lv.flatMap ob)))), W'.heap[j]? = W.heap[j]?) : RD A W0 W' b s vc vr vl fl lv := by
  simp only [List.mem_cons, List.mem_append] at hk
  exact ⟨h.below.trans hb, h.hb, (hk b (.inl rfl)).trans h.blk, ownsRow_kept h.hc fun j hj => hk j (.inr (.inl (mem_ob.2 hj))), ownsRow_kept h.hr fun j hj => hk j (.inr (.inr (.inl (mem_ob.2 hj)))),
    ownsRow_kept h.hl fun j hj => hk j (.inr (.inr (.inr (.inl (mem_ob.2 hj))))), rowsAt_kept h.rws fun j hj => hk j (.inr (.inr (.inr (.inr (.inr hj))))), faultAt_kept h.flt fun j hj => hk j (.inr (.inr (.inr (.inr (.inl hj))))), h.dis⟩
theorem RD.drew (h : RD A W0 W b s vc vr vl fl lv) : RD A W0 W.drew b s vc vr vl fl lv := h.kept ((Below.refl _ _).drew) (fun _ _ => rfl)
theorem RD.alloc (h : RD A W0 W b s vc vr vl fl lv) (o : Obj) : RD A W0 (W.alloc o) b s vc vr vl fl lv :=
  h.kept ((Below.refl _ _).alloc h.below.size o) (fun j hj => Below.heap_alloc W o j (h.all_lt j hj))
/-- a field of the reader's own block is stored -/
theorem RD.set (h : RD A W0 W b s vc vr vl fl lv) (k : Nat) (u : Value) (s' : RS) (hcs : (cellsOf b s vc vr vl fl).setIfInBounds k u = cellsOf b s' vc vr vl fl) (e1 : s'.cell = s.cell) (e2 : s'.row = s.row) (e3 : s'.rows = s.rows) (e4 : s'.fault = s.fault) :
    RD A W0 (W.setCell ⟨b, k, none⟩ u) b s' vc vr vl fl lv := by
  have hd := h.dis
  simp only [List.nodup_cons, List.mem_append] at hd
  have far : ∀ j, j ≠ b → (W.setCell ⟨b, k, none⟩ u).heap[j]? = W.heap[j]? := fun j hj => Below.heap_setCell W ⟨b, k, none⟩ u j hj
  have ne : ∀ j, (j ∈ ob vc ∨ j ∈ ob vr ∨ j ∈ ob vl ∨ j ∈ fb fl ∨ j ∈ lv.flatMap ob) → j ≠ b := fun j hj e => hd.1 (e ▸ hj)
  exact ⟨h.below.setCell h.hb u, h.hb, (bset h.blk k u).trans (by rw [hcs]), by rw [e1]; exact ownsRow_kept h.hc fun j hj => far j (ne j (.inl (mem_ob.2 hj))), by rw [e2]; exact ownsRow_kept h.hr fun j hj => far j (ne j (.inr (.inl (mem_ob.2 hj)))),
    by rw [e3]; exact ownsRow_kept h.hl fun j hj => far j (ne j (.inr (.inr (.inl (mem_ob.2 hj))))), by rw [e3]; exact rowsAt_kept h.rws fun j hj => far j (ne j (.inr (.inr (.inr (.inr hj))))), by rw [e4]; exact faultAt_kept h.flt fun j hj => far j (ne j (.inr (.inr (.inr (.inl hj))))), h.dis⟩
theorem nd_new {p q : List Nat} {x y : Option Nat} {H : Nat} (h : (p ++ (x.toList ++ q)).Nodup) (hy : y = x ∨ y = some H) (hf : ∀ j ∈ p ++ q, j < H) : (p ++ (y.toList ++ q)).Nodup := by
  rcases hy with rfl | rfl
  · exact h
  · simp only [List.mem_append] at hf
    simp only [List.nodup_append, List.mem_append] at h ⊢
    obtain ⟨h1, ⟨h2, h3, h4⟩, h5⟩ := h
    refine ⟨h1, ⟨by simp, h3, ?_⟩, ?_⟩
    · intro a ha c hc
      simp at ha
      have := hf c (.inr hc)
      omega
    · intro a ha c hc
      rcases hc with hc | hc
      · simp at hc
        have := hf a (.inl ha)
        omega
      · exact h5 a ha c (.inr hc)
/-- the fault is told: a new block, and the last field -/
theorem RD.fault (h : RD A W0 W b s vc vr vl fl lv) (l c e : Nat) (he : coded e) :
    RD A W0 ((W.alloc (.cells #[I l, I c, errV A e] 70)).setCell ⟨b, 12, none⟩ (.iface 65 (PT W.heap.size))) b (s.fail l c e) vc vr vl (.iface 65 (PT W.heap.size)) lv := by
  have h1 := h.alloc (.cells #[I l, I c, errV A e] 70)
  have hlt := h.all_lt
  have hd := h.dis
  have hd' := hd
  simp only [List.nodup_cons, List.mem_append] at hd
  have far : ∀ j, j ≠ b → ((W.alloc (.cells #[I l, I c, errV A e] 70)).setCell ⟨b, 12, none⟩ (.iface 65 (PT W.heap.size))).heap[j]? = (W.alloc (.cells #[I l, I c, errV A e] 70)).heap[j]? := fun j hj => Below.heap_setCell _ ⟨b, 12, none⟩ _ j hj
  have ne : ∀ j, (j ∈ ob vc ∨ j ∈ ob vr ∨ j ∈ ob vl ∨ j ∈ fb fl ∨ j ∈ lv.flatMap ob) → j ≠ b := fun j hj e => hd.1 (e ▸ hj)
  refine ⟨h1.below.setCell h.hb _, h.hb, (bset h1.blk 12 _).trans rfl, ownsRow_kept h1.hc fun j hj => far j (ne j (.inl (mem_ob.2 hj))), ownsRow_kept h1.hr fun j hj => far j (ne j (.inr (.inl (mem_ob.2 hj)))),
    ownsRow_kept h1.hl fun j hj => far j (ne j (.inr (.inr (.inl (mem_ob.2 hj))))), rowsAt_kept h1.rws fun j hj => far j (ne j (.inr (.inr (.inr (.inr hj))))), ⟨he, W.heap.size, h.below.size, rfl, (far _ (by have := h.lt; omega)).trans (heap_alloc_new W _)⟩, ?_⟩
  have hq : (b :: (ob vc ++ (ob vr ++ (ob vl ++ ((none : Option Nat).toList ++ lv.flatMap ob))))).Nodup := by
    simp only [List.nodup_cons, List.nodup_append, List.mem_append] at hd' ⊢
    simp only [Option.toList_none, List.not_mem_nil, false_or]
    refine ⟨fun hm => hd'.1 ?_, hd'.2.1, ⟨hd'.2.2.1.1, ⟨hd'.2.2.1.2.1.1, ⟨by simp, hd'.2.2.1.2.1.2.1.2.1, by simp⟩, ?_⟩, ?_⟩, ?_⟩
    · rcases hm with hm | hm | hm | hm
      · exact .inl hm
      · exact .inr (.inl hm)
      · exact .inr (.inr (.inl hm))
      · exact .inr (.inr (.inr (.inr hm)))
    · exact fun a ha c hc => hd'.2.2.1.2.1.2.2 a ha c (.inr hc)
    · exact fun a ha c hc => hd'.2.2.1.2.2 a ha c (by rcases hc with hc | hc; exact .inl hc; exact .inr (.inr hc))
    · exact fun a ha c hc => hd'.2.2.2 a ha c (by rcases hc with hc | hc | hc; exact .inl hc; exact .inr (.inl hc); exact .inr (.inr (.inr hc)))
  have := nd_new (p := b :: (ob vc ++ (ob vr ++ ob vl))) (q := lv.flatMap ob) (x := none) (y := some W.heap.size) (H := W.heap.size) (by simpa [List.append_assoc] using hq) (.inr rfl) (fun j hj => hlt j (by simp only [List.mem_cons, List.mem_append] at hj ⊢; rcases hj with (hj | hj | hj | hj) | hj <;> simp [hj]))
  simpa [List.append_assoc, fb] using this
/-- a frame out of two states -/
theorem RD.fr {W' : World} {s' : RS} {vc' vr' vl' fl' : Value} {lv' : List Value} (h : RD A W0 W b s vc vr vl fl lv) (h' : RD A W0 W' b s' vc' vr' vl' fl' lv') (o1 : W'.os = W.os) (o2 : W'.tape = W.tape) (o3 : W'.output = W.output) (hz : W.heap.size ≤ W'.heap.size)
    (hk : ∀ j, j < W.heap.size → j ≠ b → vc.ownBlock ≠ some j → vr.ownBlock ≠ some j → vl.ownBlock ≠ some j → W'.heap[j]? = W.heap[j]?)
    (ho : ∀ j, (vc'.ownBlock = some j ∨ vr'.ownBlock = some j ∨ vl'.ownBlock = some j) → (vc.ownBlock = some j ∨ vr.ownBlock = some j ∨ vl.ownBlock = some j) ∨ W.heap.size ≤ j) : Fr b W W' := by
  refine ⟨o1, o2, o3, hz, fun j hj hn => ?_, fun j hj => ?_⟩
  · rw [h.wr_iff] at hn
    exact hk j hj (fun e => hn (.inl e)) (fun e => hn (.inr (.inl e))) (fun e => hn (.inr (.inr (.inl e)))) (fun e => hn (.inr (.inr (.inr e))))
  · rw [h'.wr_iff] at hj
    rw [h.wr_iff]
    rcases hj with hj | hj
    · exact .inl (.inl hj)
    · rcases ho j hj with h1 | h1
      · exact .inl (.inr h1)
      · exact .inr h1
end
end Go.Proofs.YtappphffbnkloaaGreatDoor.Sht

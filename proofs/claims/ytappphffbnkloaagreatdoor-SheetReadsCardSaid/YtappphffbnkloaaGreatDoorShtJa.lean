-- joined out of the texts ShtM ShtW ShtOa ShtA ShtB ShtC ShtBt ShtN ShtR ShtS ShtT
import Derived.Test.YtappphffbnkloaaGreatDoorProg
import Derived.WalkKit
import Derived.Below
import Derived.Deep.AppendLies
import Derived.Maps.AppendAt
import Derived.Laws.EntriesVeiled
import Derived.Deep.RegionHeld3
import Derived.Deep.DrawnRows
import Derived.StillTailTactics
import Derived.Lib.Hide
import Derived.Laws.BytesArg
import Derived.Lib.SmallJoins
import Derived.OwnWalk
import Derived.Deep.RegionLaw
import Derived.Test.YtappphffbnkloaaGreatDoorGSxf70
import Derived.IntWalk
/- The reader of sheets as a plain machine: one byte a step. -/
namespace Go.Proofs.YtappphffbnkloaaGreatDoor.Sht
/-- what the next byte meets: a row's begin, a cell's begin, a plain cell, a quoted one, behind a quote in one, behind a CR -/
inductive Md where
  | fresh | start | plain | quoted | closed | back
structure RS where
  md : Md
  line : Nat
  col : Nat
  all : Nat
  ml : Nat
  mc : Nat
  cell : List UInt8
  row : List (List UInt8)
  rows : List (List (List UInt8))
  count : Nat
  width : Nat
  fault : Option (Nat × Nat × Nat)
def RS.new : RS := ⟨.fresh, 1, 0, 0, 0, 0, [], [], [], 0, 0, none⟩
def okB (c : UInt8) : Bool := (32 ≤ c && c != 127) || c == 9 || c == 10 || c == 13
def RS.turn (s : RS) (m : Md) : RS := { s with md := m }
def RS.fail (s : RS) (l c e : Nat) : RS := { s with fault := some (l, c, e) }
def RS.mark (s : RS) : RS := { s with ml := s.line, mc := s.col }
def RS.endCell (s : RS) : RS := { s with row := s.row ++ [s.cell], cell := [] }
def RS.widen (s : RS) : RS := if s.count = 0 then { s with width := s.row.length } else s
def RS.newRow (s : RS) : RS := { s with rows := s.rows ++ [s.row], row := [], count := s.count + 1, md := .fresh }
def RS.endRow (s : RS) (l c : Nat) : RS := if s.widen.row.length = s.widen.width then s.widen.newRow else s.widen.fail l c 8
def RS.put (s : RS) (x : UInt8) : RS :=
  if 4096 < (s.cell ++ [x]).length then RS.fail { s with cell := s.cell ++ [x] } s.line s.col 5 else { s with cell := s.cell ++ [x] }
def RS.comma (s : RS) : RS := (if s.endCell.row.length = 64 then s.endCell.fail s.line s.col 6 else s.endCell).turn .start
def RS.cr (s : RS) : RS := s.endCell.mark.turn .back
def RS.plain (s : RS) (x : UInt8) : RS :=
  if x = 44 then s.comma else if x = 13 then s.cr else if x = 10 then s.fail s.line s.col 3 else if x = 34 then s.fail s.line s.col 2
  else if x = 9 ∨ okB x = false then s.fail s.line s.col 4 else s.put x
def RS.quoted (s : RS) (x : UInt8) : RS := if x = 34 then s.turn .closed else if okB x = false then s.fail s.line s.col 4 else s.put x
def RS.closed (s : RS) (x : UInt8) : RS :=
  if x = 34 then (s.turn .quoted).put x else if x = 44 then s.comma else if x = 13 then s.cr else if x = 10 then s.fail s.line s.col 3 else s.fail s.line s.col 2
def RS.back (s : RS) (x : UInt8) : RS := if x = 10 then s.endRow s.ml s.mc else s.fail s.ml s.mc 3
def RS.start (s : RS) (x : UInt8) : RS := if x = 34 then s.mark.turn .quoted else (s.turn .plain).plain x
def RS.fresh (s : RS) (x : UInt8) : RS := if s.count = 4096 then s.fail s.line s.col 7 else s.start x
def RS.next (s : RS) (x : UInt8) : RS := match s.md with
  | .fresh => s.fresh x
  | .start => s.start x
  | .plain => s.plain x
  | .quoted => s.quoted x
  | .closed => s.closed x
  | .back => s.back x
/-- the text's end -/
def RS.over (s : RS) : RS := match s.md with
  | .fresh => s
  | .start => s.endCell.endRow s.line s.col
  | .plain => s.endCell.endRow s.line s.col
  | .closed => s.endCell.endRow s.line s.col
  | .quoted => s.fail s.ml s.mc 1
  | .back => s.fail s.ml s.mc 3
/-- the place behind a byte -/
def RS.on (s : RS) (x : UInt8) : RS := if x = 10 then { s with line := s.line + 1, col := 0 } else { s with col := s.col + 1 }
/-- one byte of a piece (there being no fault) -/
def RS.step (s : RS) (x : UInt8) : RS := if s.all = 262144 then s.fail s.line s.col 20 else (RS.next { s with all := s.all + 1 } x).on x
def RS.feed : RS → List UInt8 → RS
  | s, [] => s
  | s, x :: l => if s.fault = none then (s.step x).feed l else s
/-- no part of the machine passes this number -/
structure RS.Bd (n : Nat) (s : RS) : Prop where
  line : s.line ≤ n
  col : s.col ≤ n
  all : s.all ≤ n
  ml : s.ml ≤ n
  mc : s.mc ≤ n
  cell : s.cell.length ≤ n
  row : s.row.length ≤ n
  rows : s.rows.length ≤ n
  count : s.count ≤ n
  width : s.width ≤ n
end Go.Proofs.YtappphffbnkloaaGreatDoor.Sht
set_option linter.unusedVariables false
namespace Go.Proofs.YtappphffbnkloaaGreatDoor.Sht
open Go Go.RowKit
theorem bset {w : World} {g : Nat} {t : TypeId} {cs : Array Value} (h : w.heap[g]? = some (.cells cs t (0, 0))) (i : Nat) (u : Value) : (w.setCell ⟨g, i, none⟩ u).heap[g]? = some (.cells (cs.setIfInBounds i u) t (0, 0)) := by
  have hlt := (Array.getElem?_eq_some_iff.1 h).1
  simp only [World.setCell, Array.getElem?_modify]
  simp [h]
theorem blt {w : World} {g : Nat} {o : Obj} (h : w.heap[g]? = some o) : g < w.heap.size := (Array.getElem?_eq_some_iff.1 h).1
theorem bcell {w : World} {g : Nat} {t : TypeId} {cs : Array Value} (h : w.heap[g]? = some (.cells cs t (0, 0))) (i : Nat) : w.cell? ⟨g, i, none⟩ = cs[i]? := cell_of_row w g i cs t (0, 0) h
theorem bfree {w : World} {g : Nat} {t : TypeId} {cs : Array Value} (h : w.heap[g]? = some (.cells cs t (0, 0))) (i : Nat) : w.frozen? ⟨g, i, none⟩ = false := by simp [World.frozen?, h]
theorem setSize (w : World) (p : Addr) (u : Value) : (w.setCell p u).heap.size = w.heap.size := by simp [World.setCell]
abbrev PT (b : Nat) : Value := .pointer (some ⟨b, 0, none⟩)
abbrev I (n : Nat) : Value := .int .i64 (n : Int)
abbrev ch (x : UInt8) : Value := .int .u8 (x.toNat : Int)
def bs (l : List UInt8) : List Value := l.map ch
abbrev st (l : List UInt8) : Value := .string ⟨l.toArray⟩
def sts (l : List (List UInt8)) : List Value := l.map st
theorem bs_len (l : List UInt8) : (bs l).length = l.length := by simp [bs]
theorem sts_len (l : List (List UInt8)) : (sts l).length = l.length := by simp [sts]
def nx (b : Nat) : Md → Value
  | .fresh => .func (.func 35) #[PT b] #[]
  | .start => .func (.func 69) #[PT b] #[]
  | .plain => .func (.func 88) #[PT b] #[]
  | .quoted => .func (.func 86) #[PT b] #[]
  | .closed => .func (.func 98) #[PT b] #[]
  | .back => .func (.func 112) #[PT b] #[]
def ov (b : Nat) : Md → Value
  | .fresh => .func (.func 36) #[PT b] #[]
  | .start => .func (.func 89) #[PT b] #[]
  | .plain => .func (.func 89) #[PT b] #[]
  | .quoted => .func (.func 87) #[PT b] #[]
  | .closed => .func (.func 89) #[PT b] #[]
  | .back => .func (.func 113) #[PT b] #[]
/-- the variable of a fault's code -/
def gl (c : Nat) : Nat :=
  if c = 1 then 2 else if c = 2 then 6 else if c = 3 then 1 else if c = 4 then 7 else if c = 5 then 8
  else if c = 6 then 9 else if c = 7 then 10 else if c = 8 then 3 else if c = 9 then 4 else 0
abbrev errV (A : Nat → Addr) (c : Nat) : Value := .iface 215 (.pointer (some (A c)))
/-- the errors that the reader tells: they lie below every block of its own -/
def coded (c : Nat) : Prop := (1 ≤ c ∧ c ≤ 9) ∨ c = 20
structure SF (W : World) (A : Nat → Addr) : Prop where
  hv : ∀ c, coded c → W.cell? ⟨gl c, 0, none⟩ = some (errV A c)
  hn : ∀ c c', coded c → coded c' → c ≠ c' → A c ≠ A c'
  hb : ∀ c, coded c → ∃ cs t, W.heap[(A c).block]? = some (.cells cs t (0, 0))
theorem SF.below {W W' : World} {A : Nat → Addr} (h : SF W A) (k : Below W.heap.size W W') : SF W' A :=
  ⟨fun c hc => (k.cell (p := ⟨gl c, 0, none⟩) (World.block_lt_of_cell? W _ (h.hv c hc))).trans (h.hv c hc), h.hn, fun c hc => by
    obtain ⟨cs, t, hb⟩ := h.hb c hc
    exact ⟨cs, t, (k.block _ (blt hb)).trans hb⟩⟩
def ob (v : Value) : List Nat := v.ownBlock.toList
def fb : Value → List Nat
  | .iface _ (.pointer (some a)) => [a.block]
  | _ => []
def RowsAt (W : World) (B : Nat) : List Value → List (List (List UInt8)) → Prop
  | [], [] => True
  | v :: lv, r :: rs => W.ownsRow B 9 1 v r.length (sts r) ∧ RowsAt W B lv rs
  | _, _ => False
def FaultAt (W : World) (B : Nat) (A : Nat → Addr) : Value → Option (Nat × Nat × Nat) → Prop
  | v, none => v = .nilIface
  | v, some (l, c, e) => coded e ∧ ∃ g, B ≤ g ∧ v = .iface 65 (PT g) ∧ W.heap[g]? = some (.cells #[I l, I c, errV A e] 70 (0, 0))
abbrev cellsOf (b : Nat) (s : RS) (vc vr vl fl : Value) : Array Value := #[nx b s.md, ov b s.md, I s.line, I s.col, I s.all, I s.ml, I s.mc, vc, vr, vl, I s.count, I s.width, fl]
structure RD (A : Nat → Addr) (W0 W : World) (b : Nat) (s : RS) (vc vr vl fl : Value) (lv : List Value) : Prop where
  below : Below W0.heap.size W0 W
  hb : W0.heap.size ≤ b
  blk : W.heap[b]? = some (.cells (cellsOf b s vc vr vl fl) 82 (0, 0))
  hc : W.ownsRow W0.heap.size 5 1 vc s.cell.length (bs s.cell)
  hr : W.ownsRow W0.heap.size 9 1 vr s.row.length (sts s.row)
  hl : W.ownsRow W0.heap.size 28 1 vl s.rows.length lv
  rws : RowsAt W W0.heap.size lv s.rows
  flt : FaultAt W W0.heap.size A fl s.fault
  dis : (b :: (ob vc ++ (ob vr ++ (ob vl ++ (fb fl ++ lv.flatMap ob))))).Nodup
def R (A : Nat → Addr) (W0 W : World) (b : Nat) (s : RS) : Prop := ∃ vc vr vl fl lv, RD A W0 W b s vc vr vl fl lv
theorem R.mk {A : Nat → Addr} {W0 W : World} {b : Nat} {s : RS} {vc vr vl fl : Value} {lv : List Value} (h : RD A W0 W b s vc vr vl fl lv) : R A W0 W b s := ⟨vc, vr, vl, fl, lv, h⟩
def wr (w : World) (b j : Nat) : Prop := j = b ∨ ∃ o v, (o = 7 ∨ o = 8 ∨ o = 9) ∧ w.cell? ⟨b, o, none⟩ = some v ∧ v.ownBlock = some j
/-- the blocks of the rows that a Reader holds -/
def tw (w : World) (b j : Nat) : Prop := ∃ (g n c i : Nat) (u : Value), w.cell? ⟨b, 9, none⟩ = some (.slice (some ⟨g, 0, none⟩) n c) ∧ i < n ∧ w.cell? ⟨g, i, none⟩ = some u ∧ u.ownBlock = some j
structure Fr (b : Nat) (w w' : World) : Prop where
  os : w'.os = w.os
  tape : w'.tape = w.tape
  output : w'.output = w.output
  size : w.heap.size ≤ w'.heap.size
  keep : ∀ j, j < w.heap.size → ¬ wr w b j → w'.heap[j]? = w.heap[j]?
  own : ∀ j, wr w' b j → wr w b j ∨ w.heap.size ≤ j
  told : ∀ j, tw w' b j → (wr w b j ∨ tw w b j) ∨ w.heap.size ≤ j
theorem Fr.refl (b : Nat) (w : World) : Fr b w w := ⟨rfl, rfl, rfl, Nat.le_refl _, fun _ _ _ => rfl, fun _ h => .inl h, fun _ h => .inl (.inr h)⟩
theorem Fr.trans {b : Nat} {u v w : World} (h : Fr b u v) (k : Fr b v w) : Fr b u w :=
  ⟨k.os.trans h.os, k.tape.trans h.tape, k.output.trans h.output, Nat.le_trans h.size k.size,
    fun j hj hn => (k.keep j (Nat.lt_of_lt_of_le hj h.size) (fun hw => by rcases h.own j hw with h1 | h1; exact hn h1; omega)).trans (h.keep j hj hn),
    fun j hw => by
      rcases k.own j hw with h1 | h1
      · exact h.own j h1
      · exact .inr (Nat.le_trans h.size h1),
    fun j hw => by
      rcases k.told j hw with (h1 | h1) | h1
      · rcases h.own j h1 with h2 | h2
        · exact .inl (.inl h2)
        · exact .inr h2
      · exact h.told j h1
      · exact .inr (Nat.le_trans h.size h1)⟩
theorem Fr.drew {b : Nat} {u v : World} (h : Fr b u v) : Fr b u v.drew := ⟨h.os, h.tape, h.output, h.size, h.keep, h.own, h.told⟩
section
variable {A : Nat → Addr} {W0 W : World} {b : Nat} {s : RS} {vc vr vl fl : Value} {lv : List Value}
theorem RD.lt (h : RD A W0 W b s vc vr vl fl lv) : b < W.heap.size := blt h.blk
theorem RD.cells (h : RD A W0 W b s vc vr vl fl lv) : W.cell? ⟨b, 0, none⟩ = some (nx b s.md) ∧ W.cell? ⟨b, 1, none⟩ = some (ov b s.md) ∧ W.cell? ⟨b, 2, none⟩ = some (I s.line) ∧ W.cell? ⟨b, 3, none⟩ = some (I s.col) ∧ W.cell? ⟨b, 4, none⟩ = some (I s.all) ∧
    W.cell? ⟨b, 5, none⟩ = some (I s.ml) ∧ W.cell? ⟨b, 6, none⟩ = some (I s.mc) ∧ W.cell? ⟨b, 7, none⟩ = some vc ∧ W.cell? ⟨b, 8, none⟩ = some vr ∧ W.cell? ⟨b, 9, none⟩ = some vl ∧ W.cell? ⟨b, 10, none⟩ = some (I s.count) ∧ W.cell? ⟨b, 11, none⟩ = some (I s.width) ∧ W.cell? ⟨b, 12, none⟩ = some fl :=
  ⟨(bcell h.blk 0).trans rfl, (bcell h.blk 1).trans rfl, (bcell h.blk 2).trans rfl, (bcell h.blk 3).trans rfl, (bcell h.blk 4).trans rfl, (bcell h.blk 5).trans rfl, (bcell h.blk 6).trans rfl, (bcell h.blk 7).trans rfl, (bcell h.blk 8).trans rfl, (bcell h.blk 9).trans rfl, (bcell h.blk 10).trans rfl, (bcell h.blk 11).trans rfl, (bcell h.blk 12).trans rfl⟩
theorem RD.free (h : RD A W0 W b s vc vr vl fl lv) : W.frozen? ⟨b, 0, none⟩ = false ∧ W.frozen? ⟨b, 1, none⟩ = false ∧ W.frozen? ⟨b, 2, none⟩ = false ∧ W.frozen? ⟨b, 3, none⟩ = false ∧ W.frozen? ⟨b, 4, none⟩ = false ∧ W.frozen? ⟨b, 5, none⟩ = false ∧ W.frozen? ⟨b, 6, none⟩ = false ∧
    W.frozen? ⟨b, 7, none⟩ = false ∧ W.frozen? ⟨b, 8, none⟩ = false ∧ W.frozen? ⟨b, 9, none⟩ = false ∧ W.frozen? ⟨b, 10, none⟩ = false ∧ W.frozen? ⟨b, 11, none⟩ = false ∧ W.frozen? ⟨b, 12, none⟩ = false :=
  ⟨bfree h.blk 0, bfree h.blk 1, bfree h.blk 2, bfree h.blk 3, bfree h.blk 4, bfree h.blk 5, bfree h.blk 6, bfree h.blk 7, bfree h.blk 8, bfree h.blk 9, bfree h.blk 10, bfree h.blk 11, bfree h.blk 12⟩
/-- which blocks are written: by the values in the cells -/
theorem RD.wr_iff (h : RD A W0 W b s vc vr vl fl lv) (j : Nat) : wr W b j ↔ j = b ∨ vc.ownBlock = some j ∨ vr.ownBlock = some j ∨ vl.ownBlock = some j := by
  obtain ⟨_, _, _, _, _, _, _, c7, c8, c9, _, _, _⟩ := h.cells
  constructor
  · rintro (h1 | ⟨o, v, (rfl | rfl | rfl), h2, h3⟩)
    · exact .inl h1
    · rw [c7] at h2; obtain rfl := Option.some.inj h2; exact .inr (.inl h3)
    · rw [c8] at h2; obtain rfl := Option.some.inj h2; exact .inr (.inr (.inl h3))
    · rw [c9] at h2; obtain rfl := Option.some.inj h2; exact .inr (.inr (.inr h3))
  · rintro (h1 | h1 | h1 | h1)
    · exact .inl h1
    · exact .inr ⟨7, vc, .inl rfl, c7, h1⟩
    · exact .inr ⟨8, vr, .inr (.inl rfl), c8, h1⟩
    · exact .inr ⟨9, vl, .inr (.inr rfl), c9, h1⟩
theorem rowsAt_kept {W W' : World} {B : Nat} : ∀ {lv : List Value} {rs : List (List (List UInt8))}, RowsAt W B lv rs → (∀ j, j ∈ lv.flatMap ob → W'.heap[j]? = W.heap[j]?) → RowsAt W' B lv rs
  | [], [], _, _ => trivial
  | v :: lv, r :: rs, h, hk => ⟨by
      obtain ⟨h1, h2⟩ := h.1
      refine ⟨h1, ?_⟩
      rcases h2 with h2 | ⟨g, cap, cur, hv, hg, hh, q⟩
      · exact .inl h2
      · refine .inr ⟨g, cap, cur, hv, hg, ?_, q⟩
        rw [hk g (by subst hv; simp [ob, Value.ownBlock])]
        exact hh, rowsAt_kept h.2 (fun j hj => hk j (by simp only [List.flatMap_cons, List.mem_append]; exact .inr hj))⟩
  | [], _ :: _, h, _ => h.elim
  | _ :: _, [], h, _ => h.elim
theorem ownsRow_kept {W W' : World} {B : Nat} {e : TypeId} {v : Value} {n : Nat} {xs : List Value} (h : W.ownsRow B e 1 v n xs) (hk : ∀ j, v.ownBlock = some j → W'.heap[j]? = W.heap[j]?) : W'.ownsRow B e 1 v n xs := by
  obtain ⟨h1, h2⟩ := h
  refine ⟨h1, ?_⟩
  rcases h2 with h2 | ⟨g, cap, cur, hv, hg, hh, q⟩
  · exact .inl h2
  · refine .inr ⟨g, cap, cur, hv, hg, ?_, q⟩
    rw [hk g (by subst hv; rfl)]
    exact hh
theorem faultAt_kept {W W' : World} {B : Nat} {A : Nat → Addr} {v : Value} {f : Option (Nat × Nat × Nat)} (h : FaultAt W B A v f) (hk : ∀ j, j ∈ fb v → W'.heap[j]? = W.heap[j]?) : FaultAt W' B A v f := by
  cases f with
  | none => exact h
  | some f =>
    obtain ⟨l, c, e⟩ := f
    obtain ⟨hc, g, hg, hv, hh⟩ := h
    exact ⟨hc, g, hg, hv, (hk g (by subst hv; simp [fb])).trans hh⟩
theorem RD.all_lt (h : RD A W0 W b s vc vr vl fl lv) : ∀ j ∈ b :: (ob vc ++ (ob vr ++ (ob vl ++ (fb fl ++ lv.flatMap ob)))), j < W.heap.size := by
  have own : ∀ {e : TypeId} {v : Value} {n : Nat} {xs : List Value}, W.ownsRow W0.heap.size e 1 v n xs → ∀ j ∈ ob v, j < W.heap.size := fun ho j hj => (ho.lt j (by simpa [ob] using hj)).2
  have rows : ∀ (lv : List Value) (rs : List (List (List UInt8))), RowsAt W W0.heap.size lv rs → ∀ j ∈ lv.flatMap ob, j < W.heap.size := by
    intro lv
    induction lv with
    | nil => intro _ _ j hj; simp at hj
    | cons v lv ih =>
      intro rs hr j hj
      cases rs with
      | nil => exact hr.elim
      | cons r rs =>
        simp only [List.flatMap_cons, List.mem_append] at hj
        rcases hj with hj | hj
        · exact own hr.1 j hj
        · exact ih rs hr.2 j hj
  intro j hj
  simp only [List.mem_cons, List.mem_append] at hj
  rcases hj with rfl | hj | hj | hj | hj | hj
  · exact h.lt
  · exact own h.hc j hj
  · exact own h.hr j hj
  · exact own h.hl j hj
  · have := h.flt
    cases hf : s.fault with
    | none => rw [hf] at this; simp only [FaultAt] at this; subst this; simp [fb] at hj
    | some f =>
      obtain ⟨l, c, e⟩ := f
      rw [hf] at this
      obtain ⟨_, g, _, hv, hh⟩ := this
      subst hv
      simp only [fb, List.mem_singleton] at hj
      subst hj
      exact blt hh
  · exact rows lv s.rows h.rws j hj
theorem mem_ob {v : Value} {j : Nat} : j ∈ ob v ↔ v.ownBlock = some j := by simp [ob, eq_comm]
/-- what is kept of the reader where its own blocks are as they were -/
theorem RD.kept {W' : World} (h : RD A W0 W b s vc vr vl fl lv) (hb : Below W0.heap.size W W') (hk : ∀ j ∈ b :: (ob vc ++ (ob vr ++ (ob vl ++ (fb fl ++ lv.flatMap ob)))), W'.heap[j]? = W.heap[j]?) : RD A W0 W' b s vc vr vl fl lv := by
  simp only [List.mem_cons, List.mem_append] at hk
  exact ⟨h.below.trans hb, h.hb, (hk b (.inl rfl)).trans h.blk, ownsRow_kept h.hc fun j hj => hk j (.inr (.inl (mem_ob.2 hj))), ownsRow_kept h.hr fun j hj => hk j (.inr (.inr (.inl (mem_ob.2 hj)))),
    ownsRow_kept h.hl fun j hj => hk j (.inr (.inr (.inr (.inl (mem_ob.2 hj))))), rowsAt_kept h.rws fun j hj => hk j (.inr (.inr (.inr (.inr (.inr hj))))), faultAt_kept h.flt fun j hj => hk j (.inr (.inr (.inr (.inr (.inl hj))))), h.dis⟩
theorem RD.drew (h : RD A W0 W b s vc vr vl fl lv) : RD A W0 W.drew b s vc vr vl fl lv := h.kept ((Below.refl _ _).drew) (fun _ _ => rfl)
theorem RD.alloc (h : RD A W0 W b s vc vr vl fl lv) (o : Obj) : RD A W0 (W.alloc o) b s vc vr vl fl lv :=
  h.kept ((Below.refl _ _).alloc h.below.size o) (fun j hj => Below.heap_alloc W o j (h.all_lt j hj))
/-- a field of the reader's own block is stored -/
theorem RD.set (h : RD A W0 W b s vc vr vl fl lv) (k : Nat) (u : Value) (s' : RS) (hcs : (cellsOf b s vc vr vl fl).setIfInBounds k u = cellsOf b s' vc vr vl fl) (e1 : s'.cell = s.cell) (e2 : s'.row = s.row) (e3 : s'.rows = s.rows) (e4 : s'.fault = s.fault) :
    RD A W0 (W.setCell ⟨b, k, none⟩ u) b s' vc vr vl fl lv := by
  have hd := h.dis
  simp only [List.nodup_cons, List.mem_append] at hd
  have far : ∀ j, j ≠ b → (W.setCell ⟨b, k, none⟩ u).heap[j]? = W.heap[j]? := fun j hj => Below.heap_setCell W ⟨b, k, none⟩ u j hj
  have ne : ∀ j, (j ∈ ob vc ∨ j ∈ ob vr ∨ j ∈ ob vl ∨ j ∈ fb fl ∨ j ∈ lv.flatMap ob) → j ≠ b := fun j hj e => hd.1 (e ▸ hj)
  exact ⟨h.below.setCell h.hb u, h.hb, (bset h.blk k u).trans (by rw [hcs]), by rw [e1]; exact ownsRow_kept h.hc fun j hj => far j (ne j (.inl (mem_ob.2 hj))), by rw [e2]; exact ownsRow_kept h.hr fun j hj => far j (ne j (.inr (.inl (mem_ob.2 hj)))),
    by rw [e3]; exact ownsRow_kept h.hl fun j hj => far j (ne j (.inr (.inr (.inl (mem_ob.2 hj))))), by rw [e3]; exact rowsAt_kept h.rws fun j hj => far j (ne j (.inr (.inr (.inr (.inr hj))))), by rw [e4]; exact faultAt_kept h.flt fun j hj => far j (ne j (.inr (.inr (.inr (.inl hj))))), h.dis⟩
theorem nd_new {p q : List Nat} {x y : Option Nat} {H : Nat} (h : (p ++ (x.toList ++ q)).Nodup) (hy : y = x ∨ y = some H) (hf : ∀ j ∈ p ++ q, j < H) : (p ++ (y.toList ++ q)).Nodup := by
  rcases hy with rfl | rfl
  · exact h
  · simp only [List.mem_append] at hf
    simp only [List.nodup_append, List.mem_append] at h ⊢
    obtain ⟨h1, ⟨h2, h3, h4⟩, h5⟩ := h
    refine ⟨h1, ⟨by simp, h3, ?_⟩, ?_⟩
    · intro a ha c hc
      simp at ha
      have := hf c (.inr hc)
      omega
    · intro a ha c hc
      rcases hc with hc | hc
      · simp at hc
        have := hf a (.inl ha)
        omega
      · exact h5 a ha c (.inr hc)
/-- the fault is told: a new block, and the last field -/
theorem RD.fault (h : RD A W0 W b s vc vr vl fl lv) (l c e : Nat) (he : coded e) :
    RD A W0 ((W.alloc (.cells #[I l, I c, errV A e] 70)).setCell ⟨b, 12, none⟩ (.iface 65 (PT W.heap.size))) b (s.fail l c e) vc vr vl (.iface 65 (PT W.heap.size)) lv := by
  have h1 := h.alloc (.cells #[I l, I c, errV A e] 70)
  have hlt := h.all_lt
  have hd := h.dis
  have hd' := hd
  simp only [List.nodup_cons, List.mem_append] at hd
  have far : ∀ j, j ≠ b → ((W.alloc (.cells #[I l, I c, errV A e] 70)).setCell ⟨b, 12, none⟩ (.iface 65 (PT W.heap.size))).heap[j]? = (W.alloc (.cells #[I l, I c, errV A e] 70)).heap[j]? := fun j hj => Below.heap_setCell _ ⟨b, 12, none⟩ _ j hj
  have ne : ∀ j, (j ∈ ob vc ∨ j ∈ ob vr ∨ j ∈ ob vl ∨ j ∈ fb fl ∨ j ∈ lv.flatMap ob) → j ≠ b := fun j hj e => hd.1 (e ▸ hj)
  refine ⟨h1.below.setCell h.hb _, h.hb, (bset h1.blk 12 _).trans rfl, ownsRow_kept h1.hc fun j hj => far j (ne j (.inl (mem_ob.2 hj))), ownsRow_kept h1.hr fun j hj => far j (ne j (.inr (.inl (mem_ob.2 hj)))),
    ownsRow_kept h1.hl fun j hj => far j (ne j (.inr (.inr (.inl (mem_ob.2 hj))))), rowsAt_kept h1.rws fun j hj => far j (ne j (.inr (.inr (.inr (.inr hj))))), ⟨he, W.heap.size, h.below.size, rfl, (far _ (by have := h.lt; omega)).trans (heap_alloc_new W _)⟩, ?_⟩
  have hq : (b :: (ob vc ++ (ob vr ++ (ob vl ++ ((none : Option Nat).toList ++ lv.flatMap ob))))).Nodup := by
    simp only [List.nodup_cons, List.nodup_append, List.mem_append] at hd' ⊢
    simp only [Option.toList_none, List.not_mem_nil, false_or]
    refine ⟨fun hm => hd'.1 ?_, hd'.2.1, ⟨hd'.2.2.1.1, ⟨hd'.2.2.1.2.1.1, ⟨by simp, hd'.2.2.1.2.1.2.1.2.1, by simp⟩, ?_⟩, ?_⟩, ?_⟩
    · rcases hm with hm | hm | hm | hm
      · exact .inl hm
      · exact .inr (.inl hm)
      · exact .inr (.inr (.inl hm))
      · exact .inr (.inr (.inr (.inr hm)))
    · exact fun a ha c hc => hd'.2.2.1.2.1.2.2 a ha c (.inr hc)
    · exact fun a ha c hc => hd'.2.2.1.2.2 a ha c (by rcases hc with hc | hc; exact .inl hc; exact .inr (.inr hc))
    · exact fun a ha c hc => hd'.2.2.2 a ha c (by rcases hc with hc | hc | hc; exact .inl hc; exact .inr (.inl hc); exact .inr (.inr (.inr hc)))
  have := nd_new (p := b :: (ob vc ++ (ob vr ++ ob vl))) (q := lv.flatMap ob) (x := none) (y := some W.heap.size) (H := W.heap.size) (by simpa [List.append_assoc] using hq) (.inr rfl) (fun j hj => hlt j (by simp only [List.mem_cons, List.mem_append] at hj ⊢; rcases hj with (hj | hj | hj | hj) | hj <;> simp [hj]))
  simpa [List.append_assoc, fb] using this
theorem RD.tw_iff (h : RD A W0 W b s vc vr vl fl lv) (j : Nat) : tw W b j ↔ j ∈ lv.flatMap ob := by
  have c9 : W.cell? ⟨b, 9, none⟩ = some vl := (bcell h.blk 9).trans rfl
  obtain ⟨hx, ho⟩ := h.hl
  constructor
  · rintro ⟨g, n, c, i, u, h9, hi, hc, hu⟩
    obtain rfl : vl = .slice (some ⟨g, 0, none⟩) n c := Option.some.inj (c9.symm.trans h9)
    rcases ho with ⟨q, _⟩ | ⟨g', cap, cur, hv, _, hg, _, _, _, htake⟩
    · cases q
    · injection hv with e1 e2 e3
      injection e1 with e1
      injection e1 with e1 _ _
      subst e1
      have hcur : cur[i]? = some u := (bcell hg i).symm.trans hc
      have hlv : lv[i]? = some u := by
        rw [← htake, List.getElem?_take, if_pos (by omega), Array.getElem?_toList]
        exact hcur
      exact List.mem_flatMap.2 ⟨u, List.mem_of_getElem? hlv, by rw [ob, hu]; simp⟩
  · intro hj
    obtain ⟨u, hu, hj⟩ := List.mem_flatMap.1 hj
    obtain ⟨i, hi⟩ := List.mem_iff_getElem?.1 hu
    obtain ⟨hil, _⟩ := List.getElem?_eq_some_iff.1 hi
    rcases ho with ⟨_, q⟩ | ⟨g', cap, cur, hv, _, hg, _, _, _, htake⟩
    · omega
    · refine ⟨g', s.rows.length, cap, i, u, by rw [c9, hv], by omega, ?_, by simpa [ob, eq_comm] using hj⟩
      rw [bcell hg i, ← Array.getElem?_toList]
      rw [← htake, List.getElem?_take, if_pos (by omega)] at hi
      exact hi
/-- a frame out of two states -/
theorem RD.fr {W' : World} {s' : RS} {vc' vr' vl' fl' : Value} {lv' : List Value} (h : RD A W0 W b s vc vr vl fl lv) (h' : RD A W0 W' b s' vc' vr' vl' fl' lv') (o1 : W'.os = W.os) (o2 : W'.tape = W.tape) (o3 : W'.output = W.output) (hz : W.heap.size ≤ W'.heap.size)
    (hk : ∀ j, j < W.heap.size → j ≠ b → vc.ownBlock ≠ some j → vr.ownBlock ≠ some j → vl.ownBlock ≠ some j → W'.heap[j]? = W.heap[j]?)
    (ho : ∀ j, (vc'.ownBlock = some j ∨ vr'.ownBlock = some j ∨ vl'.ownBlock = some j) → (vc.ownBlock = some j ∨ vr.ownBlock = some j ∨ vl.ownBlock = some j) ∨ W.heap.size ≤ j)
    (ht : ∀ j, j ∈ lv'.flatMap ob → (j ∈ lv.flatMap ob ∨ vc.ownBlock = some j ∨ vr.ownBlock = some j ∨ vl.ownBlock = some j) ∨ W.heap.size ≤ j := by exact fun _ q => .inl (.inl q)) : Fr b W W' := by
  refine ⟨o1, o2, o3, hz, fun j hj hn => ?_, fun j hj => ?_, fun j hj => ?_⟩
  · rw [h.wr_iff] at hn
    exact hk j hj (fun e => hn (.inl e)) (fun e => hn (.inr (.inl e))) (fun e => hn (.inr (.inr (.inl e)))) (fun e => hn (.inr (.inr (.inr e))))
  · rw [h'.wr_iff] at hj
    rw [h.wr_iff]
    rcases hj with hj | hj
    · exact .inl (.inl hj)
    · rcases ho j hj with h1 | h1
      · exact .inl (.inr h1)
      · exact .inr h1
  · rw [h'.tw_iff] at hj
    rw [h.tw_iff, h.wr_iff]
    rcases ht j hj with (h1 | h1) | h1
    · exact .inl (.inr h1)
    · exact .inl (.inl (.inr h1))
    · exact .inr h1
end
end Go.Proofs.YtappphffbnkloaaGreatDoor.Sht
set_option linter.unusedVariables false
set_option linter.unusedSimpArgs false
namespace Go.Proofs.YtappphffbnkloaaGreatDoor.Sht
open Go Go.RowKit
/-- an entry: its elements' type, the slice, its cells -/
abbrev En := TypeId × Value × List Value
def blks (L : List En) : List Nat := L.flatMap fun x => ob x.2.1
structure OwnsAll (w : World) (B : Nat) (L : List En) : Prop where
  own : ∀ x ∈ L, w.ownsRow B x.1 1 x.2.1 x.2.2.length x.2.2
  dis : (blks L).Nodup
section
variable {w w' : World} {B : Nat} {L L' : List En}
theorem OwnsAll.nil : OwnsAll w B [] := ⟨fun _ h => by simp at h, by simp [blks]⟩
theorem OwnsAll.lt (h : OwnsAll w B L) {j : Nat} (hj : j ∈ blks L) : B ≤ j ∧ j < w.heap.size := by
  obtain ⟨x, hx, hj⟩ := List.mem_flatMap.1 hj
  exact (h.own x hx).lt j (mem_ob.1 hj)
theorem OwnsAll.keep (h : OwnsAll w B L) (k : ∀ j, j ∈ blks L → w'.heap[j]? = w.heap[j]?) : OwnsAll w' B L :=
  ⟨fun x hx => ownsRow_kept (h.own x hx) fun j hj => k j (List.mem_flatMap.2 ⟨x, hx, mem_ob.2 hj⟩), h.dis⟩
theorem OwnsAll.below (h : OwnsAll w B L) (k : Below w.heap.size w w') : OwnsAll w' B L := h.keep fun j hj => k.block j (h.lt hj).2
theorem OwnsAll.perm (h : OwnsAll w B L) (p : L.Perm L') : OwnsAll w B L' :=
  ⟨fun x hx => h.own x (p.mem_iff.2 hx), (List.Perm.nodup_iff (p.flatMap_right _)).1 h.dis⟩
theorem OwnsAll.tail {x : En} (h : OwnsAll w B (x :: L)) : OwnsAll w B L := ⟨fun y hy => h.own y (List.mem_cons_of_mem _ hy), (List.nodup_append.1 h.dis).2.1⟩
theorem OwnsAll.head {x : En} (h : OwnsAll w B (x :: L)) : w.ownsRow B x.1 1 x.2.1 x.2.2.length x.2.2 := h.own x List.mem_cons_self
theorem OwnsAll.apart {x : En} (h : OwnsAll w B (x :: L)) {j : Nat} (hj : x.2.1.ownBlock = some j) : j ∉ blks L := fun hm => (List.nodup_append.1 h.dis).2.2 j (mem_ob.2 hj) j hm rfl
theorem ob_nodup (v : Value) : (ob v).Nodup := by
  unfold ob
  cases v.ownBlock <;> simp
theorem OwnsAll.cons {e : TypeId} {v : Value} {xs : List Value} (h : OwnsAll w B L) (ho : w.ownsRow B e 1 v xs.length xs) (hf : ∀ j, v.ownBlock = some j → j ∉ blks L) : OwnsAll w B ((e, v, xs) :: L) := by
  refine ⟨fun x hx => ?_, ?_⟩
  · rcases List.mem_cons.1 hx with rfl | hx
    · exact ho
    · exact h.own x hx
  · exact List.nodup_append.2 ⟨ob_nodup v, h.dis, fun a ha b hb e => hf a (mem_ob.1 ha) (e ▸ hb)⟩
/-- an entry grows -/
theorem OwnsAll.grow {e : TypeId} {v v' : Value} {xs news : List Value} {m : Nat} (h : OwnsAll w B ((e, v, xs) :: L)) (hm : m = news.length) (ho : w'.ownsRow B e 1 v' (xs.length + m) (xs ++ news)) (hg : w.grownBy w' v.ownBlock)
    (hb : v'.ownBlock = v.ownBlock ∨ v'.ownBlock = some w.heap.size) : OwnsAll w' B ((e, v', xs ++ news) :: L) := by
  have ht : OwnsAll w' B L := h.tail.keep fun j hj => hg.block j (h.tail.lt hj).2 fun q => h.apart q.symm hj
  refine ht.cons (by rw [List.length_append, ← hm]; exact ho) fun j hj hmem => ?_
  rcases hb with q | q
  · exact h.apart (q ▸ hj) hmem
  · rw [q] at hj
    obtain rfl := Option.some.inj hj
    exact Nat.lt_irrefl _ (h.tail.lt hmem).2
/-- the same, behind a row that was made for it -/
theorem OwnsAll.grow1 {e : TypeId} {v v' : Value} {xs news : List Value} {m : Nat} {o : Obj} (h : OwnsAll w B ((e, v, xs) :: L)) (hm : m = news.length) (ho : w'.ownsRow B e 1 v' (xs.length + m) (xs ++ news)) (hg : (w.alloc o).grownBy w' v.ownBlock)
    (hb : v'.ownBlock = v.ownBlock ∨ v'.ownBlock = some (w.alloc o).heap.size) : OwnsAll w' B ((e, v', xs ++ news) :: L) :=
  (h.below ((Below.refl _ _).alloc (Nat.le_refl _) o)).grow hm ho hg hb
/-- one cell of an entry is written -/
theorem OwnsAll.set {e : TypeId} {g n cap : Nat} {xs : List Value} {j : Nat} {u : Value} (h : OwnsAll w B ((e, .slice (some ⟨g, 0, none⟩) n cap, xs) :: L)) (hj : j < n) : OwnsAll (w.setCell ⟨g, j, none⟩ u) B ((e, .slice (some ⟨g, 0, none⟩) n cap, xs.set j u) :: L) := by
  have ht : OwnsAll (w.setCell ⟨g, j, none⟩ u) B L := h.tail.keep fun i hi => Below.heap_setCell w ⟨g, j, none⟩ u i fun q => h.apart (j := g) rfl (by have : i = g := q; exact this ▸ hi)
  refine ht.cons ?_ fun i hi => h.apart hi
  have h0 : w.ownsRow B e 1 (.slice (some ⟨g, 0, none⟩) n cap) xs.length xs := h.head
  obtain ⟨h1, h2⟩ := h0
  refine ⟨by simp, .inr ?_⟩
  rcases h2 with ⟨q, _⟩ | ⟨g', cap', cur, hv, hB, hh, q1, q2, q3, q4⟩
  · cases q
  · have hv' := hv
    injection hv' with ha hn hc
    injection ha with ha
    injection ha with hg' _ _
    subst hg'
    refine ⟨g, cap', cur.setIfInBounds j u, by rw [List.length_set]; exact hv, hB, bset hh j u, by rw [List.length_set]; exact q1, q2, by simpa using q3, ?_⟩
    rw [Array.toList_setIfInBounds, List.length_set, List.take_set, q4]
end
end Go.Proofs.YtappphffbnkloaaGreatDoor.Sht
set_option linter.unusedVariables false
set_option linter.unusedSimpArgs false
namespace Go.Proofs.YtappphffbnkloaaGreatDoor.Sht
open Go Go.RowKit
variable {A : Nat → Addr} {W0 W : World} {b : Nat} {s : RS}
abbrev Does (A : Nat → Addr) (W0 W : World) (b : Nat) (s' : RS) (f : FuncId) (args : Array Value) : Prop :=
  Calls Tryz.prog f args W fun e w' => e = .returned (.tuple #[]) ∧ R A W0 w' b s' ∧ Fr b W w'
set_option maxHeartbeats 1000000 in
theorem turn_any (F G : FuncId) (v0 v1 : Value) (h0 : W.cell? ⟨b, 0, none⟩ = some v0) (h1 : W.cell? ⟨b, 1, none⟩ = some v1) (f0 : W.frozen? ⟨b, 0, none⟩ = false) (f1 : W.frozen? ⟨b, 1, none⟩ = false) :
    Calls Tryz.prog 34 #[PT b, .func (.func F) #[PT b] #[], .func (.func G) #[PT b] #[]] W fun e w' =>
      e = .returned (.tuple #[]) ∧ w' = (W.setCell ⟨b, 0, none⟩ (.func (.func F) #[PT b] #[])).setCell ⟨b, 1, none⟩ (.func (.func G) #[PT b] #[]) := by
  go_enter Tryz.func34, Tryz.ntmps34
  go_wp2
  go_end0
  exact ⟨rfl, rfl⟩
theorem RD.turn {vc vr vl fl : Value} {lv : List Value} (h : RD A W0 W b s vc vr vl fl lv) (m : Md) :
    RD A W0 ((W.setCell ⟨b, 0, none⟩ (nx b m)).setCell ⟨b, 1, none⟩ (ov b m)) b (s.turn m) vc vr vl fl lv := by
  obtain ⟨below, hb, blk, hc, hr, hl, rws, flt, dis⟩ := h
  have hd := dis
  simp only [List.nodup_cons, List.mem_append] at hd
  have far : ∀ j, j ≠ b → ((W.setCell ⟨b, 0, none⟩ (nx b m)).setCell ⟨b, 1, none⟩ (ov b m)).heap[j]? = W.heap[j]? := fun j hj => (Below.heap_setCell _ ⟨b, 1, none⟩ _ j hj).trans (Below.heap_setCell W ⟨b, 0, none⟩ _ j hj)
  have ne : ∀ j, (j ∈ ob vc ∨ j ∈ ob vr ∨ j ∈ ob vl ∨ j ∈ fb fl ∨ j ∈ lv.flatMap ob) → j ≠ b := fun j hj e => hd.1 (e ▸ hj)
  exact ⟨(below.setCell hb _).setCell hb _, hb, (bset (bset blk 0 _) 1 _).trans rfl, ownsRow_kept hc fun j hj => far j (ne j (.inl (mem_ob.2 hj))), ownsRow_kept hr fun j hj => far j (ne j (.inr (.inl (mem_ob.2 hj)))),
    ownsRow_kept hl fun j hj => far j (ne j (.inr (.inr (.inl (mem_ob.2 hj))))), rowsAt_kept rws fun j hj => far j (ne j (.inr (.inr (.inr (.inr hj))))), faultAt_kept flt fun j hj => far j (ne j (.inr (.inr (.inr (.inl hj))))), dis⟩
theorem turn_r (m : Md) (hR : R A W0 W b s) : Does A W0 W b (s.turn m) 34 #[PT b, nx b m, ov b m] := by
  obtain ⟨vc, vr, vl, fl, lv, h⟩ := hR
  obtain ⟨c0, c1, _⟩ := h.cells
  obtain ⟨f0, f1, _⟩ := h.free
  have key : Calls Tryz.prog 34 #[PT b, nx b m, ov b m] W fun e w' => e = .returned (.tuple #[]) ∧ w' = (W.setCell ⟨b, 0, none⟩ (nx b m)).setCell ⟨b, 1, none⟩ (ov b m) := by
    cases m <;> exact turn_any _ _ _ _ c0 c1 f0 f1
  refine key.mono ?_
  rintro e w' ⟨rfl, rfl⟩
  refine ⟨rfl, ⟨vc, vr, vl, fl, lv, h.turn m⟩, h.fr (h.turn m) rfl rfl rfl (by rw [setSize, setSize]; exact Nat.le_refl _) (fun j hj hn _ _ _ => (Below.heap_setCell _ ⟨b, 1, none⟩ _ j hn).trans (Below.heap_setCell W ⟨b, 0, none⟩ _ j hn)) (fun j hj => .inl hj)⟩
set_option maxHeartbeats 1000000 in
theorem fail_any (l c : Nat) (a : Addr) (v : Value) (h : W.cell? ⟨b, 12, none⟩ = some v) (f : W.frozen? ⟨b, 12, none⟩ = false) (hb : b < W.heap.size) :
    Calls Tryz.prog 45 #[PT b, .agg #[I l, I c], .iface 215 (.pointer (some a))] W fun e w' =>
      e = .returned (.tuple #[]) ∧ w' = ((W.alloc (.cells #[I l, I c] 79)).alloc (.cells #[I l, I c, .iface 215 (.pointer (some a))] 70)).setCell ⟨b, 12, none⟩ (.iface 65 (PT (W.alloc (.cells #[I l, I c] 79)).heap.size)) := by
  go_enter Tryz.func45, Tryz.ntmps45
  go_wp2
  go_end0
  refine ⟨rfl, ?_⟩
  rw [World.setCell_alloc_past _ _ _ _ (by simp; omega), World.setCell_alloc_past _ _ _ _ hb]
  simp
theorem fail_r (l c e : Nat) (he : coded e) (hR : R A W0 W b s) : Does A W0 W b (s.fail l c e) 45 #[PT b, .agg #[I l, I c], errV A e] := by
  obtain ⟨vc, vr, vl, fl, lv, h⟩ := hR
  obtain ⟨_, _, _, _, _, _, _, _, _, _, _, _, c12⟩ := h.cells
  obtain ⟨_, _, _, _, _, _, _, _, _, _, _, _, f12⟩ := h.free
  refine (fail_any l c (A e) fl c12 f12 h.lt).mono ?_
  rintro e' w' ⟨rfl, rfl⟩
  have h1 := (h.alloc (.cells #[I l, I c] 79)).fault l c e he
  refine ⟨rfl, ⟨_, _, _, _, _, h1⟩, h.fr h1 rfl rfl rfl (by rw [setSize]; simp; omega) (fun j hj hn _ _ _ => ?_) (fun j hj => .inl hj)⟩
  rw [Below.heap_setCell _ ⟨b, 12, none⟩ _ j hn, Below.heap_alloc _ _ j (by simp; omega), Below.heap_alloc _ _ j hj]
end Go.Proofs.YtappphffbnkloaaGreatDoor.Sht
set_option linter.unusedVariables false
set_option linter.unusedSimpArgs false
namespace Go.Proofs.YtappphffbnkloaaGreatDoor.Sht
open Go Go.RowKit
attribute [local go_sem ↓] Go.wp_at_zero Go.wp_at_succ
variable {A : Nat → Addr} {W0 W : World} {b : Nat} {s : RS}
theorem info5 : (Tryz.prog.info? 5).map (fun i => (i.zero, i.size, i.bytes)) = some (some (.int .u8 0), 1, 1) := by kernel_rfl
theorem info9 : (Tryz.prog.info? 9).map (fun i => (i.zero, i.size, i.bytes)) = some (some (.string ⟨#[]⟩), 1, 16) := by kernel_rfl
theorem info28 : (Tryz.prog.info? 28).map (fun i => (i.zero, i.size, i.bytes)) = some (some (.slice none 0 0), 1, 24) := by kernel_rfl
/-- a byte more in the cell -/
theorem RD.appCell {vc vr vl fl : Value} {lv : List Value} {w1 : World} {g cap : Nat} {x : UInt8} (h : RD A W0 W b s vc vr vl fl lv) (hg : W.grownBy w1 vc.ownBlock) (hat : vc.ownBlock = some g ∨ g = W.heap.size)
    (hown : w1.ownsRow W0.heap.size 5 1 (.slice (some ⟨g, 0, none⟩) (s.cell.length + 1) cap) (s.cell.length + 1) (bs s.cell ++ [ch x])) :
    RD A W0 (w1.setCell ⟨b, 7, none⟩ (.slice (some ⟨g, 0, none⟩) (s.cell.length + 1) cap)) b { s with cell := s.cell ++ [x] } (.slice (some ⟨g, 0, none⟩) (s.cell.length + 1) cap) vr vl fl lv := by
  have hd := h.dis
  have hlt := h.all_lt
  have hd' := hd
  simp only [List.nodup_cons, List.nodup_append, List.mem_append] at hd'
  obtain ⟨nb, _, _, nc⟩ := hd'
  have hb := h.lt
  -- the blocks that are neither b nor the cell's
  have keep : ∀ j, j < W.heap.size → j ≠ b → vc.ownBlock ≠ some j → (w1.setCell ⟨b, 7, none⟩ (.slice (some ⟨g, 0, none⟩) (s.cell.length + 1) cap)).heap[j]? = W.heap[j]? := fun j hj hn hv =>
    (Below.heap_setCell w1 ⟨b, 7, none⟩ _ j hn).trans (hg.block j hj (fun e => hv e.symm))
  have kp : ∀ j, (j ∈ ob vr ∨ j ∈ ob vl ∨ j ∈ fb fl ∨ j ∈ lv.flatMap ob) → (w1.setCell ⟨b, 7, none⟩ (.slice (some ⟨g, 0, none⟩) (s.cell.length + 1) cap)).heap[j]? = W.heap[j]? := fun j hj =>
    keep j (hlt j (by simp only [List.mem_cons, List.mem_append]; exact .inr (.inr hj))) (fun e => nb (e ▸ .inr hj)) (fun e => nc j (mem_ob.2 e) j hj rfl)
  have hbc : vc.ownBlock ≠ some b := fun e => nb (.inl (mem_ob.2 e))
  have hblk : w1.heap[b]? = W.heap[b]? := hg.block b hb (fun e => hbc e.symm)
  have hgb : g ≠ b := by
    rcases hat with e | e
    · rintro rfl; exact hbc e
    · omega
  refine ⟨(h.below.trans ⟨hg.os, hg.tape, hg.output, hg.size, fun k hk => hg.block k (Nat.lt_of_lt_of_le hk h.below.size) (fun e => by have := (h.hc.lt k e.symm).1; omega)⟩).setCell h.hb _, h.hb, (bset (hblk.trans h.blk) 7 _).trans rfl, ?_, ownsRow_kept h.hr fun j hj => kp j (.inl (mem_ob.2 hj)),
    ownsRow_kept h.hl fun j hj => kp j (.inr (.inl (mem_ob.2 hj))), rowsAt_kept h.rws fun j hj => kp j (.inr (.inr (.inr hj))), faultAt_kept h.flt fun j hj => kp j (.inr (.inr (.inl hj))), ?_⟩
  · have := ownsRow_kept hown (W' := w1.setCell ⟨b, 7, none⟩ (.slice (some ⟨g, 0, none⟩) (s.cell.length + 1) cap)) (fun j hj => Below.heap_setCell w1 ⟨b, 7, none⟩ _ j (show j ≠ b by simp only [Value.ownBlock, Option.some.injEq] at hj; omega))
    simpa [bs] using this
  · have hy : (Value.slice (some ⟨g, 0, none⟩) (s.cell.length + 1) cap).ownBlock = vc.ownBlock ∨ (Value.slice (some ⟨g, 0, none⟩) (s.cell.length + 1) cap).ownBlock = some W.heap.size := by
      rcases hat with e | e
      · exact .inl e.symm
      · exact .inr (by rw [e]; rfl)
    exact nd_new (p := [b]) (q := ob vr ++ (ob vl ++ (fb fl ++ lv.flatMap ob))) (x := vc.ownBlock) hd hy (fun j hj => hlt j (by simp only [List.mem_cons, List.mem_append, List.not_mem_nil, or_false] at hj ⊢; rcases hj with hj | hj; exact .inl hj; exact .inr (.inr hj)))
theorem RD.ne_c {vc vr vl fl : Value} {lv : List Value} (h : RD A W0 W b s vc vr vl fl lv) : vc.ownBlock ≠ some b := fun e => by
  have hd := h.dis
  simp only [List.nodup_cons, List.mem_append] at hd
  exact hd.1 (.inl (mem_ob.2 e))
theorem RD.ne_r {vc vr vl fl : Value} {lv : List Value} (h : RD A W0 W b s vc vr vl fl lv) : vr.ownBlock ≠ some b := fun e => by
  have hd := h.dis
  simp only [List.nodup_cons, List.mem_append] at hd
  exact hd.1 (.inr (.inl (mem_ob.2 e)))
theorem RD.ne_l {vc vr vl fl : Value} {lv : List Value} (h : RD A W0 W b s vc vr vl fl lv) : vl.ownBlock ≠ some b := fun e => by
  have hd := h.dis
  simp only [List.nodup_cons, List.mem_append] at hd
  exact hd.1 (.inr (.inr (.inl (mem_ob.2 e))))
/-- the reader's block behind an append -/
theorem RD.grown {vc vr vl fl : Value} {lv : List Value} {w1 : World} {r : Option Nat} (h : RD A W0 W b s vc vr vl fl lv) (hg : W.grownBy w1 r) (hr : r ≠ some b) (k : Nat) : w1.cell? ⟨b, k, none⟩ = (cellsOf b s vc vr vl fl)[k]? ∧ w1.frozen? ⟨b, k, none⟩ = false := by
  have hblk : w1.heap[b]? = some (.cells (cellsOf b s vc vr vl fl) 82 (0, 0)) := (hg.block b h.lt (fun e => hr e.symm)).trans h.blk
  exact ⟨bcell hblk k, bfree hblk k⟩
theorem RD.gl (hF : SF W0 A) {vc vr vl fl : Value} {lv : List Value} (h : RD A W0 W b s vc vr vl fl lv) (c : Nat) (hc : coded c) : W.cell? ⟨Sht.gl c, 0, none⟩ = some (errV A c) :=
  (hF.below h.below).hv c hc
/-- the frame of an append that ends in a store into the reader's block -/
theorem fr_app {vc vr vl fl vc' vr' vl' fl' : Value} {lv lv' : List Value} {s' : RS} {w1 w2 : World} {o : Obj} {v : Value} {g k : Nat} {u : Value} (h : RD A W0 W b s vc vr vl fl lv) (h2 : RD A W0 w2 b s' vc' vr' vl' fl' lv') (e2 : w2 = w1.setCell ⟨b, k, none⟩ u)
    (hg : (W.alloc o).grownBy w1 v.ownBlock) (hv : ∀ j, v.ownBlock = some j → vc.ownBlock = some j ∨ vr.ownBlock = some j ∨ vl.ownBlock = some j) (hat : v.ownBlock = some g ∨ g = (W.alloc o).heap.size)
    (ho : ∀ j, (vc'.ownBlock = some j ∨ vr'.ownBlock = some j ∨ vl'.ownBlock = some j) → (vc.ownBlock = some j ∨ vr.ownBlock = some j ∨ vl.ownBlock = some j) ∨ j = g)
    (ht : ∀ j, j ∈ lv'.flatMap ob → (j ∈ lv.flatMap ob ∨ vc.ownBlock = some j ∨ vr.ownBlock = some j ∨ vl.ownBlock = some j) ∨ W.heap.size ≤ j := by exact fun _ q => .inl (.inl q)) : Fr b W w2 := by
  subst e2
  refine h.fr h2 hg.os hg.tape hg.output (by rw [setSize]; exact Nat.le_trans (by simp) hg.size) (fun j hj hn q1 q2 q3 => ?_) (fun j hj => ?_) ht
  · exact (Below.heap_setCell w1 ⟨b, k, none⟩ _ j hn).trans ((hg.block j (by simp; omega) (fun e => by rcases hv j e.symm with h1 | h1 | h1; exact q1 h1; exact q2 h1; exact q3 h1)).trans (Below.heap_alloc W o j hj))
  · rcases ho j hj with h1 | rfl
    · exact .inl h1
    · rcases hat with h1 | h1
      · exact .inl (hv _ h1)
      · refine .inr ?_
        rw [h1]; simp
set_option maxHeartbeats 2000000 in
set_option maxRecDepth 100000 in
theorem put_r (hF : SF W0 A) (x : UInt8) {N : Nat} (hB : s.Bd N) (hN : N ≤ 1099511627776) (hR : R A W0 W b s) : Does A W0 W b (s.put x) 100 #[PT b, .int .u8 (x.toNat : Int)] := by
  obtain ⟨vc, vr, vl, fl, lv, h⟩ := hR
  obtain ⟨i0, hi, hz0, hz1, hz2⟩ := info_parts info5
  obtain ⟨_, _, _, _, _, _, _, c7, _, _, _, _, _⟩ := h.cells
  obtain ⟨_, _, _, _, _, _, _, f7, _, _, _, _, _⟩ := h.free
  have hcl := hB.cell
  have h0 := h.alloc (.cells #[ch x] 5)
  have hlt := h.lt
  have HH := Lib.hid h
  have HB := Lib.hid hB
  clear h hB
  go_enter Tryz.func100, Tryz.ntmps100
  go_wp2_with (at_builtin; refine wpList_append_lies _ rfl (.tmp 8) (.tmp 10) 37 rfl W0.heap.size 5 i0 (.int .u8 0) 1 1 Tryz.underlying37 hi hz0 hz1 hz2 rfl (by decide) vc s.cell.length (bs s.cell) rfl h0.hc ⟨W.heap.size, 0, none⟩ 1 1 [ch x] rfl rfl (World.news_of_block (cs := #[ch x]) (t := 5) (fr := (0, 0)) (heap_alloc_new W _)) (by simp [Value.oneCell']) (by omega) (by unfold maxLen; omega) (by omega) h0.below.size (W.alloc (.cells #[ch x] 5)).heap.size rfl ?_; intro g cap w1 hown1 hgrow hat hlt1; have H2 := Lib.hid (h0.appCell (x := x) hgrow hat hown1); obtain ⟨e7, q7⟩ := h0.grown hgrow h0.ne_c 7; replace e7 : w1.cell? ⟨b, 7, none⟩ = some vc := e7; have HG := Lib.hid hgrow; have HA := Lib.hid hat; clear hown1 hgrow hat)
  all_goals
    have HF := Lib.hid (fr_app (g := g) HH.out H2.out rfl HG.out (fun j hj => .inl hj) HA.out (fun j hj => by rcases hj with hj | hj | hj; exact .inr (by simpa [Value.ownBlock] using hj.symm); exact .inl (.inr (.inl hj)); exact .inl (.inr (.inr hj))))
    clear e7 q7 HG HA h0 hi hz0 hz1 hz2
    obtain ⟨w2, hw2⟩ : ∃ w2, w2 = w1.setCell ⟨b, 7, none⟩ (.slice (some ⟨g, 0, none⟩) (s.cell.length + 1) cap) := ⟨_, rfl⟩
    rw [← hw2]
    replace H2 := Lib.hid (hw2 ▸ H2.out)
    replace HF := Lib.hid (hw2 ▸ HF.out)
    clear hw2
  · obtain ⟨_, _, c2, c3, _⟩ := H2.out.cells
    have gE : w2.cell? ⟨8, 0, none⟩ = some (errV A 5) := H2.out.gl hF 5 (.inl (by omega))
    go_still_tail 6, (by kernel_rfl)
    change wpList _ _ _ _ _ w2.drew
    have hR2 := R.mk H2.out.drew
    have k5 : coded 5 := .inl (by omega)
    go_wp2_with (go_at_call 45; ((with_reducible refine (fail_r s.line s.col 5 k5 hR2).mono ?_); rintro e w3 ⟨rfl, hR3, hF3⟩))
    go_end0
    have hle : 4096 < (s.cell ++ [x]).length := by have : 4096 < (s.cell.length : Int) + 1 := by assumption
                                                   simp; omega
    refine ⟨rfl, ?_, HF.out.drew.trans hF3⟩
    rw [RS.put, if_pos hle]
    exact hR3
  · go_end0
    have hle : ¬ 4096 < (s.cell ++ [x]).length := by have : (s.cell.length : Int) + 1 ≤ 4096 := by assumption
                                                     simp; omega
    refine ⟨rfl, ?_, HF.out⟩
    rw [RS.put, if_neg hle]
    exact ⟨_, _, _, _, _, H2.out⟩
end Go.Proofs.YtappphffbnkloaaGreatDoor.Sht
set_option linter.unusedVariables false
set_option linter.unusedSimpArgs false
namespace Go.Proofs.YtappphffbnkloaaGreatDoor.Sht
open Go Go.RowKit Go.Joins
attribute [local go_sem ↓] Go.wp_at_zero Go.wp_at_succ
variable {A : Nat → Addr} {W0 W : World} {b : Nat} {s : RS}
/-- the bytes of a list as a text -/
theorem conv_bytes {B : Nat} {v : Value} {l : List UInt8} (h : W.ownsRow B 5 1 v l.length (bs l)) : (convert 37 9 v).run Tryz.prog W = .ok (st l) W := by
  obtain ⟨_, h2⟩ := h
  rcases h2 with ⟨rfl, h2⟩ | ⟨g, cap, cur, rfl, hg, hh, hn, hm, hs, ht⟩
  · obtain rfl : l = [] := List.eq_nil_of_length_eq_zero h2
    exact run_convert_bytes_nil W 37 5 Tryz.underlying37 Tryz.underlying5 0 0 9 Tryz.underlying9
  · have := run_convert_bytes_arg (P := Tryz.prog) W 37 5 Tryz.underlying37 Tryz.underlying5 g 0 l.length cap (l.map fun x => (x.toNat : Int)) (by simp) (fun i hi => by
      rw [Nat.zero_add, bcell hh i]
      have e : (bs l)[i]? = cur[i]? := by
        rw [← ht, List.getElem?_take, if_pos (by omega)]; simp
      rw [← e]
      simp [bs, List.getD, List.getElem?_eq_getElem hi]) 9 Tryz.underlying9
    have e : strOfNums (l.map fun x => (x.toNat : Int)) = ⟨l.toArray⟩ := by
      show (⟨((l.map fun x => (x.toNat : Int)).map fun n => UInt8.ofNat n.toNat).toArray⟩ : ByteArray) = ⟨l.toArray⟩
      rw [List.map_map, show ((fun n : Int => UInt8.ofNat n.toNat) ∘ fun x : UInt8 => (x.toNat : Int)) = id from funext fun x => by simp, List.map_id]
    rw [e] at this
    exact this
/-- a text more in the row -/
theorem RD.appRow {vc vr vl fl : Value} {lv : List Value} {w1 : World} {g cap : Nat} {x : List UInt8} (h : RD A W0 W b s vc vr vl fl lv) (hg : W.grownBy w1 vr.ownBlock) (hat : vr.ownBlock = some g ∨ g = W.heap.size)
    (hown : w1.ownsRow W0.heap.size 9 1 (.slice (some ⟨g, 0, none⟩) (s.row.length + 1) cap) (s.row.length + 1) (sts s.row ++ [st x])) :
    RD A W0 (w1.setCell ⟨b, 8, none⟩ (.slice (some ⟨g, 0, none⟩) (s.row.length + 1) cap)) b { s with row := s.row ++ [x] } vc (.slice (some ⟨g, 0, none⟩) (s.row.length + 1) cap) vl fl lv := by
  have hd := h.dis
  have hlt := h.all_lt
  have hd' := hd
  simp only [List.nodup_cons, List.nodup_append, List.mem_append] at hd'
  obtain ⟨nb, _, ⟨_, _, nr⟩, nc⟩ := hd'
  have hb := h.lt
  have keep : ∀ j, j < W.heap.size → j ≠ b → vr.ownBlock ≠ some j → (w1.setCell ⟨b, 8, none⟩ (.slice (some ⟨g, 0, none⟩) (s.row.length + 1) cap)).heap[j]? = W.heap[j]? := fun j hj hn hv =>
    (Below.heap_setCell w1 ⟨b, 8, none⟩ _ j hn).trans (hg.block j hj (fun e => hv e.symm))
  have kp : ∀ j, (j ∈ ob vl ∨ j ∈ fb fl ∨ j ∈ lv.flatMap ob) → (w1.setCell ⟨b, 8, none⟩ (.slice (some ⟨g, 0, none⟩) (s.row.length + 1) cap)).heap[j]? = W.heap[j]? := fun j hj =>
    keep j (hlt j (by simp only [List.mem_cons, List.mem_append]; exact .inr (.inr (.inr hj)))) (fun e => nb (e ▸ .inr (.inr hj))) (fun e => nr j (mem_ob.2 e) j hj rfl)
  have kc : ∀ j, j ∈ ob vc → (w1.setCell ⟨b, 8, none⟩ (.slice (some ⟨g, 0, none⟩) (s.row.length + 1) cap)).heap[j]? = W.heap[j]? := fun j hj =>
    keep j (hlt j (by simp only [List.mem_cons, List.mem_append]; exact .inr (.inl hj))) (fun e => nb (e ▸ .inl hj)) (fun e => nc j hj j (.inl (mem_ob.2 e)) rfl)
  have hbc : vr.ownBlock ≠ some b := h.ne_r
  have hblk : w1.heap[b]? = W.heap[b]? := hg.block b hb (fun e => hbc e.symm)
  have hgb : g ≠ b := by
    rcases hat with e | e
    · rintro rfl; exact hbc e
    · omega
  refine ⟨(h.below.trans ⟨hg.os, hg.tape, hg.output, hg.size, fun k hk => hg.block k (Nat.lt_of_lt_of_le hk h.below.size) (fun e => by have := (h.hr.lt k e.symm).1; omega)⟩).setCell h.hb _, h.hb, (bset (hblk.trans h.blk) 8 _).trans rfl, ownsRow_kept h.hc fun j hj => kc j (mem_ob.2 hj), ?_,
    ownsRow_kept h.hl fun j hj => kp j (.inl (mem_ob.2 hj)), rowsAt_kept h.rws fun j hj => kp j (.inr (.inr hj)), faultAt_kept h.flt fun j hj => kp j (.inr (.inl hj)), ?_⟩
  · have := ownsRow_kept hown (W' := w1.setCell ⟨b, 8, none⟩ (.slice (some ⟨g, 0, none⟩) (s.row.length + 1) cap)) (fun j hj => Below.heap_setCell w1 ⟨b, 8, none⟩ _ j (show j ≠ b by simp only [Value.ownBlock, Option.some.injEq] at hj; omega))
    simpa [sts] using this
  · have hy : (Value.slice (some ⟨g, 0, none⟩) (s.row.length + 1) cap).ownBlock = vr.ownBlock ∨ (Value.slice (some ⟨g, 0, none⟩) (s.row.length + 1) cap).ownBlock = some W.heap.size := by
      rcases hat with e | e
      · exact .inl e.symm
      · exact .inr (by rw [e]; rfl)
    have := nd_new (p := b :: ob vc) (q := ob vl ++ (fb fl ++ lv.flatMap ob)) (x := vr.ownBlock) (by simpa [ob] using hd) hy (fun j hj => hlt j (by simp only [List.mem_cons, List.mem_append] at hj ⊢; rcases hj with (hj | hj) | hj; exact .inl hj; exact .inr (.inl hj); exact .inr (.inr (.inr hj))))
    simpa [ob] using this
/-- the cell is emptied: its room stays -/
def emptied : Value → Value
  | .slice a _ c => .slice a 0 c
  | v => v
theorem emptied_own (v : Value) : (emptied v).ownBlock = v.ownBlock := by
  cases v with
  | slice a n c => cases a <;> rfl
  | _ => rfl
theorem RD.empty {vc vr vl fl : Value} {lv : List Value} (h : RD A W0 W b s vc vr vl fl lv) : RD A W0 (W.setCell ⟨b, 7, none⟩ (emptied vc)) b { s with cell := [] } (emptied vc) vr vl fl lv := by
  have hd := h.dis
  simp only [List.nodup_cons, List.mem_append] at hd
  have far : ∀ j, j ≠ b → (W.setCell ⟨b, 7, none⟩ (emptied vc)).heap[j]? = W.heap[j]? := fun j hj => Below.heap_setCell W ⟨b, 7, none⟩ _ j hj
  have ne : ∀ j, (j ∈ ob vc ∨ j ∈ ob vr ∨ j ∈ ob vl ∨ j ∈ fb fl ∨ j ∈ lv.flatMap ob) → j ≠ b := fun j hj e => hd.1 (e ▸ hj)
  refine ⟨h.below.setCell h.hb _, h.hb, (bset h.blk 7 _).trans rfl, ?_, ownsRow_kept h.hr fun j hj => far j (ne j (.inr (.inl (mem_ob.2 hj)))),
    ownsRow_kept h.hl fun j hj => far j (ne j (.inr (.inr (.inl (mem_ob.2 hj))))), rowsAt_kept h.rws fun j hj => far j (ne j (.inr (.inr (.inr (.inr hj))))), faultAt_kept h.flt fun j hj => far j (ne j (.inr (.inr (.inr (.inl hj))))), ?_⟩
  · have ho := ownsRow_kept h.hc (W' := W.setCell ⟨b, 7, none⟩ (emptied vc)) fun j hj => far j (ne j (.inl (mem_ob.2 hj)))
    obtain ⟨_, h2⟩ := ho
    refine ⟨by simp [bs], ?_⟩
    rcases h2 with ⟨e, _⟩ | ⟨g, cap, cur, e, hg, hh, hn, hm, hs, ht⟩
    · exact .inl ⟨by rw [e]; rfl, rfl⟩
    · exact .inr ⟨g, cap, cur, by rw [e]; rfl, hg, hh, Nat.zero_le _, hm, hs, by simp [bs]⟩
  · have e : ob (emptied vc) = ob vc := by simp [ob, emptied_own]
    rw [e]; exact h.dis
theorem RD.empty_fr {vc vr vl fl : Value} {lv : List Value} (h : RD A W0 W b s vc vr vl fl lv) : Fr b W (W.setCell ⟨b, 7, none⟩ (emptied vc)) :=
  h.fr h.empty rfl rfl rfl (by rw [setSize]; exact Nat.le_refl _) (fun j hj hn _ _ _ => Below.heap_setCell W ⟨b, 7, none⟩ _ j hn) (fun j hj => by rw [emptied_own] at hj; exact .inl hj)
set_option maxHeartbeats 2000000 in
set_option maxRecDepth 100000 in
theorem endCell_r (hF : SF W0 A) {N : Nat} (hB : s.Bd N) (hN : N ≤ 1099511627776) (hR : R A W0 W b s) : Does A W0 W b s.endCell 102 #[PT b] := by
  obtain ⟨vc, vr, vl, fl, lv, h⟩ := hR
  obtain ⟨i0, hi, hz0, hz1, hz2⟩ := info_parts info9
  obtain ⟨_, _, _, _, _, _, _, c7, c8, _, _, _, _⟩ := h.cells
  obtain ⟨_, _, _, _, _, _, _, f7, f8, _, _, _, _⟩ := h.free
  have hcv : (convert 37 9 vc).run Tryz.prog W.drew = .ok (st s.cell) W.drew := conv_bytes h.drew.hc
  have hrl := hB.row
  have hlt := h.lt
  have HH := Lib.hid h
  rcases ownsRow_forms h.hc with ⟨rfl, _⟩ | ⟨gc, cc, rfl⟩
  all_goals clear h hB
  all_goals
   go_enter Tryz.func102, Tryz.ntmps102
   go_wp2_with fail
   have h0 := (HH.out.drew).alloc (.cells #[st s.cell] 9)
   have HHr := Lib.hid h0.hr
   go_region_law ((refine step_append_lies _ (by rfl) _ _ 28 (by rfl) W0.heap.size 9 i0 (.string ⟨#[]⟩) 1 16 Tryz.underlying28 hi hz0 hz1 hz2 rfl (by decide) vr s.row.length (sts s.row) (by rfl) h0.hr ⟨W.heap.size, 0, none⟩ 1 1 [st s.cell] (by rfl) rfl (World.news_of_block (cs := #[st s.cell]) (t := 9) (fr := (0, 0)) (heap_alloc_new W.drew _)) (by simp [Value.oneCell']) (by omega) (by unfold maxLen; omega) (by omega) h0.below.size (W.drew.alloc (.cells #[st s.cell] 9)).heap.size rfl ?_; intro g cap w1 hown1 hgrow hat hlt1; have H2 := Lib.hid (h0.appRow hgrow hat hown1); obtain ⟨e8, q8⟩ := h0.grown hgrow h0.ne_r 8; replace e8 := e8.trans (rfl : _ = some _); obtain ⟨e7, q7⟩ := h0.grown hgrow h0.ne_r 7; replace e7 := e7.trans (rfl : _ = some _); have HG := Lib.hid hgrow; have HA := Lib.hid hat; clear hown1 hgrow hat))
   all_goals
     have HF := Lib.hid (fr_app (g := g) HH.out.drew H2.out rfl HG.out (fun j hj => .inr (.inl hj)) HA.out (fun j hj => by rcases hj with hj | hj | hj; exact .inl (.inl hj); exact .inr (by simpa [Value.ownBlock] using hj.symm); exact .inl (.inr (.inr hj))))
     clear e7 q7 e8 q8 HG HA h0 hi hz0 hz1 hz2 hcv
     obtain ⟨w2, hw2⟩ : ∃ w2, w2 = w1.setCell ⟨b, 8, none⟩ (.slice (some ⟨g, 0, none⟩) (s.row.length + 1) cap) := ⟨_, rfl⟩
     rw [← hw2]
     replace H2 := Lib.hid (hw2 ▸ H2.out)
     replace HF := Lib.hid (hw2 ▸ HF.out)
     clear hw2
     obtain ⟨_, _, _, _, _, _, _, c7, _, _, _, _, _⟩ := H2.out.cells
     obtain ⟨_, _, _, _, _, _, _, f7, _, _, _, _, _⟩ := H2.out.free
     go_wp2
     go_end0
     exact ⟨rfl, R.mk H2.out.empty, ((Fr.refl b W).drew.trans HF.out).trans H2.out.empty_fr⟩
end Go.Proofs.YtappphffbnkloaaGreatDoor.Sht
set_option linter.unusedVariables false
set_option linter.unusedSimpArgs false
namespace Go.Proofs.YtappphffbnkloaaGreatDoor.Sht
open Go Go.RowKit
attribute [local go_sem ↓] Go.wp_at_zero Go.wp_at_succ
abbrev nl : Value := .slice none 0 0
/-- the books' block -/
def BkAt (w : World) (bk : Nat) (tv t0 rv r0 : Value) : Prop := w.heap[bk]? = some (.cells #[nl, nl, nl, nl, nl, nl, tv, t0, nl, nl, nl, nl, rv, r0] 36 (0, 0))
/-- what a book's entry may touch -/
structure Bf (bk : Nat) (vs : List Value) (w w' : World) : Prop where
  os : w'.os = w.os
  tape : w'.tape = w.tape
  output : w'.output = w.output
  size : w.heap.size ≤ w'.heap.size
  keep : ∀ j, j < w.heap.size → j ≠ bk → (∀ v ∈ vs, v.ownBlock ≠ some j) → w'.heap[j]? = w.heap[j]?
theorem mem_blks {x : En} {L : List En} {j : Nat} : j ∈ blks (x :: L) ↔ j ∈ ob x.2.1 ∨ j ∈ blks L := by
  show j ∈ ob x.2.1 ++ blks L ↔ _
  exact List.mem_append
/-- a slice's block is the old one, or a new one -/
def Nb (w : World) (v v' : Value) : Prop := ∀ j, v'.ownBlock = some j → v.ownBlock = some j ∨ w.heap.size ≤ j
theorem one_sts (r : List (List UInt8)) : ∀ u ∈ sts r, u.oneCell' = true := fun u hu => by
  obtain ⟨q, _, rfl⟩ := List.mem_map.1 hu
  rfl
theorem owns_fresh {w w' : World} {B : Nat} {L : List En} (h : OwnsAll w B L) {row : Option Nat} (hg : w.grownBy w' row) (hr : ∀ j, row = some j → j ∉ blks L) : OwnsAll w' B L := h.keep fun j hj => hg.block j (h.lt hj).2 fun e => hr j e.symm hj
theorem owns_set {w : World} {B g i : Nat} {u : Value} {L : List En} (h : OwnsAll w B L) (hg : g ∉ blks L) : OwnsAll (w.setCell ⟨g, i, none⟩ u) B L := h.keep fun j hj => Below.heap_setCell w ⟨g, i, none⟩ u j fun e => hg (by have : j = g := e; exact this ▸ hj)
set_option maxHeartbeats 2000000 in
set_option maxRecDepth 100000 in
theorem texts_b (bk B : Nat) (tv t0 rv r0 : Value) (gv capv : Nat) (r : List (List UInt8)) (xs ys : List Value) (L : List En) (w : World) (h : BkAt w bk tv t0 rv r0)
    (hL : OwnsAll w B ((28, tv, xs) :: (28, t0, ys) :: L)) (hn : bk ∉ blks ((28, tv, xs) :: (28, t0, ys) :: L)) (hr : (9, .slice (some ⟨gv, 0, none⟩) r.length capv, sts r) ∈ L) (h0 : 0 < r.length) (hrl : r.length ≤ 100) (hx : xs.length ≤ 4000000000000) (hy : ys.length = xs.length) (hB : B ≤ w.heap.size) :
    Calls Tryz.prog 43 #[PT bk, .slice (some ⟨gv, 0, none⟩) r.length capv] w fun e w' => e = .returned (.tuple #[]) ∧ ∃ tv' t0' c, BkAt w' bk tv' t0' rv r0 ∧
      OwnsAll w' B ((28, tv', xs ++ [.slice (some ⟨gv, 0, none⟩) r.length capv]) :: (28, t0', ys ++ [c]) :: (9, c, sts r) :: L) ∧ Bf bk [tv, t0] w w' ∧ Nb w tv tv' ∧ Nb w t0 t0' := by
  obtain ⟨i0, hi, hz0, hz1, hz2⟩ := info_parts info28
  obtain ⟨i9, hi9, hy0, hy1, hy2⟩ := info_parts info9
  obtain ⟨V, hV⟩ : ∃ V, V = Value.slice (some ⟨gv, 0, none⟩) r.length capv := ⟨_, rfl⟩
  have k6 : w.cell? ⟨bk, 6, none⟩ = some tv := (bcell h 6).trans rfl
  have hbk := blt h
  have H := Lib.hid h
  have HL := Lib.hid hL
  have HR := Lib.hid hr
  have HN := Lib.hid hn
  have hne : tv.ownBlock ≠ some bk := fun e => hn (by unfold blks; rw [List.flatMap_cons]; exact List.mem_append_left _ (mem_ob.2 e))
  have HNe := Lib.hid hne
  clear h hL hr hn hne hV
  go_enter Tryz.func43, Tryz.ntmps43
  go_wp2_with (at_builtin; refine wpList_append_lies (w.alloc (.cells #[.slice (some ⟨gv, 0, none⟩) r.length capv] 28)) rfl (.tmp 8) (.tmp 10) 30 rfl B 28 i0 _ 1 24 Tryz.underlying30 hi hz0 hz1 hz2 rfl (by decide) tv xs.length xs rfl (HL.out.head.alloc _) ⟨w.heap.size, 0, none⟩ 1 1 [.slice (some ⟨gv, 0, none⟩) r.length capv] rfl rfl (World.news_of_block (cs := #[.slice (some ⟨gv, 0, none⟩) r.length capv]) (t := 28) (fr := (0, 0)) (heap_alloc_new w _)) (by simp [Value.oneCell']) (by omega) (by unfold maxLen; omega) (by omega) (by simp; omega) _ rfl ?_; intro g1 cap1 w1 hown hg hat hlt; have HO1 := Lib.hid (HL.out.grow1 rfl hown hg (by rcases hat with e | e; exact .inl e.symm; exact .inr (by rw [e]; rfl))); have hb1 : BkAt w1 bk tv t0 rv r0 := (hg.block bk (by simp; omega) (fun e => HNe.out e.symm)).trans ((((Below.refl w.heap.size w).alloc (Nat.le_refl _) _).block bk hbk).trans H.out); have e6 : w1.cell? ⟨bk, 6, none⟩ = some tv := (bcell hb1 6).trans rfl; have q6 := bfree hb1 6; have HB1 := Lib.hid hb1; have HG1 := Lib.hid hg; have HA1 := Lib.hid hat; clear hown hg hat hb1)
  have HN1 : bk ∉ blks ((28, .slice (some ⟨g1, 0, none⟩) (xs.length + 1) cap1, xs ++ [.slice (some ⟨gv, 0, none⟩) r.length capv]) :: (28, t0, ys) :: L) := fun hm => by
    rcases mem_blks.1 hm with q | q
    · have q' : some g1 = some bk := mem_ob.1 q
      rcases HA1.out with e | e
      · exact HNe.out (e.trans q')
      · have := Option.some.inj q'
        simp at e
        omega
    · exact HN.out (mem_blks.2 (.inr q))
  obtain ⟨w2, hw2⟩ : ∃ w2, w2 = w1.setCell ⟨bk, 6, none⟩ (.slice (some ⟨g1, 0, none⟩) (xs.length + 1) cap1) := ⟨_, rfl⟩
  rw [← hw2]
  have hb2 : BkAt w2 bk (.slice (some ⟨g1, 0, none⟩) (xs.length + 1) cap1) t0 rv r0 := by rw [hw2]; exact bset HB1.out 6 _
  have HO2 := Lib.hid (show OwnsAll w2 B _ from hw2 ▸ owns_set HO1.out HN1)
  have hz2' : w.heap.size ≤ w2.heap.size := by rw [hw2, setSize]; have := HG1.out.size; simp at this; omega
  have k7 : w2.cell? ⟨bk, 7, none⟩ = some t0 := (bcell hb2 7).trans rfl
  have q7 := bfree hb2 7
  have l7 := blt hb2
  have HB2 := Lib.hid hb2
  have HN2 := Lib.hid HN1
  have HW2 := Lib.hid hw2
  have HHr := Lib.hid (HO2.out.own _ (List.mem_cons_of_mem _ (List.mem_cons_of_mem _ HR.out)))
  have HHd := Lib.hid (HO2.out.lt (j := gv) (mem_blks.2 (.inr (mem_blks.2 (.inr (List.mem_flatMap.2 ⟨_, HR.out, mem_ob.2 rfl⟩))))))
  have hrn : ∀ wx : World, Below w2.heap.size w2 wx → ∀ j u, (sts r)[j]? = some u → wx.cell? ((⟨gv, 0, none⟩ : Addr).add j) = some u := fun wx k j u hj => by
    have := HHr.out.cells (g := gv) rfl j u hj
    exact (k.cell (World.block_lt_of_cell? _ _ this)).trans this
  have HRn := Lib.hid hrn
  have hsl : (sts r).length = r.length := sts_len r
  have HSl := Lib.hid hsl
  clear hb2 hw2 hrn hsl HN1 e6 q6 k6
  go_region_law (first
    | (refine step_append_lies (w2.drew.alloc (.cells #[] 9)) (by rfl) _ _ 28 (by rfl) B 9 i9 (.string ⟨#[]⟩) 1 16 Tryz.underlying28 hi9 hy0 hy1 hy2 rfl (by decide) (.slice (some ⟨w2.heap.size, 0, none⟩) 0 0) 0 [] (by rfl) ⟨rfl, .inr ⟨w2.heap.size, 0, #[], rfl, by omega, heap_alloc_new w2.drew _, Nat.le_refl _, by decide, rfl, rfl⟩⟩ ⟨gv, 0, none⟩ r.length capv (sts r) (by rfl) (by rw [HSl.out, Nat.mul_one]) (HRn.out _ ((Below.refl _ _).drew.alloc (Nat.le_refl _) _)) (one_sts r) h0 (by unfold maxLen; omega) (by omega) (by simp; omega) _ rfl ?_; intro g2 cap2 wA hownA hgA hatA hltA; simp only [Nat.zero_add, List.nil_append] at hownA ⊢; have hal := (Below.refl w2.heap.size w2).drew.alloc (Nat.le_refl _) (.cells #[] 9); have HOA := Lib.hid (owns_fresh (HO2.out.below hal) hgA (fun j hj hm => by have := (HO2.out.lt hm).2; simp [Value.ownBlock] at hj; omega)); have hbA : BkAt wA bk _ t0 rv r0 := (hgA.block bk (by simp; omega) (fun e => by simp [Value.ownBlock] at e; omega)).trans ((hal.block bk l7).trans HB2.out); have kA : wA.cell? ⟨bk, 7, none⟩ = some t0 := (bcell hbA 7).trans rfl; have lA := blt hbA; have HBA := Lib.hid hbA; have HOwA := Lib.hid hownA; have HGA := Lib.hid hgA; have HAA : Hid (w2.heap.size ≤ g2) := Lib.hid (by rcases hatA with e | e; simp [Value.ownBlock] at e; omega; simp at e; omega); have hzA := hgA.size; simp only [World.drew, World.alloc, Array.size_push] at hzA; clear hownA hgA hatA hbA hal)
    | (refine step_append_lies (wA.alloc (.cells #[.slice (some ⟨g2, 0, none⟩) r.length cap2] 28)) (by rfl) _ _ 30 (by rfl) B 28 i0 (.slice none 0 0) 1 24 Tryz.underlying30 hi hz0 hz1 hz2 rfl (by decide) t0 ys.length ys (by rfl) (HOA.out.tail.head.alloc _) ⟨wA.heap.size, 0, none⟩ 1 1 [.slice (some ⟨g2, 0, none⟩) r.length cap2] (by rfl) rfl (World.news_of_block (cs := #[.slice (some ⟨g2, 0, none⟩) r.length cap2]) (t := 28) (fr := (0, 0)) (heap_alloc_new wA _)) (by simp [Value.oneCell']) (by omega) (by unfold maxLen; omega) (by omega) (by simp; omega) _ rfl ?_; intro g3 cap3 wB hownB hgB hatB hltB; have hzB := hgB.size; simp only [World.alloc, Array.size_push] at hzB; have hf0 : t0.ownBlock ≠ some bk := (fun e => HN2.out (mem_blks.2 (.inr (mem_blks.2 (.inl (mem_ob.2 e)))))); have hbB : BkAt wB bk _ t0 rv r0 := (hgB.block bk (by simp; omega) (fun e => hf0 e.symm)).trans ((((Below.refl wA.heap.size wA).alloc (Nat.le_refl _) _).block bk lA).trans HBA.out); have kB : wB.cell? ⟨bk, 7, none⟩ = some t0 := (bcell hbB 7).trans rfl; have qB := bfree hbB 7; have HBB := Lib.hid hbB; have HOwB := Lib.hid hownB; have HGB := Lib.hid hgB; have HAB := Lib.hid hatB; clear hownB hgB hatB hbB))
  all_goals go_wp2
  all_goals go_end0
  all_goals
    have hA1 := HOA.out.cons (e := 9) (v := .slice (some ⟨g2, 0, none⟩) r.length cap2) (xs := sts r) (by rw [HSl.out]; exact HOwA.out) (fun j hj hm => by
      have h1 := (HO2.out.lt hm).2
      obtain rfl : g2 = j := by simpa [Value.ownBlock] using hj
      have := HAA.out
      omega)
    have hA2 := hA1.perm ((List.Perm.cons _ (List.Perm.swap _ _ _)).trans (List.Perm.swap _ _ _))
    have hB1 := hA2.grow1 (news := [.slice (some ⟨g2, 0, none⟩) r.length cap2]) rfl HOwB.out HGB.out (by
      rcases HAB.out with e | e
      · exact .inl e.symm
      · exact .inr (by rw [e]; rfl))
    have hNb : bk ∉ blks ((28, .slice (some ⟨g3, 0, none⟩) (ys.length + 1) cap3, ys ++ [.slice (some ⟨g2, 0, none⟩) r.length cap2]) :: (9, .slice (some ⟨g2, 0, none⟩) r.length cap2, sts r) :: (28, .slice (some ⟨g1, 0, none⟩) (xs.length + 1) cap1, xs ++ [.slice (some ⟨gv, 0, none⟩) r.length capv]) :: L) := fun hm => by
      rcases mem_blks.1 hm with q | q
      · have q' : some g3 = some bk := mem_ob.1 q
        rcases HAB.out with e | e
        · exact HN2.out (mem_blks.2 (.inr (mem_blks.2 (.inl (mem_ob.2 (e.trans q'))))))
        · have q2 := Option.some.inj q'
          have := e
          simp at this
          omega
      · rcases mem_blks.1 q with q | q
        · have q' : some g2 = some bk := mem_ob.1 q
          have q2 := Option.some.inj q'
          have := HAA.out
          omega
        · rcases mem_blks.1 q with q | q
          · exact HN2.out (mem_blks.2 (.inl q))
          · exact HN2.out (mem_blks.2 (.inr (mem_blks.2 (.inr q))))
    have hB2 := (owns_set (i := 7) (u := .slice (some ⟨g3, 0, none⟩) (xs.length + 1) cap3) hB1 hNb).perm ((List.Perm.cons _ (List.Perm.swap _ _ _)).trans (List.Perm.swap _ _ _))
    rw [hy] at hB2
    refine ⟨rfl, _, _, bset HBB.out 7 _, ⟨_, hB2⟩, ?_, fun j hj => ?_, fun j hj => ?_⟩
    rotate_left
    · obtain rfl : g1 = j := by simpa [Value.ownBlock] using hj
      rcases HA1.out with e | e
      · exact .inl e
      · right
        have := e
        simp at this
        omega
    · obtain rfl : g3 = j := by simpa [Value.ownBlock] using hj
      rcases HAB.out with e | e
      · exact .inl e
      · right
        have := e
        simp at this
        omega
    have hW2 := HW2.out
    refine ⟨?_, ?_, ?_, ?_, fun j hj hjb hjv => ?_⟩
    · show wB.os = _
      rw [HGB.out.os]
      show wA.os = _
      rw [HGA.out.os]
      show w2.os = _
      rw [hW2]
      exact HG1.out.os
    · show wB.tape = _
      rw [HGB.out.tape]
      show wA.tape = _
      rw [HGA.out.tape]
      show w2.tape = _
      rw [hW2]
      exact HG1.out.tape
    · show wB.output = _
      rw [HGB.out.output]
      show wA.output = _
      rw [HGA.out.output]
      show w2.output = _
      rw [hW2]
      exact HG1.out.output
    · rw [setSize]
      omega
    · have h1 : (wB.setCell ⟨bk, 7, none⟩ (.slice (some ⟨g3, 0, none⟩) (xs.length + 1) cap3)).heap[j]? = wB.heap[j]? := Below.heap_setCell wB ⟨bk, 7, none⟩ _ j hjb
      have h2 := HGB.out.block j (by simp; omega) (fun e => hjv t0 (by simp) e.symm)
      have h3 := ((Below.refl wA.heap.size wA).alloc (Nat.le_refl _) (.cells #[.slice (some ⟨g2, 0, none⟩) r.length cap2] 28)).block j (by omega)
      have h4 := HGA.out.block j (by simp; omega) (fun e => by simp [Value.ownBlock] at e; omega)
      have h5 := ((Below.refl w2.heap.size w2).drew.alloc (Nat.le_refl _) (.cells #[] 9)).block j (by omega)
      have h6 : w2.heap[j]? = w1.heap[j]? := by rw [hW2]; exact Below.heap_setCell w1 ⟨bk, 6, none⟩ _ j hjb
      have h7 := HG1.out.block j (by simp; omega) (fun e => hjv tv (by simp) e.symm)
      have h8 := ((Below.refl w.heap.size w).alloc (Nat.le_refl _) (.cells #[.slice (some ⟨gv, 0, none⟩) r.length capv] 28)).block j hj
      exact h1.trans (h2.trans (h3.trans (h4.trans (h5.trans (h6.trans (h7.trans h8))))))
end Go.Proofs.YtappphffbnkloaaGreatDoor.Sht
set_option linter.unusedVariables false
set_option linter.unusedSimpArgs false
namespace Go.Proofs.YtappphffbnkloaaGreatDoor.Sht
variable {s : RS} {N : Nat}
theorem RS.Bd.mono {M : Nat} (h : s.Bd N) (k : N ≤ M) : s.Bd M :=
  ⟨Nat.le_trans h.line k, Nat.le_trans h.col k, Nat.le_trans h.all k, Nat.le_trans h.ml k, Nat.le_trans h.mc k, Nat.le_trans h.cell k, Nat.le_trans h.row k, Nat.le_trans h.rows k, Nat.le_trans h.count k, Nat.le_trans h.width k⟩
theorem bdFail (h : s.Bd N) (l c e : Nat) : (s.fail l c e).Bd N := ⟨h.line, h.col, h.all, h.ml, h.mc, h.cell, h.row, h.rows, h.count, h.width⟩
theorem bdTurn (h : s.Bd N) (m : Md) : (s.turn m).Bd N := ⟨h.line, h.col, h.all, h.ml, h.mc, h.cell, h.row, h.rows, h.count, h.width⟩
theorem bdMark (h : s.Bd N) : s.mark.Bd N := ⟨h.line, h.col, h.all, h.line, h.col, h.cell, h.row, h.rows, h.count, h.width⟩
theorem bdEndCell (h : s.Bd N) : s.endCell.Bd (N + 1) := by
  have h' := h.mono (Nat.le_succ N)
  exact ⟨h'.line, h'.col, h'.all, h'.ml, h'.mc, Nat.zero_le _, by have := h.row; simp [RS.endCell]; omega, h'.rows, h'.count, h'.width⟩
theorem bdWiden (h : s.Bd N) : s.widen.Bd N := by
  unfold RS.widen
  split
  · exact ⟨h.line, h.col, h.all, h.ml, h.mc, h.cell, h.row, h.rows, h.count, h.row⟩
  · exact h
theorem bdEndRow (h : s.Bd N) (l c : Nat) : (s.endRow l c).Bd (N + 1) := by
  have h1 := bdWiden h
  have h' := h1.mono (Nat.le_succ N)
  unfold RS.endRow
  split
  · exact ⟨h'.line, h'.col, h'.all, h'.ml, h'.mc, h'.cell, Nat.zero_le _, by have := h1.rows; simp [RS.newRow]; omega, by have := h1.count; simp [RS.newRow]; omega, h'.width⟩
  · exact bdFail h' _ _ _
theorem bdPut (h : s.Bd N) (x : UInt8) : (s.put x).Bd (N + 1) := by
  have h' := h.mono (Nat.le_succ N)
  have hc : (s.cell ++ [x]).length ≤ N + 1 := by have := h.cell; simp; omega
  unfold RS.put
  split
  · exact bdFail (s := { s with cell := s.cell ++ [x] }) ⟨h'.line, h'.col, h'.all, h'.ml, h'.mc, hc, h'.row, h'.rows, h'.count, h'.width⟩ _ _ _
  · exact ⟨h'.line, h'.col, h'.all, h'.ml, h'.mc, hc, h'.row, h'.rows, h'.count, h'.width⟩
theorem bdComma (h : s.Bd N) : s.comma.Bd (N + 1) := by
  unfold RS.comma
  refine bdTurn ?_ _
  split
  · exact bdFail (bdEndCell h) _ _ _
  · exact bdEndCell h
theorem bdCr (h : s.Bd N) : s.cr.Bd (N + 1) := bdTurn (bdMark (bdEndCell h)) _
theorem bdPlain (h : s.Bd N) (x : UInt8) : (s.plain x).Bd (N + 1) := by
  have h' := h.mono (Nat.le_succ N)
  unfold RS.plain
  repeat' split
  · exact bdComma h
  · exact bdCr h
  · exact bdFail h' _ _ _
  · exact bdFail h' _ _ _
  · exact bdFail h' _ _ _
  · exact bdPut h x
theorem bdQuoted (h : s.Bd N) (x : UInt8) : (s.quoted x).Bd (N + 1) := by
  have h' := h.mono (Nat.le_succ N)
  unfold RS.quoted
  repeat' split
  · exact bdTurn h' _
  · exact bdFail h' _ _ _
  · exact bdPut h x
theorem bdClosed (h : s.Bd N) (x : UInt8) : (s.closed x).Bd (N + 1) := by
  have h' := h.mono (Nat.le_succ N)
  unfold RS.closed
  repeat' split
  · exact bdPut (bdTurn h _) x
  · exact bdComma h
  · exact bdCr h
  · exact bdFail h' _ _ _
  · exact bdFail h' _ _ _
theorem bdBack (h : s.Bd N) (x : UInt8) : (s.back x).Bd (N + 1) := by
  unfold RS.back
  split
  · exact bdEndRow h _ _
  · exact bdFail (h.mono (Nat.le_succ N)) _ _ _
theorem bdStart (h : s.Bd N) (x : UInt8) : (s.start x).Bd (N + 1) := by
  unfold RS.start
  split
  · exact bdTurn (bdMark (h.mono (Nat.le_succ N))) _
  · exact bdPlain (bdTurn h _) x
theorem bdFresh (h : s.Bd N) (x : UInt8) : (s.fresh x).Bd (N + 1) := by
  unfold RS.fresh
  split
  · exact bdFail (h.mono (Nat.le_succ N)) _ _ _
  · exact bdStart h x
theorem next_cases (s : RS) (x : UInt8) : (s.md = .fresh ∧ s.next x = s.fresh x) ∨ (s.md = .start ∧ s.next x = s.start x) ∨ (s.md = .plain ∧ s.next x = s.plain x) ∨ (s.md = .quoted ∧ s.next x = s.quoted x) ∨ (s.md = .closed ∧ s.next x = s.closed x) ∨ (s.md = .back ∧ s.next x = s.back x) := by
  cases hm : s.md <;> simp [RS.next, hm]
theorem bdNext (h : s.Bd N) (x : UInt8) : (s.next x).Bd (N + 1) := by
  rcases next_cases s x with ⟨_, e⟩ | ⟨_, e⟩ | ⟨_, e⟩ | ⟨_, e⟩ | ⟨_, e⟩ | ⟨_, e⟩ <;> rw [e]
  · exact bdFresh h x
  · exact bdStart h x
  · exact bdPlain h x
  · exact bdQuoted h x
  · exact bdClosed h x
  · exact bdBack h x
theorem bdOn (h : s.Bd N) (x : UInt8) : (s.on x).Bd (N + 1) := by
  have h' := h.mono (Nat.le_succ N)
  unfold RS.on
  split
  · exact ⟨by have := h.line; simp; omega, Nat.zero_le _, h'.all, h'.ml, h'.mc, h'.cell, h'.row, h'.rows, h'.count, h'.width⟩
  · exact ⟨h'.line, by have := h.col; simp; omega, h'.all, h'.ml, h'.mc, h'.cell, h'.row, h'.rows, h'.count, h'.width⟩
/-- what a byte never turns -/
structure Kept (s s' : RS) : Prop where
  line : s'.line = s.line
  col : s'.col = s.col
  all : s'.all = s.all
theorem Kept.refl (s : RS) : Kept s s := ⟨rfl, rfl, rfl⟩
theorem Kept.trans {a b c : RS} (h : Kept a b) (k : Kept b c) : Kept a c := ⟨k.line.trans h.line, k.col.trans h.col, k.all.trans h.all⟩
theorem kEndRow (s : RS) (l c : Nat) : Kept s (s.endRow l c) := by
  unfold RS.endRow RS.widen
  repeat' split
  all_goals exact ⟨rfl, rfl, rfl⟩
theorem kPut (s : RS) (x : UInt8) : Kept s (s.put x) := by
  unfold RS.put
  split <;> exact ⟨rfl, rfl, rfl⟩
theorem kComma (s : RS) : Kept s s.comma := by
  unfold RS.comma
  split <;> exact ⟨rfl, rfl, rfl⟩
theorem kPlain (s : RS) (x : UInt8) : Kept s (s.plain x) := by
  unfold RS.plain
  repeat' split
  all_goals first
    | exact kComma s
    | exact kPut s x
    | exact ⟨rfl, rfl, rfl⟩
theorem kNext (s : RS) (x : UInt8) : Kept s (s.next x) := by
  rcases next_cases s x with ⟨_, e⟩ | ⟨_, e⟩ | ⟨_, e⟩ | ⟨_, e⟩ | ⟨_, e⟩ | ⟨_, e⟩ <;> rw [e]
  · unfold RS.fresh RS.start
    repeat' split
    all_goals first
      | exact (⟨rfl, rfl, rfl⟩ : Kept s (s.turn .plain)).trans (kPlain _ x)
      | exact ⟨rfl, rfl, rfl⟩
  · unfold RS.start
    split
    · exact ⟨rfl, rfl, rfl⟩
    · exact (⟨rfl, rfl, rfl⟩ : Kept s (s.turn .plain)).trans (kPlain _ x)
  · exact kPlain s x
  · unfold RS.quoted
    repeat' split
    all_goals first
      | exact kPut s x
      | exact ⟨rfl, rfl, rfl⟩
  · unfold RS.closed
    repeat' split
    all_goals first
      | exact (⟨rfl, rfl, rfl⟩ : Kept s (s.turn .quoted)).trans (kPut _ x)
      | exact kComma s
      | exact ⟨rfl, rfl, rfl⟩
  · unfold RS.back
    split
    · exact kEndRow s _ _
    · exact ⟨rfl, rfl, rfl⟩
/-- behind a CR that ended a cell a row has one -/
def RS.Bk (s : RS) : Prop := s.md = .back → 0 < s.row.length
theorem bkTurn (s : RS) (m : Md) (h : m ≠ .back) : (s.turn m).Bk := fun e => absurd e h
theorem bkCr (s : RS) : s.cr.Bk := fun _ => by show 0 < (s.row ++ [s.cell]).length; simp
theorem bkPut (h : s.Bk) (x : UInt8) : (s.put x).Bk := by
  unfold RS.put
  split <;> exact h
theorem bkPlain (h : s.Bk) (x : UInt8) : (s.plain x).Bk := by
  unfold RS.plain
  repeat' split
  all_goals first
    | exact h
    | exact bkPut h x
    | exact bkCr s
    | exact bkTurn _ _ (by intro e; cases e)
theorem bkNext (h : s.Bk) (x : UInt8) (hf : (s.next x).fault = none) : (s.next x).Bk := by
  revert hf
  rcases next_cases s x with ⟨_, e⟩ | ⟨_, e⟩ | ⟨_, e⟩ | ⟨_, e⟩ | ⟨_, e⟩ | ⟨_, e⟩ <;> rw [e]
  · unfold RS.fresh RS.start
    intro hf
    repeat' split
    all_goals first
      | exact h
      | exact bkPlain (bkTurn _ .plain (by intro e; cases e)) x
      | exact bkTurn _ _ (by intro e; cases e)
  · unfold RS.start
    intro hf
    split
    · exact bkTurn _ _ (by intro e; cases e)
    · exact bkPlain (bkTurn _ _ (by intro e; cases e)) x
  · intro hf; exact bkPlain h x
  · unfold RS.quoted
    intro hf
    repeat' split
    all_goals first
      | exact h
      | exact bkPut h x
      | exact bkTurn _ _ (by intro e; cases e)
  · unfold RS.closed
    intro hf
    repeat' split
    all_goals first
      | exact h
      | exact bkCr s
      | exact bkPut (bkTurn _ .quoted (by intro e; cases e)) x
      | exact bkTurn _ _ (by intro e; cases e)
  · unfold RS.back RS.endRow
    intro hf
    split
    · rename_i h1
      rw [if_pos h1] at hf
      split
      · exact fun e => by cases e
      · rename_i h2
        rw [if_neg h2] at hf
        cases hf
    · rename_i h1
      rw [if_neg h1] at hf
      cases hf
/-- what holds of a reader as long as there is no fault -/
structure RS.Inv (s : RS) : Prop where
  all : s.all ≤ 262144
  bd : s.Bd (8 * s.all + 8)
  bk : s.Bk
theorem inv_new : RS.new.Inv := ⟨by decide, ⟨by decide, by decide, by decide, by decide, by decide, by decide, by decide, by decide, by decide, by decide⟩, fun e => by cases e⟩
theorem step_on (hn : s.all ≠ 262144) (x : UInt8) : s.step x = (RS.next { s with all := s.all + 1 } x).on x := by rw [RS.step, if_neg hn]
theorem bump (h : s.Inv) : RS.Bd (8 * s.all + 9) { s with all := s.all + 1 } := by
  have h' := h.bd.mono (show 8 * s.all + 8 ≤ 8 * s.all + 9 by omega)
  exact ⟨h'.line, h'.col, by simp; omega, h'.ml, h'.mc, h'.cell, h'.row, h'.rows, h'.count, h'.width⟩
theorem on_fault (s : RS) (x : UInt8) : (s.on x).fault = s.fault := by unfold RS.on; split <;> rfl
theorem inv_step (h : s.Inv) (x : UInt8) (hf : (s.step x).fault = none) : (s.step x).Inv := by
  by_cases hn : s.all = 262144
  · rw [RS.step, if_pos hn] at hf; cases hf
  · rw [step_on hn] at hf ⊢
    rw [on_fault] at hf
    have hk := kNext { s with all := s.all + 1 } x
    have ha : ((RS.next { s with all := s.all + 1 } x).on x).all = s.all + 1 := by
      unfold RS.on
      split <;> exact hk.all
    refine ⟨by rw [ha]; have := h.all; omega, ?_, ?_⟩
    · rw [ha]
      exact (bdOn (bdNext (bump h) x) x).mono (by omega)
    · have := bkNext (s := { s with all := s.all + 1 }) h.bk x hf
      intro e
      have e' : (RS.next { s with all := s.all + 1 } x).md = .back := by unfold RS.on at e; split at e <;> exact e
      have := this e'
      unfold RS.on
      split <;> exact this
theorem feed_stop (h : s.fault ≠ none) : ∀ l, s.feed l = s
  | [] => rfl
  | x :: l => by rw [RS.feed, if_neg h]
theorem feed_cons (h : s.fault = none) (x : UInt8) (l : List UInt8) : s.feed (x :: l) = (s.step x).feed l := by rw [RS.feed, if_pos h]
theorem feed_app : ∀ (l m : List UInt8) (s : RS), s.feed (l ++ m) = (s.feed l).feed m
  | [], m, s => rfl
  | x :: l, m, s => by
    by_cases h : s.fault = none
    · rw [List.cons_append, feed_cons h, feed_cons h, feed_app l m]
    · rw [feed_stop h, feed_stop h, feed_stop h]
theorem feed_snoc (s : RS) (l : List UInt8) (x : UInt8) (h : (s.feed l).fault = none) : s.feed (l ++ [x]) = (s.feed l).step x := by rw [feed_app, feed_cons h]; rfl
/-- a Close: what the text's end makes -/
def RS.fin (s : RS) : RS := if s.fault = none then s.over else s
abbrev Rows := List (List (List UInt8))
/-- 'Inv' as long as there is no fault -/
def RS.Live (s : RS) : Prop := s.fault = none → s.Inv
theorem live_feed : ∀ (l : List UInt8) (s : RS), s.Live → (s.feed l).Live
  | [], s, h => h
  | x :: l, s, h => by
    by_cases hf : s.fault = none
    · rw [feed_cons hf]
      exact live_feed l _ (fun e => inv_step (h hf) x e)
    · rw [feed_stop hf]; exact h
end Go.Proofs.YtappphffbnkloaaGreatDoor.Sht
set_option linter.unusedVariables false
set_option linter.unusedSimpArgs false
namespace Go.Proofs.YtappphffbnkloaaGreatDoor.Sht
open Go Go.RowKit Go.Proofs.YtappphffbnkloaaGreatDoorW.PrintWords Go.Proofs.YtappphffbnkloaaGreatDoor.GS
def Ev {α : Type} (g : Nat → Option α) (r : α) : Prop := ∃ K, ∀ k, K ≤ k → g k = some r
section
variable {α β : Type} {r : α}
theorem Ev.here : Ev (fun _ => some r) r := ⟨0, fun _ _ => rfl⟩
theorem Ev.const {o : Option α} (h : o = some r) : Ev (fun _ => o) r := ⟨0, fun _ _ => h⟩
theorem Ev.succ {f body : Nat → Option α} (h : ∀ k, f (k + 1) = body k) (hb : Ev body r) : Ev f r := by
  obtain ⟨K, hK⟩ := hb
  refine ⟨K + 1, fun k hk => ?_⟩
  obtain ⟨m, rfl⟩ : ∃ m, k = m + 1 := ⟨k - 1, by omega⟩
  rw [h]
  exact hK m (by omega)
theorem Ev.pos {c : Prop} [Decidable c] {a b : Nat → Option α} (hc : c) (h : Ev a r) : Ev (fun k => if c then a k else b k) r := by
  obtain ⟨K, hK⟩ := h
  exact ⟨K, fun k hk => by show (if c then a k else b k) = some r; rw [if_pos hc]; exact hK k hk⟩
theorem Ev.neg {c : Prop} [Decidable c] {a b : Nat → Option α} (hc : ¬ c) (h : Ev b r) : Ev (fun k => if c then a k else b k) r := by
  obtain ⟨K, hK⟩ := h
  exact ⟨K, fun k hk => by show (if c then a k else b k) = some r; rw [if_neg hc]; exact hK k hk⟩
theorem Ev.bind {g : Nat → Option β} {h : Nat → β → Option α} {x : β} (h1 : Ev g x) (h2 : Ev (fun k => h k x) r) : Ev (fun k => (g k).bind (h k)) r := by
  obtain ⟨K1, k1⟩ := h1
  obtain ⟨K2, k2⟩ := h2
  exact ⟨max K1 K2, fun k hk => by show (g k).bind (h k) = some r; rw [k1 k (by omega)]; exact k2 k (by omega)⟩
theorem Ev.bind1 {o : Option β} {h : Nat → β → Option α} {x : β} (h1 : o = some x) (h2 : Ev (fun k => h k x) r) : Ev (fun k => o.bind (h k)) r := by
  obtain ⟨K2, k2⟩ := h2
  exact ⟨K2, fun k hk => by show o.bind (h k) = some r; rw [h1]; exact k2 k hk⟩
theorem Ev.of {g h : Nat → Option α} (e : ∀ k, g k = h k) (k : Ev h r) : Ev g r := by
  obtain ⟨K, hK⟩ := k
  exact ⟨K, fun k hk => (e k).trans (hK k hk)⟩
end
def lcS (q : Nat × Nat) (x : UInt8) : Nat × Nat := if x = 10 then (q.1 + 1, 0) else (q.1, q.2 + 1)
def lc (l : List UInt8) : Nat × Nat := l.foldl lcS (1, 0)
theorem lc_snoc (l : List UInt8) (x : UInt8) : lc (l ++ [x]) = lcS (lc l) x := by simp [lc]
theorem take_snoc {l : List UInt8} {p : Nat} (h : p < l.length) : l.take (p + 1) = l.take p ++ [l[p]] := by rw [List.take_succ_eq_append_getElem h]
theorem lc_bd (l : List UInt8) : (lc l).1 ≤ l.length + 1 ∧ (lc l).2 ≤ l.length := by
  have h : ∀ (l : List UInt8) (q : Nat × Nat) (n : Nat), q.1 ≤ n + 1 → q.2 ≤ n → (l.foldl lcS q).1 ≤ n + l.length + 1 ∧ (l.foldl lcS q).2 ≤ n + l.length := by
    intro l
    induction l with
    | nil => intro q n h1 h2; exact ⟨by simpa using h1, by simpa using h2⟩
    | cons x l ih =>
      intro q n h1 h2
      have := ih (lcS q x) (n + 1) (by unfold lcS; split <;> simp <;> omega) (by unfold lcS; split <;> simp <;> omega)
      simp only [List.foldl_cons, List.length_cons]
      omega
  have := h l (1, 0) 0 (by simp) (by simp)
  unfold lc
  omega
section
variable (t : ByteArray)
abbrev L8 : List UInt8 := t.data.toList
theorem L8_len : (L8 t).length = t.size := by rw [Array.length_toList]; rfl
theorem bt_eq (p : Nat) (h : p < (L8 t).length) : bt t (p : Int) = ((L8 t)[p].toNat : Int) := by
  have h' : p < t.size := by rw [← L8_len]; exact h
  have : ((p : Int)).toNat = p := by simp
  unfold bt
  simp only [this, h', dif_pos]
  rfl
theorem bt_is (p : Nat) (h : p < (L8 t).length) (k : UInt8) : bt t (p : Int) = (k.toNat : Int) ↔ (L8 t)[p] = k := by
  rw [bt_eq t p h]
  constructor
  · intro e; exact UInt8.toNat_inj.1 (by omega)
  · rintro rfl; rfl
theorem w1 (p : Nat) (h : p < 4611686018427387904) : wrap64 ((p : Int) + 1) = ((p + 1 : Nat) : Int) := by unfold wrap64; omega
theorem w2 (p : Nat) (h : p < 4611686018427387904) : wrap64 ((p : Int) + 2) = ((p + 2 : Nat) : Int) := by unfold wrap64; omega
/-- what 'placed' tells -/
def plc (code : Int) (q : Nat) : Int × Int × Int × Int × Int := (code, ((lc ((L8 t).take q)).1 : Int), ((lc ((L8 t).take q)).2 : Int), (q : Int), 0)
theorem placed_l (code : Int) (q : Nat) (hq : q ≤ (L8 t).length) (hs : (L8 t).length ≤ 281474976710656) : ∀ (d i : Nat), q - i = d → i ≤ q →
    Ev (fun k => larderref04_placed.l0 k t q i code ((lc ((L8 t).take i)).1 : Int) ((lc ((L8 t).take i)).2 : Int) q 0) (plc t code q) := by
  intro d
  induction d with
  | zero =>
    intro i h1 h2
    obtain rfl : i = q := by omega
    exact Ev.succ (fun k => larderref04_placed.l0.eq_2 ..) (Ev.neg (by omega) Ev.here)
  | succ d ih =>
    intro i h1 h2
    have hi : i < (L8 t).length := by omega
    have hb := lc_bd ((L8 t).take i)
    have hl : ((L8 t).take i).length ≤ i := List.length_take_le _ _
    have hsz := L8_len t
    have hr := ih (i + 1) (by omega) (by omega)
    rw [take_snoc hi, lc_snoc] at hr
    refine Ev.succ (fun k => larderref04_placed.l0.eq_2 ..) (Ev.pos (by omega) (Ev.pos (by omega) (Ev.pos (by omega) ?_)))
    by_cases hx : (L8 t)[i] = 10
    · refine Ev.pos ((bt_is t i hi 10).2 hx) ?_
      rw [w1 _ (by omega), w1 _ (by omega)]
      rw [lcS, if_pos hx] at hr
      exact hr
    · refine Ev.neg (fun e => hx ((bt_is t i hi 10).1 e)) ?_
      rw [w1 _ (by omega), w1 _ (by omega)]
      rw [lcS, if_neg hx] at hr
      exact hr
theorem placed_ev (code : Int) (q : Nat) (hq : q ≤ (L8 t).length) (hs : (L8 t).length ≤ 281474976710656) : Ev (fun k => larderref04_placed.f k t code q) (plc t code q) :=
  placed_l t code q hq hs _ 0 rfl (Nat.zero_le _)
structure Reach (s : RS) (p : Nat) : Prop where
  le : p ≤ (L8 t).length
  go : RS.new.feed (L8 t) = s.feed ((L8 t).drop p)
  all : s.all = p
  pos : (s.line, s.col) = lc ((L8 t).take p)
  ok : s.fault = none
theorem reach_new : Reach t RS.new 0 := ⟨Nat.zero_le _, rfl, rfl, rfl, rfl⟩
/-- the state that meets a byte -/
def up (s : RS) : RS := { s with all := s.all + 1 }
theorem reach_step {s : RS} {p : Nat} (hr : Reach t s p) (hp : p < (L8 t).length) (hn : (L8 t).length ≤ 262144) :
    ((RS.next (up s) (L8 t)[p]).fault = none → Reach t ((RS.next (up s) (L8 t)[p]).on (L8 t)[p]) (p + 1)) ∧
    ((RS.next (up s) (L8 t)[p]).fault ≠ none → RS.new.feed (L8 t) = (RS.next (up s) (L8 t)[p]).on (L8 t)[p]) := by
  have hg : RS.new.feed (L8 t) = ((RS.next (up s) (L8 t)[p]).on (L8 t)[p]).feed ((L8 t).drop (p + 1)) := by
    rw [hr.go, List.drop_eq_getElem_cons hp, feed_cons hr.ok, step_on (by have := hr.all; omega)]
    rfl
  have hk := kNext (up s) (L8 t)[p]
  refine ⟨fun hf => ⟨hp, hg, ?_, ?_, ?_⟩, fun hf => ?_⟩
  · unfold RS.on
    split <;> exact hk.all.trans (by show s.all + 1 = p + 1; rw [hr.all])
  · rw [take_snoc hp, lc_snoc, ← hr.pos, lcS]
    unfold RS.on
    split
    · show ((RS.next (up s) (L8 t)[p]).line + 1, 0) = (s.line + 1, 0)
      rw [hk.line]; rfl
    · show ((RS.next (up s) (L8 t)[p]).line, (RS.next (up s) (L8 t)[p]).col + 1) = (s.line, s.col + 1)
      rw [hk.line, hk.col]; rfl
  · rw [on_fault]; exact hf
  · rw [hg]
    exact feed_stop (by rw [on_fault]; exact hf) _
theorem reach_end {s : RS} (hr : Reach t s (L8 t).length) : RS.new.feed (L8 t) = s := by
  rw [hr.go, List.drop_length]; rfl
def Bad (rows : List (List (List UInt8))) (c q : Nat) : Prop :=
  q ≤ (L8 t).length ∧ (RS.new.feed (L8 t)).rows = rows ∧
  (((RS.new.feed (L8 t)).fault = some ((lc ((L8 t).take q)).1, (lc ((L8 t).take q)).2, c) ∧ c ≠ 0 ∧ c ≠ 1 ∧ (c = 3 → (∃ h : q < (L8 t).length, (L8 t)[q] = 10) ∨ q + 1 < (L8 t).length) ∧ (c = 8 → q < (L8 t).length)) ∨
   ((RS.new.feed (L8 t)).fault = none ∧ (RS.new.feed (L8 t)).fin.fault = some ((lc ((L8 t).take q)).1, (lc ((L8 t).take q)).2, c) ∧ (c = 1 ∨ (c = 3 ∧ q + 1 = (L8 t).length ∧ ∃ h : q < (L8 t).length, (L8 t)[q] ≠ 10) ∨ (c = 8 ∧ q = (L8 t).length))))
/-- what a cell, a row leave of the state -/
structure Sm (s s' : RS) : Prop where
  row : s'.row = s.row
  rows : s'.rows = s.rows
  count : s'.count = s.count
  width : s'.width = s.width
theorem Sm.refl (s : RS) : Sm s s := ⟨rfl, rfl, rfl, rfl⟩
theorem Sm.trans {a b c : RS} (h : Sm a b) (k : Sm b c) : Sm a c := ⟨k.row.trans h.row, k.rows.trans h.rows, k.count.trans h.count, k.width.trans h.width⟩
theorem on_same (s : RS) (x : UInt8) : Sm s (s.on x) ∧ (s.on x).md = s.md ∧ (s.on x).cell = s.cell ∧ (s.on x).ml = s.ml ∧ (s.on x).mc = s.mc := by
  unfold RS.on
  split <;> exact ⟨⟨rfl, rfl, rfl, rfl⟩, rfl, rfl, rfl, rfl⟩
/-- a byte that the machine refuses at its own place -/
theorem bad_at {s s1 : RS} {p c : Nat} (hr : Reach t s p) (hp : p < (L8 t).length) (hn : (L8 t).length ≤ 262144) (e : RS.next (up s) (L8 t)[p] = s1.fail s.line s.col c) (hw : s1.rows = s.rows)
    (hc : c ≠ 0 ∧ c ≠ 1 ∧ (c = 3 → (L8 t)[p] = 10)) : Bad t s.rows c p := by
  have hg := (reach_step t hr hp hn).2 (by rw [e]; intro h; cases h)
  rw [e] at hg
  refine ⟨hr.le, ?_, .inl ⟨?_, hc.1, hc.2.1, fun h => .inl ⟨hp, hc.2.2 h⟩, fun _ => hp⟩⟩
  · rw [hg, ((on_same _ _).1).rows]; exact hw
  · rw [hg, on_fault, ← hr.pos]; rfl
end
end Go.Proofs.YtappphffbnkloaaGreatDoor.Sht
set_option linter.unusedVariables false
set_option linter.unusedSimpArgs false
namespace Go.Proofs.YtappphffbnkloaaGreatDoor.Sht
open Go Go.RowKit Go.Proofs.YtappphffbnkloaaGreatDoorW.PrintWords Go.Proofs.YtappphffbnkloaaGreatDoor.GS
variable (t : ByteArray)
def tx (l : List UInt8) : ByteArray := ⟨l.toArray⟩
def nums (l : List UInt8) : List Int := l.map fun x => (x.toNat : Int)
theorem nums_len (l : List UInt8) : (nums l).length = l.length := by simp [nums]
theorem nums_tx (l : List UInt8) : strOfNums (nums l) = tx l := by
  show (⟨((l.map fun x => (x.toNat : Int)).map fun n => UInt8.ofNat n.toNat).toArray⟩ : ByteArray) = ⟨l.toArray⟩
  rw [List.map_map, show ((fun n : Int => UInt8.ofNat n.toNat) ∘ fun x : UInt8 => (x.toNat : Int)) = id from funext fun x => by simp, List.map_id]
theorem nums_snoc (l : List UInt8) (p : Nat) (h : p < (L8 t).length) : nums l ++ [bt t (p : Int)] = nums (l ++ [(L8 t)[p]]) := by
  rw [bt_eq t p h]; simp [nums]
theorem may_eq (p : Nat) (h : p < (L8 t).length) : larderref04_may.f (bt t (p : Int)) = some (okB (L8 t)[p]) := by
  rw [bt_eq t p h]
  have e : ∀ k : UInt8, ((L8 t)[p] == k) = decide ((((L8 t)[p].toNat : Int)) = (k.toNat : Int)) := fun k => by
    rw [Bool.eq_iff_iff, beq_iff_eq, decide_eq_true_iff]
    exact ⟨fun h => by rw [h], fun h => UInt8.toNat_inj.1 (by omega)⟩
  have e1 : decide (32 ≤ (L8 t)[p]) = decide ((32 : Int) ≤ ((L8 t)[p].toNat : Int)) := by
    rw [Bool.eq_iff_iff, decide_eq_true_iff, decide_eq_true_iff, UInt8.le_iff_toNat_le]
    show 32 ≤ (L8 t)[p].toNat ↔ _
    omega
  unfold okB larderref04_may.f
  have eb : ((L8 t)[p] != 127) = !((L8 t)[p] == 127) := rfl
  rw [eb, e1, e 127, e 9, e 10, e 13]
  have c9 : ((9 : UInt8).toNat : Int) = 9 := rfl
  have c10 : ((10 : UInt8).toNat : Int) = 10 := rfl
  have c13 : ((13 : UInt8).toNat : Int) = 13 := rfl
  have c127 : ((127 : UInt8).toNat : Int) = 127 := rfl
  rw [c9, c10, c13, c127]
  generalize ((L8 t)[p].toNat : Int) = n
  by_cases h9 : n = 9
  · simp [h9]
  · by_cases h10 : n = 10
    · simp [h10]
    · by_cases h13 : n = 13
      · simp [h13]
      · by_cases h32 : (32 : Int) ≤ n
        · simp [h9, h10, h13, h32]
          exact Bool.eq_iff_iff.2 (by simp)
        · simp [h9, h10, h13, h32]
abbrev Q7 := ByteArray × Int × Int × Int × Int × Int × Int
def okQ (text : List UInt8) (q : Nat) : Q7 := (tx text, (q : Int), 0, 0, 0, 0, 0)
def badQ (c q : Nat) : Q7 := ((⟨#[]⟩ : ByteArray), 0, (plc t c q).1, (plc t c q).2.1, (plc t c q).2.2.1, (plc t c q).2.2.2.1, (plc t c q).2.2.2.2)
/-- what a quoted cell comes to -/
def QR (s : RS) (p : Nat) (r : Q7) : Prop :=
  (∃ text q s', r = okQ text q ∧ Reach t s' q ∧ Sm s s' ∧ s'.md = .closed ∧ s'.cell = text ∧ text.length ≤ 4096 ∧ p ≤ q ∧ (q = (L8 t).length ∨ ∃ h : q < (L8 t).length, (L8 t)[q] ≠ 34)) ∨
  (∃ c q, c ≠ 0 ∧ r = badQ t c q ∧ Bad t s.rows c q)
theorem QR.of {s s' : RS} {p p' : Nat} {r : Q7} (h : QR t s' p' r) (k : Sm s s') (hp : p ≤ p') : QR t s p r := by
  rcases h with ⟨text, q, s2, h1, h2, h3, h4, h5, h6, h7, h8⟩ | ⟨c, q, h1, h2, h3⟩
  · exact .inl ⟨text, q, s2, h1, h2, k.trans h3, h4, h5, h6, by omega, h8⟩
  · exact .inr ⟨c, q, h1, h2, by rw [← k.rows]; exact h3⟩
theorem quoted_l (hn : (L8 t).length ≤ 262144) (fr : Nat) (hfr : fr ≤ (L8 t).length) : ∀ (d p : Nat) (s : RS) (acc : List UInt8), (L8 t).length - p = d → Reach t s p → s.md = .quoted → s.cell = acc → acc.length ≤ 4096 → (s.ml, s.mc) = lc ((L8 t).take fr) →
    ∃ r, Ev (fun k => larderref04_quoted.l0 k t fr (nums acc) p) r ∧ QR t s p r := by
  intro d
  induction d using Nat.strongRecOn with
  | ind d ih =>
    have hsz := L8_len t
    -- a byte is laid into the cell
    have inner : ∀ (p : Nat) (s sx : RS) (acc : List UInt8), (L8 t).length - p ≤ d → Reach t s p → (hp : p < (L8 t).length) → okB (L8 t)[p] = true → RS.next (up s) (L8 t)[p] = sx.put (L8 t)[p] → sx.md = .quoted → sx.cell = acc → acc.length ≤ 4096 →
        Sm s sx → sx.line = s.line → sx.col = s.col → (sx.ml, sx.mc) = lc ((L8 t).take fr) → sx.fault = none → ∃ r, Ev (fun k => larderref04_quoted.j1 k t fr (nums acc) p) r ∧ QR t s p r := by
      intro p s sx acc hd hr hp hk e m1 m2 hl sm c1 c2 c3 c4
      have go : ∀ {r : Q7}, Ev (fun k => if (((nums acc).length : Nat) : Int) = 4096 then ((larderref04_placed.f k t 5 p).bind fun bt640108 => (some ((⟨#[]⟩ : ByteArray), 0, bt640108.1, bt640108.2.1, bt640108.2.2.1, bt640108.2.2.2.1, bt640108.2.2.2.2))) else (if (nums acc).length < 140737488355328 then (larderref04_quoted.l0 k t fr (nums acc ++ [bt t p]) (wrap64 (p + 1))) else (none))) r → Ev (fun k => larderref04_quoted.j1 k t fr (nums acc) p) r := by
        intro r h
        refine Ev.succ (fun k => larderref04_quoted.j1.eq_2 ..) (Ev.pos (by omega) (Ev.pos (by omega) (Ev.bind1 (may_eq t p hp) ?_)))
        rw [hk]
        exact Ev.pos rfl h
      by_cases h4 : acc.length = 4096
      · refine ⟨badQ t 5 p, go (Ev.pos (by rw [nums_len]; omega) (Ev.bind (placed_ev t 5 p (Nat.le_of_lt hp) (by omega)) Ev.here)), .inr ⟨5, p, by omega, rfl, ?_⟩⟩
        have e2 : RS.next (up s) (L8 t)[p] = RS.fail { sx with cell := sx.cell ++ [(L8 t)[p]] } s.line s.col 5 := by
          rw [e, RS.put, if_pos (by rw [m2]; simp; omega), c1, c2]
        exact bad_at t hr hp hn e2 sm.rows ⟨by omega, by omega, by omega⟩
      · have e2 : RS.next (up s) (L8 t)[p] = { sx with cell := sx.cell ++ [(L8 t)[p]] } := by rw [e, RS.put, if_neg (by rw [m2]; simp; omega)]
        have hs := (reach_step t hr hp hn).1 (by rw [e2]; exact c4)
        rw [e2] at hs
        obtain ⟨o1, o2, o3, o4, o5⟩ := on_same { sx with cell := sx.cell ++ [(L8 t)[p]] } (L8 t)[p]
        obtain ⟨r, hr1, hr2⟩ := ih ((L8 t).length - (p + 1)) (by omega) (p + 1) _ (acc ++ [(L8 t)[p]]) rfl hs (o2.trans m1) (o3.trans (by rw [m2])) (by simp; omega) (by rw [o4, o5]; exact c3)
        refine ⟨r, go (Ev.neg (by rw [nums_len]; omega) (Ev.pos (by rw [nums_len]; omega) ?_)), hr2.of t (Sm.trans sm (Sm.trans (b := { sx with cell := sx.cell ++ [(L8 t)[p]] }) ⟨rfl, rfl, rfl, rfl⟩ o1)) (by omega)⟩
        rw [w1 _ (by omega), nums_snoc t acc p hp]
        exact hr1
    intro p s acc hd hr m1 m2 hl c3
    by_cases hp : p < (L8 t).length
    · by_cases hx : (L8 t)[p] = 34
      · -- a quote
        have e : RS.next (up s) (L8 t)[p] = (up s).turn .closed := by
          have : (up s).md = .quoted := m1
          rw [RS.next, this]
          show RS.quoted (up s) (L8 t)[p] = _
          rw [RS.quoted, if_pos hx]
        have hs := (reach_step t hr hp hn).1 (by rw [e]; exact hr.ok)
        rw [e] at hs
        obtain ⟨o1, o2, o3, o4, o5⟩ := on_same ((up s).turn .closed) (L8 t)[p]
        have sm : Sm s (((up s).turn .closed).on (L8 t)[p]) := Sm.trans (b := (up s).turn .closed) ⟨rfl, rfl, rfl, rfl⟩ o1
        by_cases hp1 : p + 1 < (L8 t).length
        · by_cases hy : (L8 t)[p + 1] = 34
          · obtain ⟨r, hr1, hr2⟩ := inner (p + 1) _ ((up (((up s).turn .closed).on (L8 t)[p])).turn .quoted) acc (by omega) hs hp1 (by rw [hy]; decide) (by
              have : (up (((up s).turn .closed).on (L8 t)[p])).md = .closed := o2
              rw [RS.next, this]
              show RS.closed (up (((up s).turn .closed).on (L8 t)[p])) (L8 t)[p + 1] = _
              rw [RS.closed, if_pos hy]) rfl (o3.trans m2) hl ⟨rfl, rfl, rfl, rfl⟩ rfl rfl ((Prod.ext (show _ = s.ml from o4) (show _ = s.mc from o5)).trans c3) hs.ok
            refine ⟨r, ?_, hr2.of t sm (by omega)⟩
            refine Ev.succ (fun k => larderref04_quoted.l0.eq_2 ..) (Ev.pos (by omega) (Ev.pos (by omega) (Ev.pos ((bt_is t p hp 34).2 hx) ?_)))
            rw [w1 _ (by omega)]
            refine Ev.neg (by omega) (Ev.pos (by omega) (Ev.pos (by omega) (Ev.pos ((bt_is t (p + 1) hp1 34).2 hy) hr1)))
          · refine ⟨okQ acc (p + 1), ?_, .inl ⟨acc, p + 1, _, rfl, hs, sm, o2, o3.trans m2, hl, by omega, .inr ⟨hp1, hy⟩⟩⟩
            refine Ev.succ (fun k => larderref04_quoted.l0.eq_2 ..) (Ev.pos (by omega) (Ev.pos (by omega) (Ev.pos ((bt_is t p hp 34).2 hx) ?_)))
            rw [w1 _ (by omega)]
            refine Ev.neg (by omega) (Ev.pos (by omega) (Ev.pos (by omega) (Ev.neg (fun q => hy ((bt_is t (p + 1) hp1 34).1 q)) ?_)))
            rw [nums_tx]
            exact Ev.here
        · refine ⟨okQ acc (p + 1), ?_, .inl ⟨acc, p + 1, _, rfl, hs, sm, o2, o3.trans m2, hl, by omega, .inl (by omega)⟩⟩
          refine Ev.succ (fun k => larderref04_quoted.l0.eq_2 ..) (Ev.pos (by omega) (Ev.pos (by omega) (Ev.pos ((bt_is t p hp 34).2 hx) ?_)))
          rw [w1 _ (by omega)]
          refine Ev.pos (by omega) ?_
          rw [nums_tx]
          exact Ev.here
      · have en : RS.next (up s) (L8 t)[p] = RS.quoted (up s) (L8 t)[p] := by
          have : (up s).md = .quoted := m1
          rw [RS.next, this]
        by_cases hk : okB (L8 t)[p] = false
        · refine ⟨badQ t 4 p, ?_, .inr ⟨4, p, by omega, rfl, ?_⟩⟩
          · refine Ev.succ (fun k => larderref04_quoted.l0.eq_2 ..) (Ev.pos (by omega) (Ev.pos (by omega) (Ev.neg (fun q => hx ((bt_is t p hp 34).1 q)) ?_)))
            refine Ev.succ (fun k => larderref04_quoted.j1.eq_2 ..) (Ev.pos (by omega) (Ev.pos (by omega) (Ev.bind1 (may_eq t p hp) ?_)))
            rw [hk]
            exact Ev.neg (by decide) (Ev.bind (placed_ev t 4 p (Nat.le_of_lt hp) (by omega)) Ev.here)
          · exact bad_at t (s1 := up s) hr hp hn (by rw [en, RS.quoted, if_neg hx, if_pos hk]; rfl) rfl ⟨by omega, by omega, by omega⟩
        · obtain ⟨r, hr1, hr2⟩ := inner p s (up s) acc (by omega) hr hp (by simpa using hk) (by rw [en, RS.quoted, if_neg hx, if_neg hk]) m1 m2 hl ⟨rfl, rfl, rfl, rfl⟩ rfl rfl c3 hr.ok
          exact ⟨r, Ev.succ (fun k => larderref04_quoted.l0.eq_2 ..) (Ev.pos (by omega) (Ev.pos (by omega) (Ev.neg (fun q => hx ((bt_is t p hp 34).1 q)) hr1))), hr2⟩
    · -- the text's end
      obtain rfl : p = (L8 t).length := by have := hr.le; omega
      refine ⟨badQ t 1 fr, Ev.succ (fun k => larderref04_quoted.l0.eq_2 ..) (Ev.neg (by omega) (Ev.bind (placed_ev t 1 fr hfr (by omega)) Ev.here)), .inr ⟨1, fr, by omega, rfl, hfr, ?_, .inr ⟨?_, ?_, .inl rfl⟩⟩⟩
      · rw [reach_end t hr]
      · rw [reach_end t hr]; exact hr.ok
      · rw [reach_end t hr, RS.fin, if_pos hr.ok, RS.over, m1, ← c3]; rfl
end Go.Proofs.YtappphffbnkloaaGreatDoor.Sht
set_option linter.unusedVariables false
set_option linter.unusedSimpArgs false
namespace Go.Proofs.YtappphffbnkloaaGreatDoor.Sht
open Go Go.RowKit Go.Proofs.YtappphffbnkloaaGreatDoorW.PrintWords Go.Proofs.YtappphffbnkloaaGreatDoor.GS
variable (t : ByteArray)
/-- a cell may begin here -/
def Beg (s : RS) (p : Nat) : Prop := s.md = .start ∨ (s.md = .fresh ∧ s.count ≠ 4096 ∧ p < (L8 t).length)
/-- a cell may end here -/
def Cd (s : RS) (q : Nat) : Prop := s.md = .closed ∨ s.md = .plain ∨ s.md = .start ∨ (s.md = .fresh ∧ s.count ≠ 4096 ∧ q < (L8 t).length)
theorem next_beg {s : RS} {p : Nat} (h : Beg t s p) (x : UInt8) : RS.next (up s) x = RS.start (up s) x := by
  rcases h with h | ⟨h, h2, _⟩
  · have : (up s).md = .start := h
    rw [RS.next, this]
  · have : (up s).md = .fresh := h
    rw [RS.next, this]
    show RS.fresh (up s) x = _
    rw [RS.fresh, if_neg (show ¬ (up s).count = 4096 from h2)]
theorem comma_turn (s : RS) (m : Md) : (s.turn m).comma = s.comma := by
  unfold RS.comma
  by_cases h : s.endCell.row.length = 64
  · rw [if_pos h, if_pos (show (s.turn m).endCell.row.length = 64 from h)]; rfl
  · rw [if_neg h, if_neg (show ¬ (s.turn m).endCell.row.length = 64 from h)]; rfl
theorem next_comma {s : RS} {q : Nat} (h : Cd t s q) (x : UInt8) (hx : x = 44) : RS.next (up s) x = (up s).comma := by
  rcases h with h | h | h | h
  · have : (up s).md = .closed := h
    rw [RS.next, this]
    show RS.closed (up s) x = _
    rw [RS.closed, if_neg (by rw [hx]; decide), if_pos hx]
  · have : (up s).md = .plain := h
    rw [RS.next, this]
    show RS.plain (up s) x = _
    rw [RS.plain, if_pos hx]
  · rw [next_beg t (p := q) (.inl h), RS.start, if_neg (by rw [hx]; decide)]
    rw [RS.plain, if_pos hx, comma_turn]
  · rw [next_beg t (p := q) (.inr h), RS.start, if_neg (by rw [hx]; decide)]
    rw [RS.plain, if_pos hx, comma_turn]
theorem next_cr {s : RS} {q : Nat} (h : Cd t s q) (x : UInt8) (hx : x = 13) : RS.next (up s) x = (up s).cr := by
  rcases h with h | h | h | h
  · have : (up s).md = .closed := h
    rw [RS.next, this]
    show RS.closed (up s) x = _
    rw [RS.closed, if_neg (by rw [hx]; decide), if_neg (by rw [hx]; decide), if_pos hx]
  · have : (up s).md = .plain := h
    rw [RS.next, this]
    show RS.plain (up s) x = _
    rw [RS.plain, if_neg (by rw [hx]; decide), if_pos hx]
  · rw [next_beg t (p := q) (.inl h), RS.start, if_neg (by rw [hx]; decide)]
    rw [RS.plain, if_neg (by rw [hx]; decide), if_pos hx]; rfl
  · rw [next_beg t (p := q) (.inr h), RS.start, if_neg (by rw [hx]; decide)]
    rw [RS.plain, if_neg (by rw [hx]; decide), if_pos hx]; rfl
/-- what a cell comes to -/
def CR (s : RS) (p : Nat) (r : Q7) : Prop :=
  (∃ text q s', r = okQ text q ∧ Reach t s' q ∧ Sm s s' ∧ Cd t s' q ∧ s'.cell = text ∧ text.length ≤ 4096 ∧ p ≤ q ∧ (q = (L8 t).length ∨ ∃ h : q < (L8 t).length, (L8 t)[q] = 44 ∨ (L8 t)[q] = 13)) ∨
  (∃ c q, c ≠ 0 ∧ r = badQ t c q ∧ Bad t s.rows c q)
theorem CR.of {s s' : RS} {p p' : Nat} {r : Q7} (h : CR t s' p' r) (k : Sm s s') (hp : p ≤ p') : CR t s p r := by
  rcases h with ⟨text, q, s2, h1, h2, h3, h4, h5, h6, h7, h8⟩ | ⟨c, q, h1, h2, h3⟩
  · exact .inl ⟨text, q, s2, h1, h2, k.trans h3, h4, h5, h6, by omega, h8⟩
  · exact .inr ⟨c, q, h1, h2, by rw [← k.rows]; exact h3⟩
theorem extract_tx (p q : Nat) (hpq : p ≤ q) (hq : q ≤ (L8 t).length) : t.extract ((p : Int)).toNat ((q : Int)).toNat = tx (((L8 t).take q).drop p) := by
  have e1 : ((p : Int)).toNat = p := by simp
  have e2 : ((q : Int)).toNat = q := by simp
  rw [e1, e2]
  have hd : (t.extract p q).data = t.data.extract p q := by simp
  have : t.extract p q = ⟨t.data.extract p q⟩ := by rw [← hd]
  rw [this, tx]
  congr 1
  apply Array.ext'
  simp [List.take_drop, Nat.add_sub_cancel' hpq]
theorem plain_l (hn : (L8 t).length ≤ 262144) (fr : Nat) : ∀ (d q : Nat) (s : RS), (L8 t).length - q = d → Reach t s q → fr ≤ q → q - fr ≤ 4096 → s.cell = ((L8 t).take q).drop fr → (s.md = .plain ∨ (Beg t s q ∧ ∀ h : q < (L8 t).length, (L8 t)[q] ≠ 34)) →
    ∃ r, Ev (fun k => larderref04_cell.l0 k t fr q) r ∧ CR t s q r := by
  intro d
  induction d with
  | zero =>
    intro q s hd hr hfq hl hc hm
    have hsz := L8_len t
    have hq : q = (L8 t).length := by have := hr.le; omega
    have hcd : Cd t s q := by
      rcases hm with h | ⟨h | h, _⟩
      · exact .inr (.inl h)
      · exact .inr (.inr (.inl h))
      · exact .inr (.inr (.inr h))
    refine ⟨okQ (((L8 t).take q).drop fr) q, ?_, .inl ⟨_, q, s, rfl, hr, Sm.refl s, hcd, hc, by simp; omega, Nat.le_refl _, .inl hq⟩⟩
    refine Ev.succ (fun k => larderref04_cell.l0.eq_2 ..) (Ev.neg (by omega) (Ev.succ (fun k => larderref04_cell.j3.eq_2 ..) (Ev.neg (by decide) (Ev.pos (by omega) (Ev.pos (by omega) (Ev.pos (by omega) ?_))))))
    rw [extract_tx t fr q hfq hr.le]
    exact Ev.here
  | succ d ih =>
    intro q s hd hr hfq hl hc hm
    have hsz := L8_len t
    have hq : q < (L8 t).length := by omega
    have hcd : Cd t s q := by
      rcases hm with h | ⟨h | h, _⟩
      · exact .inr (.inl h)
      · exact .inr (.inr (.inl h))
      · exact .inr (.inr (.inr h))
    have hnx : (L8 t)[q] ≠ 34 ∨ s.md = .plain := by
      rcases hm with h | ⟨_, h⟩
      · exact .inr h
      · exact .inl (h hq)
    have hnext : RS.next (up s) (L8 t)[q] = ((up s).turn .plain).plain (L8 t)[q] := by
      rcases hm with h | ⟨h, h2⟩
      · have h' : (up s).md = .plain := h
        have e2 : (up s).turn .plain = up s := by
          have : s.turn .plain = s := by rw [RS.turn, ← h]
          show up (s.turn .plain) = up s
          rw [this]
        rw [RS.next, h', e2]
      · rw [next_beg t h, RS.start, if_neg (h2 hq)]
    have done : ((L8 t)[q] = 44 ∨ (L8 t)[q] = 13) → ∃ r, Ev (fun k => larderref04_cell.l0 k t fr q) r ∧ CR t s q r := by
      intro hx
      refine ⟨okQ (((L8 t).take q).drop fr) q, ?_, .inl ⟨_, q, s, rfl, hr, Sm.refl s, hcd, hc, by simp; omega, Nat.le_refl _, .inr ⟨hq, hx⟩⟩⟩
      refine Ev.succ (fun k => larderref04_cell.l0.eq_2 ..) (Ev.pos (by omega) (Ev.pos (by omega) ?_))
      have tail : Ev (fun k => larderref04_cell.j3 k t fr q false) (okQ (((L8 t).take q).drop fr) q) := by
        refine Ev.succ (fun k => larderref04_cell.j3.eq_2 ..) (Ev.neg (by decide) (Ev.pos (by omega) (Ev.pos (by omega) (Ev.pos (by omega) ?_))))
        rw [extract_tx t fr q hfq hr.le]
        exact Ev.here
      by_cases h44 : (L8 t)[q] = 44
      · exact Ev.pos ((bt_is t q hq 44).2 h44) tail
      · refine Ev.neg (fun e => h44 ((bt_is t q hq 44).1 e)) ?_
        have h13 : (L8 t)[q] = 13 := by rcases hx with h | h; exact absurd h h44; exact h
        have e : (bt t (q : Int) != 13) = false := by rw [(bt_is t q hq 13).2 h13]; rfl
        rw [e]
        exact tail
    by_cases h44 : (L8 t)[q] = 44
    · exact done (.inl h44)
    by_cases h13 : (L8 t)[q] = 13
    · exact done (.inr h13)
    have go : ∀ {r : Q7}, Ev (fun k => (if (bt t (q : Int)) = 10 then ((larderref04_placed.f k t 3 q).bind fun bt600120 => (some ((⟨#[]⟩ : ByteArray), 0, bt600120.1, bt600120.2.1, bt600120.2.2.1, bt600120.2.2.2.1, bt600120.2.2.2.2))) else (if (bt t (q : Int)) = 34 then ((larderref04_placed.f k t 2 q).bind fun bt600125 => (some ((⟨#[]⟩ : ByteArray), 0, bt600125.1, bt600125.2.1, bt600125.2.2.1, bt600125.2.2.2.1, bt600125.2.2.2.2))) else (if (bt t (q : Int)) = 9 then (larderref04_cell.j4 k t fr q true) else ((larderref04_may.f (bt t (q : Int))).bind fun t600130 => (larderref04_cell.j4 k t fr q (!t600130))))))) r → Ev (fun k => larderref04_cell.l0 k t fr q) r := by
      intro r h
      refine Ev.succ (fun k => larderref04_cell.l0.eq_2 ..) (Ev.pos (by omega) (Ev.pos (by omega) (Ev.neg (fun e => h44 ((bt_is t q hq 44).1 e)) ?_)))
      have e : (bt t (q : Int) != 13) = true := by
        rw [bne, Bool.not_eq_true', beq_eq_false_iff_ne]
        exact fun e => h13 ((bt_is t q hq 13).1 e)
      rw [e]
      exact Ev.succ (fun k => larderref04_cell.j3.eq_2 ..) (Ev.pos rfl (Ev.pos (by omega) (Ev.pos (by omega) h)))
    by_cases h10 : (L8 t)[q] = 10
    · refine ⟨badQ t 3 q, go (Ev.pos ((bt_is t q hq 10).2 h10) (Ev.bind (placed_ev t 3 q hr.le (by omega)) Ev.here)), .inr ⟨3, q, by omega, rfl, bad_at t (s1 := (up s).turn .plain) hr hq hn ?_ rfl ⟨by omega, by omega, fun _ => h10⟩⟩⟩
      rw [hnext, RS.plain, if_neg h44, if_neg h13, if_pos h10]; rfl
    by_cases h34 : (L8 t)[q] = 34
    · refine ⟨badQ t 2 q, go (Ev.neg (fun e => h10 ((bt_is t q hq 10).1 e)) (Ev.pos ((bt_is t q hq 34).2 h34) (Ev.bind (placed_ev t 2 q hr.le (by omega)) Ev.here))), .inr ⟨2, q, by omega, rfl, bad_at t (s1 := (up s).turn .plain) hr hq hn ?_ rfl ⟨by omega, by omega, by omega⟩⟩⟩
      rw [hnext, RS.plain, if_neg h44, if_neg h13, if_neg h10, if_pos h34]; rfl
    have bad4 : ((L8 t)[q] = 9 ∨ okB (L8 t)[q] = false) → Bad t s.rows 4 q := fun h => bad_at t (s1 := (up s).turn .plain) hr hq hn (by rw [hnext, RS.plain, if_neg h44, if_neg h13, if_neg h10, if_neg h34, if_pos h]; rfl) rfl ⟨by omega, by omega, by omega⟩
    have j4t : Ev (fun k => larderref04_cell.j4 k t fr q true) (badQ t 4 q) := Ev.succ (fun k => larderref04_cell.j4.eq_2 ..) (Ev.pos rfl (Ev.bind (placed_ev t 4 q hr.le (by omega)) Ev.here))
    by_cases h9 : (L8 t)[q] = 9
    · exact ⟨badQ t 4 q, go (Ev.neg (fun e => h10 ((bt_is t q hq 10).1 e)) (Ev.neg (fun e => h34 ((bt_is t q hq 34).1 e)) (Ev.pos ((bt_is t q hq 9).2 h9) j4t))), .inr ⟨4, q, by omega, rfl, bad4 (.inl h9)⟩⟩
    by_cases hk : okB (L8 t)[q] = false
    · refine ⟨badQ t 4 q, go (Ev.neg (fun e => h10 ((bt_is t q hq 10).1 e)) (Ev.neg (fun e => h34 ((bt_is t q hq 34).1 e)) (Ev.neg (fun e => h9 ((bt_is t q hq 9).1 e)) (Ev.bind1 (may_eq t q hq) ?_)))), .inr ⟨4, q, by omega, rfl, bad4 (.inr hk)⟩⟩
      rw [hk]
      exact j4t
    have hkt : okB (L8 t)[q] = true := by simpa using hk
    have e3 : RS.next (up s) (L8 t)[q] = ((up s).turn .plain).put (L8 t)[q] := by
      rw [hnext, RS.plain, if_neg h44, if_neg h13, if_neg h10, if_neg h34, if_neg (by simp only [h9, hk]; decide)]
    have hcl : s.cell.length = q - fr := by rw [hc]; simp; omega
    have go2 : ∀ {r : Q7}, Ev (fun k => (if (wrap64 ((q : Int) - fr)) = 4096 then ((larderref04_placed.f k t 5 q).bind fun bt600136 => (some ((⟨#[]⟩ : ByteArray), 0, bt600136.1, bt600136.2.1, bt600136.2.2.1, bt600136.2.2.2.1, bt600136.2.2.2.2))) else (larderref04_cell.l0 k t fr (wrap64 ((q : Int) + 1))))) r → Ev (fun k => larderref04_cell.l0 k t fr q) r := by
      intro r h
      refine go (Ev.neg (fun e => h10 ((bt_is t q hq 10).1 e)) (Ev.neg (fun e => h34 ((bt_is t q hq 34).1 e)) (Ev.neg (fun e => h9 ((bt_is t q hq 9).1 e)) (Ev.bind1 (may_eq t q hq) ?_))))
      rw [hkt]
      exact Ev.succ (fun k => larderref04_cell.j4.eq_2 ..) (Ev.neg (by decide) h)
    have wd : wrap64 ((q : Int) - fr) = ((q - fr : Nat) : Int) := by unfold wrap64; omega
    by_cases h4 : q - fr = 4096
    · refine ⟨badQ t 5 q, go2 (Ev.pos (by rw [wd]; omega) (Ev.bind (placed_ev t 5 q hr.le (by omega)) Ev.here)), .inr ⟨5, q, by omega, rfl, bad_at t (s1 := { (up s).turn .plain with cell := s.cell ++ [(L8 t)[q]] }) hr hq hn ?_ rfl ⟨by omega, by omega, by omega⟩⟩⟩
      rw [e3, RS.put, if_pos (by show 4096 < (s.cell ++ [(L8 t)[q]]).length; simp; omega)]; rfl
    · have e4 : RS.next (up s) (L8 t)[q] = { (up s).turn .plain with cell := s.cell ++ [(L8 t)[q]] } := by
        rw [e3, RS.put, if_neg (by show ¬ 4096 < (s.cell ++ [(L8 t)[q]]).length; simp; omega)]; rfl
      have hs := (reach_step t hr hq hn).1 (by rw [e4]; exact hr.ok)
      rw [e4] at hs
      obtain ⟨o1, o2, o3, o4, o5⟩ := on_same { (up s).turn .plain with cell := s.cell ++ [(L8 t)[q]] } (L8 t)[q]
      obtain ⟨r, h1, h2⟩ := ih (q + 1) _ (by omega) hs (by omega) (by omega) (by
        rw [o3]
        show s.cell ++ [(L8 t)[q]] = _
        rw [hc, take_snoc hq, List.drop_append_of_le_length (by simp; omega)]) (.inl o2)
      refine ⟨r, go2 (Ev.neg (by rw [wd]; omega) ?_), h2.of t (Sm.trans (b := { (up s).turn .plain with cell := s.cell ++ [(L8 t)[q]] }) ⟨rfl, rfl, rfl, rfl⟩ o1) (by omega)⟩
      rw [w1 _ (by omega)]
      exact h1
theorem cell_ev (hn : (L8 t).length ≤ 262144) (p : Nat) (s : RS) (hr : Reach t s p) (hb : Beg t s p) (hc : s.cell = []) : ∃ r, Ev (fun k => larderref04_cell.f k t p) r ∧ CR t s p r := by
  have hsz := L8_len t
  by_cases hq : p < (L8 t).length ∧ ∃ h : p < (L8 t).length, (L8 t)[p] = 34
  · obtain ⟨hp, _, hx⟩ := hq
    have e : RS.next (up s) (L8 t)[p] = (up s).mark.turn .quoted := by rw [next_beg t hb, RS.start, if_pos hx]
    have hs := (reach_step t hr hp hn).1 (by rw [e]; exact hr.ok)
    rw [e] at hs
    obtain ⟨o1, o2, o3, o4, o5⟩ := on_same ((up s).mark.turn .quoted) (L8 t)[p]
    have sm : Sm s (((up s).mark.turn .quoted).on (L8 t)[p]) := Sm.trans (b := (up s).mark.turn .quoted) ⟨rfl, rfl, rfl, rfl⟩ o1
    obtain ⟨r, hr1, hr2⟩ := quoted_l t hn p (Nat.le_of_lt hp) _ (p + 1) _ [] rfl hs o2 (o3.trans hc) (by simp) ((Prod.ext (show _ = s.line from o4) (show _ = s.col from o5)).trans hr.pos)
    have hqf : Ev (fun k => larderref04_quoted.f k t p) r := by
      refine Ev.of (fun k => ?_) hr1
      show larderref04_quoted.l0 k t p ([] : List Int) (wrap64 ((p : Int) + 1)) = _
      rw [w1 _ (by omega)]; rfl
    have top : ∀ {r' : Q7}, Ev (fun k => (if r.2.2.1 = 0 then (if r.2.1 = (t.size : Int) then (larderref04_cell.j1 k t r.1 r.2.1 true r.2.2.1 r.2.2.2.1 r.2.2.2.2.1 r.2.2.2.2.2.1 r.2.2.2.2.2.2) else (if 0 ≤ r.2.1 then (if r.2.1 < (t.size : Int) then (if (bt t r.2.1) = 44 then (larderref04_cell.j1 k t r.1 r.2.1 true r.2.2.1 r.2.2.2.1 r.2.2.2.2.1 r.2.2.2.2.2.1 r.2.2.2.2.2.2) else (larderref04_cell.j1 k t r.1 r.2.1 ((bt t r.2.1) == 13) r.2.2.1 r.2.2.2.1 r.2.2.2.2.1 r.2.2.2.2.2.1 r.2.2.2.2.2.2)) else (none)) else (none))) else (larderref04_cell.j1 k t r.1 r.2.1 true r.2.2.1 r.2.2.2.1 r.2.2.2.2.1 r.2.2.2.2.2.1 r.2.2.2.2.2.2))) r' → Ev (fun k => larderref04_cell.f k t p) r' := by
      intro r' h
      refine Ev.of (fun k => rfl) (Ev.pos (by omega) (Ev.pos (by omega) ?_))
      have e2 : (bt t (p : Int) == 34) = true := by rw [(bt_is t p hp 34).2 hx]; rfl
      rw [e2]
      exact Ev.succ (fun k => larderref04_cell.j0.eq_2 ..) (Ev.pos rfl (Ev.bind hqf h))
    rcases hr2 with ⟨text, q, s2, rfl, hr2, sm2, m2, hc2, hl2, hpq, hend⟩ | ⟨c, q, hc0, rfl, hbad⟩
    · have fin : Ev (fun k => larderref04_cell.j1 k t (tx text) (q : Int) true 0 0 0 0 0) (okQ text q) := Ev.succ (fun k => larderref04_cell.j1.eq_2 ..) (Ev.pos rfl Ev.here)
      have hcd : Cd t s2 q := .inl m2
      by_cases hql : q < (L8 t).length
      · have hne : (L8 t)[q] ≠ 34 := by
          rcases hend with h | ⟨_, h⟩
          · omega
          · exact h
        by_cases h44 : (L8 t)[q] = 44
        · exact ⟨okQ text q, top (Ev.pos rfl (Ev.neg (by show ¬ (q : Int) = _; omega) (Ev.pos (by show (0 : Int) ≤ q; omega) (Ev.pos (by show (q : Int) < _; omega) (Ev.pos ((bt_is t q hql 44).2 h44) fin))))), .inl ⟨text, q, s2, rfl, hr2, sm.trans sm2, hcd, hc2, hl2, by omega, .inr ⟨hql, .inl h44⟩⟩⟩
        · by_cases h13 : (L8 t)[q] = 13
          · refine ⟨okQ text q, top (Ev.pos rfl (Ev.neg (by show ¬ (q : Int) = _; omega) (Ev.pos (by show (0 : Int) ≤ q; omega) (Ev.pos (by show (q : Int) < _; omega) (Ev.neg (fun e => h44 ((bt_is t q hql 44).1 e)) ?_))))), .inl ⟨text, q, s2, rfl, hr2, sm.trans sm2, hcd, hc2, hl2, by omega, .inr ⟨hql, .inr h13⟩⟩⟩
            have e2 : (bt t (okQ text q).2.1 == 13) = true := by show (bt t (q : Int) == 13) = true; rw [(bt_is t q hql 13).2 h13]; rfl
            rw [e2]
            exact fin
          · have go : ∀ {r' : Q7}, Ev (fun k => (if (bt t (q : Int)) = 10 then ((larderref04_placed.f k t 3 q).bind fun bt600110 => (some ((⟨#[]⟩ : ByteArray), 0, bt600110.1, bt600110.2.1, bt600110.2.2.1, bt600110.2.2.2.1, bt600110.2.2.2.2))) else ((larderref04_placed.f k t 2 q).bind fun bt600115 => (some ((⟨#[]⟩ : ByteArray), 0, bt600115.1, bt600115.2.1, bt600115.2.2.1, bt600115.2.2.2.1, bt600115.2.2.2.2))))) r' → Ev (fun k => larderref04_cell.f k t p) r' := by
              intro r' h
              refine top (Ev.pos rfl (Ev.neg (by show ¬ (q : Int) = _; omega) (Ev.pos (by show (0 : Int) ≤ q; omega) (Ev.pos (by show (q : Int) < _; omega) (Ev.neg (fun e => h44 ((bt_is t q hql 44).1 e)) ?_)))))
              have e2 : (bt t (okQ text q).2.1 == 13) = false := by
                show (bt t (q : Int) == 13) = false
                rw [beq_eq_false_iff_ne]
                exact fun e => h13 ((bt_is t q hql 13).1 e)
              rw [e2]
              exact Ev.succ (fun k => larderref04_cell.j1.eq_2 ..) (Ev.neg (by decide) (Ev.pos (by show (0 : Int) ≤ q; omega) (Ev.pos (by show (q : Int) < _; omega) h)))
            have hnx : RS.next (up s2) (L8 t)[q] = RS.closed (up s2) (L8 t)[q] := by
              have : (up s2).md = .closed := m2
              rw [RS.next, this]
            have hrows : s2.rows = s.rows := (sm.trans sm2).rows
            by_cases h10 : (L8 t)[q] = 10
            · refine ⟨badQ t 3 q, go (Ev.pos ((bt_is t q hql 10).2 h10) (Ev.bind (placed_ev t 3 q hr2.le (by omega)) Ev.here)), .inr ⟨3, q, by omega, rfl, ?_⟩⟩
              rw [← hrows]
              exact bad_at t (s1 := up s2) hr2 hql hn (by rw [hnx, RS.closed, if_neg hne, if_neg h44, if_neg h13, if_pos h10]; rfl) rfl ⟨by omega, by omega, fun _ => h10⟩
            · refine ⟨badQ t 2 q, go (Ev.neg (fun e => h10 ((bt_is t q hql 10).1 e)) (Ev.bind (placed_ev t 2 q hr2.le (by omega)) Ev.here)), .inr ⟨2, q, by omega, rfl, ?_⟩⟩
              rw [← hrows]
              exact bad_at t (s1 := up s2) hr2 hql hn (by rw [hnx, RS.closed, if_neg hne, if_neg h44, if_neg h13, if_neg h10]; rfl) rfl ⟨by omega, by omega, by omega⟩
      · have hq : q = (L8 t).length := by have := hr2.le; omega
        exact ⟨okQ text q, top (Ev.pos rfl (Ev.pos (by show (q : Int) = _; omega) fin)), .inl ⟨text, q, s2, rfl, hr2, sm.trans sm2, hcd, hc2, hl2, by omega, .inl hq⟩⟩
    · refine ⟨badQ t c q, top (Ev.neg (by show ¬ (c : Int) = 0; omega) (Ev.succ (fun k => larderref04_cell.j1.eq_2 ..) (Ev.pos rfl Ev.here))), .inr ⟨c, q, hc0, rfl, ?_⟩⟩
      rw [← sm.rows]
      exact hbad
  · have hx : ∀ h : p < (L8 t).length, (L8 t)[p] ≠ 34 := fun h e => hq ⟨h, h, e⟩
    obtain ⟨r, h1, h2⟩ := plain_l t hn p _ p s rfl hr (Nat.le_refl _) (by omega) (by rw [hc]; simp) (.inr ⟨hb, hx⟩)
    refine ⟨r, ?_, h2⟩
    have tail : Ev (fun k => larderref04_cell.j0 k t p false) r := Ev.succ (fun k => larderref04_cell.j0.eq_2 ..) (Ev.neg (by decide) h1)
    by_cases hp : p < (L8 t).length
    · refine Ev.of (fun k => rfl) (Ev.pos (by omega) (Ev.pos (by omega) ?_))
      have e2 : (bt t (p : Int) == 34) = false := by
        rw [beq_eq_false_iff_ne]
        exact fun e => hx hp ((bt_is t p hp 34).1 e)
      rw [e2]
      exact tail
    · exact Ev.of (fun k => rfl) (Ev.neg (by omega) tail)
end Go.Proofs.YtappphffbnkloaaGreatDoor.Sht

/- The reader of sheets as a plain machine: one byte a step. -/
namespace Go.Proofs.YtappphffbnkloaaGreatDoor.Sht
/-- what the next byte meets: a row's begin, a cell's begin, a plain cell, a quoted one, behind a quote in one, behind a CR -/
inductive Md where
  | fresh | start | plain | quoted | closed | back
structure RS where
  md : Md
  line : Nat
  col : Nat
  all : Nat
  ml : Nat
  mc : Nat
  cell : List UInt8
  row : List (List UInt8)
  rows : List (List (List UInt8))
  count : Nat
  width : Nat
  fault : Option (Nat × Nat × Nat)
def RS.new : RS := ⟨.fresh, 1, 0, 0, 0, 0, [], [], [], 0, 0, none⟩
def okB (c : UInt8) : Bool := (32 ≤ c && c != 127) || c == 9 || c == 10 || c == 13
def RS.turn (s : RS) (m : Md) : RS := { s with md := m }
def RS.fail (s : RS) (l c e : Nat) : RS := { s with fault := some (l, c, e) }
def RS.mark (s : RS) : RS := { s with ml := s.line, mc := s.col }
def RS.endCell (s : RS) : RS := { s with row := s.row ++ [s.cell], cell := [] }
def RS.widen (s : RS) : RS := if s.count = 0 then { s with width := s.row.length } else s
def RS.newRow (s : RS) : RS := { s with rows := s.rows ++ [s.row], row := [], count := s.count + 1, md := .fresh }
def RS.endRow (s : RS) (l c : Nat) : RS := if s.widen.row.length = s.widen.width then s.widen.newRow else s.widen.fail l c 8
def RS.put (s : RS) (x : UInt8) : RS :=
  if 4096 < (s.cell ++ [x]).length then RS.fail { s with cell := s.cell ++ [x] } s.line s.col 5 else { s with cell := s.cell ++ [x] }
def RS.comma (s : RS) : RS := (if s.endCell.row.length = 64 then s.endCell.fail s.line s.col 6 else s.endCell).turn .start
def RS.cr (s : RS) : RS := s.endCell.mark.turn .back
def RS.plain (s : RS) (x : UInt8) : RS :=
  if x = 44 then s.comma else if x = 13 then s.cr else if x = 10 then s.fail s.line s.col 3 else if x = 34 then s.fail s.line s.col 2
  else if x = 9 ∨ okB x = false then s.fail s.line s.col 4 else s.put x
def RS.quoted (s : RS) (x : UInt8) : RS := if x = 34 then s.turn .closed else if okB x = false then s.fail s.line s.col 4 else s.put x
def RS.closed (s : RS) (x : UInt8) : RS :=
  if x = 34 then (s.turn .quoted).put x else if x = 44 then s.comma else if x = 13 then s.cr else if x = 10 then s.fail s.line s.col 3 else s.fail s.line s.col 2
def RS.back (s : RS) (x : UInt8) : RS := if x = 10 then s.endRow s.ml s.mc else s.fail s.ml s.mc 3
def RS.start (s : RS) (x : UInt8) : RS := if x = 34 then s.mark.turn .quoted else (s.turn .plain).plain x
def RS.fresh (s : RS) (x : UInt8) : RS := if s.count = 4096 then s.fail s.line s.col 7 else s.start x
def RS.next (s : RS) (x : UInt8) : RS := match s.md with
  | .fresh => s.fresh x
  | .start => s.start x
  | .plain => s.plain x
  | .quoted => s.quoted x
  | .closed => s.closed x
  | .back => s.back x
/-- the text's end -/
def RS.over (s : RS) : RS := match s.md with
  | .fresh => s
  | .start => s.endCell.endRow s.line s.col
  | .plain => s.endCell.endRow s.line s.col
  | .closed => s.endCell.endRow s.line s.col
  | .quoted => s.fail s.ml s.mc 1
  | .back => s.fail s.ml s.mc 3
/-- the place behind a byte -/
def RS.on (s : RS) (x : UInt8) : RS := if x = 10 then { s with line := s.line + 1, col := 0 } else { s with col := s.col + 1 }
/-- one byte of a piece (there being no fault) -/
def RS.step (s : RS) (x : UInt8) : RS := if s.all = 262144 then s.fail s.line s.col 20 else (RS.next { s with all := s.all + 1 } x).on x
def RS.feed : RS → List UInt8 → RS
  | s, [] => s
  | s, x :: l => if s.fault = none then (s.step x).feed l else s
/-- no part of the machine passes this number -/
structure RS.Bd (n : Nat) (s : RS) : Prop where
  line : s.line ≤ n
  col : s.col ≤ n
  all : s.all ≤ n
  ml : s.ml ≤ n
  mc : s.mc ≤ n
  cell : s.cell.length ≤ n
  row : s.row.length ≤ n
  rows : s.rows.length ≤ n
  count : s.count ≤ n
  width : s.width ≤ n
end Go.Proofs.YtappphffbnkloaaGreatDoor.Sht

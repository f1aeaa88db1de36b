/- What 'letter' of package cal's reader of spans does, in one statement. -/
import Derived.Test.YtiklakkkgmilnaaDoorCalLetX
namespace Go.Proofs.YtiklakkkgmilnaaDoor.Ext
open Go.RowKit Go.Proofs.YtiklakkkgmilnaaDoorW.PrintWords

def RS.to (r : RS) : Nat := if r.ti then 6 else 3
def RS.part (r : RS) (k : Nat) : RS :=
  { r with y := if k = 0 then r.n else r.y, mo := if k = 1 then r.n else r.mo, d := if k = 2 then r.n else r.d, h := if k = 3 then r.n else r.h, mi := if k = 4 then r.n else r.mi, s := if k = 5 then r.n else r.s,
           nx := (k : Int) + 1, bg := true, em := false, n := 0, hs := 0 }
def letF (r : RS) (c : Int) : Bool × RS :=
  if c = 87 then (if r.bg || r.ti then (false, r) else (true, { r with wk := r.n, en := true, bg := true, n := 0, hs := 0 }))
  else match fnd c (r.to - r.nx.toNat) r.nx.toNat with
    | none => (false, r)
    | some k => (true, r.part k)
/-- the first letter that may come lies where it may -/
def RS.ok (r : RS) : Prop := if r.ti then 3 ≤ r.nx ∧ r.nx ≤ 6 else 0 ≤ r.nx ∧ r.nx ≤ 3
theorem letter_calls (r : RS) (c : Int) (w : World) (B g : Nat) (hB : B ≤ g) (hok : r.ok) (hg : w.heap[g]? = some (.cells r.cells 106 (0, 0))) :
    Calls Tryd.prog 104 #[.pointer (some ⟨g, 0, none⟩), .int .u8 c] w fun e w' => e = .returned (.bool (letF r c).1) ∧
      w'.heap[g]? = some (.cells (letF r c).2.cells 106 (0, 0)) ∧ Below B w w' := by
  have hw : B ≤ w.heap.size := Nat.le_of_lt (Nat.lt_of_le_of_lt hB (blk_lt hg))
  obtain ⟨y, mo, wk, d, h, mi, s, nx, bg, ti, em, en, n, hs⟩ := r
  unfold letF
  by_cases hc : c = 87
  · subst hc
    rw [if_pos rfl]
    cases bg with
    | true => exact letter_wb y mo wk d h mi s nx n hs ti em en w B g hg
    | false =>
      cases ti with
      | true => exact letter_wt y mo wk d h mi s nx n hs em en w B g hg
      | false => exact letter_w y mo wk d h mi s nx n hs false false em en w B g hB hg ⟨rfl, rfl⟩
  · rw [if_neg hc]
    cases ti with
    | true =>
      have h3 : 3 ≤ nx ∧ nx ≤ 6 := hok
      obtain ⟨k0, rfl⟩ : ∃ k : Nat, nx = k := ⟨nx.toNat, by omega⟩
      have hm : (if (3 : Int) < (k0 : Int) then (k0 : Int) else 3) = (k0 : Int) := by split <;> omega
      show Calls _ _ _ _ _
      cases hf : fnd c (6 - k0) k0 with
      | none =>
        have e : fnd c (RS.to ⟨y, mo, wk, d, h, mi, s, k0, bg, true, em, en, n, hs⟩ - ((k0 : Int)).toNat) ((k0 : Int)).toNat = none := hf
        simp only [e]
        exact letter_n3 y mo wk d h mi s k0 n hs c k0 bg em en w B g hc (by omega) hm hg hf
      | some kf =>
        have e : fnd c (RS.to ⟨y, mo, wk, d, h, mi, s, k0, bg, true, em, en, n, hs⟩ - ((k0 : Int)).toNat) ((k0 : Int)).toNat = some kf := hf
        simp only [e]
        exact letter_y3 y mo wk d h mi s k0 n hs c k0 kf bg em en w B g hB hw hc (by omega) hm hg hf
    | false =>
      have h3 : 0 ≤ nx ∧ nx ≤ 3 := hok
      obtain ⟨k0, rfl⟩ : ∃ k : Nat, nx = k := ⟨nx.toNat, by omega⟩
      have hm : (if (0 : Int) < (k0 : Int) then (k0 : Int) else 0) = (k0 : Int) := by split <;> omega
      cases hf : fnd c (3 - k0) k0 with
      | none =>
        have e : fnd c (RS.to ⟨y, mo, wk, d, h, mi, s, k0, bg, false, em, en, n, hs⟩ - ((k0 : Int)).toNat) ((k0 : Int)).toNat = none := hf
        simp only [e]
        exact letter_n0 y mo wk d h mi s k0 n hs c k0 bg em en w B g hc (by omega) hm hg hf
      | some kf =>
        have e : fnd c (RS.to ⟨y, mo, wk, d, h, mi, s, k0, bg, false, em, en, n, hs⟩ - ((k0 : Int)).toNat) ((k0 : Int)).toNat = some kf := hf
        simp only [e]
        exact letter_y0 y mo wk d h mi s k0 n hs c k0 kf bg em en w B g hB hw hc (by omega) hm hg hf
end Go.Proofs.YtiklakkkgmilnaaDoor.Ext

/- What 'take' of package cal's reader of spans does, in one statement. -/
import Derived.Test.YtiklakkkgmilnaaDoorCalTakeX
set_option linter.unusedVariables false
namespace Go.Proofs.YtiklakkkgmilnaaDoor.Ext
open Go.RowKit Go.Proofs.YtiklakkkgmilnaaDoorW.PrintWords

def takeF (r : RS) (c : Int) : Bool × RS :=
  if 48 ≤ c ∧ c ≤ 57 then
    (if r.en = true ∨ r.nx ≥ r.to ∨ r.hs = 9 then (false, r) else (true, { r with n := 10 * r.n + (c - 48), hs := r.hs + 1 }))
  else if r.hs > 0 then letF r c
  else if c = 84 ∧ r.ti = false ∧ r.en = false then (true, { r with nx := 3, ti := true, em := true })
  else (false, r)
theorem take_calls (r : RS) (c : Int) (w : World) (B g : Nat) (hB : B ≤ g) (hok : r.ok) (hh : 0 ≤ r.hs ∧ r.hs ≤ 9) (hn : 0 ≤ r.n ∧ r.n ≤ 999999999) (hg : w.heap[g]? = some (.cells r.cells 106 (0, 0))) :
    Calls Tryd.prog 70 #[.pointer (some ⟨g, 0, none⟩), .int .u8 c] w fun e w' => e = .returned (.bool (takeF r c).1) ∧
      w'.heap[g]? = some (.cells (takeF r c).2.cells 106 (0, 0)) ∧ Below B w w' := by
  by_cases hd : 48 ≤ c ∧ c ≤ 57
  · have F : takeF r c = (if r.en = true ∨ r.nx ≥ r.to ∨ r.hs = 9 then (false, r) else (true, { r with n := 10 * r.n + (c - 48), hs := r.hs + 1 })) := if_pos hd
    obtain ⟨y, mo, wk, d, h, mi, s, nx, bg, ti, em, en, n, hs⟩ := r
    cases en with
    | true =>
      have E : takeF ⟨y, mo, wk, d, h, mi, s, nx, bg, ti, em, true, n, hs⟩ c = (false, ⟨y, mo, wk, d, h, mi, s, nx, bg, ti, em, true, n, hs⟩) := F.trans (if_pos (Or.inl rfl))
      rw [E]
      cases ti with
      | true => exact take_de6 y mo wk d h mi s nx n hs c bg em w B g hB hd hg
      | false => exact take_de3 y mo wk d h mi s nx n hs c bg em w B g hB hd hg
    | false =>
      cases ti with
      | true =>
        by_cases hx : nx < 6
        · by_cases h9 : hs = 9
          · subst h9
            have E : takeF ⟨y, mo, wk, d, h, mi, s, nx, bg, true, em, false, n, 9⟩ c = (false, ⟨y, mo, wk, d, h, mi, s, nx, bg, true, em, false, n, 9⟩) := F.trans (if_pos (Or.inr (Or.inr rfl)))
            rw [E]
            exact take_dn6 y mo wk d h mi s nx n c bg em w B g hB hd hx hg
          · have E : takeF ⟨y, mo, wk, d, h, mi, s, nx, bg, true, em, false, n, hs⟩ c = (true, ⟨y, mo, wk, d, h, mi, s, nx, bg, true, em, false, 10 * n + (c - 48), hs + 1⟩) :=
              F.trans (if_neg (by rintro (e | e | e); · cases e
                                  · have : (6 : Int) ≤ nx := e
                                    omega
                                  · exact h9 e))
            rw [E]
            exact take_d6 y mo wk d h mi s nx n hs c bg em w B g hB hd hx h9 hh hn hg
        · have E : takeF ⟨y, mo, wk, d, h, mi, s, nx, bg, true, em, false, n, hs⟩ c = (false, ⟨y, mo, wk, d, h, mi, s, nx, bg, true, em, false, n, hs⟩) := F.trans (if_pos (Or.inr (Or.inl (show (6 : Int) ≤ nx by omega))))
          rw [E]
          exact take_dx6 y mo wk d h mi s nx n hs c bg em w B g hB hd (by omega) hg
      | false =>
        by_cases hx : nx < 3
        · by_cases h9 : hs = 9
          · subst h9
            have E : takeF ⟨y, mo, wk, d, h, mi, s, nx, bg, false, em, false, n, 9⟩ c = (false, ⟨y, mo, wk, d, h, mi, s, nx, bg, false, em, false, n, 9⟩) := F.trans (if_pos (Or.inr (Or.inr rfl)))
            rw [E]
            exact take_dn3 y mo wk d h mi s nx n c bg em w B g hB hd hx hg
          · have E : takeF ⟨y, mo, wk, d, h, mi, s, nx, bg, false, em, false, n, hs⟩ c = (true, ⟨y, mo, wk, d, h, mi, s, nx, bg, false, em, false, 10 * n + (c - 48), hs + 1⟩) :=
              F.trans (if_neg (by rintro (e | e | e); · cases e
                                  · have : (3 : Int) ≤ nx := e
                                    omega
                                  · exact h9 e))
            rw [E]
            exact take_d3 y mo wk d h mi s nx n hs c bg em w B g hB hd hx h9 hh hn hg
        · have E : takeF ⟨y, mo, wk, d, h, mi, s, nx, bg, false, em, false, n, hs⟩ c = (false, ⟨y, mo, wk, d, h, mi, s, nx, bg, false, em, false, n, hs⟩) := F.trans (if_pos (Or.inr (Or.inl (show (3 : Int) ≤ nx by omega))))
          rw [E]
          exact take_dx3 y mo wk d h mi s nx n hs c bg em w B g hB hd (by omega) hg
  · have F : takeF r c = (if r.hs > 0 then letF r c else if c = 84 ∧ r.ti = false ∧ r.en = false then (true, { r with nx := 3, ti := true, em := true }) else (false, r)) := if_neg hd
    by_cases h0 : r.hs > 0
    · rw [F, if_pos h0]
      by_cases hl : c < 48
      · exact take_cl r c w B g hB hok hl h0 hg
      · exact take_cg r c w B g hB hok (by omega) h0 hg
    · replace F := F.trans (if_neg h0)
      obtain ⟨y, mo, wk, d, h, mi, s, nx, bg, ti, em, en, n, hs⟩ := r
      obtain rfl : hs = 0 := by have : ¬ hs > 0 := h0; have : 0 ≤ hs := hh.1; omega
      by_cases ht : c = 84
      · subst ht
        cases ti with
        | true =>
          have E : takeF ⟨y, mo, wk, d, h, mi, s, nx, bg, true, em, en, n, 0⟩ 84 = (false, ⟨y, mo, wk, d, h, mi, s, nx, bg, true, em, en, n, 0⟩) := F.trans (if_neg (by rintro ⟨_, e, _⟩; cases e))
          rw [E]; exact take_tt y mo wk d h mi s nx n bg em en w B g hB hg
        | false =>
          cases en with
          | true =>
            have E : takeF ⟨y, mo, wk, d, h, mi, s, nx, bg, false, em, true, n, 0⟩ 84 = (false, ⟨y, mo, wk, d, h, mi, s, nx, bg, false, em, true, n, 0⟩) := F.trans (if_neg (by rintro ⟨_, _, e⟩; cases e))
            rw [E]; exact take_te y mo wk d h mi s nx n bg em w B g hB hg
          | false =>
            have E : takeF ⟨y, mo, wk, d, h, mi, s, nx, bg, false, em, false, n, 0⟩ 84 = (true, ⟨y, mo, wk, d, h, mi, s, 3, bg, true, true, false, n, 0⟩) := F.trans (if_pos ⟨rfl, rfl, rfl⟩)
            rw [E]; exact take_t y mo wk d h mi s nx n bg em w B g hB hg
      · replace F := F.trans (if_neg (by rintro ⟨e, _⟩; exact ht e))
        rw [F]
        by_cases hl : c < 48
        · exact take_ol y mo wk d h mi s nx n c bg ti em en w B g hB hl ht hg
        · exact take_og y mo wk d h mi s nx n c bg ti em en w B g hB (by omega) ht hg
end Go.Proofs.YtiklakkkgmilnaaDoor.Ext

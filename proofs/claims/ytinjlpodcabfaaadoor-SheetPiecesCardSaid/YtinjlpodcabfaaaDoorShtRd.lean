/- Rows that were read: as the law's sameRows takes them. -/
import Derived.Test.YtinjlpodcabfaaaDoorShtQ
import Derived.Test.YtinjlpodcabfaaaDoorShtU
import Derived.Test.YtinjlpodcabfaaaDoorGSxf16
set_option linter.unusedVariables false
set_option linter.unusedSimpArgs false
namespace Go.Proofs.YtinjlpodcabfaaaDoor.Sht
open Go Go.RowKit Go.Proofs.YtinjlpodcabfaaaDoorW.PrintWords Go.Proofs.YtinjlpodcabfaaaDoor.GS
theorem row_own {w : World} {B : Nat} {v : Value} {r : List (List UInt8)} (h : w.ownsRow B 9 1 v r.length (sts r)) : OwnRow (Kd.string.K w) 9 1 w B v (txs r) := by
  refine ⟨sts r, by rw [txs_len]; exact h, by rw [sts_len, txs_len, Nat.mul_one], fun j p hj => ?_⟩
  unfold txs at hj
  rw [List.getElem?_map, Option.map_eq_some_iff] at hj
  obtain ⟨x, hx, rfl⟩ := hj
  obtain ⟨hl, he⟩ := List.getElem?_eq_some_iff.1 hx
  show ((sts r).drop (j * 1)).take 1 = [_]
  rw [Nat.mul_one, List.drop_eq_getElem_cons (by rw [sts_len]; exact hl)]
  simp [sts, he, st, tx]
theorem rows_get {w : World} {B : Nat} : ∀ {lv : List Value} {rs : Rows}, RowsAt w B lv rs → lv.length = rs.length ∧ ∀ (j : Nat) (r : List (List UInt8)), rs[j]? = some r → ∃ v, lv[j]? = some v ∧ w.ownsRow B 9 1 v r.length (sts r)
  | [], [], _ => ⟨rfl, fun j r h => by simp at h⟩
  | v :: lv, r :: rs, h => by
    obtain ⟨h1, h2⟩ := rows_get h.2
    refine ⟨by simp [h1], fun j p hj => ?_⟩
    cases j with
    | zero => exact ⟨v, rfl, by simp at hj; rw [← hj]; exact h.1⟩
    | succ j => exact h2 j p (by simpa using hj)
  | [], _ :: _, h => h.elim
  | _ :: _, [], h => h.elim
theorem good_reads {w : World} {B : Nat} {v : Value} {rs : Rows} (h : GoodRows B w v rs) : ∃ A c, v = .slice A (rws rs).length c ∧ (rws rs).length ≤ c ∧ Kd.C (Kd.slice 9 Kd.string) w A (rws rs).length (rws rs) := by
  obtain ⟨lv, h1, h2⟩ := h
  obtain ⟨h3, h4⟩ := rows_get h2
  refine OwnRow.reads (R := (Kd.slice 9 Kd.string).K w) (e := 28) (base := B) ⟨lv, by rw [rws_len]; exact h1, by rw [rws_len, h3]; exact (Nat.mul_one _).symm, fun j p hj => ?_⟩
  unfold rws at hj
  rw [List.getElem?_map, Option.map_eq_some_iff] at hj
  obtain ⟨r, hr, rfl⟩ := hj
  obtain ⟨u, hu, hw⟩ := h4 j r hr
  obtain ⟨hl, he⟩ := List.getElem?_eq_some_iff.1 hu
  obtain ⟨A, c, rfl, hc, hd⟩ := OwnRow.reads (row_own hw)
  refine ⟨A, c, ?_, hc, hd⟩
  show (lv.drop (j * 1)).take 1 = [_]
  rw [Nat.mul_one, List.drop_eq_getElem_cons hl, he]
  rfl
theorem texts_same (xs : List ByteArray) (hl : xs.length ≤ 9223372036854775807) : Ev (fun k => larderlaw04_sameTexts.f k xs xs) true := by
  refine Ev.of (fun k => rfl) (Ev.pos rfl ?_)
  have h : ∀ (m i : Nat), i + m = xs.length → Ev (fun k => larderlaw04_sameTexts.l0 k xs xs (i : Int)) true := by
    intro m
    induction m with
    | zero => intro i hi; exact Ev.succ (fun k => larderlaw04_sameTexts.l0.eq_2 ..) (Ev.neg (by omega) Ev.here)
    | succ m ih =>
      intro i hi
      refine Ev.succ (fun k => larderlaw04_sameTexts.l0.eq_2 ..) (Ev.pos (by omega) (Ev.pos (by omega) (Ev.pos (by omega) (Ev.pos rfl ?_))))
      have e : wrap64 ((i : Int) + 1) = ((i + 1 : Nat) : Int) := by unfold wrap64; omega
      rw [e]
      exact ih (i + 1) (by omega)
  exact h xs.length 0 (by omega)
theorem rows_same (xs : List (List ByteArray)) (hl : xs.length ≤ 9223372036854775807) (hs : ∀ x ∈ xs, x.length ≤ 9223372036854775807) : Ev (fun k => larderlaw04_sameRows.f k xs xs) true := by
  refine Ev.of (fun k => rfl) (Ev.pos rfl ?_)
  have h : ∀ (m i : Nat), i + m = xs.length → Ev (fun k => larderlaw04_sameRows.l0 k xs xs (i : Int)) true := by
    intro m
    induction m with
    | zero => intro i hi; exact Ev.succ (fun k => larderlaw04_sameRows.l0.eq_2 ..) (Ev.neg (by omega) Ev.here)
    | succ m ih =>
      intro i hi
      have hx : (rd_L2 xs (i : Int)).length ≤ 9223372036854775807 := by
        rcases Nat.lt_or_ge i xs.length with hi' | hi'
        · refine hs _ ?_
          have e0 : rd_L2 xs (i : Int) = xs[i] := by show xs.getD ((i : Int).toNat) [] = xs[i]; rw [Int.toNat_natCast]; simp [List.getD, List.getElem?_eq_getElem hi']
          rw [e0]; exact List.getElem_mem hi'
        · omega
      refine Ev.succ (fun k => larderlaw04_sameRows.l0.eq_2 ..) (Ev.pos (by omega) (Ev.pos (by omega) (Ev.pos (by omega) (Ev.bind (texts_same _ hx) (Ev.pos rfl ?_)))))
      have e : wrap64 ((i : Int) + 1) = ((i + 1 : Nat) : Int) := by unfold wrap64; omega
      rw [e]
      exact ih (i + 1) (by omega)
  exact h xs.length 0 (by omega)
theorem good_len {w : World} {B : Nat} {v : Value} {rs : Rows} (h : GoodRows B w v rs) : (rws rs).length ≤ 9223372036854775807 ∧ ∀ x ∈ rws rs, x.length ≤ 9223372036854775807 := by
  obtain ⟨A, c, _, _, hr⟩ := good_reads h
  refine ⟨hr.2.1, fun x hx => ?_⟩
  obtain ⟨lv, h1, h2⟩ := h
  obtain ⟨h3, h4⟩ := rows_get h2
  unfold rws at hx
  obtain ⟨r, hr', rfl⟩ := List.mem_map.1 hx
  obtain ⟨j, hj, he⟩ := List.mem_iff_getElem.1 hr'
  obtain ⟨u, hu, hw⟩ := h4 j r (by rw [List.getElem?_eq_getElem hj, he])
  obtain ⟨A, c, _, _, hd⟩ := OwnRow.reads (row_own hw)
  exact hd.2.1
theorem good_same {w : World} {B : Nat} {v : Value} {rs : Rows} (h : GoodRows B w v rs) : ∃ k, larderlaw04_sameRows.f k (rws rs) (rws rs) = some true := by
  obtain ⟨h1, h2⟩ := good_len h
  obtain ⟨K, hK⟩ := rows_same (rws rs) h1 h2
  exact ⟨K, hK K (Nat.le_refl _)⟩
end Go.Proofs.YtinjlpodcabfaaaDoor.Sht

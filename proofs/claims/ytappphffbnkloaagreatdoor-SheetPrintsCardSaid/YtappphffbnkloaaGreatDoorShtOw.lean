/- A slice of slices of texts among the arguments, opened: what the printed texts read, and its sizes. -/
import Derived.Test.YtappphffbnkloaaGreatDoorShtOr
import Derived.Test.YtappphffbnkloaaGreatDoorShtU
set_option linter.unusedVariables false
set_option linter.unusedSimpArgs false
namespace Go.Proofs.YtappphffbnkloaaGreatDoor.Sht
open Go Go.RowKit Go.ChangeShapes Go.WideShapes Go.Deep Go.Proofs.YtappphffbnkloaaGreatDoorW.PrintWords
theorem weights_all {H : Type} {P : Program} {e : TypeId} {n : Nat} : ∀ {l : List (DataW H)} {d : DataW H}, d ∈ l → n ∈ DataW.weights P e d → n ∈ DataW.weightsAll P e l
  | [], d, h, _ => by simp at h
  | x :: l, d, h, hn => by
    show n ∈ DataW.weights P e x ++ DataW.weightsAll P e l
    rcases List.mem_cons.1 h with rfl | h
    · exact List.mem_append_left _ hn
    · exact List.mem_append_right _ (weights_all h hn)
theorem bytesStr : Tryz.prog.bytesOf 9 = 16 := by kernel_rfl
theorem bytesRow : Tryz.prog.bytesOf 28 = 24 := by kernel_rfl
/-- a row, as the printed texts read it -/
def RowC (w : World) (v : Value) (r : List (List UInt8)) : Prop := ∃ x cap, v = .slice x (txs r).length cap ∧ (txs r).length ≤ cap ∧ Kd.string.C w x (txs r).length (txs r)
def RowsC (w : World) (v : Value) (rs : Rows) : Prop := ∃ x cap, v = .slice x (rws rs).length cap ∧ (rws rs).length ≤ cap ∧ Kd.C (Kd.slice 9 Kd.string) w x (rws rs).length (rws rs)
/-- a nil slice has no room -/
def NilOk (v : Value) : Prop := ∀ n c, v = .slice none n c → v = .slice none 0 0
def RowsN (w : World) (v : Value) (rs : Rows) : Prop :=
  ∃ x cap, v = .slice x rs.length cap ∧ rs.length ≤ 9223372036854775807 ∧ ∀ i (h : i < rs.length), ∃ (a : Addr) (u : Value), x = some a ∧ w.cell? (a.add i) = some u ∧ RowIn w u rs[i] ∧ NilOk u
theorem RowsN.rows {w : World} {v : Value} {rs : Rows} (h : RowsN w v rs) : RowsIn w v rs := by
  obtain ⟨x, cap, h1, h2, h3⟩ := h
  refine ⟨x, cap, h1, h2, fun i hi => ?_⟩
  obtain ⟨a, u, q1, q2, q3, _⟩ := h3 i hi
  exact ⟨a, u, q1, q2, q3⟩
theorem open_rowW {H : Type} {enc : TypeId × Value → H} {w : World} {v : Value} {d : DataW H} {p : List MemPlace} {fuel : Nat} (h : DataW.trod enc Tryz.prog w 0 (fun _ => true) true fuel 28 [v] = some (d, p))
    (hw : ∀ n ∈ DataW.weights Tryz.prog 28 d, n ≤ reachBytes) : ∃ r, (RowIn w v r ∧ NilOk v) ∧ RowC w v r ∧ r.length * 16 ≤ reachBytes := by
  rcases open_strings Tryz.underlying28 Tryz.underlying9 cellsStr h with ⟨hcs, _⟩ | ⟨a, len, cap, ss, hcs, _, hl, hm, hz, hx, hcell, _⟩
  · obtain rfl : v = .slice none 0 0 := (List.cons.inj hcs).1
    exact ⟨[], ⟨⟨none, 0, rfl, by decide, fun i h => absurd h (by simp)⟩, fun n c _ => rfl⟩, ⟨none, 0, rfl, by decide, rfl, by decide, fun h => absurd h (by decide)⟩, by simp⟩
  · obtain rfl : v = .slice (some a) len cap := (List.cons.inj hcs).1
    simp only [if_true] at hz
    have hlen : ((ss.take len).map (·.data.toList)).length = len := by rw [List.length_map, List.length_take, hz]; omega
    have hlen2 : (txs ((ss.take len).map (·.data.toList))).length = len := by rw [txs_len]; exact hlen
    have hmx : len ≤ 9223372036854775807 := by unfold maxLen at hm; omega
    have hwt : ss.length * 16 ≤ reachBytes := by
      have hd : d = .slice (strs (ss.take len)) (strs (ss.drop len)) := congrArg Prod.fst hx
      have := hw _ (by
        rw [hd]
        unfold DataW.weights
        rw [Tryz.underlying28]
        exact List.mem_cons_self)
      rw [bytesStr] at this
      have e : (strs (H := H) (ss.take len)).length + (strs (H := H) (ss.drop len)).length = ss.length := by unfold strs; rw [List.length_map, List.length_map, List.length_take, List.length_drop]; omega
      rw [e] at this
      exact this
    have hc : ∀ i, i < len → w.cell? (a.add i) = some (.string (ss.getD i ByteArray.empty)) := fun i hi => hcell i (by omega)
    refine ⟨(ss.take len).map (·.data.toList), ⟨⟨some a, cap, by rw [hlen], by rw [hlen]; exact hmx, fun i hi => ⟨a, rfl, ?_⟩⟩, fun n c q => by cases q⟩, ⟨some a, cap, by rw [hlen2], by rw [hlen2]; omega, rfl, by rw [hlen2]; exact hmx, fun _ => ⟨a, rfl, fun j q hj => ⟨[.string q], rfl, rfl, fun i u hu => ?_⟩⟩⟩, by rw [hlen]; omega⟩
    · rw [hlen] at hi
      have hi' : i < ss.length := by omega
      rw [hc i hi, List.getD_eq_getElem?_getD, List.getElem?_eq_getElem hi', List.getElem_map, List.getElem_take]
      rfl
    · have hi0 : i = 0 := by
        rcases Nat.eq_zero_or_pos i with q | q
        · exact q
        · rw [List.getElem?_eq_none (by simp; omega)] at hu; cases hu
      subst hi0
      obtain rfl : Value.string q = u := by simpa using hu
      obtain ⟨hj1, hj2⟩ := List.getElem?_eq_some_iff.1 hj
      rw [hlen2] at hj1
      have hj' : j < ss.length := by omega
      show w.cell? (a.add (j * 1 + 0)) = _
      rw [Nat.mul_one, Nat.add_zero, hc j hj1, List.getD_eq_getElem?_getD, List.getElem?_eq_getElem hj']
      have e : (txs ((ss.take len).map (·.data.toList)))[j]? = some ss[j] := by
        show (((ss.take len).map (·.data.toList)).map tx)[j]? = _
        rw [List.getElem?_map, List.getElem?_map, List.getElem?_take, if_pos hj1, List.getElem?_eq_getElem hj']
        rfl
      have this : q = ss[j] := Option.some.inj (hj.symm.trans e)
      rw [this]; rfl
theorem open_rowsW {H : Type} {enc : TypeId × Value → H} {w : World} {v : Value} {d : DataW H} {p : List MemPlace} (ho : ∃ a l c, v = .slice a l c) (h : DataW.Trod enc Tryz.prog w 0 (fun _ => true) true 30 v d p)
    (hw : ∀ n ∈ DataW.weights Tryz.prog 30 d, n ≤ reachBytes) : ∃ rs, RowsN w v rs ∧ RowsC w v rs ∧ rs.length * 24 ≤ reachBytes ∧ ∀ r ∈ rs, r.length * 16 ≤ reachBytes := by
  obtain ⟨a0, l0, c0, rfl⟩ := ho
  obtain ⟨fuel, hf⟩ := h
  rcases open_slice1 Tryz.underlying30 cellsRow hf with ⟨hcs, _⟩ | ⟨a, len, cap, m, n, V, D, Pl, hcs, hb, hl, hm, hmm, hxx, hx⟩
  · have hv := (List.cons.inj (show [Value.slice a0 l0 c0] = [_] from hcs)).1
    exact ⟨[], ⟨none, 0, hv, by decide, fun i h => absurd h (by simp)⟩, ⟨none, 0, hv, by decide, rfl, by decide, fun h => absurd h (by decide)⟩, by simp, by simp⟩
  · have hv := (List.cons.inj (show [Value.slice a0 l0 c0] = [_] from hcs)).1
    simp only [if_true] at hmm
    subst hmm
    have hd : d = _ := congrArg Prod.fst hxx
    have hin : ∀ r, r < len → ∀ k ∈ DataW.weights Tryz.prog 28 (D r), k ≤ reachBytes := fun r hr k hk => hw k (by
      rw [hd]
      unfold DataW.weights
      rw [Tryz.underlying30]
      exact List.mem_cons_of_mem _ (List.mem_append_left _ (weights_all (List.mem_map.2 ⟨r, List.mem_range.2 hr, rfl⟩) hk)))
    have each : ∀ r, r < len → ∃ row, (RowIn w (V r) row ∧ NilOk (V r)) ∧ RowC w (V r) row ∧ row.length * 16 ≤ reachBytes := fun r hr => open_rowW (hx r (by omega)).2 (hin r hr)
    obtain ⟨f, hfr⟩ := choose_lt each
    have hmx : len ≤ 9223372036854775807 := by unfold maxLen at hm; omega
    have hwt : len * 24 ≤ reachBytes := by
      have := hw _ (by
        rw [hd]
        unfold DataW.weights
        rw [Tryz.underlying30]
        exact List.mem_cons_self)
      rw [bytesRow] at this
      simp only [List.length_map, List.length_range] at this
      omega
    have hlen2 : (rws ((List.range len).map f)).length = len := by rw [rws_len]; simp
    refine ⟨(List.range len).map f, ⟨some a, m, by rw [hv]; simp, by simp; exact hmx, fun i hi => ?_⟩, ⟨some a, m, by rw [hv, hlen2], by rw [hlen2]; exact hl, rfl, by rw [hlen2]; exact hmx, fun _ => ⟨a, rfl, fun j q hj => ⟨[V j], rfl, ?_, fun i u hu => ?_⟩⟩⟩, by simpa using hwt, fun r hr => ?_⟩
    · have hi' : i < len := by simpa using hi
      have := (hfr i hi').1
      exact ⟨a, V i, rfl, (hx i (by omega)).1, by simpa using this.1, this.2⟩
    · obtain ⟨hj1, hj2⟩ := List.getElem?_eq_some_iff.1 hj
      rw [hlen2] at hj1
      obtain ⟨_, ⟨x, cp, e1, e2, e3⟩, _⟩ := hfr j hj1
      have hq : q = txs (f j) := by
        rw [← hj2]
        unfold rws
        simp
      subst hq
      exact ⟨x, cp, by rw [e1], e2, e3⟩
    · have hi0 : i = 0 := by
        rcases Nat.eq_zero_or_pos i with q | q
        · exact q
        · rw [List.getElem?_eq_none (by simp; omega)] at hu; cases hu
      subst hi0
      obtain rfl : V j = u := by simpa using hu
      obtain ⟨hj1, _⟩ := List.getElem?_eq_some_iff.1 hj
      rw [hlen2] at hj1
      show w.cell? (a.add (j * 1 + 0)) = _
      rw [Nat.mul_one, Nat.add_zero]
      exact (hx j (by omega)).1
    · obtain ⟨i, hi, rfl⟩ := List.mem_map.1 hr
      exact (hfr i (List.mem_range.1 hi)).2.2
end Go.Proofs.YtappphffbnkloaaGreatDoor.Sht

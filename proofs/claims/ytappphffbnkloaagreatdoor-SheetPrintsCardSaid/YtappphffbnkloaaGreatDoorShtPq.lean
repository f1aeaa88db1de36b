/- The reference's Print is the plain one. -/
import Derived.Test.YtappphffbnkloaaGreatDoorShtU
import Derived.Test.YtappphffbnkloaaGreatDoorShtPrj
import Derived.Test.YtappphffbnkloaaGreatDoorGSxPr
set_option linter.unusedVariables false
set_option linter.unusedSimpArgs false
namespace Go.Proofs.YtappphffbnkloaaGreatDoor.Sht
open Go Go.RowKit Go.Proofs.YtappphffbnkloaaGreatDoorW.PrintWords Go.Proofs.YtappphffbnkloaaGreatDoor.GS Qd
theorem L8_tx (c : List UInt8) : L8 (tx c) = c := rfl
theorem tx_size (c : List UInt8) : (tx c).size = c.length := by show c.toArray.size = _; simp
theorem any_snoc (c : List UInt8) (i : Nat) (h : i < c.length) : (c.take (i + 1)).any spec = ((c.take i).any spec || spec c[i]) := by rw [take_snoc h, List.any_append]; simp
theorem esc_snoc (c : List UInt8) (i : Nat) (h : i < c.length) : esc (c.take (i + 1)) = esc (c.take i) ++ (if c[i] = 34 then [34, 34] else [c[i]]) := by
  rw [take_snoc h, esc_app]
  congr 1
theorem nums_app (a b : List UInt8) : nums (a ++ b) = nums a ++ nums b := by simp [nums]
theorem written_l (c : List UInt8) (hc : c.length ≤ 4096) : ∀ (m i : Nat), i + m = c.length → Ev (fun k => larderref04_written.l0 k (tx c) ((c.take i).any spec) (nums (34 :: esc (c.take i))) (i : Int)) (tx (cellO c)) := by
  intro m
  induction m with
  | zero =>
    intro i hi
    obtain rfl : i = c.length := by omega
    have hz := tx_size c
    have he := esc_len c
    rw [List.take_length]
    refine Ev.succ (fun k => larderref04_written.l0.eq_2 ..) (Ev.neg (by omega) ?_)
    by_cases h : c.any spec = true
    · refine Ev.pos h (Ev.pos (by rw [nums_len]; simp; omega) ?_)
      have : nums (34 :: esc c) ++ [34] = nums (34 :: (esc c ++ [34])) := by simp [nums]
      rw [this, nums_tx]
      unfold cellO
      rw [if_pos h]
      exact Ev.here
    · refine Ev.neg h ?_
      unfold cellO
      rw [if_neg h]
      exact Ev.here
  | succ m ih =>
    intro i hi
    have hlt : i < c.length := by omega
    have hz := tx_size c
    have hb : ∀ k : UInt8, bt (tx c) (i : Int) = (k.toNat : Int) ↔ c[i] = k := fun k => bt_is (tx c) i hlt k
    have he := esc_len (c.take i)
    have htl : (c.take i).length ≤ i := List.length_take_le _ _
    have hr := ih (i + 1) (by omega)
    have e := any_snoc c i hlt
    have e2 := esc_snoc c i hlt
    have hs : nums (34 :: esc (c.take i)) ++ [bt (tx c) (i : Int)] = nums (34 :: esc (c.take i) ++ [c[i]]) := nums_snoc (tx c) _ i hlt
    -- what both ways do
    have fin : ∀ b : Bool, b = (c.take (i + 1)).any spec → Ev (fun k => if 0 ≤ (i : Int) then (if (i : Int) < ((tx c).size : Int) then (if (nums (34 :: esc (c.take i))).length < 140737488355328 then ((some (nums (34 :: esc (c.take i)) ++ [bt (tx c) (i : Int)] : List Int)).bind fun y => (if (bt (tx c) (i : Int)) = 34 then (if y.length < 140737488355328 then (larderref04_written.l0 k (tx c) b (y ++ [34]) (wrap64 ((i : Int) + 1))) else (none)) else (larderref04_written.l0 k (tx c) b y (wrap64 ((i : Int) + 1))))) else (none)) else (none)) else (none)) (tx (cellO c)) := by
      intro b hbb
      refine Ev.pos (by omega) (Ev.pos (by omega) (Ev.pos (by rw [nums_len]; simp; omega) (Ev.bind1 rfl ?_)))
      rw [w1 _ (by omega), hs, hbb]
      by_cases h34 : c[i] = 34
      · refine Ev.pos ((hb 34).2 h34) (Ev.pos (by rw [nums_len]; simp; omega) ?_)
        rw [e2, if_pos h34] at hr
        have : nums (34 :: esc (c.take i) ++ [c[i]]) ++ [34] = nums (34 :: (esc (c.take i) ++ [34, 34])) := by rw [h34]; simp [nums]
        rw [this]
        exact hr
      · refine Ev.neg (fun q => h34 ((hb 34).1 q)) ?_
        rw [e2, if_neg h34] at hr
        exact hr
    refine Ev.succ (fun k => larderref04_written.l0.eq_2 ..) (Ev.pos (by omega) (Ev.pos (by omega) ?_))
    by_cases h1 : c[i] = 44
    · refine Ev.pos ((hb 44).2 h1) (Ev.succ (fun k => larderref04_written.j1.eq_2 ..) (Ev.pos rfl (fin true (by rw [e, h1, show spec 44 = true from rfl, Bool.or_true]))))
    refine Ev.neg (fun q => h1 ((hb 44).1 q)) ?_
    by_cases h2 : c[i] = 34
    · refine Ev.pos ((hb 34).2 h2) (Ev.succ (fun k => larderref04_written.j1.eq_2 ..) (Ev.pos rfl (fin true (by rw [e, h2, show spec 34 = true from rfl, Bool.or_true]))))
    refine Ev.neg (fun q => h2 ((hb 34).1 q)) ?_
    by_cases h3 : c[i] = 13
    · refine Ev.pos ((hb 13).2 h3) (Ev.succ (fun k => larderref04_written.j1.eq_2 ..) (Ev.pos rfl (fin true (by rw [e, h3, show spec 13 = true from rfl, Bool.or_true]))))
    refine Ev.neg (fun q => h3 ((hb 13).1 q)) ?_
    by_cases h4 : c[i] = 10
    · refine Ev.pos ((hb 10).2 h4) (Ev.succ (fun k => larderref04_written.j1.eq_2 ..) (Ev.pos rfl (fin true (by rw [e, h4, show spec 10 = true from rfl, Bool.or_true]))))
    refine Ev.neg (fun q => h4 ((hb 10).1 q)) (Ev.succ (fun k => larderref04_written.j1.eq_2 ..) ?_)
    by_cases h5 : c[i] = 9
    · refine Ev.pos (beq_iff_eq.2 ((hb 9).2 h5)) (fin true (by rw [e, h5, show spec 9 = true from rfl, Bool.or_true]))
    · refine Ev.neg (fun q => h5 ((hb 9).1 (beq_iff_eq.1 q))) (fin _ ?_)
      rw [e]
      have : spec c[i] = false := by unfold spec; simp [h1, h2, h3, h4, h5]
      rw [this, Bool.or_false]
theorem written_ev (c : List UInt8) (hc : c.length ≤ 4096) : Ev (fun k => larderref04_written.f k (tx c)) (tx (cellO c)) := written_l c hc c.length 0 (by omega)
/-! ### the first fault -/
def fq (o : Option (Nat × Nat × Nat)) : Int × Int × Int × Int × Int := match o with
  | none => (0, 0, 0, 0, 0)
  | some (l, c, e) => ((e : Int), (l : Int), (c : Int), 0, 0)
theorem rd_rws (rs : Rows) (i : Nat) (h : i < rs.length) : rd_L2 (rws rs) (i : Int) = txs rs[i] := by
  unfold rd_L2 rws
  rw [Int.toNat_natCast]
  simp [List.getD, h]
theorem rd_txs (r : List (List UInt8)) (j : Nat) (h : j < r.length) : rdOf ByteArray.empty (txs r) (j : Int) = tx r[j] := by
  unfold rdOf txs
  rw [Int.toNat_natCast]
  simp [List.getD, h]
def orRows (o p : Option (Nat × Nat × Nat)) : Option (Nat × Nat × Nat) := if o.isSome then o else p
section
variable (rs : Rows) (w : Nat) (hrs : rs.length ≤ 9223372036854775807) (hlen : ∀ r ∈ rs, r.length ≤ 9223372036854775807)
theorem wrong_2 (i j : Nat) (hi : i < rs.length) (hi2 : i < 4096) (c : List UInt8) (hc : c.length ≤ 4096) (hj : j ≤ 64) {R : Option (Nat × Nat × Nat)}
    (h : Ev (fun k => larderref04_wrong.l1 k (rws rs) (i : Int) ((j + 1 : Nat) : Int)) (fq R)) : ∀ (n m : Nat), m + n = c.length → Ev (fun k => larderref04_wrong.l2 k (rws rs) (i : Int) (j : Int) (tx c) (m : Int)) (fq (if (c.drop m).all okB = false then some (i + 1, j, 4) else R)) := by
  intro n
  have hz := tx_size c
  induction n with
  | zero =>
    intro m hm
    obtain rfl : m = c.length := by omega
    rw [List.drop_length, if_neg (by simp)]
    refine Ev.succ (fun k => larderref04_wrong.l2.eq_2 ..) (Ev.neg (by omega) ?_)
    rw [w1 _ (by omega)]
    exact h
  | succ n ih =>
    intro m hm
    have hlt : m < c.length := by omega
    have hr := ih (m + 1) (by omega)
    have hme : larderref04_may.f (bt (tx c) (m : Int)) = some (okB c[m]) := may_eq (tx c) m hlt
    have e : (c.drop m).all okB = (okB c[m] && (c.drop (m + 1)).all okB) := by rw [List.drop_eq_getElem_cons hlt, List.all_cons]
    refine Ev.succ (fun k => larderref04_wrong.l2.eq_2 ..) (Ev.pos (by omega) (Ev.pos (by omega) (Ev.bind1 hme ?_)))
    cases ho : okB c[m]
    · rw [e, ho, if_pos (by simp)]
      refine Ev.neg (by simp) (Ev.bind1 rfl ?_)
      rw [w1 _ (by omega)]
      exact Ev.here
    · rw [e, ho, Bool.true_and]
      refine Ev.pos rfl ?_
      rw [w1 _ (by omega)]
      exact hr
theorem wrong_1 (i : Nat) (hi : i < rs.length) (hi2 : i < 4096) (h64 : rs[i].length ≤ 64) {R : Option (Nat × Nat × Nat)}
    (h : Ev (fun k => larderref04_wrong.l0 k (rws rs) ((i + 1 : Nat) : Int)) (fq R)) : ∀ (n j : Nat), j + n = rs[i].length → Ev (fun k => larderref04_wrong.l1 k (rws rs) (i : Int) (j : Int)) (fq (orRows (cellsF (i + 1) j (rs[i].drop j)) R)) := by
  intro n
  have hz := rws_len rs
  have hrd := rd_rws rs i hi
  have hz2 := txs_len rs[i]
  induction n with
  | zero =>
    intro j hj
    obtain rfl : j = rs[i].length := by omega
    rw [List.drop_length]
    refine Ev.succ (fun k => larderref04_wrong.l1.eq_2 ..) (Ev.pos (by omega) (Ev.pos (by omega) ?_))
    rw [hrd]
    refine Ev.neg (by omega) ?_
    rw [w1 _ (by omega)]
    exact h
  | succ n ih =>
    intro j hj
    have hlt : j < rs[i].length := by omega
    have hr := ih (j + 1) (by omega)
    have hrt := rd_txs rs[i] j hlt
    have hzc := tx_size rs[i][j]
    rw [cellsF_drop (i + 1) rs[i] j hlt]
    refine Ev.succ (fun k => larderref04_wrong.l1.eq_2 ..) (Ev.pos (by omega) (Ev.pos (by omega) ?_))
    rw [hrd]
    refine Ev.pos (by omega) (Ev.pos (by omega) ?_)
    rw [hrt]
    by_cases hb : 4096 < rs[i][j].length
    · rw [if_pos hb]
      refine Ev.pos (by omega) (Ev.bind1 rfl ?_)
      rw [w1 _ (by omega)]
      exact Ev.here
    · rw [if_neg hb]
      refine Ev.neg (by omega) ?_
      have := wrong_2 rs i j hi hi2 rs[i][j] (by omega) (by omega) hr rs[i][j].length 0 (by omega)
      rw [List.drop_zero] at this
      have e : (if rs[i][j].all okB = false then some (i + 1, j, 4) else orRows (cellsF (i + 1) (j + 1) (rs[i].drop (j + 1))) R) = orRows (if rs[i][j].all okB = false then some (i + 1, j, 4) else cellsF (i + 1) (j + 1) (rs[i].drop (j + 1))) R := by
        split
        · rfl
        · rfl
      rw [e] at this
      exact this
include hrs hlen
theorem wrong_0 (hw : w = (rs.headD []).length) : ∀ (n i : Nat), i + n = rs.length → i ≤ 4096 → Ev (fun k => larderref04_wrong.l0 k (rws rs) (i : Int)) (fq (rowsF w i (rs.drop i))) := by
  intro n
  have hz := rws_len rs
  induction n with
  | zero =>
    intro i hi h4
    obtain rfl : i = rs.length := by omega
    rw [List.drop_length]
    exact Ev.succ (fun k => larderref04_wrong.l0.eq_2 ..) (Ev.neg (by omega) Ev.here)
  | succ n ih =>
    intro i hi h4
    have hlt : i < rs.length := by omega
    have hrd := rd_rws rs i hlt
    have hz2 := txs_len rs[i]
    have h0 : rd_L2 (rws rs) 0 = txs rs[0] := rd_rws rs 0 (by omega)
    have hz0 := txs_len rs[0]
    have hw0 : w = rs[0].length := by rw [hw]; cases rs with
      | nil => simp at hlt
      | cons r rs => rfl
    have hll := hlen rs[i] (List.getElem_mem hlt)
    rw [rowsF_drop w rs i hlt]
    refine Ev.succ (fun k => larderref04_wrong.l0.eq_2 ..) (Ev.pos (by omega) ?_)
    unfold rowF
    by_cases g1 : i = 4096
    · rw [if_pos g1]
      refine Ev.pos (by omega) (Ev.bind1 rfl ?_)
      rw [w1 _ (by omega)]
      exact Ev.here
    rw [if_neg g1]
    refine Ev.neg (by omega) (Ev.pos (by omega) ?_)
    rw [hrd]
    by_cases g2 : rs[i].length = 0
    · rw [if_pos g2]
      refine Ev.pos (by omega) (Ev.bind1 rfl ?_)
      rw [w1 _ (by omega)]
      exact Ev.here
    rw [if_neg g2]
    refine Ev.neg (by omega) ?_
    by_cases g3 : 64 < rs[i].length
    · rw [if_pos g3]
      refine Ev.pos (by omega) (Ev.bind1 rfl ?_)
      rw [w1 _ (by omega)]
      exact Ev.here
    rw [if_neg g3]
    refine Ev.neg (by omega) (Ev.pos (by omega) ?_)
    rw [h0]
    by_cases g4 : rs[i].length ≠ w
    · rw [if_pos g4]
      refine Ev.neg (by omega) (Ev.bind1 rfl ?_)
      rw [w1 _ (by omega)]
      exact Ev.here
    rw [if_neg g4]
    refine Ev.pos (by omega) ?_
    have := wrong_1 rs i hlt (by omega) (by omega) (ih (i + 1) (by omega) (by omega)) rs[i].length 0 (by omega)
    rw [List.drop_zero] at this
    exact this
end
theorem wrong_ev (rs : Rows) (hrs : rs.length ≤ 9223372036854775807) (hlen : ∀ r ∈ rs, r.length ≤ 9223372036854775807) : Ev (fun k => larderref04_wrong.f k (rws rs)) (fq (checkO rs)) :=
  wrong_0 rs (rs.headD []).length hrs hlen rfl rs.length 0 (by omega) (by omega)
/-! ### the text -/
section
variable (rs : Rows) (T : List UInt8) (h4 : rs.length ≤ 4096) (hok : ∀ r ∈ rs, r.length ≤ 64 ∧ ∀ c ∈ r, c.length ≤ 4096)
def Tg (T : List UInt8) (R : List UInt8) : Prop := (T.length ≤ 262144 → R = T) ∧ (262144 < T.length → 262144 < R.length)
theorem text_over (acc : List UInt8) (i : Nat) (hi : i ≤ rs.length) (ha : 262144 < acc.length) (hT : acc.length ≤ T.length) : ∃ R, Ev (fun k => larderref04_text.l0 k (rws rs) (nums acc) (i : Int)) (nums R) ∧ Tg T R := by
  have hz := rws_len rs
  refine ⟨acc, ?_, fun h => by omega, fun _ => ha⟩
  refine Ev.succ (fun k => larderref04_text.l0.eq_2 ..) ?_
  by_cases hlt : i < rs.length
  · refine Ev.pos (by omega) (Ev.succ (fun k => larderref04_text.j1.eq_2 ..) (Ev.neg (by simp [nums_len]; omega) Ev.here))
  · refine Ev.neg (by omega) (Ev.succ (fun k => larderref04_text.j1.eq_2 ..) (Ev.neg (by simp) Ev.here))
include h4 hok
theorem text_1 (i : Nat) (hi : i < rs.length) (next : ∀ acc : List UInt8, acc.length ≤ 1000000 → acc.length ≤ T.length → (acc.length ≤ 262144 → acc ++ textO (rs.drop (i + 1)) = T) → ∃ R, Ev (fun k => larderref04_text.l0 k (rws rs) (nums acc) ((i + 1 : Nat) : Int)) (nums R) ∧ Tg T R) :
    ∀ (n j : Nat) (acc : List UInt8), j + n = rs[i].length → acc.length ≤ 300000 → acc ++ ((if j = 0 then cellsO (rs[i].drop j) else tailO (rs[i].drop j)) ++ ([13, 10] ++ textO (rs.drop (i + 1)))) = T → ∃ R, Ev (fun k => larderref04_text.l1 k (rws rs) (nums acc) (i : Int) (j : Int)) (nums R) ∧ Tg T R := by
  intro n
  have hz := rws_len rs
  have hrd := rd_rws rs i hi
  have hz2 := txs_len rs[i]
  obtain ⟨k64, kc⟩ := hok rs[i] (List.getElem_mem hi)
  -- the row's end
  have stop : ∀ acc : List UInt8, acc.length ≤ 300000 → (acc ++ [13, 10]).length ≤ T.length → (acc.length ≤ 262144 → (acc ++ [13, 10]) ++ textO (rs.drop (i + 1)) = T) → ∃ R, Ev (fun k => ((some (([13, 10] : List Int) : List Int)).bind fun y => (if (nums acc).length + y.length < 140737488355328 then (larderref04_text.l0 k (rws rs) (nums acc ++ y) (wrap64 ((i : Int) + 1))) else (none)))) (nums R) ∧ Tg T R := by
    intro acc ha hle hT
    obtain ⟨R, hR, hg⟩ := next (acc ++ [13, 10]) (by simp; omega) hle (fun q => hT (by simp at q; omega))
    refine ⟨R, Ev.bind1 rfl (Ev.pos (by rw [nums_len]; simp; omega) ?_), hg⟩
    rw [w1 _ (by omega)]
    have : nums acc ++ [13, 10] = nums (acc ++ [13, 10]) := by rw [nums_app]; rfl
    rw [this]
    exact hR
  induction n with
  | zero =>
    intro j acc hj ha hT
    obtain rfl : j = rs[i].length := by omega
    rw [List.drop_length] at hT
    have hT' : acc ++ ([13, 10] ++ textO (rs.drop (i + 1))) = T := by
      split at hT <;> simpa [cellsO, tailO] using hT
    obtain ⟨R, hR, hg⟩ := stop acc ha (by rw [← hT']; simp) (fun _ => by rw [List.append_assoc]; exact hT')
    refine ⟨R, ?_, hg⟩
    refine Ev.succ (fun k => larderref04_text.l1.eq_2 ..) (Ev.pos (by omega) (Ev.pos (by omega) ?_))
    rw [hrd]
    exact Ev.neg (by omega) (Ev.succ (fun k => larderref04_text.j3.eq_2 ..) (Ev.neg (by simp) hR))
  | succ n ih =>
    intro j acc hj ha hT
    have hlt : j < rs[i].length := by omega
    have hrt := rd_txs rs[i] j hlt
    have hc := kc rs[i][j] (List.getElem_mem hlt)
    have hcs := cellO_size rs[i][j]
    have hwr := written_ev rs[i][j] hc
    have hd : rs[i].drop j = rs[i][j] :: rs[i].drop (j + 1) := List.drop_eq_getElem_cons hlt
    by_cases hov : acc.length ≤ 262144
    · -- a cell more
      have hb : (bytesOf (tx (cellO rs[i][j]))) = nums (cellO rs[i][j]) := rfl
      have hsz := tx_size (cellO rs[i][j])
      by_cases j0 : j = 0
      · obtain ⟨R, hR, hg⟩ := ih (j + 1) (acc ++ cellO rs[i][j]) (by omega) (by simp; omega) (by
          rw [if_pos j0, hd] at hT
          rw [if_neg (by omega), ← hT]
          show _ = acc ++ ((cellO rs[i][j] ++ tailO (rs[i].drop (j + 1))) ++ _)
          simp)
        refine ⟨R, ?_, hg⟩
        refine Ev.succ (fun k => larderref04_text.l1.eq_2 ..) (Ev.pos (by omega) (Ev.pos (by omega) ?_))
        rw [hrd]
        refine Ev.pos (by omega) (Ev.succ (fun k => larderref04_text.j3.eq_2 ..) (Ev.pos (by simp [nums_len]; omega) (Ev.neg (by omega) (Ev.pos (by omega) (Ev.pos (by omega) (Ev.pos (by omega) ?_))))))
        rw [hrd]
        refine Ev.pos (by omega) ?_
        rw [hrt]
        refine Ev.bind hwr (Ev.pos (by rw [nums_len, hsz]; omega) ?_)
        rw [w1 _ (by omega), hb, ← nums_app]
        exact hR
      · obtain ⟨R, hR, hg⟩ := ih (j + 1) (acc ++ [44] ++ cellO rs[i][j]) (by omega) (by simp; omega) (by
          rw [if_neg j0, hd] at hT
          rw [if_neg (by omega), ← hT]
          show _ = acc ++ ((44 :: (cellO rs[i][j] ++ tailO (rs[i].drop (j + 1)))) ++ _)
          simp)
        refine ⟨R, ?_, hg⟩
        refine Ev.succ (fun k => larderref04_text.l1.eq_2 ..) (Ev.pos (by omega) (Ev.pos (by omega) ?_))
        rw [hrd]
        refine Ev.pos (by omega) (Ev.succ (fun k => larderref04_text.j3.eq_2 ..) (Ev.pos (by simp [nums_len]; omega) (Ev.pos (by omega) (Ev.pos (by rw [nums_len]; omega) (Ev.bind1 rfl (Ev.pos (by omega) (Ev.pos (by omega) (Ev.pos (by omega) ?_))))))))
        rw [hrd]
        refine Ev.pos (by omega) ?_
        rw [hrt]
        have e44 : nums acc ++ [44] = nums (acc ++ [44]) := by rw [nums_app]; rfl
        rw [e44]
        refine Ev.bind hwr (Ev.pos (by rw [nums_len, hsz]; simp; omega) ?_)
        rw [w1 _ (by omega), hb, ← nums_app]
        exact hR
    · -- too long by now
      obtain ⟨R, hR, hg⟩ := stop acc ha (by rw [← hT]; simp; omega) (fun q => absurd q hov)
      refine ⟨R, ?_, hg⟩
      refine Ev.succ (fun k => larderref04_text.l1.eq_2 ..) (Ev.pos (by omega) (Ev.pos (by omega) ?_))
      rw [hrd]
      exact Ev.pos (by omega) (Ev.succ (fun k => larderref04_text.j3.eq_2 ..) (Ev.neg (by simp [nums_len]; omega) hR))
theorem text_0 : ∀ (n i : Nat) (acc : List UInt8), i + n = rs.length → acc.length ≤ 1000000 → acc.length ≤ T.length → (acc.length ≤ 262144 → acc ++ textO (rs.drop i) = T) → ∃ R, Ev (fun k => larderref04_text.l0 k (rws rs) (nums acc) (i : Int)) (nums R) ∧ Tg T R := by
  intro n
  have hz := rws_len rs
  induction n with
  | zero =>
    intro i acc hi ha hle hT
    by_cases hov : acc.length ≤ 262144
    · obtain rfl : i = rs.length := by omega
      have hT' := hT hov
      rw [List.drop_length] at hT'
      have e : acc = T := by simpa [textO] using hT'
      refine ⟨acc, Ev.succ (fun k => larderref04_text.l0.eq_2 ..) (Ev.neg (by omega) (Ev.succ (fun k => larderref04_text.j1.eq_2 ..) (Ev.neg (by simp) Ev.here))), fun _ => e, fun q => by rw [← e] at q; omega⟩
    · exact text_over rs T acc i (by omega) (by omega) hle
  | succ n ih =>
    intro i acc hi ha hle hT
    by_cases hov : acc.length ≤ 262144
    · have hlt : i < rs.length := by omega
      have hd : rs.drop i = rs[i] :: rs.drop (i + 1) := List.drop_eq_getElem_cons hlt
      obtain ⟨R, hR, hg⟩ := text_1 rs T h4 hok i hlt (fun acc h1 h2 h3 => ih (i + 1) acc (by omega) h1 h2 h3) rs[i].length 0 acc (by omega) (by omega) (by
        rw [if_pos rfl, List.drop_zero, ← hT hov, hd]
        show acc ++ (cellsO rs[i] ++ ([13, 10] ++ textO (rs.drop (i + 1)))) = acc ++ ((cellsO rs[i] ++ [13, 10]) ++ textO (rs.drop (i + 1)))
        simp)
      exact ⟨R, Ev.succ (fun k => larderref04_text.l0.eq_2 ..) (Ev.pos (by omega) (Ev.succ (fun k => larderref04_text.j1.eq_2 ..) (Ev.pos (by simp [nums_len]; omega) hR))), hg⟩
    · exact text_over rs T acc i (by omega) (by omega) hle
end
theorem text_ev (rs : Rows) (hc : checkO rs = none) : ∃ R, Ev (fun k => larderref04_text.f k (rws rs)) (nums R) ∧ Tg (textO rs) R := by
  obtain ⟨h1, h2⟩ := (checkO_none rs).1 hc
  exact text_0 rs (textO rs) h1 (fun r hr => ⟨(h2 r hr).few, fun c hcc => ((h2 r hr).cells c hcc).1⟩) rs.length 0 [] (by omega) (by simp) (by simp) (fun _ => rfl)
theorem fq_zero {o : Option (Nat × Nat × Nat)} (h : ∀ l c e, o = some (l, c, e) → e ≠ 0) : (fq o).1 = 0 ↔ o = none := by
  cases o with
  | none => exact ⟨fun _ => rfl, fun _ => rfl⟩
  | some f =>
    obtain ⟨l, c, e⟩ := f
    have := h l c e rfl
    simp only [fq, reduceCtorEq, iff_false]
    omega
theorem check_code (rs : Rows) (l c e : Nat) (h : checkO rs = some (l, c, e)) : e ≠ 0 ∧ l ≤ 4097 ∧ c ≤ 64 ∧ coded e := by
  have hcells : ∀ (r : List (List UInt8)) (ln k : Nat), k + r.length ≤ 64 → cellsF ln k r = some (l, c, e) → e ≠ 0 ∧ l = ln ∧ c ≤ 64 ∧ coded e := by
    intro r
    induction r with
    | nil => intro ln k _ h; cases h
    | cons x r ih =>
      intro ln k hk h
      simp only [List.length_cons] at hk
      unfold cellsF at h
      split at h
      · cases h; exact ⟨by decide, rfl, by omega, cod' (by omega)⟩
      · split at h
        · cases h; exact ⟨by decide, rfl, by omega, cod' (by omega)⟩
        · exact ih ln (k + 1) (by omega) h
  have hrow : ∀ (w i : Nat) (r : List (List UInt8)), i ≤ 4096 → rowF w i r = some (l, c, e) → e ≠ 0 ∧ l ≤ 4097 ∧ c ≤ 64 ∧ coded e := by
    intro w i r hi h
    unfold rowF at h
    split at h
    · cases h; exact ⟨by decide, by omega, by omega, cod' (by omega)⟩
    split at h
    · cases h; exact ⟨by decide, by omega, by omega, cod' (by omega)⟩
    split at h
    · cases h; exact ⟨by decide, by omega, by omega, cod' (by omega)⟩
    split at h
    · cases h; exact ⟨by decide, by omega, by omega, cod' (by omega)⟩
    · obtain ⟨a, b, d, f⟩ := hcells r (i + 1) 0 (by omega) h
      exact ⟨a, by omega, d, f⟩
  have hrows : ∀ (l' : Rows) (w i : Nat), i ≤ 4096 → rowsF w i l' = some (l, c, e) → e ≠ 0 ∧ l ≤ 4097 ∧ c ≤ 64 ∧ coded e := by
    intro l'
    induction l' with
    | nil => intro w i _ h; cases h
    | cons r l' ih =>
      intro w i hi h
      unfold rowsF at h
      split at h
      · exact hrow w i r hi h
      · rename_i hn
        refine ih w (i + 1) ?_ h
        have : i ≠ 4096 := fun q => hn (by unfold rowF; rw [if_pos q]; rfl)
        omega
  exact hrows rs _ 0 (by omega) h
def pq (o : List UInt8 × Option (Nat × Nat × Nat)) : ByteArray × Int × Int × Int × Int × Int := (tx o.1, fq o.2)
theorem Wrong_ev (rs : Rows) (hrs : rs.length ≤ 9223372036854775807) (hlen : ∀ r ∈ rs, r.length ≤ 9223372036854775807) : Ev (fun k => larderref04_Wrong.f k (rws rs)) (fq (printO rs).2) := by
  have hw := wrong_ev rs hrs hlen
  refine Ev.bind hw ?_
  cases hc : checkO rs with
  | some f =>
    obtain ⟨l, c, e⟩ := f
    have he := (check_code rs l c e hc).1
    rw [print_bad rs hc]
    exact Ev.neg (by show ¬ (e : Int) = 0; omega) Ev.here
  | none =>
    obtain ⟨R, hR, hg⟩ := text_ev rs hc
    refine Ev.pos rfl (Ev.bind hR ?_)
    by_cases ht : (textO rs).length ≤ 262144
    · rw [print_done rs hc ht, hg.1 ht]
      exact Ev.neg (by rw [nums_len]; omega) Ev.here
    · rw [print_over rs hc rs.length (by rw [List.take_length]; omega)]
      have := hg.2 (by omega)
      exact Ev.pos (by rw [nums_len]; omega) (Ev.bind1 rfl Ev.here)
theorem print_coded (rs : Rows) (l c e : Nat) (h : (printO rs).2 = some (l, c, e)) : e ≠ 0 ∧ l ≤ 4097 ∧ c ≤ 64 ∧ coded e := by
  cases hc : checkO rs with
  | some f => rw [print_bad rs hc] at h; exact check_code rs l c e (hc.trans h)
  | none =>
    by_cases ht : (textO rs).length ≤ 262144
    · rw [print_done rs hc ht] at h; cases h
    · rw [print_over rs hc rs.length (by rw [List.take_length]; omega)] at h
      cases h
      exact ⟨by decide, by omega, by omega, cod' (by omega)⟩
theorem refPrint (rs : Rows) (hrs : rs.length ≤ 9223372036854775807) (hlen : ∀ r ∈ rs, r.length ≤ 9223372036854775807) : Ev (fun k => larderref04_Print.f k (rws rs)) (pq (printO rs)) := by
  refine Ev.bind (Wrong_ev rs hrs hlen) ?_
  cases hp : (printO rs).2 with
  | some f =>
    obtain ⟨l, c, e⟩ := f
    have he := (print_coded rs l c e hp).1
    have hb := print_bad1 rs hp
    rw [hb]
    exact Ev.neg (by show ¬ (e : Int) = 0; omega) Ev.here
  | none =>
    obtain ⟨q1, q2, q3⟩ := printO_ok rs (printO rs).1 (Prod.ext rfl hp)
    obtain ⟨R, hR, hg⟩ := text_ev rs q1
    refine Ev.pos rfl (Ev.bind hR ?_)
    rw [print_done rs q1 q3, hg.1 q3, nums_tx]
    exact Ev.here
end Go.Proofs.YtappphffbnkloaaGreatDoor.Sht

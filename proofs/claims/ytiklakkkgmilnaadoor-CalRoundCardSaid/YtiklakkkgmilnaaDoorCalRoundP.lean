/- The law CalRound in plain numbers and texts: each text of a day is read as that day, the basic ones are the others without their strokes, and the calendar's ones stand in the order of the days. -/
import Derived.Test.YtiklakkkgmilnaaDoorCalFormsP
import Derived.Test.YtiklakkkgmilnaaDoorCalAtP
import Derived.Test.YtiklakkkgmilnaaDoorGCxf8
set_option linter.unusedVariables false
set_option linter.unusedSimpArgs false
namespace Go.Proofs.YtiklakkkgmilnaaDoor.CalP
open Go.RowKit Go.IntWalk Go.Proofs.YtiklakkkgmilnaaDoorW.PrintWords Go.Proofs.YtiklakkkgmilnaaDoor.Ext Go.Proofs.YtiklakkkgmilnaaDoor.PCal Go.Proofs.YtiklakkkgmilnaaDoor.GC

theorem ext_nums (l : List Int) (a b : Nat) : (strOfNums l).extract a b = strOfNums ((l.take b).drop a) := by
  apply ByteArray.ext
  apply Array.ext'
  rw [ByteArray.data_extract, Array.toList_extract, strOfNums_data, strOfNums_data]
  simp [List.map_drop, List.map_take, List.extract_eq_take_drop, List.drop_take]
section
variable {y m d : Int}
theorem tx_len (hv : vldB y m d = true) : (TX y m d 0).size = 10 ∧ (TX y m d 1).size = 8 ∧ (TX y m d 2).size = 8 ∧ (TX y m d 3).size = 7 ∧ (TX y m d 4).size = 10 ∧ (TX y m d 5).size = 8 := by
  refine ⟨?_, ?_, ?_, ?_, ?_, ?_⟩ <;> unfold TX <;> rw [strOfNums_size] <;> simp [TL, D4, D3, D2, D1]
theorem tx_ok (hv : vldB y m d = true) (h2 : 2 ≤ num y m d) :
    okL (D4 y ++ [45] ++ D2 m ++ [45] ++ D2 d) ∧ okL (D4 y ++ D2 m ++ D2 d) ∧ okL (D4 y ++ [45] ++ D3 (num y m d - beg y + 1)) ∧ okL (D4 (wkY y (num y m d)) ++ [45, 87] ++ D2 (wkW y (num y m d)) ++ [45] ++ D1 (wd (num y m d) + 1)) := by
  obtain ⟨v1, v2, v3, v4, v5, v6⟩ := vld_out hv
  obtain ⟨n1, n2, n3, n4⟩ := num_bd hv
  have hdm := dim_bd y m v3 v4
  have hb := beg_succ y v1
  have hl := lpN_01 y
  have kb := wkW_bd v1 v2 n1 n2
  have wb := wd_bd (num y m d)
  have hw := wkY_ok hv h2
  exact ⟨ok_f0 ⟨v1, v2⟩ (by omega) (by omega), ok_f1 ⟨v1, v2⟩ (by omega) (by omega), ok_f2 ⟨v1, v2⟩ (by omega), ok_f4 hw (by omega) (by omega)⟩
end
theorem tx_plain (y m d : Int) : (TX y m d 1).toList = ((((TX y m d 0).extract 0 4) ++ ((TX y m d 0).extract 5 7)) ++ ((TX y m d 0).extract 8 10)).toList ∧ (TX y m d 3).toList = (((TX y m d 2).extract 0 4) ++ ((TX y m d 2).extract 5 8)).toList ∧
    (TX y m d 5).toList = ((((TX y m d 4).extract 0 4) ++ ((TX y m d 4).extract 5 8)) ++ ((TX y m d 4).extract 9 10)).toList := by
  refine ⟨?_, ?_, ?_⟩ <;> unfold TX <;> simp only [ext_nums, nums_app] <;> simp [TL, D4, D3, D2, D1]
theorem tx_less {y m d y' m' d' : Int} (h : vldB y m d = true) (h2 : 2 ≤ num y m d) (h' : vldB y' m' d' = true) (h2' : 2 ≤ num y' m' d') :
    Op.bytesLess (TX y m d 0).toList (TX y' m' d' 0).toList = decide (num y m d < num y' m' d') ∧ Op.bytesLess (TX y m d 1).toList (TX y' m' d' 1).toList = decide (num y m d < num y' m' d') ∧
    Op.bytesLess (TX y m d 2).toList (TX y' m' d' 2).toList = decide (num y m d < num y' m' d') ∧ Op.bytesLess (TX y m d 4).toList (TX y' m' d' 4).toList = decide (num y m d < num y' m' d') := by
  obtain ⟨o0, o1, o2, o4⟩ := tx_ok h h2
  obtain ⟨p0, p1, p2, p4⟩ := tx_ok h' h2'
  obtain ⟨v1, v2, v3, v4, v5, v6⟩ := vld_out h
  obtain ⟨n1, n2, n3, n4⟩ := num_bd h
  have hdm := dim_bd y m v3 v4
  have hb := beg_succ y v1
  have hl := lpN_01 y
  have kb := wkW_bd v1 v2 n1 n2
  have wb := wd_bd (num y m d)
  have hw := wkY_ok h h2
  obtain ⟨v1', v2', v3', v4', v5', v6'⟩ := vld_out h'
  obtain ⟨n1', n2', n3', n4'⟩ := num_bd h'
  have hdm' := dim_bd y' m' v3' v4'
  have hb' := beg_succ y' v1'
  have hl' := lpN_01 y'
  have kb' := wkW_bd v1' v2' n1' n2'
  have wb' := wd_bd (num y' m' d')
  have hw' := wkY_ok h' h2'
  refine ⟨?_, ?_, ?_, ?_⟩
  · exact (less_str o0 p0).trans ((lx_f0 ⟨v1, v2⟩ (by omega) (by omega) ⟨v1', v2'⟩ (by omega) (by omega)).trans (lex3 h h').1)
  · exact (less_str o1 p1).trans ((lx_f1 ⟨v1, v2⟩ (by omega) (by omega) ⟨v1', v2'⟩ (by omega) (by omega)).trans (lex3 h h').2)
  · exact (less_str o2 p2).trans ((lx_f2 ⟨v1, v2⟩ (by omega) ⟨v1', v2'⟩ (by omega)).trans (lex2 h h'))
  · exact (less_str o4 p4).trans ((lx_f4 hw (by omega) (by omega) hw' (by omega) (by omega)).trans (lexw h h' hw hw'))
set_option maxHeartbeats 1000000 in
theorem calRound_pure (a0 a1 : Int) (h0 : -9223372036854775808 ≤ a0 ∧ a0 ≤ 9223372036854775807) (h1 : -9223372036854775808 ≤ a1 ∧ a1 ≤ 9223372036854775807) : ∃ k, larderlaw03_CalRound.f k a0 a1 = some true := by
  obtain ⟨k, hk⟩ : ∃ k, 30010 ≤ k := ⟨30010, Nat.le_refl _⟩
  refine ⟨k + 9, ?_⟩
  unfold larderlaw03_CalRound.f
  obtain ⟨t, e1, t1, t2⟩ := within_eq a0 2 3652424 h0 (by omega) (by omega) (by omega)
  obtain ⟨u, e2, u1, u2⟩ := within_eq a1 2 3652424 h1 (by omega) (by omega) (by omega)
  obtain ⟨y, m, d, hv, rfl⟩ := day_ex t (by omega) (by omega)
  obtain ⟨y', m', d', hv', rfl⟩ := day_ex u (by omega) (by omega)
  rw [e1]
  simp only [Option.bind_some]
  rw [e2]
  simp only [Option.bind_some]
  rw [at_eq (k + 9) (by omega) hv]
  simp only [Option.bind_some]
  rw [forms_eq hv t1 (k + 9) (by omega)]
  simp only [Option.bind_some]
  rw [at_eq (k + 9) (by omega) hv']
  simp only [Option.bind_some]
  rw [forms_eq hv' u1 (k + 9) (by omega)]
  simp only [Option.bind_some, if_true, Bool.not_true]
  have hw := wkY_ok hv t1
  obtain ⟨z0, z1, z2, z3, z4, z5⟩ := tx_len hv
  obtain ⟨x1, x3, x5⟩ := tx_plain y m d
  obtain ⟨l0, l1, l2, l4⟩ := tx_less hv t1 hv' u1
  rw [larderlaw03_CalRound.j0, if_neg (by decide)]
  have rd : ∀ f : Nat, f < 6 → rdOf ByteArray.empty (TXs y m d) (f : Int) = TX y m d f := by
    intro f hf
    match f, hf with
    | 0, _ => rfl
    | 1, _ => rfl
    | 2, _ => rfl
    | 3, _ => rfl
    | 4, _ => rfl
    | 5, _ => rfl
  have step : ∀ (q f : Nat), f < 6 → larderlaw03_CalRound.l0 (q + 1) (num y m d) (num y' m' d') (TXs y m d) (TXs y' m' d') f y m d = larderlaw03_CalRound.l0 q (num y m d) (num y' m' d') (TXs y m d) (TXs y' m' d') ((f + 1 : Nat) : Int) y m d := by
    intro q f hf
    have hp : cal_ParseDate.f (TX y m d f) = some (y, m, d, 0, 0) := parse_TL hv f hf (fun _ => hw)
    rw [larderlaw03_CalRound.l0, if_pos (by omega), if_pos (by omega), if_pos (by show (f : Int) < 6; omega), rd f hf, hp]
    simp only [Option.bind_some]
    rw [wS (by omega)]
    simp
  have s0 := step (k + 7) 0 (by omega)
  have s1 := step (k + 6) 1 (by omega)
  have s2 := step (k + 5) 2 (by omega)
  have s3 := step (k + 4) 3 (by omega)
  have s4 := step (k + 3) 4 (by omega)
  have s5 := step (k + 2) 5 (by omega)
  refine s0.trans (s1.trans (s2.trans (s3.trans (s4.trans (s5.trans ?_)))))
  have r0 : rdOf ByteArray.empty (TXs y m d) 0 = TX y m d 0 := rfl
  have r1 : rdOf ByteArray.empty (TXs y m d) 1 = TX y m d 1 := rfl
  have r2 : rdOf ByteArray.empty (TXs y m d) 2 = TX y m d 2 := rfl
  have r3 : rdOf ByteArray.empty (TXs y m d) 3 = TX y m d 3 := rfl
  have r4 : rdOf ByteArray.empty (TXs y m d) 4 = TX y m d 4 := rfl
  have r5 : rdOf ByteArray.empty (TXs y m d) 5 = TX y m d 5 := rfl
  have p0 : rdOf ByteArray.empty (TXs y' m' d') 0 = TX y' m' d' 0 := rfl
  have p1 : rdOf ByteArray.empty (TXs y' m' d') 1 = TX y' m' d' 1 := rfl
  have p2 : rdOf ByteArray.empty (TXs y' m' d') 2 = TX y' m' d' 2 := rfl
  have p4 : rdOf ByteArray.empty (TXs y' m' d') 4 = TX y' m' d' 4 := rfl
  have len : (TXs y m d).length = 6 := rfl
  have len' : (TXs y' m' d').length = 6 := rfl
  have E : larderlaw03_CalRound.j2 (k + 1) (num y m d) (num y' m' d') (TXs y m d) (TXs y' m' d') false = some true := by
    rw [larderlaw03_CalRound.j2, if_neg (by decide)]
    simp only [r0, r1, r2, r3, r4, r5, p0, p1, p2, p4, len, len', z0, z2, z4, ByteArray.size_extract]
    simp only [eq_true x1, eq_true x3, eq_true x5, l0, l1, l2, l4, beq_self_eq_true, if_true]
    simp
  rw [larderlaw03_CalRound.l0, if_neg (by decide)]
  simp only [r0, r2, r4, len, z0, z2, z4]
  have b : ((((10 : Nat) : Int)) != 10) = false := by decide
  rw [if_pos (by omega), if_pos (by omega), if_pos (by omega), if_pos (by omega), if_pos (by omega), b]
  exact E
end Go.Proofs.YtiklakkkgmilnaaDoor.CalP

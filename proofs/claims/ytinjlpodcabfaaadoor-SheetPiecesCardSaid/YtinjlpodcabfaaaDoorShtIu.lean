/- strconv.Itoa below half a million, whatever the table of powers holds: some text of the number and of the table. -/
import Derived.Test.YtinjlpodcabfaaaDoorShtIt
import Derived.Test.YtinjlpodcabfaaaDoorShelf
import Derived.Lib.ItoaMem
import Derived.Lib.ItoaLen
import Derived.Lib.AppendIntMem
set_option linter.unusedVariables false
set_option linter.unusedSimpArgs false
namespace Go.Proofs.YtinjlpodcabfaaaDoor.Itoa
open Go Go.RowKit Go.Sort Go.Lib
/-- the table, whatever it holds -/
def Tb (W : World) (tb : Nat → Int) : Prop := ∀ q, q < 20 → W.cell? ⟨21, q, none⟩ = some (.int .u64 (tb q))
theorem Tb.below {W W' : World} {tb : Nat → Int} (h : Tb W tb) (k : Below W.heap.size W W') : Tb W' tb := fun q hq => (k.cell (p := ⟨21, q, none⟩) (World.block_lt_of_cell? W _ (h q hq))).trans (h q hq)
/-- how many bytes are laid -/
def nd (tb : Nat → Int) (u : Nat) : Nat := l10 (Lib.bitLen u) + (if tb (l10 (Lib.bitLen u)) ≤ (u : Int) then 1 else 0)
theorem l10_le (u : Nat) (h : u < 500000) : l10 (Lib.bitLen u) ≤ 5 := by
  have := Lib.bitLen_le u 19 (by decide) (by omega)
  unfold l10
  omega
theorem l10_ge (u : Nat) (h0 : 100 ≤ u) (h : u < 500000) : 2 ≤ l10 (Lib.bitLen u) := by
  have h1 := (numDigits_eq u (by omega) (by omega)).1
  have h2 : nDigits u = nDigits (u / 10 / 10) + 1 + 1 := by rw [nDigits_big (by omega), nDigits_big (by omega)]
  have h3 := nDigits_pos (u / 10 / 10)
  split at h1 <;> omega
theorem nd_bd (tb : Nat → Int) (u : Nat) (h0 : 100 ≤ u) (h : u < 500000) : 2 ≤ nd tb u ∧ nd tb u ≤ 6 := by
  have h1 := l10_le u h
  have h2 := l10_ge u h0 h
  unfold nd
  split <;> omega
set_option maxHeartbeats 4000000 in
set_option maxRecDepth 100000 in
theorem num_any (tb : Nat → Int) (u : Nat) (h0 : 100 ≤ u) (h : u < 500000) (w : World) (ht : Tb w tb) :
    Calls Tryd.prog 67 #[.int .u64 (u : Int)] w fun e w' => e = .returned (.int .i64 (nd tb u : Int)) ∧ w' = w := by
  have h5 := l10_le u h
  have hcell := ht (l10 (Lib.bitLen u)) (by omega)
  have hto : ((u : Int)).toNat = u := by omega
  have hL : Lib.bitLen u ≤ 64 := Lib.bitLen_le u 64 (Nat.le_refl _) (by omega)
  have HN : Hid ((nd tb u : Int) = (l10 (Lib.bitLen u) : Int) + (if tb (l10 (Lib.bitLen u)) ≤ (u : Int) then 1 else 0)) := Lib.hid (by unfold nd; split <;> simp)
  generalize hq : l10 (Lib.bitLen u) = q at h5 hcell HN
  generalize hT : tb q = T at hcell HN
  have h20 : q < 20 := by omega
  clear ht
  go_enter Tryd.func67, Tryd.ntmps67
  go_wp2_with (first
    | (go_at_call 71; (with_reducible refine (Tryd.bits_Len64 _ _ (by omega) (by omega)).mono ?_); rintro e w' ⟨rfl, rfl⟩)
    | (go_at_call 70; (with_reducible refine (Tryd.internal_strconv_log10Pow2 _ (by first | exact hL | (rw [hto]; exact hL)) _).mono ?_); rintro e w' ⟨rfl, rfl⟩)
    | (go_at_call 72; (with_reducible refine (Tryd.internal_strconv_bool2_int _ _).mono ?_); rintro e w' ⟨rfl, rfl⟩))
  all_goals go_ret
  all_goals (
    refine ⟨?_, rfl⟩
    have hn := HN.out
    rw [hn]
    split <;> first | rfl | (exfalso; omega) | simp)
/-- the row behind formatBase10 -/
def FF (n u : Nat) (d : Array UInt8) : Array UInt8 :=
  if n = 2 then (d.setIfInBounds 1 (sm (u % 100 * 2 + 1))).setIfInBounds 0 (sm (u % 100 * 2)) else if n = 3 then F3 u d else if n = 4 then F4 u d else if n = 5 then F5 u d else F6 u d
theorem FF_size (n u : Nat) (d : Array UInt8) : (FF n u d).size = d.size := by
  unfold FF F3 F4 F5 F6
  split <;> (try split) <;> (try split) <;> (try split) <;> simp
theorem fmt_any (n : Nat) (h1 : 2 ≤ n) (h2 : n ≤ 6) (blk off cap u : Nat) (d : Array UInt8) (w : World) (hH : Holds ec w blk off d) (hd : d.size = n) (hu : u < 1000000) :
    Calls Tryd.prog 68 #[.slice (some ⟨blk, off, none⟩) n cap, .int .u64 (u : Int)] w fun e w' =>
      e = .returned (.tuple #[]) ∧ ∃ k, w' = (putRow ec w blk off (FF n u d)).drewN k := by
  rcases (show n = 2 ∨ n = 3 ∨ n = 4 ∨ n = 5 ∨ n = 6 by omega) with rfl | rfl | rfl | rfl | rfl
  · have e : FF 2 u d = (d.setIfInBounds 1 (sm (u % 100 * 2 + 1))).setIfInBounds 0 (sm (u % 100 * 2)) := by unfold FF; rw [if_pos rfl]
    rw [e]; exact fmt2 blk off cap u d w hH hd hu
  · have e : FF 3 u d = F3 u d := by unfold FF; rw [if_neg (by decide), if_pos rfl]
    rw [e]; exact fmt3 blk off cap u d w hH hd hu
  · have e : FF 4 u d = F4 u d := by unfold FF; rw [if_neg (by decide), if_neg (by decide), if_pos rfl]
    rw [e]; exact fmt4 blk off cap u d w hH hd hu
  · have e : FF 5 u d = F5 u d := by unfold FF; rw [if_neg (by decide), if_neg (by decide), if_neg (by decide), if_pos rfl]
    rw [e]; exact fmt5 blk off cap u d w hH hd hu
  · have e : FF 6 u d = F6 u d := by unfold FF; rw [if_neg (by decide), if_neg (by decide), if_neg (by decide), if_neg (by decide)]
    rw [e]; exact fmt6 blk off cap u d w hH hd hu
/-- the text of a number -/
def txt (tb : Nat → Int) (u : Nat) : ByteArray := if u < 100 then ⟨(Lib.decDigits u).toArray⟩ else ⟨FF (nd tb u) u (Array.replicate (nd tb u) 0)⟩
theorem txt_size (tb : Nat → Int) (u : Nat) (h : u < 500000) : (txt tb u).size ≤ 100 := by
  unfold txt
  by_cases h1 : u < 100
  · rw [if_pos h1]
    have := nDigits_le20 u (by omega)
    show (Lib.decDigits u).toArray.size ≤ 100
    rw [List.size_toArray, decDigits_length]
    omega
  · rw [if_neg h1]
    have := nd_bd tb u (by omega) h
    show (FF (nd tb u) u (Array.replicate (nd tb u) 0)).size ≤ 100
    rw [FF_size, Array.size_replicate]
    omega
set_option maxHeartbeats 8000000 in
set_option maxRecDepth 100000 in
theorem format_any (tb : Nat → Int) (u : Nat) (h0 : 100 ≤ u) (h : u < 500000) (w : World) (ht : Tb w tb) :
    Calls Tryd.prog 61 #[.int .i64 (u : Int), .int .i64 10] w fun e w' => e = .returned (.string (txt tb u)) ∧ Below w.heap.size w w' := by
  obtain ⟨b1, b2⟩ := nd_bd tb u h0 h
  have e0 : txt tb u = ⟨FF (nd tb u) u (Array.replicate (nd tb u) 0)⟩ := by unfold txt; rw [if_neg (by omega)]
  rw [e0]
  have HNm := Lib.hid (fun W (hW : Tb W tb) => num_any tb u h0 h W hW)
  generalize hm : nd tb u = m at b1 b2 HNm
  have hal : Tryd.prog.arrayLen 115 = 24 := by simp [Program.arrayLen, Tryd.underlying115]
  have hsl1 : ∀ W, (Instr.sliceAt 115 (.pointer (some ⟨w.heap.size, 0, none⟩)) (some (.int .i64 1)) (some (.int .i64 (1 + (m : Int)))) none).run Tryd.prog W = .ok (.slice (some ⟨w.heap.size, 1, none⟩) m 23) W := fun W => by
    rw [run_sliceAt_array_lh W 115 ⟨w.heap.size, 0, none⟩ (by simp [Program.arrayLen, Program.elem, Tryd.underlying115]) .i64 .i64 1 (1 + (m : Int)) (by omega) (by omega) (by rw [hal]; omega)]
    go_simp
    omega
  have hH0 := Lib.holds_zero w 115 m (by omega)
  have HFm := Lib.hid (fmt_any m b1 b2 w.heap.size 1 23 u (Array.replicate m 0) (w.alloc (.cells Lib.zeros24 115)) hH0 (by simp) (by omega))
  have HTb := Lib.hid (show Tb (w.alloc (.cells Lib.zeros24 115)) tb from ht.below ((Below.refl _ _).alloc (Nat.le_refl _) _))
  have HH0 := Lib.hid hH0
  have hb3 : m ≤ 23 := by omega
  clear hH0 hal ht e0 hm
  go_enter Tryd.func61, Tryd.ntmps61
  go_wp2_with (go_at_call 67; refine (HNm.out _ HTb.out).mono ?_; rintro e w' ⟨rfl, rfl⟩)
  go_at_call 68
  refine HFm.out.mono ?_
  rintro e w' ⟨rfl, k, rfl⟩
  have hcv : (convert 33 9 (.slice (some ⟨w.heap.size, 1, none⟩) m 23)).run Tryd.prog ((putRow ec (w.alloc (.cells Lib.zeros24 115)) w.heap.size 1 (FF m u (Array.replicate m 0))).drewN k) = .ok (.string ⟨FF m u (Array.replicate m 0)⟩) ((putRow ec (w.alloc (.cells Lib.zeros24 115)) w.heap.size 1 (FF m u (Array.replicate m 0))).drewN k) := by
    have hsz : (FF m u (Array.replicate m 0)).size = m := by rw [FF_size, Array.size_replicate]
    have h := run_convert_bytes_back (P := Tryd.prog) ((putRow ec (w.alloc (.cells Lib.zeros24 115)) w.heap.size 1 (FF m u (Array.replicate m 0))).drewN k) 33 9 5 ⟨w.heap.size, 1, none⟩ 23 (FF m u (Array.replicate m 0)).toList Tryd.underlying33 Tryd.underlying5 Tryd.underlying9 (fun j hj => by
      rw [Lib.add_plain, World.cell?_drewN]
      have hj' : j < (FF m u (Array.replicate m 0)).size := by simpa using hj
      have := cell?_putRow ec (w.alloc (.cells Lib.zeros24 115)) w.heap.size 1 _ (FF m u (Array.replicate m 0)) HH0.out (by rw [FF_size]) j hj'
      rw [this, getElem!_pos _ j hj']
      simp)
    rw [Array.length_toList, hsz] at h
    rw [h]
  go_wp2
  go_ret
  obtain ⟨os, eo⟩ := Lib.fin_pos w (.cells Lib.zeros24 115) (FF m u (Array.replicate m 0)) k
  exact ⟨rfl, by rw [eo]; exact Lib.below_grow _ _ (Nat.le_refl _) k os⟩
set_option maxHeartbeats 4000000 in
theorem itoa_any (tb : Nat → Int) (u : Nat) (h : u < 500000) (w : World) (ht : Tb w tb) :
    Calls Tryd.prog 44 #[.int .i64 (u : Int)] w fun e w' => e = .returned (.string (txt tb u)) ∧ Below w.heap.size w w' := by
  by_cases h0 : u < 100
  · have e0 : txt tb u = ⟨(Lib.decDigits u).toArray⟩ := by unfold txt; rw [if_pos h0]
    rw [e0]
    exact (Tryd.strconv_Itoa_small u h0 w).mono fun e w' q => ⟨q.1, by rw [q.2]; exact Below.refl _ _⟩
  · have HF := Lib.hid (format_any tb u (by omega) h w ht)
    clear ht
    have HI : Calls Tryd.prog 53 #[.int .i64 (u : Int)] w fun e w' => e = .returned (.string (txt tb u)) ∧ Below w.heap.size w w' := by
      go_enter Tryd.func53, Tryd.ntmps53
      go_wp2_with (go_at_call 61; (with_reducible refine HF.out.mono ?_); rintro e w1 ⟨rfl, hb⟩)
      go_ret
      exact ⟨rfl, hb⟩
    have HJ := Lib.hid HI
    clear HI
    go_enter Tryd.func44, Tryd.ntmps44
    go_wp2_with (go_at_call 53; (with_reducible refine HJ.out.mono ?_); rintro e w1 ⟨rfl, hb⟩)
    go_ret
    exact ⟨rfl, hb⟩
end Go.Proofs.YtinjlpodcabfaaaDoor.Itoa

/- What cal's ParseInstant answers, proved by walking its text (of texts in whose short rest behind the T all bytes are ASCII). -/
import Derived.Test.YtiklakkkgmilnaaDoorCalDateC
import Derived.Test.YtiklakkkgmilnaaDoorCalClkX
import Derived.Test.YtiklakkkgmilnaaDoorCalCutX
import Derived.Test.YtiklakkkgmilnaaDoorGCxf65
set_option linter.unusedVariables false
set_option linter.unusedSimpArgs false
namespace Go.Proofs.YtiklakkkgmilnaaDoor.Ext
open Go.RowKit Go.Proofs.YtiklakkkgmilnaaDoorW.PrintWords Go.Proofs.YtiklakkkgmilnaaDoor.PCal Go.Proofs.YtiklakkkgmilnaaDoor.CalP Go.Proofs.YtiklakkkgmilnaaDoor.GC

def iT (s : ByteArray) : Int := Lib.indexByte s.data.toList 84
def fstT (s : ByteArray) : ByteArray := if 0 ≤ iT s then s.extract 0 (iT s).toNat else s
def rstT (s : ByteArray) : ByteArray := s.extract ((iT s).toNat + 1) s.size
def extT (s : ByteArray) : Bool := decide (0 ≤ Lib.indexByte (fstT s).data.toList 45)
def kA (r : ByteArray) : Int := Lib.indexAny r.data.toList [90, 43, 45]
def hrs (r : ByteArray) : ByteArray := if 0 ≤ kA r then r.extract 0 (kA r).toNat else r
/-- behind the zone -/
def inst4 (sz : Int) (pre : Int) (y m d sec : Int) (z : Int × Bool × Int) : Option (Int × Int × Int) :=
  if ¬ (-100000 ≤ z.1 ∧ z.1 ≤ 100000 ∧ 0 ≤ z.2.2 ∧ z.2.2 ≤ 1000) then none
  else if z.2.1 = false then some (0, 33, pre + z.2.2)
  else (cal_number.f y m d).bind fun n => if n * 86400 + sec - 60 * z.1 < 0 ∨ 315569519999 < n * 86400 + sec - 60 * z.1 then some (0, 35, 0) else some (n * 86400 + sec - 60 * z.1, 0, 0)
/-- behind the clock -/
def inst3 (s : ByteArray) (y m d : Int) (c : Int × Bool × Int) : Option (Int × Int × Int) :=
  if ¬ (0 ≤ c.1 ∧ c.1 ≤ 100000 ∧ 0 ≤ c.2.2 ∧ c.2.2 ≤ 1000) then none
  else if c.2.1 = false then some (0, 32, ((fstT s).size : Int) + 1 + c.2.2)
  else if kA (rstT s) < 0 then some (0, 33, (s.size : Int))
  else (cal_zone.f 100 ((rstT s).extract (kA (rstT s)).toNat (rstT s).size) (extT s)).bind fun z => inst4 s.size (((fstT s).size : Int) + 1 + kA (rstT s)) y m d c.1 z
def cal_ParseInstant.f (s : ByteArray) : Option (Int × Int × Int) :=
  if s.size > 64 then some (0, 1, 0)
  else (cal_ParseDate.f (fstT s)).bind fun p =>
    if p.2.2.2.1 ≠ 0 then some (0, p.2.2.2.1, p.2.2.2.2)
    else if iT s < 0 then some (0, 32, (s.size : Int))
    else if odd8 (rstT s) = true then none
    else inst3 s p.1 p.2.1 p.2.2.1 (clockF (hrs (rstT s)) (extT s))
theorem iT_bd (s : ByteArray) : -1 ≤ iT s ∧ iT s < s.size := by
  refine ⟨Lib.indexByte_ge _ _, ?_⟩
  by_cases h : iT s < 0
  · omega
  · obtain ⟨o, ho⟩ : ∃ o : Nat, iT s = o := ⟨(iT s).toNat, by omega⟩
    have := (Lib.indexByte_some (show Lib.indexByte s.data.toList 84 = o from ho)).1
    have := (List.getElem?_eq_some_iff.1 this).1
    rw [ho]; simpa using this
theorem kA_bd (r : ByteArray) : -1 ≤ kA r ∧ kA r ≤ r.size := by
  unfold kA
  refine ⟨Lib.indexAny_ge _ _, ?_⟩
  have : ∀ l : List UInt8, Lib.indexAny l [90, 43, 45] ≤ l.length := by
    intro l
    induction l with
    | nil => decide
    | cons b l ih =>
      unfold Lib.indexAny
      split
      · simp; omega
      · split
        · simp; omega
        · simp; omega
  have h := this r.data.toList
  simpa using h
set_option maxRecDepth 100000 in
set_option maxHeartbeats 1000000 in
theorem pi_long (s : ByteArray) (w : World) (h64 : s.size > 64) :
    Calls Tryd.prog 30 #[.string s] w fun e w' => e = .returned (.tuple #[.int .i64 0, .int .i64 1, .int .i64 0]) ∧ Below w.heap.size w w' := by
  go_enter Tryd.func30, Tryd.ntmps30
  go_wp2
  go_ret3
  exact ⟨rfl, Below.refl _ _⟩
set_option maxRecDepth 100000 in
set_option maxHeartbeats 1000000 in
theorem pi_noT (s : ByteArray) (y m d e p : Int) (w : World) (hG : GlobOk w) (h64 : s.size ≤ 64) (hi : Lib.indexByte s.data.toList 84 = -1) (hd : cal_ParseDate.f s = some (y, m, d, e, p)) (R : Int × Int × Int) (hR : (if e ≠ 0 then (0, e, p) else (0, 32, (s.size : Int))) = R) :
    Calls Tryd.prog 30 #[.string s] w fun e w' => e = .returned (.tuple #[.int .i64 R.1, .int .i64 R.2.1, .int .i64 R.2.2]) ∧ Below w.heap.size w w' := by
  have HC := Lib.hid (cut_no s w hi)
  have HD := Lib.hid (fun W hW => cal_ParseDate.calls s y m d e p W hW hd)
  have HG := Lib.hid hG
  clear hi hd hG
  by_cases he : e = 0
  · subst he
    obtain rfl := (if_neg (by simp)).symm.trans hR
    go_enter Tryd.func30, Tryd.ntmps30
    go_wp2_with (first | (go_at_call 61; refine HC.out.mono ?_; rintro e w1 ⟨rfl, hb1⟩; have HB1 := Lib.hid hb1; clear hb1) | (go_at_call 21; refine (HD.out _ (GlobOk.below HG.out HB1.out)).mono ?_; rintro e w2 ⟨rfl, hb2⟩; have HB2 := Lib.hid (below_step HB1.out hb2); clear hb2))
    go_ret3
    exact ⟨rfl, below_alloc HB2.out _⟩
  · have he2 : (e != 0) = true := bne_iff_ne.2 he
    obtain rfl := (if_pos he).symm.trans hR
    clear he hR
    go_enter Tryd.func30, Tryd.ntmps30
    go_wp2_with (first | (go_at_call 61; refine HC.out.mono ?_; rintro e w1 ⟨rfl, hb1⟩; have HB1 := Lib.hid hb1; clear hb1) | (go_at_call 21; refine (HD.out _ (GlobOk.below HG.out HB1.out)).mono ?_; rintro e w2 ⟨rfl, hb2⟩; have HB2 := Lib.hid (below_step HB1.out hb2); clear hb2))
    go_ret3
    exact ⟨rfl, below_alloc HB2.out _⟩
set_option maxRecDepth 100000 in
set_option maxHeartbeats 1000000 in
theorem pi_bad (s : ByteArray) (i : Nat) (y m d e p : Int) (w : World) (hG : GlobOk w) (h64 : s.size ≤ 64) (hi : Lib.indexByte s.data.toList 84 = i) (hl : i < s.size) (hd : cal_ParseDate.f (s.extract 0 i) = some (y, m, d, e, p)) (he : e ≠ 0) :
    Calls Tryd.prog 30 #[.string s] w fun E w' => E = .returned (.tuple #[.int .i64 0, .int .i64 e, .int .i64 p]) ∧ Below w.heap.size w w' := by
  have HC := Lib.hid (cut_yes s i w h64 hl hi)
  have HD := Lib.hid (fun W hW => cal_ParseDate.calls (s.extract 0 i) y m d e p W hW hd)
  have HG := Lib.hid hG
  have he2 : (e != 0) = true := bne_iff_ne.2 he
  clear hi hd hG he
  go_enter Tryd.func30, Tryd.ntmps30
  go_wp2_with (first | (go_at_call 61; refine HC.out.mono ?_; rintro e w1 ⟨rfl, hb1⟩; have HB1 := Lib.hid hb1; clear hb1) | (go_at_call 21; refine (HD.out _ (GlobOk.below HG.out HB1.out)).mono ?_; rintro e w2 ⟨rfl, hb2⟩; have HB2 := Lib.hid (below_step HB1.out hb2); clear hb2))
  go_ret3
  exact ⟨rfl, below_alloc HB2.out _⟩
set_option maxRecDepth 100000 in
set_option maxHeartbeats 2000000 in
theorem pi_clk0 (s : ByteArray) (i : Nat) (y m d p : Int) (w : World) (hG : GlobOk w) (h64 : s.size ≤ 64) (hi : Lib.indexByte s.data.toList 84 = i) (hl : i < s.size) (hd : cal_ParseDate.f (s.extract 0 i) = some (y, m, d, 0, p)) (ho : odd8 (s.extract (i + 1) s.size) = false) (hk : kA (s.extract (i + 1) s.size) = -1) (ext : Bool) (hx : decide (0 ≤ Lib.indexByte (s.extract 0 i).data.toList 45) = ext) (c1 c3 : Int) (hc : clockF (s.extract (i + 1) s.size) ext = (c1, false, c3)) (b1 : 0 ≤ c1 ∧ c1 ≤ 100000) (b3 : 0 ≤ c3 ∧ c3 ≤ 1000) :
    Calls Tryd.prog 30 #[.string s] w fun E w' => E = .returned (.tuple #[.int .i64 0, .int .i64 32, .int .i64 (((s.extract 0 i).size : Int) + 1 + c3)]) ∧ Below w.heap.size w w' := by
  have HC := Lib.hid (cut_yes s i w h64 hl hi)
  have HD := Lib.hid (fun W hW => cal_ParseDate.calls (s.extract 0 i) y m d 0 p W hW hd)
  have HG := Lib.hid hG
  have zf : (s.extract 0 i).size = i := by rw [ByteArray.size_extract]; omega
  have zr : (s.extract (i + 1) s.size).size = s.size - (i + 1) := by rw [ByteArray.size_extract]; omega
  have HK := Lib.hid (fun W => con_call (s.extract 0 i) W)
  rw [hx] at HK
  have HA : Hid (∀ W, Calls Tryd.prog 63 #[.string (s.extract (i + 1) s.size), .string (⟨#[90, 43, 45]⟩ : ByteArray)] W fun e w' => e = .returned (.int .i64 (-1)) ∧ Below W.heap.size W w') := by
    intro W; have := any_call (s.extract (i + 1) s.size) W (by omega) ho; rw [show Lib.indexAny (s.extract (i + 1) s.size).data.toList [90, 43, 45] = -1 from hk] at this; exact this
  have HL := Lib.hid (fun W => clock_calls (s.extract (i + 1) s.size) ext W)
  rw [hc] at HL
  clear hi hd hG hx hc ho hk
  have sb : s.size ≤ 64 := h64
  generalize hF : s.extract 0 i = F at *
  generalize hRr : s.extract (i + 1) s.size = R at *
  clear hF hRr
  have fb : F.size ≤ 64 := by omega
  have rb : R.size ≤ 64 := by omega
  clear zf zr hl
  obtain ⟨b11, b12⟩ := b1
  obtain ⟨b31, b32⟩ := b3
  go_enter Tryd.func30, Tryd.ntmps30
  go_wp2_with (first | (go_at_call 61; refine HC.out.mono ?_; rintro e w1 ⟨rfl, hb1⟩; have HB1 := Lib.hid hb1; clear hb1) | (go_at_call 21; refine (HD.out _ (GlobOk.below HG.out HB1.out)).mono ?_; rintro e w2 ⟨rfl, hb2⟩; have HB2 := Lib.hid (below_step HB1.out hb2); clear hb2) | (go_at_call 62; refine (HK.out _).mono ?_; rintro e w3 ⟨rfl, hb3⟩; have HD3 : Hid (w3.heap[w2.heap.size]? = some (.cells #[.int .i64 y, .int .i64 m, .int .i64 d] 23 (0, 0))) := (hb3.block _ (by simp)).trans (blk_new w2 _); have HB3 := Lib.hid (below_step (below_alloc HB2.out _) hb3); clear hb3) | (go_at_call 63; refine (HA.out _).mono ?_; rintro e w4 ⟨rfl, hb4⟩; have HD4 := Lib.hid (blk_below HD3.out hb4); have HB4 := Lib.hid (below_step HB3.out hb4); clear hb4) | (go_at_call 64; refine (HL.out _).mono ?_; rintro e w5 ⟨rfl, hb5⟩; have HD5 := Lib.hid (blk_below HD4.out hb5); have HB5 := Lib.hid (below_step HB4.out hb5); clear hb5))
  go_ret3
  exact ⟨rfl, HB5.out⟩
set_option maxRecDepth 100000 in
set_option maxHeartbeats 2000000 in
theorem pi_clk1 (s : ByteArray) (i : Nat) (y m d p : Int) (w : World) (hG : GlobOk w) (h64 : s.size ≤ 64) (hi : Lib.indexByte s.data.toList 84 = i) (hl : i < s.size) (hd : cal_ParseDate.f (s.extract 0 i) = some (y, m, d, 0, p)) (ho : odd8 (s.extract (i + 1) s.size) = false) (k : Nat) (hk : kA (s.extract (i + 1) s.size) = k) (ext : Bool) (hx : decide (0 ≤ Lib.indexByte (s.extract 0 i).data.toList 45) = ext) (c1 c3 : Int) (hc : clockF ((s.extract (i + 1) s.size).extract 0 k) ext = (c1, false, c3)) (b1 : 0 ≤ c1 ∧ c1 ≤ 100000) (b3 : 0 ≤ c3 ∧ c3 ≤ 1000) :
    Calls Tryd.prog 30 #[.string s] w fun E w' => E = .returned (.tuple #[.int .i64 0, .int .i64 32, .int .i64 (((s.extract 0 i).size : Int) + 1 + c3)]) ∧ Below w.heap.size w w' := by
  have HC := Lib.hid (cut_yes s i w h64 hl hi)
  have HD := Lib.hid (fun W hW => cal_ParseDate.calls (s.extract 0 i) y m d 0 p W hW hd)
  have HG := Lib.hid hG
  have zf : (s.extract 0 i).size = i := by rw [ByteArray.size_extract]; omega
  have zr : (s.extract (i + 1) s.size).size = s.size - (i + 1) := by rw [ByteArray.size_extract]; omega
  have HK := Lib.hid (fun W => con_call (s.extract 0 i) W)
  rw [hx] at HK
  have HA : Hid (∀ W, Calls Tryd.prog 63 #[.string (s.extract (i + 1) s.size), .string (⟨#[90, 43, 45]⟩ : ByteArray)] W fun e w' => e = .returned (.int .i64 k) ∧ Below W.heap.size W w') := by
    intro W; have := any_call (s.extract (i + 1) s.size) W (by omega) ho; rw [show Lib.indexAny (s.extract (i + 1) s.size).data.toList [90, 43, 45] = (k : Int) from hk] at this; exact this
  have kb : k ≤ (s.extract (i + 1) s.size).size := by have := (kA_bd (s.extract (i + 1) s.size)).2; omega
  have HL := Lib.hid (fun W => clock_calls ((s.extract (i + 1) s.size).extract 0 k) ext W)
  rw [hc] at HL
  clear hi hd hG hx hc ho hk
  have sb : s.size ≤ 64 := h64
  generalize hF : s.extract 0 i = F at *
  generalize hRr : s.extract (i + 1) s.size = R at *
  clear hF hRr
  have fb : F.size ≤ 64 := by omega
  have rb : R.size ≤ 64 := by omega
  clear zf zr hl
  have kb1 : (k : Int) ≤ (R.size : Int) := by omega
  have kb2 : k ≤ R.size := kb
  obtain ⟨b11, b12⟩ := b1
  obtain ⟨b31, b32⟩ := b3
  go_enter Tryd.func30, Tryd.ntmps30
  go_wp2_with (first | (go_at_call 61; refine HC.out.mono ?_; rintro e w1 ⟨rfl, hb1⟩; have HB1 := Lib.hid hb1; clear hb1) | (go_at_call 21; refine (HD.out _ (GlobOk.below HG.out HB1.out)).mono ?_; rintro e w2 ⟨rfl, hb2⟩; have HB2 := Lib.hid (below_step HB1.out hb2); clear hb2) | (go_at_call 62; refine (HK.out _).mono ?_; rintro e w3 ⟨rfl, hb3⟩; have HD3 : Hid (w3.heap[w2.heap.size]? = some (.cells #[.int .i64 y, .int .i64 m, .int .i64 d] 23 (0, 0))) := (hb3.block _ (by simp)).trans (blk_new w2 _); have HB3 := Lib.hid (below_step (below_alloc HB2.out _) hb3); clear hb3) | (go_at_call 63; refine (HA.out _).mono ?_; rintro e w4 ⟨rfl, hb4⟩; have HD4 := Lib.hid (blk_below HD3.out hb4); have HB4 := Lib.hid (below_step HB3.out hb4); clear hb4) | (go_at_call 64; refine (HL.out _).mono ?_; rintro e w5 ⟨rfl, hb5⟩; have HD5 := Lib.hid (blk_below HD4.out hb5); have HB5 := Lib.hid (below_step HB4.out hb5); clear hb5))
  go_ret3
  exact ⟨rfl, HB5.out⟩
set_option maxRecDepth 100000 in
set_option maxHeartbeats 2000000 in
theorem pi_noz (s : ByteArray) (i : Nat) (y m d p : Int) (w : World) (hG : GlobOk w) (h64 : s.size ≤ 64) (hi : Lib.indexByte s.data.toList 84 = i) (hl : i < s.size) (hd : cal_ParseDate.f (s.extract 0 i) = some (y, m, d, 0, p)) (ho : odd8 (s.extract (i + 1) s.size) = false) (hk : kA (s.extract (i + 1) s.size) = -1) (ext : Bool) (hx : decide (0 ≤ Lib.indexByte (s.extract 0 i).data.toList 45) = ext) (c1 c3 : Int) (hc : clockF (s.extract (i + 1) s.size) ext = (c1, true, c3)) (b1 : 0 ≤ c1 ∧ c1 ≤ 100000) (b3 : 0 ≤ c3 ∧ c3 ≤ 1000) :
    Calls Tryd.prog 30 #[.string s] w fun E w' => E = .returned (.tuple #[.int .i64 0, .int .i64 33, .int .i64 s.size]) ∧ Below w.heap.size w w' := by
  have HC := Lib.hid (cut_yes s i w h64 hl hi)
  have HD := Lib.hid (fun W hW => cal_ParseDate.calls (s.extract 0 i) y m d 0 p W hW hd)
  have HG := Lib.hid hG
  have zf : (s.extract 0 i).size = i := by rw [ByteArray.size_extract]; omega
  have zr : (s.extract (i + 1) s.size).size = s.size - (i + 1) := by rw [ByteArray.size_extract]; omega
  have HK := Lib.hid (fun W => con_call (s.extract 0 i) W)
  rw [hx] at HK
  have HA : Hid (∀ W, Calls Tryd.prog 63 #[.string (s.extract (i + 1) s.size), .string (⟨#[90, 43, 45]⟩ : ByteArray)] W fun e w' => e = .returned (.int .i64 (-1)) ∧ Below W.heap.size W w') := by
    intro W; have := any_call (s.extract (i + 1) s.size) W (by omega) ho; rw [show Lib.indexAny (s.extract (i + 1) s.size).data.toList [90, 43, 45] = -1 from hk] at this; exact this
  have HL := Lib.hid (fun W => clock_calls (s.extract (i + 1) s.size) ext W)
  rw [hc] at HL
  clear hi hd hG hx hc ho hk
  have sb : s.size ≤ 64 := h64
  generalize hF : s.extract 0 i = F at *
  generalize hRr : s.extract (i + 1) s.size = R at *
  clear hF hRr
  have fb : F.size ≤ 64 := by omega
  have rb : R.size ≤ 64 := by omega
  clear zf zr hl
  obtain ⟨b11, b12⟩ := b1
  obtain ⟨b31, b32⟩ := b3
  go_enter Tryd.func30, Tryd.ntmps30
  go_wp2_with (first | (go_at_call 61; refine HC.out.mono ?_; rintro e w1 ⟨rfl, hb1⟩; have HB1 := Lib.hid hb1; clear hb1) | (go_at_call 21; refine (HD.out _ (GlobOk.below HG.out HB1.out)).mono ?_; rintro e w2 ⟨rfl, hb2⟩; have HB2 := Lib.hid (below_step HB1.out hb2); clear hb2) | (go_at_call 62; refine (HK.out _).mono ?_; rintro e w3 ⟨rfl, hb3⟩; have HD3 : Hid (w3.heap[w2.heap.size]? = some (.cells #[.int .i64 y, .int .i64 m, .int .i64 d] 23 (0, 0))) := (hb3.block _ (by simp)).trans (blk_new w2 _); have HB3 := Lib.hid (below_step (below_alloc HB2.out _) hb3); clear hb3) | (go_at_call 63; refine (HA.out _).mono ?_; rintro e w4 ⟨rfl, hb4⟩; have HD4 := Lib.hid (blk_below HD3.out hb4); have HB4 := Lib.hid (below_step HB3.out hb4); clear hb4) | (go_at_call 64; refine (HL.out _).mono ?_; rintro e w5 ⟨rfl, hb5⟩; have HD5 := Lib.hid (blk_below HD4.out hb5); have HB5 := Lib.hid (below_step HB4.out hb5); clear hb5))
  go_ret3
  exact ⟨rfl, HB5.out⟩
set_option maxRecDepth 100000 in
set_option maxHeartbeats 2000000 in
theorem pi_zone (s : ByteArray) (i : Nat) (y m d p : Int) (w : World) (hG : GlobOk w) (h64 : s.size ≤ 64) (hi : Lib.indexByte s.data.toList 84 = i) (hl : i < s.size) (hd : cal_ParseDate.f (s.extract 0 i) = some (y, m, d, 0, p)) (ho : odd8 (s.extract (i + 1) s.size) = false) (k : Nat) (hk : kA (s.extract (i + 1) s.size) = k) (ext : Bool) (hx : decide (0 ≤ Lib.indexByte (s.extract 0 i).data.toList 45) = ext) (c1 c3 : Int) (hc : clockF ((s.extract (i + 1) s.size).extract 0 k) ext = (c1, true, c3)) (b1 : 0 ≤ c1 ∧ c1 ≤ 100000) (b3 : 0 ≤ c3 ∧ c3 ≤ 1000) (z1 z3 : Int) (hz : cal_zone.f 100 ((s.extract (i + 1) s.size).extract k (s.extract (i + 1) s.size).size) ext = some (z1, false, z3)) (b4 : -100000 ≤ z1 ∧ z1 ≤ 100000) (b5 : 0 ≤ z3 ∧ z3 ≤ 1000) :
    Calls Tryd.prog 30 #[.string s] w fun E w' => E = .returned (.tuple #[.int .i64 0, .int .i64 33, .int .i64 (((s.extract 0 i).size : Int) + 1 + k + z3)]) ∧ Below w.heap.size w w' := by
  have HC := Lib.hid (cut_yes s i w h64 hl hi)
  have HD := Lib.hid (fun W hW => cal_ParseDate.calls (s.extract 0 i) y m d 0 p W hW hd)
  have HG := Lib.hid hG
  have zf : (s.extract 0 i).size = i := by rw [ByteArray.size_extract]; omega
  have zr : (s.extract (i + 1) s.size).size = s.size - (i + 1) := by rw [ByteArray.size_extract]; omega
  have HK := Lib.hid (fun W => con_call (s.extract 0 i) W)
  rw [hx] at HK
  have HA : Hid (∀ W, Calls Tryd.prog 63 #[.string (s.extract (i + 1) s.size), .string (⟨#[90, 43, 45]⟩ : ByteArray)] W fun e w' => e = .returned (.int .i64 k) ∧ Below W.heap.size W w') := by
    intro W; have := any_call (s.extract (i + 1) s.size) W (by omega) ho; rw [show Lib.indexAny (s.extract (i + 1) s.size).data.toList [90, 43, 45] = (k : Int) from hk] at this; exact this
  have kb : k ≤ (s.extract (i + 1) s.size).size := by have := (kA_bd (s.extract (i + 1) s.size)).2; omega
  have HL := Lib.hid (fun W => clock_calls ((s.extract (i + 1) s.size).extract 0 k) ext W)
  rw [hc] at HL
  have HZ := Lib.hid (fun W => cal_zone.calls 100 ((s.extract (i + 1) s.size).extract k (s.extract (i + 1) s.size).size) ext z1 false z3 W hz)
  clear hi hd hG hx hc ho hk hz
  have sb : s.size ≤ 64 := h64
  generalize hF : s.extract 0 i = F at *
  generalize hRr : s.extract (i + 1) s.size = R at *
  clear hF hRr
  have fb : F.size ≤ 64 := by omega
  have rb : R.size ≤ 64 := by omega
  clear zf zr hl
  have kb1 : (k : Int) ≤ (R.size : Int) := by omega
  have kb2 : k ≤ R.size := kb
  obtain ⟨b11, b12⟩ := b1
  obtain ⟨b31, b32⟩ := b3
  obtain ⟨b41, b42⟩ := b4
  obtain ⟨b51, b52⟩ := b5
  go_enter Tryd.func30, Tryd.ntmps30
  go_wp2_with (first | (go_at_call 61; refine HC.out.mono ?_; rintro e w1 ⟨rfl, hb1⟩; have HB1 := Lib.hid hb1; clear hb1) | (go_at_call 21; refine (HD.out _ (GlobOk.below HG.out HB1.out)).mono ?_; rintro e w2 ⟨rfl, hb2⟩; have HB2 := Lib.hid (below_step HB1.out hb2); clear hb2) | (go_at_call 62; refine (HK.out _).mono ?_; rintro e w3 ⟨rfl, hb3⟩; have HD3 : Hid (w3.heap[w2.heap.size]? = some (.cells #[.int .i64 y, .int .i64 m, .int .i64 d] 23 (0, 0))) := (hb3.block _ (by simp)).trans (blk_new w2 _); have HB3 := Lib.hid (below_step (below_alloc HB2.out _) hb3); clear hb3) | (go_at_call 63; refine (HA.out _).mono ?_; rintro e w4 ⟨rfl, hb4⟩; have HD4 := Lib.hid (blk_below HD3.out hb4); have HB4 := Lib.hid (below_step HB3.out hb4); clear hb4) | (go_at_call 64; refine (HL.out _).mono ?_; rintro e w5 ⟨rfl, hb5⟩; have HD5 := Lib.hid (blk_below HD4.out hb5); have HB5 := Lib.hid (below_step HB4.out hb5); clear hb5) | (go_at_call 65; refine (HZ.out _).mono ?_; rintro e w6 ⟨rfl, hb6⟩; have hD6 := blk_below HD5.out hb6; have dc0 : w6.cell? ⟨w2.heap.size, 0, none⟩ = some (.int .i64 y) := (blk_cell hD6 0).trans rfl; have dc1 : w6.cell? ⟨w2.heap.size, 1, none⟩ = some (.int .i64 m) := (blk_cell hD6 1).trans rfl; have dc2 : w6.cell? ⟨w2.heap.size, 2, none⟩ = some (.int .i64 d) := (blk_cell hD6 2).trans rfl; have HB6 := Lib.hid (below_step HB5.out hb6); clear hb6 hD6))
  go_ret3
  exact ⟨rfl, HB6.out⟩
set_option maxRecDepth 100000 in
set_option maxHeartbeats 2000000 in
theorem pi_rng (s : ByteArray) (i : Nat) (y m d p : Int) (w : World) (hG : GlobOk w) (h64 : s.size ≤ 64) (hi : Lib.indexByte s.data.toList 84 = i) (hl : i < s.size) (hd : cal_ParseDate.f (s.extract 0 i) = some (y, m, d, 0, p)) (ho : odd8 (s.extract (i + 1) s.size) = false) (k : Nat) (hk : kA (s.extract (i + 1) s.size) = k) (ext : Bool) (hx : decide (0 ≤ Lib.indexByte (s.extract 0 i).data.toList 45) = ext) (c1 c3 : Int) (hc : clockF ((s.extract (i + 1) s.size).extract 0 k) ext = (c1, true, c3)) (b1 : 0 ≤ c1 ∧ c1 ≤ 100000) (b3 : 0 ≤ c3 ∧ c3 ≤ 1000) (z1 z3 : Int) (hz : cal_zone.f 100 ((s.extract (i + 1) s.size).extract k (s.extract (i + 1) s.size).size) ext = some (z1, true, z3)) (b4 : -100000 ≤ z1 ∧ z1 ≤ 100000) (b5 : 0 ≤ z3 ∧ z3 ≤ 1000) (n : Int) (hn : cal_number.f y m d = some n) (bn : 0 ≤ n ∧ n ≤ 3652424) (hr : (n * 86400 + c1 - 60 * z1 < 0 ∨ 315569519999 < n * 86400 + c1 - 60 * z1)) :
    Calls Tryd.prog 30 #[.string s] w fun E w' => E = .returned (.tuple #[.int .i64 0, .int .i64 35, .int .i64 0]) ∧ Below w.heap.size w w' := by
  have HC := Lib.hid (cut_yes s i w h64 hl hi)
  have HD := Lib.hid (fun W hW => cal_ParseDate.calls (s.extract 0 i) y m d 0 p W hW hd)
  have HG := Lib.hid hG
  have zf : (s.extract 0 i).size = i := by rw [ByteArray.size_extract]; omega
  have zr : (s.extract (i + 1) s.size).size = s.size - (i + 1) := by rw [ByteArray.size_extract]; omega
  have HK := Lib.hid (fun W => con_call (s.extract 0 i) W)
  rw [hx] at HK
  have HA : Hid (∀ W, Calls Tryd.prog 63 #[.string (s.extract (i + 1) s.size), .string (⟨#[90, 43, 45]⟩ : ByteArray)] W fun e w' => e = .returned (.int .i64 k) ∧ Below W.heap.size W w') := by
    intro W; have := any_call (s.extract (i + 1) s.size) W (by omega) ho; rw [show Lib.indexAny (s.extract (i + 1) s.size).data.toList [90, 43, 45] = (k : Int) from hk] at this; exact this
  have kb : k ≤ (s.extract (i + 1) s.size).size := by have := (kA_bd (s.extract (i + 1) s.size)).2; omega
  have HL := Lib.hid (fun W => clock_calls ((s.extract (i + 1) s.size).extract 0 k) ext W)
  rw [hc] at HL
  have HZ := Lib.hid (fun W => cal_zone.calls 100 ((s.extract (i + 1) s.size).extract k (s.extract (i + 1) s.size).size) ext z1 true z3 W hz)
  have HN := Lib.hid (fun W hW => cal_number.calls y m d n W hW hn)
  clear hi hd hG hx hc ho hk hz hn
  have sb : s.size ≤ 64 := h64
  generalize hF : s.extract 0 i = F at *
  generalize hRr : s.extract (i + 1) s.size = R at *
  clear hF hRr
  have fb : F.size ≤ 64 := by omega
  have rb : R.size ≤ 64 := by omega
  clear zf zr hl
  have kb1 : (k : Int) ≤ (R.size : Int) := by omega
  have kb2 : k ≤ R.size := kb
  obtain ⟨b11, b12⟩ := b1
  obtain ⟨b31, b32⟩ := b3
  obtain ⟨b41, b42⟩ := b4
  obtain ⟨b51, b52⟩ := b5
  obtain ⟨n1, n2⟩ := bn
  have e1 : IntKind.i64.wrap (n * 86400) = n * 86400 := IntWalk.i64_in _ (by omega)
  have e2 : IntKind.i64.wrap (n * 86400 + c1) = n * 86400 + c1 := IntWalk.i64_in _ (by omega)
  have e3 : IntKind.i64.wrap (60 * z1) = 60 * z1 := IntWalk.i64_in _ (by omega)
  have e4 : IntKind.i64.wrap (n * 86400 + c1 - 60 * z1) = n * 86400 + c1 - 60 * z1 := IntWalk.i64_in _ (by omega)
  by_cases hneg : n * 86400 + c1 - 60 * z1 < 0
  case' pos => have hq : decide (n * 86400 + c1 - 60 * z1 < 0) = true := decide_eq_true hneg
  case' neg => have hq : decide (n * 86400 + c1 - 60 * z1 < 0) = false := decide_eq_false hneg; have hq2 : decide (315569519999 < n * 86400 + c1 - 60 * z1) = true := decide_eq_true (hr.resolve_left hneg)
  all_goals clear hneg hr
  all_goals
    go_enter Tryd.func30, Tryd.ntmps30
    go_wp2_with (first | (go_at_call 61; refine HC.out.mono ?_; rintro e w1 ⟨rfl, hb1⟩; have HB1 := Lib.hid hb1; clear hb1) | (go_at_call 21; refine (HD.out _ (GlobOk.below HG.out HB1.out)).mono ?_; rintro e w2 ⟨rfl, hb2⟩; have HB2 := Lib.hid (below_step HB1.out hb2); clear hb2) | (go_at_call 62; refine (HK.out _).mono ?_; rintro e w3 ⟨rfl, hb3⟩; have HD3 : Hid (w3.heap[w2.heap.size]? = some (.cells #[.int .i64 y, .int .i64 m, .int .i64 d] 23 (0, 0))) := (hb3.block _ (by simp)).trans (blk_new w2 _); have HB3 := Lib.hid (below_step (below_alloc HB2.out _) hb3); clear hb3) | (go_at_call 63; refine (HA.out _).mono ?_; rintro e w4 ⟨rfl, hb4⟩; have HD4 := Lib.hid (blk_below HD3.out hb4); have HB4 := Lib.hid (below_step HB3.out hb4); clear hb4) | (go_at_call 64; refine (HL.out _).mono ?_; rintro e w5 ⟨rfl, hb5⟩; have HD5 := Lib.hid (blk_below HD4.out hb5); have HB5 := Lib.hid (below_step HB4.out hb5); clear hb5) | (go_at_call 65; refine (HZ.out _).mono ?_; rintro e w6 ⟨rfl, hb6⟩; have hD6 := blk_below HD5.out hb6; have dc0 : w6.cell? ⟨w2.heap.size, 0, none⟩ = some (.int .i64 y) := (blk_cell hD6 0).trans rfl; have dc1 : w6.cell? ⟨w2.heap.size, 1, none⟩ = some (.int .i64 m) := (blk_cell hD6 1).trans rfl; have dc2 : w6.cell? ⟨w2.heap.size, 2, none⟩ = some (.int .i64 d) := (blk_cell hD6 2).trans rfl; have HB6 := Lib.hid (below_step HB5.out hb6); clear hb6 hD6) | (go_at_call 34; refine (HN.out _ (GlobOk.below HG.out HB6.out)).mono ?_; rintro e w7 ⟨rfl, hb7⟩; have HB7 := Lib.hid (below_step HB6.out hb7); clear hb7))
    go_ret3
    exact ⟨rfl, HB7.out⟩
set_option maxRecDepth 100000 in
set_option maxHeartbeats 2000000 in
theorem pi_ok (s : ByteArray) (i : Nat) (y m d p : Int) (w : World) (hG : GlobOk w) (h64 : s.size ≤ 64) (hi : Lib.indexByte s.data.toList 84 = i) (hl : i < s.size) (hd : cal_ParseDate.f (s.extract 0 i) = some (y, m, d, 0, p)) (ho : odd8 (s.extract (i + 1) s.size) = false) (k : Nat) (hk : kA (s.extract (i + 1) s.size) = k) (ext : Bool) (hx : decide (0 ≤ Lib.indexByte (s.extract 0 i).data.toList 45) = ext) (c1 c3 : Int) (hc : clockF ((s.extract (i + 1) s.size).extract 0 k) ext = (c1, true, c3)) (b1 : 0 ≤ c1 ∧ c1 ≤ 100000) (b3 : 0 ≤ c3 ∧ c3 ≤ 1000) (z1 z3 : Int) (hz : cal_zone.f 100 ((s.extract (i + 1) s.size).extract k (s.extract (i + 1) s.size).size) ext = some (z1, true, z3)) (b4 : -100000 ≤ z1 ∧ z1 ≤ 100000) (b5 : 0 ≤ z3 ∧ z3 ≤ 1000) (n : Int) (hn : cal_number.f y m d = some n) (bn : 0 ≤ n ∧ n ≤ 3652424) (hr : ¬ (n * 86400 + c1 - 60 * z1 < 0 ∨ 315569519999 < n * 86400 + c1 - 60 * z1)) :
    Calls Tryd.prog 30 #[.string s] w fun E w' => E = .returned (.tuple #[.int .i64 (n * 86400 + c1 - 60 * z1), .int .i64 0, .int .i64 0]) ∧ Below w.heap.size w w' := by
  have HC := Lib.hid (cut_yes s i w h64 hl hi)
  have HD := Lib.hid (fun W hW => cal_ParseDate.calls (s.extract 0 i) y m d 0 p W hW hd)
  have HG := Lib.hid hG
  have zf : (s.extract 0 i).size = i := by rw [ByteArray.size_extract]; omega
  have zr : (s.extract (i + 1) s.size).size = s.size - (i + 1) := by rw [ByteArray.size_extract]; omega
  have HK := Lib.hid (fun W => con_call (s.extract 0 i) W)
  rw [hx] at HK
  have HA : Hid (∀ W, Calls Tryd.prog 63 #[.string (s.extract (i + 1) s.size), .string (⟨#[90, 43, 45]⟩ : ByteArray)] W fun e w' => e = .returned (.int .i64 k) ∧ Below W.heap.size W w') := by
    intro W; have := any_call (s.extract (i + 1) s.size) W (by omega) ho; rw [show Lib.indexAny (s.extract (i + 1) s.size).data.toList [90, 43, 45] = (k : Int) from hk] at this; exact this
  have kb : k ≤ (s.extract (i + 1) s.size).size := by have := (kA_bd (s.extract (i + 1) s.size)).2; omega
  have HL := Lib.hid (fun W => clock_calls ((s.extract (i + 1) s.size).extract 0 k) ext W)
  rw [hc] at HL
  have HZ := Lib.hid (fun W => cal_zone.calls 100 ((s.extract (i + 1) s.size).extract k (s.extract (i + 1) s.size).size) ext z1 true z3 W hz)
  have HN := Lib.hid (fun W hW => cal_number.calls y m d n W hW hn)
  clear hi hd hG hx hc ho hk hz hn
  have sb : s.size ≤ 64 := h64
  generalize hF : s.extract 0 i = F at *
  generalize hRr : s.extract (i + 1) s.size = R at *
  clear hF hRr
  have fb : F.size ≤ 64 := by omega
  have rb : R.size ≤ 64 := by omega
  clear zf zr hl
  have kb1 : (k : Int) ≤ (R.size : Int) := by omega
  have kb2 : k ≤ R.size := kb
  obtain ⟨b11, b12⟩ := b1
  obtain ⟨b31, b32⟩ := b3
  obtain ⟨b41, b42⟩ := b4
  obtain ⟨b51, b52⟩ := b5
  obtain ⟨n1, n2⟩ := bn
  have e1 : IntKind.i64.wrap (n * 86400) = n * 86400 := IntWalk.i64_in _ (by omega)
  have e2 : IntKind.i64.wrap (n * 86400 + c1) = n * 86400 + c1 := IntWalk.i64_in _ (by omega)
  have e3 : IntKind.i64.wrap (60 * z1) = 60 * z1 := IntWalk.i64_in _ (by omega)
  have e4 : IntKind.i64.wrap (n * 86400 + c1 - 60 * z1) = n * 86400 + c1 - 60 * z1 := IntWalk.i64_in _ (by omega)
  have hq : decide (n * 86400 + c1 - 60 * z1 < 0) = false := decide_eq_false (fun z => hr (.inl z))
  have hq2 : decide (315569519999 < n * 86400 + c1 - 60 * z1) = false := decide_eq_false (fun z => hr (.inr z))
  clear hr
  go_enter Tryd.func30, Tryd.ntmps30
  go_wp2_with (first | (go_at_call 61; refine HC.out.mono ?_; rintro e w1 ⟨rfl, hb1⟩; have HB1 := Lib.hid hb1; clear hb1) | (go_at_call 21; refine (HD.out _ (GlobOk.below HG.out HB1.out)).mono ?_; rintro e w2 ⟨rfl, hb2⟩; have HB2 := Lib.hid (below_step HB1.out hb2); clear hb2) | (go_at_call 62; refine (HK.out _).mono ?_; rintro e w3 ⟨rfl, hb3⟩; have HD3 : Hid (w3.heap[w2.heap.size]? = some (.cells #[.int .i64 y, .int .i64 m, .int .i64 d] 23 (0, 0))) := (hb3.block _ (by simp)).trans (blk_new w2 _); have HB3 := Lib.hid (below_step (below_alloc HB2.out _) hb3); clear hb3) | (go_at_call 63; refine (HA.out _).mono ?_; rintro e w4 ⟨rfl, hb4⟩; have HD4 := Lib.hid (blk_below HD3.out hb4); have HB4 := Lib.hid (below_step HB3.out hb4); clear hb4) | (go_at_call 64; refine (HL.out _).mono ?_; rintro e w5 ⟨rfl, hb5⟩; have HD5 := Lib.hid (blk_below HD4.out hb5); have HB5 := Lib.hid (below_step HB4.out hb5); clear hb5) | (go_at_call 65; refine (HZ.out _).mono ?_; rintro e w6 ⟨rfl, hb6⟩; have hD6 := blk_below HD5.out hb6; have dc0 : w6.cell? ⟨w2.heap.size, 0, none⟩ = some (.int .i64 y) := (blk_cell hD6 0).trans rfl; have dc1 : w6.cell? ⟨w2.heap.size, 1, none⟩ = some (.int .i64 m) := (blk_cell hD6 1).trans rfl; have dc2 : w6.cell? ⟨w2.heap.size, 2, none⟩ = some (.int .i64 d) := (blk_cell hD6 2).trans rfl; have HB6 := Lib.hid (below_step HB5.out hb6); clear hb6 hD6) | (go_at_call 34; refine (HN.out _ (GlobOk.below HG.out HB6.out)).mono ?_; rintro e w7 ⟨rfl, hb7⟩; have HB7 := Lib.hid (below_step HB6.out hb7); clear hb7))
  go_ret3
  exact ⟨rfl, HB7.out⟩
theorem inst3_calls (s : ByteArray) (i : Nat) (y m d p : Int) (w : World) (hG : GlobOk w) (h64 : s.size ≤ 64) (hi : iT s = i) (hd : cal_ParseDate.f (s.extract 0 i) = some (y, m, d, 0, p)) (ho : odd8 (s.extract (i + 1) s.size) = false)
    (r1 r2 r3 : Int) (h : inst3 s y m d (clockF (hrs (rstT s)) (extT s)) = some (r1, r2, r3)) :
    Calls Tryd.prog 30 #[.string s] w fun E w' => E = .returned (.tuple #[.int .i64 r1, .int .i64 r2, .int .i64 r3]) ∧ Below w.heap.size w w' := by
  have hl : i < s.size := by have := (iT_bd s).2; omega
  have e1 : fstT s = s.extract 0 i := by unfold fstT; rw [hi, if_pos (by omega)]; rfl
  have e2 : rstT s = s.extract (i + 1) s.size := by unfold rstT; rw [hi]; rfl
  obtain ⟨ext, hx⟩ : ∃ ext, extT s = ext := ⟨_, rfl⟩
  have hx2 : decide (0 ≤ Lib.indexByte (s.extract 0 i).data.toList 45) = ext := by rw [← e1]; exact hx
  rw [hx, e2] at h
  obtain ⟨⟨c1, c2, c3⟩, hc⟩ : ∃ c, clockF (hrs (s.extract (i + 1) s.size)) ext = c := ⟨_, rfl⟩
  rw [hc] at h
  unfold inst3 at h
  rw [e1, e2, hx] at h
  simp only at h
  by_cases b : 0 ≤ c1 ∧ c1 ≤ 100000 ∧ 0 ≤ c3 ∧ c3 ≤ 1000
  · rw [if_neg (fun z => z b)] at h
    have kb := kA_bd (s.extract (i + 1) s.size)
    cases c2 with
    | false =>
      rw [if_pos rfl] at h
      cases h
      by_cases hk : kA (s.extract (i + 1) s.size) < 0
      · have hk' : kA (s.extract (i + 1) s.size) = -1 := by omega
        have hh : hrs (s.extract (i + 1) s.size) = s.extract (i + 1) s.size := by unfold hrs; rw [if_neg (by omega)]
        rw [hh] at hc
        exact pi_clk0 s i y m d p w hG h64 hi hl hd ho hk' ext hx2 c1 c3 hc ⟨b.1, b.2.1⟩ b.2.2
      · obtain ⟨k, hk'⟩ : ∃ k : Nat, kA (s.extract (i + 1) s.size) = k := ⟨(kA (s.extract (i + 1) s.size)).toNat, by omega⟩
        have hh : hrs (s.extract (i + 1) s.size) = (s.extract (i + 1) s.size).extract 0 k := by unfold hrs; rw [hk', if_pos (by omega)]; rfl
        rw [hh] at hc
        exact pi_clk1 s i y m d p w hG h64 hi hl hd ho k hk' ext hx2 c1 c3 hc ⟨b.1, b.2.1⟩ b.2.2
    | true =>
      rw [if_neg (by decide)] at h
      by_cases hk : kA (s.extract (i + 1) s.size) < 0
      · rw [if_pos hk] at h
        cases h
        have hk' : kA (s.extract (i + 1) s.size) = -1 := by omega
        have hh : hrs (s.extract (i + 1) s.size) = s.extract (i + 1) s.size := by unfold hrs; rw [if_neg (by omega)]
        rw [hh] at hc
        exact pi_noz s i y m d p w hG h64 hi hl hd ho hk' ext hx2 c1 c3 hc ⟨b.1, b.2.1⟩ b.2.2
      · rw [if_neg hk] at h
        obtain ⟨k, hk'⟩ : ∃ k : Nat, kA (s.extract (i + 1) s.size) = k := ⟨(kA (s.extract (i + 1) s.size)).toNat, by omega⟩
        have hh : hrs (s.extract (i + 1) s.size) = (s.extract (i + 1) s.size).extract 0 k := by unfold hrs; rw [hk', if_pos (by omega)]; rfl
        rw [hh] at hc
        rw [hk'] at h
        obtain ⟨⟨z1, z2, z3⟩, hz, h⟩ := Option.bind_eq_some_iff.mp h
        have hz : cal_zone.f 100 ((s.extract (i + 1) s.size).extract k (s.extract (i + 1) s.size).size) ext = some (z1, z2, z3) := hz
        unfold inst4 at h
        simp only at h
        by_cases b' : -100000 ≤ z1 ∧ z1 ≤ 100000 ∧ 0 ≤ z3 ∧ z3 ≤ 1000
        · rw [if_neg (fun z => z b')] at h
          cases z2 with
          | false =>
            rw [if_pos rfl] at h
            cases h
            exact pi_zone s i y m d p w hG h64 hi hl hd ho k hk' ext hx2 c1 c3 hc ⟨b.1, b.2.1⟩ b.2.2 z1 z3 hz ⟨b'.1, b'.2.1⟩ b'.2.2
          | true =>
            rw [if_neg (by decide)] at h
            obtain ⟨n, hn, h⟩ := Option.bind_eq_some_iff.mp h
            have bn : 0 ≤ n ∧ n ≤ 3652424 := by
              unfold cal_number.f at hn
              by_cases v : vldB y m d = true
              · rw [if_pos v] at hn; cases hn; have := num_bd v; omega
              · rw [if_neg v] at hn; cases hn
            by_cases hr : n * 86400 + c1 - 60 * z1 < 0 ∨ 315569519999 < n * 86400 + c1 - 60 * z1
            · rw [if_pos hr] at h
              cases h
              exact pi_rng s i y m d p w hG h64 hi hl hd ho k hk' ext hx2 c1 c3 hc ⟨b.1, b.2.1⟩ b.2.2 z1 z3 hz ⟨b'.1, b'.2.1⟩ b'.2.2 n hn bn hr
            · rw [if_neg hr] at h
              cases h
              exact pi_ok s i y m d p w hG h64 hi hl hd ho k hk' ext hx2 c1 c3 hc ⟨b.1, b.2.1⟩ b.2.2 z1 z3 hz ⟨b'.1, b'.2.1⟩ b'.2.2 n hn bn hr
        · rw [if_pos b'] at h; cases h
  · rw [if_pos b] at h; cases h
theorem cal_ParseInstant.calls (s : ByteArray) (r1 r2 r3 : Int) (w : World) (hG : GlobOk w) (h : cal_ParseInstant.f s = some (r1, r2, r3)) :
    Calls Tryd.prog 30 #[.string s] w fun E w' => E = .returned (.tuple #[.int .i64 r1, .int .i64 r2, .int .i64 r3]) ∧ Below w.heap.size w w' := by
  unfold cal_ParseInstant.f at h
  by_cases h64 : s.size > 64
  · rw [if_pos h64] at h; cases h; exact pi_long s w h64
  · rw [if_neg h64] at h
    obtain ⟨⟨y, m, d, e, p⟩, hd, h⟩ := Option.bind_eq_some_iff.mp h
    simp only at h
    have ib := iT_bd s
    by_cases hi : iT s < 0
    · have hi' : Lib.indexByte s.data.toList 84 = -1 := show iT s = -1 by omega
      have e1 : fstT s = s := by unfold fstT; rw [if_neg (by omega)]
      rw [e1] at hd
      rw [if_pos hi] at h
      exact pi_noT s y m d e p w hG (by omega) hi' hd (r1, r2, r3) (Option.some.inj (by rw [← h]; split <;> rfl))
    · obtain ⟨i, hi'⟩ : ∃ i : Nat, iT s = i := ⟨(iT s).toNat, by omega⟩
      have e1 : fstT s = s.extract 0 i := by unfold fstT; rw [hi', if_pos (by omega)]; rfl
      have e2 : rstT s = s.extract (i + 1) s.size := by unfold rstT; rw [hi']; rfl
      rw [e1] at hd
      by_cases he : e = 0
      · subst he
        rw [if_neg (by simp), if_neg hi] at h
        by_cases ho : odd8 (rstT s) = true
        · rw [if_pos ho] at h; cases h
        · rw [if_neg ho] at h
          exact inst3_calls s i y m d p w hG (by omega) hi' hd (by rw [← e2]; exact eq_false_of_ne_true ho) r1 r2 r3 h
      · rw [if_pos he] at h
        cases h
        exact pi_bad s i y m d _ _ w hG (by omega) hi' (by omega) hd he
end Go.Proofs.YtiklakkkgmilnaaDoor.Ext

/- said: an error says just this fault. -/
import Derived.Test.YtappphffbnkloaaGreatDoorShtY
import Derived.Test.YtappphffbnkloaaGreatDoorShtWhy
import Derived.Test.YtappphffbnkloaaGreatDoorGSxf41
import Derived.Lib.ItoaMem
import Derived.Deep.DeepCutAuto
set_option linter.unusedVariables false
set_option linter.unusedSimpArgs false
namespace Go.Proofs.YtappphffbnkloaaGreatDoor.Sht
open Go Go.RowKit Go.Proofs.YtappphffbnkloaaGreatDoorW.PrintWords Go.Proofs.YtappphffbnkloaaGreatDoor.GS
attribute [local go_sem ↓] Go.wp_at_zero Go.wp_at_succ
/-- the reference's fault, as a value -/
abbrev fv (code line col pos why : Int) : Value := .agg #[.int .i64 code, .int .i64 line, .int .i64 col, .int .i64 pos, .int .i64 why]
set_option maxHeartbeats 2000000 in
theorem said_none (line col pos why : Int) (w : World) : Calls Tryz.prog 11 #[.nilIface, fv 0 line col pos why] w fun e w' => e = .returned (.bool true) ∧ Below w.heap.size w w' := by
  go_enter Tryz.func11, Tryz.ntmps11
  go_wp2
  go_ret
  exact ⟨rfl, (Below.refl _ _).alloc (Nat.le_refl _) _⟩
theorem said_facts {A : Nat → Addr} {w1 w2 : World} {n g l c e : Nat} {pos : Int} (h : AsDone w1.drew ⟨n + 1, 0, none⟩ (PT g) w2) (hg : g < n) (hx2 : n + 1 < w1.heap.size)
    (y1 : w1.heap[g]? = some (.cells #[I l, I c, errV A e] 70 (0, 0))) (y2 : w1.heap[n]? = some (.cells #[.int .i64 (e : Int), .int .i64 (l : Int), .int .i64 (c : Int), .int .i64 pos, .int .i64 0] 46 (0, 0))) :
    w2.cell? ⟨n + 1, 0, none⟩ = some (PT g) ∧ w2.cell? ⟨g, 0, none⟩ = some (I l) ∧ w2.cell? ⟨g, 1, none⟩ = some (I c) ∧ w2.cell? ⟨g, 2, none⟩ = some (errV A e) ∧ w2.cell? ⟨n, 0, none⟩ = some (.int .i64 (e : Int)) ∧ w2.cell? ⟨n, 1, none⟩ = some (.int .i64 (l : Int)) ∧ w2.cell? ⟨n, 2, none⟩ = some (.int .i64 (c : Int)) ∧
    w2.heap[g]? = some (.cells #[I l, I c, errV A e] 70 (0, 0)) ∧ w2.heap[n]? = some (.cells #[.int .i64 (e : Int), .int .i64 (l : Int), .int .i64 (c : Int), .int .i64 pos, .int .i64 0] 46 (0, 0)) ∧ Below n w1 w2 := by
  have hk : ∀ j, j < n + 1 → w2.heap[j]? = w1.heap[j]? := fun j hj => h.keep j (show j < w1.heap.size by omega) (show j ≠ n + 1 by omega)
  have a1 := (hk g (by omega)).trans y1
  have a2 := (hk n (by omega)).trans y2
  exact ⟨h.cell, (bcell a1 0).trans rfl, (bcell a1 1).trans rfl, (bcell a1 2).trans rfl, (bcell a2 0).trans rfl, (bcell a2 1).trans rfl, (bcell a2 2).trans rfl, a1, a2, h.os, h.tape, h.output, h.size, fun k q => hk k (by omega)⟩
/-- behind the first test -/
structure SaidAt (A : Nat → Addr) (w : World) (g n l c e : Nat) (pos : Int) (wx : World) : Prop where
  below : Below n w wx
  fault : wx.heap[g]? = some (.cells #[I l, I c, errV A e] 70 (0, 0))
  want : wx.heap[n]? = some (.cells #[.int .i64 (e : Int), .int .i64 (l : Int), .int .i64 (c : Int), .int .i64 pos, .int .i64 0] 46 (0, 0))
  var : wx.cell? ⟨n + 1, 0, none⟩ = some (PT g)
/-- every call behind the first test, at any world in which nothing older has turned -/
structure SaidCalls (A : Nat → Addr) (T : Nat → ByteArray) (wc : World) (g n l c e : Nat) : Prop where
  hl : l ≤ 4611686018427387904
  hc : c ≤ 4611686018427387904
  cells : ∀ w', Below wc.heap.size wc w' → w'.cell? ⟨n, 0, none⟩ = some (.int .i64 (e : Int)) ∧ w'.cell? ⟨n, 1, none⟩ = some (.int .i64 (l : Int)) ∧ w'.cell? ⟨n, 2, none⟩ = some (.int .i64 (c : Int)) ∧ w'.cell? ⟨n + 1, 0, none⟩ = some (PT g) ∧ w'.cell? ⟨g, 2, none⟩ = some (errV A e)
  var : ∀ w', Below wc.heap.size wc w' → Calls Tryz.prog 32 #[.int .i64 (e : Int)] w' fun ev w'' => ev = .returned (errV A e) ∧ Below wc.heap.size wc w''
  kinds : ∀ w', Below wc.heap.size wc w' → Calls Tryz.prog 33 #[.iface 65 (PT g)] w' fun ev w'' => ev = .returned (.int .i64 1) ∧ Below wc.heap.size wc w''
  is : ∀ w', Below wc.heap.size wc w' → Calls Tryz.prog 27 #[.iface 65 (PT g), errV A e] w' fun ev w'' => ev = .returned (.bool true) ∧ Below wc.heap.size wc w''
  unwrap : ∀ w', Below wc.heap.size wc w' → Calls Tryz.prog 29 #[PT g] w' fun ev w'' => ev = .returned (errV A e) ∧ Below wc.heap.size wc w''
  same : ∀ w', Below wc.heap.size wc w' → Calls Tryz.prog 40 #[errV A e, errV A e] w' fun ev w'' => ev = .returned (.bool true) ∧ Below wc.heap.size wc w''
  text : ∀ s, wc.cell? (A e) = some (.string s) → s.size < 1000 → ∀ w', Below wc.heap.size wc w' → Calls Tryz.prog 28 #[PT g] w' fun ev w'' => ev = .returned (.string (ftext T l c s)) ∧ Below wc.heap.size wc w''
  es : ∀ s, wc.cell? (A e) = some (.string s) → ∀ w', Below wc.heap.size wc w' → Calls Tryz.prog 176 #[.pointer (some (A e))] w' fun ev w'' => ev = .returned (.string s) ∧ Below wc.heap.size wc w''
  dl : ∀ w', Below wc.heap.size wc w' → Calls Tryz.prog 41 #[.int .i64 (l : Int)] w' fun ev w'' => ev = .returned (.string (T l)) ∧ Below wc.heap.size wc w''
  dc : ∀ w', Below wc.heap.size wc w' → Calls Tryz.prog 41 #[.int .i64 (c : Int)] w' fun ev w'' => ev = .returned (.string (T c)) ∧ Below wc.heap.size wc w''
theorem said_calls (A : Nat → Addr) (T : Nat → ByteArray) (w wc : World) (g n l c e : Nat) (pos : Int) (hS : SG w A) (hI : IT w T) (hE : ET w) (h1 : 1 ≤ e) (h2 : e ≤ 20) (hl : l ≤ 4611686018427387904) (hc : c ≤ 4611686018427387904)
    (hD : ∀ n : Nat, n ≤ 4611686018427387904 → ∃ k, larderlaw04_digits.f k (n : Int) = some (T n)) (hn : n = w.heap.size) (h : SaidAt A w g n l c e pos wc) : SaidCalls A T wc g n l c e := by
  have hS' : SG wc A := hS.below (hn ▸ h.below)
  have hI' : IT wc T := hI.below (hn ▸ h.below)
  have gl := blt h.fault
  have nl := blt h.want
  have vl := World.block_lt_of_cell? wc _ h.var
  refine ⟨hl, hc, fun w' k => ⟨?_, ?_, ?_, ?_, ?_⟩, fun w' k => ?_, fun w' k => ?_, fun w' k => ?_, fun w' k => ?_, fun w' k => ?_, fun s hs hz w' k => ?_, fun s hs w' k => ?_, fun w' k => ?_, fun w' k => ?_⟩
  · exact (bcell ((k.block n nl).trans h.want) 0).trans rfl
  · exact (bcell ((k.block n nl).trans h.want) 1).trans rfl
  · exact (bcell ((k.block n nl).trans h.want) 2).trans rfl
  · exact (k.cell (p := ⟨n + 1, 0, none⟩) vl).trans h.var
  · exact (bcell ((k.block g gl).trans h.fault) 2).trans rfl
  · exact (variable_r e h1 h2 A w' (hS'.below k)).mono fun _ _ q => ⟨q.1, k.trans (q.2.mono k.size)⟩
  · exact (kinds_r A g e _ _ w' (hS'.below k) h1 h2 ((k.block g gl).trans h.fault)).mono fun _ _ q => ⟨q.1, k.trans (q.2.mono k.size)⟩
  · exact (is_code A g e e _ _ w' (hS'.below k) h1 h2 h1 h2 ((k.block g gl).trans h.fault)).mono fun _ _ q => ⟨q.1.trans (by rw [decide_eq_true rfl]), q.2 ▸ k⟩
  · exact (unwrap_r g _ _ _ w' ((k.block g gl).trans h.fault)).mono fun _ _ q => ⟨q.1, q.2 ▸ k⟩
  · exact (same_r (A e) w').mono fun _ _ q => ⟨q.1, q.2 ▸ k⟩
  · exact (fault_error T g l c (A e) s w' (hI'.below k) hl hc ((k.block g gl).trans h.fault) ((k.cell (World.block_lt_of_cell? wc _ hs)).trans hs) hz).mono fun _ _ q => ⟨q.1, k.trans (q.2.mono k.size)⟩
  · exact (es_error (A e) s w' ((k.cell (World.block_lt_of_cell? wc _ hs)).trans hs)).mono fun _ _ q => ⟨q.1, q.2 ▸ k⟩
  · obtain ⟨kk, hk⟩ := hD l hl
    exact (larderlaw04_digits.calls kk _ _ w' hk).mono fun _ _ q => ⟨q.1, k.trans (q.2.mono k.size)⟩
  · obtain ⟨kk, hk⟩ := hD c hc
    exact (larderlaw04_digits.calls kk _ _ w' hk).mono fun _ _ q => ⟨q.1, k.trans (q.2.mono k.size)⟩
set_option maxHeartbeats 8000000 in
set_option maxRecDepth 100000 in
theorem said_some (A : Nat → Addr) (T : Nat → ByteArray) (g l c e : Nat) (pos : Int) (w : World) (hS : SG w A) (hE : ET w) (hI : IT w T) (h1 : 1 ≤ e) (h2 : e ≤ 20) (h16 : e ≠ 16) (h17 : e ≠ 17) (hl : l ≤ 4611686018427387904) (hc : c ≤ 4611686018427387904)
    (hD : ∀ n : Nat, n ≤ 4611686018427387904 → ∃ k, larderlaw04_digits.f k (n : Int) = some (T n))
    (hg : w.heap[g]? = some (.cells #[I l, I c, errV A e] 70 (0, 0))) :
    Calls Tryz.prog 11 #[.iface 65 (PT g), fv e l c pos 0] w fun ev w' => ev = .returned (.bool true) ∧ Below w.heap.size w w' := by
  have z1 : ((e : Int) == 0) = false := by simp; omega
  have z2 : ((e : Int) != 16) = true := by simp; omega
  have z3 : ((e : Int) != 17) = true := by simp; omega
  have gl := blt hg
  have HG := Lib.hid hg
  have HS := Lib.hid hS
  have HEt := Lib.hid hE
  have HI := Lib.hid hI
  have HD := Lib.hid hD
  clear hg hS hE hI hD
  go_enter Tryz.func11, Tryz.ntmps11
  go_wp2
  obtain ⟨w1, hw1⟩ : ∃ w1, w1 = (w.alloc (.cells #[.int .i64 (e : Int), .int .i64 (l : Int), .int .i64 (c : Int), .int .i64 pos, .int .i64 0] 46)).alloc (.cells #[.pointer none] 65) := ⟨_, rfl⟩
  rw [← hw1]
  have hb : Below w.heap.size w w1 := by rw [hw1]; exact ((Below.refl _ _).alloc (Nat.le_refl _) _).alloc (by simp) _
  have hx1 : w1.heap[w.heap.size]? = some (.cells #[.int .i64 (e : Int), .int .i64 (l : Int), .int .i64 (c : Int), .int .i64 pos, .int .i64 0] 46 (0, 0)) := by
    rw [hw1, Below.heap_alloc _ _ _ (by simp)]; exact heap_alloc_new w _
  have hx2 : w1.heap[w.heap.size + 1]? = some (.cells #[.pointer none] 65 (0, 0)) := by
    rw [hw1]
    have := heap_alloc_new (w.alloc (.cells #[.int .i64 (e : Int), .int .i64 (l : Int), .int .i64 (c : Int), .int .i64 pos, .int .i64 0] 46)) (.cells #[.pointer none] 65)
    simpa using this
  have hb1 : w1.heap[g]? = some (.cells #[I l, I c, errV A e] 70 (0, 0)) := (hb.block g gl).trans HG.out
  have HB := Lib.hid hb
  have HX1 := Lib.hid hx1
  have HX2 := Lib.hid hx2
  have HB1 := Lib.hid hb1
  clear hw1 hb hx1 hx2 hb1
  have HA := Lib.hid (as_done g (w.heap.size + 1) (.pointer none) w1.drew (HEt.out.below HB.out.drew) ((bcell HX2.out 0).trans rfl) (bfree HX2.out 0))
  go_upto_region 4 with fail
  go_cut [50] (fun s50 wx => s50 = .bool false ∧ Hid (SaidAt A w g w.heap.size l c e pos wx))
  case first =>
    go_region_with (go_at_call 25; (with_reducible refine HA.out.mono ?_); rintro ev w2 ⟨rfl, hd⟩; obtain ⟨d5, d30, d31, d32, d40, d41, d42, y1, y2, hb2⟩ := said_facts hd gl (blt HX2.out) HB1.out HX1.out; have Y1 := Lib.hid y1; have Y2 := Lib.hid y2; have HB2 := Lib.hid hb2; clear hd y1 y2 hb2)
    all_goals
      go_wp2_with fail
      go_meet
      exact ⟨rfl, Lib.hid ⟨HB.out.trans HB2.out, Y1.out, Y2.out, d5⟩⟩
  case rest =>
    obtain ⟨rfl, HC⟩ := hcut
    have HK := Lib.hid (said_calls A T w wc g w.heap.size l c e pos HS.out HI.out HEt.out h1 h2 hl hc HD.out rfl HC.out)
    have hs0 := HS.out.below HC.out.below
    clear hl hc
    obtain ⟨s, hs, hz⟩ := hs0.ht e h1 h2
    clear hs0
    have HZ := Lib.hid hz
    have zl := HI.out.size l HK.out.hl
    have zc := HI.out.size c HK.out.hc
    have q1 : ¬ 9223372036854775807 < 5 + (T l).size := by omega
    have q2 : ¬ 9223372036854775807 < 5 + (T l).size + 8 := by omega
    have q3 : ¬ 9223372036854775807 < 5 + (T l).size + 8 + (T c).size := by omega
    have q4 : ¬ 9223372036854775807 < 5 + (T l).size + 8 + (T c).size + 2 := by omega
    have q5 : ¬ 9223372036854775807 < 5 + (T l).size + 8 + (T c).size + 2 + s.size := by omega
    have HKs := Lib.hid (HK.out.es s hs)
    have HKf := Lib.hid (HK.out.text s hs hz)
    clear hs hz
    obtain ⟨c1, c2, c3, c4, c5⟩ := HK.out.cells wc (Below.refl _ _)
    go_wp2_with (go_at_call 32; (with_reducible refine (HK.out.var _ (Below.refl _ _)).mono ?_); rintro ev w1 ⟨rfl, hb1⟩)
    clear c1 c2 c3 c4 c5
    have hb0 : Below wc.heap.size wc w1.drew := hb1.drew
    have HB1 := Lib.hid hb1
    have hm := methodError
    clear hb1
    go_region_held3 (fun w' => w'.cell? ⟨w.heap.size, 0, none⟩ = some (.int .i64 (e : Int)) ∧ w'.cell? ⟨w.heap.size, 1, none⟩ = some (.int .i64 (l : Int)) ∧ w'.cell? ⟨w.heap.size, 2, none⟩ = some (.int .i64 (c : Int)) ∧ w'.cell? ⟨w.heap.size + 1, 0, none⟩ = some (PT g) ∧ w'.cell? ⟨g, 2, none⟩ = some (errV A e))
      (exact HK.out.cells _ (by assumption))
      (first
        | (go_at_call 33; (with_reducible refine (HK.out.kinds _ (by assumption)).mono ?_); rintro ev w2 ⟨rfl, hb2⟩)
        | (go_at_call 27; (with_reducible refine (HK.out.is _ (by assumption)).mono ?_); rintro ev w3 ⟨rfl, hb3⟩)
        | (go_at_call 29; (with_reducible refine (HK.out.unwrap _ (by assumption)).mono ?_); rintro ev w4 ⟨rfl, hb4⟩)
        | (go_at_call 40; (with_reducible refine (HK.out.same _ (by assumption)).mono ?_); rintro ev w5 ⟨rfl, hb5⟩)
        | (go_at_call 28; (with_reducible refine (HKf.out _ (by assumption)).mono ?_); rintro ev w6 ⟨rfl, hb6⟩)
        | (go_at_call 41; (with_reducible refine (HK.out.dl _ (by assumption)).mono ?_); rintro ev w7 ⟨rfl, hb7⟩)
        | (go_at_call 41; (with_reducible refine (HK.out.dc _ (by assumption)).mono ?_); rintro ev w8 ⟨rfl, hb8⟩)
        | (go_at_call 176; (with_reducible refine (HKs.out _ (by assumption)).mono ?_); rintro ev w9 ⟨rfl, hb9⟩))
    all_goals
      have HB9 := Lib.hid ((hb9.alloc hb9.size (.cells #[.pointer none] 74)))
      clear hb0 hb2 hb3 hb4 hb5 hb6 hb7 hb8 hb9
      have HW := Lib.hid (as_why g w9.heap.size (I l) (I c) (A e) (w9.alloc (.cells #[.pointer none] 74)) ((HEt.out.below HC.out.below).below HB9.out) ((HB9.out.block g (blt HC.out.fault)).trans HC.out.fault))
      go_wp2_with (first
        | (go_at_call 25; (with_reducible refine HW.out.mono ?_); rintro ev w10 ⟨rfl, hb10⟩; have HB10 := Lib.hid (HB9.out.trans (hb10.mono HB9.out.size)); clear hb10; obtain ⟨d1, d2, d3, d4, d5⟩ := HK.out.cells _ HB10.out)
        | (go_at_call 40; (with_reducible refine (HK.out.same _ HB10.out).mono ?_); rintro ev w11 ⟨rfl, hb11⟩))
      go_ret
      exact ⟨rfl, HC.out.below.trans (hb11.mono HC.out.below.size)⟩
end Go.Proofs.YtappphffbnkloaaGreatDoor.Sht

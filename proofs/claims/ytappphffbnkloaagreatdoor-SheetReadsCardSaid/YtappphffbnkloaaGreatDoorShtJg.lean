-- joined out of the texts ShtAn ShtAp ShtRs ShtPi
import Derived.Test.YtappphffbnkloaaGreatDoorShtJa
import Derived.Below
import Derived.Test.YtappphffbnkloaaGreatDoorShtJf
import Derived.Test.YtappphffbnkloaaGreatDoorShtJd
import Derived.Test.YtappphffbnkloaaGreatDoorShtJe
import Derived.Deep.SlicePairs
import Derived.ChangeSlices
set_option linter.unusedVariables false
set_option linter.unusedSimpArgs false
namespace Go.Proofs.YtappphffbnkloaaGreatDoor.Sht
open Go Go.RowKit
attribute [local go_sem ↓] Go.wp_at_zero Go.wp_at_succ
set_option maxHeartbeats 1000000 in
set_option maxRecDepth 100000 in
theorem apartBytes_nil (w : World) : Calls Tryz.prog 48 #[.slice none 0 0] w fun e w' => e = .returned (.bool true) ∧ Below w.heap.size w w' := by
  go_enter Tryz.func48, Tryz.ntmps48
  go_wp2
  go_loopw [3, 4] (fun i _ wr => i = .int .i64 0 ∧ Hid (Below w.heap.size w wr)) (fun _ _ _ => 0)
  case atStart => exact ⟨rfl, Lib.hid (Below.refl _ _)⟩
  case round =>
    obtain ⟨rfl, HB⟩ := hrel
    go_wp2
    go_loopw [5, 6, 7, 8] (fun s i _ _ wr => s = .slice none 0 0 ∧ i = .int .i64 0 ∧ Hid (Below w.heap.size w wr)) (fun _ _ _ _ _ => 0)
    case atStart => exact ⟨rfl, rfl, HB⟩
    case round =>
      clear HB
      obtain ⟨rfl, rfl, HB⟩ := hrel
      go_wp2
      go_loopw [9, 10] (fun i _ wr => i = .int .i64 0 ∧ Hid (Below w.heap.size w wr)) (fun _ _ _ => 0)
      case atStart => exact ⟨rfl, HB⟩
      case round =>
        clear HB
        obtain ⟨rfl, HB⟩ := hrel
        go_wp2
        go_ret
        exact ⟨rfl, HB.out⟩
set_option maxHeartbeats 1000000 in
set_option maxRecDepth 100000 in
theorem apartLists_nil (w : World) : Calls Tryz.prog 49 #[.slice none 0 0] w fun e w' => e = .returned (.bool true) ∧ Below w.heap.size w w' := by
  go_enter Tryz.func49, Tryz.ntmps49
  go_wp2
  go_loopw [3, 4] (fun i _ wr => i = .int .i64 0 ∧ Hid (Below w.heap.size w wr)) (fun _ _ _ => 0)
  case atStart => exact ⟨rfl, Lib.hid (Below.refl _ _)⟩
  case round =>
    obtain ⟨rfl, HB⟩ := hrel
    go_wp2
    go_loopw [5, 6, 7, 8] (fun s i _ _ wr => s = .slice none 0 0 ∧ i = .int .i64 0 ∧ Hid (Below w.heap.size w wr)) (fun _ _ _ _ _ => 0)
    case atStart => exact ⟨rfl, rfl, HB⟩
    case round =>
      clear HB
      obtain ⟨rfl, rfl, HB⟩ := hrel
      go_wp2
      go_loopw [9, 10] (fun i _ wr => i = .int .i64 0 ∧ Hid (Below w.heap.size w wr)) (fun _ _ _ => 0)
      case atStart => exact ⟨rfl, HB⟩
      case round =>
        clear HB
        obtain ⟨rfl, HB⟩ := hrel
        go_wp2
        go_ret
        exact ⟨rfl, HB.out⟩
set_option maxHeartbeats 1000000 in
set_option maxRecDepth 100000 in
theorem apartInts_nil (w : World) : Calls Tryz.prog 50 #[.slice none 0 0] w fun e w' => e = .returned (.bool true) ∧ Below w.heap.size w w' := by
  go_enter Tryz.func50, Tryz.ntmps50
  go_wp2
  go_loopw [3, 4] (fun i _ wr => i = .int .i64 0 ∧ Hid (Below w.heap.size w wr)) (fun _ _ _ => 0)
  case atStart => exact ⟨rfl, Lib.hid (Below.refl _ _)⟩
  case round =>
    obtain ⟨rfl, HB⟩ := hrel
    go_wp2
    go_loopw [5, 6, 7, 8] (fun s i _ _ wr => s = .slice none 0 0 ∧ i = .int .i64 0 ∧ Hid (Below w.heap.size w wr)) (fun _ _ _ _ _ => 0)
    case atStart => exact ⟨rfl, rfl, HB⟩
    case round =>
      clear HB
      obtain ⟨rfl, rfl, HB⟩ := hrel
      go_wp2
      go_loopw [9, 10] (fun i _ wr => i = .int .i64 0 ∧ Hid (Below w.heap.size w wr)) (fun _ _ _ => 0)
      case atStart => exact ⟨rfl, HB⟩
      case round =>
        clear HB
        obtain ⟨rfl, HB⟩ := hrel
        go_wp2
        go_ret
        exact ⟨rfl, HB.out⟩
set_option maxHeartbeats 1000000 in
set_option maxRecDepth 100000 in
theorem apartLines_nil (w : World) : Calls Tryz.prog 52 #[.slice none 0 0] w fun e w' => e = .returned (.bool true) ∧ Below w.heap.size w w' := by
  go_enter Tryz.func52, Tryz.ntmps52
  go_wp2
  go_loopw [3, 4] (fun i _ wr => i = .int .i64 0 ∧ Hid (Below w.heap.size w wr)) (fun _ _ _ => 0)
  case atStart => exact ⟨rfl, Lib.hid (Below.refl _ _)⟩
  case round =>
    obtain ⟨rfl, HB⟩ := hrel
    go_wp2
    go_loopw [5, 6, 7, 8] (fun s i _ _ wr => s = .slice none 0 0 ∧ i = .int .i64 0 ∧ Hid (Below w.heap.size w wr)) (fun _ _ _ _ _ => 0)
    case atStart => exact ⟨rfl, rfl, HB⟩
    case round =>
      clear HB
      obtain ⟨rfl, rfl, HB⟩ := hrel
      go_wp2
      go_loopw [9, 10] (fun i _ wr => i = .int .i64 0 ∧ Hid (Below w.heap.size w wr)) (fun _ _ _ => 0)
      case atStart => exact ⟨rfl, HB⟩
      case round =>
        clear HB
        obtain ⟨rfl, HB⟩ := hrel
        go_wp2
        go_ret
        exact ⟨rfl, HB.out⟩
set_option maxHeartbeats 1000000 in
set_option maxRecDepth 100000 in
theorem apartLevels_nil (w : World) : Calls Tryz.prog 53 #[.slice none 0 0] w fun e w' => e = .returned (.bool true) ∧ Below w.heap.size w w' := by
  go_enter Tryz.func53, Tryz.ntmps53
  go_wp2
  go_loopw [3, 4] (fun i _ wr => i = .int .i64 0 ∧ Hid (Below w.heap.size w wr)) (fun _ _ _ => 0)
  case atStart => exact ⟨rfl, Lib.hid (Below.refl _ _)⟩
  case round =>
    obtain ⟨rfl, HB⟩ := hrel
    go_wp2
    go_loopw [5, 6, 7, 8] (fun s i _ _ wr => s = .slice none 0 0 ∧ i = .int .i64 0 ∧ Hid (Below w.heap.size w wr)) (fun _ _ _ _ _ => 0)
    case atStart => exact ⟨rfl, rfl, HB⟩
    case round =>
      clear HB
      obtain ⟨rfl, rfl, HB⟩ := hrel
      go_wp2
      go_loopw [9, 10] (fun i _ wr => i = .int .i64 0 ∧ Hid (Below w.heap.size w wr)) (fun _ _ _ => 0)
      case atStart => exact ⟨rfl, HB⟩
      case round =>
        clear HB
        obtain ⟨rfl, HB⟩ := hrel
        go_wp2
        go_ret
        exact ⟨rfl, HB.out⟩
end Go.Proofs.YtappphffbnkloaaGreatDoor.Sht
set_option linter.unusedVariables false
set_option linter.unusedSimpArgs false
namespace Go.Proofs.YtappphffbnkloaaGreatDoor.Sht
open Go Go.RowKit Go.Proofs.YtappphffbnkloaaGreatDoorW.PrintWords Go.Proofs.YtappphffbnkloaaGreatDoor.GS
attribute [local go_sem ↓] Go.wp_at_zero Go.wp_at_succ
theorem zip_rows {β : Type} (e : TypeId) (f : β → List Value) (d : Value) (d' : β) (xs : List Value) (ys : List β) (h : xs.length = ys.length) :
    List.zipWith (fun a l => ((e : TypeId), a, f l)) xs ys = rowsE e xs.length (fun i => xs.getD i d) (fun i => f (ys.getD i d')) := by
  refine List.ext_getElem? fun i => ?_
  by_cases hi : i < xs.length
  · rw [rowsE_get hi, List.getElem?_zipWith, List.getElem?_eq_getElem hi, List.getElem?_eq_getElem (by omega)]
    simp [List.getD, List.getElem?_eq_getElem hi, List.getElem?_eq_getElem (show i < ys.length by omega)]
  · rw [List.getElem?_eq_none (by simp; omega), List.getElem?_eq_none (by rw [rowsE_len]; omega)]
theorem map_getD (d : Value) (xs : List Value) : (List.range xs.length).map (fun i => xs.getD i d) = xs := by
  refine List.ext_getElem? fun i => ?_
  by_cases hi : i < xs.length
  · rw [List.getElem?_map, List.getElem?_range hi]
    simp [List.getD, List.getElem?_eq_getElem hi]
  · rw [List.getElem?_eq_none (by simp; omega), List.getElem?_eq_none (by omega)]
theorem Z9_app {l L : List Value} {r R : Rows} (h : l.length = r.length) : Z9 (l ++ L) (r ++ R) = Z9 l r ++ Z9 L R := List.zipWith_append h
theorem Z9_mem {l : List Value} {r : Rows} {j : Nat} {v : Value} {q : List (List UInt8)} (h1 : l[j]? = some v) (h2 : r[j]? = some q) : (9, v, sts q) ∈ Z9 l r :=
  List.mem_of_getElem? (i := j) (by unfold Z9; rw [List.getElem?_zipWith, h1, h2])
theorem flat_mem : ∀ (lvs : List (List Value)) (as' : List Rows), lvs.map List.length = as'.map List.length → ∀ (i j : Nat) (l : List Value) (r : Rows) (v : Value) (q : List (List UInt8)), lvs[i]? = some l → as'[i]? = some r → l[j]? = some v → r[j]? = some q → (9, v, sts q) ∈ Z9 lvs.flatten as'.flatten
  | [], _, _, i, _, _, _, _, _, h, _, _, _ => by simp at h
  | _ :: _, [], h, _, _, _, _, _, _, _, _, _, _ => by simp at h
  | l0 :: lvs, r0 :: as', h, i, j, l, r, v, q, h1, h2, h3, h4 => by
    have ha : l0.length = r0.length := by
      have := h
      simp only [List.map_cons] at this
      injection this
    have hb : lvs.map List.length = as'.map List.length := by
      have := h
      simp only [List.map_cons] at this
      injection this
    rw [List.flatten_cons, List.flatten_cons, Z9_app ha]
    cases i with
    | zero =>
      obtain rfl : l0 = l := by simpa using h1
      obtain rfl : r0 = r := by simpa using h2
      exact List.mem_append_left _ (Z9_mem h3 h4)
    | succ i => exact List.mem_append_right _ (flat_mem lvs as' hb i j l r v q (by simpa using h1) (by simpa using h2) h3 h4)
theorem OwnsAll.left {w : World} {B : Nat} {L M : List En} (h : OwnsAll w B (L ++ M)) : OwnsAll w B L :=
  ⟨fun x hx => h.own x (List.mem_append_left _ hx), by have := h.dis; rw [blks_app] at this; exact (List.nodup_append.1 this).1⟩
section
variable {w : World} {B bk : Nat} {X : BX} {as' : List Rows}
theorem Hold.tail_own (h : Hold w B bk X as' []) : OwnsAll w B ((28, X.tv, X.lvs.flatten) :: (28, X.t0, X.ys) :: (30, X.rv, X.az) :: (9, X.r0, X.ss) :: (Z9 X.lvs.flatten as'.flatten ++ (An X.az X.lvs ++ (X.C ++ [])))) := h.own
theorem Hold.len (h : Hold w B bk X as' []) : X.lvs.length = as'.length := by
  have := congrArg List.length h.lv
  simpa using this
theorem Hold.text (h : Hold w B bk X as' []) {v : Value} {q : List (List UInt8)} (hm : (9, v, sts q) ∈ Z9 X.lvs.flatten as'.flatten) (hq : 0 < q.length) : ∃ g cap, v = .slice (some ⟨g, 0, none⟩) q.length cap := by
  have ho : w.ownsRow B 9 1 v (sts q).length (sts q) := h.tail_own.own _ (List.mem_cons_of_mem _ (List.mem_cons_of_mem _ (List.mem_cons_of_mem _ (List.mem_cons_of_mem _ (List.mem_append_left _ hm)))))
  rw [sts_len] at ho
  obtain ⟨g, cap, e, _, _⟩ := World.ownsRow.form ho hq
  exact ⟨g, cap, e⟩
theorem Hold.texts2 (h : Hold w B bk X as' []) : Texts2 (Z9 X.lvs.flatten as'.flatten ++ (An X.az X.lvs ++ (X.C ++ []))) X.lvs.flatten X.ys as'.flatten := by
  have hl := flat_len h.lv
  refine ⟨hl, h.ys, fun i hi => ?_⟩
  have h0 := (h.ok _ (List.getElem_mem hi)).1
  have hm : (9, X.lvs.flatten[i]'(by omega), sts as'.flatten[i]) ∈ Z9 X.lvs.flatten as'.flatten := Z9_mem (List.getElem?_eq_getElem _) (List.getElem?_eq_getElem _)
  obtain ⟨g, cap, e⟩ := h.text hm h0
  obtain ⟨c, q1, q2⟩ := h.cop i hi
  rw [e] at hm
  exact ⟨g, cap, c, by rw [List.getElem?_eq_getElem (by omega), e], List.mem_append_left _ hm, q1, List.mem_append_right _ (List.mem_append_right _ (List.mem_append_left _ q2)), h0⟩
theorem Hold.rows2 (h : Hold w B bk X as' []) : Rows2 (Z9 X.lvs.flatten as'.flatten ++ (An X.az X.lvs ++ (X.C ++ []))) X.az X.ss as' := by
  have hlen := h.len
  refine ⟨h.az, h.ss, fun i hi => ?_⟩
  have ha : X.az[i]? = some (X.az[i]'(by rw [h.az]; exact hi)) := List.getElem?_eq_getElem _
  have hb : X.lvs[i]? = some (X.lvs[i]'(by omega)) := List.getElem?_eq_getElem _
  have hm : (28, X.az[i]'(by rw [h.az]; exact hi), X.lvs[i]'(by omega)) ∈ An X.az X.lvs := List.mem_of_getElem? (i := i) (by unfold An; rw [List.getElem?_zipWith, ha, hb])
  have hlv : (X.lvs[i]'(by omega)).length = as'[i].length := by
    have := congrArg (fun l : List Nat => l[i]?) h.lv
    simp only [List.getElem?_map, hb, List.getElem?_eq_getElem hi, Option.map_some, Option.some.injEq] at this
    exact this
  have ho : w.ownsRow B 28 1 (X.az[i]'(by rw [h.az]; exact hi)) (X.lvs[i]'(by omega)).length (X.lvs[i]'(by omega)) := h.tail_own.own _ (List.mem_cons_of_mem _ (List.mem_cons_of_mem _ (List.mem_cons_of_mem _ (List.mem_cons_of_mem _ (List.mem_append_right _ (List.mem_append_left _ hm))))))
  rw [hlv] at ho
  obtain ⟨ax, cap, e, hcap⟩ := own_form ho
  obtain ⟨R, K, t1, t2⟩ := h.told i hi
  rw [e] at hm ha
  refine ⟨ax, cap, X.lvs[i]'(by omega), R, K, ha, List.mem_append_right _ (List.mem_append_left _ hm), hlv, hcap, fun j hj => ?_, t1, t2⟩
  have hj' : j < (X.lvs[i]'(by omega)).length := by omega
  have hmm := flat_mem X.lvs as' h.lv i j _ _ _ _ hb (List.getElem?_eq_getElem hi) (List.getElem?_eq_getElem hj') (List.getElem?_eq_getElem hj)
  have h0 := (h.ok as'[i][j] (List.mem_flatten.2 ⟨_, List.getElem_mem hi, List.getElem_mem hj⟩)).1
  obtain ⟨g, c, e2⟩ := h.text hmm h0
  rw [e2] at hmm
  exact ⟨g, c, by rw [List.getElem?_eq_getElem hj', e2], List.mem_append_left _ hmm⟩
theorem Hold.few (h : Hold w B bk X as' []) (i : Nat) (hi : i < X.lvs.flatten.length) : 0 < (sts (as'.flatten.getD i [])).length ∧ (sts (as'.flatten.getD i [])).length ≤ 100 := by
  have hl := flat_len h.lv
  have hi' : i < as'.flatten.length := by omega
  rw [show as'.flatten.getD i [] = as'.flatten[i] by simp [List.getD, List.getElem?_eq_getElem hi'], sts_len]
  exact h.ok _ (List.getElem_mem hi')
set_option maxHeartbeats 2000000 in
set_option maxRecDepth 100000 in
theorem apart_r (h : Hold w B bk X as' []) (hB : B ≤ bk) (hn : as'.flatten.length ≤ 4000000000000) (hm : as'.length ≤ 5000000000000) (hrl : ∀ r ∈ as', r.length ≤ 1000000) : Calls Tryz.prog 18 #[PT bk] w fun e w' => e = .returned (.bool true) ∧ Below B w w' := by
  have hl := flat_len h.lv
  have hlen := h.len
  have hown := h.tail_own
  have hbase : B ≤ w.heap.size := by have := blt h.bk; omega
  -- the texts
  obtain ⟨tx, capt, etv, _⟩ := own_form (show w.ownsRow B 28 1 X.tv X.lvs.flatten.length X.lvs.flatten from hown.head)
  obtain ⟨rx, capr, erv, _⟩ := own_form (show w.ownsRow B 30 1 X.rv X.az.length X.az from hown.tail.tail.head)
  have eT : Z9 X.lvs.flatten as'.flatten = rowsE 9 X.lvs.flatten.length (fun i => X.lvs.flatten.getD i nl) (fun i => sts (as'.flatten.getD i [])) := zip_rows 9 sts nl [] _ _ hl
  have eA : An X.az X.lvs = rowsE 28 X.az.length (fun i => X.az.getD i nl) (fun i => X.lvs.getD i []) := zip_rows 28 id nl [] _ _ (by rw [h.az, hlen])
  have hT : ∀ wx, OwnsAll wx B (X.Fl as' []) → OwnsAll wx B ((28, .slice tx X.lvs.flatten.length capt, (List.range X.lvs.flatten.length).map (fun i => X.lvs.flatten.getD i nl)) :: (rowsE 9 X.lvs.flatten.length (fun i => X.lvs.flatten.getD i nl) (fun i => sts (as'.flatten.getD i [])) ++ ([(28, X.t0, X.ys), (30, X.rv, X.az), (9, X.r0, X.ss)] ++ (An X.az X.lvs ++ (X.C ++ []))))) := fun wx ho => by
    rw [map_getD, ← eT, ← etv]
    exact ho.perm (List.Perm.cons _ (pm (a := [(28, X.t0, X.ys), (30, X.rv, X.az), (9, X.r0, X.ss)])))
  have pA : (X.Fl as' []).Perm (((30, X.rv, X.az) :: An X.az X.lvs) ++ (Z9 X.lvs.flatten as'.flatten ++ ([(28, X.tv, X.lvs.flatten), (28, X.t0, X.ys), (9, X.r0, X.ss)] ++ (X.C ++ [])))) := by
    unfold BX.Fl
    refine (((List.Perm.cons _ (List.Perm.swap _ _ _)).trans (List.Perm.swap _ _ _)).trans (List.Perm.cons _ ?_))
    show ([(28, X.tv, X.lvs.flatten), (28, X.t0, X.ys), (9, X.r0, X.ss)] ++ (Z9 X.lvs.flatten as'.flatten ++ (An X.az X.lvs ++ (X.C ++ [])))).Perm (An X.az X.lvs ++ (Z9 X.lvs.flatten as'.flatten ++ ([(28, X.tv, X.lvs.flatten), (28, X.t0, X.ys), (9, X.r0, X.ss)] ++ (X.C ++ []))))
    exact (List.Perm.append_left _ pm).trans (pm.trans (List.Perm.append_left _ pm))
  have hVt : ∀ i, i < X.lvs.flatten.length → ∃ g cap, X.lvs.flatten.getD i nl = .slice (some ⟨g, 0, none⟩) (sts (as'.flatten.getD i [])).length cap := fun i hi => by
    have hi' : i < as'.flatten.length := by omega
    have hmem : (9, X.lvs.flatten[i], sts as'.flatten[i]) ∈ Z9 X.lvs.flatten as'.flatten := Z9_mem (List.getElem?_eq_getElem _) (List.getElem?_eq_getElem _)
    obtain ⟨g, cap, e⟩ := h.text hmem (h.ok _ (List.getElem_mem hi')).1
    refine ⟨g, cap, ?_⟩
    rw [show as'.flatten.getD i [] = as'.flatten[i] by simp [List.getD, List.getElem?_eq_getElem hi'], sts_len, ← e]
    simp [List.getD, List.getElem?_eq_getElem hi]
  -- blocks of the texts
  have hTb : ∀ j, (∃ i, i < X.lvs.flatten.length ∧ (X.lvs.flatten.getD i nl).ownBlock = some j) → j ∈ blks (Z9 X.lvs.flatten as'.flatten) := fun j ⟨i, hi, hj⟩ => by
    rw [eT]
    exact List.mem_flatMap.2 ⟨_, List.mem_of_getElem? (rowsE_get hi), mem_ob.2 hj⟩
  have hTB : ∀ j, j ∈ blks (Z9 X.lvs.flatten as'.flatten) → B ≤ j ∧ j ≠ bk := fun j hj => by
    have hj' : j ∈ blks (X.Fl as' []) := (pA.flatMap_right _).mem_iff.2 (by rw [List.flatMap_append, List.flatMap_append]; exact List.mem_append_right _ (List.mem_append_left _ hj))
    exact ⟨(h.own.lt hj').1, fun e => bk_apart h.bk h.own (fun x hx => by
      rcases Fl_ty h.ty x hx with (q | q | q) | q
      · rw [q]; exact ne9
      · rw [q]; exact ne28
      · rw [q]; exact ne30
      · simp at q) (e ▸ hj')⟩
  have hTA : ∀ j, j ∈ blks ((30, X.rv, X.az) :: An X.az X.lvs) → j ∉ blks (Z9 X.lvs.flatten as'.flatten) := fun j hj hj2 => by
    have hd := (h.own.perm pA).dis
    rw [blks_app, blks_app] at hd
    exact (List.nodup_append.1 hd).2.2 j hj j (List.mem_append_left _ hj2) rfl
  have hVr : ∀ i, i < X.az.length → (∃ g c, X.az.getD i nl = .slice (some ⟨g, 0, none⟩) (X.lvs.getD i []).length c) ∨ ((X.lvs.getD i []).length = 0 ∧ X.az.getD i nl = .slice none 0 0) := fun i hi => by
    have hmem : (28, X.az.getD i nl, X.lvs.getD i []) ∈ An X.az X.lvs := by rw [eA]; exact List.mem_of_getElem? (rowsE_get hi)
    have ho : w.ownsRow B 28 1 (X.az.getD i nl) (X.lvs.getD i []).length (X.lvs.getD i []) := hown.own _ (List.mem_cons_of_mem _ (List.mem_cons_of_mem _ (List.mem_cons_of_mem _ (List.mem_cons_of_mem _ (List.mem_append_right _ (List.mem_append_left _ hmem))))))
    rcases ho.2 with ⟨q, q0⟩ | ⟨g, cap, cur, q, _⟩
    · exact .inr ⟨q0, q⟩
    · exact .inl ⟨g, cap, q⟩
  have hEr : ∀ i, i < X.az.length → (X.lvs.getD i []).length = (X.lvs.getD i []).length ∧ (X.lvs.getD i []).length ≤ 1000000 := fun i hi => ⟨rfl, by
    have hi1 : i < X.lvs.length := by rw [hlen, ← h.az]; exact hi
    have hi2 : i < as'.length := by omega
    rw [show X.lvs.getD i [] = X.lvs[i] by simp [List.getD, List.getElem?_eq_getElem hi1]]
    have := congrArg (fun l : List Nat => l[i]?) h.lv
    simp only [List.getElem?_map, List.getElem?_eq_getElem hi1, List.getElem?_eq_getElem hi2, Option.map_some, Option.some.injEq] at this
    rw [this]
    exact hrl _ (List.getElem_mem hi2)⟩
  have HST := Lib.hid (still_b bk B X.tv X.t0 X.rv X.r0 X.lvs.flatten X.ys X.az X.ss _ _ as' w h.bk hown h.texts2 h.rows2)
  have HT : Hid (∀ wx, Below w.heap.size w wx → Calls Tryz.prog 51 #[.slice tx X.lvs.flatten.length capt] wx fun e w' => e = .returned (.bool true) ∧ Rw X.lvs.flatten.length (fun i => X.lvs.flatten.getD i nl) wx w') := Lib.hid fun wx b =>
    apartTexts_r B _ capt tx _ _ _ wx (hT wx (h.own.below b)) hVt h.few (by rw [hl]; exact hn)
  have HA : Hid (∀ wx, OwnsAll wx B ((30, X.rv, X.az) :: An X.az X.lvs) → Calls Tryz.prog 54 #[.slice rx X.az.length capr] wx fun e w' => e = .returned (.bool true) ∧ Rw X.az.length (fun i => X.az.getD i nl) wx w') := Lib.hid fun wx b =>
    apartRows_r B _ capr rx _ _ (fun i => X.lvs.getD i []) [] wx (by rw [map_getD, ← eA, ← erv, List.append_nil]; exact b) hVr hEr (by rw [h.az]; exact hm)
  have HOA := Lib.hid ((h.own.perm pA).left)
  have HTB := Lib.hid hTB
  have HTb := Lib.hid hTb
  have HTA := Lib.hid hTA
  have hbk : BkAt w bk X.tv X.t0 X.rv X.r0 := h.bk
  rw [etv, erv] at hbk
  have HBk := Lib.hid hbk
  have hAB : ∀ j, j ∈ blks ((30, X.rv, X.az) :: An X.az X.lvs) → B ≤ j := fun j hj => (HOA.out.lt hj).1
  have hAb : ∀ j, (∃ i, i < X.az.length ∧ (X.az.getD i nl).ownBlock = some j) → B ≤ j := fun j ⟨i, hi, hj⟩ => hAB j (by
    refine mem_blks.2 (.inr ?_)
    rw [eA]
    exact List.mem_flatMap.2 ⟨_, List.mem_of_getElem? (rowsE_get hi), mem_ob.2 hj⟩)
  have HAb := Lib.hid hAb
  have b0 := blt h.bk
  clear h hown etv erv eT eA hT pA hVt hTb hTB hTA hVr hEr hAB hAb hbk hrl hl hlen hn hm
  generalize X.lvs.flatten.length = n at *
  generalize X.az.length = m at *
  go_enter Tryz.func18, Tryz.ntmps18
  go_wp2_with (first
    | (go_at_call 47; (with_reducible refine HST.out.mono ?_); rintro e w1 ⟨rfl, hb1⟩; have k1 := blk_below HBk.out hb1; have c0 : w1.cell? ⟨bk, 0, none⟩ = some nl := (bcell k1 0).trans rfl; have HB1 := Lib.hid hb1; clear hb1 k1)
    | (go_at_call 48; (with_reducible refine (apartBytes_nil w1).mono ?_); rintro e w2 ⟨rfl, hb2⟩; have HB2 := Lib.hid (HB1.out.trans (hb2.mono HB1.out.size)); have k2 := blk_below HBk.out HB2.out; have c2 : w2.cell? ⟨bk, 2, none⟩ = some nl := (bcell k2 2).trans rfl; clear hb2 k2)
    | (go_at_call 49; (with_reducible refine (apartLists_nil w2).mono ?_); rintro e w3 ⟨rfl, hb3⟩; have HB3 := Lib.hid (HB2.out.trans (hb3.mono HB2.out.size)); have k3 := blk_below HBk.out HB3.out; have c4 : w3.cell? ⟨bk, 4, none⟩ = some nl := (bcell k3 4).trans rfl; clear hb3 k3)
    | (go_at_call 50; (with_reducible refine (apartInts_nil w3).mono ?_); rintro e w4 ⟨rfl, hb4⟩; have HB4 := Lib.hid (HB3.out.trans (hb4.mono HB3.out.size)); have k4 := blk_below HBk.out HB4.out; have c6 : w4.cell? ⟨bk, 6, none⟩ = some (.slice tx n capt) := (bcell k4 6).trans rfl; clear hb4 k4)
    | (go_at_call 51; go_loud ((with_reducible refine (HT.out w4 HB4.out).mono ?_); rintro e w5 ⟨rfl, hr5⟩; have hz5 := hr5.size; have k5 : BkAt w5 bk _ X.t0 _ X.r0 := (hr5.keep bk (by have := HB4.out.size; omega) (fun i hi e => (HTB.out bk (HTb.out bk ⟨i, hi, e⟩)).2 rfl)).trans (blk_below HBk.out HB4.out); have hO5 := (HOA.out.below HB4.out).keep (w' := w5) (fun j hj => hr5.keep j ((HOA.out.below HB4.out).lt hj).2 (fun i hi e => HTA.out j hj (HTb.out j ⟨i, hi, e⟩))); have hB5 : Below B w w5 := ⟨hr5.os.trans HB4.out.os, hr5.tape.trans HB4.out.tape, hr5.output.trans HB4.out.output, Nat.le_trans HB4.out.size hr5.size, fun j hj => (hr5.keep j (by have := HB4.out.size; omega) (fun i hi e => by have := (HTB.out j (HTb.out j ⟨i, hi, e⟩)).1; omega)).trans (HB4.out.block j (by omega))⟩; have c8 : w5.cell? ⟨bk, 8, none⟩ = some nl := (bcell k5 8).trans rfl; have K5 := Lib.hid k5; have HO5 := Lib.hid hO5; have HB5 := Lib.hid hB5; clear hr5 k5 hO5 hB5))
    | (go_at_call 52; (with_reducible refine (apartLines_nil w5).mono ?_); rintro e w6 ⟨rfl, hb6⟩; have HB6 := Lib.hid hb6; have k6 := blk_below K5.out HB6.out; have c10 : w6.cell? ⟨bk, 10, none⟩ = some nl := (bcell k6 10).trans rfl; clear hb6 k6)
    | (go_at_call 53; (with_reducible refine (apartLevels_nil w6).mono ?_); rintro e w7 ⟨rfl, hb7⟩; have HB7 := Lib.hid (HB6.out.trans (hb7.mono HB6.out.size)); have k7 := blk_below K5.out HB7.out; have c12 : w7.cell? ⟨bk, 12, none⟩ = some (.slice rx m capr) := (bcell k7 12).trans rfl; clear hb7 k7)
    | (go_at_call 54; (with_reducible refine (HA.out w7 (HO5.out.below HB7.out)).mono ?_); rintro e w8 ⟨rfl, hr8⟩; have HR8 := Lib.hid hr8; clear hr8))
  go_ret
  refine ⟨rfl, HR8.out.os.trans (HB7.out.os.trans HB5.out.os), HR8.out.tape.trans (HB7.out.tape.trans HB5.out.tape), HR8.out.output.trans (HB7.out.output.trans HB5.out.output), Nat.le_trans HB5.out.size (Nat.le_trans HB7.out.size HR8.out.size), fun j hj => ?_⟩
  have s5 := HB5.out.size
  have s7 := HB7.out.size
  exact (HR8.out.keep j (by omega) (fun i hi e => by have := HAb.out j ⟨i, hi, e⟩; omega)).trans ((HB7.out.block j (by omega)).trans (HB5.out.block j hj))
end
end Go.Proofs.YtappphffbnkloaaGreatDoor.Sht
set_option linter.unusedVariables false
set_option linter.unusedSimpArgs false
namespace Go.Proofs.YtappphffbnkloaaGreatDoor.Sht
open Go Go.RowKit Go.Proofs.YtappphffbnkloaaGreatDoorW.PrintWords Go.Proofs.YtappphffbnkloaaGreatDoor.GS
attribute [local go_sem ↓] Go.wp_at_zero Go.wp_at_succ
/-- a script in memory -/
def ScrIn (w : World) (x : Option Addr) (P : List (List UInt8 × Bool)) : Prop := ∀ i (h : i < P.length), ∃ (a : Addr) (u : Value), x = some a ∧ w.cell? (a.add (i * 2)) = some u ∧ ByteIn w u P[i].1 ∧ NilOk u ∧ w.cell? ⟨(a.add (i * 2)).block, (a.add (i * 2)).off + 1, none⟩ = some (.bool P[i].2)
def OwnC (W0 w : World) (b g n : Nat) (cs : Array Value) : Prop := w.heap[g]? = some (.cells cs 5 (0, 0)) ∧ n ≤ cs.size ∧ ¬ wr w b g ∧ W0.heap.size ≤ g
def X0 : BX := ⟨.slice none 0 0, .slice none 0 0, .slice none 0 0, .slice none 0 0, [], [], [], [], []⟩
theorem iv_start {nb : Bool} {A : Nat → Addr} {W0 w : World} {b rb : Nat} (hR : R A W0 w b RS.new) (hr : RfAt w rb ByteArray.empty 0 0 0 0 0 false) (hb : W0.heap.size ≤ rb) :
    Iv nb A W0 (w.alloc (.cells #[nl, nl, nl, nl, nl, nl, nl, nl, nl, nl, nl, nl, nl, nl] 36)) b rb w.heap.size [] X0 := by
  have hk := (Below.refl w.heap.size w).alloc (Nat.le_refl _) (.cells #[nl, nl, nl, nl, nl, nl, nl, nl, nl, nl, nl, nl, nl, nl] 36)
  refine ⟨RS.new, ByteArray.empty, 0, 0, 0, 0, 0, false, ⟨hR.below hk, rfl, hr.below hk, hb, hR.base.size, ⟨heap_alloc_new w _, ⟨fun x hx => ?_, by simp [X0, BX.Fl, Z9, An, blks, ob, Value.ownBlock]⟩, rfl, rfl, fun r hr => by simp at hr, rfl, fun i hi => by simp at hi, rfl, fun i hi => by simp at hi, fun x hx => by simp [X0] at hx⟩, fun j _ hj => by simp [X0, BX.Fl, Z9, An, blks, ob, Value.ownBlock] at hj⟩, by simp, fun _ => ⟨j_new, fun _ => rfl⟩⟩
  simp only [X0, BX.Fl, Z9, An, List.flatten_nil, List.zipWith_nil_left, List.nil_append, List.mem_cons, List.not_mem_nil, or_false] at hx
  rcases hx with rfl | rfl | rfl | rfl <;> exact World.ownsRow_nil _ _ _ _
theorem len_le {r : Rows} : ∀ {as' : List Rows}, r ∈ as' → r.length ≤ as'.flatten.length
  | x :: as', h => by
    rw [List.flatten_cons, List.length_append]
    rcases List.mem_cons.1 h with rfl | h
    · omega
    · have := len_le h
      omega
theorem Iv.apart {nb : Bool} {A : Nat → Addr} {W0 w : World} {b rb bk : Nat} {as' : List Rows} {X : BX} (h : Iv nb A W0 w b rb bk as' X) (hm : as'.length ≤ 5000000000000) : Calls Tryz.prog 18 #[PT bk] w fun e w' => e = .returned (.bool true) ∧ Below W0.heap.size w w' := by
  obtain ⟨s, t, n, c, l, k, a, o, hs, hn, _⟩ := h
  refine apart_r hs.hold hs.hbk (by omega) hm fun r hr => ?_
  have : r.length ≤ as'.flatten.length := by
    exact len_le hr
  omega
variable {A : Nat → Addr}
set_option maxHeartbeats 8000000 in
set_option maxRecDepth 100000 in
theorem sheetReads_calls (w : World) (hS : SG w A) (hE : ET w) (hT : Lib.TabIs Tryz.prog w "internal/strconv.uint64pow10" .u64 Lib.pow10Tab) (x : Option Addr) (cap : Nat) (P : List (List UInt8 × Bool)) (hP : ScrIn w x P) (hl : P.length * 32 ≤ 140737488351232) (hq : ∀ p ∈ P, p.1.length ≤ 140737488351232) (nb : Bool) :
    Calls Tryz.prog 3 #[.slice x P.length cap, .bool nb] w fun e w' => e = .returned (.bool true) ∧ Below w.heap.size w w' := by
  have HS := Lib.hid hS
  have HF := Lib.hid hS.sf
  have HE := Lib.hid hE
  have HI := Lib.hid (it_of_tab w hT)
  have HP := Lib.hid hP
  have HQ := Lib.hid hq
  clear hS hE hT hP hq
  have l0 : (0 : Int) ≤ (P.length : Int) := Int.natCast_nonneg _
  cases nb
  · go_enter Tryz.func3, Tryz.ntmps3
    go_wp2_with (first
      | (go_at_call 7; (with_reducible refine (new_r w A).mono ?_); rintro e w1 ⟨rfl, hR1, hb1⟩; have HR1 := Lib.hid hR1; have HB1 := Lib.hid hb1; clear hR1 hb1)
      | (go_at_call 8; (with_reducible refine (rnew_r w1).mono ?_); rintro e w2 ⟨rfl, hr2, hb2⟩; have HR2 := Lib.hid (HR1.out.below hb2); have HRf := Lib.hid hr2; clear hr2 hb2))
    have HI0 : Hid (Iv false A w _ w.heap.size w1.heap.size w2.heap.size [] X0) := Lib.hid (iv_start HR2.out HRf.out HB1.out.size)
    clear HR1 HR2 HRf HB1
    generalize w1.heap.size = rb at *
    generalize hbk : w2.heap.size = bk at *
    go_loopw [8, 9, 10, 11, 12, 13, 14, 15, 16, 17, 18] (fun i _ _ _ _ _ _ _ _ _ _ wr => ∃ (k : Nat) (as' : List Rows) (X : BX), k ≤ P.length + 1 ∧ i = .int .i64 (k : Int) ∧ as'.length = k ∧ Hid (Iv false A w wr w.heap.size rb bk as' X)) (fun i _ _ _ _ _ _ _ _ _ _ _ => P.length + 1 - (intOf i).toNat)
    case atStart => exact ⟨0, [], X0, Nat.zero_le _, rfl, rfl, HI0⟩
    case round =>
      clear HI0
      obtain ⟨k, as', X, hk, rfl, hlen, HIv⟩ := hrel
      have k0 : (0 : Int) ≤ (k : Int) := Int.natCast_nonneg _
      by_cases hend : k = P.length + 1
      · subst hend
        have HAp := Lib.hid (HIv.out.apart (by omega))
        have HBw := Lib.hid HIv.out.lt.2
        go_wp2_with (first
          | (go_at_call 18; (with_reducible refine HAp.out.mono ?_); rintro e w3 ⟨rfl, hb3⟩))
        go_ret
        exact ⟨rfl, HBw.out.trans hb3⟩
      · have t0 : decide ((k : Int) ≤ (P.length : Int)) = true := by simp; omega
        have HCl : Hid (Calls Tryz.prog 9 #[PT w.heap.size] wr (Ran false A w wr w.heap.size rb bk as' X none)) := Lib.hid (close_q HF.out HE.out HIv.out)
        by_cases hke : k = P.length
        · subst hke
          go_wp2_with (first
            | (go_at_call 9; (with_reducible refine HCl.out.mono ?_); rintro e w2 ⟨vl, ve, rs, flt, rfl, hM, hT, hf, hFr⟩; have HM := Lib.hid hM; have HT := Lib.hid hT; have HFl := Lib.hid hf; clear hM hT hf hFr)
            | (go_at_call 10; have hRf : Calls Tryz.prog 10 #[PT rb] w2 (Refd false A w w2 w.heap.size rb bk as' X rs flt vl ve wr.heap.size) := rclose_q HM.out HT.out HFl.out; (with_reducible refine hRf.mono ?_); clear hRf; rintro e w3 ⟨v2, f2, rfl, ⟨fc, fl1, fp, fk, fa, rfl⟩, hA, hR, hFo, hT3, hf3, hB3, h53, hw3⟩; have HA := Lib.hid hA; have HRi := Lib.hid hR; have HFo := Lib.hid hFo; have HT3 := Lib.hid hT3; have HF3 := Lib.hid hf3; clear hA hR hFo hT3 hf3 hB3 h53 hw3)
            | (go_at_call 11; have hal := (Below.refl w3.heap.size w3).alloc (Nat.le_refl _) (.cells #[.int .i64 fc, .int .i64 fl1, .int .i64 fp, .int .i64 fk, .int .i64 fa] 46); have hbw := HA.out.lt.2.trans (hal.mono HA.out.lt.2.size); (with_reducible refine (any_said (HS.out.below hbw) (HE.out.below hbw) (HI.out.below hbw) (faultAt_below HF3.out hal) HFo.out).mono ?_); rintro e w4 ⟨rfl, hb4⟩; have HB4 := Lib.hid (hal.trans (hb4.mono hal.size)); clear hal hbw hb4)
            | (go_at_call 12; (with_reducible refine (same_r2 rs _ _ w4 (HT3.out.below HA.out.lt.1 HB4.out).rowsIn (HRi.out.below HB4.out)).mono ?_); rintro e w5 ⟨rfl, hb5⟩; have HB5 := Lib.hid (HB4.out.trans (hb5.mono HB4.out.size)); clear hb5)
            | (go_at_call 13; (with_reducible refine (books_q (HA.out.below HB5.out) (HT3.out.below HA.out.lt.1 HB5.out) (by omega)).mono ?_); rintro e w7 ⟨rfl, X', hI7, hB7, h57, hw7⟩; have HI7 := Lib.hid hI7; clear hI7 hB7 h57 hw7))
          go_roundw
          case rel => exact ⟨P.length + 1, as' ++ [rs], X', by omega, by go_num, by simp [hlen], HI7⟩
          case measure =>
            simp [intOf]
            try omega
        · have hlt : k < P.length := by omega
          have t1 : ((k : Int) == (P.length : Int)) = false := by rw [beq_eq_false_iff_ne]; omega
          have k1 : (k : Int) < (P.length : Int) := by omega
          obtain ⟨a, u, rfl, hc1, hby, hnil, hc2⟩ := HP.out k hlt
          have d2 := kc HIv.out.lt.2 hc2
          have HC1 := Lib.hid hc1
          have HBy := Lib.hid hby
          have HNil := Lib.hid hnil
          have hqk := HQ.out _ (List.getElem_mem hlt)
          generalize P[k].1 = Q at HBy hqk
          clear hc1 hby hnil hc2
          by_cases hcl : P[k].2 = true
          · rw [hcl] at d2
            go_wp2_with (first
              | (go_at_call 9; (with_reducible refine HCl.out.mono ?_); rintro e w2 ⟨vl, ve, rs, flt, rfl, hM, hT, hf, hFr⟩; have HM := Lib.hid hM; have HT := Lib.hid hT; have HFl := Lib.hid hf; clear hM hT hf hFr)
              | (go_at_call 10; have hRf : Calls Tryz.prog 10 #[PT rb] w2 (Refd false A w w2 w.heap.size rb bk as' X rs flt vl ve wr.heap.size) := rclose_q HM.out HT.out HFl.out; (with_reducible refine hRf.mono ?_); clear hRf; rintro e w3 ⟨v2, f2, rfl, ⟨fc, fl1, fp, fk, fa, rfl⟩, hA, hR, hFo, hT3, hf3, hB3, h53, hw3⟩; have HA := Lib.hid hA; have HRi := Lib.hid hR; have HFo := Lib.hid hFo; have HT3 := Lib.hid hT3; have HF3 := Lib.hid hf3; clear hA hR hFo hT3 hf3 hB3 h53 hw3)
              | (go_at_call 11; have hal := (Below.refl w3.heap.size w3).alloc (Nat.le_refl _) (.cells #[.int .i64 fc, .int .i64 fl1, .int .i64 fp, .int .i64 fk, .int .i64 fa] 46); have hbw := HA.out.lt.2.trans (hal.mono HA.out.lt.2.size); (with_reducible refine (any_said (HS.out.below hbw) (HE.out.below hbw) (HI.out.below hbw) (faultAt_below HF3.out hal) HFo.out).mono ?_); rintro e w4 ⟨rfl, hb4⟩; have HB4 := Lib.hid (hal.trans (hb4.mono hal.size)); clear hal hbw hb4)
              | (go_at_call 12; (with_reducible refine (same_r2 rs _ _ w4 (HT3.out.below HA.out.lt.1 HB4.out).rowsIn (HRi.out.below HB4.out)).mono ?_); rintro e w5 ⟨rfl, hb5⟩; have HB5 := Lib.hid (HB4.out.trans (hb5.mono HB4.out.size)); clear hb5)
              | (go_at_call 13; (with_reducible refine (books_q (HA.out.below HB5.out) (HT3.out.below HA.out.lt.1 HB5.out) (by omega)).mono ?_); rintro e w7 ⟨rfl, X', hI7, hB7, h57, hw7⟩; have HI7 := Lib.hid hI7; clear hI7 hB7 h57 hw7))
            go_roundw
            case rel => exact ⟨k + 1, as' ++ [rs], X', by omega, by go_num, by simp [hlen], HI7⟩
            case measure =>
              simp [intOf]
              try omega
          · have hcl' : P[k].2 = false := by simpa using hcl
            rw [hcl'] at d2
            have d1 := kc HIv.out.lt.2 HC1.out
            go_wp2_with (first
              | (go_at_call 14; (with_reducible refine (lent_r Q u wr (HBy.out.below HIv.out.lt.2) HNil.out hqk).mono ?_); rintro e w1 ⟨uo, rfl, hlb, hb1⟩; obtain ⟨go, co, rfl, hO1⟩ := ownB_new HIv.out hlb hb1; have HI1 := Lib.hid (HIv.out.below hb1); have HO1 := Lib.hid hO1; clear hlb hb1 hO1)
              | (go_at_call 15; have hFd : Calls Tryz.prog 15 #[PT w.heap.size, .slice (some ⟨go, 0, none⟩) Q.length co] w1 (Ran false A w w1 w.heap.size rb bk as' X (some Q)) := feed_q HF.out HE.out HI1.out HO1.out hqk; (with_reducible refine hFd.mono ?_); clear hFd; rintro e w2 ⟨vl, ve, rs, flt, rfl, hM, hT, hf, hFr⟩; have HM := Lib.hid hM; have HT := Lib.hid hT; have HFl := Lib.hid hf; have HO2 := Lib.hid (HO1.out.fr hFr); have d3 := kc hM.lt.2 HC1.out; clear hM hT hf hFr)
              | (go_at_call 16; have hRf : Calls Tryz.prog 16 #[PT rb, u] w2 (Refd false A w w2 w.heap.size rb bk as' X rs flt vl ve w1.heap.size) := rfeed_q HM.out HT.out HFl.out (HBy.out.below HM.out.lt.2) hqk; (with_reducible refine hRf.mono ?_); clear hRf; rintro e w3 ⟨v2, f2, rfl, ⟨fc, fl1, fp, fk, fa, rfl⟩, hA, hR, hFo, hT3, hf3, hB3, h53, hw3⟩; have HA := Lib.hid hA; have HRi := Lib.hid hR; have HFo := Lib.hid hFo; have HT3 := Lib.hid hT3; have HF3 := Lib.hid hf3; have HO3 := Lib.hid (HO2.out.five h53 hw3); clear hA hR hFo hT3 hf3 hB3 h53 hw3)
              | (go_at_call 11; have hal := (Below.refl w3.heap.size w3).alloc (Nat.le_refl _) (.cells #[.int .i64 fc, .int .i64 fl1, .int .i64 fp, .int .i64 fk, .int .i64 fa] 46); have hbw := HA.out.lt.2.trans (hal.mono HA.out.lt.2.size); (with_reducible refine (any_said (HS.out.below hbw) (HE.out.below hbw) (HI.out.below hbw) (faultAt_below HF3.out hal) HFo.out).mono ?_); rintro e w4 ⟨rfl, hb4⟩; have HB4 := Lib.hid (hal.trans (hb4.mono hal.size)); clear hal hbw hb4)
              | (go_at_call 12; (with_reducible refine (same_r2 rs _ _ w4 (HT3.out.below HA.out.lt.1 HB4.out).rowsIn (HRi.out.below HB4.out)).mono ?_); rintro e w5 ⟨rfl, hb5⟩; have HB5 := Lib.hid (HB4.out.trans (hb5.mono HB4.out.size)); have d4 := kc (HA.out.below HB5.out).lt.2 HC1.out; clear hb5)
              | (go_at_call 17; (with_reducible refine (kept_r w.heap.size Q _ u w5 (HO3.out.below HA.out.lt.1 HB5.out).lent (HBy.out.below (HA.out.below HB5.out).lt.2) hqk).mono ?_); rintro e w6 ⟨rfl, hb6⟩; have HB6 := Lib.hid (HB5.out.trans (hb6.mono HB5.out.size)); clear hb6)
              | (go_at_call 13; (with_reducible refine (books_q (HA.out.below HB6.out) (HT3.out.below HA.out.lt.1 HB6.out) (by omega)).mono ?_); rintro e w7 ⟨rfl, X', hI7, hB7, h57, hw7⟩; have HI7 := Lib.hid hI7; have HO7 := Lib.hid ((HO3.out.below HA.out.lt.1 HB6.out).five h57 hw7); clear hI7 hB7 h57 hw7))
            have HOC : Hid (∃ cs, OwnC w w7 w.heap.size go Q.length cs) := Lib.hid (by
              obtain ⟨cs, hcs⟩ := HO7.out.blk
              refine ⟨cs, hcs, ?_, HO7.out.nwr, (HO7.out.own.lt go rfl).1⟩
              rcases HO7.out.own.2 with ⟨q, _⟩ | ⟨g', c', cur, hv, _, hg, h1, _, h3, _⟩
              · cases q
              · injection hv with e1 e2 e3
                injection e1 with e1
                injection e1 with e1 _ _
                subst e1
                rw [hcs] at hg
                obtain rfl := (Obj.cells.inj (Option.some.inj hg)).1
                omega)
            have q0 : (0 : Int) ≤ (Q.length : Int) := Int.natCast_nonneg _
            clear HO7 HO3 HO2 HO1 HT HT3 HFl HF3 HM HA HB4 HB5 HB6 HFo HRi d1 d2 d3 d4 HCl HIv
            go_loopw [18] (fun i wr => ∃ (j : Nat) (cs : Array Value), j ≤ Q.length ∧ i = .int .i64 (j : Int) ∧ Hid (Iv false A w wr w.heap.size rb bk (as' ++ [rs]) X') ∧ Hid (OwnC w wr w.heap.size go Q.length cs)) (fun i _ => Q.length - (intOf i).toNat)
            case atStart =>
              obtain ⟨cs, hcs⟩ := HOC.out
              exact ⟨0, cs, Nat.zero_le _, rfl, HI7, Lib.hid hcs⟩
            case round =>
              clear HI7 HOC
              obtain ⟨j, cs, hj, rfl, HIj, HOj⟩ := hrel
              by_cases hjl : j < Q.length
              · have j0 : (0 : Int) ≤ (j : Int) := Int.natCast_nonneg _
                have j1 : (j : Int) < (Q.length : Int) := by omega
                obtain ⟨hg, hcz, hnw, hge⟩ := HOj.out
                have y1 : wr.cell? ⟨go, j, none⟩ = some cs[j] := (bcell hg j).trans (Array.getElem?_eq_getElem (by omega))
                have y2 := bfree hg j
                have HG := Lib.hid hg
                clear hg hnw
                go_wp2
                go_roundw
                case rel =>
                  obtain ⟨p1, p2⟩ := HIj.out.put (i := j) (u := .int .u8 120) HG.out HOj.out.2.2.1 hge
                  exact ⟨j + 1, _, by omega, by go_num, Lib.hid p1, Lib.hid ⟨bset HG.out j _, by simpa using hcz, p2, hge⟩⟩
                case measure => simp [intOf]; omega
              · obtain rfl : Q.length = j := by omega
                clear hjl hj
                go_wp2
                go_roundw
                case rel => exact ⟨k + 1, as' ++ [rs], X', by omega, by go_num, by simp [hlen], HIj⟩
                case measure => simp [intOf]; omega
  · go_enter Tryz.func3, Tryz.ntmps3
    go_wp2_with (first
      | (go_at_call 7; (with_reducible refine (new_r w A).mono ?_); rintro e w1 ⟨rfl, hR1, hb1⟩; have HR1 := Lib.hid hR1; have HB1 := Lib.hid hb1; clear hR1 hb1)
      | (go_at_call 8; (with_reducible refine (rnew_r w1).mono ?_); rintro e w2 ⟨rfl, hr2, hb2⟩; have HR2 := Lib.hid (HR1.out.below hb2); have HRf := Lib.hid hr2; clear hr2 hb2))
    have HI0 : Hid (Iv true A w _ w.heap.size w1.heap.size w2.heap.size [] X0) := Lib.hid (iv_start HR2.out HRf.out HB1.out.size)
    clear HR1 HR2 HRf HB1
    generalize w1.heap.size = rb at *
    generalize hbk : w2.heap.size = bk at *
    go_loopw [8, 9, 10, 11, 12, 13, 14, 15, 16, 17, 18] (fun i _ _ _ _ _ _ _ _ _ _ wr => ∃ (k : Nat) (as' : List Rows) (X : BX), k ≤ P.length + 1 ∧ i = .int .i64 (k : Int) ∧ as'.length = k ∧ Hid (Iv true A w wr w.heap.size rb bk as' X)) (fun i _ _ _ _ _ _ _ _ _ _ _ => P.length + 1 - (intOf i).toNat)
    case atStart => exact ⟨0, [], X0, Nat.zero_le _, rfl, rfl, HI0⟩
    case round =>
      clear HI0
      obtain ⟨k, as', X, hk, rfl, hlen, HIv⟩ := hrel
      have k0 : (0 : Int) ≤ (k : Int) := Int.natCast_nonneg _
      by_cases hend : k = P.length + 1
      · subst hend
        have HAp := Lib.hid (HIv.out.apart (by omega))
        have HBw := Lib.hid HIv.out.lt.2
        go_wp2_with (first
          | (go_at_call 18; (with_reducible refine HAp.out.mono ?_); rintro e w3 ⟨rfl, hb3⟩))
        go_ret
        exact ⟨rfl, HBw.out.trans hb3⟩
      · have t0 : decide ((k : Int) ≤ (P.length : Int)) = true := by simp; omega
        have HCl : Hid (Calls Tryz.prog 9 #[.pointer none] wr (Ran true A w wr w.heap.size rb bk as' X none)) := Lib.hid (close_q HF.out HE.out HIv.out)
        by_cases hke : k = P.length
        · subst hke
          go_wp2_with (first
            | (go_at_call 9; (with_reducible refine HCl.out.mono ?_); rintro e w2 ⟨vl, ve, rs, flt, rfl, hM, hT, hf, hFr⟩; have HM := Lib.hid hM; have HT := Lib.hid hT; have HFl := Lib.hid hf; clear hM hT hf hFr)
            | (go_at_call 10; have hRf : Calls Tryz.prog 10 #[.pointer none] w2 (Refd true A w w2 w.heap.size rb bk as' X rs flt vl ve wr.heap.size) := rclose_q HM.out HT.out HFl.out; (with_reducible refine hRf.mono ?_); clear hRf; rintro e w3 ⟨v2, f2, rfl, ⟨fc, fl1, fp, fk, fa, rfl⟩, hA, hR, hFo, hT3, hf3, hB3, h53, hw3⟩; have HA := Lib.hid hA; have HRi := Lib.hid hR; have HFo := Lib.hid hFo; have HT3 := Lib.hid hT3; have HF3 := Lib.hid hf3; clear hA hR hFo hT3 hf3 hB3 h53 hw3)
            | (go_at_call 11; have hal := (Below.refl w3.heap.size w3).alloc (Nat.le_refl _) (.cells #[.int .i64 fc, .int .i64 fl1, .int .i64 fp, .int .i64 fk, .int .i64 fa] 46); have hbw := HA.out.lt.2.trans (hal.mono HA.out.lt.2.size); (with_reducible refine (any_said (HS.out.below hbw) (HE.out.below hbw) (HI.out.below hbw) (faultAt_below HF3.out hal) HFo.out).mono ?_); rintro e w4 ⟨rfl, hb4⟩; have HB4 := Lib.hid (hal.trans (hb4.mono hal.size)); clear hal hbw hb4)
            | (go_at_call 12; (with_reducible refine (same_r2 rs _ _ w4 (HT3.out.below HA.out.lt.1 HB4.out).rowsIn (HRi.out.below HB4.out)).mono ?_); rintro e w5 ⟨rfl, hb5⟩; have HB5 := Lib.hid (HB4.out.trans (hb5.mono HB4.out.size)); clear hb5)
            | (go_at_call 13; (with_reducible refine (books_q (HA.out.below HB5.out) (HT3.out.below HA.out.lt.1 HB5.out) (by omega)).mono ?_); rintro e w7 ⟨rfl, X', hI7, hB7, h57, hw7⟩; have HI7 := Lib.hid hI7; clear hI7 hB7 h57 hw7))
          go_roundw
          case rel => exact ⟨P.length + 1, as' ++ [rs], X', by omega, by go_num, by simp [hlen], HI7⟩
          case measure =>
            simp [intOf]
            try omega
        · have hlt : k < P.length := by omega
          have t1 : ((k : Int) == (P.length : Int)) = false := by rw [beq_eq_false_iff_ne]; omega
          have k1 : (k : Int) < (P.length : Int) := by omega
          obtain ⟨a, u, rfl, hc1, hby, hnil, hc2⟩ := HP.out k hlt
          have d2 := kc HIv.out.lt.2 hc2
          have HC1 := Lib.hid hc1
          have HBy := Lib.hid hby
          have HNil := Lib.hid hnil
          have hqk := HQ.out _ (List.getElem_mem hlt)
          generalize P[k].1 = Q at HBy hqk
          clear hc1 hby hnil hc2
          by_cases hcl : P[k].2 = true
          · rw [hcl] at d2
            go_wp2_with (first
              | (go_at_call 9; (with_reducible refine HCl.out.mono ?_); rintro e w2 ⟨vl, ve, rs, flt, rfl, hM, hT, hf, hFr⟩; have HM := Lib.hid hM; have HT := Lib.hid hT; have HFl := Lib.hid hf; clear hM hT hf hFr)
              | (go_at_call 10; have hRf : Calls Tryz.prog 10 #[.pointer none] w2 (Refd true A w w2 w.heap.size rb bk as' X rs flt vl ve wr.heap.size) := rclose_q HM.out HT.out HFl.out; (with_reducible refine hRf.mono ?_); clear hRf; rintro e w3 ⟨v2, f2, rfl, ⟨fc, fl1, fp, fk, fa, rfl⟩, hA, hR, hFo, hT3, hf3, hB3, h53, hw3⟩; have HA := Lib.hid hA; have HRi := Lib.hid hR; have HFo := Lib.hid hFo; have HT3 := Lib.hid hT3; have HF3 := Lib.hid hf3; clear hA hR hFo hT3 hf3 hB3 h53 hw3)
              | (go_at_call 11; have hal := (Below.refl w3.heap.size w3).alloc (Nat.le_refl _) (.cells #[.int .i64 fc, .int .i64 fl1, .int .i64 fp, .int .i64 fk, .int .i64 fa] 46); have hbw := HA.out.lt.2.trans (hal.mono HA.out.lt.2.size); (with_reducible refine (any_said (HS.out.below hbw) (HE.out.below hbw) (HI.out.below hbw) (faultAt_below HF3.out hal) HFo.out).mono ?_); rintro e w4 ⟨rfl, hb4⟩; have HB4 := Lib.hid (hal.trans (hb4.mono hal.size)); clear hal hbw hb4)
              | (go_at_call 12; (with_reducible refine (same_r2 rs _ _ w4 (HT3.out.below HA.out.lt.1 HB4.out).rowsIn (HRi.out.below HB4.out)).mono ?_); rintro e w5 ⟨rfl, hb5⟩; have HB5 := Lib.hid (HB4.out.trans (hb5.mono HB4.out.size)); clear hb5)
              | (go_at_call 13; (with_reducible refine (books_q (HA.out.below HB5.out) (HT3.out.below HA.out.lt.1 HB5.out) (by omega)).mono ?_); rintro e w7 ⟨rfl, X', hI7, hB7, h57, hw7⟩; have HI7 := Lib.hid hI7; clear hI7 hB7 h57 hw7))
            go_roundw
            case rel => exact ⟨k + 1, as' ++ [rs], X', by omega, by go_num, by simp [hlen], HI7⟩
            case measure =>
              simp [intOf]
              try omega
          · have hcl' : P[k].2 = false := by simpa using hcl
            rw [hcl'] at d2
            have d1 := kc HIv.out.lt.2 HC1.out
            go_wp2_with (first
              | (go_at_call 14; (with_reducible refine (lent_r Q u wr (HBy.out.below HIv.out.lt.2) HNil.out hqk).mono ?_); rintro e w1 ⟨uo, rfl, hlb, hb1⟩; obtain ⟨go, co, rfl, hO1⟩ := ownB_new HIv.out hlb hb1; have HI1 := Lib.hid (HIv.out.below hb1); have HO1 := Lib.hid hO1; clear hlb hb1 hO1)
              | (go_at_call 15; have hFd : Calls Tryz.prog 15 #[.pointer none, .slice (some ⟨go, 0, none⟩) Q.length co] w1 (Ran true A w w1 w.heap.size rb bk as' X (some Q)) := feed_q HF.out HE.out HI1.out HO1.out hqk; (with_reducible refine hFd.mono ?_); clear hFd; rintro e w2 ⟨vl, ve, rs, flt, rfl, hM, hT, hf, hFr⟩; have HM := Lib.hid hM; have HT := Lib.hid hT; have HFl := Lib.hid hf; have HO2 := Lib.hid (HO1.out.fr hFr); have d3 := kc hM.lt.2 HC1.out; clear hM hT hf hFr)
              | (go_at_call 16; have hRf : Calls Tryz.prog 16 #[.pointer none, u] w2 (Refd true A w w2 w.heap.size rb bk as' X rs flt vl ve w1.heap.size) := rfeed_q HM.out HT.out HFl.out (HBy.out.below HM.out.lt.2) hqk; (with_reducible refine hRf.mono ?_); clear hRf; rintro e w3 ⟨v2, f2, rfl, ⟨fc, fl1, fp, fk, fa, rfl⟩, hA, hR, hFo, hT3, hf3, hB3, h53, hw3⟩; have HA := Lib.hid hA; have HRi := Lib.hid hR; have HFo := Lib.hid hFo; have HT3 := Lib.hid hT3; have HF3 := Lib.hid hf3; have HO3 := Lib.hid (HO2.out.five h53 hw3); clear hA hR hFo hT3 hf3 hB3 h53 hw3)
              | (go_at_call 11; have hal := (Below.refl w3.heap.size w3).alloc (Nat.le_refl _) (.cells #[.int .i64 fc, .int .i64 fl1, .int .i64 fp, .int .i64 fk, .int .i64 fa] 46); have hbw := HA.out.lt.2.trans (hal.mono HA.out.lt.2.size); (with_reducible refine (any_said (HS.out.below hbw) (HE.out.below hbw) (HI.out.below hbw) (faultAt_below HF3.out hal) HFo.out).mono ?_); rintro e w4 ⟨rfl, hb4⟩; have HB4 := Lib.hid (hal.trans (hb4.mono hal.size)); clear hal hbw hb4)
              | (go_at_call 12; (with_reducible refine (same_r2 rs _ _ w4 (HT3.out.below HA.out.lt.1 HB4.out).rowsIn (HRi.out.below HB4.out)).mono ?_); rintro e w5 ⟨rfl, hb5⟩; have HB5 := Lib.hid (HB4.out.trans (hb5.mono HB4.out.size)); have d4 := kc (HA.out.below HB5.out).lt.2 HC1.out; clear hb5)
              | (go_at_call 17; (with_reducible refine (kept_r w.heap.size Q _ u w5 (HO3.out.below HA.out.lt.1 HB5.out).lent (HBy.out.below (HA.out.below HB5.out).lt.2) hqk).mono ?_); rintro e w6 ⟨rfl, hb6⟩; have HB6 := Lib.hid (HB5.out.trans (hb6.mono HB5.out.size)); clear hb6)
              | (go_at_call 13; (with_reducible refine (books_q (HA.out.below HB6.out) (HT3.out.below HA.out.lt.1 HB6.out) (by omega)).mono ?_); rintro e w7 ⟨rfl, X', hI7, hB7, h57, hw7⟩; have HI7 := Lib.hid hI7; have HO7 := Lib.hid ((HO3.out.below HA.out.lt.1 HB6.out).five h57 hw7); clear hI7 hB7 h57 hw7))
            have HOC : Hid (∃ cs, OwnC w w7 w.heap.size go Q.length cs) := Lib.hid (by
              obtain ⟨cs, hcs⟩ := HO7.out.blk
              refine ⟨cs, hcs, ?_, HO7.out.nwr, (HO7.out.own.lt go rfl).1⟩
              rcases HO7.out.own.2 with ⟨q, _⟩ | ⟨g', c', cur, hv, _, hg, h1, _, h3, _⟩
              · cases q
              · injection hv with e1 e2 e3
                injection e1 with e1
                injection e1 with e1 _ _
                subst e1
                rw [hcs] at hg
                obtain rfl := (Obj.cells.inj (Option.some.inj hg)).1
                omega)
            have q0 : (0 : Int) ≤ (Q.length : Int) := Int.natCast_nonneg _
            clear HO7 HO3 HO2 HO1 HT HT3 HFl HF3 HM HA HB4 HB5 HB6 HFo HRi d1 d2 d3 d4 HCl HIv
            go_loopw [18] (fun i wr => ∃ (j : Nat) (cs : Array Value), j ≤ Q.length ∧ i = .int .i64 (j : Int) ∧ Hid (Iv true A w wr w.heap.size rb bk (as' ++ [rs]) X') ∧ Hid (OwnC w wr w.heap.size go Q.length cs)) (fun i _ => Q.length - (intOf i).toNat)
            case atStart =>
              obtain ⟨cs, hcs⟩ := HOC.out
              exact ⟨0, cs, Nat.zero_le _, rfl, HI7, Lib.hid hcs⟩
            case round =>
              clear HI7 HOC
              obtain ⟨j, cs, hj, rfl, HIj, HOj⟩ := hrel
              by_cases hjl : j < Q.length
              · have j0 : (0 : Int) ≤ (j : Int) := Int.natCast_nonneg _
                have j1 : (j : Int) < (Q.length : Int) := by omega
                obtain ⟨hg, hcz, hnw, hge⟩ := HOj.out
                have y1 : wr.cell? ⟨go, j, none⟩ = some cs[j] := (bcell hg j).trans (Array.getElem?_eq_getElem (by omega))
                have y2 := bfree hg j
                have HG := Lib.hid hg
                clear hg hnw
                go_wp2
                go_roundw
                case rel =>
                  obtain ⟨p1, p2⟩ := HIj.out.put (i := j) (u := .int .u8 120) HG.out HOj.out.2.2.1 hge
                  exact ⟨j + 1, _, by omega, by go_num, Lib.hid p1, Lib.hid ⟨bset HG.out j _, by simpa using hcz, p2, hge⟩⟩
                case measure => simp [intOf]; omega
              · obtain rfl : Q.length = j := by omega
                clear hjl hj
                go_wp2
                go_roundw
                case rel => exact ⟨k + 1, as' ++ [rs], X', by omega, by go_num, by simp [hlen], HIj⟩
                case measure => simp [intOf]; omega
end Go.Proofs.YtappphffbnkloaaGreatDoor.Sht
set_option linter.unusedVariables false
set_option linter.unusedSimpArgs false
namespace Go.Proofs.YtappphffbnkloaaGreatDoor.Sht
open Go Go.RowKit Go.ChangeShapes Go.WideShapes Go.Deep
theorem weights_all2 {H : Type} {P : Program} {e : TypeId} {n : Nat} : ∀ {l : List (DataW H)} {d : DataW H}, d ∈ l → n ∈ DataW.weights P e d → n ∈ DataW.weightsAll P e l
  | [], d, h, _ => by simp at h
  | x :: l, d, h, hn => by
    show n ∈ DataW.weights P e x ++ DataW.weightsAll P e l
    rcases List.mem_cons.1 h with rfl | h
    · exact List.mem_append_left _ hn
    · exact List.mem_append_right _ (weights_all2 h hn)
theorem bytesPiece : Tryz.prog.bytesOf 39 = 32 := by kernel_rfl
theorem bytesByte : Tryz.prog.bytesOf 5 = 1 := by kernel_rfl
theorem cellsPiece : Tryz.prog.cellsOf 39 = 2 := by kernel_rfl
theorem open_byte {H : Type} {enc : TypeId × Value → H} {w : World} {v : Value} {d : DataW H} {p : List MemPlace} {fuel : Nat} (h : DataW.trod enc Tryz.prog w 0 (fun _ => true) true fuel 37 [v] = some (d, p))
    (hw : ∀ n ∈ DataW.weights Tryz.prog 37 d, n ≤ reachBytes) : ∃ l, ByteIn w v l ∧ NilOk v ∧ l.length ≤ reachBytes := by
  rcases open_ints Tryz.underlying37 Tryz.underlying5 cellsByte h with ⟨hcs, _⟩ | ⟨a, len, cap, zs, hcs, _, hl, hm, hz, hx, hcell, hwz⟩
  · obtain rfl : v = .slice none 0 0 := (List.cons.inj hcs).1
    exact ⟨[], ⟨none, 0, rfl, Nat.le_refl _, by decide, fun i h => absurd h (by simp)⟩, fun n c _ => rfl, Nat.zero_le _⟩
  · obtain rfl : v = .slice (some a) len cap := (List.cons.inj hcs).1
    simp only [if_true] at hz
    have hlen : ((zs.take len).map fun n => UInt8.ofNat n.toNat).length = len := by rw [List.length_map, List.length_take, hz]; omega
    have hwt : zs.length ≤ reachBytes := by
      have hd : d = .slice (lits .u8 (zs.take len)) (lits .u8 (zs.drop len)) := congrArg Prod.fst hx
      have := hw _ (by
        rw [hd]
        unfold DataW.weights
        rw [Tryz.underlying37]
        exact List.mem_cons_self)
      rw [bytesByte, Nat.mul_one] at this
      have e : (lits (H := H) .u8 (zs.take len)).length + (lits (H := H) .u8 (zs.drop len)).length = zs.length := by unfold lits; rw [List.length_map, List.length_map, List.length_take, List.length_drop]; omega
      rw [e] at this
      exact this
    refine ⟨(zs.take len).map fun n => UInt8.ofNat n.toNat, ⟨some a, cap, by rw [hlen], by rw [hlen]; exact hl, by unfold maxLen at hm; exact hm, fun i hi => ⟨a, rfl, ?_⟩⟩, (fun n c q => by cases q), by rw [hlen]; omega⟩
    rw [hlen] at hi
    have hi' : i < zs.length := by omega
    rw [hcell i hi', List.getD_eq_getElem?_getD, List.getElem?_eq_getElem hi', List.getElem_map, List.getElem_take]
    have hwf := hwz zs[i] (List.getElem_mem hi')
    have hb : 0 ≤ zs[i] ∧ zs[i] < 256 := by
      simp [Lit.wf, IntKind.min, IntKind.max, IntKind.bits, IntKind.signed] at hwf
      omega
    show some (Value.int .u8 zs[i]) = some (Value.int .u8 ((UInt8.ofNat zs[i].toNat).toNat : Int))
    rw [UInt8.toNat_ofNat']
    congr 2
    omega
theorem open_pieces {H : Type} {enc : TypeId × Value → H} {w : World} {v : Value} {d : DataW H} {p : List MemPlace} (ho : ∃ a l c, v = .slice a l c) (h : DataW.Trod enc Tryz.prog w 0 (fun _ => true) true 22 v d p)
    (hw : ∀ n ∈ DataW.weights Tryz.prog 22 d, n ≤ reachBytes) : ∃ (x : Option Addr) (cap : Nat) (P : List (List UInt8 × Bool)), v = .slice x P.length cap ∧ ScrIn w x P ∧ P.length * 32 ≤ reachBytes ∧ ∀ q ∈ P, q.1.length ≤ reachBytes := by
  obtain ⟨a0, l0, c0, rfl⟩ := ho
  obtain ⟨fuel, hf⟩ := h
  rcases open_slice_pairs Tryz.underlying22 Tryz.underlying39 cellsPiece rfl rfl (by kernel_rfl) (by kernel_rfl) hf with ⟨hcs, _⟩ | ⟨a, len, cap, m, n, V0, V1, D0, D1, P0, P1, hcs, hb, hl, hm, hmm, hxx, hx⟩
  · have hv := (List.cons.inj (show [Value.slice a0 l0 c0] = [_] from hcs)).1
    exact ⟨none, 0, [], hv, fun i h => absurd h (by simp), by simp, by simp⟩
  · have hv := (List.cons.inj (show [Value.slice a0 l0 c0] = [_] from hcs)).1
    simp only [if_true] at hmm
    subst hmm
    have hd : d = _ := congrArg Prod.fst hxx
    have hin : ∀ r, r < len → ∀ k ∈ DataW.weights Tryz.prog 37 (D0 r), k ≤ reachBytes := fun r hr k hk => hw k (by
      rw [hd]
      unfold DataW.weights
      rw [Tryz.underlying22]
      refine List.mem_cons_of_mem _ (List.mem_append_left _ (weights_all2 (List.mem_map.2 ⟨r, List.mem_range.2 hr, rfl⟩) ?_))
      unfold DataW.weights
      rw [Tryz.underlying39]
      exact List.mem_append_left _ hk)
    have each : ∀ r, r < len → ∃ q : List UInt8 × Bool, ByteIn w (V0 r) q.1 ∧ NilOk (V0 r) ∧ q.1.length ≤ reachBytes ∧ V1 r = .bool q.2 := fun r hr => by
      obtain ⟨_, _, h0, h1⟩ := hx r (by omega)
      obtain ⟨l, e1, e2, e3⟩ := open_byte h0 (hin r hr)
      obtain ⟨b, e4, _⟩ := DataW.trod_bool Tryz.underlying4 h1
      exact ⟨(l, b), e1, e2, e3, (List.cons.inj e4).1⟩
    obtain ⟨f, hfr⟩ := choose_lt each
    have hwt : len * 32 ≤ reachBytes := by
      have := hw _ (by
        rw [hd]
        unfold DataW.weights
        rw [Tryz.underlying22]
        exact List.mem_cons_self)
      rw [bytesPiece] at this
      simp only [List.length_map, List.length_range] at this
      omega
    refine ⟨some a, m, (List.range len).map f, by rw [hv]; simp, fun i hi => ?_, by simpa using hwt, fun q hq => ?_⟩
    · have hi' : i < len := by simpa using hi
      obtain ⟨c1, c2, _, _⟩ := hx i (by omega)
      obtain ⟨q1, q2, q3, q4⟩ := hfr i hi'
      refine ⟨a, V0 i, rfl, c1, by simpa using q1, q2, ?_⟩
      have e : ((List.range len).map f)[i] = f i := by simp
      rw [e, ← q4]
      have hs : a.spot = none := by simpa [Addr.add] using World.cell?_spot (hx 0 (by omega)).1
      obtain ⟨ab, ao, spot⟩ := a
      obtain rfl : spot = none := hs
      rw [show (⟨((⟨ab, ao, none⟩ : Addr).add (i * 2)).block, ((⟨ab, ao, none⟩ : Addr).add (i * 2)).off + 1, none⟩ : Addr) = (⟨ab, ao, none⟩ : Addr).add (i * 2 + 1) by
        by_cases q : i * 2 = 0
        · simp [Addr.add, q]
        · simp [Addr.add, q, Nat.add_assoc]]
      exact c2
    · obtain ⟨i, hi, rfl⟩ := List.mem_map.1 hq
      exact (hfr i (List.mem_range.1 hi)).2.2.1
end Go.Proofs.YtappphffbnkloaaGreatDoor.Sht

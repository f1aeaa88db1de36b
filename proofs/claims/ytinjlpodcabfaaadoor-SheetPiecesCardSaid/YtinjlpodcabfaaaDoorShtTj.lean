-- joined out of the texts ShtTb ShtTn
import Derived.Test.YtinjlpodcabfaaaDoorShtIu
import Derived.SliceStrings
import Derived.OpenShut
import Derived.SizedLaws
import Derived.ChangeSlices
set_option linter.unusedVariables false
namespace Go.Proofs.YtinjlpodcabfaaaDoor.Sht
open Go Go.RowKit Go.ChangeShapes Go.WideShapes
set_option maxRecDepth 100000 in
theorem tb_of_shape {W : World} (h : W.ShapedOpen Tryd.prog) : ∃ tb, Itoa.Tb W tb := by
  obtain ⟨cs, hh, hs, hr⟩ := h.1 21 (Array.replicate 20 (.int .u64 0)) 122 (of_decide_eq_true (by kernel_rfl)) (by kernel_rfl)
  obtain ⟨ts, hts, _, hall⟩ := hr (by kernel_rfl)
  have hts' : Tryd.prog.cellTypes Tryd.prog.depth 122 = some (List.replicate 20 102) := by kernel_rfl
  rw [hts'] at hts
  obtain rfl := Option.some.inj hts
  refine ⟨fun q => match cs[q]? with | some (.int _ n) => n | _ => 0, fun q hq => ?_⟩
  have hq' : q < cs.size := by rw [hs, Array.size_replicate]; exact hq
  obtain ⟨u, hu, hok⟩ := hall q cs[q] (Array.getElem?_eq_getElem hq')
  have hu' : u = 102 := by
    rw [List.length_replicate, Nat.mod_eq_of_lt hq, List.getElem?_replicate, if_pos hq] at hu
    exact (Option.some.inj hu).symm
  subst hu'
  have hcell : W.cell? ⟨21, q, none⟩ = some cs[q] := by unfold World.cell?; rw [hh]; exact Array.getElem?_eq_getElem hq'
  rw [hcell]
  unfold Cell.ok at hok
  rw [Tryd.underlying102] at hok
  have hg : cs[q]? = some cs[q] := Array.getElem?_eq_getElem hq'
  show some cs[q] = some (Value.int IntKind.u64 (match cs[q]? with | some (.int _ n) => n | _ => 0))
  rw [hg]
  cases hv : cs[q] <;> rw [hv] at hok <;> first | (obtain ⟨rfl, _⟩ := hok; rfl) | exact hok.elim | simp at hok
section
variable {H : Type} {enc : TypeId × Value → H} {w : World} {v : Value} {d : DataW H} {p : List MemPlace}
theorem weights_strs {P : Program} (e : TypeId) : ∀ (l : List ByteArray) (s : ByteArray), s ∈ l → s.data.toList.length ∈ DataW.weightsAll P e (strs (H := H) l)
  | [], s, h => by simp at h
  | x :: l, s, h => by
    show _ ∈ (DataW.weights P e (.lit (.string x.data.toList) : DataW H)) ++ DataW.weightsAll P e (strs l)
    rcases List.mem_cons.1 h with rfl | h
    · exact List.mem_append_left _ (by simp [DataW.weights])
    · exact List.mem_append_right _ (weights_strs e l s h)
theorem open_texts (hk : Value.okWide Tryd.prog w .any 0 28 v ∨ True) (ho : ∃ a l c, v = .slice a l c) (h : DataW.Trod enc Tryd.prog w 0 (fun _ => true) true 28 v d p) (hc : Tryd.prog.cellsOf 9 = 1)
    (hsz : ∀ n, n ∈ d.weights Tryd.prog 28 → n ≤ reachBytes) :
    ∃ (x : Option Addr) (ms : List ByteArray) (cap : Nat), v = .slice x ms.length cap ∧ (∀ m ∈ ms, m.size ≤ 4611686018427387904) ∧ ms.length ≤ 9223372036854775807 ∧
      ∀ i (h : i < ms.length), ∃ ad : Addr, x = some ad ∧ w.cell? (ad.add i) = some (.string ms[i]) := by
  obtain ⟨a, l, c, rfl⟩ := ho
  obtain ⟨fuel, hf⟩ := h
  rcases open_strings Tryd.underlying28 Tryd.underlying9 hc hf with ⟨hcs, hx⟩ | ⟨a, len, cap, ss, hcs, _, hl, hm, hz, hx, hcell, hs⟩
  · refine ⟨none, [], 0, (List.cons.inj (show [Value.slice a l c] = [_] from hcs)).1, fun m hm => by simp at hm, by simp, fun i h => absurd h (by simp)⟩
  · have hlen : (ss.take len).length = len := by rw [List.length_take, hz]; simp; omega
    refine ⟨some a, ss.take len, cap, ?_, fun m hm' => ?_, by rw [hlen]; simp only [maxLen] at hm; omega, fun i h => ⟨a, rfl, ?_⟩⟩
    · rw [hlen]; exact (List.cons.inj (show [Value.slice _ l c] = [_] from hcs)).1
    · have hd : d = .slice (strs (ss.take len)) (strs (ss.drop len)) := congrArg Prod.fst hx
      have := hsz m.data.toList.length (by
        rw [hd]
        unfold DataW.weights
        rw [Tryd.underlying28]
        exact List.mem_cons_of_mem _ (List.mem_append_left _ (weights_strs _ _ _ hm')))
      rw [Array.length_toList] at this
      have hr := reachBytes_lt
      show m.data.size ≤ _
      omega
    · have hi : i < ss.length := by rw [List.length_take] at h; omega
      rw [hcell i hi, List.getD_eq_getElem?_getD, List.getElem?_eq_getElem hi, List.getElem_take]
      rfl
end
end Go.Proofs.YtinjlpodcabfaaaDoor.Sht
set_option linter.unusedVariables false
namespace Go.Proofs.YtinjlpodcabfaaaDoor.Sht
open Go Go.RowKit Go.ChangeShapes Go.WideShapes
theorem open_nums {H : Type} {enc : TypeId × Value → H} {w : World} {v : Value} {d : DataW H} {p : List MemPlace} (ho : ∃ a l c, v = .slice a l c) (h : DataW.Trod enc Tryd.prog w 0 (fun _ => true) true 47 v d p) (hc : Tryd.prog.cellsOf 3 = 1)
    (hsz : ∀ n, n ∈ d.weights Tryd.prog 47 → n ≤ reachBytes) (hb8 : Tryd.prog.bytesOf 3 = 8) :
    ∃ (x : Option Addr) (zs : List Int) (cap : Nat), v = .slice x zs.length cap ∧ zs.length ≤ 4611686018427387904 ∧
      ∀ i (h : i < zs.length), ∃ ad : Addr, x = some ad ∧ w.cell? (ad.add i) = some (.int .i64 zs[i]) := by
  obtain ⟨a, l, c, rfl⟩ := ho
  obtain ⟨fuel, hf⟩ := h
  rcases open_ints Tryd.underlying47 Tryd.underlying3 hc hf with ⟨hcs, hx⟩ | ⟨a, len, cap, ss, hcs, _, hl, hm, hz, hx, hcell, hs⟩
  · exact ⟨none, [], 0, (List.cons.inj (show [Value.slice a l c] = [_] from hcs)).1, by simp, fun i h => absurd h (by simp)⟩
  · have hlen : (ss.take len).length = len := by rw [List.length_take, hz]; simp; omega
    have hd : d = .slice (lits .i64 (ss.take len)) (lits .i64 (ss.drop len)) := congrArg Prod.fst hx
    have hw := hsz (((lits (H := H) .i64 (ss.take len)).length + (lits (H := H) .i64 (ss.drop len)).length) * Tryd.prog.bytesOf 3) (by
      rw [hd]
      unfold DataW.weights
      rw [Tryd.underlying47]
      exact List.mem_cons_self)
    rw [hb8] at hw
    have hr := reachBytes_lt
    have hl2 : (lits (H := H) .i64 (ss.take len)).length = len := by unfold lits; rw [List.length_map]; exact hlen
    refine ⟨some a, ss.take len, cap, ?_, by rw [hlen]; omega, fun i h => ⟨a, rfl, ?_⟩⟩
    · rw [hlen]; exact (List.cons.inj (show [Value.slice _ l c] = [_] from hcs)).1
    · have hi : i < ss.length := by rw [List.length_take] at h; omega
      rw [hcell i hi, List.getD_eq_getElem?_getD, List.getElem?_eq_getElem hi, List.getElem_take]
      rfl
end Go.Proofs.YtinjlpodcabfaaaDoor.Sht

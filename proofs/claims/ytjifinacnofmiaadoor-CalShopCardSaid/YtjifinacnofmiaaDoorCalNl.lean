/- A parameter that is a list of whole numbers. -/
import Derived.Test.YtjifinacnofmiaaDoorCalShW
import Derived.ChangeSlices
import Derived.SizedLaws
import Derived.OpenShut
set_option linter.unusedVariables false
namespace Go.Proofs.YtjifinacnofmiaaDoor.Ext
open Go Go.RowKit Go.ChangeShapes Go.WideShapes
theorem open_nl {H : Type} {enc : TypeId × Value → H} {w : World} {v : Value} {d : DataW H} {p : List MemPlace} (ho : ∃ a l c, v = .slice a l c) (h : DataW.Trod enc Tryd.prog w 0 (fun _ => true) true 31 v d p) (hc : Tryd.prog.cellsOf 3 = 1)
    (hsz : ∀ n, n ∈ d.weights Tryd.prog 31 → n ≤ reachBytes) (hb8 : Tryd.prog.bytesOf 3 = 8) :
    ∃ (x : Option Addr) (zs : List Int) (cap : Nat), v = .slice x zs.length cap ∧ NL w x zs := by
  obtain ⟨a, l, c, rfl⟩ := ho
  obtain ⟨fuel, hf⟩ := h
  rcases open_ints Tryd.underlying31 Tryd.underlying3 hc hf with ⟨hcs, hx⟩ | ⟨a, len, cap, ss, hcs, _, hl, hm, hz, hx, hcell, hs⟩
  · exact ⟨none, [], 0, (List.cons.inj (show [Value.slice a l c] = [_] from hcs)).1, by simp, fun z hz => absurd hz (by simp), fun i h => absurd h (by simp)⟩
  · have hlen : (ss.take len).length = len := by rw [List.length_take, hz]; simp; omega
    have hd : d = .slice (lits .i64 (ss.take len)) (lits .i64 (ss.drop len)) := congrArg Prod.fst hx
    have hw := hsz (((lits (H := H) .i64 (ss.take len)).length + (lits (H := H) .i64 (ss.drop len)).length) * Tryd.prog.bytesOf 3) (by
      rw [hd]
      unfold DataW.weights
      rw [Tryd.underlying31]
      exact List.mem_cons_self)
    rw [hb8] at hw
    have hr := reachBytes_lt
    have hl2 : (lits (H := H) .i64 (ss.take len)).length = len := by unfold lits; rw [List.length_map]; exact hlen
    refine ⟨some a, ss.take len, cap, ?_, by rw [hlen]; omega, fun z hz => bounds_i64 (hs z (List.mem_of_mem_take hz)), fun i h => ⟨a, rfl, ?_⟩⟩
    · rw [hlen]; exact (List.cons.inj (show [Value.slice _ l c] = [_] from hcs)).1
    · have hi : i < ss.length := by rw [List.length_take] at h; omega
      rw [hcell i hi, List.getD_eq_getElem?_getD, List.getElem?_eq_getElem hi, List.getElem_take]
      rfl
end Go.Proofs.YtjifinacnofmiaaDoor.Ext

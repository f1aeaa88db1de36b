/- The law CalAdds in plain numbers: to every instant and span, there and back, cal's AddSpan answers what the reference answers. -/
import Derived.Test.YtofafljfabgpmaaDoorCalAddP
import Derived.Test.YtofafljfabgpmaaDoorGCxf11
namespace Go.Proofs.YtofafljfabgpmaaDoor.CalP
open Go.RowKit Go.Proofs.YtofafljfabgpmaaDoorW.PrintWords Go.Proofs.YtofafljfabgpmaaDoor.Ext Go.Proofs.YtofafljfabgpmaaDoor.PCal Go.Proofs.YtofafljfabgpmaaDoor.GC
theorem add_same (sec y mo wk d h mi s : Int) (back : Bool) : ∃ r : Int × Int, ∀ k, 30010 ≤ k → cal_AddSpan.f k sec y mo wk d h mi s back = some r ∧ larderref03_AddSpan.f k sec y mo wk d h mi s back = some r := by
  by_cases c : sec < 0 ∨ sec > 315569519999
  · exact ⟨_, fun k hk => addSpan_out k (by omega) sec y mo wk d h mi s back c⟩
  · cases g : goodB y mo wk d h mi s with
    | false => exact ⟨_, fun k hk => addSpan_bad k (by omega) sec y mo wk d h mi s back (by omega) (by omega) g⟩
    | true =>
      obtain ⟨Y, M, D, hv, hn⟩ := day_ex (sec / 86400) (by omega) (by omega)
      exact ⟨_, fun k hk => addSpan_eq k hk hv sec y mo wk d h mi s back (by omega) (by omega) hn g⟩
theorem calAdds_pure (sec y mo wk d h mi s : Int) : ∃ k, larderlaw03_CalAdds.f k sec y mo wk d h mi s = some true := by
  obtain ⟨k, hk⟩ : ∃ k, 30010 ≤ k := ⟨30010, Nat.le_refl _⟩
  obtain ⟨r, hr⟩ := add_same sec y mo wk d h mi s false
  obtain ⟨q, hq⟩ := add_same sec y mo wk d h mi s true
  refine ⟨k, ?_⟩
  unfold larderlaw03_CalAdds.f
  rw [(hr k hk).1, (hr k hk).2, (hq k hk).1, (hq k hk).2]
  simp
end Go.Proofs.YtofafljfabgpmaaDoor.CalP

/- cal's Each as an iterator, in one statement: the days that it goes over. -/
import Derived.Test.YtjifinacnofmiaaDoorCalEachX
set_option linter.unusedVariables false
set_option linter.unusedSimpArgs false
namespace Go.Proofs.YtjifinacnofmiaaDoor.Ext
open Go.RowKit Go.Shelf Go.Proofs.YtjifinacnofmiaaDoorW.PrintWords Go.Proofs.YtjifinacnofmiaaDoor.PCal Go.Proofs.YtjifinacnofmiaaDoor.CalP Go.Proofs.YtjifinacnofmiaaDoor.GC

theorem eb_new (w : World) (y m d y' m' d' s : Int) : EB (((w.alloc (.cells #[.int .i64 y, .int .i64 m, .int .i64 d] 27)).alloc (.cells #[.int .i64 y', .int .i64 m', .int .i64 d'] 27)).alloc (.cells #[.int .i64 s] 3)) w.heap.size y m d y' m' d' s := by
  refine ⟨?_, ?_, ?_⟩
  · exact (Below.heap_alloc _ _ _ (by simp; omega)).trans ((Below.heap_alloc _ _ _ (by simp)).trans (World.alloc_heap_new w _))
  · refine (Below.heap_alloc _ _ _ (by simp)).trans ?_
    have := World.alloc_heap_new (w.alloc (.cells #[.int .i64 y, .int .i64 m, .int .i64 d] 27)) (.cells #[.int .i64 y', .int .i64 m', .int .i64 d'] 27)
    rwa [World.size_alloc] at this
  · have := World.alloc_heap_new ((w.alloc (.cells #[.int .i64 y, .int .i64 m, .int .i64 d] 27)).alloc (.cells #[.int .i64 y', .int .i64 m', .int .i64 d'] 27)) (.cells #[.int .i64 s] 3)
    rwa [World.size_alloc, World.size_alloc] at this
theorem each_stops (n b : Nat) (hn : 1 ≤ n) (w0 : World) (hG : GlobOk w0) (y m d y' m' d' s : Int) (w : World) (hE : EB w b y m d y' m' d' s) (hW : Below w0.heap.size w0 w) :
    SeqStopsK Fence.wide n Tryd.prog 47 #[.pointer (some ⟨b, 0, none⟩), .pointer (some ⟨b + 1, 0, none⟩), .pointer (some ⟨b + 2, 0, none⟩)] (fun x : Int => #[VD (dt x)]) (KpE w0.heap.size b)
      (fun ys => ys = eachL y m d y' m' d' s) (fun pre => pre <+: eachL y m d y' m' d' s ∧ pre ≠ []) (eachL y m d y' m' d' s).length w := by
  intro l J Jx W hw hJ hJx hY h0
  have hE' := hE.below hw
  have hW' := hW.trans (hw.mono hW.size)
  have lift : ∀ {R : Ending → World → Prop}, CallsIn Fence.wide n Tryd.prog 47 #[.func (.yield l) #[] #[], .pointer (some ⟨b, 0, none⟩), .pointer (some ⟨b + 1, 0, none⟩), .pointer (some ⟨b + 2, 0, none⟩)] W R → (∀ (e : Ending) (W' : World), R e W' → (∃ v, e = .returned v) ∧ ((∃ xs, xs = eachL y m d y' m' d' s ∧ J xs W') ∨ (∃ pre, (pre <+: eachL y m d y' m' d' s ∧ pre ≠ []) ∧ Jx pre W'))) →
      CallsIn Fence.wide n Tryd.prog 47 (#[.func (.yield l) #[] #[]] ++ #[.pointer (some ⟨b, 0, none⟩), .pointer (some ⟨b + 1, 0, none⟩), .pointer (some ⟨b + 2, 0, none⟩)]) W fun e W' => (∃ v, e = .returned v) ∧ ((∃ xs, xs = eachL y m d y' m' d' s ∧ J xs W') ∨ (∃ pre, (pre <+: eachL y m d y' m' d' s ∧ pre ≠ []) ∧ Jx pre W')) := fun h k => h.mono k
  have fin : ∀ (e : Ending) (W' : World), ((∃ v, e = .returned v) ∧ ((∃ ys, ys = eachL y m d y' m' d' s ∧ J ys W') ∨ (∃ pre, pre <+: eachL y m d y' m' d' s ∧ pre ≠ [] ∧ Jx pre W'))) → (∃ v, e = .returned v) ∧ ((∃ xs, xs = eachL y m d y' m' d' s ∧ J xs W') ∨ (∃ pre, (pre <+: eachL y m d y' m' d' s ∧ pre ≠ []) ∧ Jx pre W')) := by
    rintro e W' ⟨a, h | ⟨pre, p1, p2, p3⟩⟩
    · exact ⟨a, .inl h⟩
    · exact ⟨a, .inr ⟨pre, ⟨p1, p2⟩, p3⟩⟩
  by_cases hno : vldB y m d = false ∨ (vldB y m d = true ∧ vldB y' m' d' = false) ∨ (vldB y m d = true ∧ vldB y' m' d' = true ∧ s = 0)
  · have hx : eachL y m d y' m' d' s = [] := by
      unfold eachL
      rw [if_neg]
      rintro ⟨a, b, c, _⟩
      rcases hno with h | ⟨_, h⟩ | ⟨_, _, h⟩
      · rw [a] at h; cases h
      · rw [b] at h; cases h
      · exact c h
    exact lift (each1_no n l b hn w0 hG y m d y' m' d' s J W hJ hE' hW' h0 hno) fun e W' h => ⟨h.1, .inl ⟨[], hx.symm, h.2⟩⟩
  · have h1 : vldB y m d = true := by
      cases h : vldB y m d with
      | true => rfl
      | false => exact absurd (.inl h) hno
    have h2 : vldB y' m' d' = true := by
      cases h : vldB y' m' d' with
      | true => rfl
      | false => exact absurd (.inr (.inl ⟨h1, h⟩)) hno
    have h3 : s ≠ 0 := fun h => hno (.inr (.inr ⟨h1, h2, h⟩))
    by_cases hp : 0 < s
    · by_cases hc : num y m d ≤ num y' m' d'
      · have hx : eachL y m d y' m' d' s = goL s (num y' m' d') (num y' m' d' - num y m d).natAbs (num y m d) := by
          unfold eachL; rw [if_pos ⟨h1, h2, h3, .inl ⟨hp, hc⟩⟩]
        exact lift (each1_pos n l b hn w0 hG y m d y' m' d' s hp J Jx W hJ hE' hW' h0 h1 h2 hc _ hx hY) fin
      · have hx : eachL y m d y' m' d' s = [] := by
          unfold eachL; rw [if_neg]; rintro ⟨_, _, _, h | h⟩ <;> omega
        exact lift (each1_off_pos n l b hn w0 hG y m d y' m' d' s hp J Jx W hJ hE' hW' h0 h1 h2 (by omega) _ hx hY) fin
    · by_cases hc : num y' m' d' ≤ num y m d
      · have hx : eachL y m d y' m' d' s = goL s (num y' m' d') (num y' m' d' - num y m d).natAbs (num y m d) := by
          unfold eachL; rw [if_pos ⟨h1, h2, h3, .inr ⟨by omega, hc⟩⟩]
        exact lift (each1_neg n l b hn w0 hG y m d y' m' d' s (by omega) J Jx W hJ hE' hW' h0 h1 h2 hc _ hx hY) fin
      · have hx : eachL y m d y' m' d' s = [] := by
          unfold eachL; rw [if_neg]; rintro ⟨_, _, _, h | h⟩ <;> omega
        exact lift (each1_off_neg n l b hn w0 hG y m d y' m' d' s (by omega) J Jx W hJ hE' hW' h0 h1 h2 (by omega) _ hx hY) fin
/-- how many there are -/
theorem goL_len (s e : Int) : ∀ (m : Nat) (n : Int), (goL s e m n).length ≤ m + 1
  | 0, n => by simp [goL]
  | m + 1, n => by
    rw [goL]
    split
    · simp
    · have := goL_len s e m (n + s); simp; omega
theorem eachL_len (y m d y' m' d' s : Int) : (eachL y m d y' m' d' s).length ≤ 3652425 := by
  unfold eachL
  split
  · rename_i h
    have a := num_bd h.1
    have b := num_bd h.2.1
    have := goL_len s (num y' m' d') (num y' m' d' - num y m d).natAbs (num y m d)
    omega
  · simp
end Go.Proofs.YtjifinacnofmiaaDoor.Ext

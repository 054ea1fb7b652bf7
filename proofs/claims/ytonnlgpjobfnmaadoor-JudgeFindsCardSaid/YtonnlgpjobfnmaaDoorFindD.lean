/- The law JudgeFinds' plain: what a thing holds behind a call, and what is answered. Conditions: what the slice's cells hold. -/
import Derived.Test.YtonnlgpjobfnmaaDoorFindC
import Derived.BigQuiet
namespace Go.Proofs.YtonnlgpjobfnmaaDoor
open Go.RowKit
set_option maxRecDepth 100000
set_option maxHeartbeats 4000000 in
theorem plain_none (base : Nat) (k : Int) (hk : k = 1 ∨ k = 2) (v : Value) (c : Cal) (ho : c.op ≠ 1) (w : World) (h : OwnTh w base v []) :
    Calls Tryd.prog 21 #[.int .i64 k, v, .agg (calA c)] w (PlainPost base k [] c v w) := by
  have hv : ∃ a cap, v = .slice a 0 cap := by
    obtain ⟨_, ⟨h2, _⟩ | ⟨g, off, cap, cs, hv, _⟩⟩ := h
    · exact ⟨_, _, h2⟩
    · exact ⟨_, _, hv⟩
  obtain ⟨a, cap, rfl⟩ := hv
  have H := Lib.hid h
  clear h
  unfold calA
  rcases hk with rfl | rfl
  all_goals
    go_enter Tryd.func21, Tryd.ntmps21
    go_wp2_with fail
  all_goals go_region
  all_goals go_wp2_with fail
  all_goals (try simp only [Exit.inBlock, Exit.then])
  all_goals refine plain_end (.slice a 0 cap) [] { c with ans := 0, ok := false } _ rfl rfl rfl (heap_alloc2_new _ _ _) ?_ (H.out.same (kept2 _ _ _)) (kept2 _ _ _)
  all_goals simp [doesF, ho]
set_option maxHeartbeats 4000000 in
theorem plain_first (base : Nat) (v : Value) (x : Int) (r : List Int) (c : Cal) (ho : c.op ≠ 1) (w : World) (hl : r.length ≤ 1000000) (h : OwnTh w base v (x :: r)) :
    Calls Tryd.prog 21 #[.int .i64 1, v, .agg (calA c)] w (PlainPost base 1 (x :: r) c v w) := by
  obtain ⟨g, off, cap, rfl, hc, hg, hA⟩ := h.at_ 0 x rfl
  simp only [List.length_cons] at hc ⊢
  have H := Lib.hid h.tail
  clear h
  rw [Nat.add_zero] at hA
  unfold calA
  go_enter Tryd.func21, Tryd.ntmps21
  go_wp2_with fail
  all_goals go_region
  all_goals go_wp2_with fail
  all_goals (try simp only [Exit.inBlock, Exit.then])
  all_goals refine plain_end _ r { c with ans := x, ok := true } _ rfl rfl rfl (heap_alloc2_new _ _ _) ?_ ?_ (kept2 _ _ _)
  all_goals first
    | (simp [doesF, ho]; done)
    | exact H.out.1.same (kept2 _ _ _)
    | exact (H.out.2 _ (by omega) (by omega)).same (kept2 _ _ _)
set_option maxHeartbeats 4000000 in
theorem plain_last (base : Nat) (v : Value) (x : Int) (r : List Int) (c : Cal) (ho : c.op ≠ 1) (w : World) (hl : r.length ≤ 1000000) (h : OwnTh w base v (r ++ [x])) :
    Calls Tryd.prog 21 #[.int .i64 2, v, .agg (calA c)] w (PlainPost base 2 (r ++ [x]) c v w) := by
  obtain ⟨g, off, cap, rfl, hc, hg, hA⟩ := h.at_ r.length x (by simp)
  simp only [List.length_append, List.length_singleton] at hc h ⊢
  have H := Lib.hid (h.init rfl)
  clear h
  unfold calA
  go_enter Tryd.func21, Tryd.ntmps21
  go_wp2_with fail
  all_goals go_region
  all_goals go_wp2_with fail
  all_goals (try simp only [Exit.inBlock, Exit.then])
  all_goals refine plain_end _ r { c with ans := x, ok := true } _ rfl rfl rfl (heap_alloc2_new _ _ _) (doesF_last ho) ?_ (kept2 _ _ _)
  all_goals exact H.out.same (kept2 _ _ _)
end Go.Proofs.YtonnlgpjobfnmaaDoor

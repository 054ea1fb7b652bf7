/- The law JudgeFinds' plain: counters and settings; all kinds together. Conditions: what the slice's cells hold. -/
import Derived.Test.YtonnlgpjobfnmaaDoorGFindE
namespace Go.Proofs.YtonnlgpjobfnmaaDoor
open Go.RowKit
set_option maxRecDepth 100000
theorem own_one {w' : World} {base g : Nat} {y : Int} (hy : i64of y) (hb : base ≤ g) (hg : Blk w' g 2 #[.int .i64 y]) : OwnTh w' base (.slice (some ⟨g, 0, none⟩) 1 1) [y] := by
  refine ⟨by simpa using hy, .inr ⟨g, 0, 1, _, rfl, hb, hg, Nat.le_refl _, by unfold maxLen; omega, Nat.le_refl _, fun i x hx => ?_⟩⟩
  have hi : i = 0 := by have := (List.getElem?_eq_some_iff.1 hx).1; simpa using this
  subst hi
  injection hx with hx
  subst hx
  rfl
set_option maxHeartbeats 8000000 in
theorem plain_add (base : Nat) (k : Int) (hk : k = 3 ∨ k = 4) (v : Value) (x : Int) (c : Cal) (ho : c.op = 3) (hwf : c.wf) (w : World) (hbase : base ≤ w.heap.size) (h : OwnTh w base v [x]) :
    Calls Tryd.prog 21 #[.int .i64 k, v, .agg (calA c)] w (PlainPost base k [x] c v w) := by
  obtain ⟨g, off, cap, rfl, hc, hg, hA⟩ := h.at_ 0 x rfl
  have H := Lib.hid h
  have HW := Lib.hid hwf
  clear h hwf
  rw [Nat.add_zero] at hA
  simp only [List.length_singleton]
  obtain ⟨op, arg, new, ans, ok, beg, fin⟩ := c
  simp only at ho
  subst ho
  unfold calA
  rcases hk with rfl | rfl
  all_goals
    go_enter Tryd.func21, Tryd.ntmps21
    go_wp2_with fail
  all_goals go_region
  all_goals go_wp2_with fail
  all_goals go_region
  all_goals go_wp2_with fail
  all_goals (try simp only [Exit.inBlock, Exit.then])
  all_goals exact plain_end _ [wrap64 (x + arg)] ⟨3, arg, new, wrap64 (x + arg), false, beg, fin⟩ (0, 0) rfl rfl rfl (one_mid _ _ _ _) (by simp [doesF]) (own_one (wrap64_of _) (by omega) (heap_alloc3_new _ _ _ _)) (kept3 _ _ _ _).drew
set_option maxHeartbeats 8000000 in
theorem plain_set (base : Nat) (k : Int) (hk : k = 3 ∨ k = 4) (v : Value) (x : Int) (c : Cal) (ho : c.op = 1) (hwf : c.wf) (w : World) (hbase : base ≤ w.heap.size) (h : OwnTh w base v [x]) :
    Calls Tryd.prog 21 #[.int .i64 k, v, .agg (calA c)] w (PlainPost base k [x] c v w) := by
  obtain ⟨g, off, cap, rfl, hc, hg, hA⟩ := h.at_ 0 x rfl
  have H := Lib.hid h
  have HW := Lib.hid hwf
  clear h hwf
  rw [Nat.add_zero] at hA
  simp only [List.length_singleton]
  obtain ⟨op, arg, new, ans, ok, beg, fin⟩ := c
  simp only at ho
  subst ho
  unfold calA
  rcases hk with rfl | rfl
  all_goals
    go_enter Tryd.func21, Tryd.ntmps21
    go_wp2_with fail
  all_goals go_region
  all_goals go_wp2_with fail
  all_goals (try simp only [Exit.inBlock, Exit.then])
  all_goals exact plain_end _ [arg] ⟨1, arg, new, 0, false, beg, fin⟩ (0, 0) rfl rfl rfl (one_mid _ _ _ _) (by simp [doesF]) (own_one HW.out.2.1 (by omega) (heap_alloc3_new _ _ _ _)) (kept3 _ _ _ _)
set_option maxHeartbeats 8000000 in
theorem plain_get (base : Nat) (k : Int) (hk : k = 3 ∨ k = 4) (v : Value) (x : Int) (c : Cal) (ho : c.op = 4) (hwf : c.wf) (w : World) (h : OwnTh w base v [x]) :
    Calls Tryd.prog 21 #[.int .i64 k, v, .agg (calA c)] w (PlainPost base k [x] c v w) := by
  obtain ⟨g, off, cap, rfl, hc, hg, hA⟩ := h.at_ 0 x rfl
  have H := Lib.hid h
  have HW := Lib.hid hwf
  clear h hwf
  rw [Nat.add_zero] at hA
  simp only [List.length_singleton]
  obtain ⟨op, arg, new, ans, ok, beg, fin⟩ := c
  simp only at ho
  subst ho
  unfold calA
  rcases hk with rfl | rfl
  all_goals
    go_enter Tryd.func21, Tryd.ntmps21
    go_wp2_with fail
  all_goals go_region
  all_goals go_wp2_with fail
  all_goals go_region
  all_goals go_wp2_with fail
  all_goals (try simp only [Exit.inBlock, Exit.then])
  all_goals exact plain_end _ [x] ⟨4, arg, new, x, false, beg, fin⟩ (0, 0) rfl rfl rfl (heap_alloc2_new _ _ _) (by simp [doesF]) (H.out.same (kept2 _ _ _).drew) (kept2 _ _ _).drew
end Go.Proofs.YtonnlgpjobfnmaaDoor

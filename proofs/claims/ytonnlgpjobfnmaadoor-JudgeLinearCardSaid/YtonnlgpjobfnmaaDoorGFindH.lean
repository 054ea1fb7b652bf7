/- The law JudgeFinds' plain: settings that swap; all kinds together. Conditions: what the slice's cells hold. -/
import Derived.Test.YtonnlgpjobfnmaaDoorGFindG
namespace Go.Proofs.YtonnlgpjobfnmaaDoor
open Go.RowKit
set_option maxRecDepth 100000
set_option maxHeartbeats 8000000 in
theorem plain_swap (base : Nat) (k : Int) (hk : k = 3 ∨ k = 4) (v : Value) (x : Int) (c : Cal) (ho : c.op = 5) (he : x = c.arg) (hwf : c.wf) (w : World) (hbase : base ≤ w.heap.size) (h : OwnTh w base v [x]) :
    Calls Tryd.prog 21 #[.int .i64 k, v, .agg (calA c)] w (PlainPost base k [x] c v w) := by
  obtain ⟨g, off, cap, rfl, hc, hg, hA⟩ := h.at_ 0 x rfl
  have H := Lib.hid h
  have HW := Lib.hid hwf
  clear h hwf
  rw [Nat.add_zero] at hA
  simp only [List.length_singleton]
  obtain ⟨op, arg, new, ans, ok, beg, fin⟩ := c
  simp only at ho he
  subst ho
  subst he
  unfold calA
  rcases hk with rfl | rfl
  all_goals
    go_enter Tryd.func21, Tryd.ntmps21
    go_wp2_with fail
  all_goals go_region
  all_goals go_wp2_with fail
  all_goals go_region
  all_goals go_wp2_with fail
  all_goals (try simp only [Exit.inBlock, Exit.then])
  all_goals exact plain_end _ [new] ⟨5, x, new, 0, true, beg, fin⟩ (0, 0) rfl rfl rfl (one_mid _ _ _ _) (by simp [doesF]) (own_one HW.out.2.2.1 (by omega) (heap_alloc3_new _ _ _ _)) (kept3 _ _ _ _).drew
set_option maxHeartbeats 8000000 in
theorem plain_stay (base : Nat) (k : Int) (hk : k = 3 ∨ k = 4) (v : Value) (x : Int) (c : Cal) (ho : c.op = 5) (he : ¬ x = c.arg) (hwf : c.wf) (w : World) (h : OwnTh w base v [x]) :
    Calls Tryd.prog 21 #[.int .i64 k, v, .agg (calA c)] w (PlainPost base k [x] c v w) := by
  obtain ⟨g, off, cap, rfl, hc, hg, hA⟩ := h.at_ 0 x rfl
  have H := Lib.hid h
  have HW := Lib.hid hwf
  clear h hwf
  rw [Nat.add_zero] at hA
  simp only [List.length_singleton]
  obtain ⟨op, arg, new, ans, ok, beg, fin⟩ := c
  simp only at ho he
  subst ho
  have hd : decide (x = arg) = false := by simp [he]
  have hd2 : (x == arg) = false := by simp [he]
  unfold calA
  rcases hk with rfl | rfl
  all_goals
    go_enter Tryd.func21, Tryd.ntmps21
    go_wp2_with fail
  all_goals go_region
  all_goals go_wp2_with fail
  all_goals go_region
  all_goals go_wp2_with fail
  all_goals (try simp only [Exit.inBlock, Exit.then])
  all_goals exact plain_end _ [x] ⟨5, arg, new, 0, false, beg, fin⟩ (0, 0) rfl rfl rfl (heap_alloc2_new _ _ _) (by simp [doesF, he]) (H.out.same (kept2 _ _ _).drew) (kept2 _ _ _).drew
set_option maxHeartbeats 8000000 in
theorem plain_other (base : Nat) (k : Int) (hk : k = 3 ∨ k = 4) (v : Value) (x : Int) (c : Cal) (h1 : ¬ c.op = 1) (h3 : ¬ c.op = 3) (h4 : ¬ c.op = 4) (h5 : ¬ c.op = 5) (hwf : c.wf) (w : World) (h : OwnTh w base v [x]) :
    Calls Tryd.prog 21 #[.int .i64 k, v, .agg (calA c)] w (PlainPost base k [x] c v w) := by
  obtain ⟨g, off, cap, rfl, hc, hg, hA⟩ := h.at_ 0 x rfl
  have H := Lib.hid h
  have HW := Lib.hid hwf
  clear h hwf
  rw [Nat.add_zero] at hA
  simp only [List.length_singleton]
  obtain ⟨op, arg, new, ans, ok, beg, fin⟩ := c
  simp only at h1 h3 h4 h5
  have d1 : (op == 1) = false := by simp [h1]
  have d3 : (op == 3) = false := by simp [h3]
  have d4 : (op == 4) = false := by simp [h4]
  have d5 : (op == 5) = false := by simp [h5]
  unfold calA
  rcases hk with rfl | rfl
  all_goals
    go_enter Tryd.func21, Tryd.ntmps21
    go_wp2_with fail
  all_goals go_region
  all_goals go_wp2_with fail
  all_goals go_region
  all_goals go_wp2_with fail
  all_goals (try simp only [Exit.inBlock, Exit.then])
  all_goals exact plain_end _ [x] ⟨op, arg, new, 0, false, beg, fin⟩ (0, 0) rfl rfl rfl (heap_alloc2_new _ _ _) (by simp [doesF, h1, h3, h4, h5]) (H.out.same (kept2 _ _ _).drew) (kept2 _ _ _).drew
/-- All kinds. -/
theorem plain_any (base : Nat) (k : Int) (hk : 1 ≤ k ∧ k ≤ 4) (v : Value) (hs : List Int) (c : Cal) (hwf : c.wf) (w : World) (hbase : base ≤ w.heap.size) (h : OwnTh w base v hs) (hl : hs.length ≤ 1000000) (h1 : 2 < k → hs.length = 1) :
    Calls Tryd.prog 21 #[.int .i64 k, v, .agg (calA c)] w (PlainPost base k hs c v w) := by
  by_cases hk2 : k ≤ 2
  · by_cases ho : c.op = 1
    · exact plain_put base k (by omega) v hs c ho hwf.2.1 w hl hbase h
    · by_cases he : hs = []
      · subst he
        exact plain_none base k (by omega) v c ho w h
      · by_cases hk1 : k = 1
        · subst hk1
          obtain ⟨x, r, rfl⟩ := List.exists_cons_of_ne_nil he
          exact plain_first base v x r c ho w (by simp at hl; omega) h
        · have hk2 : k = 2 := by omega
          subst hk2
          obtain ⟨r, x, rfl⟩ : ∃ r x, hs = r ++ [x] := ⟨hs.dropLast, hs.getLast he, (List.dropLast_concat_getLast he).symm⟩
          exact plain_last base v x r c ho w (by simp at hl; omega) h
  · have hk3 : k = 3 ∨ k = 4 := by omega
    obtain ⟨x, rfl⟩ := List.length_eq_one_iff.1 (h1 (by omega))
    by_cases o3 : c.op = 3
    · exact plain_add base k hk3 v x c o3 hwf w hbase h
    by_cases o4 : c.op = 4
    · exact plain_get base k hk3 v x c o4 hwf w h
    by_cases o1 : c.op = 1
    · exact plain_set base k hk3 v x c o1 hwf w hbase h
    by_cases o5 : c.op = 5
    · by_cases he : x = c.arg
      · exact plain_swap base k hk3 v x c o5 he hwf w hbase h
      · exact plain_stay base k hk3 v x c o5 he hwf w h
    · exact plain_other base k hk3 v x c o1 o3 o4 o5 hwf w h
end Go.Proofs.YtonnlgpjobfnmaaDoor

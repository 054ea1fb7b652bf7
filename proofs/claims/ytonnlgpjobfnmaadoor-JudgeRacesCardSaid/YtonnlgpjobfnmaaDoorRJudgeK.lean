/- judge's kind.does: counters and settings; all kinds together. Conditions: what the slice's cells hold. -/
import Derived.Test.YtonnlgpjobfnmaaDoorRJudgeJ
namespace Go.Proofs.YtonnlgpjobfnmaaDoor
open Go.RowKit
set_option maxRecDepth 100000
theorem one_mid (w : World) (A B C : Obj) : (((w.alloc A).alloc B).alloc C).drew.heap[w.heap.size + 1]? = some B := by
  show (((w.alloc A).alloc B).alloc C).heap[w.heap.size + 1]? = _
  rw [heap_alloc_old _ _ (by simp), heap_alloc2_new]
theorem one_thing (w : World) (A B : Obj) (y : Int) (hy : i64of y) : ThingAt (((w.alloc A).alloc B).alloc (.cells #[.int .i64 y] 2)).drew (.slice (some ⟨w.heap.size + 2, 0, none⟩) 1 1) [y] := by
  refine ⟨some ⟨w.heap.size + 2, 0, none⟩, 1, rfl, by simp, by simp, by simpa using hy, fun i x hx => ?_⟩
  have hi : i = 0 := by have := (List.getElem?_eq_some_iff.1 hx).1; simpa using this
  subst hi
  injection hx with hx
  subst hx
  refine ⟨w.heap.size + 2, 0, rfl, ?_, ⟨_, _, heap_alloc3_new _ _ _ _⟩, ?_⟩
  · show w.heap.size + 2 < (((w.alloc A).alloc B).alloc (.cells #[.int .i64 y] 2)).heap.size
    simp
  · rw [Lib.cell_of_heap (heap_alloc3_new _ _ _ _)]
    rfl
theorem wrap64_of (n : Int) : i64of (wrap64 n) := by unfold i64of wrap64; omega
theorem three_below {w : World} (o1 o2 o3 : Obj) : Below w.heap.size w (((w.alloc o1).alloc o2).alloc o3).drew := ((two_below o1 o2).alloc (two_below o1 o2).size o3).drew
set_option maxHeartbeats 8000000 in
theorem does_one (k : Int) (hk : k = 3 ∨ k = 4) (a : Option Addr) (cap : Nat) (x : Int) (_hc : 1 ≤ cap) (c : Cal) (hwf : c.wf) (w : World) (h : NumsAt w w.heap.size a [x]) :
    Calls Tryd.prog 45 #[.int .i64 k, .slice a 1 cap, .agg (calA c)] w (DoesPost k [x] c w) := by
  have hk2 : decide (k ≤ 2) = false := by simp; omega
  obtain ⟨g, off, rfl, hg, _, hA⟩ := h.at_ 0 x rfl
  have HK := Lib.hid hk
  have H := Lib.hid h
  clear hk h
  rw [Nat.add_zero] at hA
  have HW := Lib.hid hwf
  clear hwf
  unfold calA
  go_enter Tryd.func45, Tryd.ntmps45
  go_upto_region 27 with (fail)
  all_goals go_region
  all_goals go_wp2_with fail
  all_goals (try simp only [Exit.inBlock, Exit.then])
  · refine does_end _ [wrap64 (x + c.arg)] { c with ans := wrap64 (x + c.arg), ok := false } _ rfl rfl rfl (one_mid _ _ _ _) ?_ (one_thing _ _ _ _ (wrap64_of _)) (three_below _ _ _)
    have := HK.out
    unfold doesF
    rw [if_neg (by omega)]
    simp_all
  · refine does_end _ [x] { c with ans := x, ok := false } _ rfl rfl rfl (one_mid _ _ _ _) ?_ (one_thing _ _ _ _ (H.out.wf _ (by simp))) (three_below _ _ _)
    have := HK.out
    unfold doesF
    rw [if_neg (by omega)]
    simp_all
  · refine does_end _ [c.arg] { c with ans := 0, ok := false } _ rfl rfl rfl (one_mid _ _ _ _) ?_ (one_thing _ _ _ _ HW.out.2.1) (three_below _ _ _)
    have := HK.out
    unfold doesF
    rw [if_neg (by omega)]
    simp_all
  · refine does_end _ [c.new] { c with ans := 0, ok := true } _ rfl rfl rfl (one_mid _ _ _ _) ?_ (one_thing _ _ _ _ HW.out.2.2.1) (three_below _ _ _)
    have := HK.out
    unfold doesF
    rw [if_neg (by omega)]
    simp_all
  · refine does_end _ [x] { c with ans := 0, ok := false } _ rfl rfl rfl (one_mid _ _ _ _) ?_ (one_thing _ _ _ _ (H.out.wf _ (by simp))) (three_below _ _ _)
    have := HK.out
    unfold doesF
    rw [if_neg (by omega)]
    simp_all
  · refine does_end _ [x] { c with ans := 0, ok := false } _ rfl rfl rfl (one_mid _ _ _ _) ?_ (one_thing _ _ _ _ (H.out.wf _ (by simp))) (three_below _ _ _)
    have := HK.out
    unfold doesF
    rw [if_neg (by omega)]
    simp_all
/-- All kinds. -/
theorem does_any (k : Int) (hk : 1 ≤ k ∧ k ≤ 4) (v : Value) (hs : List Int) (c : Cal) (hwf : c.wf) (w : World) (h : ThingAt w v hs) (hl : hs.length ≤ 1000000) (h1 : 2 < k → hs.length = 1) :
    Calls Tryd.prog 45 #[.int .i64 k, v, .agg (calA c)] w (DoesPost k hs c w) := by
  obtain ⟨a, cap, rfl, hc, hn, hN⟩ := h
  by_cases hk2 : k ≤ 2
  · by_cases ho : c.op = 1
    · exact does_put k (by omega) a cap hs hc hn c ho hwf.2.1 w hl hN
    · by_cases he : hs = []
      · subst he
        exact does_none k (by omega) a cap c ho hn w
      · by_cases hk1 : k = 1
        · subst hk1
          obtain ⟨x, r, rfl⟩ := List.exists_cons_of_ne_nil he
          exact does_first a cap x r hc c ho w (by simp at hl; omega) hN
        · have hk2 : k = 2 := by omega
          subst hk2
          obtain ⟨r, x, rfl⟩ : ∃ r x, hs = r ++ [x] := ⟨hs.dropLast, hs.getLast he, (List.dropLast_concat_getLast he).symm⟩
          simp only [List.length_append, List.length_singleton] at hc hl ⊢
          exact does_last a cap x r hc c ho w (by omega) hN
  · obtain ⟨x, rfl⟩ := List.length_eq_one_iff.1 (h1 (by omega))
    exact does_one k (by omega) a cap x hc c hwf w hN
end Go.Proofs.YtonnlgpjobfnmaaDoor

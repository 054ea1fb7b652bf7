/- The law JudgeFinds' tidy: a call that is one of the kind's. Conditions: none. -/
import Derived.Test.YtonnlgpjobfnmaaDoorGJudgeL
import Derived.Test.YtonnlgpjobfnmaaDoorGJudgeJ
namespace Go.Proofs.YtonnlgpjobfnmaaDoor
open Go.RowKit
set_option maxRecDepth 100000
/-- A call of the kind's that is most like c, not done yet. -/
def tidyF (k : Int) (c : Cal) : Cal :=
  if k ≤ 2 then (if c.op = 1 then ⟨1, c.arg, 0, 0, false, 0, 0⟩ else ⟨2, 0, 0, 0, false, 0, 0⟩)
  else if k = 3 then (if c.op = 3 then ⟨3, c.arg, 0, 0, false, 0, 0⟩ else ⟨4, 0, 0, 0, false, 0, 0⟩)
  else if c.op = 5 then ⟨5, c.arg, c.new, 0, false, 0, 0⟩
  else if c.op = 1 then ⟨1, c.arg, 0, 0, false, 0, 0⟩
  else ⟨4, 0, 0, 0, false, 0, 0⟩
def TidyPost (k : Int) (c : Cal) (w : World) (e : Ending) (w' : World) : Prop := e = .returned (.agg (calA (tidyF k c))) ∧ Below w.heap.size w w'
theorem tidy_end {k : Int} {c : Cal} {w0 w : World} {act : Act} {o a n s g f : Int} {b : Bool} (h4 : act.tmps.getD 4 undef = .pointer (some ⟨w0.heap.size + 1, 0, none⟩)) (hd : act.defers = [])
    (hb : w.heap[w0.heap.size + 1]? = some (.cells #[.int .i8 o, .int .i64 a, .int .i64 n, .int .i64 s, .bool b, .int .i64 g, .int .i64 f] 58 (0, 0))) (hc : tidyF k c = ⟨o, a, n, s, b, g, f⟩) (hk : Below w0.heap.size w0 w) :
    bodyPost Tryd.prog Tryd.f20 (TidyPost k c w0) .ret act w := by
  refine bodyPost_ret (results_cell_row rfl act.tmps w (w0.heap.size + 1) 58 _ (0, 0) _ h4 hb Tryd.underlying58 rfl infoCall) hd ⟨?_, hk⟩
  rw [hc]
  rfl
theorem mid_ (w : World) (A B C : Obj) : (((w.alloc A).alloc B).alloc C).heap[w.heap.size + 1]? = some B := by
  rw [heap_alloc_old _ _ (by simp), heap_alloc2_new]
theorem three_below' {w : World} (o1 o2 o3 : Obj) : Below w.heap.size w (((w.alloc o1).alloc o2).alloc o3) := ((two_below' o1 o2).alloc (two_below' o1 o2).size o3)
set_option maxHeartbeats 20000000 in
theorem tidy_any (k : Int) (hk : 1 ≤ k ∧ k ≤ 4) (c : Cal) (w : World) : Calls Tryd.prog 20 #[.int .i64 k, .agg (calA c)] w (TidyPost k c w) := by
  obtain ⟨op, arg, new, ans, ok, beg, fin⟩ := c
  have hk' : k = 1 ∨ k = 2 ∨ k = 3 ∨ k = 4 := by omega
  clear hk
  unfold calA
  rcases hk' with rfl | rfl | rfl | rfl
  all_goals
    go_enter Tryd.func20, Tryd.ntmps20
    go_wp2_with fail
  all_goals (try simp only [Exit.inBlock, Exit.then])
  all_goals refine tidy_end rfl rfl (mid_ _ _ _ _) ?_ (three_below' _ _ _)
  all_goals go_light
  all_goals simp_all [tidyF]
end Go.Proofs.YtonnlgpjobfnmaaDoor

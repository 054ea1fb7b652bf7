/- judge's kind.right: may a call be one of the kind's? Conditions: none. -/
import Derived.Test.YtonnlgpjobfnmaaDoorRJudgeI
namespace Go.Proofs.YtonnlgpjobfnmaaDoor
open Go.RowKit
set_option maxRecDepth 100000
/-- Is a call's time not one that can be? -/
def badTime (c : Cal) : Bool := decide (c.beg < 0) || (decide (c.fin ≠ -1) && decide (c.fin < c.beg)) || (decide (c.fin = -1) && (decide (c.ans ≠ 0) || c.ok))
def rightF (k : Int) (c : Cal) : Bool :=
  !badTime c && (if (k ≤ 2 ∧ c.op = 1) ∨ (k = 4 ∧ c.op = 1) then decide (c.new = 0) && decide (c.ans = 0) && !c.ok
    else if k ≤ 2 ∧ c.op = 2 then decide (c.arg = 0) && decide (c.new = 0) && (c.ok || decide (c.ans = 0))
    else if k = 3 ∧ c.op = 3 then decide (c.new = 0) && !c.ok
    else if 3 ≤ k ∧ c.op = 4 then decide (c.arg = 0) && decide (c.new = 0) && !c.ok
    else if k = 4 ∧ c.op = 5 then decide (c.ans = 0)
    else false)
def RightPost (k : Int) (c : Cal) (w : World) (e : Ending) (w' : World) : Prop := e = .returned (.bool (rightF k c)) ∧ Below w.heap.size w w'
theorem one_below {w : World} (o1 : Obj) : Below w.heap.size w (w.alloc o1) := (Below.refl _ w).alloc (Nat.le_refl _) o1
theorem right_ret {k : Int} {c : Cal} {b : Bool} {v : Value} (hv : v = .bool b) (h : rightF k c = b) : Ending.returned v = .returned (.bool (rightF k c)) := by rw [hv, h]
theorem two_below' {w : World} (o1 o2 : Obj) : Below w.heap.size w ((w.alloc o1).alloc o2) := ((Below.refl _ w).alloc (Nat.le_refl _) o1).alloc (by simp) o2
set_option maxHeartbeats 20000000 in
theorem right_any (k : Int) (c : Cal) (w : World) : Calls Tryd.prog 41 #[.int .i64 k, .agg (calA c)] w (RightPost k c w) := by
  unfold calA
  go_enter Tryd.func41, Tryd.ntmps41
  go_wp2_with fail
  all_goals (try simp only [Exit.inBlock, Exit.then])
  all_goals refine bodyPost_ret (results_tmp rfl _ _ _) rfl ⟨right_ret rfl ?_, ?_⟩
  all_goals first
    | exact one_below _
    | exact two_below' _ _
    | skip
  all_goals go_light
  all_goals simp_all [rightF, badTime]
  all_goals first
    | (intros; omega)
    | (rw [if_neg (by omega)]; intros; omega)
    | (intro hok; simp_all; done)
    | (intro hok; simp_all; exfalso; omega)
end Go.Proofs.YtonnlgpjobfnmaaDoor

/- The reference's right, free. Conditions: what the slice's cells hold. -/
import Derived.Test.YtonnlgpjobfnmaaDoorGLinG
namespace Go.Proofs.YtonnlgpjobfnmaaDoor
open Go.RowKit
set_option maxRecDepth 100000
set_option maxHeartbeats 8000000 in
theorem rright_hi (k : Int) (hk : k = 3 ∨ k = 4) (c : Cal) (w : World) : Calls Tryd.prog 47 #[.int .i64 k, .agg (calA c)] w (RightPost k c w) := by
  unfold calA
  rcases hk with rfl | rfl
  all_goals go_enter Tryd.func47, Tryd.ntmps47
  all_goals go_wp2_with fail
  all_goals (try simp only [Exit.inBlock, Exit.then])
  all_goals refine bodyPost_ret (results_tmp rfl _ _ _) rfl ⟨right_ret rfl ?_, one_below _⟩
  all_goals go_light
  all_goals simp_all [rightF, badTime]
  all_goals first
    | (intros; omega)
    | (rw [if_neg (by omega)]; intros; omega)
    | (intro hok; simp_all; done)
    | (intro hok; simp_all; exfalso; omega)
theorem rright_any (k : Int) (hk : 1 ≤ k ∧ k ≤ 4) (c : Cal) (w : World) : Calls Tryd.prog 47 #[.int .i64 k, .agg (calA c)] w (RightPost k c w) := by
  rcases (show (k = 1 ∨ k = 2) ∨ (k = 3 ∨ k = 4) by omega) with h | h
  · exact rright_lo k h c w
  · exact rright_hi k h c w
end Go.Proofs.YtonnlgpjobfnmaaDoor

/- JudgeFinds' walk: the guards' bad arms; all inputs. Conditions: what the slices' cells hold; Go's table of the powers of ten. -/
import Derived.Test.YtonnlgpjobfnmaaDoorFindJ
namespace Go.Proofs.YtonnlgpjobfnmaaDoor
open Go.RowKit
set_option maxRecDepth 100000
set_option maxHeartbeats 4000000 in
theorem finds_bad (k : Int) (b eb lb : Option Addr) (n cap ne ecap nl lcap : Nat) (h : k < 1 ∨ 4 < k ∨ 12 < n ∨ ne < n ∨ nl < n) (w : World) (hT : Tens w) :
    Calls Tryd.prog 4 #[.int .i64 k, .slice b n cap, .slice eb ne ecap, .slice lb nl lcap] w (FindsPost w) := by
  have HT := Lib.hid hT
  clear hT
  by_cases h1 : k < 1
  · have d1 : decide (k < 1) = true := by simpa using h1
    go_enter Tryd.func4, Tryd.ntmps4
    go_wp2_with (go_at_call 10; go_must (refine (lives_any _ HT.out).mono ?_); rintro e w9 ⟨rfl, hk9⟩; have HK9 := Lib.hid hk9; clear hk9)
    exact bodyPost_ret (results_tmp rfl _ _ _) rfl ⟨rfl, HK9.out⟩
  have d1 : decide (k < 1) = false := by simpa using h1
  by_cases h2 : 4 < k
  · have d2 : decide (4 < k) = true := by simpa using h2
    go_enter Tryd.func4, Tryd.ntmps4
    go_wp2_with (go_at_call 10; go_must (refine (lives_any _ HT.out).mono ?_); rintro e w9 ⟨rfl, hk9⟩; have HK9 := Lib.hid hk9; clear hk9)
    exact bodyPost_ret (results_tmp rfl _ _ _) rfl ⟨rfl, HK9.out⟩
  have d2 : decide (4 < k) = false := by simpa using h2
  by_cases h3 : 12 < n
  · have d3 : decide ((12 : Int) < (n : Int)) = true := by simp; omega
    have e3 : decide (12 < n) = true := by simp; omega
    go_enter Tryd.func4, Tryd.ntmps4
    go_wp2_with (go_at_call 10; go_must (refine (lives_any _ HT.out).mono ?_); rintro e w9 ⟨rfl, hk9⟩; have HK9 := Lib.hid hk9; clear hk9)
    exact bodyPost_ret (results_tmp rfl _ _ _) rfl ⟨rfl, HK9.out⟩
  have d3 : decide ((12 : Int) < (n : Int)) = false := by simp; omega
  have e3 : decide (12 < n) = false := by simp; omega
  by_cases h4 : ne < n
  · have d4 : decide ((ne : Int) < (n : Int)) = true := by simp; omega
    have e4 : decide (ne < n) = true := by simp; omega
    go_enter Tryd.func4, Tryd.ntmps4
    go_wp2_with (go_at_call 10; go_must (refine (lives_any _ HT.out).mono ?_); rintro e w9 ⟨rfl, hk9⟩; have HK9 := Lib.hid hk9; clear hk9)
    exact bodyPost_ret (results_tmp rfl _ _ _) rfl ⟨rfl, HK9.out⟩
  have d4 : decide ((ne : Int) < (n : Int)) = false := by simp; omega
  have e4 : decide (ne < n) = false := by simp; omega
  have h5 : nl < n := by omega
  have d5 : decide ((nl : Int) < (n : Int)) = true := by simp; omega
  have e5 : decide (nl < n) = true := by simp; omega
  go_enter Tryd.func4, Tryd.ntmps4
  go_wp2_with (go_at_call 10; go_must (refine (lives_any _ HT.out).mono ?_); rintro e w9 ⟨rfl, hk9⟩; have HK9 := Lib.hid hk9; clear hk9)
  exact bodyPost_ret (results_tmp rfl _ _ _) rfl ⟨rfl, HK9.out⟩
/-- All inputs. -/
theorem finds_any (k : Int) (b eb lb : Option Addr) (cap ecap lcap : Nat) (cs : List Cal) (E L : List Int)
    (w : World) (hC : CallsAt w w.heap.size b cs) (hBE : BytesAt w w.heap.size eb E) (hBL : BytesAt w w.heap.size lb L) (hT : Tens w) :
    Calls Tryd.prog 4 #[.int .i64 k, .slice b cs.length cap, .slice eb E.length ecap, .slice lb L.length lcap] w (FindsPost w) := by
  by_cases h : k < 1 ∨ 4 < k ∨ 12 < cs.length ∨ E.length < cs.length ∨ L.length < cs.length
  · exact finds_bad k b eb lb _ cap _ ecap _ lcap h w hT
  · exact finds_good k (by omega) b eb lb cap ecap lcap cs E L (by omega) (by omega) (by omega) w hC hBE hBL hT
end Go.Proofs.YtonnlgpjobfnmaaDoor

/- The laws' small helpers: equal lists, marks. Conditions: what the slices' cells hold. -/
import Derived.Test.YtonnlgpjobfnmaaDoorRFindB
namespace Go.Proofs.YtonnlgpjobfnmaaDoor
open Go.RowKit
set_option maxRecDepth 100000
/-- A slice reads as a list of ints. -/
def IntsAt (w : World) (b : Option Addr) (X : List Int) : Prop := ∀ (i : Nat) (x : Int), X[i]? = some x → ∃ g off, b = some ⟨g, off, none⟩ ∧ w.cell? ⟨g, off + i, none⟩ = some (.int .i64 x)
/-- The loop of a test of two equal lists. -/
def EqRel (n : Nat) (w0 : World) (i : Value) (wr : World) : Prop := ∃ j nd : Nat, j ≤ n ∧ i = .int .i64 j ∧ wr = w0.drewN nd
def EqPost (w : World) (e : Ending) (w' : World) : Prop := e = .returned (.bool true) ∧ ∃ n, w' = w.drewN n
set_option maxHeartbeats 4000000 in
theorem eqInts_same (a b : Option Addr) (ca cb n : Nat) (X : List Int) (hn : X.length = n) (hl : n ≤ 9223372036854775807) (w : World) (ha : IntsAt w a X) (hb : IntsAt w b X) :
    Calls Tryd.prog 14 #[.slice a n ca, .slice b n cb] w (EqPost w) := by
  have HA := Lib.hid ha
  have HB := Lib.hid hb
  clear ha hb
  go_enter Tryd.func14, Tryd.ntmps14
  go_wp2_with fail
  go_loopw [5] (fun i wr => EqRel n w i wr) (fun i _ => n - (intOf i).toNat)
  case atStart => exact ⟨0, 0, Nat.zero_le _, rfl, rfl⟩
  case round =>
    obtain ⟨j, nd, hj, rfl, rfl⟩ := hrel
    by_cases hlt : j < n
    · have hx : decide (j < n) = true := by simpa using hlt
      have hxi : decide ((j : Int) < (n : Int)) = true := by simp; omega
      obtain ⟨x, hx0⟩ : ∃ x, X[j]? = some x := ⟨X[j], List.getElem?_eq_getElem (by omega)⟩
      obtain ⟨g, off, rfl, c1⟩ := HA.out j x hx0
      obtain ⟨g2, off2, rfl, c2⟩ := HB.out j x hx0
      clear hx0
      go_upto_region 6 with (fail)
      go_quiet (fail)
      go_wp2_with fail
      exact ⟨⟨j + 1, _, hlt, by rw [Int.natCast_add]; rfl, rfl⟩, by simp [intOf]; omega⟩
    · have hx : decide (j < n) = false := by simpa using hlt
      have hxi : decide ((j : Int) < (n : Int)) = false := by simp; omega
      go_wp2_with fail
      go_ret
      exact ⟨rfl, _, rfl⟩
set_option maxHeartbeats 4000000 in
theorem eqCalls_same (a b : Option Addr) (ca cb n B1 B2 : Nat) (X : List Cal) (hn : X.length = n) (hl : n ≤ 9223372036854775807) (w : World) (ha : CallsAt w B1 a X) (hb : CallsAt w B2 b X) :
    Calls Tryd.prog 15 #[.slice a n ca, .slice b n cb] w (EqPost w) := by
  have HA := Lib.hid ha
  have HB := Lib.hid hb
  clear ha hb
  go_enter Tryd.func15, Tryd.ntmps15
  go_wp2_with fail
  go_loopw [5] (fun i wr => EqRel n w i wr) (fun i _ => n - (intOf i).toNat)
  case atStart => exact ⟨0, 0, Nat.zero_le _, rfl, rfl⟩
  case round =>
    obtain ⟨j, nd, hj, rfl, rfl⟩ := hrel
    by_cases hlt : j < n
    · have hx : decide (j < n) = true := by simpa using hlt
      have hxi : decide ((j : Int) < (n : Int)) = true := by simp; omega
      obtain ⟨x, hx0⟩ : ∃ x, X[j]? = some x := ⟨X[j], List.getElem?_eq_getElem (by omega)⟩
      obtain ⟨g, off, rfl, _, hA⟩ := HA.out.at_ j x hx0
      obtain ⟨g2, off2, rfl, _, hB⟩ := HB.out.at_ j x hx0
      obtain ⟨p0, p1, p2, p3, p4, p5, p6⟩ := hA
      obtain ⟨q0, q1, q2, q3, q4, q5, q6⟩ := hB
      clear hx0
      go_upto_region 6 with (fail)
      go_quiet (fail)
      go_wp2_with fail
      exact ⟨⟨j + 1, _, hlt, by rw [Int.natCast_add]; rfl, rfl⟩, by simp [intOf]; omega⟩
    · have hx : decide (j < n) = false := by simpa using hlt
      have hxi : decide ((j : Int) < (n : Int)) = false := by simp; omega
      go_wp2_with fail
      go_ret
      exact ⟨rfl, _, rfl⟩
/-- A mark of its own for a place of the list n. -/
def numF (n i : Int) : Int := wrap64 (wrap64 (wrap64 (1048576 * n) + i) + 1)
theorem num_any (n i : Int) (w : World) : Calls Tryd.prog 40 #[.int .i64 n, .int .i64 i] w fun e w' => e = .returned (.int .i64 (numF n i)) ∧ w = w' := by
  go_enter Tryd.func40, Tryd.ntmps40
  go_wp2_with fail
  go_ret
  exact ⟨rfl, rfl⟩
theorem quiet_left {P : Program} {f : FuncId} {args : Array Value} {w : World} {n : Nat} {v : Value}
    (h : Calls P f args (w.drewN n) fun e w' => e = .returned v ∧ w.drewN n = w') : Calls P f args (w.drewN n) fun e w'' => e = .returned v ∧ ∃ m, w'' = w.drewN m :=
  h.mono fun _ _ ⟨he, hm⟩ => ⟨he, n, hm.symm⟩
end Go.Proofs.YtonnlgpjobfnmaaDoor

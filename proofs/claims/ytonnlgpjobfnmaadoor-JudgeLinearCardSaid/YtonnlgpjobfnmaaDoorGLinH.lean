/- Joined of the texts LinA, LinH; what each proves, and its conditions, stand ahead of it. -/
import Derived.Test.YtonnlgpjobfnmaaDoorGFindD
/- The laws' small helpers: equal lists, marks. Conditions: what the slices' cells hold. -/
namespace Go.Proofs.YtonnlgpjobfnmaaDoor
open Go.RowKit
set_option maxRecDepth 100000
/-- A slice reads as a list of ints. -/
def IntsAt (w : World) (b : Option Addr) (X : List Int) : Prop := ∀ (i : Nat) (x : Int), X[i]? = some x → ∃ g off, b = some ⟨g, off, none⟩ ∧ w.cell? ⟨g, off + i, none⟩ = some (.int .i64 x)
/-- The loop of a test of two equal lists. -/
def EqRel (n : Nat) (w0 : World) (i : Value) (wr : World) : Prop := ∃ j nd : Nat, j ≤ n ∧ i = .int .i64 j ∧ wr = w0.drewN nd
def EqPost (w : World) (e : Ending) (w' : World) : Prop := e = .returned (.bool true) ∧ ∃ n, w' = w.drewN n
set_option maxHeartbeats 4000000 in
theorem eqInts_same (a b : Option Addr) (ca cb n : Nat) (X : List Int) (hn : X.length = n) (hl : n ≤ 9223372036854775807) (w : World) (ha : IntsAt w a X) (hb : IntsAt w b X) :
    Calls Tryd.prog 14 #[.slice a n ca, .slice b n cb] w (EqPost w) := by
  have HA := Lib.hid ha
  have HB := Lib.hid hb
  clear ha hb
  go_enter Tryd.func14, Tryd.ntmps14
  go_wp2_with fail
  go_loopw [5] (fun i wr => EqRel n w i wr) (fun i _ => n - (intOf i).toNat)
  case atStart => exact ⟨0, 0, Nat.zero_le _, rfl, rfl⟩
  case round =>
    obtain ⟨j, nd, hj, rfl, rfl⟩ := hrel
    by_cases hlt : j < n
    · have hx : decide (j < n) = true := by simpa using hlt
      have hxi : decide ((j : Int) < (n : Int)) = true := by simp; omega
      obtain ⟨x, hx0⟩ : ∃ x, X[j]? = some x := ⟨X[j], List.getElem?_eq_getElem (by omega)⟩
      obtain ⟨g, off, rfl, c1⟩ := HA.out j x hx0
      obtain ⟨g2, off2, rfl, c2⟩ := HB.out j x hx0
      clear hx0
      go_upto_region 6 with (fail)
      go_quiet (fail)
      go_wp2_with fail
      exact ⟨⟨j + 1, _, hlt, by rw [Int.natCast_add]; rfl, rfl⟩, by simp [intOf]; omega⟩
    · have hx : decide (j < n) = false := by simpa using hlt
      have hxi : decide ((j : Int) < (n : Int)) = false := by simp; omega
      go_wp2_with fail
      go_ret
      exact ⟨rfl, _, rfl⟩
set_option maxHeartbeats 4000000 in
theorem eqCalls_same (a b : Option Addr) (ca cb n B1 B2 : Nat) (X : List Cal) (hn : X.length = n) (hl : n ≤ 9223372036854775807) (w : World) (ha : CallsAt w B1 a X) (hb : CallsAt w B2 b X) :
    Calls Tryd.prog 15 #[.slice a n ca, .slice b n cb] w (EqPost w) := by
  have HA := Lib.hid ha
  have HB := Lib.hid hb
  clear ha hb
  go_enter Tryd.func15, Tryd.ntmps15
  go_wp2_with fail
  go_loopw [5] (fun i wr => EqRel n w i wr) (fun i _ => n - (intOf i).toNat)
  case atStart => exact ⟨0, 0, Nat.zero_le _, rfl, rfl⟩
  case round =>
    obtain ⟨j, nd, hj, rfl, rfl⟩ := hrel
    by_cases hlt : j < n
    · have hx : decide (j < n) = true := by simpa using hlt
      have hxi : decide ((j : Int) < (n : Int)) = true := by simp; omega
      obtain ⟨x, hx0⟩ : ∃ x, X[j]? = some x := ⟨X[j], List.getElem?_eq_getElem (by omega)⟩
      obtain ⟨g, off, rfl, _, hA⟩ := HA.out.at_ j x hx0
      obtain ⟨g2, off2, rfl, _, hB⟩ := HB.out.at_ j x hx0
      obtain ⟨p0, p1, p2, p3, p4, p5, p6⟩ := hA
      obtain ⟨q0, q1, q2, q3, q4, q5, q6⟩ := hB
      clear hx0
      go_upto_region 6 with (fail)
      go_quiet (fail)
      go_wp2_with fail
      exact ⟨⟨j + 1, _, hlt, by rw [Int.natCast_add]; rfl, rfl⟩, by simp [intOf]; omega⟩
    · have hx : decide (j < n) = false := by simpa using hlt
      have hxi : decide ((j : Int) < (n : Int)) = false := by simp; omega
      go_wp2_with fail
      go_ret
      exact ⟨rfl, _, rfl⟩
/-- A mark of its own for a place of the list n. -/
def numF (n i : Int) : Int := wrap64 (wrap64 (wrap64 (1048576 * n) + i) + 1)
theorem num_any (n i : Int) (w : World) : Calls Tryd.prog 40 #[.int .i64 n, .int .i64 i] w fun e w' => e = .returned (.int .i64 (numF n i)) ∧ w = w' := by
  go_enter Tryd.func40, Tryd.ntmps40
  go_wp2_with fail
  go_ret
  exact ⟨rfl, rfl⟩
theorem quiet_left {P : Program} {f : FuncId} {args : Array Value} {w : World} {n : Nat} {v : Value}
    (h : Calls P f args (w.drewN n) fun e w' => e = .returned v ∧ w.drewN n = w') : Calls P f args (w.drewN n) fun e w'' => e = .returned v ∧ ∃ m, w'' = w.drewN m :=
  h.mono fun _ _ ⟨he, hm⟩ => ⟨he, n, hm.symm⟩
end Go.Proofs.YtonnlgpjobfnmaaDoor
/- The reference's same, free; the search from nothing. Conditions: what the slices' cells hold. -/
namespace Go.Proofs.YtonnlgpjobfnmaaDoor
open Go.RowKit
set_option maxRecDepth 100000
/-- The search looks at what the thing holds through what calls do with it alone. -/
theorem lin_zero {k : Int} (hk : 2 < k) (H : List Cal) (must n d : Nat) : lin k H must n d [] = lin k H must n d [0] := by
  have hd : ∀ c, doesF k [] c = doesF k [0] c := fun c => by
    have h2 : ¬ k ≤ 2 := by omega
    simp [doesF, h2]
  have ho : ∀ i c, okStep k H d [] i c = okStep k H d [0] i c := fun i c => by
    unfold okStep
    rw [hd]
  rw [lin.eq_def, lin.eq_def k H must n d [0]]
  simp only [hd, ho]
theorem Lin_zero {k : Int} (hk : 2 < k) (H : List Cal) (must d : Nat) : Lin k H must d [] = Lin k H must d [0] := lin_zero hk H must _ d
def SameRel (X Y : List Int) (w0 : World) (i : Value) (wr : World) : Prop := ∃ j nd : Nat, j ≤ X.length ∧ i = .int .i64 j ∧ wr = w0.drewN nd ∧ ∀ m, m < j → X[m]? = Y[m]?
def SamePost (X Y : List Int) (w : World) (e : Ending) (w' : World) : Prop := e = .returned (.bool (decide (X = Y))) ∧ ∃ n, w' = w.drewN n
set_option maxHeartbeats 1600000 in
theorem same_any (a b : Option Addr) (ca cb B1 B2 : Nat) (X Y : List Int) (n m : Nat) (hX : X.length = n) (hY : Y.length = m) (hn : n ≤ 1000000) (hm : m ≤ 1000000) (w : World) (ha : NumsAt w B1 a X) (hb : NumsAt w B2 b Y) :
    Calls Tryd.prog 76 #[.slice a n ca, .slice b m cb] w (SamePost X Y w) := by
  have HA := Lib.hid ha
  have HB := Lib.hid hb
  clear ha hb
  go_enter Tryd.func76, Tryd.ntmps76
  by_cases hl : n = m
  · subst hl
    go_wp2_with fail
    go_loopw [5] (fun i wr => SameRel X Y w i wr) (fun i _ => n - (intOf i).toNat)
    case atStart => exact ⟨0, 0, Nat.zero_le _, rfl, rfl, fun m hm => by omega⟩
    case round =>
      obtain ⟨j, nd, hj, rfl, rfl, hpre⟩ := hrel
      have HP := Lib.hid hpre
      clear hpre
      by_cases hlt : j < n
      · have hx : decide (j < n) = true := by simpa using hlt
        have hxi : decide ((j : Int) < (n : Int)) = true := by simp; omega
        obtain ⟨x, hx0⟩ : ∃ x, X[j]? = some x := ⟨X[j]'(by omega), List.getElem?_eq_getElem (by omega)⟩
        obtain ⟨y, hy0⟩ : ∃ y, Y[j]? = some y := ⟨Y[j]'(by omega), List.getElem?_eq_getElem (by omega)⟩
        obtain ⟨g, off, rfl, _, _, c1⟩ := HA.out.at_ j x hx0
        obtain ⟨g2, off2, rfl, _, _, c2⟩ := HB.out.at_ j y hy0
        have HX0 := Lib.hid hx0
        have HY0 := Lib.hid hy0
        clear hx0 hy0
        go_upto_region 6 with (fail)
        by_cases hxy : x = y
        · subst hxy
          go_quiet (fail)
          go_wp2_with fail
          refine ⟨⟨j + 1, _, by omega, by rw [Int.natCast_add]; rfl, rfl, fun m hm => ?_⟩, by simp [intOf]; omega⟩
          by_cases e : m = j
          · subst e
            rw [HX0.out, HY0.out]
          · exact HP.out m (by omega)
        · have hd : decide (x = y) = false := by simpa using hxy
          have hd2 : (x == y) = false := by simpa using hxy
          go_quiet (fail)
          go_wp2_with fail
          go_ret
          exact ⟨by rw [decide_eq_false fun e => hxy (by have h1 := HX0.out; rw [e, HY0.out] at h1; exact (Option.some.inj h1).symm)]; rfl, nd + nq, by simp⟩
      · have hx : decide (j < n) = false := by simpa using hlt
        have hxi : decide ((j : Int) < (n : Int)) = false := by simp; omega
        go_wp2_with fail
        go_ret
        have hXY : X = Y := by
          apply List.ext_getElem?
          intro m
          by_cases e : m < j
          · exact HP.out m e
          · rw [List.getElem?_eq_none (by omega), List.getElem?_eq_none (by omega)]
        exact ⟨by rw [decide_eq_true hXY]; rfl, _, rfl⟩
  · have hx : decide ((n : Int) = (m : Int)) = false := by simp; omega
    have hx2 : decide (n = m) = false := by simp; omega
    have hx3 : (n == m) = false := by simp; omega
    go_wp2_with fail
    go_ret
    exact ⟨by rw [decide_eq_false fun e => hl (by rw [← hX, ← hY, e])]; rfl, 0, rfl⟩
end Go.Proofs.YtonnlgpjobfnmaaDoor

/- The reference's free. Conditions: what the search's cells hold. -/
import Derived.Test.YtonnlgpjobfnmaaDoorRLinA
import Derived.Test.YtonnlgpjobfnmaaDoorRJudgeUb
namespace Go.Proofs.YtonnlgpjobfnmaaDoor
open Go.RowKit
set_option maxRecDepth 100000
theorem and_shift {m j : Nat} (hm : m < 4096) (hj : j < 12) : bits .and .i64 (m : Int) (wrap64 (2 ^ j)) = ((m &&& 2 ^ j : Nat) : Int) := by
  have h2 : 2 ^ j < 2 ^ 12 := Nat.pow_lt_pow_right (by decide) hj
  have h3 : 2 ^ j < 4096 := h2
  have e : (2 : Int) ^ j = ((2 ^ j : Nat) : Int) := by simp
  rw [e]
  generalize 2 ^ j = z at h3
  rw [show wrap64 (z : Int) = z by unfold wrap64; omega, and_i64 m z hm (by omega)]
theorem and_no {d j : Nat} (h : d.testBit j = false) : d &&& 2 ^ j = 0 := by
  apply Nat.eq_of_testBit_eq
  intro i
  rw [Nat.testBit_and, Nat.testBit_two_pow, Nat.zero_testBit]
  by_cases e : j = i
  · subst e
    simp [h]
  · simp [e]
theorem and_yes {d j : Nat} (h : d.testBit j = true) : ¬ d &&& 2 ^ j = 0 := by
  intro h0
  have := congrArg (fun x => x.testBit j) h0
  simp [Nat.testBit_and, Nat.testBit_two_pow_self, h] at this
/-- What the law's walk asks of a bit. -/
theorem bit_facts (d j : Nat) (hd : d < 4096) (hj : j < 12) : ∃ y : Int, bits .and .i64 (d : Int) (wrap64 (2 ^ j)) = y ∧ decide (y = 0) = !d.testBit j ∧ (y == 0) = !d.testBit j := by
  refine ⟨_, and_shift hd hj, ?_⟩
  cases h : d.testBit j with
  | false => rw [and_no h]; exact ⟨rfl, rfl⟩
  | true =>
    have := and_yes h
    simp only [Bool.not_true, decide_eq_false_iff_not, beq_eq_false_iff_ne, ne_eq]
    omega
theorem wpQuiet_skips {P : Program} {ops : Array Oper} {C : World → Prop} {Q : Act → Prop} : ∀ (l rest : List Oper) (a : Act), skipsB ops l a = true → wpQuiet P ops C Q rest (skipsA l a) → wpQuiet P ops C Q (l ++ rest) a
  | [], _, _, _, h => h
  | o :: l, rest, a, hs, h => by
    simp only [skipsB, Bool.and_eq_true, Bool.not_eq_true'] at hs
    show if Region.wanted o (yielded ops a.tmps) then _ else wpQuiet P ops C Q (l ++ rest) (a.put o.dst undef)
    rw [if_neg (by rw [hs.1]; simp)]
    exact wpQuiet_skips l rest _ hs.2 h
theorem wpQuiet_weak {P : Program} {ops : Array Oper} {C : World → Prop} {Q Q' : Act → Prop} (h : ∀ a, Q a → Q' a) : ∀ (l : List Oper) (a : Act), wpQuiet P ops C Q l a → wpQuiet P ops C Q' l a
  | [], a, hq => h a hq
  | o :: l, a, hq => by
    unfold wpQuiet at hq ⊢
    split at hq
    · rename_i hw
      rw [if_pos hw]
      exact Oper.quiet_mono (fun a => wpQuiet_weak h l a) hq
    · rename_i hw
      rw [if_neg hw]
      exact wpQuiet_weak h l _ hq
theorem wpQuiet_move_skips {P : Program} {ops : Array Oper} {C : World → Prop} {Q : Act → Prop} {a : Act} {op : Oper} {rest : List Oper} (n : Nat) (hw : Region.wanted op (yielded ops a.tmps) = true) (x : Operand) (ho : op.op = .move x) (hs : skipsB ops (rest.take n) (a.put op.dst (a.eval x)) = true)
    (h : wpQuiet P ops C Q (rest.drop n) (skipsA (rest.take n) (a.put op.dst (a.eval x)))) : wpQuiet P ops C Q (op :: rest) a := by
  have h2 := wpQuiet_skips (rest.take n) (rest.drop n) _ hs h
  rw [List.take_append_drop] at h2
  exact BigFrame.wpQuiet_want hw fun K hK => BigFrame.quiet_move x ho (hK _ h2)
/-- The first n operations, what follows them out of sight. -/
theorem wpQuiet_cut {P : Program} {ops : Array Oper} {C : World → Prop} {Q : Act → Prop} : ∀ (n : Nat) (l : List Oper) (a : Act), (∀ K : Act → Prop, (∀ a', wpQuiet P ops C Q (l.drop n) a' → K a') → wpQuiet P ops C K (l.take n) a) → wpQuiet P ops C Q l a
  | 0, _, _, h => h _ fun _ h => h
  | _ + 1, [], _, h => h _ fun _ h => h
  | n + 1, o :: l, a, h => by
    have h1 := h (fun a' => wpQuiet P ops C Q (l.drop n) a') fun _ h => h
    rw [List.take_succ_cons] at h1
    unfold wpQuiet at h1 ⊢
    have key : ∀ a, wpQuiet P ops C (fun a' => wpQuiet P ops C Q (l.drop n) a') (l.take n) a → wpQuiet P ops C Q l a := fun a ha => wpQuiet_cut n l a fun K hK => wpQuiet_weak (fun a' => hK a') (l.take n) a ha
    split at h1
    · rename_i hw
      rw [if_pos hw]
      exact Oper.quiet_mono key h1
    · rename_i hw
      rw [if_neg hw]
      exact key _ h1
theorem wpQuiet_strike {P : Program} {ops : Array Oper} {C : World → Prop} {Q : Act → Prop} {a : Act} {l : List Oper} {op : Oper} {rest : List Oper} (n : Nat) (hl : l = op :: rest) (hw : Region.wanted op (yielded ops a.tmps) = true) (x : Operand) (ho : op.op = .move x) (hs : skipsB ops (rest.take n) (a.put op.dst (a.eval x)) = true)
    (h : wpQuiet P ops C Q (rest.drop n) (skipsA (rest.take n) (a.put op.dst (a.eval x)))) : wpQuiet P ops C Q l a := by
  subst hl
  exact wpQuiet_move_skips n hw x ho hs h
def FreeRel (H : List Cal) (d : Nat) (c : Cal) (w0 : World) (i : Value) (wr : World) : Prop := ∃ j nd : Nat, j ≤ H.length ∧ i = .int .i64 j ∧ wr = w0.drewN nd ∧ ∀ m x, m < j → H[m]? = some x → ahd d m x c = false
def FreePost (H : List Cal) (d : Nat) (c : Cal) (w : World) (e : Ending) (w' : World) : Prop := e = .returned (.bool (!lateB H d c)) ∧ ∃ n, w' = w.drewN n
set_option maxHeartbeats 1600000 in
theorem free_any (bs : Nat) (v0 v2 v3 : Value) (b : Option Addr) (cap B : Nat) (H : List Cal) (n : Nat) (hn : H.length = n) (hH : n ≤ 12) (d : Nat) (hd : d < 4096) (i : Nat) (c : Cal) (hc : H[i]? = some c) (w : World)
    (hs : Blk w bs 100 #[v0, .slice b n cap, v2, v3]) (h : CallsAt w B b H) :
    Calls Tryd.prog 77 #[.pointer (some ⟨bs, 0, none⟩), .int .i64 d, .int .i64 i] w (FreePost H d c w) := by
  have HC := Lib.hid h
  have HS := Lib.hid hs
  have c1 : w.cell? ⟨bs, 1, none⟩ = some (.slice b n cap) := hs.cell 1
  have hin : i < n := by have := (List.getElem?_eq_some_iff.1 hc).1; omega
  obtain ⟨g, off, rfl, _, hA⟩ := h.at_ i c hc
  obtain ⟨q0, q1, q2, q3, q4, q5, q6⟩ := hA
  have hxi : decide ((i : Int) < (n : Int)) = true := by simp; omega
  clear h hs q0 q1 q2 q3 q4 q6 hc
  go_enter Tryd.func77, Tryd.ntmps77
  go_wp2_with fail
  go_loopw [7] (fun i wr => FreeRel H d c w i wr) (fun i _ => n - (intOf i).toNat)
  case atStart => exact ⟨0, 0, Nat.zero_le _, rfl, rfl, fun m x hm => by omega⟩
  case round =>
    obtain ⟨j, nd, hj, rfl, rfl, hpre⟩ := hrel
    have HP := Lib.hid hpre
    clear hpre
    by_cases hlt : j < n
    · have hx : decide (j < n) = true := by simpa using hlt
      have hxj : decide ((j : Int) < (n : Int)) = true := by simp; omega
      obtain ⟨a, ha⟩ : ∃ a, H[j]? = some a := ⟨H[j]'(by omega), List.getElem?_eq_getElem (by omega)⟩
      obtain ⟨g2, off2, e2, _, hA⟩ := HC.out.at_ j a ha
      injection e2 with e2
      injection e2 with e3 e4
      subst e3 e4
      obtain ⟨p0, p1, p2, p3, p4, p5, p6⟩ := hA
      obtain ⟨y, hy, hy0, hyq⟩ := bit_facts d j hd (by omega)
      have HA := Lib.hid ha
      have hj64 : decide ((j : Int) < 0) = false := by simp
      clear ha p0 p1 p2 p3 p4 p5
      have hmore : ahd d j a c = false → ∀ m x, m < j + 1 → H[m]? = some x → ahd d m x c = false := fun hz m x hm hx' => by
        by_cases e : m = j
        · subst e
          obtain rfl : a = x := Option.some.inj (HA.out.symm.trans hx')
          exact hz
        · exact HP.out m x (by omega) hx'
      have HMO := Lib.hid hmore
      clear hmore
      go_upto_region 4 with (fail)
      cases hbit : d.testBit j with
      | true =>
        rw [hbit] at hy0 hyq
        simp only [Bool.not_true] at hy0 hyq
        refine wp_region_quiet_lit (by kernel_rfl) (by kernel_rfl) ?_
        refine wpQuiet_cut 5 _ _ (fun K hK => ?_)
        simp only [List.take_succ_cons, List.take_zero]
        iterate 5 go_big_quiet_step (fail)
        try rw [hyq]
        refine wpQuiet_nil ?_
        refine hK _ ?_
        clear hK K
        refine wpQuiet_strike 9 rfl rfl _ rfl (by kernel_rfl) ?_
        refine wpQuiet_cut 1 _ _ (fun K hK => ?_)
        simp only [List.take_succ_cons, List.take_zero, List.drop_succ_cons, List.drop_zero, skipsA]
        go_simp
        go_big_quiet_step (fail)
        refine wpQuiet_nil ?_
        refine hK _ ?_
        clear hK K
        refine wpQuiet_strike 17 rfl rfl _ rfl (by kernel_rfl) ?_
        refine wpQuiet_cut 1 _ _ (fun K hK => ?_)
        simp only [List.take_succ_cons, List.take_zero, List.drop_succ_cons, List.drop_zero, skipsA]
        go_simp
        go_big_quiet_step (fail)
        refine wpQuiet_nil ?_
        refine hK _ ?_
        clear hK K
        refine wpQuiet_nil ?_
        intro _ hw'
        obtain ⟨nq, hw''⟩ := hw'
        subst hw''
        go_wp2_with fail
        exact ⟨⟨j + 1, _, by omega, by rw [Int.natCast_add]; rfl, by first | rfl | simp, HMO.out (by simp [ahd, hbit])⟩, by simp [intOf]; omega⟩
      | false =>
        rw [hbit] at hy0 hyq
        simp only [Bool.not_false] at hy0 hyq
        by_cases hf : a.fin = -1
        · have hf1 : decide (a.fin = -1) = true := by simpa using hf
          have hf2 : (a.fin == -1) = true := by simpa using hf
          have hf3 : (a.fin != -1) = false := by simpa using hf
          have hf4 : decide (¬ a.fin = -1) = false := by simpa using hf
          refine wp_region_quiet_lit (by kernel_rfl) (by kernel_rfl) ?_
          refine wpQuiet_cut 16 _ _ (fun K hK => ?_)
          simp only [List.take_succ_cons, List.take_zero]
          iterate 16 go_big_quiet_step (fail)
          refine wpQuiet_nil ?_
          refine hK _ ?_
          clear hK K
          refine wpQuiet_strike 17 rfl rfl _ rfl (by kernel_rfl) ?_
          refine wpQuiet_cut 1 _ _ (fun K hK => ?_)
          simp only [List.take_succ_cons, List.take_zero, List.drop_succ_cons, List.drop_zero, skipsA]
          go_simp
          go_big_quiet_step (fail)
          refine wpQuiet_nil ?_
          refine hK _ ?_
          clear hK K
          refine wpQuiet_nil ?_
          intro _ hw'
          obtain ⟨nq, hw''⟩ := hw'
          subst hw''
          go_wp2_with fail
          exact ⟨⟨j + 1, _, by omega, by rw [Int.natCast_add]; rfl, by first | rfl | simp, HMO.out (by simp [ahd, hbit, hf])⟩, by simp [intOf]; omega⟩
        · have hf1 : decide (a.fin = -1) = false := by simpa using hf
          have hf2 : (a.fin == -1) = false := by simpa using hf
          have hf3 : (a.fin != -1) = true := by simpa using hf
          have hf4 : decide (¬ a.fin = -1) = true := by simpa using hf
          by_cases hl : a.fin < c.beg
          · have hl1 : decide (a.fin < c.beg) = true := by simpa using hl
            refine wp_region_quiet_lit (by kernel_rfl) (by kernel_rfl) ?_
            refine wpQuiet_cut 35 _ _ (fun K hK => ?_)
            simp only [List.take_succ_cons, List.take_zero]
            iterate 35 go_big_quiet_step (fail)
            refine wpQuiet_nil ?_
            refine hK _ ?_
            clear hK K
            refine wpQuiet_nil ?_
            intro _ hw'
            obtain ⟨nq, hw''⟩ := hw'
            subst hw''
            go_wp2_with fail
            go_ret
            refine ⟨?_, _, rfl⟩
            rw [late_yes HA.out (by simp [ahd, hbit, hf, hl])]
            rfl
          · have hl1 : decide (a.fin < c.beg) = false := by simpa using hl
            refine wp_region_quiet_lit (by kernel_rfl) (by kernel_rfl) ?_
            refine wpQuiet_cut 35 _ _ (fun K hK => ?_)
            simp only [List.take_succ_cons, List.take_zero]
            iterate 35 go_big_quiet_step (fail)
            refine wpQuiet_nil ?_
            refine hK _ ?_
            clear hK K
            refine wpQuiet_nil ?_
            intro _ hw'
            obtain ⟨nq, hw''⟩ := hw'
            subst hw''
            go_wp2_with fail
            exact ⟨⟨j + 1, _, by omega, by rw [Int.natCast_add]; rfl, by first | rfl | simp, HMO.out (by simp [ahd, hbit, hl])⟩, by simp [intOf]; omega⟩
    · have hx : decide (j < n) = false := by simpa using hlt
      go_wp2_with fail
      go_ret
      refine ⟨?_, _, rfl⟩
      rw [late_no fun m x hm => HP.out m x (by omega)]
      rfl
end Go.Proofs.YtonnlgpjobfnmaaDoor

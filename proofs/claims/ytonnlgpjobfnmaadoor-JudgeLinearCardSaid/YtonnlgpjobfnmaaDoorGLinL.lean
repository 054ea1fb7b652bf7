/- Joined of the texts LinK, LinL; what each proves, and its conditions, stand ahead of it. -/
import Derived.Test.YtonnlgpjobfnmaaDoorGLinH
import Derived.Test.YtonnlgpjobfnmaaDoorGJudgeUb
import Derived.Test.YtonnlgpjobfnmaaDoorGLinJ
/- The reference's free. Conditions: what the search's cells hold. -/
namespace Go.Proofs.YtonnlgpjobfnmaaDoor
open Go.RowKit
set_option maxRecDepth 100000
theorem and_shift {m j : Nat} (hm : m < 4096) (hj : j < 12) : bits .and .i64 (m : Int) (wrap64 (2 ^ j)) = ((m &&& 2 ^ j : Nat) : Int) := by
  have h2 : 2 ^ j < 2 ^ 12 := Nat.pow_lt_pow_right (by decide) hj
  have h3 : 2 ^ j < 4096 := h2
  have e : (2 : Int) ^ j = ((2 ^ j : Nat) : Int) := by simp
  rw [e]
  generalize 2 ^ j = z at h3
  rw [show wrap64 (z : Int) = z by unfold wrap64; omega, and_i64 m z hm (by omega)]
theorem and_no {d j : Nat} (h : d.testBit j = false) : d &&& 2 ^ j = 0 := by
  apply Nat.eq_of_testBit_eq
  intro i
  rw [Nat.testBit_and, Nat.testBit_two_pow, Nat.zero_testBit]
  by_cases e : j = i
  · subst e
    simp [h]
  · simp [e]
theorem and_yes {d j : Nat} (h : d.testBit j = true) : ¬ d &&& 2 ^ j = 0 := by
  intro h0
  have := congrArg (fun x => x.testBit j) h0
  simp [Nat.testBit_and, Nat.testBit_two_pow_self, h] at this
/-- What the law's walk asks of a bit. -/
theorem bit_facts (d j : Nat) (hd : d < 4096) (hj : j < 12) : ∃ y : Int, bits .and .i64 (d : Int) (wrap64 (2 ^ j)) = y ∧ decide (y = 0) = !d.testBit j ∧ (y == 0) = !d.testBit j := by
  refine ⟨_, and_shift hd hj, ?_⟩
  cases h : d.testBit j with
  | false => rw [and_no h]; exact ⟨rfl, rfl⟩
  | true =>
    have := and_yes h
    simp only [Bool.not_true, decide_eq_false_iff_not, beq_eq_false_iff_ne, ne_eq]
    omega
theorem wpQuiet_skips {P : Program} {ops : Array Oper} {C : World → Prop} {Q : Act → Prop} : ∀ (l rest : List Oper) (a : Act), skipsB ops l a = true → wpQuiet P ops C Q rest (skipsA l a) → wpQuiet P ops C Q (l ++ rest) a
  | [], _, _, _, h => h
  | o :: l, rest, a, hs, h => by
    simp only [skipsB, Bool.and_eq_true, Bool.not_eq_true'] at hs
    show if Region.wanted o (yielded ops a.tmps) then _ else wpQuiet P ops C Q (l ++ rest) (a.put o.dst undef)
    rw [if_neg (by rw [hs.1]; simp)]
    exact wpQuiet_skips l rest _ hs.2 h
theorem wpQuiet_weak {P : Program} {ops : Array Oper} {C : World → Prop} {Q Q' : Act → Prop} (h : ∀ a, Q a → Q' a) : ∀ (l : List Oper) (a : Act), wpQuiet P ops C Q l a → wpQuiet P ops C Q' l a
  | [], a, hq => h a hq
  | o :: l, a, hq => by
    unfold wpQuiet at hq ⊢
    split at hq
    · rename_i hw
      rw [if_pos hw]
      exact Oper.quiet_mono (fun a => wpQuiet_weak h l a) hq
    · rename_i hw
      rw [if_neg hw]
      exact wpQuiet_weak h l _ hq
theorem wpQuiet_move_skips {P : Program} {ops : Array Oper} {C : World → Prop} {Q : Act → Prop} {a : Act} {op : Oper} {rest : List Oper} (n : Nat) (hw : Region.wanted op (yielded ops a.tmps) = true) (x : Operand) (ho : op.op = .move x) (hs : skipsB ops (rest.take n) (a.put op.dst (a.eval x)) = true)
    (h : wpQuiet P ops C Q (rest.drop n) (skipsA (rest.take n) (a.put op.dst (a.eval x)))) : wpQuiet P ops C Q (op :: rest) a := by
  have h2 := wpQuiet_skips (rest.take n) (rest.drop n) _ hs h
  rw [List.take_append_drop] at h2
  exact BigFrame.wpQuiet_want hw fun K hK => BigFrame.quiet_move x ho (hK _ h2)
/-- The first n operations, what follows them out of sight. -/
theorem wpQuiet_cut {P : Program} {ops : Array Oper} {C : World → Prop} {Q : Act → Prop} : ∀ (n : Nat) (l : List Oper) (a : Act), (∀ K : Act → Prop, (∀ a', wpQuiet P ops C Q (l.drop n) a' → K a') → wpQuiet P ops C K (l.take n) a) → wpQuiet P ops C Q l a
  | 0, _, _, h => h _ fun _ h => h
  | _ + 1, [], _, h => h _ fun _ h => h
  | n + 1, o :: l, a, h => by
    have h1 := h (fun a' => wpQuiet P ops C Q (l.drop n) a') fun _ h => h
    rw [List.take_succ_cons] at h1
    unfold wpQuiet at h1 ⊢
    have key : ∀ a, wpQuiet P ops C (fun a' => wpQuiet P ops C Q (l.drop n) a') (l.take n) a → wpQuiet P ops C Q l a := fun a ha => wpQuiet_cut n l a fun K hK => wpQuiet_weak (fun a' => hK a') (l.take n) a ha
    split at h1
    · rename_i hw
      rw [if_pos hw]
      exact Oper.quiet_mono key h1
    · rename_i hw
      rw [if_neg hw]
      exact key _ h1
theorem wpQuiet_strike {P : Program} {ops : Array Oper} {C : World → Prop} {Q : Act → Prop} {a : Act} {l : List Oper} {op : Oper} {rest : List Oper} (n : Nat) (hl : l = op :: rest) (hw : Region.wanted op (yielded ops a.tmps) = true) (x : Operand) (ho : op.op = .move x) (hs : skipsB ops (rest.take n) (a.put op.dst (a.eval x)) = true)
    (h : wpQuiet P ops C Q (rest.drop n) (skipsA (rest.take n) (a.put op.dst (a.eval x)))) : wpQuiet P ops C Q l a := by
  subst hl
  exact wpQuiet_move_skips n hw x ho hs h
def FreeRel (H : List Cal) (d : Nat) (c : Cal) (w0 : World) (i : Value) (wr : World) : Prop := ∃ j nd : Nat, j ≤ H.length ∧ i = .int .i64 j ∧ wr = w0.drewN nd ∧ ∀ m x, m < j → H[m]? = some x → ahd d m x c = false
def FreePost (H : List Cal) (d : Nat) (c : Cal) (w : World) (e : Ending) (w' : World) : Prop := e = .returned (.bool (!lateB H d c)) ∧ ∃ n, w' = w.drewN n
set_option maxHeartbeats 1600000 in
theorem free_any (bs : Nat) (v0 v2 v3 : Value) (b : Option Addr) (cap B : Nat) (H : List Cal) (n : Nat) (hn : H.length = n) (hH : n ≤ 12) (d : Nat) (hd : d < 4096) (i : Nat) (c : Cal) (hc : H[i]? = some c) (w : World)
    (hs : Blk w bs 100 #[v0, .slice b n cap, v2, v3]) (h : CallsAt w B b H) :
    Calls Tryd.prog 77 #[.pointer (some ⟨bs, 0, none⟩), .int .i64 d, .int .i64 i] w (FreePost H d c w) := by
  have HC := Lib.hid h
  have HS := Lib.hid hs
  have c1 : w.cell? ⟨bs, 1, none⟩ = some (.slice b n cap) := hs.cell 1
  have hin : i < n := by have := (List.getElem?_eq_some_iff.1 hc).1; omega
  obtain ⟨g, off, rfl, _, hA⟩ := h.at_ i c hc
  obtain ⟨q0, q1, q2, q3, q4, q5, q6⟩ := hA
  have hxi : decide ((i : Int) < (n : Int)) = true := by simp; omega
  clear h hs q0 q1 q2 q3 q4 q6 hc
  go_enter Tryd.func77, Tryd.ntmps77
  go_wp2_with fail
  go_loopw [7] (fun i wr => FreeRel H d c w i wr) (fun i _ => n - (intOf i).toNat)
  case atStart => exact ⟨0, 0, Nat.zero_le _, rfl, rfl, fun m x hm => by omega⟩
  case round =>
    obtain ⟨j, nd, hj, rfl, rfl, hpre⟩ := hrel
    have HP := Lib.hid hpre
    clear hpre
    by_cases hlt : j < n
    · have hx : decide (j < n) = true := by simpa using hlt
      have hxj : decide ((j : Int) < (n : Int)) = true := by simp; omega
      obtain ⟨a, ha⟩ : ∃ a, H[j]? = some a := ⟨H[j]'(by omega), List.getElem?_eq_getElem (by omega)⟩
      obtain ⟨g2, off2, e2, _, hA⟩ := HC.out.at_ j a ha
      injection e2 with e2
      injection e2 with e3 e4
      subst e3 e4
      obtain ⟨p0, p1, p2, p3, p4, p5, p6⟩ := hA
      obtain ⟨y, hy, hy0, hyq⟩ := bit_facts d j hd (by omega)
      have HA := Lib.hid ha
      have hj64 : decide ((j : Int) < 0) = false := by simp
      clear ha p0 p1 p2 p3 p4 p5
      have hmore : ahd d j a c = false → ∀ m x, m < j + 1 → H[m]? = some x → ahd d m x c = false := fun hz m x hm hx' => by
        by_cases e : m = j
        · subst e
          obtain rfl : a = x := Option.some.inj (HA.out.symm.trans hx')
          exact hz
        · exact HP.out m x (by omega) hx'
      have HMO := Lib.hid hmore
      clear hmore
      go_upto_region 4 with (fail)
      cases hbit : d.testBit j with
      | true =>
        rw [hbit] at hy0 hyq
        simp only [Bool.not_true] at hy0 hyq
        refine wp_region_quiet_lit (by kernel_rfl) (by kernel_rfl) ?_
        refine wpQuiet_cut 5 _ _ (fun K hK => ?_)
        simp only [List.take_succ_cons, List.take_zero]
        iterate 5 go_big_quiet_step (fail)
        try rw [hyq]
        refine wpQuiet_nil ?_
        refine hK _ ?_
        clear hK K
        refine wpQuiet_strike 9 rfl rfl _ rfl (by kernel_rfl) ?_
        refine wpQuiet_cut 1 _ _ (fun K hK => ?_)
        simp only [List.take_succ_cons, List.take_zero, List.drop_succ_cons, List.drop_zero, skipsA]
        go_simp
        go_big_quiet_step (fail)
        refine wpQuiet_nil ?_
        refine hK _ ?_
        clear hK K
        refine wpQuiet_strike 17 rfl rfl _ rfl (by kernel_rfl) ?_
        refine wpQuiet_cut 1 _ _ (fun K hK => ?_)
        simp only [List.take_succ_cons, List.take_zero, List.drop_succ_cons, List.drop_zero, skipsA]
        go_simp
        go_big_quiet_step (fail)
        refine wpQuiet_nil ?_
        refine hK _ ?_
        clear hK K
        refine wpQuiet_nil ?_
        intro _ hw'
        obtain ⟨nq, hw''⟩ := hw'
        subst hw''
        go_wp2_with fail
        exact ⟨⟨j + 1, _, by omega, by rw [Int.natCast_add]; rfl, by first | rfl | simp, HMO.out (by simp [ahd, hbit])⟩, by simp [intOf]; omega⟩
      | false =>
        rw [hbit] at hy0 hyq
        simp only [Bool.not_false] at hy0 hyq
        by_cases hf : a.fin = -1
        · have hf1 : decide (a.fin = -1) = true := by simpa using hf
          have hf2 : (a.fin == -1) = true := by simpa using hf
          have hf3 : (a.fin != -1) = false := by simpa using hf
          have hf4 : decide (¬ a.fin = -1) = false := by simpa using hf
          refine wp_region_quiet_lit (by kernel_rfl) (by kernel_rfl) ?_
          refine wpQuiet_cut 16 _ _ (fun K hK => ?_)
          simp only [List.take_succ_cons, List.take_zero]
          iterate 16 go_big_quiet_step (fail)
          refine wpQuiet_nil ?_
          refine hK _ ?_
          clear hK K
          refine wpQuiet_strike 17 rfl rfl _ rfl (by kernel_rfl) ?_
          refine wpQuiet_cut 1 _ _ (fun K hK => ?_)
          simp only [List.take_succ_cons, List.take_zero, List.drop_succ_cons, List.drop_zero, skipsA]
          go_simp
          go_big_quiet_step (fail)
          refine wpQuiet_nil ?_
          refine hK _ ?_
          clear hK K
          refine wpQuiet_nil ?_
          intro _ hw'
          obtain ⟨nq, hw''⟩ := hw'
          subst hw''
          go_wp2_with fail
          exact ⟨⟨j + 1, _, by omega, by rw [Int.natCast_add]; rfl, by first | rfl | simp, HMO.out (by simp [ahd, hbit, hf])⟩, by simp [intOf]; omega⟩
        · have hf1 : decide (a.fin = -1) = false := by simpa using hf
          have hf2 : (a.fin == -1) = false := by simpa using hf
          have hf3 : (a.fin != -1) = true := by simpa using hf
          have hf4 : decide (¬ a.fin = -1) = true := by simpa using hf
          by_cases hl : a.fin < c.beg
          · have hl1 : decide (a.fin < c.beg) = true := by simpa using hl
            refine wp_region_quiet_lit (by kernel_rfl) (by kernel_rfl) ?_
            refine wpQuiet_cut 35 _ _ (fun K hK => ?_)
            simp only [List.take_succ_cons, List.take_zero]
            iterate 35 go_big_quiet_step (fail)
            refine wpQuiet_nil ?_
            refine hK _ ?_
            clear hK K
            refine wpQuiet_nil ?_
            intro _ hw'
            obtain ⟨nq, hw''⟩ := hw'
            subst hw''
            go_wp2_with fail
            go_ret
            refine ⟨?_, _, rfl⟩
            rw [late_yes HA.out (by simp [ahd, hbit, hf, hl])]
            rfl
          · have hl1 : decide (a.fin < c.beg) = false := by simpa using hl
            refine wp_region_quiet_lit (by kernel_rfl) (by kernel_rfl) ?_
            refine wpQuiet_cut 35 _ _ (fun K hK => ?_)
            simp only [List.take_succ_cons, List.take_zero]
            iterate 35 go_big_quiet_step (fail)
            refine wpQuiet_nil ?_
            refine hK _ ?_
            clear hK K
            refine wpQuiet_nil ?_
            intro _ hw'
            obtain ⟨nq, hw''⟩ := hw'
            subst hw''
            go_wp2_with fail
            exact ⟨⟨j + 1, _, by omega, by rw [Int.natCast_add]; rfl, by first | rfl | simp, HMO.out (by simp [ahd, hbit, hl])⟩, by simp [intOf]; omega⟩
    · have hx : decide (j < n) = false := by simpa using hlt
      go_wp2_with fail
      go_ret
      refine ⟨?_, _, rfl⟩
      rw [late_no fun m x hm => HP.out m x (by omega)]
      rfl
end Go.Proofs.YtonnlgpjobfnmaaDoor
/- The reference's search: what it reads and writes. Conditions: none. -/
namespace Go.Proofs.YtonnlgpjobfnmaaDoor
open Go.RowKit
set_option maxRecDepth 100000
/-- At most so many sets are laid aside where so many calls are left. -/
def nods : Nat → Nat
  | 0 => 1
  | r + 1 => 1 + (r + 1) * nods r
theorem nods_pos (r : Nat) : 1 ≤ nods r := by cases r <;> simp [nods]
theorem nods_12 : nods 12 ≤ 2000000000 := by decide
/-- Calls below j that are not done. -/
def unset (d : Nat) : Nat → Nat
  | 0 => 0
  | j + 1 => unset d j + if d.testBit j then 0 else 1
theorem unset_le (d : Nat) : ∀ j, unset d j ≤ j
  | 0 => Nat.le_refl _
  | j + 1 => by have := unset_le d j; unfold unset; split <;> omega
theorem unset_mono (d : Nat) : ∀ m j, unset d j ≤ unset d (j + m)
  | 0, j => Nat.le_refl _
  | m + 1, j => by
    have := unset_mono d m j
    have e : j + (m + 1) = (j + m) + 1 := by omega
    rw [e, unset]
    omega
theorem cnt_unset (d : Nat) : ∀ j, ((List.range j).filter d.testBit).length + unset d j = j
  | 0 => rfl
  | j + 1 => by
    have ih := cnt_unset d j
    rw [List.range_succ, List.filter_append, List.length_append, unset]
    by_cases h : d.testBit j = true
    · simp [h]; omega
    · simp [h]; omega
theorem unset_12 (d : Nat) : cnt d + unset d 12 = 12 := cnt_unset d 12
/-- Is all done, of the calls below j? -/
def overF (H : List Cal) (d : Nat) : Nat → Bool
  | 0 => true
  | j + 1 => overF H d j && (match H[j]? with | some c => d.testBit j || decide (c.fin = -1) | none => true)
theorem overF_iff (H : List Cal) (d : Nat) : ∀ j, overF H d j = true ↔ ∀ m c, m < j → H[m]? = some c → ¬ c.fin = -1 → d.testBit m = true
  | 0 => by simp [overF]
  | j + 1 => by
    have ih := overF_iff H d j
    rw [overF, Bool.and_eq_true, ih]
    constructor
    · rintro ⟨h1, h2⟩ m c hm hc hf
      by_cases e : m = j
      · subst e
        rw [hc] at h2
        simpa [hf] using h2
      · exact h1 m c (by omega) hc hf
    · intro h
      refine ⟨fun m c hm => h m c (by omega), ?_⟩
      split
      · rename_i c hc
        by_cases hf : c.fin = -1
        · simp [hf]
        · simp [h j c (by omega) hc hf]
      · rfl
theorem overF_must (H : List Cal) (d : Nat) : overF H d H.length = decide (d &&& mustOf H = mustOf H) := by
  have h1 := overF_iff H d H.length
  have h2 : d &&& mustOf H = mustOf H ↔ ∀ m c, m < H.length → H[m]? = some c → ¬ c.fin = -1 → d.testBit m = true := by
    constructor
    · intro h m c hm hc hf
      have hb : (mustOf H).testBit m = true := (mustTo_bit H H.length m).2 ⟨hm, c, hc, hf⟩
      have := congrArg (fun x => x.testBit m) h
      simpa [Nat.testBit_and, hb] using this
    · intro h
      apply Nat.eq_of_testBit_eq
      intro m
      rw [Nat.testBit_and]
      cases hb : (mustOf H).testBit m with
      | false => simp
      | true =>
        obtain ⟨hm, c, hc, hf⟩ := (mustTo_bit H H.length m).1 hb
        simp [h m c hm hc hf]
  by_cases h : d &&& mustOf H = mustOf H
  · rw [decide_eq_true h]
    exact h1.2 (h2.1 h)
  · rw [decide_eq_false h]
    exact Bool.eq_false_iff.2 fun hh => h (h2.2 (h1.1 hh))
theorem does_same (k : Int) (hs : List Int) (c : Cal) : (doesF k hs c).2 = c ↔ (doesF k hs c).2.ans = c.ans ∧ (doesF k hs c).2.ok = c.ok := by
  have key : (doesF k hs c).2.op = c.op ∧ (doesF k hs c).2.arg = c.arg ∧ (doesF k hs c).2.new = c.new ∧ (doesF k hs c).2.beg = c.beg ∧ (doesF k hs c).2.fin = c.fin := by
    unfold doesF
    by_cases hk : k ≤ 2
    · rw [if_pos hk]
      by_cases o1 : c.op = 1
      · rw [if_pos o1]; exact ⟨rfl, rfl, rfl, rfl, rfl⟩
      · rw [if_neg o1]
        cases hs with
        | nil => exact ⟨rfl, rfl, rfl, rfl, rfl⟩
        | cons x r =>
          simp only []
          split <;> exact ⟨rfl, rfl, rfl, rfl, rfl⟩
    · rw [if_neg hk]
      simp only []
      repeat' split
      all_goals exact ⟨rfl, rfl, rfl, rfl, rfl⟩
  constructor
  · intro h
    rw [h]
    exact ⟨rfl, rfl⟩
  · rintro ⟨h1, h2⟩
    obtain ⟨k1, k2, k3, k4, k5⟩ := key
    exact cal_eq k1 k2 k3 h1 h2 k4 k5
/-- Blocks that the search may write: its own, rows of ints, rows of lists of numbers. -/
def Wr (base bs : Nat) (w : World) (q : Nat) : Prop := q = bs ∨ (base ≤ q ∧ ∃ cs fr, w.heap[q]? = some (.cells cs 3 fr)) ∨ (base ≤ q ∧ ∃ cs fr, w.heap[q]? = some (.cells cs 54 fr))
def FrS (base bs : Nat) (w w' : World) : Prop := Kept (Wr base bs w) w w'
theorem FrS.refl (base bs : Nat) (w : World) : FrS base bs w w := Kept.refl _ w
theorem FrS.trans {base bs : Nat} {a b c : World} (h : FrS base bs a b) (k : FrS base bs b c) : FrS base bs a c :=
  ⟨k.os.trans h.os, k.tape.trans h.tape, k.output.trans h.output, Nat.le_trans h.size k.size, fun q hq hs => by
    have e := h.block q hq hs
    refine (k.block q (Nat.lt_of_lt_of_le hq h.size) fun hh => hs ?_).trans e
    rcases hh with hh | ⟨h1, cs, fr, h2⟩ | ⟨h1, cs, fr, h2⟩
    · exact .inl hh
    · exact .inr (.inl ⟨h1, cs, fr, by rw [← e]; exact h2⟩)
    · exact .inr (.inr ⟨h1, cs, fr, by rw [← e]; exact h2⟩)⟩
theorem FrS.of_below {base bs : Nat} {a b : World} (h : Below a.heap.size a b) : FrS base bs a b := Kept.of_below h
theorem FrS.thing {base bs : Nat} {w w' : World} {v : Value} {hs : List Int} (h : ThingAt w v hs) (hb : ∃ cs, Blk w bs 100 cs) (f : FrS base bs w w') : ThingAt w' v hs := by
  obtain ⟨a, cap, e, h1, h2, h3⟩ := h
  refine ⟨a, cap, e, h1, h2, h3.wf, fun i x hx => ?_⟩
  obtain ⟨g, off, e2, hg, ⟨cs, fr, ht⟩, hc⟩ := h3.at_ i x hx
  have hq : w'.heap[g]? = w.heap[g]? := f.block g hg fun hh => by
    rcases hh with rfl | ⟨_, cs', fr', h⟩ | ⟨_, cs', fr', h⟩
    · obtain ⟨cs', hB⟩ := hb
      unfold Blk at hB
      rw [ht] at hB
      injection hB with hB
      injection hB with _ hB
      exact absurd hB (by decide)
    · rw [ht] at h
      injection h with h
      injection h with _ h
      exact absurd h (by decide)
    · rw [ht] at h
      injection h with h
      injection h with _ h
      exact absurd h (by decide)
  exact ⟨g, off, e2, Nat.lt_of_lt_of_le hg f.size, ⟨cs, fr, hq.trans ht⟩, by rw [World.cell?_of_block (a := ⟨g, off + i, none⟩) hq]; exact hc⟩
/-- The search's block, and what has been laid aside. -/
structure SrchAt (w : World) (base bs : Nat) (k : Int) (hb : Option Addr) (n0 hcap : Nat) (H : List Cal) (mem : List (Nat × List Int)) (vb vh : Value) : Prop where
  s : Blk w bs 100 #[.int .i64 k, .slice hb n0 hcap, vb, vh]
  calls : CallsAt w base hb H
  far : ∀ g off, hb = some ⟨g, off, none⟩ → g ≠ bs
  been : w.ownsRow base 3 1 vb mem.length (mem.map fun e => Value.int .i64 (e.1 : Nat))
  holds : ∃ ys, w.ownsRow base 54 1 vh mem.length ys ∧ ∀ (i : Nat) (e : Nat × List Int) (y : Value), mem[i]? = some e → ys[i]? = some y → ThingAt w y e.2
  low : bs < base ∧ base ≤ w.heap.size
theorem callsAt_keep {w w' : World} {base : Nat} {hb : Option Addr} {H : List Cal} (h : CallsAt w base hb H) (hk : ∀ g off, hb = some ⟨g, off, none⟩ → g < base → w'.heap[g]? = w.heap[g]?) : CallsAt w' base hb H :=
  ⟨h.wf, fun i c hc => by
    obtain ⟨g, off, e, hg, h0, h1, h2, h3, h4, h5, h6⟩ := h.at_ i c hc
    have hq := hk g off e hg
    exact ⟨g, off, e, hg, by rw [World.cell?_of_block (a := ⟨g, off + i * 7, none⟩) hq]; exact h0, by rw [World.cell?_of_block (a := ⟨g, off + i * 7 + 1, none⟩) hq]; exact h1, by rw [World.cell?_of_block (a := ⟨g, off + i * 7 + 2, none⟩) hq]; exact h2, by rw [World.cell?_of_block (a := ⟨g, off + i * 7 + 3, none⟩) hq]; exact h3,
      by rw [World.cell?_of_block (a := ⟨g, off + i * 7 + 4, none⟩) hq]; exact h4, by rw [World.cell?_of_block (a := ⟨g, off + i * 7 + 5, none⟩) hq]; exact h5, by rw [World.cell?_of_block (a := ⟨g, off + i * 7 + 6, none⟩) hq]; exact h6⟩⟩
theorem SrchAt.below {w w' : World} {base bs : Nat} {k : Int} {hb : Option Addr} {n0 hcap : Nat} {H : List Cal} {mem : List (Nat × List Int)} {vb vh : Value} (h : SrchAt w base bs k hb n0 hcap H mem vb vh) (b : Below w.heap.size w w') : SrchAt w' base bs k hb n0 hcap H mem vb vh := by
  obtain ⟨ys, h1, h2⟩ := h.holds
  refine ⟨h.s.below b h.s.lt, callsAt_keep h.calls fun g off _ hg => b.block g (by have := h.low.2; omega), h.far, row_same h.been fun q cs _ hB => b.block q hB.lt, ⟨ys, row_same h1 fun q cs _ hB => b.block q hB.lt, fun i e y hi hy => ?_⟩, h.low.1, Nat.le_trans h.low.2 b.size⟩
  exact FrS.thing (base := base) (h2 i e y hi hy) ⟨_, h.s⟩ (FrS.of_below b)
end Go.Proofs.YtonnlgpjobfnmaaDoor

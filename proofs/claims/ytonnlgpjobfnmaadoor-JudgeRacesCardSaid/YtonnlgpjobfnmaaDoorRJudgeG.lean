/- judge.ahead. Conditions: the thread's number. -/
import Derived.Test.YtonnlgpjobfnmaaDoorRJudgeF
namespace Go.Proofs.YtonnlgpjobfnmaaDoor
open Go.RowKit
set_option maxRecDepth 100000

theorem ahead_any (t : Nat) (ht : t < 64) (c d : Clk) (w : World) : Calls Tryd.prog 65 #[.int .i64 t, .agg (clkL c).toArray, .agg (clkL d).toArray] w fun e w' => e = .returned (.bool (decide (c t ≤ d t))) ∧ Below w.heap.size w w' := by
  have c1 : ((w.alloc (.cells (clkL c).toArray 109)).alloc (.cells (clkL d).toArray 109)).cell? ⟨w.heap.size, t, none⟩ = some (.int .i64 (c t)) := by
    rw [((Blk.new w _ _).alloc _).cell, clkA_at c t ht]
  have c2 : ((w.alloc (.cells (clkL c).toArray 109)).alloc (.cells (clkL d).toArray 109)).cell? ⟨w.heap.size + 1, t, none⟩ = some (.int .i64 (d t)) := by
    rw [(Blk.new' _ _ _ _ (by simp)).cell, clkA_at d t ht]
  have ht2 : (t : Int) < 64 := by omega
  have hb : Below w.heap.size w ((w.alloc (.cells (clkL c).toArray 109)).alloc (.cells (clkL d).toArray 109)) := (((Below.refl _ _).alloc (Nat.le_refl _) _).alloc (by simp) _)
  have HB := Lib.hid hb
  clear hb
  go_enter Tryd.func65, Tryd.ntmps65
  go_wp2_with fail
  generalize ((w.alloc (.cells (clkL c).toArray 109)).alloc (.cells (clkL d).toArray 109)) = w1 at *
  go_quiet (fail)
  go_wp2_with fail
  go_ret
  exact ⟨rfl, HB.out.os, HB.out.tape, HB.out.output, HB.out.size, HB.out.block⟩
theorem flat_at {cs : List Clk} {i : Nat} {c : Clk} (h : cs[i]? = some c) {j : Nat} (hj : j < 64) : (flat cs)[i * 64 + j]? = some (.int .i64 (c j)) := by
  induction cs generalizing i with
  | nil => simp at h
  | cons x cs ih =>
    have e : flat (x :: cs) = clkL x ++ flat cs := by simp [flat]
    rw [e]
    cases i with
    | zero =>
      simp only [List.getElem?_cons_zero, Option.some.injEq] at h
      subst h
      rw [Nat.zero_mul, Nat.zero_add, List.getElem?_append_left (by rw [clkL_len]; exact hj), clkL_at x j hj]
    | succ i =>
      simp only [List.getElem?_cons_succ] at h
      rw [List.getElem?_append_right (by rw [clkL_len]; omega), clkL_len, show (i + 1) * 64 + j - 64 = i * 64 + j by omega]
      exact ih h
theorem own_range {w : World} {base n O cap : Nat} {cs : List Clk} (h : w.ownsRow base 109 64 (.slice (some ⟨O, 0, none⟩) n cap) n (flat cs)) (hn : cs.length = n) {i : Nat} {c : Clk} (hc : cs[i]? = some c) : w.rangeAt O (i * 64) (clkL c) :=
  clkL_cells fun j hj => by
    have hi : i < cs.length := (List.getElem?_eq_some_iff.1 hc).1
    rw [h.cellAt (i * 64 + j) (by omega), flat_at hc hj]
theorem clocksOf_len (L : List Acc) : (clocksOf L).length = L.length := cksAll_length _ _
def clkAt (L : List Acc) (i : Nat) : Clk := ((clocksOf L)[i]?).getD czero
theorem clkAt_of {L : List Acc} {i : Nat} (h : i < L.length) : (clocksOf L)[i]? = some (clkAt L i) := by
  unfold clkAt
  rw [List.getElem?_eq_getElem (by rw [clocksOf_len]; exact h)]
  rfl
def thAt (L : List Acc) (i : Nat) : Nat := ((L[i]?).getD default).th.toNat
/-- Is the entry at i ahead of the one at j? -/
def aheadB (L : List Acc) (i j : Nat) : Bool := decide (i ≠ j ∧ clkAt L i (thAt L i) ≤ clkAt L j (thAt L i))
def aheadAns (L : List Acc) (a b : Int) : Value :=
  if mayLog L = false then .tuple #[.bool false, .int .i64 31]
  else if 0 ≤ a ∧ a < L.length ∧ 0 ≤ b ∧ b < L.length then .tuple #[.bool (aheadB L a.toNat b.toNat), .int .i64 0] else .tuple #[.bool false, .int .i64 1]
def AheadPost (L : List Acc) (a b : Int) (w : World) (e : Ending) (w' : World) : Prop := e = .returned (aheadAns L a b) ∧ Below w.heap.size w w'
theorem th_lt {L : List Acc} (hm : mayLog L = true) {i : Nat} {a : Acc} (ha : L[i]? = some a) : ∃ t : Nat, a.th = t ∧ t < 64 ∧ thAt L i = t := by
  have h := (may_cases (List.all_eq_true.1 hm a (List.mem_of_getElem? ha))).1
  obtain ⟨t, ht⟩ := Int.eq_ofNat_of_zero_le h.1
  exact ⟨t, ht, by omega, by unfold thAt; rw [ha]; show a.th.toNat = t; rw [ht]; rfl⟩
theorem wpStill_skip {P : Program} {ops : Array Oper} {w : World} {Q : Act → Prop} {a : Act} {op : Oper} {rest : List Oper} (hw : Region.wanted op (yielded ops a.tmps) = false) (h : wpStill P ops w Q rest (a.put op.dst undef)) : wpStill P ops w Q (op :: rest) a := by
  unfold wpStill
  rw [if_neg (by rw [hw]; simp)]
  exact h
theorem ahead_no {L : List Acc} {a b : Int} (h : mayLog L = false) : Ending.returned (.tuple #[.bool false, .int .i64 31]) = .returned (aheadAns L a b) := by unfold aheadAns; rw [if_pos h]
theorem ahead_out {L : List Acc} {a b : Int} (h : mayLog L = true) (hr : ¬ (0 ≤ a ∧ a < L.length ∧ 0 ≤ b ∧ b < L.length)) : Ending.returned (.tuple #[.bool false, .int .i64 1]) = .returned (aheadAns L a b) := by unfold aheadAns; rw [if_neg (by rw [h]; simp), if_neg hr]
theorem ahead_in {L : List Acc} {i j : Nat} {x : Bool} (h : mayLog L = true) (h1 : i < L.length) (h2 : j < L.length) (hx : x = aheadB L i j) : Ending.returned (.tuple #[.bool x, .int .i64 0]) = .returned (aheadAns L i j) := by
  unfold aheadAns
  rw [if_neg (by rw [h]; simp), if_pos (by omega), hx]
  rfl
theorem ret2 {x y x' y' : Value} (h1 : x = x') (h2 : y = y') : Ending.returned (.tuple #[x, y]) = .returned (.tuple #[x', y']) := by rw [h1, h2]
set_option maxHeartbeats 4000000 in
theorem ahead2 (b : Option Addr) (cap : Nat) (L : List Acc) (i j : Int) (w : World) (h : LogAt w w.heap.size b L) (hl : L.length ≤ 2048) :
    Calls Tryd.prog 23 #[.slice b L.length cap, .int .i64 i, .int .i64 j] w (AheadPost L i j w) := by
  have H := Lib.hid h
  clear h
  cases hm : mayLog L with
  | false =>
    have HM := Lib.hid hm
    clear hm
    go_enter Tryd.func23, Tryd.ntmps23
    go_wp2_with fail
    refine (may_any b cap L _ H.out).mono ?_
    rintro e w1 ⟨rfl, hb⟩
    have HB := Lib.hid hb
    clear hb
    unfold mayAns
    rw [if_neg (by rw [HM.out]; simp)]
    go_wp2_with fail
    go_ret2
    exact ⟨ahead_no HM.out, HB.out⟩
  | true =>
    have HM := Lib.hid hm
    clear hm
    go_enter Tryd.func23, Tryd.ntmps23
    go_wp2_with fail
    refine (may_any b cap L _ H.out).mono ?_
    rintro e w1 ⟨rfl, hb⟩
    have HB := Lib.hid hb
    clear hb
    unfold mayAns
    rw [if_pos HM.out]
    by_cases hr : 0 ≤ i ∧ i < L.length ∧ 0 ≤ j ∧ j < L.length
    · obtain ⟨r1, r2, r3, r4⟩ := hr
      obtain ⟨i, rfl⟩ := Int.eq_ofNat_of_zero_le r1
      obtain ⟨j, rfl⟩ := Int.eq_ofNat_of_zero_le r3
      clear r1 r3
      have x1 : decide (L.length ≤ i) = false := by simp; omega
      have x2 : decide (L.length ≤ j) = false := by simp; omega
      go_wp2_with fail
      refine (clocks_any b cap L _ ((H.out.of HB.out).mono HB.out.size) HM.out hl).mono ?_
      rintro e w2 ⟨v, rfl, hb2, ho2⟩
      obtain ⟨O, cap2, rfl, _, _⟩ := ho2.form (by omega)
      have HB2 := Lib.hid (HB.out.trans (hb2.mono HB.out.size))
      obtain ⟨ai, hai⟩ : ∃ ai, L[i]? = some ai := ⟨L[i]'(by omega), List.getElem?_eq_getElem (by omega)⟩
      obtain ⟨t, ht, ht64, hth⟩ := th_lt HM.out hai
      obtain ⟨g, off, rfl, hg, hA⟩ := (H.out.of HB2.out).at_ i ai hai
      have h0 := hA.1
      rw [ht] at h0
      have R1 := Lib.hid (own_range ho2 (clocksOf_len L) (clkAt_of (i := i) (by omega)))
      have R2 := Lib.hid (own_range ho2 (clocksOf_len L) (clkAt_of (i := j) (by omega)))
      have HTH := Lib.hid hth
      clear hb2 ho2 hA hai ht hth hg
      have hi1 : Hid ((Tryd.prog.info? 109).map (·.size) = some (clkL (clkAt L i)).length) := Lib.hid (by rw [clkL_len]; exact info109)
      have hi2 : Hid ((Tryd.prog.info? 109).map (·.size) = some (clkL (clkAt L j)).length) := Lib.hid (by rw [clkL_len]; exact info109)
      by_cases hij : i = j
      · subst hij
        go_wp2_with fail
        go_quiet (fail)
        go_wp2_with fail
        go_ret2
        exact ⟨ahead_in HM.out (by omega) (by omega) (by simp [aheadB]), HB2.out.os, HB2.out.tape, HB2.out.output, HB2.out.size, HB2.out.block⟩
      · have hne : ((i : Int) != j) = true := by simp; omega
        go_wp2_with fail
        refine wp_region_still_tail 17 (by kernel_rfl) (by kernel_rfl) ?_
        simp only [List.take_succ_cons, List.take_zero, List.drop_succ_cons, List.drop_zero]
        iterate 12 still_step
        refine wpStill_load_mid' rfl _ _ rfl O (i * 64) rfl (clkL (clkAt L i)) _ R1.out Tryd.underlying109 rfl hi1.out ?_
        iterate 3 still_step
        refine wpStill_load_mid' rfl _ _ rfl O (j * 64) rfl (clkL (clkAt L j)) _ R2.out Tryd.underlying109 rfl hi2.out ?_
        refine wpStill_nil ?_
        change wpList _ _ _ _ _ w2.drew
        go_wp2_with (go_at_call 65; refine (ahead_any t ht64 _ _ _).mono ?_; rintro e w3 ⟨rfl, hb3⟩; have HB3 := Lib.hid hb3; clear hb3)
        go_ret2
        exact ⟨ahead_in HM.out (by omega) (by omega) (by unfold aheadB; rw [HTH.out]; simp [hij]), HB2.out.drew.trans (HB3.out.mono HB2.out.size)⟩
    · go_wp2_with fail
      all_goals
        go_ret2
        exact ⟨ahead_out HM.out hr, HB.out⟩
end Go.Proofs.YtonnlgpjobfnmaaDoor

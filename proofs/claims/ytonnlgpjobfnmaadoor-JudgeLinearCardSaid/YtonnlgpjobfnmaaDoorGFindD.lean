/- Joined of the texts FindB, FindC, FindD; what each proves, and its conditions, stand ahead of it. -/
import Derived.Test.YtonnlgpjobfnmaaDoorGFindA
import Derived.Test.YtonnlgpjobfnmaaDoorGJudgeY
import Derived.Deep.RegionLawGrows
import Derived.BigQuiet
/- The law JudgeFinds' begin, tidy and CopyCalls. Conditions: what the slice's cells hold. -/
namespace Go.Proofs.YtonnlgpjobfnmaaDoor
open Go.RowKit
set_option maxRecDepth 100000
/-- A list of numbers in a block of the call's own, at any place in it. -/
def OwnTh (w : World) (base : Nat) (v : Value) (hs : List Int) : Prop :=
  (∀ x, x ∈ hs → i64of x) ∧ ((v = .slice none 0 0 ∧ hs = []) ∨ ∃ g off cap cs, v = .slice (some ⟨g, off, none⟩) hs.length cap ∧ base ≤ g ∧ w.heap[g]? = some (.cells cs 2 (0, 0)) ∧ hs.length ≤ cap ∧ cap ≤ maxLen ∧ off + cap ≤ cs.size ∧ ∀ i x, hs[i]? = some x → cs[off + i]? = some (.int .i64 x))
theorem OwnTh.kept {w w' : World} {base : Nat} {v : Value} {hs : List Int} {S : Nat → Prop} (h : OwnTh w base v hs) (k : Kept S w w') (hS : ∀ g cs, w.heap[g]? = some (.cells cs 2 (0, 0)) → base ≤ g → ¬ S g) : OwnTh w' base v hs := by
  obtain ⟨h1, h2 | ⟨g, off, cap, cs, hv, hb, hc, h3, h4, h5, h6⟩⟩ := h
  · exact ⟨h1, .inl h2⟩
  · exact ⟨h1, .inr ⟨g, off, cap, cs, hv, hb, (k.block g (Array.getElem?_eq_some_iff.1 hc).1 (hS g cs hc hb)).trans hc, h3, h4, h5, h6⟩⟩
def BeginPost (k : Int) (w : World) (e : Ending) (w' : World) : Prop := ∃ v, e = .returned v ∧ OwnTh w' w.heap.size v (begins k) ∧ Below w.heap.size w w'
set_option maxHeartbeats 400000 in
theorem begin_any (k : Int) (hk : 1 ≤ k ∧ k ≤ 4) (w : World) : Calls Tryd.prog 19 #[.int .i64 k] w (BeginPost k w) := by
  have HK := Lib.hid hk
  have hcase : (k = 1 ∨ k = 2) ∨ ((k == 1) = false ∧ (k == 2) = false) := by simp; omega
  clear hk
  rcases hcase with hc | ⟨h1, h2⟩
  · have hb : begins k = [] := by unfold begins; rw [if_pos (by omega)]
    rcases hc with rfl | rfl
    all_goals
      go_enter Tryd.func19, Tryd.ntmps19
      go_wp2_with fail
      go_ret
      exact ⟨_, rfl, by rw [hb]; exact ⟨by simp, .inl ⟨rfl, rfl⟩⟩, Below.refl _ _⟩
  · have hb : begins k = [0] := by
      have := HK.out
      simp only [beq_eq_false_iff_ne, ne_eq] at h1 h2
      unfold begins; rw [if_neg (by omega)]
    go_enter Tryd.func19, Tryd.ntmps19
    go_wp2_with fail
    go_ret
    refine ⟨_, rfl, ?_, one_below' _⟩
    rw [hb]
    refine ⟨by simp [i64of], .inr ⟨w.heap.size, 0, 1, #[.int .i64 0], rfl, Nat.le_refl _, heap_alloc_new w _, Nat.le_refl _, by unfold maxLen; omega, Nat.le_refl _, fun i x hx => ?_⟩⟩
    cases i with
    | zero =>
      simp only [List.getElem?_cons_zero, Option.some.injEq] at hx
      subst hx
      rfl
    | succ i => simp at hx
theorem call_cells {w : World} {B : Nat} {ad : Addr} {L : List Cal} (h : CallsAt w B (some ad) L) (j : Nat) (u : Value) (hu : (L.flatMap calL)[j]? = some u) : w.cell? (ad.add j) = some u := by
  have hj : j < L.length * 7 := by rw [← flatMap_len calL_len]; exact (List.getElem?_eq_some_iff.1 hu).1
  obtain ⟨i, k, rfl, hk⟩ : ∃ i k, j = i * 7 + k ∧ k < 7 := ⟨j / 7, j % 7, by omega, by omega⟩
  obtain ⟨a, ha⟩ : ∃ a, L[i]? = some a := ⟨L[i]'(by omega), List.getElem?_eq_getElem (by omega)⟩
  rw [flatMap_at calL_len L i k a ha hk] at hu
  obtain ⟨g, off, e, _, hA⟩ := h.at_ i a ha
  injection e with e
  subst e
  have hadd : (⟨g, off, none⟩ : Addr).add (i * 7 + k) = ⟨g, off + i * 7 + k, none⟩ := by simp [Addr.add, Nat.add_assoc]
  rw [hadd]
  obtain ⟨h0, h1, h2, h3, h4, h5, h6⟩ := hA
  match k, hk, hu with
  | 0, _, hu => rw [← hu]; exact h0
  | 1, _, hu => rw [← hu]; exact h1
  | 2, _, hu => rw [← hu]; exact h2
  | 3, _, hu => rw [← hu]; exact h3
  | 4, _, hu => rw [← hu]; exact h4
  | 5, _, hu => rw [← hu]; exact h5
  | 6, _, hu => rw [← hu]; exact h6
theorem infoCal : (Tryd.prog.info? 58).map (fun i => (i.zero, i.size, i.bytes)) = some (some (.agg #[.int .i8 0, .int .i64 0, .int .i64 0, .int .i64 0, .bool false, .int .i64 0, .int .i64 0]), 7, 56) := by kernel_rfl
theorem cals_own {w : World} {base n : Nat} {v : Value} {L : List Cal} (h : w.ownsRow base 58 7 v n (L.flatMap calL)) (hn : n = L.length) (hwf : ∀ a, a ∈ L → a.wf) : ∃ b cap, v = .slice b L.length cap ∧ L.length ≤ cap ∧ CallsAt w w.heap.size b L ∧ ∀ g off, b = some ⟨g, off, none⟩ → base ≤ g ∧ g < w.heap.size := by
  subst hn
  have h0 := h
  obtain ⟨_, ⟨rfl, h2⟩ | ⟨g, cap, cur, rfl, hb, hc, hk, _⟩⟩ := h
  · refine ⟨none, 0, by rw [h2], by omega, ⟨hwf, fun i a ha => ?_⟩, fun g off e => by cases e⟩
    have : L = [] := List.eq_nil_of_length_eq_zero h2
    subst this
    simp at ha
  · refine ⟨_, cap, rfl, hk, callsAt_row (fun j u hu => by rw [h0.cellAt j (by rw [← flatMap_len calL_len]; exact (List.getElem?_eq_some_iff.1 hu).1), hu]) (Array.getElem?_eq_some_iff.1 hc).1 hwf, fun g' off' e => ?_⟩
    injection e with e
    injection e with e
    subst e
    exact ⟨hb, (Array.getElem?_eq_some_iff.1 hc).1⟩
theorem cal_one (L : List Cal) : ∀ u ∈ L.flatMap calL, u.oneCell' = true := by
  intro u hu
  obtain ⟨a, _, hu⟩ := List.mem_flatMap.1 hu
  simp only [calL, List.mem_cons, List.not_mem_nil, or_false] at hu
  rcases hu with rfl | rfl | rfl | rfl | rfl | rfl | rfl <;> rfl
def CopyCPost (L : List Cal) (w : World) (e : Ending) (w' : World) : Prop := ∃ b cap, e = .returned (.slice b L.length cap) ∧ L.length ≤ cap ∧ CallsAt w' w'.heap.size b L ∧ (∀ g off, b = some ⟨g, off, none⟩ → w.heap.size ≤ g ∧ g < w'.heap.size) ∧ Below w.heap.size w w'
set_option maxHeartbeats 1000000 in
theorem copyC_any (b : Option Addr) (cap : Nat) (L : List Cal) (hl : L.length ≤ 1000000) (w : World) (h : CallsAt w w.heap.size b L) : Calls Tryd.prog 22 #[.slice b L.length cap] w (CopyCPost L w) := by
  obtain ⟨j0, hj0, hjz0, hjz1, hjz2⟩ := info_parts infoCal
  have H := Lib.hid h
  have hwf := Lib.hid h.wf
  clear h
  cases b with
  | some ad =>
    go_enter Tryd.func22, Tryd.ntmps22
    go_wp2_with (at_builtin; refine wpList_append_own _ rfl _ _ 22 rfl w.heap.size 58 j0 _ 7 56 Tryd.underlying22 hj0 hjz0 hjz1 hjz2 rfl (by decide) (.slice none 0 0) 0 [] rfl (World.ownsRow_nil _ _ _ _) ad L.length cap (L.flatMap calL) rfl (flatMap_len calL_len L) (call_cells H.out) (cal_one L) (by unfold maxLen; omega) (by omega) (Nat.le_refl _) ?_; intro v1 w1 hown1 hgrow1 _; have HO := Lib.hid hown1; have HG := Lib.hid hgrow1; clear hown1 hgrow1)
    go_ret
    obtain ⟨b', cap', e, hc, hL, hb⟩ := cals_own (L := L) (by have h := HO.out; simpa using h) rfl hwf.out
    exact ⟨b', cap', by rw [e]; rfl, hc, hL, hb, HG.out.os, HG.out.tape, HG.out.output, HG.out.size, fun q hq => HG.out.block q hq (by simp [Value.ownBlock])⟩
  | none =>
    have hL : L = [] := by
      cases L with
      | nil => rfl
      | cons a L =>
        obtain ⟨g, off, e, _⟩ := H.out.at_ 0 a rfl
        cases e
    subst hL
    go_enter Tryd.func22, Tryd.ntmps22
    go_wp2_with fail
    go_ret
    exact ⟨none, 0, rfl, Nat.le_refl _, ⟨(fun a ha => by cases ha), (fun i a ha => by simp at ha)⟩, (fun g off e => by cases e), Below.refl _ _⟩
end Go.Proofs.YtonnlgpjobfnmaaDoor
/- An append in place onto a list of numbers in a block of the call's own. Conditions: what the slice's cells hold. -/
namespace Go.Proofs.YtonnlgpjobfnmaaDoor
open Go.RowKit
set_option maxRecDepth 100000
/-- The block that a list of numbers lies in. -/
def Own1 (v : Value) (q : Nat) : Prop := ∃ off n cap, v = .slice (some ⟨q, off, none⟩) n cap
theorem OwnTh.own1 {w : World} {base : Nat} {v : Value} {hs : List Int} (h : OwnTh w base v hs) {q : Nat} (hq : Own1 v q) : base ≤ q ∧ ∃ cs, Blk w q 2 cs := by
  obtain ⟨off, n, cap, rfl⟩ := hq
  obtain ⟨_, ⟨h2, _⟩ | ⟨g, off', cap', cs, hv, hb, hc, _⟩⟩ := h
  · cases h2
  · injection hv with hv
    injection hv with hv
    injection hv with hv
    subst hv
    exact ⟨hb, cs, hc⟩
theorem OwnTh.new {w : World} {base : Nat} {v : Value} {hs : List Int} (h : OwnTh w base v hs) {q : Nat} (hq : w.heap.size ≤ q) : ¬ Own1 v q := fun h1 => by
  obtain ⟨_, cs, hc⟩ := h.own1 h1
  have := hc.lt
  omega
theorem OwnTh.of_row {w : World} {b base : Nat} {v : Value} {hs : List Int} {n : Nat} {xs : List Value} (h : w.ownsRow b 2 1 v n xs) (hb : base ≤ b) (hx : xs = hs.map (Value.int .i64)) (hw : ∀ x, x ∈ hs → i64of x) : OwnTh w base v hs := by
  subst hx
  obtain ⟨h1, ⟨rfl, h2⟩ | ⟨g, cap, cur, hv, hb', hg, hc, hm, hs', ht⟩⟩ := h
  · refine ⟨hw, .inl ⟨rfl, ?_⟩⟩
    simp only [List.length_map] at h1
    exact List.eq_nil_of_length_eq_zero (by omega)
  · have hn : n = hs.length := by simpa using h1.symm
    subst hn
    refine ⟨hw, .inr ⟨g, 0, cap, cur, hv, Nat.le_trans hb hb', hg, hc, hm, by omega, fun i x hx => ?_⟩⟩
    have hi := (List.getElem?_eq_some_iff.1 hx).1
    have e : (cur.toList.take (hs.length * 1))[i]? = some (.int .i64 x) := by rw [ht, List.getElem?_map, hx]; rfl
    rw [List.getElem?_take_of_lt (by omega), Array.getElem?_toList] at e
    rw [Nat.zero_add]
    exact e
theorem OwnTh.snoc {w : World} {base g off cap : Nat} {cs : Array Value} {hs : List Int} {x : Int} (hw : ∀ y, y ∈ hs ++ [x] → i64of y) (hb : base ≤ g) (hg : Blk w g 2 cs) (hc : hs.length + 1 ≤ cap) (hm : cap ≤ maxLen) (hs' : off + cap ≤ cs.size) (h : ∀ i y, hs[i]? = some y → cs[off + i]? = some (.int .i64 y)) :
    OwnTh (w.setCell ⟨g, off + hs.length, none⟩ (.int .i64 x)) base (.slice (some ⟨g, off, none⟩) (hs.length + 1) cap) (hs ++ [x]) := by
  refine ⟨hw, .inr ⟨g, off, cap, cs.setIfInBounds (off + hs.length) (.int .i64 x), by simp, hb, hg.set_ _ _, by simpa using hc, hm, by simpa using hs', fun i y hy => ?_⟩⟩
  by_cases hi : i < hs.length
  · rw [List.getElem?_append_left hi] at hy
    rw [Array.getElem?_setIfInBounds_ne (by omega)]
    exact h i y hy
  · have hi2 : i = hs.length := by have := (List.getElem?_eq_some_iff.1 hy).1; simp at this; omega
    subst hi2
    simp only [List.getElem?_append_right (Nat.le_refl _), Nat.sub_self, List.getElem?_cons_zero, Option.some.injEq] at hy
    subst hy
    rw [Array.getElem?_setIfInBounds_self_of_lt (by omega)]
theorem own_put {w : World} {base : Nat} {v : Value} {hs : List Int} (h : OwnTh w base v hs) (hb : base ≤ w.heap.size) (hl : hs.length ≤ 1000000) (ad : Addr) (c : Nat) (x : Int) (hx : w.cell? ad = some (.int .i64 x)) (hi : i64of x) (ty : TypeId) :
    ∃ g off cap w', (Builtin.append_ #[54, 54] ty #[v, .slice (some ad) 1 c]).run Tryd.prog w = .ok (.slice (some ⟨g, off, none⟩) (hs.length + 1) cap) w' ∧ OwnTh w' base (.slice (some ⟨g, off, none⟩) (hs.length + 1) cap) (hs ++ [x]) ∧ Kept (Own1 v) w w' := by
  obtain ⟨i0, hi0, hz0, hz1, hz2⟩ := info_parts infoNum
  have hcells : ∀ j u, [Value.int .i64 x][j]? = some u → w.cell? (ad.add j) = some u := by
    intro j u hu
    match j, hu with
    | 0, hu =>
      simp only [List.getElem?_cons_zero, Option.some.injEq] at hu
      subst hu
      exact hx
  have hone : ∀ u ∈ [Value.int .i64 x], u.oneCell' = true := by simp [Value.oneCell']
  obtain ⟨hw, h2⟩ := h
  have hw' : ∀ y, y ∈ hs ++ [x] → i64of y := by
    intro y hy
    rcases List.mem_append.1 hy with hy | hy
    · exact hw y hy
    · rw [List.mem_singleton.1 hy]; exact hi
  obtain ⟨rfl, rfl⟩ | ⟨g, off, cap, cs, rfl, hbg, hg, hc, hm, hsz, hcs⟩ := h2
  · obtain ⟨v', w', hrun, r1, r2, _⟩ := run_append_own (P := Tryd.prog) w w.heap.size 54 ty 2 i0 (.int .i64 0) 1 8 Tryd.underlying54 hi0 hz0 hz1 hz2 rfl (by decide) (.slice none 0 0) 0 [] (World.ownsRow_nil w _ _ 1) ad 1 c [.int .i64 x] rfl hcells hone (by unfold maxLen; omega) (by omega) (Nat.le_refl _)
    obtain ⟨g, cap, rfl, _⟩ := r1.form (by omega)
    exact ⟨g, 0, cap, w', hrun, OwnTh.of_row r1 hb rfl hw', ⟨r2.os, r2.tape, r2.output, r2.size, fun q hq _ => r2.block q hq (by simp [Value.ownBlock])⟩⟩
  · by_cases hr : hs.length + 1 ≤ cap
    · have hlt : off + hs.length < cs.size := by omega
      have hB : Blk w g 2 cs := hg
      have hrun := run_append_room_cells (P := Tryd.prog) w 54 ty 2 i0 Tryd.underlying54 hi0 g off hs.length cap ad 1 c [.int .i64 x] (by rw [hz1]; rfl) hcells hone hr
        (fun j hj => by
          have : j = 0 := by simpa using hj
          subst this
          rw [hz1, Nat.mul_one, Nat.add_zero, hB.cell, Array.getElem?_eq_getElem hlt]
          rfl) (fun j hj => hB.frozen _)
      have e : w.setCells g (off + hs.length * i0.size) [.int .i64 x] = w.setCell ⟨g, off + hs.length, none⟩ (.int .i64 x) := by rw [hz1, Nat.mul_one]; rfl
      rw [e] at hrun
      exact ⟨g, off, cap, _, hrun, OwnTh.snoc hw' hbg hB hr hm hsz hcs, (Kept.refl _ w).set ⟨off, hs.length, cap, rfl⟩ _⟩
    · obtain ⟨v', w', hrun, r1, r2⟩ := run_append_arg_grows (P := Tryd.prog) w 54 ty 2 i0 (.int .i64 0) 1 8 Tryd.underlying54 hi0 hz0 hz1 hz2 rfl (by decide) ⟨g, off, none⟩ hs.length cap (hs.map (Value.int .i64)) (by simp)
        (fun j u hu => by
          rw [List.getElem?_map] at hu
          cases hy : hs[j]? with
          | none => rw [hy] at hu; cases hu
          | some y =>
            rw [hy] at hu
            injection hu with hu
            subst hu
            rw [Addr.add_lit, Blk.cell hg]
            exact hcs j y hy) ad 1 c [.int .i64 x] rfl hcells (by omega) (by unfold maxLen; omega) (by omega)
      obtain ⟨g', cap', rfl, _⟩ := r1.form (by omega)
      exact ⟨g', 0, cap', w', hrun, OwnTh.of_row r1 hb (by simp) hw', ⟨r2.os, r2.tape, r2.output, r2.size, fun q hq _ => r2.block q hq (by simp)⟩⟩
/-- The append as a step of a region that draws its order. -/
theorem step_own_put {ops : Array Oper} {o : Oper} {a : Act} {w : World} {K : Act → World → Prop} {Q : Exit → Act → World → Prop} {E : Prop}
    (hg : o.guard = none) (s x : Operand) (hop : o.op = Op.call { callee := Callee.builtin Builtin.append, args := #[s, x], argTypes := #[54, 54] })
    {base : Nat} {v : Value} {hs : List Int} (h : OwnTh w base v hs) (hb : base ≤ w.heap.size) (hl : hs.length ≤ 1000000) (he : a.eval s = v) (ad : Addr) (c : Nat) (y : Int) (hx : a.eval x = .slice (some ad) 1 c) (hy : w.cell? ad = some (.int .i64 y)) (hi : i64of y)
    (hK : ∀ g off cap w', OwnTh w' base (.slice (some ⟨g, off, none⟩) (hs.length + 1) cap) (hs ++ [y]) → Kept (Own1 v) w w' → K (a.put o.dst (.slice (some ⟨g, off, none⟩) (hs.length + 1) cap)) w') :
    if Region.wanted o (yielded ops a.tmps) = true then Oper.wp Tryd.prog o a w K Q else E := by
  have hw : Region.wanted o (yielded ops a.tmps) = true := by simp [Region.wanted, hg]
  rw [if_pos hw]
  obtain ⟨g, off, cap, w', hrun, r1, r2⟩ := own_put h hb hl ad c y hy hi o.type
  unfold Oper.wp
  simp [execOp, hop, resolve, invoke, builtin, he, hx, hrun, Result.andThen]
  exact hK g off cap w' r1 r2
def PlainPost (base : Nat) (k : Int) (hs : List Int) (c : Cal) (v0 : Value) (w : World) (e : Ending) (w' : World) : Prop :=
  ∃ v, e = .returned (.tuple #[v, .agg (calA (doesF k hs c).2)]) ∧ OwnTh w' base v (doesF k hs c).1 ∧ Kept (Own1 v0) w w'
theorem plain_end {base : Nat} {k : Int} {hs : List Int} {c : Cal} {v0 : Value} {w0 w : World} {act : Act} (v : Value) (r : List Int) (c' : Cal) (fr : Nat × Nat) (h6 : act.tmps.getD 6 undef = v) (h7 : act.tmps.getD 7 undef = .pointer (some ⟨w0.heap.size + 1, 0, none⟩)) (hd : act.defers = [])
    (hb : w.heap[w0.heap.size + 1]? = some (.cells (calA c') 58 fr)) (hc : doesF k hs c = (r, c')) (ht : OwnTh w base v r) (hk : Kept (Own1 v0) w0 w) :
    bodyPost Tryd.prog Tryd.f21 (PlainPost base k hs c v0 w0) .ret act w := by
  refine bodyPost_ret (results_tmp_cell_row rfl act.tmps w (w0.heap.size + 1) 58 (calA c') fr _ h7 hb Tryd.underlying58 rfl infoCall) hd ?_
  rw [h6]
  exact ⟨v, by rw [hc], by rw [hc]; exact ht, hk⟩
theorem OwnTh.same {w w' : World} {base : Nat} {v : Value} {hs : List Int} (h : OwnTh w base v hs) (k : Kept (fun _ => False) w w') : OwnTh w' base v hs := h.kept k (fun _ _ _ _ => id)
theorem kept2 {S : Nat → Prop} (w : World) (o1 o2 : Obj) : Kept S w ((w.alloc o1).alloc o2).drew := (((Kept.refl S w).alloc o1).alloc o2).drew
theorem kept3 {S : Nat → Prop} (w : World) (o1 o2 o3 : Obj) : Kept S w (((w.alloc o1).alloc o2).alloc o3).drew := ((((Kept.refl S w).alloc o1).alloc o2).alloc o3).drew
theorem OwnTh.tail {w : World} {base : Nat} {g off cap : Nat} {x : Int} {r : List Int} (h : OwnTh w base (.slice (some ⟨g, off, none⟩) (r.length + 1) cap) (x :: r)) : OwnTh w base (.slice (some ⟨g, off + 1, none⟩) r.length (cap - 1)) r ∧ (∀ cap', cap' ≤ cap → r.length ≤ 0 → OwnTh w base (.slice (some ⟨g, off, none⟩) r.length cap') r) := by
  obtain ⟨hw, ⟨h2, _⟩ | ⟨g', off', cap', cs, hv, hb, hc, h3, h4, h5, h6⟩⟩ := h
  · cases h2
  · injection hv with hv _ hv2
    injection hv with hv
    injection hv with e1 e2
    subst e1 e2 hv2
    simp only [List.length_cons] at h3
    refine ⟨⟨fun y hy => hw y (by simp [hy]), .inr ⟨g, off + 1, cap - 1, cs, rfl, hb, hc, by omega, by omega, by omega, fun i y hy => ?_⟩⟩, fun cap' hcap' h0 => ⟨fun y hy => hw y (by simp [hy]), .inr ⟨g, off, cap', cs, rfl, hb, hc, by omega, by omega, by omega, fun i y hy => ?_⟩⟩⟩
    · have := h6 (i + 1) y (by simpa using hy)
      rw [← this]
      congr 1
      omega
    · have := (List.getElem?_eq_some_iff.1 hy).1
      omega
theorem OwnTh.init {w : World} {base : Nat} {v : Value} {cap : Nat} {x : Int} {r : List Int} {a : Option Addr} (h : OwnTh w base v (r ++ [x])) (e : v = .slice a (r.length + 1) cap) : OwnTh w base (.slice a r.length cap) r := by
  subst e
  obtain ⟨hw, ⟨h2, h0⟩ | ⟨g', off', cap', cs, hv, hb, hc, h3, h4, h5, h6⟩⟩ := h
  · simp at h0
  · injection hv with hv _ hv2
    subst hv hv2
    simp only [List.length_append, List.length_singleton] at h3
    exact ⟨fun y hy => hw y (by simp [hy]), .inr ⟨g', off', cap, cs, rfl, hb, hc, by omega, h4, h5, fun i y hy => h6 i y (by rw [List.getElem?_append_left (List.getElem?_eq_some_iff.1 hy).1]; exact hy)⟩⟩
/-- What the walk asks of the list of numbers. -/
theorem OwnTh.at_ {w : World} {base : Nat} {v : Value} {hs : List Int} (h : OwnTh w base v hs) (i : Nat) (x : Int) (hx : hs[i]? = some x) : ∃ g off cap, v = .slice (some ⟨g, off, none⟩) hs.length cap ∧ hs.length ≤ cap ∧ g < w.heap.size ∧ w.cell? ⟨g, off + i, none⟩ = some (.int .i64 x) := by
  obtain ⟨_, ⟨_, rfl⟩ | ⟨g, off, cap, cs, hv, _, hc, h3, _, _, h6⟩⟩ := h
  · simp at hx
  · exact ⟨g, off, cap, hv, h3, Blk.lt hc, by rw [Blk.cell hc]; exact h6 i x hx⟩
end Go.Proofs.YtonnlgpjobfnmaaDoor
/- The law JudgeFinds' plain: what a thing holds behind a call, and what is answered. Conditions: what the slice's cells hold. -/
namespace Go.Proofs.YtonnlgpjobfnmaaDoor
open Go.RowKit
set_option maxRecDepth 100000
set_option maxHeartbeats 4000000 in
theorem plain_none (base : Nat) (k : Int) (hk : k = 1 ∨ k = 2) (v : Value) (c : Cal) (ho : c.op ≠ 1) (w : World) (h : OwnTh w base v []) :
    Calls Tryd.prog 21 #[.int .i64 k, v, .agg (calA c)] w (PlainPost base k [] c v w) := by
  have hv : ∃ a cap, v = .slice a 0 cap := by
    obtain ⟨_, ⟨h2, _⟩ | ⟨g, off, cap, cs, hv, _⟩⟩ := h
    · exact ⟨_, _, h2⟩
    · exact ⟨_, _, hv⟩
  obtain ⟨a, cap, rfl⟩ := hv
  have H := Lib.hid h
  clear h
  unfold calA
  rcases hk with rfl | rfl
  all_goals
    go_enter Tryd.func21, Tryd.ntmps21
    go_wp2_with fail
  all_goals go_region
  all_goals go_wp2_with fail
  all_goals (try simp only [Exit.inBlock, Exit.then])
  all_goals refine plain_end (.slice a 0 cap) [] { c with ans := 0, ok := false } _ rfl rfl rfl (heap_alloc2_new _ _ _) ?_ (H.out.same (kept2 _ _ _)) (kept2 _ _ _)
  all_goals simp [doesF, ho]
set_option maxHeartbeats 4000000 in
theorem plain_first (base : Nat) (v : Value) (x : Int) (r : List Int) (c : Cal) (ho : c.op ≠ 1) (w : World) (hl : r.length ≤ 1000000) (h : OwnTh w base v (x :: r)) :
    Calls Tryd.prog 21 #[.int .i64 1, v, .agg (calA c)] w (PlainPost base 1 (x :: r) c v w) := by
  obtain ⟨g, off, cap, rfl, hc, hg, hA⟩ := h.at_ 0 x rfl
  simp only [List.length_cons] at hc ⊢
  have H := Lib.hid h.tail
  clear h
  rw [Nat.add_zero] at hA
  unfold calA
  go_enter Tryd.func21, Tryd.ntmps21
  go_wp2_with fail
  all_goals go_region
  all_goals go_wp2_with fail
  all_goals (try simp only [Exit.inBlock, Exit.then])
  all_goals refine plain_end _ r { c with ans := x, ok := true } _ rfl rfl rfl (heap_alloc2_new _ _ _) ?_ ?_ (kept2 _ _ _)
  all_goals first
    | (simp [doesF, ho]; done)
    | exact H.out.1.same (kept2 _ _ _)
    | exact (H.out.2 _ (by omega) (by omega)).same (kept2 _ _ _)
set_option maxHeartbeats 4000000 in
theorem plain_last (base : Nat) (v : Value) (x : Int) (r : List Int) (c : Cal) (ho : c.op ≠ 1) (w : World) (hl : r.length ≤ 1000000) (h : OwnTh w base v (r ++ [x])) :
    Calls Tryd.prog 21 #[.int .i64 2, v, .agg (calA c)] w (PlainPost base 2 (r ++ [x]) c v w) := by
  obtain ⟨g, off, cap, rfl, hc, hg, hA⟩ := h.at_ r.length x (by simp)
  simp only [List.length_append, List.length_singleton] at hc h ⊢
  have H := Lib.hid (h.init rfl)
  clear h
  unfold calA
  go_enter Tryd.func21, Tryd.ntmps21
  go_wp2_with fail
  all_goals go_region
  all_goals go_wp2_with fail
  all_goals (try simp only [Exit.inBlock, Exit.then])
  all_goals refine plain_end _ r { c with ans := x, ok := true } _ rfl rfl rfl (heap_alloc2_new _ _ _) (doesF_last ho) ?_ (kept2 _ _ _)
  all_goals exact H.out.same (kept2 _ _ _)
end Go.Proofs.YtonnlgpjobfnmaaDoor

/- The reference's Do: queues and stacks. Conditions: what the slice's cells hold. -/
import Derived.Test.YtonnlgpjobfnmaaDoorGLinH
import Derived.Test.YtonnlgpjobfnmaaDoorGLinD
namespace Go.Proofs.YtonnlgpjobfnmaaDoor
open Go.RowKit
set_option maxRecDepth 100000
def RDoPost (k : Int) (hs : List Int) (c : Cal) (w : World) (e : Ending) (w' : World) : Prop :=
  ∃ v, e = .returned (.tuple #[v, .int .i64 (doesF k hs c).2.ans, .bool (doesF k hs c).2.ok]) ∧ ThingAt w' v (doesF k hs c).1 ∧ Below w.heap.size w w'
theorem nums_cells {w : World} {B : Nat} {ad : Addr} {hs : List Int} (h : NumsAt w B (some ad) hs) (o : Obj) : ∀ j u, (hs.map (Value.int .i64))[j]? = some u → (w.alloc o).cell? (ad.add j) = some u := by
  intro j u hu
  rw [List.getElem?_map] at hu
  cases hx : hs[j]? with
  | none => rw [hx] at hu; cases hu
  | some x =>
    rw [hx] at hu
    injection hu with hu
    subst hu
    obtain ⟨g, off, e, _, ⟨cs, fr, ht⟩, hc⟩ := h.at_ j x hx
    injection e with e
    subst e
    rw [Addr.add_lit]
    have hg : g < w.heap.size := (Array.getElem?_eq_some_iff.1 ht).1
    rw [World.cell?_of_block (a := ⟨g, off + j, none⟩) (Below.heap_alloc w o g hg)]
    exact hc
theorem nums_one (hs : List Int) : ∀ u ∈ hs.map (Value.int .i64), u.oneCell' = true := by
  intro u hu
  obtain ⟨x, _, rfl⟩ := List.mem_map.1 hu
  rfl
theorem nums_none {w : World} {B : Nat} {hs : List Int} (h : NumsAt w B none hs) : hs = [] := by
  cases hs with
  | nil => rfl
  | cons x r =>
    obtain ⟨_, _, e, _⟩ := h.at_ 0 x rfl
    cases e
/-- A row of one's own reads as a list of numbers. -/
theorem row_nums {w : World} {base n : Nat} {g cap : Nat} {hs : List Int} (h : w.ownsRow base 2 1 (.slice (some ⟨g, 0, none⟩) n cap) n (hs.map (Value.int .i64))) (hw : ∀ x, x ∈ hs → i64of x) : NumsAt w w.heap.size (some ⟨g, 0, none⟩) hs := by
  refine ⟨hw, fun i x hx => ?_⟩
  obtain ⟨_, cs, hB⟩ : base ≤ g ∧ ∃ cs, Blk w g 2 cs := by
    rcases h.2 with ⟨e, _⟩ | ⟨g', cap', cur, e, hb, hg, _⟩
    · cases e
    · injection e with e
      injection e with e
      injection e with e
      subst e
      exact ⟨hb, cur, hg⟩
  have hl : n = hs.length := by have := h.1; simp at this; omega
  refine ⟨g, 0, rfl, hB.lt, ⟨cs, _, hB⟩, ?_⟩
  rw [Nat.zero_add, h.cellAt i (by have := (List.getElem?_eq_some_iff.1 hx).1; omega), List.getElem?_map, hx]
  rfl
theorem row_thing {w : World} {base n : Nat} {v : Value} {hs : List Int} (h : w.ownsRow base 2 1 v n (hs.map (Value.int .i64))) (hw : ∀ x, x ∈ hs → i64of x) : ThingAt w v hs := by
  have hl : n = hs.length := by have := h.1; simp at this; omega
  subst hl
  have h0 := h
  rcases h.2 with ⟨rfl, e⟩ | ⟨g, cap, cur, rfl, hb, hg, hc, _⟩
  · obtain rfl : hs = [] := List.eq_nil_of_length_eq_zero e
    exact ⟨none, 0, rfl, Nat.le_refl _, fun _ => rfl, ⟨fun _ h => (by cases h), fun _ _ h => (by cases h)⟩⟩
  · exact ⟨_, cap, rfl, hc, fun h => (by cases h), row_nums h0 hw⟩
theorem rdo_end {k : Int} {hs : List Int} {c : Cal} {w0 w : World} {act : Act} (v : Value) (r : List Int) (c' : Cal) (h6 : act.tmps.getD 6 undef = v) (h7 : act.tmps.getD 7 undef = .int .i64 c'.ans) (h8 : act.tmps.getD 8 undef = .bool c'.ok) (hd : act.defers = [])
    (hc : doesF k hs c = (r, c')) (ht : ThingAt w v r) (hk : Below w0.heap.size w0 w) : bodyPost Tryd.prog Tryd.f78 (RDoPost k hs c w0) .ret act w := by
  refine bodyPost_ret (v := .tuple #[act.tmps.getD 6 undef, act.tmps.getD 7 undef, act.tmps.getD 8 undef]) (by simp [results, Tryd.results78, go_sem]) hd ?_
  rw [h6, h7, h8]
  exact ⟨v, by rw [hc], by rw [hc]; exact ht, hk⟩
theorem drew_nums {w : World} {a : Option Addr} {hs : List Int} (h : NumsAt w w.heap.size a hs) : NumsAt w.drew w.drew.heap.size a hs := ⟨h.wf, h.at_⟩
/-- A copy of a list of numbers. -/
theorem wpList_copy {w : World} {ops : Array Oper} {rest : List Oper} {o : Oper} {act : Act} {Q : Exit → Act → World → Prop} (hgd : o.guard = none) (s x : Operand)
    (ho : o.op = .call { callee := .builtin .append, args := #[s, x], argTypes := #[54, 54] }) (hs : List Int) (w0 : World) (b : Obj) (hw : w = w0.alloc b) (a : Option Addr) (cap : Nat) (hnone : a = none → cap = 0) (hl : hs.length ≤ 1000000) (h : NumsAt w0 w0.heap.size a hs)
    (e1 : act.eval s = .slice none 0 0) (e2 : act.eval x = .slice a hs.length cap)
    (hK : ∀ v' w', w'.ownsRow w0.heap.size 2 1 v' hs.length (hs.map (Value.int .i64)) → w.grownBy w' none → wpList Tryd.prog ops Q rest (act.put o.dst v') w') : wpList Tryd.prog ops Q (o :: rest) act w := by
  obtain ⟨j0, hj, hjz, hjs, hjb⟩ := info_parts infoNum
  subst hw
  cases a with
  | some ad =>
    refine wpList_append_own _ hgd s x 54 ho w0.heap.size 2 j0 _ 1 8 Tryd.underlying54 hj hjz hjs hjb rfl (by decide) (.slice none 0 0) 0 [] e1 (World.ownsRow_nil _ _ _ _) ad hs.length cap (hs.map (Value.int .i64)) e2 (by simp) (nums_cells h _) (nums_one hs) (by unfold maxLen; omega) (by omega) (by simp) ?_
    intro v1 w1 h1 h2 _
    rw [Nat.zero_add, List.nil_append] at h1
    exact hK v1 w1 h1 h2
  | none =>
    obtain rfl := nums_none h
    obtain rfl := hnone rfl
    refine wpList_plain hgd fun K hK' => ?_
    unfold Oper.wp
    simp [execOp, ho, resolve, invoke, builtin, e1, e2, Builtin.append_, run_underlying Tryd.underlying54, sizeOf, typeInfo, hj, Builtin.lenOf, Builtin.firstCells, loadCells]
    exact hK' _ _ (hK _ _ (World.ownsRow_nil _ _ _ _) ⟨rfl, rfl, rfl, Nat.le_refl _, fun _ _ _ => rfl⟩)
/-- The world behind the copy. -/
structure Copied (w0 : World) (hs : List Int) (c : Cal) (v : Value) (w : World) : Prop where
  own : w.ownsRow w0.heap.size 2 1 v hs.length (hs.map (Value.int .i64))
  box : Blk w w0.heap.size 58 (calA c)
  below : Below w0.heap.size w0 w
theorem Copied.mk' {w0 w : World} {hs : List Int} {c : Cal} {v : Value} (h : w.ownsRow w0.heap.size 2 1 v hs.length (hs.map (Value.int .i64))) (g : (w0.alloc (.cells (calA c) 58)).grownBy w none) : Copied w0 hs c v w :=
  ⟨h, (g.block w0.heap.size (by simp) (by simp)).trans (heap_alloc_new _ _), ((Below.refl _ w0).alloc (Nat.le_refl _) _).trans ⟨g.os, g.tape, g.output, g.size, fun q hq => g.block q (by simp; omega) (by simp)⟩⟩
theorem rdo_below {w w1 w2 : World} {hs : List Int} {c : Cal} {v : Value} {o : Obj} (h : Copied w hs c v w1) (g : (w1.alloc o).grownBy w2 v.ownBlock) : Below w.heap.size w w2 := by
  have hz := g.size
  simp at hz
  have hz2 := h.below.size
  exact ⟨g.os.trans h.below.os, g.tape.trans h.below.tape, g.output.trans h.below.output, by omega, fun q hq => ((g.block q (by simp; omega) fun e => by have := (h.own.lt q e.symm).1; omega).trans (Below.heap_alloc w1 o q (by omega))).trans (h.below.block q hq)⟩
set_option maxHeartbeats 1600000 in
theorem rdo_put (k : Int) (hk : k = 1 ∨ k = 2) (v : Value) (hs : List Int) (c : Cal) (ho : c.op = 1) (hwf : c.wf) (w : World) (hl : hs.length ≤ 1000000) (h : ThingAt w v hs) :
    Calls Tryd.prog 78 #[.int .i64 k, v, .agg (calA c)] w (RDoPost k hs c w) := by
  obtain ⟨a, cap, rfl, hcap, hnone, hN⟩ := h
  obtain ⟨j0, hj, hjz, hjs, hjb⟩ := info_parts infoNum
  have H := Lib.hid hN
  have HN := Lib.hid hnone
  obtain ⟨op, arg, new, ans, ok, beg, fin⟩ := c
  simp only at ho
  subst ho
  have HWF : Hid (∀ x, x ∈ hs ++ [arg] → i64of x) := Lib.hid fun x hx => by
    rcases List.mem_append.1 hx with hx | hx
    · exact H.out.wf x hx
    · rw [List.mem_singleton.1 hx]; exact hwf.2.1
  have hdo : doesF k hs ⟨1, arg, new, ans, ok, beg, fin⟩ = (hs ++ [arg], ⟨1, arg, new, 0, false, beg, fin⟩) := by
    unfold doesF
    rw [if_pos (by omega)]
    rfl
  have HDO := Lib.hid hdo
  clear hN hwf hdo hnone
  unfold calA
  rcases hk with rfl | rfl
  all_goals
    go_enter Tryd.func78, Tryd.ntmps78
    go_upto_region 3 with (at_builtin; refine wpList_copy rfl _ _ rfl hs w _ rfl a cap HN.out hl H.out rfl rfl ?_; intro v1 w1 h1 h2; have HC : Hid (Copied w hs ⟨1, arg, new, ans, ok, beg, fin⟩ v1 w1) := Lib.hid (Copied.mk' h1 h2); clear h1 h2)
    have p0 : w1.cell? ⟨w.heap.size, 0, none⟩ = some (.int .i8 1) := HC.out.box.cell 0
    have p1 : w1.cell? ⟨w.heap.size, 1, none⟩ = some (.int .i64 arg) := HC.out.box.cell 1
    have HO := Lib.hid (HC.out.own.alloc (.cells #[.int .i64 arg] 2))
    have hz : w.heap.size ≤ w1.heap.size := HC.out.below.size
    go_wp2_with (at_builtin; refine wpList_append_own _ rfl _ _ 54 rfl w.heap.size 2 j0 _ 1 8 Tryd.underlying54 hj hjz hjs hjb rfl (by decide) _ hs.length (hs.map (Value.int .i64)) rfl HO.out ⟨w1.heap.size, 0, none⟩ 1 1 [.int .i64 arg] rfl rfl (World.news_of_block (heap_alloc_new _ _)) (by simp [Value.oneCell']) (by unfold maxLen; omega) (by omega) (by simp; omega) ?_; intro v2 w2 r1 r2 _; have R1 := Lib.hid r1; have R2 := Lib.hid r2; clear r1 r2)
    (try simp only [Exit.inBlock, Exit.then])
    refine rdo_end v2 (hs ++ [arg]) ⟨1, arg, new, 0, false, beg, fin⟩ rfl rfl rfl rfl HDO.out (row_thing (by have h := R1.out; simpa using h) HWF.out) (rdo_below HC.out R2.out)
set_option maxHeartbeats 1600000 in
theorem rdo_none (k : Int) (hk : k = 1 ∨ k = 2) (v : Value) (c : Cal) (ho : c.op ≠ 1) (w : World) (h : ThingAt w v []) :
    Calls Tryd.prog 78 #[.int .i64 k, v, .agg (calA c)] w (RDoPost k [] c w) := by
  obtain ⟨a, cap, rfl, hcap, hnone, hN⟩ := h
  have H := Lib.hid hN
  have HN := Lib.hid hnone
  obtain ⟨op, arg, new, ans, ok, beg, fin⟩ := c
  simp only at ho
  have hb : (op == 1) = false := by simpa using ho
  have hdo : doesF k [] ⟨op, arg, new, ans, ok, beg, fin⟩ = ([], ⟨op, arg, new, 0, false, beg, fin⟩) := by
    unfold doesF
    rw [if_pos (by omega), if_neg ho]
  have HDO := Lib.hid hdo
  clear hN hdo hnone
  unfold calA
  rcases hk with rfl | rfl
  all_goals
    go_enter Tryd.func78, Tryd.ntmps78
    go_upto_region 3 with (at_builtin; refine wpList_copy rfl _ _ rfl [] w _ rfl a cap HN.out (by simp) H.out rfl rfl ?_; intro v1 w1 h1 h2; have HC : Hid (Copied w [] ⟨op, arg, new, ans, ok, beg, fin⟩ v1 w1) := Lib.hid (Copied.mk' h1 h2); obtain ⟨a1, cap1, rfl⟩ := row_shp h1; clear h1 h2)
    have p0 : w1.cell? ⟨w.heap.size, 0, none⟩ = some (.int .i8 op) := HC.out.box.cell 0
    go_wp2_with fail
    (try simp only [Exit.inBlock, Exit.then])
    refine rdo_end _ [] ⟨op, arg, new, 0, false, beg, fin⟩ rfl rfl rfl rfl HDO.out (row_thing HC.out.own (fun _ h => by cases h)) HC.out.below
set_option maxHeartbeats 1600000 in
theorem rdo_first (v : Value) (x : Int) (r : List Int) (c : Cal) (ho : c.op ≠ 1) (w : World) (hl : r.length ≤ 100000) (h : ThingAt w v (x :: r)) :
    Calls Tryd.prog 78 #[.int .i64 1, v, .agg (calA c)] w (RDoPost 1 (x :: r) c w) := by
  obtain ⟨a, cap, rfl, hcap, hnone, hN⟩ := h
  have H := Lib.hid hN
  have HN := Lib.hid hnone
  obtain ⟨op, arg, new, ans, ok, beg, fin⟩ := c
  simp only at ho
  have hb : (op == 1) = false := by simpa using ho
  have hdo : doesF 1 (x :: r) ⟨op, arg, new, ans, ok, beg, fin⟩ = (r, ⟨op, arg, new, x, true, beg, fin⟩) := by simp [doesF, ho]
  have HDO := Lib.hid hdo
  clear hN hdo hnone
  unfold calA
  simp only [List.length_cons]
  go_enter Tryd.func78, Tryd.ntmps78
  go_upto_region 3 with (at_builtin; refine wpList_copy rfl _ _ rfl (x :: r) w _ rfl a cap HN.out (by simp; omega) H.out rfl rfl ?_; intro v1 w1 h1 h2; have HC : Hid (Copied w (x :: r) ⟨op, arg, new, ans, ok, beg, fin⟩ v1 w1) := Lib.hid (Copied.mk' h1 h2); obtain ⟨g1, cap1, rfl, _, hg1⟩ := h1.form (by simp); clear h1 h2)
  try simp only [List.length_cons]
  have p0 : w1.cell? ⟨w.heap.size, 0, none⟩ = some (.int .i8 op) := HC.out.box.cell 0
  have c0 : w1.cell? ⟨g1, 0, none⟩ = some (.int .i64 x) := HC.out.own.cellAt 0 (by simp)
  have hcc : r.length + 1 ≤ cap1 := by
    rcases HC.out.own.2 with ⟨e, _⟩ | ⟨g', cap', cur, e, _, _, hc, _⟩
    · cases e
    · injection e with _ _ e
      subst e
      simpa using hc
  have HNU := Lib.hid (row_nums HC.out.own H.out.wf)
  go_wp2_with fail
  go_region
  go_wp2_with fail
  all_goals (try simp only [Exit.inBlock, Exit.then])
  all_goals refine rdo_end _ r ⟨op, arg, new, x, true, beg, fin⟩ rfl rfl rfl rfl HDO.out ?_ HC.out.below.drew
  all_goals first
    | exact ⟨_, _, rfl, by omega, by simp, drew_nums (HNU.out.nil (by omega))⟩
    | exact ⟨_, _, rfl, by omega, by simp, drew_nums HNU.out.tail⟩
set_option maxHeartbeats 1600000 in
theorem rdo_last (v : Value) (x : Int) (r : List Int) (c : Cal) (ho : c.op ≠ 1) (w : World) (hl : r.length ≤ 100000) (h : ThingAt w v (r ++ [x])) :
    Calls Tryd.prog 78 #[.int .i64 2, v, .agg (calA c)] w (RDoPost 2 (r ++ [x]) c w) := by
  obtain ⟨a, cap, rfl, hcap, hnone, hN⟩ := h
  have H := Lib.hid hN
  have HN := Lib.hid hnone
  have hdo := doesF_last (r := r) (x := x) ho
  have HDO := Lib.hid hdo
  obtain ⟨op, arg, new, ans, ok, beg, fin⟩ := c
  simp only at ho
  have hb : (op == 1) = false := by simpa using ho
  clear hN hdo hnone
  unfold calA
  have hln : (r ++ [x]).length = r.length + 1 := by simp
  rw [hln] at hcap
  rw [hln]
  go_enter Tryd.func78, Tryd.ntmps78
  go_upto_region 3 with (at_builtin; refine wpList_copy rfl _ _ rfl (r ++ [x]) w _ rfl a cap HN.out (by simp; omega) H.out rfl (by rw [hln]; rfl) ?_; intro v1 w1 h1 h2; have HC : Hid (Copied w (r ++ [x]) ⟨op, arg, new, ans, ok, beg, fin⟩ v1 w1) := Lib.hid (Copied.mk' h1 h2); obtain ⟨g1, cap1, rfl, _, hg1⟩ := h1.form (by simp); rw [hln] at HC ⊢; clear h1 h2)
  have p0 : w1.cell? ⟨w.heap.size, 0, none⟩ = some (.int .i8 op) := HC.out.box.cell 0
  have hown := HC.out.own
  rw [hln] at hown
  have c0 : w1.cell? ⟨g1, r.length, none⟩ = some (.int .i64 x) := by
    rw [hown.cellAt r.length (by omega)]
    simp
  have hcc : r.length + 1 ≤ cap1 := by
    rcases hown.2 with ⟨e, _⟩ | ⟨g', cap', cur, e, _, _, hc, _⟩
    · cases e
    · injection e with _ _ e
      subst e
      exact hc
  have HNU := Lib.hid (row_nums hown H.out.wf)
  clear hown
  go_wp2_with fail
  go_region
  go_wp2_with fail
  all_goals (try simp only [Exit.inBlock, Exit.then])
  all_goals refine rdo_end _ r ⟨op, arg, new, x, true, beg, fin⟩ rfl rfl rfl rfl HDO.out ⟨_, _, rfl, by omega, by simp, drew_nums HNU.out.init⟩ HC.out.below.drew
end Go.Proofs.YtonnlgpjobfnmaaDoor

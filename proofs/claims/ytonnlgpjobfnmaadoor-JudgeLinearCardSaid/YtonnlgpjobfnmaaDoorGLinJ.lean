/- The reference's Do: counters and settings; all kinds. Conditions: what the slice's cells hold. -/
import Derived.Test.YtonnlgpjobfnmaaDoorGLinI
namespace Go.Proofs.YtonnlgpjobfnmaaDoor
open Go.RowKit
set_option maxRecDepth 100000
theorem rdo_box {w w1 w2 : World} {hs : List Int} {c : Cal} {v : Value} {o : Obj} (h : Copied w hs c v w1) (g : (w1.alloc o).grownBy w2 v.ownBlock) : Blk w2 w.heap.size 58 (calA c) :=
  ((g.block w.heap.size (by simp; have := h.box.lt; omega) fun e => by
    obtain ⟨_, cs, hB⟩ := row_ty h.own w.heap.size e.symm
    exact Blk.ne_ hB h.box (by decide) rfl).trans (Below.heap_alloc w1 o w.heap.size h.box.lt)).trans h.box
theorem one_kept {w : World} {g cap : Nat} {base : Nat} {x y : Int} (h : w.ownsRow base 2 1 (.slice (some ⟨g, 0, none⟩) 1 cap) 1 [.int .i64 x]) (hy : i64of y) : ThingAt (w.setCell ⟨g, 0, none⟩ (.int .i64 y)) (.slice (some ⟨g, 0, none⟩) 1 cap) [y] := by
  have h1 := (h.stored 0 (.int .i64 y)).1
  exact row_thing (n := 1) (hs := [y]) h1 (fun z hz => by rw [List.mem_singleton.1 hz]; exact hy)
theorem thing_drew {w : World} {v : Value} {hs : List Int} (h : ThingAt w v hs) : ThingAt w.drew v hs := by
  obtain ⟨a, cap, e, h1, h2, h3⟩ := h
  exact ⟨a, cap, e, h1, h2, drew_nums h3⟩
set_option maxHeartbeats 1600000 in
/-- From the row of one number on. -/
theorem rdo_one (k : Int) (hk : k = 3 ∨ k = 4) (v : Value) (x : Int) (c : Cal) (hop : c.op = 1 ∨ c.op = 3 ∨ c.op = 4 ∨ c.op = 5) (hwf : c.wf) (w : World) (h : ThingAt w v [x]) :
    Calls Tryd.prog 78 #[.int .i64 k, v, .agg (calA c)] w (RDoPost k [x] c w) := by
  obtain ⟨a, cap, rfl, hcap, hnone, hN⟩ := h
  have H := Lib.hid hN
  have HN := Lib.hid hnone
  have HW := Lib.hid hwf
  obtain ⟨op, arg, new, ans, ok, beg, fin⟩ := c
  simp only at hop
  have HOP := Lib.hid hop
  have HXW := Lib.hid H.out.wf
  clear hN hnone hwf hop
  unfold calA
  rcases hk with rfl | rfl
  all_goals
    go_enter Tryd.func78, Tryd.ntmps78
    go_upto_region 3 with (at_builtin; refine wpList_copy rfl _ _ rfl [x] w _ rfl a cap HN.out (by simp) H.out rfl rfl ?_; intro v1 w1 h1 h2; have HC : Hid (Copied w [x] ⟨op, arg, new, ans, ok, beg, fin⟩ v1 w1) := Lib.hid (Copied.mk' h1 h2); obtain ⟨g1, cap1, rfl, hgb, hg1⟩ := h1.form (by simp); clear h1 h2)
    have p0 : w1.cell? ⟨w.heap.size, 0, none⟩ = some (.int .i8 op) := HC.out.box.cell 0
    have p1 : w1.cell? ⟨w.heap.size, 1, none⟩ = some (.int .i64 arg) := HC.out.box.cell 1
    have p2 : w1.cell? ⟨w.heap.size, 2, none⟩ = some (.int .i64 new) := HC.out.box.cell 2
    have c0 : w1.cell? ⟨g1, 0, none⟩ = some (.int .i64 x) := HC.out.own.cellAt 0 (by simp)
    have f0 : w1.frozen? ⟨g1, 0, none⟩ = false := HC.out.own.frozenAt 0
    have hcl : 1 ≤ cap1 := by
      rcases HC.out.own.2 with ⟨e, _⟩ | ⟨g', cap', cur, e, _, _, hc, _⟩
      · cases e
      · injection e with _ _ e
        subst e
        simpa using hc
    have hne : ¬ g1 = w.heap.size := fun e => by
      obtain ⟨_, cs, hB⟩ := row_ty HC.out.own g1 rfl
      subst e
      exact Blk.ne_ hB HC.out.box (by decide) rfl
    have HBE := Lib.hid HC.out.below
    have HO : Hid (w1.ownsRow w.heap.size 2 1 (.slice (some ⟨g1, 0, none⟩) 1 cap1) 1 [.int .i64 x]) := Lib.hid HC.out.own
    go_wp2_with fail
  · go_region
    obtain ⟨w2, hw2⟩ : ∃ w2, w2 = (w1.setCell ⟨g1, 0, none⟩ (.int .i64 (wrap64 (x + arg)))).drew := ⟨_, rfl⟩
    rw [← hw2]
    have c2 : w2.cell? ⟨g1, 0, none⟩ = some (.int .i64 (wrap64 (x + arg))) := by rw [hw2]; exact ((HO.out.stored 0 (.int .i64 (wrap64 (x + arg)))).1).cellAt 0 (by simp)
    have HT := Lib.hid (one_kept HO.out (wrap64_of (x + arg)))
    have HB2 : Hid (Below w.heap.size w w2) := Lib.hid (by rw [hw2]; exact (HBE.out.setCell (p := ⟨g1, 0, none⟩) hgb _).drew)
    have HT2 : Hid (ThingAt w2 (.slice (some ⟨g1, 0, none⟩) 1 cap1) [wrap64 (x + arg)]) := Lib.hid (by rw [hw2]; exact thing_drew HT.out)
    clear hw2 c0 f0 p0 p1 p2
    go_wp2_with fail
    go_region
    go_wp2_with fail
    (try simp only [Exit.inBlock, Exit.then])
    refine rdo_end _ [wrap64 (x + arg)] ⟨op, arg, new, wrap64 (x + arg), false, beg, fin⟩ rfl rfl rfl rfl ?_ (thing_drew HT2.out) HB2.out.drew
    simp_all [doesF]
  · (try simp only [Exit.inBlock, Exit.then])
    refine rdo_end _ [arg] ⟨op, arg, new, 0, false, beg, fin⟩ rfl rfl rfl rfl ?_ (one_kept HO.out HW.out.2.1) (HBE.out.setCell (p := ⟨g1, 0, none⟩) hgb _)
    simp_all [doesF]
  · by_cases hxa : x = arg
    · subst hxa
      go_quiet (fail)
      go_wp2_with fail
      (try simp only [Exit.inBlock, Exit.then])
      refine rdo_end _ [new] ⟨op, x, new, 0, true, beg, fin⟩ rfl rfl rfl rfl ?_ (one_kept (w := w1.drewN nq) HO.out HW.out.2.2.1) ((below_drewN HBE.out nq).setCell (p := ⟨g1, 0, none⟩) hgb _)
      simp_all [doesF]
    · have hd : decide (x = arg) = false := by simpa using hxa
      have hd2 : (x == arg) = false := by simpa using hxa
      go_quiet (fail)
      go_wp2_with fail
      (try simp only [Exit.inBlock, Exit.then])
      refine rdo_end _ [x] ⟨op, arg, new, 0, false, beg, fin⟩ rfl rfl rfl rfl ?_ (row_thing (w := w1.drewN nq) HO.out HXW.out) (below_drewN HBE.out nq)
      simp_all [doesF]
  · go_region
    go_wp2_with fail
    (try simp only [Exit.inBlock, Exit.then])
    refine rdo_end _ [x] ⟨op, arg, new, x, false, beg, fin⟩ rfl rfl rfl rfl ?_ (thing_drew (row_thing HO.out HXW.out)) HBE.out.drew
    have hop := HOP.out
    clear HOP
    simp_all [doesF]
  · go_region
    obtain ⟨w2, hw2⟩ : ∃ w2, w2 = (w1.setCell ⟨g1, 0, none⟩ (.int .i64 (wrap64 (x + arg)))).drew := ⟨_, rfl⟩
    rw [← hw2]
    have c2 : w2.cell? ⟨g1, 0, none⟩ = some (.int .i64 (wrap64 (x + arg))) := by rw [hw2]; exact ((HO.out.stored 0 (.int .i64 (wrap64 (x + arg)))).1).cellAt 0 (by simp)
    have HT := Lib.hid (one_kept HO.out (wrap64_of (x + arg)))
    have HB2 : Hid (Below w.heap.size w w2) := Lib.hid (by rw [hw2]; exact (HBE.out.setCell (p := ⟨g1, 0, none⟩) hgb _).drew)
    have HT2 : Hid (ThingAt w2 (.slice (some ⟨g1, 0, none⟩) 1 cap1) [wrap64 (x + arg)]) := Lib.hid (by rw [hw2]; exact thing_drew HT.out)
    clear hw2 c0 f0 p0 p1 p2
    go_wp2_with fail
    go_region
    go_wp2_with fail
    (try simp only [Exit.inBlock, Exit.then])
    refine rdo_end _ [wrap64 (x + arg)] ⟨op, arg, new, wrap64 (x + arg), false, beg, fin⟩ rfl rfl rfl rfl ?_ (thing_drew HT2.out) HB2.out.drew
    simp_all [doesF]
  · (try simp only [Exit.inBlock, Exit.then])
    refine rdo_end _ [arg] ⟨op, arg, new, 0, false, beg, fin⟩ rfl rfl rfl rfl ?_ (one_kept HO.out HW.out.2.1) (HBE.out.setCell (p := ⟨g1, 0, none⟩) hgb _)
    simp_all [doesF]
  · by_cases hxa : x = arg
    · subst hxa
      go_quiet (fail)
      go_wp2_with fail
      (try simp only [Exit.inBlock, Exit.then])
      refine rdo_end _ [new] ⟨op, x, new, 0, true, beg, fin⟩ rfl rfl rfl rfl ?_ (one_kept (w := w1.drewN nq) HO.out HW.out.2.2.1) ((below_drewN HBE.out nq).setCell (p := ⟨g1, 0, none⟩) hgb _)
      simp_all [doesF]
    · have hd : decide (x = arg) = false := by simpa using hxa
      have hd2 : (x == arg) = false := by simpa using hxa
      go_quiet (fail)
      go_wp2_with fail
      (try simp only [Exit.inBlock, Exit.then])
      refine rdo_end _ [x] ⟨op, arg, new, 0, false, beg, fin⟩ rfl rfl rfl rfl ?_ (row_thing (w := w1.drewN nq) HO.out HXW.out) (below_drewN HBE.out nq)
      simp_all [doesF]
  · go_region
    go_wp2_with fail
    (try simp only [Exit.inBlock, Exit.then])
    refine rdo_end _ [x] ⟨op, arg, new, x, false, beg, fin⟩ rfl rfl rfl rfl ?_ (thing_drew (row_thing HO.out HXW.out)) HBE.out.drew
    have hop := HOP.out
    clear HOP
    simp_all [doesF]
set_option maxHeartbeats 1600000 in
/-- From nothing. -/
theorem rdo_zero (k : Int) (hk : k = 3 ∨ k = 4) (v : Value) (c : Cal) (hop : c.op = 1 ∨ c.op = 3 ∨ c.op = 4 ∨ c.op = 5) (hwf : c.wf) (w : World) (h : ThingAt w v []) :
    Calls Tryd.prog 78 #[.int .i64 k, v, .agg (calA c)] w (RDoPost k [] c w) := by
  obtain ⟨a, cap, rfl, hcap, hnone, hN⟩ := h
  obtain ⟨j0, hj, hjz, hjs, hjb⟩ := info_parts infoNum
  have H := Lib.hid hN
  have HN := Lib.hid hnone
  have HW := Lib.hid hwf
  obtain ⟨op, arg, new, ans, ok, beg, fin⟩ := c
  simp only at hop
  have HOP := Lib.hid hop
  have HXW : Hid (∀ z, z ∈ [(0 : Int)] → i64of z) := Lib.hid fun z hz => by rw [List.mem_singleton.1 hz]; unfold i64of; omega
  clear hN hnone hwf hop
  unfold calA
  rcases hk with rfl | rfl
  all_goals
    go_enter Tryd.func78, Tryd.ntmps78
    go_upto_region 3 with (at_builtin; refine wpList_copy rfl _ _ rfl [] w _ rfl a cap HN.out (by simp) H.out rfl rfl ?_; intro v1 w1 h1 h2; have HC : Hid (Copied w [] ⟨op, arg, new, ans, ok, beg, fin⟩ v1 w1) := Lib.hid (Copied.mk' h1 h2); obtain ⟨a1, cap0, rfl⟩ := row_shp h1; clear h1 h2)
    have HO0 := Lib.hid (HC.out.own.alloc (.cells #[.int .i64 0] 2))
    have hz1 : w.heap.size ≤ w1.heap.size := HC.out.below.size
    go_upto_region 13 with (at_builtin; refine wpList_append_own _ rfl _ _ 54 rfl w.heap.size 2 j0 _ 1 8 Tryd.underlying54 hj hjz hjs hjb rfl (by decide) _ 0 [] rfl HO0.out ⟨w1.heap.size, 0, none⟩ 1 1 [.int .i64 0] rfl rfl (World.news_of_block (heap_alloc_new _ _)) (by simp [Value.oneCell']) (by unfold maxLen; omega) (by omega) (by simp; omega) ?_; intro v2 w3 r1 r2 _; obtain ⟨g1, cap1, rfl, hgb, hg1⟩ := r1.form (by omega); have R1 := Lib.hid r1; have R2 := Lib.hid r2; clear r1 r2)
    have HBE : Hid (Below w.heap.size w w3) := Lib.hid (rdo_below HC.out R2.out)
    have HO : Hid (w3.ownsRow w.heap.size 2 1 (.slice (some ⟨g1, 0, none⟩) 1 cap1) 1 [.int .i64 0]) := Lib.hid (by have h := R1.out; simpa using h)
    have HBX : Hid (Blk w3 w.heap.size 58 (calA ⟨op, arg, new, ans, ok, beg, fin⟩)) := Lib.hid (rdo_box HC.out R2.out)
    have p0 : w3.cell? ⟨w.heap.size, 0, none⟩ = some (.int .i8 op) := HBX.out.cell 0
    have p1 : w3.cell? ⟨w.heap.size, 1, none⟩ = some (.int .i64 arg) := HBX.out.cell 1
    have p2 : w3.cell? ⟨w.heap.size, 2, none⟩ = some (.int .i64 new) := HBX.out.cell 2
    have c0 : w3.cell? ⟨g1, 0, none⟩ = some (.int .i64 0) := HO.out.cellAt 0 (by simp)
    have f0 : w3.frozen? ⟨g1, 0, none⟩ = false := HO.out.frozenAt 0
    have hcl : 1 ≤ cap1 := by
      rcases HO.out.2 with ⟨e, _⟩ | ⟨g', cap', cur, e, _, _, hc, _⟩
      · cases e
      · injection e with _ _ e
        subst e
        exact hc
    have hne : ¬ g1 = w.heap.size := fun e => by
      obtain ⟨_, cs, hB⟩ := row_ty HO.out g1 rfl
      subst e
      exact Blk.ne_ hB HBX.out (by decide) rfl
    go_wp2_with fail
  · go_region
    obtain ⟨w2, hw2⟩ : ∃ w2, w2 = (w3.setCell ⟨g1, 0, none⟩ (.int .i64 (wrap64 arg))).drew := ⟨_, rfl⟩
    rw [← hw2]
    have c2 : w2.cell? ⟨g1, 0, none⟩ = some (.int .i64 (wrap64 arg)) := by rw [hw2]; exact ((HO.out.stored 0 (.int .i64 (wrap64 arg))).1).cellAt 0 (by simp)
    have HT := Lib.hid (one_kept HO.out (wrap64_of arg))
    have HB2 : Hid (Below w.heap.size w w2) := Lib.hid (by rw [hw2]; exact (HBE.out.setCell (p := ⟨g1, 0, none⟩) hgb _).drew)
    have HT2 : Hid (ThingAt w2 (.slice (some ⟨g1, 0, none⟩) 1 cap1) [wrap64 arg]) := Lib.hid (by rw [hw2]; exact thing_drew HT.out)
    clear hw2 c0 f0 p0 p1 p2
    go_wp2_with fail
    go_region
    go_wp2_with fail
    (try simp only [Exit.inBlock, Exit.then])
    refine rdo_end _ [wrap64 arg] ⟨op, arg, new, wrap64 arg, false, beg, fin⟩ rfl rfl rfl rfl ?_ (thing_drew HT2.out) HB2.out.drew
    simp_all [doesF]
  · (try simp only [Exit.inBlock, Exit.then])
    refine rdo_end _ [arg] ⟨op, arg, new, 0, false, beg, fin⟩ rfl rfl rfl rfl ?_ (one_kept HO.out HW.out.2.1) (HBE.out.setCell (p := ⟨g1, 0, none⟩) hgb _)
    simp_all [doesF]
  · by_cases hxa : (0 : Int) = arg
    · subst hxa
      go_quiet (fail)
      go_wp2_with fail
      (try simp only [Exit.inBlock, Exit.then])
      refine rdo_end _ [new] ⟨op, 0, new, 0, true, beg, fin⟩ rfl rfl rfl rfl ?_ (one_kept (w := w3.drewN nq) HO.out HW.out.2.2.1) ((below_drewN HBE.out nq).setCell (p := ⟨g1, 0, none⟩) hgb _)
      simp_all [doesF]
    · have hd : decide ((0 : Int) = arg) = false := by simpa using hxa
      have hd2 : ((0 : Int) == arg) = false := by simpa using hxa
      go_quiet (fail)
      go_wp2_with fail
      (try simp only [Exit.inBlock, Exit.then])
      refine rdo_end _ [0] ⟨op, arg, new, 0, false, beg, fin⟩ rfl rfl rfl rfl ?_ (row_thing (w := w3.drewN nq) HO.out HXW.out) (below_drewN HBE.out nq)
      simp_all [doesF]
  · go_region
    go_wp2_with fail
    (try simp only [Exit.inBlock, Exit.then])
    refine rdo_end _ [0] ⟨op, arg, new, 0, false, beg, fin⟩ rfl rfl rfl rfl ?_ (thing_drew (row_thing HO.out HXW.out)) HBE.out.drew
    have hop := HOP.out
    clear HOP
    simp_all [doesF]
  · go_region
    obtain ⟨w2, hw2⟩ : ∃ w2, w2 = (w3.setCell ⟨g1, 0, none⟩ (.int .i64 (wrap64 arg))).drew := ⟨_, rfl⟩
    rw [← hw2]
    have c2 : w2.cell? ⟨g1, 0, none⟩ = some (.int .i64 (wrap64 arg)) := by rw [hw2]; exact ((HO.out.stored 0 (.int .i64 (wrap64 arg))).1).cellAt 0 (by simp)
    have HT := Lib.hid (one_kept HO.out (wrap64_of arg))
    have HB2 : Hid (Below w.heap.size w w2) := Lib.hid (by rw [hw2]; exact (HBE.out.setCell (p := ⟨g1, 0, none⟩) hgb _).drew)
    have HT2 : Hid (ThingAt w2 (.slice (some ⟨g1, 0, none⟩) 1 cap1) [wrap64 arg]) := Lib.hid (by rw [hw2]; exact thing_drew HT.out)
    clear hw2 c0 f0 p0 p1 p2
    go_wp2_with fail
    go_region
    go_wp2_with fail
    (try simp only [Exit.inBlock, Exit.then])
    refine rdo_end _ [wrap64 arg] ⟨op, arg, new, wrap64 arg, false, beg, fin⟩ rfl rfl rfl rfl ?_ (thing_drew HT2.out) HB2.out.drew
    simp_all [doesF]
  · (try simp only [Exit.inBlock, Exit.then])
    refine rdo_end _ [arg] ⟨op, arg, new, 0, false, beg, fin⟩ rfl rfl rfl rfl ?_ (one_kept HO.out HW.out.2.1) (HBE.out.setCell (p := ⟨g1, 0, none⟩) hgb _)
    simp_all [doesF]
  · by_cases hxa : (0 : Int) = arg
    · subst hxa
      go_quiet (fail)
      go_wp2_with fail
      (try simp only [Exit.inBlock, Exit.then])
      refine rdo_end _ [new] ⟨op, 0, new, 0, true, beg, fin⟩ rfl rfl rfl rfl ?_ (one_kept (w := w3.drewN nq) HO.out HW.out.2.2.1) ((below_drewN HBE.out nq).setCell (p := ⟨g1, 0, none⟩) hgb _)
      simp_all [doesF]
    · have hd : decide ((0 : Int) = arg) = false := by simpa using hxa
      have hd2 : ((0 : Int) == arg) = false := by simpa using hxa
      go_quiet (fail)
      go_wp2_with fail
      (try simp only [Exit.inBlock, Exit.then])
      refine rdo_end _ [0] ⟨op, arg, new, 0, false, beg, fin⟩ rfl rfl rfl rfl ?_ (row_thing (w := w3.drewN nq) HO.out HXW.out) (below_drewN HBE.out nq)
      simp_all [doesF]
  · go_region
    go_wp2_with fail
    (try simp only [Exit.inBlock, Exit.then])
    refine rdo_end _ [0] ⟨op, arg, new, 0, false, beg, fin⟩ rfl rfl rfl rfl ?_ (thing_drew (row_thing HO.out HXW.out)) HBE.out.drew
    have hop := HOP.out
    clear HOP
    simp_all [doesF]
/-- All kinds. -/
theorem rdo_any (k : Int) (hk : 1 ≤ k ∧ k ≤ 4) (v : Value) (hs : List Int) (c : Cal) (hr : rightF k c = true) (hwf : c.wf) (w : World) (hl : hs.length ≤ 1000) (h1 : 2 < k → hs.length ≤ 1) (h : ThingAt w v hs) :
    Calls Tryd.prog 78 #[.int .i64 k, v, .agg (calA c)] w (RDoPost k hs c w) := by
  by_cases hk2 : k ≤ 2
  · by_cases ho : c.op = 1
    · exact rdo_put k (by omega) v hs c ho hwf w (by omega) h
    · cases hs with
      | nil => exact rdo_none k (by omega) v c ho w h
      | cons x r =>
        by_cases hk1 : k = 1
        · subst hk1
          exact rdo_first v x r c ho w (by simp at hl; omega) h
        · obtain rfl : k = 2 := by omega
          obtain ⟨r', x', e⟩ : ∃ r' x', x :: r = r' ++ [x'] := ⟨(x :: r).dropLast, (x :: r).getLast (by simp), (List.dropLast_concat_getLast (by simp)).symm⟩
          rw [e] at hl h ⊢
          exact rdo_last v x' r' c ho w (by simp at hl; omega) h
  · have hop : c.op = 1 ∨ c.op = 3 ∨ c.op = 4 ∨ c.op = 5 := by
      unfold rightF at hr
      by_cases h1 : c.op = 1
      · exact .inl h1
      by_cases h3 : c.op = 3
      · exact .inr (.inl h3)
      by_cases h4 : c.op = 4
      · exact .inr (.inr (.inl h4))
      by_cases h5 : c.op = 5
      · exact .inr (.inr (.inr h5))
      rw [if_neg (by omega), if_neg (by omega), if_neg (by omega), if_neg (by omega), if_neg (by omega)] at hr
      simp at hr
    have h1 := h1 (by omega)
    cases hs with
    | nil => exact rdo_zero k (by omega) v c hop hwf w h
    | cons x r =>
      obtain rfl : r = [] := List.eq_nil_of_length_eq_zero (by simp only [List.length_cons] at h1; omega)
      exact rdo_one k (by omega) v x c hop hwf w h
end Go.Proofs.YtonnlgpjobfnmaaDoor

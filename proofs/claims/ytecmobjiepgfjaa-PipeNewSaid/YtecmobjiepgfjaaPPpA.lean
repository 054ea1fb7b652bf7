/- Pipes under J: what a pipe at work is, seen at its first two places; its place of a position. -/
import Derived.Test.YtecmobjiepgfjaaPLbA
namespace Go.Proofs.Ytecmobjiepgfjaa
open Go.Conc Go.RowKit
open Go.ConcN (upd upd_same upd_ne)
set_option linter.unusedSimpArgs false
set_option linter.unusedVariables false
set_option maxRecDepth 100000
theorem JG.scope {P : Program} {Post : Value → World → Prop} {C : Ctx} {x : World} {b : Frame} {a : Act} {k : List Item} {cs : List Frame} {c : Code} (h : JG P Post C (G (b.at a (.code c :: .inScope c :: k)) cs) x) : JG P Post C (G (b.at a (.code (.scope c) :: k)) cs) x := .ctl rfl (fun _ _ => by simp [G, stepG, stepG.exec, Frame.at]) h
theorem JG.inScope {P : Program} {Post : Value → World → Prop} {C : Ctx} {x : World} {b : Frame} {a : Act} {k : List Item} {cs : List Frame} {c : Code} (h : JG P Post C (G (b.at a k) cs) x) : JG P Post C (G (b.at a (.inScope c :: k)) cs) x := .ctl rfl (fun _ _ => by simp [G, stepG, stepG.exec, Frame.at]) h
/-- A pipe: its block, its cells, its first two places. -/
structure PS (y : World) (r ic oc bc pb n cap t0 s0 t1 s1 : Nat) (X K b a0 c0 a1 c1 : Int) : Prop where
  blk : y.heap[r]? = some (.cells #[P0 ic, P0 oc, P0 bc, .slice (some ⟨pb, 0, none⟩) n cap] 147 (0, 0))
  fic : FreeCell y ic X
  foc : FreeCell y oc K
  fbc : FreeCell y bc b
  r0 : y.cell? (th pb 0) = some (P0 t0)
  r1 : y.cell? (th pb 1) = some (P0 s0)
  r2 : y.cell? (th pb 2) = some (P0 t1)
  r3 : y.cell? (th pb 3) = some (P0 s1)
  ft0 : FreeCell y t0 a0
  fs0 : FreeCell y s0 c0
  ft1 : FreeCell y t1 a1
  fs1 : FreeCell y s1 c1
  nd : [r, pb, ic, oc, bc, t0, s0, t1, s1].Nodup
theorem th_ne {a b i j : Nat} (h : ¬ a = b) : th a i ≠ th b j := fun e => h (congrArg Addr.block e)
section
variable {Post : Value → World → Prop} {C : Ctx} {x : World} {c : Frame} {cs : List Frame} {r ic oc bc pb n cap t0 s0 t1 s1 : Nat} {X K b a0 c0 a1 c1 : Int}
theorem PS.set_ic (h : PS x r ic oc bc pb n cap t0 s0 t1 s1 X K b a0 c0 a1 c1) (v : Int) : PS (x.setCell (th ic 0) (.int .i64 v)) r ic oc bc pb n cap t0 s0 t1 s1 v K b a0 c0 a1 c1 := by
  have nd := h.nd
  simp only [List.nodup_cons, List.mem_cons, List.not_mem_nil, or_false, not_or, not_false_eq_true, List.nodup_nil, and_true] at nd
  obtain ⟨⟨n01, n02, n03, n04, n05, n06, n07, n08⟩, ⟨n12, n13, n14, n15, n16, n17, n18⟩, ⟨n23, n24, n25, n26, n27, n28⟩, ⟨n34, n35, n36, n37, n38⟩, ⟨n45, n46, n47, n48⟩, ⟨n56, n57, n58⟩, ⟨n67, n68⟩, n78⟩ := nd
  exact ⟨(heap_set_ne n02).trans h.blk, h.fic.set, h.foc.set_ne (Ne.symm n23), h.fbc.set_ne (Ne.symm n24), cell_setCell_ne (th_ne n12) h.r0, cell_setCell_ne (th_ne n12) h.r1, cell_setCell_ne (th_ne n12) h.r2, cell_setCell_ne (th_ne n12) h.r3, h.ft0.set_ne (Ne.symm n25), h.fs0.set_ne (Ne.symm n26), h.ft1.set_ne (Ne.symm n27), h.fs1.set_ne (Ne.symm n28), h.nd⟩
theorem PS.set_oc (h : PS x r ic oc bc pb n cap t0 s0 t1 s1 X K b a0 c0 a1 c1) (v : Int) : PS (x.setCell (th oc 0) (.int .i64 v)) r ic oc bc pb n cap t0 s0 t1 s1 X v b a0 c0 a1 c1 := by
  have nd := h.nd
  simp only [List.nodup_cons, List.mem_cons, List.not_mem_nil, or_false, not_or, not_false_eq_true, List.nodup_nil, and_true] at nd
  obtain ⟨⟨n01, n02, n03, n04, n05, n06, n07, n08⟩, ⟨n12, n13, n14, n15, n16, n17, n18⟩, ⟨n23, n24, n25, n26, n27, n28⟩, ⟨n34, n35, n36, n37, n38⟩, ⟨n45, n46, n47, n48⟩, ⟨n56, n57, n58⟩, ⟨n67, n68⟩, n78⟩ := nd
  exact ⟨(heap_set_ne n03).trans h.blk, h.fic.set_ne n23, h.foc.set, h.fbc.set_ne (Ne.symm n34), cell_setCell_ne (th_ne n13) h.r0, cell_setCell_ne (th_ne n13) h.r1, cell_setCell_ne (th_ne n13) h.r2, cell_setCell_ne (th_ne n13) h.r3, h.ft0.set_ne (Ne.symm n35), h.fs0.set_ne (Ne.symm n36), h.ft1.set_ne (Ne.symm n37), h.fs1.set_ne (Ne.symm n38), h.nd⟩
theorem PS.set_bc (h : PS x r ic oc bc pb n cap t0 s0 t1 s1 X K b a0 c0 a1 c1) (v : Int) : PS (x.setCell (th bc 0) (.int .i64 v)) r ic oc bc pb n cap t0 s0 t1 s1 X K v a0 c0 a1 c1 := by
  have nd := h.nd
  simp only [List.nodup_cons, List.mem_cons, List.not_mem_nil, or_false, not_or, not_false_eq_true, List.nodup_nil, and_true] at nd
  obtain ⟨⟨n01, n02, n03, n04, n05, n06, n07, n08⟩, ⟨n12, n13, n14, n15, n16, n17, n18⟩, ⟨n23, n24, n25, n26, n27, n28⟩, ⟨n34, n35, n36, n37, n38⟩, ⟨n45, n46, n47, n48⟩, ⟨n56, n57, n58⟩, ⟨n67, n68⟩, n78⟩ := nd
  exact ⟨(heap_set_ne n04).trans h.blk, h.fic.set_ne n24, h.foc.set_ne n34, h.fbc.set, cell_setCell_ne (th_ne n14) h.r0, cell_setCell_ne (th_ne n14) h.r1, cell_setCell_ne (th_ne n14) h.r2, cell_setCell_ne (th_ne n14) h.r3, h.ft0.set_ne (Ne.symm n45), h.fs0.set_ne (Ne.symm n46), h.ft1.set_ne (Ne.symm n47), h.fs1.set_ne (Ne.symm n48), h.nd⟩
theorem PS.set_t0 (h : PS x r ic oc bc pb n cap t0 s0 t1 s1 X K b a0 c0 a1 c1) (v : Int) : PS (x.setCell (th t0 0) (.int .i64 v)) r ic oc bc pb n cap t0 s0 t1 s1 X K b v c0 a1 c1 := by
  have nd := h.nd
  simp only [List.nodup_cons, List.mem_cons, List.not_mem_nil, or_false, not_or, not_false_eq_true, List.nodup_nil, and_true] at nd
  obtain ⟨⟨n01, n02, n03, n04, n05, n06, n07, n08⟩, ⟨n12, n13, n14, n15, n16, n17, n18⟩, ⟨n23, n24, n25, n26, n27, n28⟩, ⟨n34, n35, n36, n37, n38⟩, ⟨n45, n46, n47, n48⟩, ⟨n56, n57, n58⟩, ⟨n67, n68⟩, n78⟩ := nd
  exact ⟨(heap_set_ne n05).trans h.blk, h.fic.set_ne n25, h.foc.set_ne n35, h.fbc.set_ne n45, cell_setCell_ne (th_ne n15) h.r0, cell_setCell_ne (th_ne n15) h.r1, cell_setCell_ne (th_ne n15) h.r2, cell_setCell_ne (th_ne n15) h.r3, h.ft0.set, h.fs0.set_ne (Ne.symm n56), h.ft1.set_ne (Ne.symm n57), h.fs1.set_ne (Ne.symm n58), h.nd⟩
theorem PS.set_s0 (h : PS x r ic oc bc pb n cap t0 s0 t1 s1 X K b a0 c0 a1 c1) (v : Int) : PS (x.setCell (th s0 0) (.int .i64 v)) r ic oc bc pb n cap t0 s0 t1 s1 X K b a0 v a1 c1 := by
  have nd := h.nd
  simp only [List.nodup_cons, List.mem_cons, List.not_mem_nil, or_false, not_or, not_false_eq_true, List.nodup_nil, and_true] at nd
  obtain ⟨⟨n01, n02, n03, n04, n05, n06, n07, n08⟩, ⟨n12, n13, n14, n15, n16, n17, n18⟩, ⟨n23, n24, n25, n26, n27, n28⟩, ⟨n34, n35, n36, n37, n38⟩, ⟨n45, n46, n47, n48⟩, ⟨n56, n57, n58⟩, ⟨n67, n68⟩, n78⟩ := nd
  exact ⟨(heap_set_ne n06).trans h.blk, h.fic.set_ne n26, h.foc.set_ne n36, h.fbc.set_ne n46, cell_setCell_ne (th_ne n16) h.r0, cell_setCell_ne (th_ne n16) h.r1, cell_setCell_ne (th_ne n16) h.r2, cell_setCell_ne (th_ne n16) h.r3, h.ft0.set_ne n56, h.fs0.set, h.ft1.set_ne (Ne.symm n67), h.fs1.set_ne (Ne.symm n68), h.nd⟩
theorem PS.set_t1 (h : PS x r ic oc bc pb n cap t0 s0 t1 s1 X K b a0 c0 a1 c1) (v : Int) : PS (x.setCell (th t1 0) (.int .i64 v)) r ic oc bc pb n cap t0 s0 t1 s1 X K b a0 c0 v c1 := by
  have nd := h.nd
  simp only [List.nodup_cons, List.mem_cons, List.not_mem_nil, or_false, not_or, not_false_eq_true, List.nodup_nil, and_true] at nd
  obtain ⟨⟨n01, n02, n03, n04, n05, n06, n07, n08⟩, ⟨n12, n13, n14, n15, n16, n17, n18⟩, ⟨n23, n24, n25, n26, n27, n28⟩, ⟨n34, n35, n36, n37, n38⟩, ⟨n45, n46, n47, n48⟩, ⟨n56, n57, n58⟩, ⟨n67, n68⟩, n78⟩ := nd
  exact ⟨(heap_set_ne n07).trans h.blk, h.fic.set_ne n27, h.foc.set_ne n37, h.fbc.set_ne n47, cell_setCell_ne (th_ne n17) h.r0, cell_setCell_ne (th_ne n17) h.r1, cell_setCell_ne (th_ne n17) h.r2, cell_setCell_ne (th_ne n17) h.r3, h.ft0.set_ne n57, h.fs0.set_ne n67, h.ft1.set, h.fs1.set_ne (Ne.symm n78), h.nd⟩
theorem PS.set_s1 (h : PS x r ic oc bc pb n cap t0 s0 t1 s1 X K b a0 c0 a1 c1) (v : Int) : PS (x.setCell (th s1 0) (.int .i64 v)) r ic oc bc pb n cap t0 s0 t1 s1 X K b a0 c0 a1 v := by
  have nd := h.nd
  simp only [List.nodup_cons, List.mem_cons, List.not_mem_nil, or_false, not_or, not_false_eq_true, List.nodup_nil, and_true] at nd
  obtain ⟨⟨n01, n02, n03, n04, n05, n06, n07, n08⟩, ⟨n12, n13, n14, n15, n16, n17, n18⟩, ⟨n23, n24, n25, n26, n27, n28⟩, ⟨n34, n35, n36, n37, n38⟩, ⟨n45, n46, n47, n48⟩, ⟨n56, n57, n58⟩, ⟨n67, n68⟩, n78⟩ := nd
  exact ⟨(heap_set_ne n08).trans h.blk, h.fic.set_ne n28, h.foc.set_ne n38, h.fbc.set_ne n48, cell_setCell_ne (th_ne n18) h.r0, cell_setCell_ne (th_ne n18) h.r1, cell_setCell_ne (th_ne n18) h.r2, cell_setCell_ne (th_ne n18) h.r3, h.ft0.set_ne n58, h.fs0.set_ne n68, h.ft1.set_ne n78, h.fs1.set, h.nd⟩
set_option maxHeartbeats 4000000 in
theorem atP_J {j : Nat} {k : Int} (ho : x.heap[r]? = some (.cells #[P0 ic, P0 oc, P0 bc, .slice (some ⟨pb, 0, none⟩) n cap] 147 (0, 0))) (hj : bits .and .i64 k (wrap64 (↑n - 1)) = (j : Int)) (hn : j < n)
    (h : JG Try.prog Post C (G (c.finish (.pointer (some ⟨pb, j * 2, none⟩))) cs) x) :
    JG Try.prog Post C (G (Frame.enter Try.prog 116 #[P0 r, .int .i64 k] .normal) (c :: cs)) x := by
  refine enterN Try.func116 (by rfl) (by rfl) ?_
  simp only [Try.f116, Option.getD_some]
  walk_nrm
  have h2 : x.cell? (th r 3) = some (.slice (some ⟨pb, 0, none⟩) n cap) := cell_obj ho 3
  repeat first
    | refine JG.seq ?_
    | refine JG.skip ?_
    | refine JG.inBlock ?_
    | refine JG.block ?_
    | refine JG.done ?_
    | refine JG.label ?_
    | refine JG.condT rfl ?_
    | refine JG.condF rfl ?_
    | (refine JG.region ?_; simp only [List.size_toArray, List.length_cons, List.length_nil, Nat.reduceAdd, Nat.zero_add, List.range, List.range.loop])
    | (refine JG.unwanted rfl (by rfl) ?_; try walk_nrm)
    | (refine JG.op (F := F0) stands0 (fun h => by cases h) rfl rfl (by rfl) (by decide) (fun K E hK hE τ d => ?_); go_simp; refine hK _ _ (JG.tap ?_); clear hK hE K E τ d; try walk_nrm)
    | (refine JG.op (F := F0) stands0 (fun h => by cases h) rfl rfl (by rfl) (by decide) (fun K E hK hE τ d => ?_); have hfact := (under_cell _ τ d _).trans (h2); go_simp; refine hK _ _ (JG.tap ?_); clear hfact hK hE K E τ d; try walk_nrm)
  refine JG.code (closedG _) (by kernel_rfl) rfl (.inr (by kernel_rfl)) rfl (fun K R hK hR τ => ?_)
  replace hK := Lib.hid hK
  clear hR
  have k2 : (under x τ 0).cell? (th r 3) = some (.slice (some ⟨pb, 0, none⟩) n cap) := h2
  have hrb : r < (under x τ 0).heap.size := cell_lt k2
  have hi0 : 0 ≤ bits .and .i64 k (wrap64 (↑n - 1)) := by rw [hj]; omega
  have hi1 : bits .and .i64 k (wrap64 (↑n - 1)) < (n : Int) := by rw [hj]; omega
  have he : (bits .and .i64 k (wrap64 (↑n - 1))).toNat = j := by rw [hj]; rfl
  rw [← he] at h
  clear hj he
  replace h := Lib.hid h
  go_region
  refine hK.out _ _ (JG.tap (x := x) (τ := τ) (d := 1) ?_)
  clear hK k2 hrb K R
  refine JG.ret ?_
  exact JG.leave rfl rfl Try.func116 (fun τ d => results_tmp (t := 4) rfl _ _ _) h.out
theorem pnone_J (h0 : x.cell? (th r 0) = some (P0 ic)) (h : JG Try.prog Post C (G (c.finish (.bool false)) cs) x) : JG Try.prog Post C (G (Frame.enter Try.prog 115 #[P0 r] .normal) (c :: cs)) x := by
  refine enterN Try.func115 (by rfl) (by rfl) ?_
  simp only [Try.f115, Option.getD_some]
  walk_nrm
  repeat first
    | refine JG.seq ?_
    | refine JG.skip ?_
    | refine JG.inBlock ?_
    | refine JG.block ?_
    | refine JG.done ?_
    | refine JG.label ?_
    | refine JG.condT rfl ?_
    | refine JG.condF rfl ?_
    | (refine JG.region ?_; simp only [List.size_toArray, List.length_cons, List.length_nil, Nat.reduceAdd, Nat.zero_add, List.range, List.range.loop])
    | (refine JG.unwanted rfl (by rfl) ?_; try walk_nrm)
    | (refine JG.op (F := F0) stands0 (fun h => by cases h) rfl rfl (by rfl) (by decide) (fun K E hK hE τ d => ?_); go_simp; refine hK _ _ (JG.tap ?_); clear hK hE K E τ d; try walk_nrm)
    | (refine JG.op (F := F0) stands0 (fun h => by cases h) rfl rfl (by rfl) (by decide) (fun K E hK hE τ d => ?_); have hfact := (under_cell _ τ d _).trans (h0); go_simp; refine hK _ _ (JG.tap ?_); clear hfact hK hE K E τ d; try walk_nrm)
  refine JG.ret ?_
  exact JG.leave rfl rfl Try.func115 (fun τ d => results_tmp (t := 2) rfl _ _ _) h
theorem bell_J (h0 : x.cell? (th r 0) = some (P0 ic)) (h2 : x.cell? (th r 2) = some (P0 bc)) (h : JG Try.prog Post C (G (c.finish (P0 bc)) cs) x) : JG Try.prog Post C (G (Frame.enter Try.prog 58 #[P0 r] .normal) (c :: cs)) x := by
  refine enterN Try.func58 (by rfl) (by rfl) ?_
  simp only [Try.f58, Option.getD_some]
  walk_nrm
  repeat first
    | refine JG.seq ?_
    | refine JG.skip ?_
    | refine JG.inBlock ?_
    | refine JG.block ?_
    | refine JG.done ?_
    | refine JG.label ?_
    | refine JG.condT rfl ?_
    | refine JG.condF rfl ?_
    | (refine JG.region ?_; simp only [List.size_toArray, List.length_cons, List.length_nil, Nat.reduceAdd, Nat.zero_add, List.range, List.range.loop])
    | (refine JG.unwanted rfl (by rfl) ?_; try walk_nrm)
    | (refine JG.op (F := F0) stands0 (fun h => by cases h) rfl rfl (by rfl) (by decide) (fun K E hK hE τ d => ?_); go_simp; refine hK _ _ (JG.tap ?_); clear hK hE K E τ d; try walk_nrm)
    | (refine JG.op (F := F0) stands0 (fun h => by cases h) rfl rfl (by rfl) (by decide) (fun K E hK hE τ d => ?_); have hfact := (under_cell _ τ d _).trans (h0); go_simp; refine hK _ _ (JG.tap ?_); clear hfact hK hE K E τ d; try walk_nrm)
    | (refine JG.op (F := F0) stands0 (fun h => by cases h) rfl rfl (by rfl) (by decide) (fun K E hK hE τ d => ?_); have hfact := (under_cell _ τ d _).trans (h2); go_simp; refine hK _ _ (JG.tap ?_); clear hfact hK hE K E τ d; try walk_nrm)
  refine JG.call (f := 115) (args := #[P0 r]) rfl (by rfl) (by decide) (fun w => ?_) (fun w => ?_) ?_
  · obtain ⟨fn, h1, h2, h3⟩ : HasBody 115 := ⟨_, Try.func115, by kernel_rfl, by kernel_rfl⟩
    have h4 : ¬ fn.name = "runtime.NumGoroutine" := by simpa using h2
    have h5 : ¬ fn.body = none := by intro e; rw [e] at h3; cases h3
    simp [go_sem, execOp, Act.eval, resolve, Deferred.ofValue, invoke, callFunc, h1, h4, h5]
  · obtain ⟨fn, h1, h2, h3⟩ : HasBody 115 := ⟨_, Try.func115, by kernel_rfl, by kernel_rfl⟩
    have h4 : ¬ fn.name = "runtime.NumGoroutine" := by simpa using h2
    have h5 : ¬ fn.body = none := by intro e; rw [e] at h3; cases h3
    simp [go_sem, execOp, Act.eval, resolve, Deferred.ofValue, invoke, callFunc, h1, h4, h5]
  refine pnone_J h0 ?_
  rw [Frame.finish_at]
  walk_nrm
  repeat first
    | refine JG.seq ?_
    | refine JG.skip ?_
    | refine JG.inBlock ?_
    | refine JG.block ?_
    | refine JG.done ?_
    | refine JG.label ?_
    | refine JG.condT rfl ?_
    | refine JG.condF rfl ?_
    | (refine JG.region ?_; simp only [List.size_toArray, List.length_cons, List.length_nil, Nat.reduceAdd, Nat.zero_add, List.range, List.range.loop])
    | (refine JG.unwanted rfl (by rfl) ?_; try walk_nrm)
    | (refine JG.op (F := F0) stands0 (fun h => by cases h) rfl rfl (by rfl) (by decide) (fun K E hK hE τ d => ?_); go_simp; refine hK _ _ (JG.tap ?_); clear hK hE K E τ d; try walk_nrm)
    | (refine JG.op (F := F0) stands0 (fun h => by cases h) rfl rfl (by rfl) (by decide) (fun K E hK hE τ d => ?_); have hfact := (under_cell _ τ d _).trans (h0); go_simp; refine hK _ _ (JG.tap ?_); clear hfact hK hE K E τ d; try walk_nrm)
    | (refine JG.op (F := F0) stands0 (fun h => by cases h) rfl rfl (by rfl) (by decide) (fun K E hK hE τ d => ?_); have hfact := (under_cell _ τ d _).trans (h2); go_simp; refine hK _ _ (JG.tap ?_); clear hfact hK hE K E τ d; try walk_nrm)
  refine JG.ret ?_
  exact JG.leave rfl rfl Try.func58 (fun τ d => results_tmp (t := 2) rfl _ _ _) h
end
end Go.Proofs.Ytecmobjiepgfjaa

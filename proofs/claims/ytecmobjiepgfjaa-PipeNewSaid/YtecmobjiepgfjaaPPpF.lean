/- pipe.New under J: from the lone contract to a pipe at work. -/
import Derived.Test.YtecmobjiepgfjaaPPpA
import Derived.Test.YtecmobjiepgfjaaPPipeE
namespace Go.Proofs.Ytecmobjiepgfjaa
open Go.Conc Go.RowKit
open Go.ConcN (upd upd_same upd_ne)
set_option linter.unusedSimpArgs false
set_option linter.unusedVariables false
set_option maxRecDepth 100000
/-- What makes pipes. -/
noncomputable def makersP : List FuncId := [14, 80, 57]
theorem closedP (S : Prot) : Closed Try.prog S (FX makersP) := closedX S (by kernel_rfl)
/-- A pipe that New made, its bell b ahead of it or its own. -/
theorem making_ps {w y : World} {p i o b : Nat} {bs : List (Nat × Nat)} {v : Value} {bv : Int} (h : Making w y p i o (.pointer (some ⟨b, 0, none⟩)) bs v) (hl : 2 ≤ bs.length) (hb : FreeCell y b bv) (hbt : b < w.heap.size ∨ ∃ u, IsCell y b u) (hbn : b ∉ i :: o :: placeBlocks bs) :
    ∃ pb cap t0 s0 t1 s1, PS y p i o b pb bs.length cap t0 s0 t1 s1 0 0 bv 0 0 1 0 ∧ w.heap.size ≤ i ∧ w.heap.size ≤ o ∧ w.heap.size ≤ t0 ∧ w.heap.size ≤ s0 ∧ w.heap.size ≤ t1 ∧ w.heap.size ≤ s1 := by
  obtain ⟨h1, h2, h3, h4, h5, h6, h7, h8, h9⟩ := h
  obtain ⟨⟨t0, s0⟩, bs', rfl⟩ : ∃ a l, bs = a :: l := by cases bs with | nil => simp at hl | cons a l => exact ⟨a, l, rfl⟩
  obtain ⟨⟨t1, s1⟩, bs'', rfl⟩ : ∃ a l, bs' = a :: l := by cases bs' with | nil => simp at hl | cons a l => exact ⟨a, l, rfl⟩
  rcases h6.2 with ⟨_, h0⟩ | ⟨g, cap, cur, rfl, hbase, hg, _, _, hsz, htake⟩
  · simp at h0
  have hrow : ∀ j, j < 4 → cur[j]? = (placeVals ((t0, s0) :: (t1, s1) :: bs''))[j]? := fun j hj => by
    rw [← htake, List.getElem?_take_of_lt (by simp only [List.length_cons]; omega)]; simp
  have b4 : Blk y i _ _ := h4
  have b5 : Blk y o _ _ := h5
  have c0 := h7 0 t0 s0 rfl
  have c1 := h7 1 t1 s1 rfl
  have bg : Blk y g _ _ := hg
  have nbp : p ≠ b := by
    rcases hbt with h | ⟨u, hu⟩
    · omega
    · exact Blk.ne_ h2 (show Blk y b _ _ from hu) (by decide)
  have nbg : g ≠ b := by
    rcases hbt with h | ⟨u, hu⟩
    · omega
    · exact Blk.ne_ bg (show Blk y b _ _ from hu) (by decide)
  have q0 : Blk y t0 _ _ := c0.1
  have q1 : Blk y s0 _ _ := c0.2
  have q2 : Blk y t1 _ _ := c1.1
  have q3 : Blk y s1 _ _ := c1.2
  have m : ∀ q, q = i ∨ q = o ∨ q = t0 ∨ q = s0 ∨ q = t1 ∨ q = s1 → w.heap.size ≤ q := fun q hq => (h9 q (by simp only [placeBlocks, List.flatMap_cons, List.cons_append, List.nil_append, List.mem_cons]; rcases hq with h | h | h | h | h | h <;> simp [h])).1
  simp only [placeBlocks, List.flatMap_cons, List.cons_append, List.nil_append, List.nodup_cons, List.mem_cons, not_or] at h8 hbn
  obtain ⟨⟨d1, d2, d3, d4, d5, _⟩, ⟨d6, d7, d8, d9, _⟩, ⟨e1, e2, e3, _⟩, ⟨e4, e5, _⟩, ⟨e6, _⟩, _⟩ := h8
  obtain ⟨k1, k2, k3, k4, k5, k6, _⟩ := hbn
  refine ⟨g, cap, t0, s0, t1, s1, ⟨h2, h4.free, h5.free, hb, (cell_obj hg 0).trans (hrow 0 (by decide)), (cell_obj hg 1).trans (hrow 1 (by decide)), (cell_obj hg 2).trans (hrow 2 (by decide)), (cell_obj hg 3).trans (hrow 3 (by decide)), c0.1.free, c0.2.free, c1.1.free, c1.2.free, ?_⟩, m i (by simp), m o (by simp), m t0 (by simp), m s0 (by simp), m t1 (by simp), m s1 (by simp)⟩
  simp only [List.nodup_cons, List.mem_cons, List.not_mem_nil, or_false, not_or, not_false_eq_true, List.nodup_nil, and_true]
  exact ⟨⟨Blk.ne_ h2 bg (by decide), Blk.ne_ h2 b4 (by decide), Blk.ne_ h2 b5 (by decide), nbp, Blk.ne_ h2 q0 (by decide), Blk.ne_ h2 q1 (by decide), Blk.ne_ h2 q2 (by decide), Blk.ne_ h2 q3 (by decide)⟩,
    ⟨Blk.ne_ bg b4 (by decide), Blk.ne_ bg b5 (by decide), nbg, Blk.ne_ bg q0 (by decide), Blk.ne_ bg q1 (by decide), Blk.ne_ bg q2 (by decide), Blk.ne_ bg q3 (by decide)⟩,
    ⟨d1, fun e => k1 e.symm, d2, d3, d4, d5⟩, ⟨fun e => k2 e.symm, d6, d7, d8, d9⟩, ⟨k3, k4, k5, k6⟩, ⟨e1, e2, e3⟩, ⟨e4, e5⟩, e6⟩
section
variable {Post : Value → World → Prop} {C : Ctx} {x : World} {c : Frame} {cs : List Frame} {b n : Nat} {bv : Int}
theorem pipeNew_J (h2 : 2 ≤ n) (h4 : n ≤ 4096) (hb : bits BinOp.and IntKind.i64 n (n - 1) = 0) (hc : FreeCell x b bv)
    (h : ∀ y p i o pb cap t0 s0 t1 s1, OldStand x y → PS y p i o b pb n cap t0 s0 t1 s1 0 0 bv 0 0 1 0 → x.heap.size ≤ i ∧ x.heap.size ≤ o ∧ x.heap.size ≤ t0 ∧ x.heap.size ≤ s0 ∧ x.heap.size ≤ t1 ∧ x.heap.size ≤ s1 → JG Try.prog Post C (G (c.finish (.tuple #[P0 p, .int .i64 0])) cs) y) :
    JG Try.prog Post C (G (Frame.enter Try.prog 57 #[.int .i64 n, P0 b] .normal) (c :: cs)) x := by
  refine JG.calls (F := FX makersP) (Q := fun u y => ∃ p i o pb cap t0 s0 t1 s1, u = .tuple #[P0 p, .int .i64 0] ∧ OldStand x y ∧ PS y p i o b pb n cap t0 s0 t1 s1 0 0 bv 0 0 1 0 ∧ x.heap.size ≤ i ∧ x.heap.size ≤ o ∧ x.heap.size ≤ t0 ∧ x.heap.size ≤ s0 ∧ x.heap.size ≤ t1 ∧ x.heap.size ≤ s1) (closedP _) (by kernel_rfl) (fun τ => ?_) (fun u y hq => ?_)
  · refine (pipe_new n h2 h4 hb b _).mono ?_
    rintro e y ⟨p, i, o, bs, v, rfl, rfl, hM⟩
    have hlt : b < x.heap.size := cell_lt (a := th b 0) hc.v
    have ho : OldStand x y := ⟨hM.1.size, hM.1.block⟩
    have hn : b ∉ i :: o :: placeBlocks bs := fun hm => by
      have := (hM.2.2.2.2.2.2.2.2 b hm).1
      have h3 : (under x τ 0).heap.size = x.heap.size := rfl
      omega
    obtain ⟨pb, cap, t0, s0, t1, s1, hP, hl⟩ := making_ps hM h2 (ho.free hc) (.inl hlt) hn
    exact ⟨_, rfl, p, i, o, pb, cap, t0, s0, t1, s1, rfl, ho, hP, hl⟩
  · obtain ⟨p, i, o, pb, cap, t0, s0, t1, s1, rfl, ho, hP, hl⟩ := hq
    exact h y p i o pb cap t0 s0 t1 s1 ho hP hl
theorem pipeNewNil_J (h2 : 2 ≤ n) (h4 : n ≤ 4096) (hb : bits BinOp.and IntKind.i64 n (n - 1) = 0)
    (h : ∀ y p i o b pb cap t0 s0 t1 s1, OldStand x y → PS y p i o b pb n cap t0 s0 t1 s1 0 0 0 0 0 1 0 → x.heap.size ≤ b → x.heap.size ≤ i ∧ x.heap.size ≤ o ∧ x.heap.size ≤ t0 ∧ x.heap.size ≤ s0 ∧ x.heap.size ≤ t1 ∧ x.heap.size ≤ s1 → JG Try.prog Post C (G (c.finish (.tuple #[P0 p, .int .i64 0])) cs) y) :
    JG Try.prog Post C (G (Frame.enter Try.prog 57 #[.int .i64 n, .pointer none] .normal) (c :: cs)) x := by
  refine JG.calls (F := FX makersP) (Q := fun u y => ∃ p i o b pb cap t0 s0 t1 s1, u = .tuple #[P0 p, .int .i64 0] ∧ OldStand x y ∧ PS y p i o b pb n cap t0 s0 t1 s1 0 0 0 0 0 1 0 ∧ x.heap.size ≤ b ∧ x.heap.size ≤ i ∧ x.heap.size ≤ o ∧ x.heap.size ≤ t0 ∧ x.heap.size ≤ s0 ∧ x.heap.size ≤ t1 ∧ x.heap.size ≤ s1) (closedP _) (by kernel_rfl) (fun τ => ?_) (fun u y hq => ?_)
  · refine (pipe_new_nilB n h2 h4 hb _).mono ?_
    rintro e y ⟨⟨p, i, o, bs, v, rfl, rfl, hM, hnb⟩, hbell⟩
    have ho : OldStand x y := ⟨hM.1.size, hM.1.block⟩
    obtain ⟨pb, cap, t0, s0, t1, s1, hP, hl⟩ := making_ps hM h2 hbell.free (.inr ⟨_, hbell⟩) hnb
    exact ⟨_, rfl, p, i, o, x.heap.size + 3, pb, cap, t0, s0, t1, s1, rfl, ho, hP, Nat.le_add_right _ _, hl⟩
  · obtain ⟨p, i, o, b, pb, cap, t0, s0, t1, s1, rfl, ho, hP, hb, hl⟩ := hq
    exact h y p i o b pb cap t0 s0 t1 s1 ho hP hb hl
end
end Go.Proofs.Ytecmobjiepgfjaa

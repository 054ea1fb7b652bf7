/- look, free, over two cases that receive. Conditions: what the blocks hold. -/
import Derived.Test.YtdbllffkpkkggaaChoiceB
import Derived.WalkMore
namespace Go.Proofs.Ytdbllffkpkkggaa
open Go.RowKit Go.MuLone
set_option maxRecDepth 100000

theorem SameHeap.below {a b : World} (h : SameHeap a b) : Below a.heap.size a b := ⟨h.2.1, h.2.2.1, h.2.2.2, by rw [h.1]; exact Nat.le_refl _, fun q _ => by rw [h.1]⟩
theorem PipeAt.below {a b : World} {B : Nat} {p i o bl g c t0 s0 t1 s1 : Nat} (k : PipeAt a p i o bl g c t0 s0 t1 s1) (h : Below B a b) (hp : p < B) (hg : g < B) : PipeAt b p i o bl g c t0 s0 t1 s1 := by
  obtain ⟨h1, cs, h2, h3⟩ := k
  exact ⟨h1.below h hp, cs, h2.below h hg, h3⟩
theorem recvWorld_size (w : World) (o b t0 : Nat) (bx : Int) : (recvWorld w o b t0 bx).heap.size = w.heap.size := by simp [recvWorld]
theorem below_recv {B : Nat} {a b : World} (h : Below B a b) {o bl t0 : Nat} {x y z : Int} (co : IsCell a o x) (ct : IsCell a t0 y) (cb : IsCell a bl z) (n1 : o ≠ t0) (n2 : o ≠ bl) (n3 : t0 ≠ bl) (ho : o < B) (ht : t0 < B) (hb : bl < B) (bx : Int) :
    Below B (recvWorld a o bl t0 bx) (recvWorld b o bl t0 bx) := by
  unfold recvWorld
  exact below_set (below_set (below_set h co ho _) (IsCell.far ct n1.symm _) ht _) (IsCell.far (IsCell.far cb n2.symm _) n3.symm _) hb _
theorem blk_recv {w : World} {q : Nat} {t : TypeId} {cs : Array Value} (h : Blk w q t cs) {o b t0 : Nat} (h1 : q ≠ o) (h2 : q ≠ b) (h3 : q ≠ t0) (bx : Int) : Blk (recvWorld w o b t0 bx) q t cs :=
  ((h.far (p := ⟨o, 0, none⟩) h1 _).far (p := ⟨t0, 0, none⟩) h3 _).far (p := ⟨b, 0, none⟩) h2 _

theorem thrice (w : World) (a b c : Obj) : Below w.heap.size w (((w.alloc a).alloc b).alloc c) := (((Below.refl _ _).alloc (Nat.le_refl _) _).alloc (by simp) _).alloc (by simp; omega) _
set_option maxHeartbeats 4000000 in
theorem look_hit (f : Nat) (kk : Int) (hk : (kk = 1 ∧ f = 0) ∨ (kk = 2 ∧ f = 1)) (gs cap p i o b g c t0 s0 t1 s1 : Nat) (u v bx : Int) (w : World) (h : PipeAt w p i o b g c t0 s0 t1 s1) (co : IsCell w o 0) (ct : IsCell w t0 1) (cs : IsCell w s0 v) (cb : IsCell w b bx)
    (n1 : o ≠ s0) (n2 : o ≠ t0) (n3 : o ≠ b) (n6 : t0 ≠ b) (q0 : w.cell? ⟨gs, f * 3, none⟩ = some (.pointer (some ⟨p, 0, none⟩))) (q1 : w.cell? ⟨gs, f * 3 + 1, none⟩ = some (.bool false)) (q2 : w.cell? ⟨gs, f * 3 + 2, none⟩ = some (.int .i64 u)) :
    Calls Try.prog 20 #[.pointer none, .slice (some ⟨gs, 0, none⟩) 2 cap, .int .i64 kk] w fun e w' => e = .returned (.tuple #[.agg #[.int .i64 f, .int .i64 v, .bool true, .int .i64 0], .bool true]) ∧ Below w.heap.size (recvWorld w o b t0 bx) w' := by
  have HP := Lib.hid h
  have CO := Lib.hid co
  have CT := Lib.hid ct
  have CS := Lib.hid cs
  have CB := Lib.hid cb
  have N1 := Lib.hid n1
  have N2 := Lib.hid n2
  have N3 := Lib.hid n3
  have N6 := Lib.hid n6
  have hgs := World.block_lt_of_cell? w _ q0
  have HPL : Hid (p < w.heap.size ∧ g < w.heap.size) := Lib.hid ⟨h.1.lt, by obtain ⟨_, cs, h2, _⟩ := h; exact h2.lt⟩
  clear h co ct cs cb n1 n2 n3 n6
  rcases hk with ⟨rfl, rfl⟩ | ⟨rfl, rfl⟩
  all_goals
    simp only [Nat.reduceMul, Nat.reduceAdd] at q0 q1 q2
    go_enter Try.func20, Try.ntmps20
    go_wp2_with fail
    go_step3
    go_wp2_with fail
    go_step3
    go_wp2_with fail
    refine wp_loop_rounds 1 ?_
    rw [rounds_succ]
    go_wp2_with fail
    have HLT := Lib.hid (And.intro (Blk.lt CO.out) (And.intro (Blk.lt CT.out) (And.intro (Blk.lt CS.out) (Blk.lt CB.out))))
    refine (recv_first p i o b g c t0 s0 t1 s1 v bx _ (HP.out.below (thrice _ _ _ _) HPL.out.1 HPL.out.2) (Blk.below CO.out (thrice _ _ _ _) HLT.out.1) (Blk.below CT.out (thrice _ _ _ _) HLT.out.2.1) (Blk.below CS.out (thrice _ _ _ _) HLT.out.2.2.1) (Blk.below CB.out (thrice _ _ _ _) HLT.out.2.2.2) N1.out N2.out N3.out N6.out).mono ?_
    rintro e w2 ⟨rfl, hS⟩
    have HS := Lib.hid hS
    clear hS
    have HBB := Lib.hid ((below_recv (thrice w _ _ _) CO.out CT.out CB.out N2.out N3.out N6.out HLT.out.1 HLT.out.2.1 HLT.out.2.2.2 bx).trans ((HS.out.below).mono (by rw [recvWorld_size]; simp; omega)))
    have BR : Hid (Blk w2 w.heap.size 74 _) := Lib.hid (HS.out.blk (blk_recv (((Blk.new w _ _).alloc _).alloc _) (by have := HLT.out; omega) (by have := HLT.out; omega) (by have := HLT.out; omega) bx))
    have BX : Hid (Blk w2 (w.heap.size + 1) 74 _) := Lib.hid (HS.out.blk (blk_recv ((Blk.new' _ _ _ _ (by simp)).alloc _) (by have := HLT.out; omega) (by have := HLT.out; omega) (by have := HLT.out; omega) bx))
    have BC : Hid (Blk w2 (w.heap.size + 1 + 1) 36 _) := Lib.hid (HS.out.blk (blk_recv (Blk.new' _ _ _ _ (by simp)) (by have := HLT.out; omega) (by have := HLT.out; omega) (by have := HLT.out; omega) bx))
    have x0 := BX.out.cell 0
    have x2 := BX.out.cell 2
    have x3 := BX.out.cell 3
    have x1 := BX.out.cell 1
    have r0 := BR.out.cell 0
    have r1 := BR.out.cell 1
    have r2 := BR.out.cell 2
    have r3 := BR.out.cell 3
    have c1 := BC.out.cell 1
    have fx := fun i => BX.out.frozen i
    have fr := fun i => BR.out.frozen i
    simp at x0 x1 x2 x3 c1 r0 r1 r2 r3
    go_wp2_with fail
    try rw [Exit.noGoto_ret]
    refine bodyPost_ret (v := .tuple #[.agg #[.int .i64 _, .int .i64 v, .bool true, .int .i64 0], .bool true]) (by simp [results, Try.results20, go_sem, r0, r1, r2, r3]) rfl ⟨rfl, ?_⟩
    exact ((((HBB.out.setCell (by simp) _).setCell (by simp) _).setCell (by simp) _).setCell (by simp) _).setCell (by simp) _
end Go.Proofs.Ytdbllffkpkkggaa

/- The contracts of package list at token's entry, called free (by a thread that is nil). Conditions: the pointer leads to a list that New made. -/
import Derived.Test.YtkgdpcmbbelipaaListB
import Derived.Deep.RegionWith
import Derived.Laws.MakeOwn
import Derived.IntWalk
namespace Go.Proofs.Ytkgdpcmbbelipaa
open Go.RowKit Go.MuLone
set_option maxRecDepth 100000
theorem infoPlaceE : (Try.prog.info? 118).map (fun i => (i.zero, i.size, i.bytes)) = some (some (.agg #[.pointer none, .nilFunc, .int .i64 0]), 3, 24) := by kernel_rfl

/-- Block l is a list whose cells are c1 (last) and c2 (head), whose places are block p: n of them, as cs says. -/
def ListAtE (w : World) (l c1 c2 p : Nat) (last head : Int) (n : Nat) (cs : Array Value) : Prop :=
  Blk w l 116 #[.pointer (some ⟨c1, 0, none⟩), .pointer (some ⟨c2, 0, none⟩), .slice (some ⟨p, 0, none⟩) n n] ∧ IsCell w c1 last ∧ IsCell w c2 head ∧ Blk w p 118 cs ∧ cs.size = n * 3 ∧ c1 ≠ c2
def NewListE (w : World) (m : Nat) (e : Ending) (w' : World) : Prop :=
  ∃ l c1 c2 p, e = .returned (.pointer (some ⟨l, 0, none⟩)) ∧ Below w.heap.size w w' ∧ w.heap.size ≤ l ∧ w.heap.size ≤ c1 ∧ w.heap.size ≤ c2 ∧ w.heap.size ≤ p ∧
    ListAtE w' l c1 c2 p 0 0 (m + 1) (madeCells #[.pointer none, .nilFunc, .int .i64 0] ((m + 1) * 3))

theorem newListE_mk (w : World) (m : Nat) (w0 : World) (l c1 c2 p : Nat) (hl : l = w0.heap.size) (hb : Below w.heap.size w w0) (h1 : w.heap.size ≤ c1) (h2 : w.heap.size ≤ c2) (h3 : w.heap.size ≤ p) (i1 : Blk w0 c1 96 #[.int .i64 0, .bool true, .int .i32 0, .int .u32 0, .chan none]) (i2 : Blk w0 c2 96 #[.int .i64 0, .bool true, .int .i32 0, .int .u32 0, .chan none])
    (ip : Blk w0 p 118 (madeCells #[.pointer none, .nilFunc, .int .i64 0] ((m + 1) * 3))) (hne : c1 ≠ c2) :
    NewListE w m (.returned (.pointer (some ⟨l, 0, none⟩))) (w0.alloc (.cells #[.pointer (some ⟨c1, 0, none⟩), .pointer (some ⟨c2, 0, none⟩), .slice (some ⟨p, 0, none⟩) (m + 1) (m + 1)] 116)).drew := by
  subst hl
  exact ⟨w0.heap.size, c1, c2, p, rfl, (hb.alloc hb.size _).drew, hb.size, h1, h2, h3, Blk.new _ _ _, Blk.alloc i1 _, Blk.alloc i2 _, Blk.alloc ip _, by simp [madeCells], hne⟩

set_option maxHeartbeats 1000000 in
theorem list_newE (m : Nat) (hm : m ≤ 4096) (w : World) :
    Calls Try.prog 33 #[.int .i64 (m : Int)] w (NewListE w m) := by
  have h1 : decide ((m : Int) < 0) = false := by simp
  have h2 : decide ((4096 : Int) < m) = false := by simp; omega
  obtain ⟨i0, hi0, hz0, hz1, hz2⟩ := info_parts infoPlaceE
  have ec : IntKind.i64.wrap ((m : Int) + 1) = ((m + 1 : Nat) : Int) := (IntWalk.i64_in _ (by omega)).trans (by omega)
  have hmk := fun W => run_make_rowN (P := Try.prog) 114 118 i0 _ Try.underlying114 hi0 hz0 .i64 .i64 (m + 1) (m + 1) (Nat.le_refl _) (by rw [hz2]; omega) (by omega) W
  rw [hz1, ← ec] at hmk
  clear ec
  go_enter Try.func33, Try.ntmps33
  go_wp2_with fail
  go_region_with (go_at_call 21; refine (cell_new _ _).mono ?_; rintro e w' ⟨rfl, rfl⟩)
  all_goals go_wp2
  all_goals go_ret
  all_goals
    refine newListE_mk w m _ _ _ _ _ ?_ ?_ ?_ ?_ ?_ ?_ ?_ ?_ ?_
    · simp
    · exact (((Below.refl _ _).alloc (Nat.le_refl _) _).alloc (by simp) _).alloc (by simp; omega) _
    · omega
    · omega
    · omega
    · first | (refine Blk.new' _ _ _ _ ?_; simp; done) | (refine Blk.alloc (Blk.new' _ _ _ _ ?_) _; simp; done) | (refine Blk.alloc (Blk.alloc (Blk.new' _ _ _ _ ?_) _) _; simp; done)
    · first | (refine Blk.new' _ _ _ _ ?_; simp; done) | (refine Blk.alloc (Blk.new' _ _ _ _ ?_) _; simp; done) | (refine Blk.alloc (Blk.alloc (Blk.new' _ _ _ _ ?_) _) _; simp; done)
    · first | (refine Blk.new' _ _ _ _ ?_; simp; done) | (refine Blk.alloc (Blk.new' _ _ _ _ ?_) _; simp; done) | (refine Blk.alloc (Blk.alloc (Blk.new' _ _ _ _ ?_) _) _; simp; done)
    · omega
end Go.Proofs.Ytkgdpcmbbelipaa

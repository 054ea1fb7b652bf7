/- The contracts of package list at int64, called free (by a thread that is nil). Conditions: the pointer leads to a list that New made. -/
import Derived.Test.YtkgdpcmbbelipaaCell
import Derived.Test.YtkgdpcmbbelipaaMem
import Derived.Deep.RegionWith
import Derived.Laws.MakeOwn
import Derived.IntWalk
namespace Go.Proofs.Ytkgdpcmbbelipaa
open Go.RowKit Go.MuLone
set_option maxRecDepth 100000
theorem run_make_rowN {P : Program} (t e : TypeId) (i : TypeInfo) (z : Value) (ht : P.underlying t = some (.slice e)) (hi : P.info? e = some i) (hz : i.zero = some z)
    (kl kc : IntKind) (n c : Nat) (hnc : n ≤ c) (hbytes : i.bytes * c ≤ 281474976710656) (h63 : c ≤ 9223372036854775807) (w : World) :
    (Instr.makeSlice t (.int kl (n : Int)) (.int kc (c : Int))).run P w = .ok (.slice (some ⟨w.heap.size, 0, none⟩) n c) (w.alloc (.cells (madeCells z.cells (c * i.size)) e)) := by
  have hb : (i.bytes : Int) * (c : Int) ≤ 281474976710656 := by
    have h : ((i.bytes * c : Nat) : Int) ≤ 281474976710656 := by omega
    rwa [Int.natCast_mul] at h
  have hr := run_make (P := P) w t e i z ht hi hz kl kc n c (by omega) (by omega) hb (by omega)
  simp only [Int.toNat_natCast] at hr
  exact hr
theorem infoPlace : (Try.prog.info? 73).map (fun i => (i.zero, i.size, i.bytes)) = some (some (.agg #[.int .i64 0, .int .i64 0]), 2, 16) := by kernel_rfl

/-- Block l is a list whose cells are c1 (last) and c2 (head), whose places are block p: n of them, as cs says. -/
def ListAt (w : World) (l c1 c2 p : Nat) (last head : Int) (n : Nat) (cs : Array Value) : Prop :=
  Blk w l 27 #[.pointer (some ⟨c1, 0, none⟩), .pointer (some ⟨c2, 0, none⟩), .slice (some ⟨p, 0, none⟩) n n] ∧ IsCell w c1 last ∧ IsCell w c2 head ∧ Blk w p 73 cs ∧ cs.size = n * 2 ∧ c1 ≠ c2
def NewList (w : World) (m : Nat) (e : Ending) (w' : World) : Prop :=
  ∃ l c1 c2 p, e = .returned (.pointer (some ⟨l, 0, none⟩)) ∧ Below w.heap.size w w' ∧ w.heap.size ≤ l ∧ w.heap.size ≤ c1 ∧ w.heap.size ≤ c2 ∧ w.heap.size ≤ p ∧
    ListAt w' l c1 c2 p 0 0 (m + 1) (madeCells #[.int .i64 0, .int .i64 0] ((m + 1) * 2))

theorem newList_mk (w : World) (m : Nat) (w0 : World) (l c1 c2 p : Nat) (hl : l = w0.heap.size) (hb : Below w.heap.size w w0) (h1 : w.heap.size ≤ c1) (h2 : w.heap.size ≤ c2) (h3 : w.heap.size ≤ p) (i1 : Blk w0 c1 96 #[.int .i64 0, .bool true, .int .i32 0, .int .u32 0, .chan none]) (i2 : Blk w0 c2 96 #[.int .i64 0, .bool true, .int .i32 0, .int .u32 0, .chan none])
    (ip : Blk w0 p 73 (madeCells #[.int .i64 0, .int .i64 0] ((m + 1) * 2))) (hne : c1 ≠ c2) :
    NewList w m (.returned (.pointer (some ⟨l, 0, none⟩))) (w0.alloc (.cells #[.pointer (some ⟨c1, 0, none⟩), .pointer (some ⟨c2, 0, none⟩), .slice (some ⟨p, 0, none⟩) (m + 1) (m + 1)] 27)).drew := by
  subst hl
  exact ⟨w0.heap.size, c1, c2, p, rfl, (hb.alloc hb.size _).drew, hb.size, h1, h2, h3, Blk.new _ _ _, Blk.alloc i1 _, Blk.alloc i2 _, Blk.alloc ip _, by simp [madeCells], hne⟩

set_option maxHeartbeats 1000000 in
theorem list_new (m : Nat) (hm : m ≤ 4096) (w : World) :
    Calls Try.prog 6 #[.int .i64 (m : Int)] w (NewList w m) := by
  have h1 : decide ((m : Int) < 0) = false := by simp
  have h2 : decide ((4096 : Int) < m) = false := by simp; omega
  obtain ⟨i0, hi0, hz0, hz1, hz2⟩ := info_parts infoPlace
  have ec : IntKind.i64.wrap ((m : Int) + 1) = ((m + 1 : Nat) : Int) := (IntWalk.i64_in _ (by omega)).trans (by omega)
  have hmk := fun W => run_make_rowN (P := Try.prog) 25 73 i0 _ Try.underlying25 hi0 hz0 .i64 .i64 (m + 1) (m + 1) (Nat.le_refl _) (by rw [hz2]; omega) (by omega) W
  rw [hz1, ← ec] at hmk
  clear ec
  go_enter Try.func6, Try.ntmps6
  go_wp2_with fail
  go_region_with (go_at_call 21; refine (cell_new _ _).mono ?_; rintro e w' ⟨rfl, rfl⟩)
  all_goals go_wp2
  all_goals go_ret
  all_goals
    refine newList_mk w m _ _ _ _ _ ?_ ?_ ?_ ?_ ?_ ?_ ?_ ?_ ?_
    · simp
    · exact (((Below.refl _ _).alloc (Nat.le_refl _) _).alloc (by simp) _).alloc (by simp; omega) _
    · omega
    · omega
    · omega
    · first | (refine Blk.new' _ _ _ _ ?_; simp; done) | (refine Blk.alloc (Blk.new' _ _ _ _ ?_) _; simp; done) | (refine Blk.alloc (Blk.alloc (Blk.new' _ _ _ _ ?_) _) _; simp; done)
    · first | (refine Blk.new' _ _ _ _ ?_; simp; done) | (refine Blk.alloc (Blk.new' _ _ _ _ ?_) _; simp; done) | (refine Blk.alloc (Blk.alloc (Blk.new' _ _ _ _ ?_) _) _; simp; done)
    · first | (refine Blk.new' _ _ _ _ ?_; simp; done) | (refine Blk.alloc (Blk.new' _ _ _ _ ?_) _; simp; done) | (refine Blk.alloc (Blk.alloc (Blk.new' _ _ _ _ ?_) _) _; simp; done)
    · omega
end Go.Proofs.Ytkgdpcmbbelipaa

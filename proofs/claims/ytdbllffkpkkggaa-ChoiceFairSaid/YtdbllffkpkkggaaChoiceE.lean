/- Select and Try, free: what they answer where they are refused, and where a look finds. Conditions: what refused and look answer. -/
import Derived.Test.YtdbllffkpkkggaaChoiceD
namespace Go.Proofs.Ytdbllffkpkkggaa
open Go.RowKit Go.MuLone
set_option maxRecDepth 100000

def Fails (w : World) (k : Int) (e : Ending) (w' : World) : Prop := e = .returned (.tuple #[.int .i64 (-1), .int .i64 0, .bool false, .int .i64 k]) ∧ Below w.heap.size w w'
theorem select_refused (c l : Value) (k : Int) (hk : (k != 0) = true) (w : World) (hr : Calls Try.prog 19 #[c, l] w (Refused w k)) :
    Calls Try.prog 9 #[c, .pointer none, l] w (Fails w k) := by
  go_enter Try.func9, Try.ntmps9
  go_wp2_with fail
  refine hr.mono ?_
  rintro e w1 ⟨rfl, hb⟩
  have HB := Lib.hid hb
  clear hb
  go_wp2_with fail
  refine bodyPost_ret (v := .tuple #[.int .i64 (-1), .int .i64 0, .bool false, .int .i64 k]) (by simp [results, Try.results9, go_sem]) rfl ⟨rfl, HB.out⟩
theorem try_refused (c l : Value) (k : Int) (hk : (k != 0) = true) (w : World) (hr : Calls Try.prog 19 #[c, l] w (Refused w k)) :
    Calls Try.prog 10 #[c, .pointer none, l] w (Fails w k) := by
  go_enter Try.func10, Try.ntmps10
  go_wp2_with fail
  refine hr.mono ?_
  rintro e w1 ⟨rfl, hb⟩
  have HB := Lib.hid hb
  clear hb
  go_wp2_with fail
  refine bodyPost_ret (v := .tuple #[.int .i64 (-1), .int .i64 0, .bool false, .int .i64 k]) (by simp [results, Try.results10, go_sem]) rfl ⟨rfl, HB.out⟩

/-- A choice in block c: its bell's cell b, its ticket's cell tk. -/
def ChoiceAt (w : World) (c b tk : Nat) : Prop := Blk w c 59 #[.pointer (some ⟨b, 0, none⟩), .pointer (some ⟨tk, 0, none⟩)]
def Finds (B : Nat) (W : World) (i v : Int) (ok : Bool) (e : Ending) (w' : World) : Prop := e = .returned (.tuple #[.int .i64 i, .int .i64 v, .bool ok, .int .i64 0]) ∧ Below B W w'
def Looks (B : Nat) (W : World) (i v : Int) (ok done : Bool) (e : Ending) (w' : World) : Prop := e = .returned (.tuple #[.agg #[.int .i64 i, .int .i64 v, .bool ok, .int .i64 0], .bool done]) ∧ Below B W w'
set_option maxHeartbeats 1000000 in
theorem select_finds (c b tk : Nat) (l : Value) (x bx i v : Int) (w W : World) (hc : ChoiceAt w c b tk) (ht : IsCell w tk x) (hb : IsCell w b bx) (hn : b ≠ tk) (hnt : c ≠ tk) (hr : Calls Try.prog 19 #[.pointer (some ⟨c, 0, none⟩), l] w (Refused w 0))
    (hW : w.heap.size ≤ W.heap.size)
    (hl : ∀ w1, Below w.heap.size (w.setCell ⟨tk, 0, none⟩ (.int .i64 (wrap64 (x + 1)))) w1 → Calls Try.prog 20 #[.pointer none, l, .int .i64 (wrap64 (x + 1))] w1 (Looks w.heap.size W i v true true)) :
    Calls Try.prog 9 #[.pointer (some ⟨c, 0, none⟩), .pointer none, l] w (Finds w.heap.size W i v true) := by
  have HC := Lib.hid hc
  have HT := Lib.hid ht
  have HBE := Lib.hid hb
  have HL := Lib.hid hl
  clear hc ht hb hl
  go_enter Try.func9, Try.ntmps9
  go_wp2_with fail
  refine hr.mono ?_
  rintro e w1 ⟨rfl, hb1⟩
  have HB := Lib.hid hb1
  clear hb1
  have HC1 : Hid (ChoiceAt w1 c b tk) := Lib.hid (Blk.below HC.out HB.out HC.out.lt)
  have c0 := HC1.out.cell 0
  have c1 := HC1.out.cell 1
  simp at c0 c1
  go_wp2_with fail
  refine (cell_add tk x 1 _ (Blk.below HT.out HB.out (Blk.lt HT.out))).mono ?_
  rintro e w2 ⟨rfl, hw2⟩
  have HB2 := Lib.hid (show Below w.heap.size (w.setCell ⟨tk, 0, none⟩ (.int .i64 (wrap64 (x + 1)))) w2 from hw2 ▸ below_set HB.out HT.out (Blk.lt HT.out) _)
  have HC2 : Hid (ChoiceAt w2 c b tk) := Lib.hid (hw2 ▸ Blk.far HC1.out (p := ⟨tk, 0, none⟩) hnt _)
  have HE2 : Hid (IsCell w2 b bx) := Lib.hid (hw2 ▸ IsCell.far (Blk.below HBE.out HB.out (Blk.lt HBE.out)) hn _)
  clear hw2 c0 c1
  have c0 := HC2.out.cell 0
  simp at c0
  go_wp2_with fail
  refine wp_loop_rounds 1 ?_
  rw [rounds_succ]
  go_wp2_with fail
  refine (cell_load b bx _ HE2.out).mono ?_
  rintro e w' ⟨rfl, rfl⟩
  go_wp2_with fail
  refine (HL.out w2 HB2.out).mono ?_
  rintro e w3 ⟨rfl, hb3⟩
  have HB3 := Lib.hid hb3
  clear hb3
  go_wp2_with fail
  go_quiet (fail)
  go_wp2
  refine bodyPost_ret (v := .tuple #[.int .i64 i, .int .i64 v, .bool true, .int .i64 0]) (by simp [results, Try.results9, go_sem]) rfl ⟨rfl, ?_⟩
  exact below_drewN (HB3.out.alloc (Nat.le_trans hW HB3.out.size) _) _
set_option maxHeartbeats 1000000 in
theorem try_finds (c b tk : Nat) (l : Value) (x i v : Int) (ok done : Bool) (w W : World) (hc : ChoiceAt w c b tk) (ht : IsCell w tk x) (hr : Calls Try.prog 19 #[.pointer (some ⟨c, 0, none⟩), l] w (Refused w 0))
    (hW : w.heap.size ≤ W.heap.size)
    (hl : ∀ w1, Below w.heap.size (w.setCell ⟨tk, 0, none⟩ (.int .i64 (wrap64 (x + 1)))) w1 → Calls Try.prog 20 #[.pointer none, l, .int .i64 (wrap64 (x + 1))] w1 (Looks w.heap.size W i v ok done)) :
    Calls Try.prog 10 #[.pointer (some ⟨c, 0, none⟩), .pointer none, l] w (Finds w.heap.size W i v ok) := by
  have HC := Lib.hid hc
  have HT := Lib.hid ht
  have HL := Lib.hid hl
  clear hc ht hl
  go_enter Try.func10, Try.ntmps10
  go_wp2_with fail
  refine hr.mono ?_
  rintro e w1 ⟨rfl, hb1⟩
  have HB := Lib.hid hb1
  clear hb1
  have HC1 : Hid (ChoiceAt w1 c b tk) := Lib.hid (Blk.below HC.out HB.out HC.out.lt)
  have c0 := HC1.out.cell 0
  have c1 := HC1.out.cell 1
  simp at c0 c1
  go_wp2_with fail
  refine (cell_add tk x 1 _ (Blk.below HT.out HB.out (Blk.lt HT.out))).mono ?_
  rintro e w2 ⟨rfl, hw2⟩
  have HB2 := Lib.hid (show Below w.heap.size (w.setCell ⟨tk, 0, none⟩ (.int .i64 (wrap64 (x + 1)))) w2 from hw2 ▸ below_set HB.out HT.out (Blk.lt HT.out) _)
  clear hw2 c0 c1
  go_wp2_with fail
  refine (HL.out w2 HB2.out).mono ?_
  rintro e w3 ⟨rfl, hb3⟩
  have HB3 := Lib.hid hb3
  clear hb3
  go_wp2_with fail
  go_quiet (fail)
  go_wp2
  refine bodyPost_ret (v := .tuple #[.int .i64 i, .int .i64 v, .bool ok, .int .i64 0]) (by simp [results, Try.results10, go_sem]) rfl ⟨rfl, ?_⟩
  exact below_drewN (HB3.out.alloc (Nat.le_trans hW HB3.out.size) _) _
end Go.Proofs.Ytdbllffkpkkggaa

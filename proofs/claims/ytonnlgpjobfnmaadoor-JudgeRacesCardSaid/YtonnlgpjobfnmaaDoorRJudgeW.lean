/- The law's own 'lives' is true. Condition: Go's table of the powers of ten. -/
import Derived.Test.YtonnlgpjobfnmaaDoorRJudgeVa
import Derived.StillTailTactics
namespace Go.Proofs.YtonnlgpjobfnmaaDoor
open Go.RowKit
set_option maxRecDepth 100000
theorem liveL_wf : ∀ a, a ∈ liveL → a.wf := by simp [liveL, Acc.wf, i64in]
theorem liveM_wf : ∀ a, a ∈ liveM → a.wf := by simp [liveM, Acc.wf, i64in]
theorem liveH_wf (x : Int) (hx : i64of x) : ∀ a, a ∈ liveH x → a.wf := by
  simp only [i64of] at hx
  simp [liveH, Cal.wf, i64of]
  omega
theorem races_L {w : World} {e : Ending} {w' : World} (h : RacesPost liveL w e w') : Below w.heap.size w w' ∧ ∃ g cap, e = .returned (.tuple #[.slice (some ⟨g, 0, none⟩) 1 cap, .int .i64 0]) ∧ w'.cell? ⟨g, 0, none⟩ = some (.int .i64 0) ∧ w'.cell? ⟨g, 1, none⟩ = some (.int .i64 2) ∧ g < w'.heap.size := by
  obtain ⟨hb, v, he, ho⟩ := h
  rw [live_L.1] at he
  rw [live_L.2] at ho
  obtain ⟨g, cap, rfl, h1, _⟩ := ho.form (by decide)
  refine ⟨hb, g, cap, he, ?_, ?_, (ho.lt g rfl).2⟩
  · rw [ho.cellAt 0 (by decide)]; rfl
  · rw [ho.cellAt 1 (by decide)]; rfl
theorem races_M {w : World} {e : Ending} {w' : World} (h : RacesPost liveM w e w') : Below w.heap.size w w' ∧ ∃ a cap, e = .returned (.tuple #[.slice a 0 cap, .int .i64 0]) := by
  obtain ⟨hb, v, he, ho⟩ := h
  rw [live_M.1] at he
  rw [live_M.2] at ho
  obtain ⟨_, ⟨rfl, _⟩ | ⟨g, cap, cur, rfl, _⟩⟩ := ho
  · exact ⟨hb, none, 0, he⟩
  · exact ⟨hb, _, cap, he⟩
theorem lin_H {w : World} {e : Ending} {w' : World} (h : LinPost 1 (liveH 7) w e w') : Below w.heap.size w w' ∧ ∃ a cap, e = .returned (.tuple #[.slice a 2 cap, .bool true, .int .i64 0]) := by
  obtain ⟨hb, v, he, ho⟩ := h
  rw [live_H] at he ho
  obtain ⟨g, cap, rfl, h1, _⟩ := ho.form (by decide)
  exact ⟨hb, _, cap, he⟩
theorem lin_H8 {w : World} {e : Ending} {w' : World} (h : LinPost 1 (liveH 8) w e w') : Below w.heap.size w w' ∧ ∃ v, e = .returned (.tuple #[v, .bool false, .int .i64 0]) := by
  obtain ⟨hb, v, he, ho⟩ := h
  rw [live_H8] at he
  exact ⟨hb, v, he⟩
def LPost (w : World) (e : Ending) (w' : World) : Prop := Below w.heap.size w w' ∧ ∃ g cap, e = .returned (.tuple #[.slice (some ⟨g, 0, none⟩) 1 cap, .int .i64 0]) ∧ w'.cell? ⟨g, 0, none⟩ = some (.int .i64 0) ∧ w'.cell? ⟨g, 1, none⟩ = some (.int .i64 2) ∧ g < w'.heap.size
def MPost (w : World) (e : Ending) (w' : World) : Prop := Below w.heap.size w w' ∧ ∃ a cap, e = .returned (.tuple #[.slice a 0 cap, .int .i64 0])
def HPost (w : World) (e : Ending) (w' : World) : Prop := Below w.heap.size w w' ∧ ∃ a cap, e = .returned (.tuple #[.slice a 2 cap, .bool true, .int .i64 0])
def H8Post (w : World) (e : Ending) (w' : World) : Prop := Below w.heap.size w w' ∧ ∃ v, e = .returned (.tuple #[v, .bool false, .int .i64 0])
theorem live_l (b : Option Addr) (cap : Nat) (w : World) (h : LogAt w w.heap.size b liveL) : Calls Tryd.prog 34 #[.slice b 3 cap] w (LPost w) := (races_any b cap liveL w h (by decide)).mono fun _ _ h => races_L h
theorem live_m (b : Option Addr) (cap : Nat) (w : World) (h : LogAt w w.heap.size b liveM) : Calls Tryd.prog 34 #[.slice b 4 cap] w (MPost w) := (races_any b cap liveM w h (by decide)).mono fun _ _ h => races_M h
theorem live_h (b : Option Addr) (cap : Nat) (w : World) (h : CallsAt w w.heap.size b (liveH 7)) (hb : ∀ g off, b = some ⟨g, off, none⟩ → g < w.heap.size) (hT : Tens w) : Calls Tryd.prog 12 #[.int .i64 1, .slice b 2 cap] w (HPost w) := (linear_any 1 ⟨by omega, by omega⟩ b cap (liveH 7) (by decide) w h hb hT).mono fun _ _ h => lin_H h
theorem live_h8 (b : Option Addr) (cap : Nat) (w : World) (h : CallsAt w w.heap.size b (liveH 8)) (hb : ∀ g off, b = some ⟨g, off, none⟩ → g < w.heap.size) (hT : Tens w) : Calls Tryd.prog 12 #[.int .i64 1, .slice b 2 cap] w (H8Post w) := (linear_any 1 ⟨by omega, by omega⟩ b cap (liveH 8) (by decide) w h hb hT).mono fun _ _ h => lin_H8 h
def LivesPost (w : World) (e : Ending) (w' : World) : Prop := e = .returned (.bool true) ∧ Below w.heap.size w w'
set_option maxHeartbeats 1000000 in
theorem lives_any (w : World) (hT : Tens w) : Calls Tryd.prog 10 #[] w (LivesPost w) := by
  have HT := Lib.hid hT
  clear hT
  go_enter Tryd.func10, Tryd.ntmps10
  go_upto_region 2 with (fail)
  obtain ⟨w1, hw1⟩ : ∃ w1, w1 = w.alloc (.cells #[.int .i64 0, .int .i8 8, .int .i64 (-1), .int .i64 5, .int .i64 1, .int .i64 0, .int .i64 0, .bool false, .int .i64 1, .int .i8 1, .int .i64 0, .int .i64 0, .int .i64 0, .int .i64 0, .int .i64 0, .bool false, .int .i64 1, .int .i8 8, .int .i64 (-1), .int .i64 5, .int .i64 0, .int .i64 0, .int .i64 0, .bool false] 71) := ⟨_, rfl⟩
  rw [← hw1]
  have BL1 : Blk w1 w.heap.size 71 #[.int .i64 0, .int .i8 8, .int .i64 (-1), .int .i64 5, .int .i64 1, .int .i64 0, .int .i64 0, .bool false, .int .i64 1, .int .i8 1, .int .i64 0, .int .i64 0, .int .i64 0, .int .i64 0, .int .i64 0, .bool false, .int .i64 1, .int .i8 8, .int .i64 (-1), .int .i64 5, .int .i64 0, .int .i64 0, .int .i64 0, .bool false] := by rw [hw1]; exact Blk.new _ _ _
  have BW1 : Below w.heap.size w w1 := by rw [hw1]; exact one_below' _
  have hz1 : w1.heap.size = w.heap.size + 1 := by rw [hw1]; simp
  have c0 : w1.cell? ⟨w.heap.size, 0, none⟩ = some (.int .i64 0) := BL1.cell 0
  have c1 : w1.cell? ⟨w.heap.size, 1, none⟩ = some (.int .i8 8) := BL1.cell 1
  have c2 : w1.cell? ⟨w.heap.size, 2, none⟩ = some (.int .i64 (-1)) := BL1.cell 2
  have c3 : w1.cell? ⟨w.heap.size, 3, none⟩ = some (.int .i64 5) := BL1.cell 3
  have c4 : w1.cell? ⟨w.heap.size, 4, none⟩ = some (.int .i64 1) := BL1.cell 4
  have c5 : w1.cell? ⟨w.heap.size, 5, none⟩ = some (.int .i64 0) := BL1.cell 5
  have c6 : w1.cell? ⟨w.heap.size, 6, none⟩ = some (.int .i64 0) := BL1.cell 6
  have c7 : w1.cell? ⟨w.heap.size, 7, none⟩ = some (.bool false) := BL1.cell 7
  have c8 : w1.cell? ⟨w.heap.size, 8, none⟩ = some (.int .i64 1) := BL1.cell 8
  have c9 : w1.cell? ⟨w.heap.size, 9, none⟩ = some (.int .i8 1) := BL1.cell 9
  have c10 : w1.cell? ⟨w.heap.size, 10, none⟩ = some (.int .i64 0) := BL1.cell 10
  have c11 : w1.cell? ⟨w.heap.size, 11, none⟩ = some (.int .i64 0) := BL1.cell 11
  have c12 : w1.cell? ⟨w.heap.size, 12, none⟩ = some (.int .i64 0) := BL1.cell 12
  have c13 : w1.cell? ⟨w.heap.size, 13, none⟩ = some (.int .i64 0) := BL1.cell 13
  have c14 : w1.cell? ⟨w.heap.size, 14, none⟩ = some (.int .i64 0) := BL1.cell 14
  have c15 : w1.cell? ⟨w.heap.size, 15, none⟩ = some (.bool false) := BL1.cell 15
  have c16 : w1.cell? ⟨w.heap.size, 16, none⟩ = some (.int .i64 1) := BL1.cell 16
  have c17 : w1.cell? ⟨w.heap.size, 17, none⟩ = some (.int .i8 8) := BL1.cell 17
  have c18 : w1.cell? ⟨w.heap.size, 18, none⟩ = some (.int .i64 (-1)) := BL1.cell 18
  have c19 : w1.cell? ⟨w.heap.size, 19, none⟩ = some (.int .i64 5) := BL1.cell 19
  have c20 : w1.cell? ⟨w.heap.size, 20, none⟩ = some (.int .i64 0) := BL1.cell 20
  have c21 : w1.cell? ⟨w.heap.size, 21, none⟩ = some (.int .i64 0) := BL1.cell 21
  have c22 : w1.cell? ⟨w.heap.size, 22, none⟩ = some (.int .i64 0) := BL1.cell 22
  have c23 : w1.cell? ⟨w.heap.size, 23, none⟩ = some (.bool false) := BL1.cell 23
  have HBL := Lib.hid BL1
  have HBW := Lib.hid BW1
  have HZ1 := Lib.hid hz1
  clear hw1 BL1 BW1 hz1
  go_still_tail 10, (by kernel_rfl)
  change wpList _ _ _ _ _ w1.drew
  go_upto_region 3 with (fail)
  obtain ⟨w2, hw2⟩ : ∃ w2, w2 = ((w1.alloc (.cells #[.int .i64 0, .int .i8 8, .int .i64 (-1), .int .i64 5, .int .i64 1, .int .i64 0, .int .i64 0, .bool false, .int .i64 0, .int .i8 2, .int .i64 0, .int .i64 0, .int .i64 0, .int .i64 0, .int .i64 0, .bool false, .int .i64 1, .int .i8 1, .int .i64 0, .int .i64 0, .int .i64 0, .int .i64 0, .int .i64 0, .bool false, .int .i64 1, .int .i8 8, .int .i64 (-1), .int .i64 5, .int .i64 0, .int .i64 0, .int .i64 0, .bool false] 71)).drew) := ⟨_, rfl⟩
  rw [← hw2]
  have B2 : Below w.heap.size w w2 := by rw [hw2]; exact (HBW.out.alloc HBW.out.size _).drew
  have BL : Blk w2 w.heap.size 71 (liveL.flatMap accL).toArray := by rw [hw2]; exact HBL.out.alloc _
  have BM : Blk w2 w1.heap.size 71 (liveM.flatMap accL).toArray := by rw [hw2]; exact Blk.new w1 _ _
  have HL := Lib.hid (logAt_blk (B := w2.heap.size) BL BL.lt liveL_wf (by decide))
  have HM := Lib.hid (logAt_blk (B := w2.heap.size) BM BM.lt liveM_wf (by decide))
  have HB2 := Lib.hid B2
  clear B2 BL BM hw2 c0 c1 c2 c3 c4 c5 c6 c7 c8 c9 c10 c11 c12 c13 c14 c15 c16 c17 c18 c19 c20 c21 c22 c23
  have HT2 : Hid (Tens w2) := Lib.hid (HT.out.below HB2.out)
  go_wp2_with fail
  refine (live_l _ _ w2 HL.out).mono ?_
  rintro e w3 ⟨hb, g, cap3, rfl, x0, x1, hg⟩
  have HB3 := Lib.hid (HB2.out.trans (hb.mono HB2.out.size))
  have HM3 : Hid (LogAt w3 w3.heap.size (some ⟨w1.heap.size, 0, none⟩) liveM) := Lib.hid ((HM.out.of hb).mono hb.size)
  have HT3 : Hid (Tens w3) := Lib.hid (HT2.out.below hb)
  clear hb
  go_wp2_with fail
  refine (live_m _ _ w3 HM3.out).mono ?_
  rintro e w4 ⟨hb, a4, cap4, rfl⟩
  have HB4 := Lib.hid (HB3.out.trans (hb.mono HB3.out.size))
  have HT4 : Hid (Tens w4) := Lib.hid (HT3.out.below hb)
  replace x0 := (hb.cell (p := ⟨g, 0, none⟩) hg).trans x0
  replace x1 := (hb.cell (p := ⟨g, 1, none⟩) hg).trans x1
  replace hg := Nat.lt_of_lt_of_le hg hb.size
  clear hb
  go_upto_region 6 with (fail)
  obtain ⟨w5, hw5⟩ : ∃ w5, w5 = w4.alloc (.cells #[.int .i8 1, .int .i64 7, .int .i64 0, .int .i64 0, .bool false, .int .i64 0, .int .i64 1, .int .i8 2, .int .i64 0, .int .i64 0, .int .i64 7, .bool true, .int .i64 2, .int .i64 3] 58) := ⟨_, rfl⟩
  rw [← hw5]
  have HB5 : Hid (Below w4.heap.size w4 w5) := Lib.hid (by rw [hw5]; exact one_below' _)
  have HH5 : Hid (Blk w5 w4.heap.size 58 ((liveH 7).flatMap calL).toArray) := Lib.hid (by rw [hw5]; exact Blk.new _ _ _)
  clear hw5
  go_wp2_with fail
  refine (live_h _ _ w5 (callsAt_blk HH5.out HH5.out.lt (liveH_wf 7 ⟨by omega, by omega⟩)) (fun g off e => by injection e with e; injection e with e; rw [← e]; exact HH5.out.lt) (HT4.out.below HB5.out)).mono ?_
  rintro e w6 ⟨hb, a6, cap6, rfl⟩
  have HB6 : Hid (Below w4.heap.size w4 w6) := Lib.hid (HB5.out.trans (hb.mono HB5.out.size))
  have HH6 : Hid (Blk w6 w4.heap.size 58 ((liveH 7).flatMap calL).toArray) := Lib.hid (HH5.out.below hb HH5.out.lt)
  clear hb
  have d0 : w6.cell? ⟨w4.heap.size, 10, none⟩ = some (.int .i64 7) := HH6.out.cell 10
  have d1 := HH6.out.frozen 10
  go_upto_region 8 with (fail)
  obtain ⟨w7, hw7⟩ : ∃ w7, w7 = w6.setCell ⟨w4.heap.size, 10, none⟩ (.int .i64 8) := ⟨_, rfl⟩
  rw [← hw7]
  have HB7 : Hid (Below w4.heap.size w4 w7) := Lib.hid (by rw [hw7]; exact HB6.out.setCell (Nat.le_refl _) _)
  have HH7 : Hid (Blk w7 w4.heap.size 58 ((liveH 8).flatMap calL).toArray) := Lib.hid (by rw [hw7]; exact HH6.out.set_ 10 _)
  clear hw7 d0 d1
  go_wp2_with fail
  refine (live_h8 _ _ w7 (callsAt_blk HH7.out HH7.out.lt (liveH_wf 8 ⟨by omega, by omega⟩)) (fun g off e => by injection e with e; injection e with e; rw [← e]; exact HH7.out.lt) (HT4.out.below HB7.out)).mono ?_
  rintro e w8 ⟨hb, v8, rfl⟩
  have HB8 : Hid (Below w4.heap.size w4 w8) := Lib.hid (HB7.out.trans (hb.mono HB7.out.size))
  replace x0 := (HB8.out.cell (p := ⟨g, 0, none⟩) hg).trans x0
  replace x1 := (HB8.out.cell (p := ⟨g, 1, none⟩) hg).trans x1
  clear hb hg
  go_wp2_with fail
  go_ret
  exact ⟨rfl, HB4.out.trans (HB8.out.mono HB4.out.size)⟩
end Go.Proofs.YtonnlgpjobfnmaaDoor

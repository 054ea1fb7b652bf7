/- pipe.New with a bell of its own: the bell is no cell of its places. -/
import Derived.Test.YtecmobjiepgfjaaPPipeD
namespace Go.Proofs.Ytecmobjiepgfjaa
open Go.RowKit Go.MuLone
set_option maxRecDepth 100000
def PMadeB (w0 : World) (bp : Value) (b n : Nat) (e : Ending) (w : World) : Prop :=
  ∃ p i o bs v, e = .returned (.tuple #[.pointer (some ⟨p, 0, none⟩), .int .i64 0]) ∧ bs.length = n ∧ Making w0 w p i o bp bs v ∧ b ∉ i :: o :: placeBlocks bs
def MakesB (n : Nat) (w0 : World) (p i o : Nat) (bp : Value) (b : Nat) (k : Value) (w : World) : Prop := ∃ (bs : List (Nat × Nat)) (v : Value), k = .int .i64 bs.length ∧ bs.length ≤ n ∧ Making w0 w p i o bp bs v ∧ b ∉ placeBlocks bs
set_option maxHeartbeats 2000000 in
theorem pipe_new_nilB (n : Nat) (h2 : 2 ≤ n) (h4 : n ≤ 4096) (hb : bits BinOp.and IntKind.i64 n (n - 1) = 0) (w : World) :
    Calls Try.prog 57 #[.int .i64 n, .pointer none] w (fun e w' => PMadeB w (.pointer (some ⟨w.heap.size + 3, 0, none⟩)) (w.heap.size + 3) n e w' ∧ IsCell w' (w.heap.size + 3) 0) := by
  obtain ⟨i0, hi0, hz0, hz1, hz2⟩ := info_parts infoPipePlace
  have t1 : decide ((n : Int) < 2) = false := by simp; omega
  have t2 : decide ((4096 : Int) < n) = false := by simp; omega
  have HM := Lib.hid (making_start_nil w)
  go_enter Try.func57, Try.ntmps57
  go_wp2_with (go_at_call 14; refine (cell_new _ _).mono ?_; rintro e w' ⟨rfl, rfl⟩)
  go_loopw [33] (fun k wr => Hid (MakesB n w (w.heap.size + 1 + 1) w.heap.size (w.heap.size + 1) (.pointer (some ⟨w.heap.size + 3, 0, none⟩)) (w.heap.size + 3) k wr ∧ IsCell wr (w.heap.size + 3) 0)) (fun k _ => n + 1 - (intOf k).toNat)
  case atStart => exact Lib.hid ⟨⟨[], _, rfl, Nat.zero_le _, by simpa using HM.out, by simp [placeBlocks]⟩, Blk.new' _ _ _ _ (by simp)⟩
  case round =>
    obtain ⟨⟨bs, v, rfl, hle, hM, hnb⟩, hcell⟩ := hrel.out
    have HNB := Lib.hid hnb
    have HLT : Hid (w.heap.size + 3 < wr.heap.size) := Lib.hid (Blk.lt hcell)
    clear hnb
    have HCELL := Lib.hid hcell
    have HNE := Lib.hid (row_ne_cell hcell hM.2.2.2.2.2.1)
    clear hcell
    have HM2 := Lib.hid hM
    clear hM hrel HM
    by_cases hlt : bs.length < n
    · have hx : decide ((bs.length : Int) < n) = true := by simp; omega
      have m3 := HM2.out.2.1.cell 3
      simp at m3
      have hown := HM2.out.2.2.2.2.2.1
      have HOWN := Lib.hid hown
      clear hown
      go_wp2_with fail
      have hz3 := HM2.out.2.1.frozen 3
      have hplt : w.heap.size + 1 + 1 < wr.heap.size := HM2.out.2.1.lt
      have hplt2 : w.heap.size + 1 + 1 < wr.heap.size + 1 := by omega
      have hplt3 : w.heap.size + 1 + 1 < wr.heap.size + 1 + 1 := by omega
      have NB : Hid (Blk (((wr.alloc (cellObj bs.length)).alloc (cellObj 0)).alloc (.cells #[.pointer (some ⟨wr.heap.size, 0, none⟩), .pointer (some ⟨wr.heap.size + 1, 0, none⟩)] 213)).drew (wr.heap.size + 1 + 1) 213 #[.pointer (some ⟨wr.heap.size, 0, none⟩), .pointer (some ⟨wr.heap.size + 1, 0, none⟩)]) := Lib.hid (Blk.new' _ _ _ _ (by simp))
      have N2 : Hid (bs.length + 1 ≤ maxLen) := Lib.hid (by unfold maxLen; omega)
      have N3 : Hid ((bs.length + 1) * 16 ≤ 140737488355328) := Lib.hid (by omega)
      have N4 : Hid (w.heap.size ≤ (((wr.alloc (cellObj bs.length)).alloc (cellObj 0)).alloc (.cells #[.pointer (some ⟨wr.heap.size, 0, none⟩), .pointer (some ⟨wr.heap.size + 1, 0, none⟩)] 213)).drew.heap.size) := Lib.hid (by have := HM2.out.1.size; simp; omega)
      have HO3 : Hid ((((wr.alloc (cellObj bs.length)).alloc (cellObj 0)).alloc (.cells #[.pointer (some ⟨wr.heap.size, 0, none⟩), .pointer (some ⟨wr.heap.size + 1, 0, none⟩)] 213)).drew.ownsRow w.heap.size 213 2 v bs.length (placeVals bs)) := Lib.hid (((HOWN.out.alloc _).alloc _).alloc _).drew
      go_region_law (first
        | (refine step_append_lies _ (by rfl) _ _ _ (by rfl) w.heap.size 213 i0 _ 2 16 Try.underlying145 hi0 hz0 hz1 hz2 rfl (by omega) v bs.length (placeVals bs) (by rfl) HO3.out ⟨wr.heap.size + 1 + 1, 0, none⟩ 1 1 [.pointer (some ⟨wr.heap.size, 0, none⟩), .pointer (some ⟨wr.heap.size + 1, 0, none⟩)] (by rfl) (by rfl) (World.news_of_block NB.out) (by simp [Value.oneCell']) (by omega) N2.out N3.out N4.out (wr.heap.size + 1 + 1 + 1) (by simp) ?_; intro gg cap w1 hown1 hgrow hat hlt1; obtain ⟨k3, kf⟩ := HM2.out.pipe hgrow; have HOWN1 := Lib.hid hown1; have HGROW := Lib.hid hgrow; clear hown1 hgrow hat hlt1)
        | (go_simp; go_at_call 14; refine (cell_new _ _).mono ?_; rintro e w' ⟨rfl, rfl⟩))
      all_goals
        clear k3 kf NB N2 N3 N4 HO3 hplt hplt2 hplt3 m3 hz3 HOWN
        go_wp2
        go_roundw
        case rel => exact Lib.hid ⟨⟨bs ++ [(wr.heap.size, wr.heap.size + 1)], _, by simp, by simp; omega, HM2.out.more HOWN1.out HGROW.out rfl, by have h1 := HNB.out; have h2 := HLT.out; simp only [placeBlocks, List.flatMap_append, List.mem_append, not_or] at h1 ⊢; exact ⟨h1, by simp only [List.flatMap_cons, List.flatMap_nil, List.append_nil, List.mem_cons, List.not_mem_nil, or_false, not_or]; omega⟩⟩, cell_over (n := 0) HCELL.out HNE.out HGROW.out (by omega) rfl⟩
        case measure => simp [intOf]; omega
    · have hx : decide ((bs.length : Int) < n) = false := by simp; omega
      have hlen : Hid (bs.length = n) := Lib.hid (by omega)
      go_wp2
      go_ret2
      exact ⟨⟨_, _, _, bs, v, rfl, hlen.out, HM2.out, by simp only [List.mem_cons, not_or]; exact ⟨by omega, by omega, HNB.out⟩⟩, HCELL.out⟩
end Go.Proofs.Ytecmobjiepgfjaa

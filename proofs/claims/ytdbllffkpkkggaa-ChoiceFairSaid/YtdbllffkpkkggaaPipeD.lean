/- The walk of pipe.New. Conditions: the number of places is from 2 to 4096, and n & (n - 1) is 0; the bell is a pointer to a cell. -/
import Derived.Test.YtdbllffkpkkggaaPipeC
import Derived.Deep.RegionLaw
import Derived.Deep.RegionWith
namespace Go.Proofs.Ytdbllffkpkkggaa
open Go.RowKit Go.MuLone
set_option maxRecDepth 100000

def PMade (w0 : World) (bp : Value) (n : Nat) (e : Ending) (w : World) : Prop :=
  ∃ p i o bs v, e = .returned (.tuple #[.pointer (some ⟨p, 0, none⟩), .int .i64 0]) ∧ bs.length = n ∧ Making w0 w p i o bp bs v
def Makes (n : Nat) (w0 : World) (p i o : Nat) (bp : Value) (k : Value) (w : World) : Prop := ∃ (bs : List (Nat × Nat)) (v : Value), k = .int .i64 bs.length ∧ bs.length ≤ n ∧ Making w0 w p i o bp bs v

theorem making_start (w : World) (bp : Value) : Making w (((w.alloc (cellObj 0)).alloc (cellObj 0)).alloc (.cells #[.pointer (some ⟨w.heap.size, 0, none⟩), .pointer (some ⟨w.heap.size + 1, 0, none⟩), bp, .slice none 0 0] 62)) (w.heap.size + 1 + 1) w.heap.size (w.heap.size + 1) bp [] (.slice none 0 0) := by
  refine ⟨((((Below.refl _ _).alloc (Nat.le_refl _) _).alloc (by simp) _).alloc (by simp; omega) _), Blk.new' _ _ _ _ (by simp), by omega, Blk.alloc (Blk.alloc (Blk.new' w _ _ _ rfl) _) _, Blk.alloc (Blk.new' (w.alloc _) _ _ _ (by simp)) _, World.ownsRow_nil _ _ _ _, ?_, by simp [placeBlocks], ?_⟩
  · intro j t s h; simp at h
  · intro b hb; simp [placeBlocks] at hb ⊢; omega

/-- The bell of the pipe's own lies in block w.heap.size + 3. -/
theorem making_start_nil (w : World) : Making w ((((w.alloc (cellObj 0)).alloc (cellObj 0)).alloc (.cells #[.pointer (some ⟨w.heap.size, 0, none⟩), .pointer (some ⟨w.heap.size + 1, 0, none⟩), .pointer (some ⟨w.heap.size + 1 + 1 + 1, 0, none⟩), .slice none 0 0] 62)).alloc (cellObj 0)) (w.heap.size + 1 + 1) w.heap.size (w.heap.size + 1) (.pointer (some ⟨w.heap.size + 3, 0, none⟩)) [] (.slice none 0 0) := by
  obtain ⟨h1, h2, h3, h4, h5, h6, h7, h8, h9⟩ := making_start w (.pointer (some ⟨w.heap.size + 3, 0, none⟩))
  refine ⟨h1.alloc h1.size _, h2.alloc _, h3, Blk.alloc h4 _, Blk.alloc h5 _, h6.alloc _, ?_, h8, ?_⟩
  · intro j t s h; simp at h
  · intro b hb; simp [placeBlocks] at hb ⊢; omega

set_option maxHeartbeats 2000000 in
theorem pipe_new (n : Nat) (h2 : 2 ≤ n) (h4 : n ≤ 4096) (hb : bits BinOp.and IntKind.i64 n (n - 1) = 0) (b : Nat) (w : World) :
    Calls Try.prog 7 #[.int .i64 n, .pointer (some ⟨b, 0, none⟩)] w (PMade w (.pointer (some ⟨b, 0, none⟩)) n) := by
  obtain ⟨i0, hi0, hz0, hz1, hz2⟩ := info_parts infoPipePlace
  have t1 : decide ((n : Int) < 2) = false := by simp; omega
  have t2 : decide ((4096 : Int) < n) = false := by simp; omega
  have HM := Lib.hid (making_start w (.pointer (some ⟨b, 0, none⟩)))
  go_enter Try.func7, Try.ntmps7
  go_wp2_with (go_at_call 5; refine (cell_new _ _).mono ?_; rintro e w' ⟨rfl, rfl⟩)
  go_loopw [33] (fun k wr => Hid (Makes n w (w.heap.size + 1 + 1) w.heap.size (w.heap.size + 1) (.pointer (some ⟨b, 0, none⟩)) k wr)) (fun k _ => n + 1 - (intOf k).toNat)
  case atStart => exact Lib.hid ⟨[], _, rfl, Nat.zero_le _, by simpa using HM.out⟩
  case round =>
    obtain ⟨bs, v, rfl, hle, hM⟩ := hrel.out
    have HM2 := Lib.hid hM
    clear hM hrel HM
    by_cases hlt : bs.length < n
    · have hx : decide ((bs.length : Int) < n) = true := by simp; omega
      have m3 := HM2.out.2.1.cell 3
      simp at m3
      have hown := HM2.out.2.2.2.2.2.1
      have HOWN := Lib.hid hown
      clear hown
      go_wp2_with fail
      have hz3 := HM2.out.2.1.frozen 3
      have hplt : w.heap.size + 1 + 1 < wr.heap.size := HM2.out.2.1.lt
      have hplt2 : w.heap.size + 1 + 1 < wr.heap.size + 1 := by omega
      have hplt3 : w.heap.size + 1 + 1 < wr.heap.size + 1 + 1 := by omega
      have NB : Hid (Blk (((wr.alloc (cellObj bs.length)).alloc (cellObj 0)).alloc (.cells #[.pointer (some ⟨wr.heap.size, 0, none⟩), .pointer (some ⟨wr.heap.size + 1, 0, none⟩)] 64)).drew (wr.heap.size + 1 + 1) 64 #[.pointer (some ⟨wr.heap.size, 0, none⟩), .pointer (some ⟨wr.heap.size + 1, 0, none⟩)]) := Lib.hid (Blk.new' _ _ _ _ (by simp))
      have N2 : Hid (bs.length + 1 ≤ maxLen) := Lib.hid (by unfold maxLen; omega)
      have N3 : Hid ((bs.length + 1) * 16 ≤ 140737488355328) := Lib.hid (by omega)
      have N4 : Hid (w.heap.size ≤ (((wr.alloc (cellObj bs.length)).alloc (cellObj 0)).alloc (.cells #[.pointer (some ⟨wr.heap.size, 0, none⟩), .pointer (some ⟨wr.heap.size + 1, 0, none⟩)] 64)).drew.heap.size) := Lib.hid (by have := HM2.out.1.size; simp; omega)
      have HO3 : Hid ((((wr.alloc (cellObj bs.length)).alloc (cellObj 0)).alloc (.cells #[.pointer (some ⟨wr.heap.size, 0, none⟩), .pointer (some ⟨wr.heap.size + 1, 0, none⟩)] 64)).drew.ownsRow w.heap.size 64 2 v bs.length (placeVals bs)) := Lib.hid (((HOWN.out.alloc _).alloc _).alloc _).drew
      go_region_law (first
        | (refine step_append_lies _ (by rfl) _ _ _ (by rfl) w.heap.size 64 i0 _ 2 16 Try.underlying60 hi0 hz0 hz1 hz2 rfl (by omega) v bs.length (placeVals bs) (by rfl) HO3.out ⟨wr.heap.size + 1 + 1, 0, none⟩ 1 1 [.pointer (some ⟨wr.heap.size, 0, none⟩), .pointer (some ⟨wr.heap.size + 1, 0, none⟩)] (by rfl) (by rfl) (World.news_of_block NB.out) (by simp [Value.oneCell']) (by omega) N2.out N3.out N4.out (wr.heap.size + 1 + 1 + 1) (by simp) ?_; intro gg cap w1 hown1 hgrow hat hlt1; obtain ⟨k3, kf⟩ := HM2.out.pipe hgrow; have HOWN1 := Lib.hid hown1; have HGROW := Lib.hid hgrow; clear hown1 hgrow hat hlt1)
        | (go_simp; go_at_call 5; refine (cell_new _ _).mono ?_; rintro e w' ⟨rfl, rfl⟩))
      all_goals
        clear k3 kf NB N2 N3 N4 HO3 hplt hplt2 hplt3 m3 hz3 HOWN
        go_wp2
        go_roundw
        case rel => exact Lib.hid ⟨bs ++ [(wr.heap.size, wr.heap.size + 1)], _, by simp, by simp; omega, HM2.out.more HOWN1.out HGROW.out rfl⟩
        case measure => simp [intOf]; omega
    · have hx : decide ((bs.length : Int) < n) = false := by simp; omega
      have hlen : Hid (bs.length = n) := Lib.hid (by omega)
      go_wp2
      go_ret2
      exact ⟨_, _, _, bs, v, rfl, hlen.out, HM2.out⟩
theorem row_ne_cell {w : World} {c base n : Nat} {x : Int} {v : Value} {xs : List Value} (h : IsCell w c x) (ho : w.ownsRow base 64 2 v n xs) : some c ≠ v.ownBlock := fun he => by
  rcases ho.2 with ⟨rfl, _⟩ | ⟨g', cap', cur, rfl, _, hh, _⟩
  · simp [Value.ownBlock] at he
  · have : c = g' := by simpa [Value.ownBlock] using he
    subst this
    exact (Blk.ne_ (t := 64) (g := c) (g' := c) hh h (by decide)) rfl
theorem cell_over {w w1 w2 : World} {c p g : Nat} {n : Nat} {x : Int} {v v2 : Value} {o1 o2 o3 : Obj} (h : IsCell w c x) (hne : some c ≠ v.ownBlock) (hg : (((w.alloc o1).alloc o2).alloc o3).drew.grownBy w1 v.ownBlock) (hp : c ≠ p) (h2 : (w1.drewN n).setCell ⟨p, g, none⟩ v2 = w2) : IsCell w2 c x := by
  subst h2
  have h1 : IsCell (((w.alloc o1).alloc o2).alloc o3) c x := Blk.alloc (Blk.alloc (Blk.alloc h _) _) _
  exact Blk.far (show IsCell _ c x from (hg.block c (Blk.lt h1) hne).trans h1) (p := ⟨p, g, none⟩) hp _
set_option maxHeartbeats 2000000 in
theorem pipe_new_nil (n : Nat) (h2 : 2 ≤ n) (h4 : n ≤ 4096) (hb : bits BinOp.and IntKind.i64 n (n - 1) = 0) (w : World) :
    Calls Try.prog 7 #[.int .i64 n, .pointer none] w (fun e w' => PMade w (.pointer (some ⟨w.heap.size + 3, 0, none⟩)) n e w' ∧ IsCell w' (w.heap.size + 3) 0) := by
  obtain ⟨i0, hi0, hz0, hz1, hz2⟩ := info_parts infoPipePlace
  have t1 : decide ((n : Int) < 2) = false := by simp; omega
  have t2 : decide ((4096 : Int) < n) = false := by simp; omega
  have HM := Lib.hid (making_start_nil w)
  go_enter Try.func7, Try.ntmps7
  go_wp2_with (go_at_call 5; refine (cell_new _ _).mono ?_; rintro e w' ⟨rfl, rfl⟩)
  go_loopw [33] (fun k wr => Hid (Makes n w (w.heap.size + 1 + 1) w.heap.size (w.heap.size + 1) (.pointer (some ⟨w.heap.size + 3, 0, none⟩)) k wr ∧ IsCell wr (w.heap.size + 3) 0)) (fun k _ => n + 1 - (intOf k).toNat)
  case atStart => exact Lib.hid ⟨⟨[], _, rfl, Nat.zero_le _, by simpa using HM.out⟩, Blk.new' _ _ _ _ (by simp)⟩
  case round =>
    obtain ⟨⟨bs, v, rfl, hle, hM⟩, hcell⟩ := hrel.out
    have HCELL := Lib.hid hcell
    have HNE := Lib.hid (row_ne_cell hcell hM.2.2.2.2.2.1)
    clear hcell
    have HM2 := Lib.hid hM
    clear hM hrel HM
    by_cases hlt : bs.length < n
    · have hx : decide ((bs.length : Int) < n) = true := by simp; omega
      have m3 := HM2.out.2.1.cell 3
      simp at m3
      have hown := HM2.out.2.2.2.2.2.1
      have HOWN := Lib.hid hown
      clear hown
      go_wp2_with fail
      have hz3 := HM2.out.2.1.frozen 3
      have hplt : w.heap.size + 1 + 1 < wr.heap.size := HM2.out.2.1.lt
      have hplt2 : w.heap.size + 1 + 1 < wr.heap.size + 1 := by omega
      have hplt3 : w.heap.size + 1 + 1 < wr.heap.size + 1 + 1 := by omega
      have NB : Hid (Blk (((wr.alloc (cellObj bs.length)).alloc (cellObj 0)).alloc (.cells #[.pointer (some ⟨wr.heap.size, 0, none⟩), .pointer (some ⟨wr.heap.size + 1, 0, none⟩)] 64)).drew (wr.heap.size + 1 + 1) 64 #[.pointer (some ⟨wr.heap.size, 0, none⟩), .pointer (some ⟨wr.heap.size + 1, 0, none⟩)]) := Lib.hid (Blk.new' _ _ _ _ (by simp))
      have N2 : Hid (bs.length + 1 ≤ maxLen) := Lib.hid (by unfold maxLen; omega)
      have N3 : Hid ((bs.length + 1) * 16 ≤ 140737488355328) := Lib.hid (by omega)
      have N4 : Hid (w.heap.size ≤ (((wr.alloc (cellObj bs.length)).alloc (cellObj 0)).alloc (.cells #[.pointer (some ⟨wr.heap.size, 0, none⟩), .pointer (some ⟨wr.heap.size + 1, 0, none⟩)] 64)).drew.heap.size) := Lib.hid (by have := HM2.out.1.size; simp; omega)
      have HO3 : Hid ((((wr.alloc (cellObj bs.length)).alloc (cellObj 0)).alloc (.cells #[.pointer (some ⟨wr.heap.size, 0, none⟩), .pointer (some ⟨wr.heap.size + 1, 0, none⟩)] 64)).drew.ownsRow w.heap.size 64 2 v bs.length (placeVals bs)) := Lib.hid (((HOWN.out.alloc _).alloc _).alloc _).drew
      go_region_law (first
        | (refine step_append_lies _ (by rfl) _ _ _ (by rfl) w.heap.size 64 i0 _ 2 16 Try.underlying60 hi0 hz0 hz1 hz2 rfl (by omega) v bs.length (placeVals bs) (by rfl) HO3.out ⟨wr.heap.size + 1 + 1, 0, none⟩ 1 1 [.pointer (some ⟨wr.heap.size, 0, none⟩), .pointer (some ⟨wr.heap.size + 1, 0, none⟩)] (by rfl) (by rfl) (World.news_of_block NB.out) (by simp [Value.oneCell']) (by omega) N2.out N3.out N4.out (wr.heap.size + 1 + 1 + 1) (by simp) ?_; intro gg cap w1 hown1 hgrow hat hlt1; obtain ⟨k3, kf⟩ := HM2.out.pipe hgrow; have HOWN1 := Lib.hid hown1; have HGROW := Lib.hid hgrow; clear hown1 hgrow hat hlt1)
        | (go_simp; go_at_call 5; refine (cell_new _ _).mono ?_; rintro e w' ⟨rfl, rfl⟩))
      all_goals
        clear k3 kf NB N2 N3 N4 HO3 hplt hplt2 hplt3 m3 hz3 HOWN
        go_wp2
        go_roundw
        case rel => exact Lib.hid ⟨⟨bs ++ [(wr.heap.size, wr.heap.size + 1)], _, by simp, by simp; omega, HM2.out.more HOWN1.out HGROW.out rfl⟩, cell_over (n := 0) HCELL.out HNE.out HGROW.out (by omega) rfl⟩
        case measure => simp [intOf]; omega
    · have hx : decide ((bs.length : Int) < n) = false := by simp; omega
      have hlen : Hid (bs.length = n) := Lib.hid (by omega)
      go_wp2
      go_ret2
      exact ⟨⟨_, _, _, bs, v, rfl, hlen.out, HM2.out⟩, HCELL.out⟩
end Go.Proofs.Ytdbllffkpkkggaa

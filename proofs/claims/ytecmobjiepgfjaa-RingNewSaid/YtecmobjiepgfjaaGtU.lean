/- ring.New, called alone: the ring that it makes, cell by cell. -/
import Derived.Test.YtecmobjiepgfjaaGtV
import Derived.Test.YtecmobjiepgfjaaGtO
import Derived.Test.YtecmobjiepgfjaaCell
import Derived.Deep.RegionWith
import Derived.Laws.MakeOwn
import Derived.IntWalk
import Derived.Deep.DeepCutAuto
namespace Go.Proofs.Ytecmobjiepgfjaa
open Go.RowKit Go.MuLone
set_option maxRecDepth 100000
set_option linter.unusedSimpArgs false
set_option linter.unusedVariables false
theorem run_make_rowR {P : Program} (t e : TypeId) (i : TypeInfo) (z : Value) (ht : P.underlying t = some (.slice e)) (hi : P.info? e = some i) (hz : i.zero = some z)
    (kl kc : IntKind) (n c : Nat) (hnc : n ≤ c) (hbytes : i.bytes * c ≤ 281474976710656) (h63 : c ≤ 9223372036854775807) (w : World) :
    (Instr.makeSlice t (.int kl (n : Int)) (.int kc (c : Int))).run P w = .ok (.slice (some ⟨w.heap.size, 0, none⟩) n c) (w.alloc (.cells (madeCells z.cells (c * i.size)) e)) := by
  have hb : (i.bytes : Int) * (c : Int) ≤ 281474976710656 := by
    have h : ((i.bytes * c : Nat) : Int) ≤ 281474976710656 := by omega
    rwa [Int.natCast_mul] at h
  have hr := run_make (P := P) w t e i z ht hi hz kl kc n c (by omega) (by omega) hb (by omega)
  simp only [Int.toNat_natCast] at hr
  exact hr
theorem infoRPlace : (Try.prog.info? 208).map (fun i => (i.zero, i.size, i.bytes)) = some (some (.agg #[.pointer none, .pointer none]), 2, 16) := by kernel_rfl
abbrev PP (b : Nat) : Value := .pointer (some ⟨b, 0, none⟩)
/-- The first m of n places are made: they lie from position p on, their cells in the blocks from B on. -/
structure Places (w : World) (pb B n : Nat) (p : Int) (m : Nat) : Prop where
  row : ∃ cs, Blk w pb 208 cs ∧ cs.size = n * 2 ∧ ∀ j : Nat, j < m → cs[(ixZ n (p + j)).toNat * 2]? = some (PP (B + 2 * j)) ∧ cs[(ixZ n (p + j)).toNat * 2 + 1]? = some (PP (B + 2 * j + 1))
  cell : ∀ j : Nat, j < m → IsCell w (B + 2 * j) (wrap64 (p + j)) ∧ IsCell w (B + 2 * j + 1) 0
  size : w.heap.size = B + 2 * m
/-- Block r is a ring: its cells i and o, its places. -/
structure RingAt (w0 w : World) (r i o pb B n : Nat) (p : Int) (m : Nat) : Prop where
  blk : Blk w r 115 #[PP i, PP o, .slice (some ⟨pb, 0, none⟩) n n]
  cin : IsCell w i p
  cout : IsCell w o p
  places : Places w pb B n p m
  below : Below w0.heap.size w0 w
  lows : w0.heap.size ≤ r ∧ w0.heap.size ≤ i ∧ w0.heap.size ≤ o ∧ w0.heap.size ≤ pb
  highs : r < B ∧ i < B ∧ o < B ∧ pb < B
  diff : i ≠ o
theorem ring_at (w : World) (r pb n c : Nat) (vi vo : Value) (p : Int) (h : Blk w r 115 #[vi, vo, .slice (some ⟨pb, 0, none⟩) n c]) (hi0 : 0 ≤ ixZ n p) (hi1 : ixZ n p < n) :
    Calls Try.prog 111 #[PP r, .int .i64 p] w fun e w' => e = .returned (.pointer (some ⟨pb, (ixZ n p).toNat * 2, none⟩)) ∧ w' = w.drew := by
  have k2 := h.cell 2
  have hlt := h.lt
  simp at k2
  clear h
  unfold ixZ at hi0 hi1 ⊢
  go_enter Try.func111, Try.ntmps111
  go_wp2_with fail
  go_region
  go_wp2
  go_ret
  exact ⟨rfl, rfl⟩
def NewRing (w : World) (n : Nat) (p : Int) (e : Ending) (w' : World) : Prop := ∃ r i o pb B, e = .returned (.tuple #[PP r, .int .i64 0]) ∧ RingAt w w' r i o pb B n p n
def NewR0 (w : World) (n : Nat) (p : Int) (v : Value) (w' : World) : Prop := ∃ r i o pb B, v = PP r ∧ RingAt w w' r i o pb B n p 0
theorem newR0_mk (w : World) (n : Nat) (p : Int) (w0 : World) (r c1 c2 q : Nat) (hl : r = w0.heap.size) (hb : Below w.heap.size w w0) (h1 : w.heap.size ≤ c1) (h2 : w.heap.size ≤ c2) (h3 : w.heap.size ≤ q) (i1 : IsCell w0 c1 p) (i2 : IsCell w0 c2 p)
    (ip : Blk w0 q 208 (madeCells #[.pointer none, .pointer none] (n * 2))) (hne : c1 ≠ c2) : NewR0 w n p (PP r) (w0.alloc (.cells #[PP c1, PP c2, .slice (some ⟨q, 0, none⟩) n n] 115)).drew := by
  subst hl
  have l1 := Blk.lt i1
  have l2 := Blk.lt i2
  have l3 := ip.lt
  exact ⟨w0.heap.size, c1, c2, q, w0.heap.size + 1, rfl, Blk.new _ _ _, Blk.alloc i1 _, Blk.alloc i2 _, ⟨⟨_, Blk.alloc ip _, by simp [madeCells], fun j h => by omega⟩, fun j h => by omega, by simp [World.drew]⟩, (hb.alloc hb.size _).drew, ⟨hb.size, h1, h2, h3⟩, by omega, hne⟩
theorem ring_step {w wr : World} {r ic oc pb B z i g : Nat} {p : Int} (hr : RingAt w wr r ic oc pb B z p i) (hlt : i < z) (hbnd : ∀ q : Int, 0 ≤ ixZ z q ∧ ixZ z q < z) (hinj : ∀ i j : Nat, i < z → j < z → ixZ z (p + i) = ixZ z (p + j) → i = j) (hg : g = (ixZ z (p + i)).toNat * 2) :
    RingAt w (((((wr.setCell ⟨pb, g, none⟩ (.pointer (some ⟨wr.heap.size, 0, none⟩))).setCell ⟨pb, g + 1, none⟩ (.pointer (some ⟨wr.heap.size + 1, 0, none⟩))).alloc (cellObj (wrap64 (p + i)))).alloc (cellObj 0)).drew) r ic oc pb B z p (i + 1) := by
  obtain ⟨cs, hcs, hsz, hrow⟩ := hr.places.row
  have hs := hr.places.size
  have nr : r ≠ pb := Blk.ne_ hr.blk hcs (by decide)
  have ni : ic ≠ pb := Blk.ne_ (show Blk wr ic _ _ from hr.cin) hcs (by decide)
  have no : oc ≠ pb := Blk.ne_ (show Blk wr oc _ _ from hr.cout) hcs (by decide)
  have far : ∀ {q : Nat} {t : TypeId} {c : Array Value}, Blk wr q t c → q ≠ pb → Blk (((((wr.setCell ⟨pb, g, none⟩ (.pointer (some ⟨wr.heap.size, 0, none⟩))).setCell ⟨pb, g + 1, none⟩ (.pointer (some ⟨wr.heap.size + 1, 0, none⟩))).alloc (cellObj (wrap64 (p + i)))).alloc (cellObj 0)).drew) q t c := fun h hq =>
    (((h.far (p := ⟨pb, g, none⟩) hq _).far (p := ⟨pb, g + 1, none⟩) hq _).alloc _).alloc _
  have hb1 := hbnd (p + i)
  refine ⟨far hr.blk nr, far (show Blk wr ic _ _ from hr.cin) ni, far (show Blk wr oc _ _ from hr.cout) no, ⟨⟨(cs.setIfInBounds g (.pointer (some ⟨wr.heap.size, 0, none⟩))).setIfInBounds (g + 1) (.pointer (some ⟨wr.heap.size + 1, 0, none⟩)), ?_, by simp [hsz], fun j hj => ?_⟩, fun j hj => ?_, ?_⟩, ?_, hr.lows, hr.highs, hr.diff⟩
  · exact (((hcs.set_ g _).set_ (g + 1) _).alloc _).alloc _
  · by_cases e : j = i
    · subst e
      rw [← hg]
      constructor
      · rw [Array.getElem?_setIfInBounds_ne (by omega), Array.getElem?_setIfInBounds_self_of_lt (by omega), hs]
      · rw [Array.getElem?_setIfInBounds_self_of_lt (by simp; omega), hs]
    · have hj' : j < i := by omega
      obtain ⟨h1, h2⟩ := hrow j hj'
      have hne : (ixZ z (p + j)).toNat ≠ (ixZ z (p + i)).toNat := fun h => by
        have := hbnd (p + j)
        exact e (hinj j i (by omega) hlt (by omega))
      constructor
      · rw [Array.getElem?_setIfInBounds_ne (by omega), Array.getElem?_setIfInBounds_ne (by omega), h1]
      · rw [Array.getElem?_setIfInBounds_ne (by omega), Array.getElem?_setIfInBounds_ne (by omega), h2]
  · by_cases e : j = i
    · subst e
      constructor
      · refine Blk.alloc (Blk.new' _ _ _ _ ?_) _
        simp [hs]
      · refine Blk.new' _ _ _ _ ?_
        simp [hs]
    · obtain ⟨h1, h2⟩ := hr.places.cell j (by omega)
      exact ⟨far (show Blk wr _ _ _ from h1) (Blk.ne_ (show Blk wr _ _ _ from h1) hcs (by decide)), far (show Blk wr _ _ _ from h2) (Blk.ne_ (show Blk wr _ _ _ from h2) hcs (by decide))⟩
  · simp [World.drew, hs]; omega
  · have hl := hr.lows
    exact ((((hr.below.setCell (by simpa using hl.2.2.2) _).setCell (by simpa using hl.2.2.2) _).alloc (by simpa using hr.below.size) _).alloc (by simp; have := hr.below.size; omega) _).drew
set_option maxHeartbeats 4000000 in
theorem ring_new (k : Nat) (hk1 : 1 ≤ k) (hk : k ≤ 12) (p : Int) (w : World) :
    Calls Try.prog 42 #[.int .i64 ((2 ^ k : Nat) : Int), .int .i64 p] w (NewRing w (2 ^ k) p) := by
  have hbits := bits_size k hk1 hk
  have hz4 : 2 ^ k ≤ 4096 := Nat.pow_le_pow_right (by decide) hk
  have hz2 : 2 ≤ 2 ^ k := by simpa using Nat.pow_le_pow_right (n := 2) (by decide) hk1
  have hbnd := ixZ_bounds k hk
  have hinj := ixZ_inj k hk p
  have hwr := ixZ_wrap k hk
  generalize hz : 2 ^ k = z at *
  have hb2 : bits .and .i64 (z : Int) ((z : Int) - 1) = 0 := by rw [show wrap64 ((z : Int) - 1) = (z : Int) - 1 by unfold wrap64; omega] at hbits; exact hbits
  have hb3 : (bits .and .i64 (z : Int) ((z : Int) - 1) != 0) = false := by rw [hb2]; rfl
  have h1 : decide ((z : Int) < 2) = false := by simp; omega
  have h2 : decide ((4096 : Int) < z) = false := by simp; omega
  obtain ⟨i0, hi0, hq0, hq1, hq2⟩ := info_parts infoRPlace
  have hmk := fun W => run_make_rowR (P := Try.prog) 113 208 i0 _ Try.underlying113 hi0 hq0 .i64 .i64 z z (Nat.le_refl _) (by rw [hq2]; omega) (by omega) W
  rw [hq1] at hmk
  go_enter Try.func42, Try.ntmps42
  go_upto_region 3 with (fail)
  go_cut [6] (fun v6 wx => NewR0 w z p v6 wx)
  case first =>
    go_region_with (go_at_call 14; refine (cell_new _ _).mono ?_; rintro e w' ⟨rfl, rfl⟩)
    all_goals (go_wp2_with fail; go_meet)
    all_goals
      refine newR0_mk w z p _ _ _ _ _ ?_ ?_ ?_ ?_ ?_ ?_ ?_ ?_ ?_
      · simp
      · exact (((Below.refl _ _).alloc (Nat.le_refl _) _).alloc (by simp) _).alloc (by simp; omega) _
      · omega
      · omega
      · omega
      · first | (refine Blk.new' _ _ _ _ ?_; simp; done) | (refine Blk.alloc (Blk.new' _ _ _ _ ?_) _; simp; done) | (refine Blk.alloc (Blk.alloc (Blk.new' _ _ _ _ ?_) _) _; simp; done)
      · first | (refine Blk.new' _ _ _ _ ?_; simp; done) | (refine Blk.alloc (Blk.new' _ _ _ _ ?_) _; simp; done) | (refine Blk.alloc (Blk.alloc (Blk.new' _ _ _ _ ?_) _) _; simp; done)
      · first | (refine Blk.new' _ _ _ _ ?_; simp; done) | (refine Blk.alloc (Blk.new' _ _ _ _ ?_) _; simp; done) | (refine Blk.alloc (Blk.alloc (Blk.new' _ _ _ _ ?_) _) _; simp; done)
      · omega
  case rest =>
    obtain ⟨r, ic, oc, pb, B, rfl, hR⟩ := hcut
    replace hR := Lib.hid hR
    go_wp2_with fail
    go_loopw [30] (fun v wr => ∃ i : Nat, i ≤ z ∧ v = .int .i64 (i : Int) ∧ RingAt w wr r ic oc pb B z p i) (fun v _ => z - (intOf v).toNat)
    case atStart => exact ⟨0, Nat.zero_le _, rfl, hR.out⟩
    case round =>
      obtain ⟨i, hi, rfl, hr⟩ := hrel
      by_cases hlt : i < z
      · have hx : decide (i < z) = true := by simpa using hlt
        have hxi : decide ((i : Int) < (z : Int)) = true := by simp; omega
        obtain ⟨g, hg⟩ : ∃ g, g = (ixZ z (p + i)).toNat * 2 := ⟨_, rfl⟩
        have hb := hbnd (p + i)
        have hat : Calls Try.prog 111 #[PP r, .int .i64 (wrap64 (p + i))] wr fun e w' => e = .returned (.pointer (some ⟨pb, g, none⟩)) ∧ w' = wr.drew := by
          rw [hg, ← hwr (p + i)]
          exact ring_at wr r pb z z _ _ _ hr.blk (by rw [hwr]; exact hb.1) (by rw [hwr]; exact hb.2)
        obtain ⟨cs, hcs, hsz, hrow⟩ := hr.places.row
        have hgl : g + 1 < cs.size := by rw [hsz, hg]; omega
        have c0 : wr.cell? ⟨pb, g, none⟩ = some cs[g] := by rw [hcs.cell]; simp [show g < cs.size by omega]
        have c1 : wr.cell? ⟨pb, g + 1, none⟩ = some cs[g + 1] := by rw [hcs.cell]; simp [hgl]
        have f0 := hcs.frozen g
        have f1 := hcs.frozen (g + 1)
        have hpb := hcs.lt
        have HR := Lib.hid hr
        generalize cs[g] = y0 at c0
        generalize cs[g + 1] = y1 at c1
        clear hgl
        replace hg := Lib.hid hg
        replace hcs := Lib.hid hcs
        clear hrow
        replace hsz := Lib.hid hsz
        have HB := Lib.hid hbnd
        clear hb hr hbnd
        go_wp2_with (first | (go_at_call 111; refine hat.mono ?_; rintro e w' ⟨rfl, rfl⟩) | (go_at_call 14; refine (cell_new _ _).mono ?_; rintro e w' ⟨rfl, rfl⟩))
        exact ⟨⟨i + 1, hlt, by simp, ring_step HR.out hlt HB.out hinj hg.out⟩, by simp [intOf]; omega⟩
      · have hx : decide (i < z) = false := by simpa using hlt
        have hxi : decide ((i : Int) < (z : Int)) = false := by simp; omega
        have he : i = z := by omega
        subst he
        replace hr := Lib.hid hr
        go_wp2_with fail
        go_ret2
        exact ⟨r, ic, oc, pb, B, rfl, hr.out⟩
theorem IsCell.free {w : World} {b : Nat} {x : Int} (h : IsCell w b x) : FreeCell w b x := ⟨h.c0, h.c1, h.c2, h.c4, h.fz⟩
end Go.Proofs.Ytecmobjiepgfjaa

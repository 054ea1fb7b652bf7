/- Lists with marks behind them: WideCalls, SpareCalls. Conditions: what the slice's cells hold. -/
import Derived.Test.YtonnlgpjobfnmaaDoorRLinA
import Derived.Laws.MakeOwn
namespace Go.Proofs.YtonnlgpjobfnmaaDoor
open Go.RowKit
set_option maxRecDepth 100000
theorem run_make_rowN {P : Program} (t e : TypeId) (i : TypeInfo) (z : Value) (ht : P.underlying t = some (.slice e)) (hi : P.info? e = some i) (hz : i.zero = some z)
    (kl kc : IntKind) (n c : Nat) (hnc : n ≤ c) (hbytes : i.bytes * c ≤ 281474976710656) (h63 : c ≤ 9223372036854775807) (w : World) :
    (Instr.makeSlice t (.int kl (n : Int)) (.int kc (c : Int))).run P w = .ok (.slice (some ⟨w.heap.size, 0, none⟩) n c) (w.alloc (.cells (madeCells z.cells (c * i.size)) e)) := by
  have hb : (i.bytes : Int) * (c : Int) ≤ 281474976710656 := by
    have h : ((i.bytes * c : Nat) : Int) ≤ 281474976710656 := by omega
    rwa [Int.natCast_mul] at h
  have hr := run_make (P := P) w t e i z ht hi hz kl kc n c (by omega) (by omega) hb (by omega)
  simp only [Int.toNat_natCast] at hr
  exact hr
/-- The mark at place i. -/
def markC (i : Nat) : Cal := ⟨0, 0, 0, 0, false, numF 9 i, 0⟩
/-- The calls, and the marks behind them. -/
def wideC (X : List Cal) : List Cal := X ++ (List.range 64).map fun j => markC (X.length + j)
theorem wideC_len (X : List Cal) : (wideC X).length = X.length + 64 := by simp [wideC]
theorem wideC_lo {X : List Cal} {i : Nat} (h : i < X.length) : (wideC X)[i]? = X[i]? := by rw [wideC, List.getElem?_append_left h]
theorem wideC_hi {X : List Cal} {i : Nat} (h : X.length ≤ i) (h2 : i < X.length + 64) : (wideC X)[i]? = some (markC i) := by
  rw [wideC, List.getElem?_append_right h, List.getElem?_map, List.getElem?_range (by omega)]
  simp only [Option.map_some]
  congr 2
  omega
theorem numF_wf (n i : Int) : i64of (numF n i) := wrap64_of _
theorem markC_wf (i : Nat) : (markC i).wf := by
  have hz : i64of 0 := by unfold i64of; omega
  exact ⟨by unfold markC; simp, hz, hz, hz, numF_wf _ _, hz⟩
theorem wideC_wf {X : List Cal} (h : ∀ c, c ∈ X → c.wf) : ∀ c, c ∈ wideC X → c.wf := by
  intro c hc
  rcases List.mem_append.1 hc with hc | hc
  · exact h c hc
  · obtain ⟨i, _, rfl⟩ := List.mem_map.1 hc
    exact markC_wf _
/-- Seven cells are laid anew. -/
def put7o (w : World) (g o : Nat) (b0 b1 b2 b3 b4 b5 b6 : Value) : World :=
  ((((((w.setCell ⟨g, o, none⟩ b0).setCell ⟨g, o + 1, none⟩ b1).setCell ⟨g, o + 2, none⟩ b2).setCell ⟨g, o + 3, none⟩ b3).setCell ⟨g, o + 4, none⟩ b4).setCell ⟨g, o + 5, none⟩ b5).setCell ⟨g, o + 6, none⟩ b6
def set7 (cs : Array Value) (o : Nat) (b0 b1 b2 b3 b4 b5 b6 : Value) : Array Value :=
  ((((((cs.setIfInBounds o b0).setIfInBounds (o + 1) b1).setIfInBounds (o + 2) b2).setIfInBounds (o + 3) b3).setIfInBounds (o + 4) b4).setIfInBounds (o + 5) b5).setIfInBounds (o + 6) b6
theorem put7o_blk {w : World} {g o : Nat} {t : TypeId} {cs : Array Value} (h : Blk w g t cs) (b0 b1 b2 b3 b4 b5 b6 : Value) : Blk (put7o w g o b0 b1 b2 b3 b4 b5 b6) g t (set7 cs o b0 b1 b2 b3 b4 b5 b6) :=
  ((((((h.set_ o b0).set_ (o + 1) b1).set_ (o + 2) b2).set_ (o + 3) b3).set_ (o + 4) b4).set_ (o + 5) b5).set_ (o + 6) b6
theorem put7o_below {w0 w : World} {B g o : Nat} (h : Below B w0 w) (hg : B ≤ g) (b0 b1 b2 b3 b4 b5 b6 : Value) : Below B w0 (put7o w g o b0 b1 b2 b3 b4 b5 b6) :=
  ((((((h.setCell (p := ⟨g, _, none⟩) hg b0).setCell (p := ⟨g, _, none⟩) hg b1).setCell (p := ⟨g, _, none⟩) hg b2).setCell (p := ⟨g, _, none⟩) hg b3).setCell (p := ⟨g, _, none⟩) hg b4).setCell (p := ⟨g, _, none⟩) hg b5).setCell (p := ⟨g, _, none⟩) hg b6
theorem set7_size (cs : Array Value) (o : Nat) (b0 b1 b2 b3 b4 b5 b6 : Value) : (set7 cs o b0 b1 b2 b3 b4 b5 b6).size = cs.size := by simp [set7]
theorem set7_far {cs : Array Value} {o m : Nat} (h : m < o ∨ o + 7 ≤ m) (b0 b1 b2 b3 b4 b5 b6 : Value) : (set7 cs o b0 b1 b2 b3 b4 b5 b6)[m]? = cs[m]? := by
  unfold set7
  repeat rw [Array.getElem?_setIfInBounds_ne (by omega)]
theorem set7_at {cs : Array Value} {o : Nat} (h : o + 7 ≤ cs.size) (b0 b1 b2 b3 b4 b5 b6 : Value) (k : Nat) (hk : k < 7) : (set7 cs o b0 b1 b2 b3 b4 b5 b6)[o + k]? = [b0, b1, b2, b3, b4, b5, b6][k]? := by
  unfold set7
  rcases (show k = 0 ∨ k = 1 ∨ k = 2 ∨ k = 3 ∨ k = 4 ∨ k = 5 ∨ k = 6 by omega) with rfl | rfl | rfl | rfl | rfl | rfl | rfl
  all_goals
    try simp only [Nat.add_zero]
    repeat (first | rw [Array.getElem?_setIfInBounds_self_of_lt (by first | omega | (simp only [Array.size_setIfInBounds]; omega))] | rw [Array.getElem?_setIfInBounds_ne (by omega)])
    try rfl
/-- Where the loop stands that makes the list. -/
def WideRel (X : List Cal) (w0 : World) (i : Value) (wr : World) : Prop :=
  ∃ (j : Nat) (cs : Array Value), j ≤ X.length + 64 ∧ i = .int .i64 j ∧ Blk wr w0.heap.size 58 cs ∧ cs.size = (X.length + 64) * 7 ∧ (∀ (m : Nat) (c : Cal), m < j → (wideC X)[m]? = some c → ∀ k, k < 7 → cs[m * 7 + k]? = (calL c)[k]?) ∧ Below w0.heap.size w0 wr
theorem WideRel.more {X : List Cal} {w0 wr : World} {j : Nat} {cs : Array Value} {c : Cal} (hc : (wideC X)[j]? = some c) (hb : Blk wr w0.heap.size 58 cs) (hs : cs.size = (X.length + 64) * 7) (hold : ∀ (m : Nat) (c : Cal), m < j → (wideC X)[m]? = some c → ∀ k, k < 7 → cs[m * 7 + k]? = (calL c)[k]?) (hw : Below w0.heap.size w0 wr) :
    WideRel X w0 (.int .i64 ((j : Int) + 1)) (put7o wr w0.heap.size (j * 7) (.int .i8 c.op) (.int .i64 c.arg) (.int .i64 c.new) (.int .i64 c.ans) (.bool c.ok) (.int .i64 c.beg) (.int .i64 c.fin)) := by
  have hj : j < X.length + 64 := by have := (List.getElem?_eq_some_iff.1 hc).1; rwa [wideC_len] at this
  refine ⟨j + 1, _, hj, by rw [Int.natCast_add]; rfl, put7o_blk hb _ _ _ _ _ _ _, by rw [set7_size, hs], fun m d hm hd k hk => ?_, put7o_below hw (Nat.le_refl _) _ _ _ _ _ _ _⟩
  by_cases e : m = j
  · subst e
    obtain rfl : c = d := Option.some.inj (hc.symm.trans hd)
    have hm7 : m * 7 + 7 ≤ cs.size := by rw [hs]; omega
    exact set7_at hm7 _ _ _ _ _ _ _ k hk
  · have hm7 : m * 7 + k < j * 7 ∨ j * 7 + 7 ≤ m * 7 + k := by omega
    rw [set7_far hm7]
    exact hold m d (by omega) hd k hk
theorem WideRel.mark {X : List Cal} {w0 wr : World} {j : Nat} {cs : Array Value} {x : Int} (hx : x = numF 9 j) (h1 : X.length ≤ j) (h2 : j < X.length + 64) (hb : Blk wr w0.heap.size 58 cs) (hs : cs.size = (X.length + 64) * 7) (hold : ∀ (m : Nat) (c : Cal), m < j → (wideC X)[m]? = some c → ∀ k, k < 7 → cs[m * 7 + k]? = (calL c)[k]?) (hw : Below w0.heap.size w0 wr) :
    WideRel X w0 (.int .i64 ((j : Int) + 1)) (put7o wr w0.heap.size (j * 7) (.int .i8 0) (.int .i64 0) (.int .i64 0) (.int .i64 0) (.bool false) (.int .i64 x) (.int .i64 0)) := by
  subst hx
  have h := WideRel.more (wideC_hi h1 h2) hb hs hold hw
  simp only [markC] at h
  exact h
def WidePost (X : List Cal) (w : World) (e : Ending) (w' : World) : Prop := e = .returned (.slice (some ⟨w.heap.size, 0, none⟩) X.length (X.length + 64)) ∧ CallsAt w' w'.heap.size (some ⟨w.heap.size, 0, none⟩) (wideC X) ∧ Below w.heap.size w w'
theorem wide_calls {X : List Cal} {wr : World} {g : Nat} {cs : Array Value} (hb : Blk wr g 58 cs) (hold : ∀ (m : Nat) (c : Cal), m < X.length + 64 → (wideC X)[m]? = some c → ∀ k, k < 7 → cs[m * 7 + k]? = (calL c)[k]?) (hw : ∀ c, c ∈ X → c.wf) : CallsAt wr wr.heap.size (some ⟨g, 0, none⟩) (wideC X) := by
  refine ⟨wideC_wf hw, fun i c hc => ⟨g, 0, rfl, hb.lt, ?_⟩⟩
  have hi : i < X.length + 64 := by have := (List.getElem?_eq_some_iff.1 hc).1; rwa [wideC_len] at this
  have k : ∀ j, j < 7 → ∀ u, (calL c)[j]? = some u → wr.cell? ⟨g, 0 + i * 7 + j, none⟩ = some u := fun j hj u hu => by
    rw [Nat.zero_add, hb.cell]
    exact (hold i c hi hc j hj).trans hu
  exact ⟨k 0 (by omega) _ rfl, k 1 (by omega) _ rfl, k 2 (by omega) _ rfl, k 3 (by omega) _ rfl, k 4 (by omega) _ rfl, k 5 (by omega) _ rfl, k 6 (by omega) _ rfl⟩
set_option maxHeartbeats 800000 in
theorem wideC_any (b : Option Addr) (cap n : Nat) (X : List Cal) (hn : X.length = n) (hl : n ≤ 2147483647) (w : World) (h : CallsAt w w.heap.size b X) :
    Calls Tryd.prog 11 #[.slice b n cap] w (WidePost X w) := by
  have HC := Lib.hid h
  clear h
  obtain ⟨i0, hi0, hz0, hz1, hz2⟩ := info_parts infoCal
  have hmk : ∀ W : World, (Instr.makeSlice 22 (.int .i64 ((n : Int) + 64)) (.int .i64 ((n : Int) + 64))).run Tryd.prog W = .ok (.slice (some ⟨W.heap.size, 0, none⟩) (n + 64) (n + 64)) (W.alloc (.cells (madeCells #[.int .i8 0, .int .i64 0, .int .i64 0, .int .i64 0, .bool false, .int .i64 0, .int .i64 0] ((n + 64) * 7)) 58)) := fun W => by
    have h := run_make_rowN (P := Tryd.prog) 22 58 i0 _ Tryd.underlying22 hi0 hz0 .i64 .i64 (n + 64) (n + 64) (Nat.le_refl _) (by rw [hz2]; omega) (by omega) W
    rw [hz1, show ((n + 64 : Nat) : Int) = (n : Int) + 64 by omega] at h
    exact h
  go_enter Tryd.func11, Tryd.ntmps11
  go_wp2_with fail
  obtain ⟨w1, hw1⟩ : ∃ w1, w1 = w.alloc (.cells (madeCells #[.int .i8 0, .int .i64 0, .int .i64 0, .int .i64 0, .bool false, .int .i64 0, .int .i64 0] ((n + 64) * 7)) 58) := ⟨_, rfl⟩
  rw [← hw1]
  have HB1 : Hid (Blk w1 w.heap.size 58 (madeCells #[.int .i8 0, .int .i64 0, .int .i64 0, .int .i64 0, .bool false, .int .i64 0, .int .i64 0] ((n + 64) * 7))) := Lib.hid (by rw [hw1]; exact Blk.new _ _ _)
  have HK1 : Hid (Below w.heap.size w w1) := Lib.hid (by rw [hw1]; exact (Below.refl _ w).alloc (Nat.le_refl _) _)
  clear hw1 hmk
  go_loopw [4] (fun i wr => WideRel X w i wr) (fun i _ => n + 64 - (intOf i).toNat)
  case atStart => exact ⟨0, _, Nat.zero_le _, rfl, HB1.out, by rw [hn]; simp [madeCells], by intro m c hm; omega, HK1.out⟩
  case round =>
    obtain ⟨j, cs, hj, rfl, hb, hs, hold, hk⟩ := hrel
    have HB := Lib.hid hb
    have HK := Lib.hid hk
    have HO := Lib.hid hold
    clear hb hk hold
    by_cases hlt : j < n + 64
    · have hx : decide (j < n + 64) = true := by simpa using hlt
      have hxi : decide ((j : Int) < (n : Int) + 64) = true := by simp; omega
      have hg := HB.out.lt
      have hcell : ∀ k, k < 7 → ∃ v, wr.cell? ⟨w.heap.size, j * 7 + k, none⟩ = some v := fun k hk => ⟨cs[j * 7 + k]'(by omega), by rw [HB.out.cell, Array.getElem?_eq_getElem]⟩
      obtain ⟨o0, p0⟩ := hcell 0 (by omega)
      obtain ⟨o1, p1⟩ := hcell 1 (by omega)
      obtain ⟨o2, p2⟩ := hcell 2 (by omega)
      obtain ⟨o3, p3⟩ := hcell 3 (by omega)
      obtain ⟨o4, p4⟩ := hcell 4 (by omega)
      obtain ⟨o5, p5⟩ := hcell 5 (by omega)
      obtain ⟨o6, p6⟩ := hcell 6 (by omega)
      rw [Nat.add_zero] at p0
      have f := fun k => HB.out.frozen (j * 7 + k)
      have f0 := f 0
      have f1 := f 1
      have f2 := f 2
      have f3 := f 3
      have f4 := f 4
      have f5 := f 5
      have f6 := f 6
      rw [Nat.add_zero] at f0
      clear hcell f
      by_cases hjn : j < n
      · have hy : decide (j < n) = true := by simpa using hjn
        have hyi : decide ((j : Int) < (n : Int)) = true := by simp; omega
        obtain ⟨c, hc⟩ : ∃ c, X[j]? = some c := ⟨X[j], List.getElem?_eq_getElem (by omega)⟩
        obtain ⟨g, off, rfl, hg2, hA⟩ := (HC.out.of HK.out).at_ j c hc
        obtain ⟨q0, q1, q2, q3, q4, q5, q6⟩ := hA
        have hc' : (wideC X)[j]? = some c := by rw [wideC_lo (by omega)]; exact hc
        have HCJ := Lib.hid hc'
        clear hc hc'
        go_wp2_with fail
        exact ⟨WideRel.more HCJ.out HB.out hs HO.out HK.out, by simp [intOf]; omega⟩
      · have hy : decide (j < n) = false := by simpa using hjn
        have hyi : decide ((j : Int) < (n : Int)) = false := by simp; omega
        have hc' : (wideC X)[j]? = some (markC j) := wideC_hi (by omega) (by omega)
        have HCJ := Lib.hid hc'
        clear hc'
        go_wp2_with (go_at_call 40; go_must (refine (num_any 9 j _).mono ?_); rintro e w2 ⟨rfl, rfl⟩)
        generalize hnum : numF 9 (j : Int) = x
        refine ⟨?_, by simp [intOf]; omega⟩
        exact WideRel.mark hnum.symm (by omega) (by omega) HB.out hs HO.out HK.out
    · obtain rfl : j = n + 64 := by omega
      have hx : decide (n + 64 < n + 64) = false := by simp
      have hxi : decide ((n : Int) + 64 < (n : Int) + 64) = false := by simp
      go_wp2_with fail
      go_ret
      refine ⟨by rw [hn]; rfl, wide_calls HB.out (by rw [hn]; exact HO.out) HC.out.wf, HK.out⟩
theorem guard58 : Tryd.prog.eqGuardType Tryd.prog.depth 58 = false := by kernel_rfl
theorem mark_eq (x : Int) (w : World) : (binOp .eql 58 (.agg #[.int .i8 0, .int .i64 0, .int .i64 0, .int .i64 0, .bool false, .int .i64 x, .int .i64 0]) (.agg #[.int .i8 0, .int .i64 0, .int .i64 0, .int .i64 0, .bool false, .int .i64 x, .int .i64 0])).run Tryd.prog w = .ok (.bool true) w := by
  go_simp
theorem quiet_upon_of {C : World → Prop} {w : World} {v : Value} {s : Sem Value} (h : s.run Tryd.prog w = .ok v w) : Oper.quietUpon Tryd.prog C w v ((s >>= fun v => pure (.value v)).run Tryd.prog w) := by
  rw [Sem.run_bind, h]
  exact ⟨rfl, rfl⟩
/-- Where the loop stands that looks at the marks. -/
def SpareRel (n : Nat) (w0 : World) (i : Value) (wr : World) : Prop := ∃ j : Nat, n ≤ j ∧ j ≤ n + 64 ∧ i = .int .i64 j ∧ Below w0.heap.size w0 wr
def SparePost (w : World) (e : Ending) (w' : World) : Prop := e = .returned (.bool true) ∧ Below w.heap.size w w'
set_option maxHeartbeats 800000 in
theorem spareC_any (g n : Nat) (X : List Cal) (hn : X.length = n) (hl : n ≤ 2147483647) (w : World) (h : CallsAt w w.heap.size (some ⟨g, 0, none⟩) (wideC X)) :
    Calls Tryd.prog 16 #[.slice (some ⟨g, 0, none⟩) n (n + 64)] w (SparePost w) := by
  have HC := Lib.hid h
  clear h
  obtain ⟨i0, hi0, hz0, hz1, hz2⟩ := info_parts infoCal
  go_enter Tryd.func16, Tryd.ntmps16
  go_wp2_with fail
  go_loopw [4, 5] (fun i _ wr => SpareRel n w i wr) (fun i _ _ => n + 64 - (intOf i).toNat)
  case atStart => exact ⟨n, Nat.le_refl _, by omega, rfl, Below.refl _ _⟩
  case round =>
    obtain ⟨j, hj, hj2, rfl, hk⟩ := hrel
    have HK := Lib.hid hk
    clear hk
    by_cases hlt : j < n + 64
    · have hx : decide (j < n + 64) = true := by simpa using hlt
      have hxi : decide ((j : Int) < (n : Int) + 64) = true := by simp; omega
      obtain ⟨g2, off, e2, hg, hA⟩ := (HC.out.of HK.out).at_ j (markC j) (wideC_hi (by omega) (by omega))
      injection e2 with e2
      injection e2 with e3 e4
      subst e3 e4
      obtain ⟨q0, q1, q2, q3, q4, q5, q6⟩ := hA
      simp only [markC, Nat.zero_add] at q0 q1 q2 q3 q4 q5 q6
      have hnum := fun W => num_any 9 (j : Int) W
      generalize numF 9 (j : Int) = x at q5 hnum
      go_upto_region 6 with (fail)
      obtain ⟨w2, hw2⟩ : ∃ w2, w2 = wr.alloc (.cells #[.int .i8 0, .int .i64 0, .int .i64 0, .int .i64 0, .bool false, .int .i64 x, .int .i64 0] 58) := ⟨_, rfl⟩
      rw [← hw2]
      have HB2 : Hid (Blk w2 wr.heap.size 58 #[.int .i8 0, .int .i64 0, .int .i64 0, .int .i64 0, .bool false, .int .i64 x, .int .i64 0]) := Lib.hid (by rw [hw2]; exact Blk.new _ _ _)
      have HK2 : Hid (Below w.heap.size w w2) := Lib.hid (by rw [hw2]; exact HK.out.alloc HK.out.size _)
      clear hw2 q0 q1 q2 q3 q4 q5 q6
      have p0 : w2.cell? ⟨wr.heap.size, 0, none⟩ = some (.int .i8 0) := HB2.out.cell 0
      have p1 : w2.cell? ⟨wr.heap.size, 1, none⟩ = some (.int .i64 0) := HB2.out.cell 1
      have p2 : w2.cell? ⟨wr.heap.size, 2, none⟩ = some (.int .i64 0) := HB2.out.cell 2
      have p3 : w2.cell? ⟨wr.heap.size, 3, none⟩ = some (.int .i64 0) := HB2.out.cell 3
      have p4 : w2.cell? ⟨wr.heap.size, 4, none⟩ = some (.bool false) := HB2.out.cell 4
      have p5 : w2.cell? ⟨wr.heap.size, 5, none⟩ = some (.int .i64 x) := HB2.out.cell 5
      have p6 : w2.cell? ⟨wr.heap.size, 6, none⟩ = some (.int .i64 0) := HB2.out.cell 6
      refine wp_region_quiet_lit (by kernel_rfl) (by kernel_rfl) ?_
      quiet_step (fail)
      quiet_step (fail)
      quiet_step ((go_at_call 40; exact quiet_left (hnum _)))
      quiet_step (fail)
      refine BigFrame.wpQuiet_want (by simp only [Region.wanted]) (fun K hK => ?_)
      refine ⟨.bool true, fun W _ => ?_, hK _ ?_⟩
      · unfold Oper.quietAt
        have h1 := run_eqGuard_agg (P := Tryd.prog) W .eql 58 (.tmp 23) (.tmp 26) #[.int .i8 0, .int .i64 0, .int .i64 0, .int .i64 0, .bool false, .int .i64 x, .int .i64 0] #[.int .i8 0, .int .i64 0, .int .i64 0, .int .i64 0, .bool false, .int .i64 x, .int .i64 0] guard58
        have h2 : (do eqGuard .eql 58 (.tmp 23) (.tmp 26) (.agg #[.int .i8 0, .int .i64 0, .int .i64 0, .int .i64 0, .bool false, .int .i64 x, .int .i64 0]) (.agg #[.int .i8 0, .int .i64 0, .int .i64 0, .int .i64 0, .bool false, .int .i64 x, .int .i64 0]); binOp .eql 58 (.agg #[.int .i8 0, .int .i64 0, .int .i64 0, .int .i64 0, .bool false, .int .i64 x, .int .i64 0]) (.agg #[.int .i8 0, .int .i64 0, .int .i64 0, .int .i64 0, .bool false, .int .i64 x, .int .i64 0]) : Sem Value).run Tryd.prog W = .ok (.bool true) W := by
          rw [Sem.run_bind, h1, Result.andThen_ok]
          exact mark_eq x W
        exact quiet_upon_of h2
      clear hK K
      quiet_step (fail)
      refine wpQuiet_nil ?_
      intro _ hw'
      obtain ⟨nq, hw''⟩ := hw'
      subst hw''
      go_wp2_with fail
      exact ⟨⟨j + 1, by omega, hlt, by rw [Int.natCast_add]; rfl, HK2.out.trans (below_drewN (Below.refl _ _) _)⟩, by simp [intOf]; omega⟩
    · obtain rfl : j = n + 64 := by omega
      have hx : decide (n + 64 < n + 64) = false := by simp
      have hxi : decide ((n : Int) + 64 < (n : Int) + 64) = false := by simp
      go_wp2_with fail
      go_ret
      exact ⟨rfl, HK.out⟩
end Go.Proofs.YtonnlgpjobfnmaaDoor

/- The laws' small helpers over lists of accesses: equal lists, wide lists, the marks behind them. (Printed by gen_acc.py from the texts for calls.) Conditions: what the slices' cells hold. -/
import Derived.Test.YtonnlgpjobfnmaaDoorRLinB
import Derived.Test.YtonnlgpjobfnmaaDoorRJudgeY
namespace Go.Proofs.YtonnlgpjobfnmaaDoor
open Go.RowKit
set_option maxRecDepth 100000
set_option maxHeartbeats 4000000 in
theorem eqAccs_same (a b : Option Addr) (ca cb n B1 B2 : Nat) (X : List Acc) (hn : X.length = n) (hl : n ≤ 9223372036854775807) (w : World) (ha : LogAt w B1 a X) (hb : LogAt w B2 b X) :
    Calls Tryd.prog 31 #[.slice a n ca, .slice b n cb] w (EqPost w) := by
  have HA := Lib.hid ha
  have HB := Lib.hid hb
  clear ha hb
  go_enter Tryd.func31, Tryd.ntmps31
  go_wp2_with fail
  go_loopw [5] (fun i wr => EqRel n w i wr) (fun i _ => n - (intOf i).toNat)
  case atStart => exact ⟨0, 0, Nat.zero_le _, rfl, rfl⟩
  case round =>
    obtain ⟨j, nd, hj, rfl, rfl⟩ := hrel
    by_cases hlt : j < n
    · have hx : decide (j < n) = true := by simpa using hlt
      have hxi : decide ((j : Int) < (n : Int)) = true := by simp; omega
      obtain ⟨x, hx0⟩ : ∃ x, X[j]? = some x := ⟨X[j], List.getElem?_eq_getElem (by omega)⟩
      obtain ⟨g, off, rfl, _, hA⟩ := HA.out.at_ j x hx0
      obtain ⟨g2, off2, rfl, _, hB⟩ := HB.out.at_ j x hx0
      obtain ⟨p0, p1, p2, p3, p4, p5, p6, p7⟩ := hA
      obtain ⟨q0, q1, q2, q3, q4, q5, q6, q7⟩ := hB
      clear hx0
      go_upto_region 6 with (fail)
      go_quiet (fail)
      go_wp2_with fail
      exact ⟨⟨j + 1, _, hlt, by rw [Int.natCast_add]; rfl, rfl⟩, by simp [intOf]; omega⟩
    · have hx : decide (j < n) = false := by simpa using hlt
      have hxi : decide ((j : Int) < (n : Int)) = false := by simp; omega
      go_wp2_with fail
      go_ret
      exact ⟨rfl, _, rfl⟩
def markA (i : Nat) : Acc := ⟨0, 0, numF 9 i, 0, 0, 0, 0, false⟩
/-- The calls, and the marks behind them. -/
def wideA (X : List Acc) : List Acc := X ++ (List.range 64).map fun j => markA (X.length + j)
theorem wideA_len (X : List Acc) : (wideA X).length = X.length + 64 := by simp [wideA]
theorem wideA_lo {X : List Acc} {i : Nat} (h : i < X.length) : (wideA X)[i]? = X[i]? := by rw [wideA, List.getElem?_append_left h]
theorem wideA_hi {X : List Acc} {i : Nat} (h : X.length ≤ i) (h2 : i < X.length + 64) : (wideA X)[i]? = some (markA i) := by
  rw [wideA, List.getElem?_append_right h, List.getElem?_map, List.getElem?_range (by omega)]
  simp only [Option.map_some]
  congr 2
  omega
theorem markA_wf (i : Nat) : (markA i).wf := by
  have hz : i64in 0 := by unfold i64in; omega
  have hx : i64in (numF 9 (i : Nat)) := by have := numF_wf 9 (i : Nat); unfold i64of at this; unfold i64in; omega
  exact ⟨hz, by unfold markA; simp, hx, hz, hz, hz, hz⟩
theorem wideA_wf {X : List Acc} (h : ∀ c, c ∈ X → c.wf) : ∀ c, c ∈ wideA X → c.wf := by
  intro c hc
  rcases List.mem_append.1 hc with hc | hc
  · exact h c hc
  · obtain ⟨i, _, rfl⟩ := List.mem_map.1 hc
    exact markA_wf _
/-- Eight cells are laid anew. -/
def put8o (w : World) (g o : Nat) (b0 b1 b2 b3 b4 b5 b6 b7 : Value) : World :=
  (((((((w.setCell ⟨g, o, none⟩ b0).setCell ⟨g, o + 1, none⟩ b1).setCell ⟨g, o + 2, none⟩ b2).setCell ⟨g, o + 3, none⟩ b3).setCell ⟨g, o + 4, none⟩ b4).setCell ⟨g, o + 5, none⟩ b5).setCell ⟨g, o + 6, none⟩ b6).setCell ⟨g, o + 7, none⟩ b7
def set8 (cs : Array Value) (o : Nat) (b0 b1 b2 b3 b4 b5 b6 b7 : Value) : Array Value :=
  (((((((cs.setIfInBounds o b0).setIfInBounds (o + 1) b1).setIfInBounds (o + 2) b2).setIfInBounds (o + 3) b3).setIfInBounds (o + 4) b4).setIfInBounds (o + 5) b5).setIfInBounds (o + 6) b6).setIfInBounds (o + 7) b7
theorem put8o_blk {w : World} {g o : Nat} {t : TypeId} {cs : Array Value} (h : Blk w g t cs) (b0 b1 b2 b3 b4 b5 b6 b7 : Value) : Blk (put8o w g o b0 b1 b2 b3 b4 b5 b6 b7) g t (set8 cs o b0 b1 b2 b3 b4 b5 b6 b7) :=
  (((((((h.set_ o b0).set_ (o + 1) b1).set_ (o + 2) b2).set_ (o + 3) b3).set_ (o + 4) b4).set_ (o + 5) b5).set_ (o + 6) b6).set_ (o + 7) b7
theorem put8o_below {w0 w : World} {B g o : Nat} (h : Below B w0 w) (hg : B ≤ g) (b0 b1 b2 b3 b4 b5 b6 b7 : Value) : Below B w0 (put8o w g o b0 b1 b2 b3 b4 b5 b6 b7) :=
  (((((((h.setCell (p := ⟨g, _, none⟩) hg b0).setCell (p := ⟨g, _, none⟩) hg b1).setCell (p := ⟨g, _, none⟩) hg b2).setCell (p := ⟨g, _, none⟩) hg b3).setCell (p := ⟨g, _, none⟩) hg b4).setCell (p := ⟨g, _, none⟩) hg b5).setCell (p := ⟨g, _, none⟩) hg b6).setCell (p := ⟨g, _, none⟩) hg b7
theorem set8_size (cs : Array Value) (o : Nat) (b0 b1 b2 b3 b4 b5 b6 b7 : Value) : (set8 cs o b0 b1 b2 b3 b4 b5 b6 b7).size = cs.size := by simp [set8]
theorem set8_far {cs : Array Value} {o m : Nat} (h : m < o ∨ o + 8 ≤ m) (b0 b1 b2 b3 b4 b5 b6 b7 : Value) : (set8 cs o b0 b1 b2 b3 b4 b5 b6 b7)[m]? = cs[m]? := by
  unfold set8
  repeat rw [Array.getElem?_setIfInBounds_ne (by omega)]
theorem set8_at {cs : Array Value} {o : Nat} (h : o + 8 ≤ cs.size) (b0 b1 b2 b3 b4 b5 b6 b7 : Value) (k : Nat) (hk : k < 8) : (set8 cs o b0 b1 b2 b3 b4 b5 b6 b7)[o + k]? = [b0, b1, b2, b3, b4, b5, b6, b7][k]? := by
  unfold set8
  rcases (show k = 0 ∨ k = 1 ∨ k = 2 ∨ k = 3 ∨ k = 4 ∨ k = 5 ∨ k = 6 ∨ k = 7 by omega) with rfl | rfl | rfl | rfl | rfl | rfl | rfl | rfl
  all_goals
    try simp only [Nat.add_zero]
    repeat (first | rw [Array.getElem?_setIfInBounds_self_of_lt (by first | omega | (simp only [Array.size_setIfInBounds]; omega))] | rw [Array.getElem?_setIfInBounds_ne (by omega)])
    try rfl
/-- Where the loop stands that makes the list. -/
def WideARel (X : List Acc) (w0 : World) (i : Value) (wr : World) : Prop :=
  ∃ (j : Nat) (cs : Array Value), j ≤ X.length + 64 ∧ i = .int .i64 j ∧ Blk wr w0.heap.size 71 cs ∧ cs.size = (X.length + 64) * 8 ∧ (∀ (m : Nat) (c : Acc), m < j → (wideA X)[m]? = some c → ∀ k, k < 8 → cs[m * 8 + k]? = (accL c)[k]?) ∧ Below w0.heap.size w0 wr
theorem WideARel.more {X : List Acc} {w0 wr : World} {j : Nat} {cs : Array Value} {c : Acc} (hc : (wideA X)[j]? = some c) (hb : Blk wr w0.heap.size 71 cs) (hs : cs.size = (X.length + 64) * 8) (hold : ∀ (m : Nat) (c : Acc), m < j → (wideA X)[m]? = some c → ∀ k, k < 8 → cs[m * 8 + k]? = (accL c)[k]?) (hw : Below w0.heap.size w0 wr) :
    WideARel X w0 (.int .i64 ((j : Int) + 1)) (put8o wr w0.heap.size (j * 8) (.int .i64 c.th) (.int .i8 c.op) (.int .i64 c.cell) (.int .i64 c.arg) (.int .i64 c.new) (.int .i64 c.was) (.int .i64 c.now) (.bool c.ok)) := by
  have hj : j < X.length + 64 := by have := (List.getElem?_eq_some_iff.1 hc).1; rwa [wideA_len] at this
  refine ⟨j + 1, _, hj, by rw [Int.natCast_add]; rfl, put8o_blk hb _ _ _ _ _ _ _ _, by rw [set8_size, hs], fun m d hm hd k hk => ?_, put8o_below hw (Nat.le_refl _) _ _ _ _ _ _ _ _⟩
  by_cases e : m = j
  · subst e
    obtain rfl : c = d := Option.some.inj (hc.symm.trans hd)
    have hm8 : m * 8 + 8 ≤ cs.size := by rw [hs]; omega
    exact set8_at hm8 _ _ _ _ _ _ _ _ k hk
  · have hm8 : m * 8 + k < j * 8 ∨ j * 8 + 8 ≤ m * 8 + k := by omega
    rw [set8_far hm8]
    exact hold m d (by omega) hd k hk
theorem WideARel.mark {X : List Acc} {w0 wr : World} {j : Nat} {cs : Array Value} {x : Int} (hx : x = numF 9 j) (h1 : X.length ≤ j) (h2 : j < X.length + 64) (hb : Blk wr w0.heap.size 71 cs) (hs : cs.size = (X.length + 64) * 8) (hold : ∀ (m : Nat) (c : Acc), m < j → (wideA X)[m]? = some c → ∀ k, k < 8 → cs[m * 8 + k]? = (accL c)[k]?) (hw : Below w0.heap.size w0 wr) :
    WideARel X w0 (.int .i64 ((j : Int) + 1)) (put8o wr w0.heap.size (j * 8) (.int .i64 0) (.int .i8 0) (.int .i64 x) (.int .i64 0) (.int .i64 0) (.int .i64 0) (.int .i64 0) (.bool false)) := by
  subst hx
  have h := WideARel.more (wideA_hi h1 h2) hb hs hold hw
  simp only [markA] at h
  exact h
def WideAPost (X : List Acc) (w : World) (e : Ending) (w' : World) : Prop := e = .returned (.slice (some ⟨w.heap.size, 0, none⟩) X.length (X.length + 64)) ∧ LogAt w' w'.heap.size (some ⟨w.heap.size, 0, none⟩) (wideA X) ∧ Below w.heap.size w w'
theorem wide_accs {X : List Acc} {wr : World} {g : Nat} {cs : Array Value} (hb : Blk wr g 71 cs) (hold : ∀ (m : Nat) (c : Acc), m < X.length + 64 → (wideA X)[m]? = some c → ∀ k, k < 8 → cs[m * 8 + k]? = (accL c)[k]?) (hw : ∀ c, c ∈ X → c.wf) (hl : X.length ≤ 2147483647) : LogAt wr wr.heap.size (some ⟨g, 0, none⟩) (wideA X) := by
  refine ⟨by rw [wideA_len]; omega, wideA_wf hw, fun i c hc => ⟨g, 0, rfl, hb.lt, ?_⟩⟩
  have hi : i < X.length + 64 := by have := (List.getElem?_eq_some_iff.1 hc).1; rwa [wideA_len] at this
  have k : ∀ j, j < 8 → ∀ u, (accL c)[j]? = some u → wr.cell? ⟨g, 0 + i * 8 + j, none⟩ = some u := fun j hj u hu => by
    rw [Nat.zero_add, hb.cell]
    exact (hold i c hi hc j hj).trans hu
  exact ⟨k 0 (by omega) _ rfl, k 1 (by omega) _ rfl, k 2 (by omega) _ rfl, k 3 (by omega) _ rfl, k 4 (by omega) _ rfl, k 5 (by omega) _ rfl, k 6 (by omega) _ rfl, k 7 (by omega) _ rfl⟩
set_option maxHeartbeats 800000 in
theorem wideA_any (b : Option Addr) (cap n : Nat) (X : List Acc) (hn : X.length = n) (hl : n ≤ 2147483647) (w : World) (h : LogAt w w.heap.size b X) :
    Calls Tryd.prog 26 #[.slice b n cap] w (WideAPost X w) := by
  have HC := Lib.hid h
  clear h
  obtain ⟨i0, hi0, hz0, hz1, hz2⟩ := info_parts infoAcc
  have hmk : ∀ W : World, (Instr.makeSlice 64 (.int .i64 ((n : Int) + 64)) (.int .i64 ((n : Int) + 64))).run Tryd.prog W = .ok (.slice (some ⟨W.heap.size, 0, none⟩) (n + 64) (n + 64)) (W.alloc (.cells (madeCells #[.int .i64 0, .int .i8 0, .int .i64 0, .int .i64 0, .int .i64 0, .int .i64 0, .int .i64 0, .bool false] ((n + 64) * 8)) 71)) := fun W => by
    have h := run_make_rowN (P := Tryd.prog) 64 71 i0 _ Tryd.underlying64 hi0 hz0 .i64 .i64 (n + 64) (n + 64) (Nat.le_refl _) (by rw [hz2]; omega) (by omega) W
    rw [hz1, show ((n + 64 : Nat) : Int) = (n : Int) + 64 by omega] at h
    exact h
  go_enter Tryd.func26, Tryd.ntmps26
  go_wp2_with fail
  obtain ⟨w1, hw1⟩ : ∃ w1, w1 = w.alloc (.cells (madeCells #[.int .i64 0, .int .i8 0, .int .i64 0, .int .i64 0, .int .i64 0, .int .i64 0, .int .i64 0, .bool false] ((n + 64) * 8)) 71) := ⟨_, rfl⟩
  rw [← hw1]
  have HB1 : Hid (Blk w1 w.heap.size 71 (madeCells #[.int .i64 0, .int .i8 0, .int .i64 0, .int .i64 0, .int .i64 0, .int .i64 0, .int .i64 0, .bool false] ((n + 64) * 8))) := Lib.hid (by rw [hw1]; exact Blk.new _ _ _)
  have HK1 : Hid (Below w.heap.size w w1) := Lib.hid (by rw [hw1]; exact (Below.refl _ w).alloc (Nat.le_refl _) _)
  clear hw1 hmk
  go_loopw [4] (fun i wr => WideARel X w i wr) (fun i _ => n + 64 - (intOf i).toNat)
  case atStart => exact ⟨0, _, Nat.zero_le _, rfl, HB1.out, by rw [hn]; simp [madeCells], by intro m c hm; omega, HK1.out⟩
  case round =>
    obtain ⟨j, cs, hj, rfl, hb, hs, hold, hk⟩ := hrel
    have HB := Lib.hid hb
    have HK := Lib.hid hk
    have HO := Lib.hid hold
    clear hb hk hold
    by_cases hlt : j < n + 64
    · have hx : decide (j < n + 64) = true := by simpa using hlt
      have hxi : decide ((j : Int) < (n : Int) + 64) = true := by simp; omega
      have hg := HB.out.lt
      have hcell : ∀ k, k < 8 → ∃ v, wr.cell? ⟨w.heap.size, j * 8 + k, none⟩ = some v := fun k hk => ⟨cs[j * 8 + k]'(by omega), by rw [HB.out.cell, Array.getElem?_eq_getElem]⟩
      obtain ⟨o0, p0⟩ := hcell 0 (by omega)
      obtain ⟨o1, p1⟩ := hcell 1 (by omega)
      obtain ⟨o2, p2⟩ := hcell 2 (by omega)
      obtain ⟨o3, p3⟩ := hcell 3 (by omega)
      obtain ⟨o4, p4⟩ := hcell 4 (by omega)
      obtain ⟨o5, p5⟩ := hcell 5 (by omega)
      obtain ⟨o6, p6⟩ := hcell 6 (by omega)
      obtain ⟨o7, p7⟩ := hcell 7 (by omega)
      rw [Nat.add_zero] at p0
      have f := fun k => HB.out.frozen (j * 8 + k)
      have f0 := f 0
      have f1 := f 1
      have f2 := f 2
      have f3 := f 3
      have f4 := f 4
      have f5 := f 5
      have f6 := f 6
      have f7 := f 7
      rw [Nat.add_zero] at f0
      clear hcell f
      by_cases hjn : j < n
      · have hy : decide (j < n) = true := by simpa using hjn
        have hyi : decide ((j : Int) < (n : Int)) = true := by simp; omega
        obtain ⟨c, hc⟩ : ∃ c, X[j]? = some c := ⟨X[j], List.getElem?_eq_getElem (by omega)⟩
        obtain ⟨g, off, rfl, hg2, hA⟩ := (HC.out.of HK.out).at_ j c hc
        obtain ⟨q0, q1, q2, q3, q4, q5, q6, q7⟩ := hA
        have hc' : (wideA X)[j]? = some c := by rw [wideA_lo (by omega)]; exact hc
        have HCJ := Lib.hid hc'
        clear hc hc'
        go_wp2_with fail
        exact ⟨WideARel.more HCJ.out HB.out hs HO.out HK.out, by simp [intOf]; omega⟩
      · have hy : decide (j < n) = false := by simpa using hjn
        have hyi : decide ((j : Int) < (n : Int)) = false := by simp; omega
        have hc' : (wideA X)[j]? = some (markA j) := wideA_hi (by omega) (by omega)
        have HCJ := Lib.hid hc'
        clear hc'
        go_wp2_with (go_at_call 40; go_must (refine (num_any 9 j _).mono ?_); rintro e w2 ⟨rfl, rfl⟩)
        generalize hnum : numF 9 (j : Int) = x
        refine ⟨?_, by simp [intOf]; omega⟩
        exact WideARel.mark hnum.symm (by omega) (by omega) HB.out hs HO.out HK.out
    · obtain rfl : j = n + 64 := by omega
      have hx : decide (n + 64 < n + 64) = false := by simp
      have hxi : decide ((n : Int) + 64 < (n : Int) + 64) = false := by simp
      go_wp2_with fail
      go_ret
      refine ⟨by rw [hn]; rfl, wide_accs HB.out (by rw [hn]; exact HO.out) HC.out.wf (by omega), HK.out⟩
theorem guardAcc : Tryd.prog.eqGuardType Tryd.prog.depth 71 = false := by kernel_rfl
theorem markA_eq (x : Int) (w : World) : (binOp .eql 71 (.agg #[.int .i64 0, .int .i8 0, .int .i64 x, .int .i64 0, .int .i64 0, .int .i64 0, .int .i64 0, .bool false]) (.agg #[.int .i64 0, .int .i8 0, .int .i64 x, .int .i64 0, .int .i64 0, .int .i64 0, .int .i64 0, .bool false])).run Tryd.prog w = .ok (.bool true) w := by
  go_simp
theorem quiet_upon_ofA {C : World → Prop} {w : World} {v : Value} {s : Sem Value} (h : s.run Tryd.prog w = .ok v w) : Oper.quietUpon Tryd.prog C w v ((s >>= fun v => pure (.value v)).run Tryd.prog w) := by
  rw [Sem.run_bind, h]
  exact ⟨rfl, rfl⟩
/-- Where the loop stands that looks at the marks. -/
def SpareARel (n : Nat) (w0 : World) (i : Value) (wr : World) : Prop := ∃ j : Nat, n ≤ j ∧ j ≤ n + 64 ∧ i = .int .i64 j ∧ Below w0.heap.size w0 wr
def SpareAPost (w : World) (e : Ending) (w' : World) : Prop := e = .returned (.bool true) ∧ Below w.heap.size w w'
set_option maxHeartbeats 800000 in
theorem spareA_any (g n : Nat) (X : List Acc) (hn : X.length = n) (hl : n ≤ 2147483647) (w : World) (h : LogAt w w.heap.size (some ⟨g, 0, none⟩) (wideA X)) :
    Calls Tryd.prog 32 #[.slice (some ⟨g, 0, none⟩) n (n + 64)] w (SpareAPost w) := by
  have HC := Lib.hid h
  clear h
  obtain ⟨i0, hi0, hz0, hz1, hz2⟩ := info_parts infoAcc
  go_enter Tryd.func32, Tryd.ntmps32
  go_wp2_with fail
  go_loopw [4, 5] (fun i _ wr => SpareARel n w i wr) (fun i _ _ => n + 64 - (intOf i).toNat)
  case atStart => exact ⟨n, Nat.le_refl _, by omega, rfl, Below.refl _ _⟩
  case round =>
    obtain ⟨j, hj, hj2, rfl, hk⟩ := hrel
    have HK := Lib.hid hk
    clear hk
    by_cases hlt : j < n + 64
    · have hx : decide (j < n + 64) = true := by simpa using hlt
      have hxi : decide ((j : Int) < (n : Int) + 64) = true := by simp; omega
      obtain ⟨g2, off, e2, hg, hA⟩ := (HC.out.of HK.out).at_ j (markA j) (wideA_hi (by omega) (by omega))
      injection e2 with e2
      injection e2 with e3 e4
      subst e3 e4
      obtain ⟨q0, q1, q2, q3, q4, q5, q6, q7⟩ := hA
      simp only [markA, Nat.zero_add] at q0 q1 q2 q3 q4 q5 q6 q7
      have hnum := fun W => num_any 9 (j : Int) W
      generalize numF 9 (j : Int) = x at q2 hnum
      go_upto_region 6 with (fail)
      obtain ⟨w2, hw2⟩ : ∃ w2, w2 = wr.alloc (.cells #[.int .i64 0, .int .i8 0, .int .i64 x, .int .i64 0, .int .i64 0, .int .i64 0, .int .i64 0, .bool false] 71) := ⟨_, rfl⟩
      rw [← hw2]
      have HB2 : Hid (Blk w2 wr.heap.size 71 #[.int .i64 0, .int .i8 0, .int .i64 x, .int .i64 0, .int .i64 0, .int .i64 0, .int .i64 0, .bool false]) := Lib.hid (by rw [hw2]; exact Blk.new _ _ _)
      have HK2 : Hid (Below w.heap.size w w2) := Lib.hid (by rw [hw2]; exact HK.out.alloc HK.out.size _)
      clear hw2 q0 q1 q2 q3 q4 q5 q6 q7
      have p0 : w2.cell? ⟨wr.heap.size, 0, none⟩ = some (.int .i64 0) := HB2.out.cell 0
      have p1 : w2.cell? ⟨wr.heap.size, 1, none⟩ = some (.int .i8 0) := HB2.out.cell 1
      have p2 : w2.cell? ⟨wr.heap.size, 2, none⟩ = some (.int .i64 x) := HB2.out.cell 2
      have p3 : w2.cell? ⟨wr.heap.size, 3, none⟩ = some (.int .i64 0) := HB2.out.cell 3
      have p4 : w2.cell? ⟨wr.heap.size, 4, none⟩ = some (.int .i64 0) := HB2.out.cell 4
      have p5 : w2.cell? ⟨wr.heap.size, 5, none⟩ = some (.int .i64 0) := HB2.out.cell 5
      have p6 : w2.cell? ⟨wr.heap.size, 6, none⟩ = some (.int .i64 0) := HB2.out.cell 6
      have p7 : w2.cell? ⟨wr.heap.size, 7, none⟩ = some (.bool false) := HB2.out.cell 7
      refine wp_region_quiet_lit (by kernel_rfl) (by kernel_rfl) ?_
      quiet_step (fail)
      quiet_step (fail)
      quiet_step ((go_at_call 40; exact quiet_left (hnum _)))
      quiet_step (fail)
      refine BigFrame.wpQuiet_want (by simp only [Region.wanted]) (fun K hK => ?_)
      refine ⟨.bool true, fun W _ => ?_, hK _ ?_⟩
      · unfold Oper.quietAt
        have h1 := run_eqGuard_agg (P := Tryd.prog) W .eql 71 (.tmp 23) (.tmp 26) #[.int .i64 0, .int .i8 0, .int .i64 x, .int .i64 0, .int .i64 0, .int .i64 0, .int .i64 0, .bool false] #[.int .i64 0, .int .i8 0, .int .i64 x, .int .i64 0, .int .i64 0, .int .i64 0, .int .i64 0, .bool false] guardAcc
        have h2 : (do eqGuard .eql 71 (.tmp 23) (.tmp 26) (.agg #[.int .i64 0, .int .i8 0, .int .i64 x, .int .i64 0, .int .i64 0, .int .i64 0, .int .i64 0, .bool false]) (.agg #[.int .i64 0, .int .i8 0, .int .i64 x, .int .i64 0, .int .i64 0, .int .i64 0, .int .i64 0, .bool false]); binOp .eql 71 (.agg #[.int .i64 0, .int .i8 0, .int .i64 x, .int .i64 0, .int .i64 0, .int .i64 0, .int .i64 0, .bool false]) (.agg #[.int .i64 0, .int .i8 0, .int .i64 x, .int .i64 0, .int .i64 0, .int .i64 0, .int .i64 0, .bool false]) : Sem Value).run Tryd.prog W = .ok (.bool true) W := by
          rw [Sem.run_bind, h1, Result.andThen_ok]
          exact markA_eq x W
        exact quiet_upon_ofA h2
      clear hK K
      quiet_step (fail)
      refine wpQuiet_nil ?_
      intro _ hw'
      obtain ⟨nq, hw''⟩ := hw'
      subst hw''
      go_wp2_with fail
      exact ⟨⟨j + 1, by omega, hlt, by rw [Int.natCast_add]; rfl, HK2.out.trans (below_drewN (Below.refl _ _) _)⟩, by simp [intOf]; omega⟩
    · obtain rfl : j = n + 64 := by omega
      have hx : decide (n + 64 < n + 64) = false := by simp
      have hxi : decide ((n : Int) + 64 < (n : Int) + 64) = false := by simp
      go_wp2_with fail
      go_ret
      exact ⟨rfl, HK.out⟩
end Go.Proofs.YtonnlgpjobfnmaaDoor

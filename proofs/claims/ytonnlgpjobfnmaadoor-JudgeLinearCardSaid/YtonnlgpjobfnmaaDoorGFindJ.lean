/- JudgeFinds' walk: the loop that makes the log. Conditions: what the slices' cells hold; Go's table of the powers of ten. -/
import Derived.Test.YtonnlgpjobfnmaaDoorGFindH
import Derived.Test.YtonnlgpjobfnmaaDoorGFindI
namespace Go.Proofs.YtonnlgpjobfnmaaDoor
open Go.RowKit
set_option maxRecDepth 100000
/-- A slice reads as a list of bytes. -/
structure BytesAt (w : World) (B : Nat) (b : Option Addr) (L : List Int) : Prop where
  wf : byteL L
  at_ : ∀ (i : Nat) (x : Int), L[i]? = some x → ∃ g off, b = some ⟨g, off, none⟩ ∧ g < B ∧ w.cell? ⟨g, off + i, none⟩ = some (.int .u8 x)
theorem BytesAt.of {w w' : World} {B : Nat} {b : Option Addr} {L : List Int} (h : BytesAt w B b L) (hb : Below B w w') : BytesAt w' B b L :=
  ⟨h.wf, fun i x hx => by
    obtain ⟨g, off, e, hg, hc⟩ := h.at_ i x hx
    exact ⟨g, off, e, hg, (hb.cell (p := ⟨g, off + i, none⟩) hg).trans hc⟩⟩
def FdRel (k : Int) (cs : List Cal) (E L : List Int) (w : World) (i v vh : Value) (wr : World) : Prop :=
  ∃ a : Nat, a ≤ cs.length ∧ i = .int .i64 a ∧ OwnTh wr w.heap.size v (stB k cs a) ∧ wr.ownsRow w.heap.size 58 7 vh a ((planH k cs E L a).flatMap calL) ∧ (∀ c, c ∈ planH k cs E L a → c.wf) ∧ Below w.heap.size w wr
def FindsPost (w : World) (e : Ending) (w' : World) : Prop := e = .returned (.bool true) ∧ Below w.heap.size w w'
theorem put7_kept {w : World} {g : Nat} (b0 b1 b2 b3 b4 b5 b6 : Value) : Kept (fun q => q = g) w (put7 w g b0 b1 b2 b3 b4 b5 b6) := by
  unfold put7
  exact (((((((Kept.refl (fun q => q = g) w).set (p := ⟨g, 0, none⟩) rfl _).set (p := ⟨g, 1, none⟩) rfl _).set (p := ⟨g, 2, none⟩) rfl _).set (p := ⟨g, 3, none⟩) rfl _).set (p := ⟨g, 4, none⟩) rfl _).set (p := ⟨g, 5, none⟩) rfl _).set (p := ⟨g, 6, none⟩) rfl _
theorem row_kept {S : Nat → Prop} {w w' : World} {base n size : Nat} {e : TypeId} {v : Value} {xs : List Value} (h : w.ownsRow base e size v n xs) (k : Kept S w w') (hS : ∀ q cs, v.ownBlock = some q → Blk w q e cs → ¬ S q) : w'.ownsRow base e size v n xs := by
  obtain ⟨h1, h2 | ⟨g, cap, cur, hv, hb, hg, h3⟩⟩ := h
  · exact ⟨h1, .inl h2⟩
  · exact ⟨h1, .inr ⟨g, cap, cur, hv, hb, (k.block g (Array.getElem?_eq_some_iff.1 hg).1 (hS g cur (by rw [hv]; rfl) hg)).trans hg, h3⟩⟩
theorem Kept.of_grown {w w' : World} {r : Option Nat} (h : w.grownBy w' r) : Kept (fun q => r = some q) w w' := ⟨h.os, h.tape, h.output, h.size, fun q hq hs => h.block q hq (by first | exact hs | exact fun e => hs e.symm)⟩
theorem copyC_n {n : Nat} {H : List Cal} (hn : H.length = n) (b : Option Addr) (cap : Nat) (hl : H.length ≤ 1000000) (w : World) (h : CallsAt w w.heap.size b H) : Calls Tryd.prog 22 #[.slice b n cap] w (CopyCPost H w) := by
  subst hn
  exact copyC_any b cap H hl w h
def LinPost2 (l : List Nat) (w : World) (e : Ending) (w' : World) : Prop :=
  Below w.heap.size w w' ∧ ∃ v, e = .returned (.tuple #[v, .bool true, .int .i64 0]) ∧ w'.ownsRow w.heap.size 3 1 v l.length (l.map fun i => .int .i64 (i : Nat))
theorem linear_l {k : Int} {l : List Nat} {H : List Cal} {n : Nat} (hn : H.length = n) (hk : 1 ≤ k ∧ k ≤ 4) (hl : linOf k H = (some l, 0)) (b : Option Addr) (cap : Nat) (hcap : H.length ≤ 1000000) (w : World) (hC : CallsAt w w.heap.size b H) (hb : ∀ g off, b = some ⟨g, off, none⟩ → g < w.heap.size) (hT : Tens w) :
    Calls Tryd.prog 12 #[.int .i64 k, .slice b n cap] w (LinPost2 l w) := by
  subst hn
  refine (linear_any k (by unfold i64of; omega) b cap H (by omega) w hC hb hT).mono ?_
  rintro e w' ⟨h1, v, rfl, h2⟩
  rw [hl] at h2
  exact ⟨h1, v, by rw [hl]; rfl, h2⟩
/-- Where the law stands that looks at the order that was found. -/
def FoRel (k : Int) (H : List Cal) (l : List Nat) (vo vh : Value) (gs : Nat) (w : World) (i v : Value) (wr : World) : Prop :=
  ∃ (m d : Nat) (hs : List Int), m ≤ l.length ∧ i = .int .i64 m ∧ Way k H (mustOf H) d hs (l.drop m) ∧ OwnTh wr w.heap.size v hs ∧ (2 < k → hs.length = 1) ∧ hs.length ≤ m + 1 ∧
    (∃ bs, Blk wr gs 62 bs ∧ ∀ j, j < 12 → bs[j]? = some (.bool (d.testBit j))) ∧
    wr.ownsRow w.heap.size 3 1 vo l.length (l.map fun i => .int .i64 (i : Nat)) ∧ wr.ownsRow w.heap.size 58 7 vh H.length (H.flatMap calL) ∧ Below w.heap.size w wr
theorem row_mono {w : World} {b base n size : Nat} {e : TypeId} {v : Value} {xs : List Value} (h : w.ownsRow b e size v n xs) (hb : base ≤ b) : w.ownsRow base e size v n xs := by
  obtain ⟨h1, h2 | ⟨g, cap, cur, hv, hg, h3⟩⟩ := h
  · exact ⟨h1, .inl h2⟩
  · exact ⟨h1, .inr ⟨g, cap, cur, hv, Nat.le_trans hb hg, h3⟩⟩
theorem row_shape {w : World} {base n size : Nat} {e : TypeId} {v : Value} {xs : List Value} (h : w.ownsRow base e size v n xs) : ∃ a cap, v = .slice a n cap := by
  obtain ⟨_, ⟨rfl, rfl⟩ | ⟨g, cap, cur, hv, _⟩⟩ := h
  · exact ⟨_, _, rfl⟩
  · exact ⟨_, _, hv⟩
theorem OwnTh.mono {w : World} {b b' : Nat} {v : Value} {hs : List Int} (h : OwnTh w b v hs) (hb : b' ≤ b) : OwnTh w b' v hs := by
  obtain ⟨h1, h2 | ⟨g, off, cap, cs, hv, hg, h3⟩⟩ := h
  · exact ⟨h1, .inl h2⟩
  · exact ⟨h1, .inr ⟨g, off, cap, cs, hv, Nat.le_trans hb hg, h3⟩⟩
theorem zero_bits : ∀ j, j < 12 → (#[.bool false, .bool false, .bool false, .bool false, .bool false, .bool false, .bool false, .bool false, .bool false, .bool false, .bool false, .bool false] : Array Value)[j]? = some (.bool ((0 : Nat).testBit j)) := by
  intro j hj
  rw [Nat.zero_testBit]
  rcases (show j = 0 ∨ j = 1 ∨ j = 2 ∨ j = 3 ∨ j = 4 ∨ j = 5 ∨ j = 6 ∨ j = 7 ∨ j = 8 ∨ j = 9 ∨ j = 10 ∨ j = 11 by omega) with rfl | rfl | rfl | rfl | rfl | rfl | rfl | rfl | rfl | rfl | rfl | rfl <;> rfl
theorem row_lt {w : World} {base n size : Nat} {e : TypeId} {v : Value} {xs : List Value} (h : w.ownsRow base e size v n xs) : ∀ q, v.ownBlock = some q → q < w.heap.size ∧ base ≤ q ∧ ∃ cs, Blk w q e cs := by
  intro q hq
  rcases h.2 with ⟨hv, _⟩ | ⟨g', cap', cur, hv, hb, hg', _⟩
  · rw [hv] at hq
    cases hq
  · rw [hv] at hq
    injection hq with hq
    have hq : g' = q := hq
    subst hq
    exact ⟨(Array.getElem?_eq_some_iff.1 hg').1, hb, cur, hg'⟩
/-- Where the law stands that looks whether a call comes ahead. -/
def FiRel (n : Nat) (w0 : World) (i : Value) (wr : World) : Prop := ∃ j nd : Nat, j ≤ n ∧ i = .int .i64 j ∧ wr = w0.drewN nd
theorem late_is {H : List Cal} {d : Nat} {c : Cal} (h : lateB H d c = false) (j : Nat) (x : Cal) (hx : H[j]? = some x) : ahd d j x c = false := by
  cases e : ahd d j x c with
  | false => rfl
  | true => rw [late_yes hx e] at h; cases h
theorem seen_bit {bs : Array Value} {d q : Nat} (h : ∀ j, j < 12 → bs[j]? = some (.bool (d.testBit j))) (hq : q < 12) (j : Nat) (hj : j < 12) : (bs.setIfInBounds q (.bool true))[j]? = some (.bool ((bitSet d q).testBit j)) := by
  unfold bitSet
  rw [Nat.testBit_or, Nat.testBit_two_pow]
  by_cases e : q = j
  · subst e
    rw [Array.getElem?_setIfInBounds_self_of_lt (Array.getElem?_eq_some_iff.1 (h q hq)).1]
    simp
  · rw [Array.getElem?_setIfInBounds_ne e, h j hj]
    simp [e]
set_option maxHeartbeats 20000000 in
theorem finds_good (k : Int) (hk : 1 ≤ k ∧ k ≤ 4) (b eb lb : Option Addr) (cap ecap lcap : Nat) (cs : List Cal) (E L : List Int) (h12 : cs.length ≤ 12) (hE : cs.length ≤ E.length) (hL : cs.length ≤ L.length)
    (w : World) (hC : CallsAt w w.heap.size b cs) (hBE : BytesAt w w.heap.size eb E) (hBL : BytesAt w w.heap.size lb L) (hT : Tens w) :
    Calls Tryd.prog 4 #[.int .i64 k, .slice b cs.length cap, .slice eb E.length ecap, .slice lb L.length lcap] w (FindsPost w) := by
  have HC := Lib.hid hC
  obtain ⟨j0, hj0, hjz0, hjz1, hjz2⟩ := info_parts infoCal
  have HBE := Lib.hid hBE
  have HBL := Lib.hid hBL
  have HT := Lib.hid hT
  have HK := Lib.hid hk
  have d1 : decide (k < 1) = false := by simp; omega
  have d2 : decide (4 < k) = false := by simp; omega
  have d3 : decide ((12 : Int) < (cs.length : Int)) = false := by simp; omega
  have d4 : decide ((E.length : Int) < (cs.length : Int)) = false := by simp; omega
  have d5 : decide ((L.length : Int) < (cs.length : Int)) = false := by simp; omega
  have e3 : decide (12 < cs.length) = false := by simp; omega
  have e4 : decide (E.length < cs.length) = false := by simp; omega
  have e5 : decide (L.length < cs.length) = false := by simp; omega
  clear hC hBE hBL hT hk
  go_enter Tryd.func4, Tryd.ntmps4
  go_upto_region 5 with (go_at_call 19; go_must (refine (begin_any k HK.out w).mono ?_); rintro e w1 ⟨v1, rfl, ho1, hb1⟩; have HO1 := Lib.hid ho1; have HB1 := Lib.hid hb1; clear ho1 hb1)
  clear d1 d2 d3 d4 d5 e3 e4 e5
  go_wp2_with fail
  go_loopw [11, 9, 10] (fun i v vh wr => FdRel k cs E L w i v vh wr) (fun i _ _ _ => 12 - (intOf i).toNat)
  case atStart => exact ⟨0, Nat.zero_le _, rfl, HO1.out, World.ownsRow_nil _ _ _ _, (fun c hc => by cases hc), HB1.out⟩
  case round =>
    obtain ⟨a, ha, rfl, hown, hrow, hwf, hbel⟩ := hrel
    have HO := Lib.hid hown
    have HR := Lib.hid hrow
    have HW := Lib.hid hwf
    have HB := Lib.hid hbel
    clear hown hrow hwf hbel
    by_cases hlt : a < cs.length
    · have hx : decide (a < cs.length) = true := by simpa using hlt
      have hxi : decide ((a : Int) < (cs.length : Int)) = true := by simp; omega
      obtain ⟨c, hc⟩ : ∃ c, cs[a]? = some c := ⟨cs[a], List.getElem?_eq_getElem hlt⟩
      obtain ⟨g, off, rfl, hg, hA⟩ := (HC.out.of HB.out).at_ a c hc
      obtain ⟨q0, q1, q2, q3, q4, q5, q6⟩ := hA
      have HCC := Lib.hid hc
      have hgz : g < wr.heap.size := Nat.lt_of_lt_of_le hg HB.out.size
      clear hc
      go_upto_region 9 with (go_at_call 20; rw [show (#[Value.int .i8 c.op, .int .i64 c.arg, .int .i64 c.new, .int .i64 c.ans, .bool c.ok, .int .i64 c.beg, .int .i64 c.fin] : Array Value) = calA c from rfl]; go_must (refine (tidy_any k HK.out c _).mono ?_); rintro e w2 ⟨rfl, hb2⟩; have HB2 := Lib.hid hb2; clear hb2; obtain ⟨c1, hc1⟩ : ∃ c1, c1 = tidyF k c := ⟨_, rfl⟩; rw [← hc1]; have HC1 := Lib.hid hc1; clear hc1; unfold calA)
      clear q0 q1 q2 q3 q4 q5 q6 hg hgz
      obtain ⟨w3, hw3⟩ : ∃ w3, w3 = w2.alloc (.cells (calA c1) 58) := ⟨_, rfl⟩
      have hw3' := hw3
      unfold calA at hw3'
      rw [← hw3']
      clear hw3'
      have BLK3 : Blk w3 w2.heap.size 58 (calA c1) := by rw [hw3]; exact Blk.new _ _ _
      have HO3 : Hid (OwnTh w3 w.heap.size _ (stB k cs a)) := Lib.hid (by rw [hw3]; exact HO.out.same ((Kept.of_below HB2.out).alloc _))
      have HB3 : Hid (Below wr.heap.size wr w3) := Lib.hid (by rw [hw3]; exact HB2.out.alloc HB2.out.size _)
      have hz3 : w3.heap.size = w2.heap.size + 1 := by rw [hw3]; simp
      have hz2 := HB2.out.size
      have hzr := HB.out.size
      clear hw3
      have p0 : w3.cell? ⟨w2.heap.size, 0, none⟩ = some (.int .i8 c1.op) := BLK3.cell 0
      have p1 : w3.cell? ⟨w2.heap.size, 1, none⟩ = some (.int .i64 c1.arg) := BLK3.cell 1
      have p2 : w3.cell? ⟨w2.heap.size, 2, none⟩ = some (.int .i64 c1.new) := BLK3.cell 2
      have p3 : w3.cell? ⟨w2.heap.size, 3, none⟩ = some (.int .i64 c1.ans) := BLK3.cell 3
      have p4 : w3.cell? ⟨w2.heap.size, 4, none⟩ = some (.bool c1.ok) := BLK3.cell 4
      have p5 : w3.cell? ⟨w2.heap.size, 5, none⟩ = some (.int .i64 c1.beg) := BLK3.cell 5
      have p6 : w3.cell? ⟨w2.heap.size, 6, none⟩ = some (.int .i64 c1.fin) := BLK3.cell 6
      have HBK := Lib.hid BLK3
      clear BLK3
      have HW1 : Hid c1.wf := Lib.hid (by rw [HC1.out]; exact tidyF_wf (HC.out.wf c (List.mem_of_getElem? HCC.out)))
      go_upto_region 10 with (go_at_call 21; rw [show (#[Value.int .i8 c1.op, .int .i64 c1.arg, .int .i64 c1.new, .int .i64 c1.ans, .bool c1.ok, .int .i64 c1.beg, .int .i64 c1.fin] : Array Value) = calA c1 from rfl]; go_must (refine (plain_any w.heap.size k HK.out _ (stB k cs a) c1 HW1.out w3 (by omega) HO3.out (by have := stB_len k cs a; omega) (fun h => stB_one h cs a)).mono ?_); rintro e w4 ⟨v4, rfl, ho4, hk4⟩; obtain ⟨c2, hc2⟩ : ∃ c2, c2 = (doesF k (stB k cs a) c1).2 := ⟨_, rfl⟩; rw [← hc2]; have HC2 := Lib.hid hc2; clear hc2; unfold calA; have BLK4 : Blk w4 w2.heap.size 58 (calA c1) := hk4.blk HBK.out (fun hown => by obtain ⟨_, cs', hcs'⟩ := HO3.out.own1 hown; exact Blk.ne_ hcs' HBK.out (by decide) rfl); have HO4 := Lib.hid ho4; have HK4 := Lib.hid hk4; have HBK4 := Lib.hid BLK4; have hz4 := hk4.size; have s0 : w4.cell? ⟨w2.heap.size, 0, none⟩ = some (.int .i8 c1.op) := BLK4.cell 0; have s1 : w4.cell? ⟨w2.heap.size, 1, none⟩ = some (.int .i64 c1.arg) := BLK4.cell 1; have s2 : w4.cell? ⟨w2.heap.size, 2, none⟩ = some (.int .i64 c1.new) := BLK4.cell 2; have s3 : w4.cell? ⟨w2.heap.size, 3, none⟩ = some (.int .i64 c1.ans) := BLK4.cell 3; have s4 : w4.cell? ⟨w2.heap.size, 4, none⟩ = some (.bool c1.ok) := BLK4.cell 4; have s5 : w4.cell? ⟨w2.heap.size, 5, none⟩ = some (.int .i64 c1.beg) := BLK4.cell 5; have s6 : w4.cell? ⟨w2.heap.size, 6, none⟩ = some (.int .i64 c1.fin) := BLK4.cell 6; have f0 := BLK4.frozen 0; have f1 := BLK4.frozen 1; have f2 := BLK4.frozen 2; have f3 := BLK4.frozen 3; have f4 := BLK4.frozen 4; have f5 := BLK4.frozen 5; have f6 := BLK4.frozen 6; clear BLK4 ho4 hk4)
      clear s0 s1 s2 s3 s4 s5 s6 f0 f1 f2 f3 f4 f5 f6 p0 p1 p2 p3 p4 p5 p6
      obtain ⟨w5, hw5⟩ : ∃ w5, w5 = put7 w4 w2.heap.size (.int .i8 c2.op) (.int .i64 c2.arg) (.int .i64 c2.new) (.int .i64 c2.ans) (.bool c2.ok) (.int .i64 c2.beg) (.int .i64 c2.fin) := ⟨_, rfl⟩
      have hw5' := hw5
      unfold put7 at hw5'
      rw [← hw5']
      clear hw5'
      have HBK5 : Hid (Blk w5 w2.heap.size 58 (calA c2)) := Lib.hid (by rw [hw5]; exact put7_blk HBK4.out _ _ _ _ _ _ _)
      have HKP5 : Hid (Kept (fun q => q = w2.heap.size) w4 w5) := Lib.hid (by rw [hw5]; exact put7_kept _ _ _ _ _ _ _)
      have HOL5 : Hid (OwnTh w5 w.heap.size v4 (stB k cs (a + 1))) := Lib.hid (by
        have h1 : stB k cs (a + 1) = (doesF k (stB k cs a) c1).1 := by rw [stB, HCC.out, HC1.out]; rfl
        rw [h1]
        exact HO4.out.kept HKP5.out fun q cs' hq _ e => Blk.ne_ hq HBK4.out (by decide) e)
      have HKW4 : Hid (Below w.heap.size w w4) := Lib.hid ((HB.out.trans (HB3.out.mono HB.out.size)).trans (HK4.out.below (by omega) fun q hq => (HO3.out.own1 hq).1))
      have HB5 : Hid (Below w.heap.size w w5) := Lib.hid (HKW4.out.trans (HKP5.out.below (by omega) fun q hq => by omega))
      have HR5 : Hid (w5.ownsRow w.heap.size 58 7 _ a ((planH k cs E L a).flatMap calL)) := Lib.hid (row_kept (row_kept (row_kept HR.out (Kept.of_below (S := fun _ => False) HB3.out) (fun _ _ _ _ => id)) HK4.out (fun q cs' _ hq hown => by obtain ⟨_, cs2, hcs2⟩ := HO3.out.own1 hown; exact Blk.ne_ hcs2 hq (by decide) rfl)) HKP5.out (fun q cs' hq hq2 e => by
        have := (row_kept HR.out (Kept.refl (fun _ => False) _) (fun _ _ _ _ => id)).2
        rcases this with ⟨hv, _⟩ | ⟨g', cap', cur, hv, _, hg', _⟩
        · rw [hv] at hq
          cases hq
        · rw [hv] at hq
          injection hq with hq
          have hq : g' = q := hq
          have := (Array.getElem?_eq_some_iff.1 hg').1
          omega))
      have hz5 := HKP5.out.size
      clear hw5
      obtain ⟨e0, he0⟩ : ∃ e0, E[a]? = some e0 := ⟨E[a], List.getElem?_eq_getElem (by omega)⟩
      obtain ⟨l0, hl0⟩ : ∃ l0, L[a]? = some l0 := ⟨L[a], List.getElem?_eq_getElem (by omega)⟩
      obtain ⟨ge, offe, rfl, hge, ce⟩ := (HBE.out.of HB5.out).at_ a e0 he0
      obtain ⟨gl, offl, rfl, hgl, cl⟩ := (HBL.out.of HB5.out).at_ a l0 hl0
      have be := HBE.out.wf e0 (List.mem_of_getElem? he0)
      have bl := HBL.out.wf l0 (List.mem_of_getElem? hl0)
      have HE0 := Lib.hid he0
      have HL0 := Lib.hid hl0
      clear he0 hl0
      obtain ⟨be0, be1⟩ := be
      obtain ⟨bl0, bl1⟩ := bl
      have s0 : w5.cell? ⟨w2.heap.size, 0, none⟩ = some (.int .i8 c2.op) := HBK5.out.cell 0
      have s1 : w5.cell? ⟨w2.heap.size, 1, none⟩ = some (.int .i64 c2.arg) := HBK5.out.cell 1
      have s2 : w5.cell? ⟨w2.heap.size, 2, none⟩ = some (.int .i64 c2.new) := HBK5.out.cell 2
      have s3 : w5.cell? ⟨w2.heap.size, 3, none⟩ = some (.int .i64 c2.ans) := HBK5.out.cell 3
      have s4 : w5.cell? ⟨w2.heap.size, 4, none⟩ = some (.bool c2.ok) := HBK5.out.cell 4
      have s5 : w5.cell? ⟨w2.heap.size, 5, none⟩ = some (.int .i64 c2.beg) := HBK5.out.cell 5
      have s6 : w5.cell? ⟨w2.heap.size, 6, none⟩ = some (.int .i64 c2.fin) := HBK5.out.cell 6
      have f5 := HBK5.out.frozen 5
      have f6 := HBK5.out.frozen 6
      have hal : a < 12 := by omega
      have hne : ¬ gl = w2.heap.size := by omega
      have haE : a < E.length := by omega
      have haL : a < L.length := by omega
      go_upto_region 12 with (fail)
      obtain ⟨w7, hw7⟩ : ∃ w7, w7 = (w5.setCell ⟨w2.heap.size, 5, none⟩ (.int .i64 (10 * (a : Int) + 5 - min e0 (10 * (a : Int) + 5)))).setCell ⟨w2.heap.size, 6, none⟩ (.int .i64 (10 * (a : Int) + 5 + l0)) := ⟨_, rfl⟩
      rw [← hw7]
      obtain ⟨c3, hc3⟩ : ∃ c3, c3 = calB k cs E L a := ⟨_, rfl⟩
      have hc3' : c3 = stamp a e0 l0 c2 := by
        rw [hc3, calB, HE0.out, HL0.out, HCC.out, HC2.out, HC1.out]
        rfl
      have HW3 : Hid c3.wf := Lib.hid (by
        rw [hc3']
        refine stamp_wf ?_ (by omega) ⟨be0, be1⟩ ⟨bl0, bl1⟩
        rw [HC2.out]
        exact doesF_wf HW1.out HO3.out.1 HO4.out.1)
      have HBK7 : Hid (Blk w7 w2.heap.size 58 (calA c3)) := Lib.hid (by
        have h := (HBK5.out.set_ 5 (.int .i64 (10 * (a : Int) + 5 - min e0 (10 * (a : Int) + 5)))).set_ 6 (.int .i64 (10 * (a : Int) + 5 + l0))
        rw [hw7, hc3']
        exact h)
      have HKP7 : Hid (Kept (fun q => q = w2.heap.size) w5 w7) := Lib.hid (by rw [hw7]; exact ((Kept.refl (fun q => q = w2.heap.size) w5).set (p := ⟨w2.heap.size, 5, none⟩) rfl _).set (p := ⟨w2.heap.size, 6, none⟩) rfl _)
      have HC3 := Lib.hid hc3
      clear hw7 hc3 hc3' ce cl s0 s1 s2 s3 s4 s5 s6 f5 f6 hge hgl hne
      have hz7 := HKP7.out.size
      have t0 : w7.cell? ⟨w2.heap.size, 0, none⟩ = some (.int .i8 c3.op) := HBK7.out.cell 0
      have t1 : w7.cell? ⟨w2.heap.size, 1, none⟩ = some (.int .i64 c3.arg) := HBK7.out.cell 1
      have t2 : w7.cell? ⟨w2.heap.size, 2, none⟩ = some (.int .i64 c3.new) := HBK7.out.cell 2
      have t3 : w7.cell? ⟨w2.heap.size, 3, none⟩ = some (.int .i64 c3.ans) := HBK7.out.cell 3
      have t4 : w7.cell? ⟨w2.heap.size, 4, none⟩ = some (.bool c3.ok) := HBK7.out.cell 4
      have t5 : w7.cell? ⟨w2.heap.size, 5, none⟩ = some (.int .i64 c3.beg) := HBK7.out.cell 5
      have t6 : w7.cell? ⟨w2.heap.size, 6, none⟩ = some (.int .i64 c3.fin) := HBK7.out.cell 6
      have HOL7 : Hid (OwnTh w7 w.heap.size v4 (stB k cs (a + 1))) := Lib.hid (HOL5.out.kept HKP7.out fun q cs' hq _ e => Blk.ne_ hq HBK5.out (by decide) e)
      have HB7 : Hid (Below w.heap.size w w7) := Lib.hid (HB5.out.trans (HKP7.out.below (by omega) fun q hq => by omega))
      have HRO := Lib.hid (row_lt HR.out)
      have HR7 : Hid (w7.ownsRow w.heap.size 58 7 _ a ((planH k cs E L a).flatMap calL)) := Lib.hid (row_kept HR5.out HKP7.out (fun q cs' hq hq2 e => by have := (HRO.out q hq).1; omega))
      go_wp2_with (at_builtin; refine wpList_append_own _ rfl _ _ 22 rfl w.heap.size 58 j0 _ 7 56 Tryd.underlying22 hj0 hjz0 hjz1 hjz2 rfl (by decide) _ a ((planH k cs E L a).flatMap calL) rfl (row_kept HR7.out ((Kept.refl (fun _ => False) w7).alloc _) (fun _ _ _ _ => id)) ⟨w7.heap.size, 0, none⟩ 1 1 (calL c3) rfl rfl (World.news_of_block (heap_alloc_new _ _)) (by have := cal_one [c3]; simpa using this) (by unfold maxLen; omega) (by omega) (by simp; omega) ?_; intro v8 w8 hown8 hgrow8 _; have HO8 := Lib.hid hown8; have HG8 := Lib.hid hgrow8; clear hown8 hgrow8)
      have HK8 := ((Kept.refl _ w7).alloc _).trans (Kept.of_grown HG8.out)
      have HRO7 := Lib.hid (row_lt HR7.out)
      refine ⟨⟨a + 1, hlt, by rw [Int.natCast_add]; rfl, HOL7.out.kept HK8 fun q cs' hq _ e => ?_, ?_, fun c' hc' => ?_, HB7.out.trans (HK8.below (by omega) fun q hq => (HRO7.out q hq).2.1)⟩, by simp [intOf]; omega⟩
      · obtain ⟨_, _, cs2, h2⟩ := HRO7.out q e
        exact Blk.ne_ hq h2 (by decide) rfl
      · have h := HO8.out
        rw [planH_more, List.flatMap_append, ← HC3.out]
        simpa using h
      · rw [planH_more, List.mem_append, List.mem_singleton, ← HC3.out] at hc'
        rcases hc' with hc' | rfl
        · exact HW.out c' hc'
        · exact HW3.out
    · obtain rfl : a = cs.length := by omega
      obtain ⟨l, hl, hlen, hway⟩ := plan_lin HK.out cs HBE.out.wf HBL.out.wf h12
      obtain ⟨H, hH⟩ : ∃ H, H = planH k cs E L cs.length := ⟨_, rfl⟩
      have hHl : H.length = cs.length := by rw [hH, planH_len]
      have HPL : Hid (H = planH k cs E L cs.length) := Lib.hid hH
      have HWY : Hid (Way k H (mustOf H) 0 (begins k) l) := Lib.hid (by rw [hH]; exact hway)
      have HLF : Hid (linOf k H = (some l, 0)) := Lib.hid (by rw [hH]; exact hl)
      obtain ⟨bh, caph, rfl, hcaph, hCH, hbh⟩ := cals_own (L := H) (by have h := HR.out; rw [← hH] at h; exact h) hHl.symm (by rw [hH]; exact HW.out)
      have HCH := Lib.hid hCH
      have HBH := Lib.hid hbh
      have HRH : Hid (wr.ownsRow w.heap.size 58 7 _ H.length (H.flatMap calL)) := Lib.hid (by rw [hHl]; have h := HR.out; rw [← hH] at h; exact h)
      have HPW : Hid (∀ c, c ∈ planH k cs E L cs.length → c.wf) := HW
      clear hH hCH hbh hl hway HR HW HO
      have hx : decide (cs.length < cs.length) = false := by simp
      go_upto_region 14 with (first
        | (go_at_call 22; go_must (refine (copyC_n hHl bh caph (by omega) wr HCH.out).mono ?_); rintro e w2 ⟨b2, cap2, rfl, hcap2, hC2, hb2, hk2⟩; have HC2 := Lib.hid hC2; have HB2 := Lib.hid (fun g off e => (hb2 g off e).2); have HK2 := Lib.hid (HB.out.trans (hk2.mono HB.out.size)); have hn2 := hk2.size; have HRH2 := Lib.hid (row_kept HRH.out (Kept.of_below (S := fun _ => False) hk2) (fun _ _ _ _ => id)); have HCH2 := Lib.hid (HCH.out.of hk2); clear hC2 hb2 hk2)
        | (go_at_call 12; go_must (refine (linear_l hHl HK.out HLF.out b2 cap2 (by omega) w2 HC2.out HB2.out (HT.out.below HK2.out)).mono ?_); rintro e w3 ⟨hk3, v3, rfl, hr3⟩; have hn3 := hk3.size; have HRH3 := Lib.hid (row_kept HRH2.out (Kept.of_below (S := fun _ => False) hk3) (fun _ _ _ _ => id)); have HR3 := Lib.hid hr3; have HK3 := Lib.hid (HK2.out.trans (hk3.mono HK2.out.size)); have HCH3 := Lib.hid (HCH2.out.of (hk3.mono hn2)); clear hk3 hr3))
      obtain ⟨ao, capo, hvo⟩ := row_shape HR3.out
      rw [hlen] at hvo
      subst hvo
      go_upto_region 18 with (go_at_call 19; go_must (refine (begin_any k HK.out w3).mono ?_); rintro e w4 ⟨v4, rfl, ho4, hb4⟩; have HO4 := Lib.hid ho4; have HB4 := Lib.hid hb4; clear ho4 hb4)
      obtain ⟨w5, hw5⟩ : ∃ w5, w5 = w4.alloc (.cells #[.bool false, .bool false, .bool false, .bool false, .bool false, .bool false, .bool false, .bool false, .bool false, .bool false, .bool false, .bool false] 62) := ⟨_, rfl⟩
      rw [← hw5]
      have KB4 : Kept (fun _ => False) w3 w4 := Kept.of_below HB4.out
      have KB5 : Kept (fun _ => False) w4 w5 := by rw [hw5]; exact (Kept.refl _ w4).alloc _
      have hbs : w.heap.size ≤ w3.heap.size := HK3.out.size
      have HO5 : Hid (OwnTh w5 w.heap.size v4 (begins k)) := Lib.hid ((HO4.out.mono hbs).same KB5)
      have HS5 : Hid (Blk w5 w4.heap.size 62 #[.bool false, .bool false, .bool false, .bool false, .bool false, .bool false, .bool false, .bool false, .bool false, .bool false, .bool false, .bool false]) := Lib.hid (by rw [hw5]; exact Blk.new _ _ _)
      have HR5 := Lib.hid (row_mono (row_kept (row_kept HR3.out KB4 (fun _ _ _ _ => id)) KB5 (fun _ _ _ _ => id)) (show w.heap.size ≤ w2.heap.size from HK2.out.size))
      have HRH5 : Hid (w5.ownsRow w.heap.size 58 7 (.slice bh cs.length caph) H.length (H.flatMap calL)) := Lib.hid (by rw [← hHl]; exact row_kept (row_kept HRH3.out KB4 (fun _ _ _ _ => id)) KB5 (fun _ _ _ _ => id))
      have HB5 : Hid (Below w.heap.size w w5) := Lib.hid ((HK3.out.trans (HB4.out.mono hbs)).trans (KB5.below (by have := HB4.out.size; omega) (fun _ h => h.elim)))
      clear hw5 KB4 KB5 HO4 HR3 HRH3 HRH2 HRH hbs
      go_wp2_with fail
      go_loopw [17, 9] (fun i v wr => FoRel k H l (.slice ao cs.length capo) (.slice bh cs.length caph) w4.heap.size w i v wr) (fun i _ _ => 12 - (intOf i).toNat)
      case atStart => exact ⟨0, 0, begins k, Nat.zero_le _, rfl, HWY.out, HO5.out, fun h => by unfold begins; rw [if_neg (by omega)]; rfl, by unfold begins; split <;> simp, ⟨_, HS5.out, zero_bits⟩, HR5.out, HRH5.out, HB5.out⟩
      case round =>
        obtain ⟨m, d, hs, hm, rfl, hway, hown, h1, hlm, ⟨bs, hbs, hbits⟩, hro, hrh, hbel⟩ := hrel
        have HWY2 := Lib.hid hway
        have HOm := Lib.hid hown
        have H1m := Lib.hid h1
        have HSm := Lib.hid hbs
        have HBm := Lib.hid hbits
        have HRm := Lib.hid hro
        have HHm := Lib.hid hrh
        have HBl := Lib.hid hbel
        clear hway hown h1 hbs hbits hro hrh hbel
        rename World => w8
        by_cases hlt : m < cs.length
        · have hx : decide (m < cs.length) = true := by simpa using hlt
          have hxi : decide ((m : Int) < (cs.length : Int)) = true := by simp; omega
          have hml : m < l.length := by omega
          obtain ⟨q, hq⟩ : ∃ q, l[m]? = some q := ⟨l[m], List.getElem?_eq_getElem hml⟩
          have hdrop : l.drop m = q :: l.drop (m + 1) := by
            rw [List.drop_eq_getElem_cons hml]
            congr 1
            exact Option.some.inj ((List.getElem?_eq_getElem hml).symm.trans hq)
          have hwy := HWY2.out
          rw [hdrop] at hwy
          obtain ⟨_, c, hc, hok, hway'⟩ := hwy
          have HWY3 := Lib.hid hway'
          have HOK := Lib.hid hok
          have HCQ := Lib.hid hc
          have hqn : q < cs.length := by rw [← hHl]; exact (List.getElem?_eq_some_iff.1 hc).1
          have hbit := okStep_bit hok
          clear hdrop hway' hok hc HWY2
          obtain ⟨go, rfl⟩ : ∃ go, ao = some ⟨go, 0, none⟩ := by
            rcases HRm.out.2 with ⟨_, h0⟩ | ⟨g, _, _, hv, _⟩
            · omega
            · injection hv with hv
              exact ⟨g, hv⟩
          have co : w8.cell? ⟨go, m, none⟩ = some (.int .i64 (q : Int)) := by
            have := HRm.out.cells (g := go) rfl m (.int .i64 (q : Int)) (by rw [List.getElem?_map, hq]; rfl)
            rw [Addr.add_lit] at this
            simpa using this
          obtain ⟨gh, rfl⟩ : ∃ gh, bh = some ⟨gh, 0, none⟩ := by
            rcases HHm.out.2 with ⟨_, h0⟩ | ⟨g, _, _, hv, _⟩
            · omega
            · injection hv with hv
              exact ⟨g, hv⟩
          have hq12 : q < 12 := by omega
          have cb : w8.cell? ⟨w4.heap.size, q, none⟩ = some (.bool false) := by
            rw [HSm.out.cell, HBm.out q hq12, hbit]
          have fb := HSm.out.frozen q
          have hgo := (row_lt HRm.out go rfl).1
          have hgh := (row_lt HHm.out gh rfl).1
          have hgs := HSm.out.lt
          go_upto_region 25 with (fail)
          obtain ⟨w9, hw9⟩ : ∃ w9, w9 = w8.setCell ⟨w4.heap.size, q, none⟩ (.bool true) := ⟨_, rfl⟩
          rw [← hw9]
          have HS9 : Hid (Blk w9 w4.heap.size 62 (bs.setIfInBounds q (.bool true))) := Lib.hid (by rw [hw9]; exact HSm.out.set_ q _)
          have HK9 : Hid (Kept (fun g => g = w4.heap.size) w8 w9) := Lib.hid (by rw [hw9]; exact (Kept.refl (fun g => g = w4.heap.size) w8).set (p := ⟨w4.heap.size, q, none⟩) rfl _)
          have HO9 : Hid (OwnTh w9 w.heap.size _ hs) := Lib.hid (HOm.out.kept HK9.out fun g cs' hg _ e => Blk.ne_ hg HSm.out (by decide) e)
          have HR9 := Lib.hid (row_kept HRm.out HK9.out (fun g cs' _ hg e => Blk.ne_ hg HSm.out (by decide) e))
          have HH9 := Lib.hid (row_kept HHm.out HK9.out (fun g cs' _ hg e => Blk.ne_ hg HSm.out (by decide) e))
          have HW8 : Hid (w.heap.size ≤ w4.heap.size) := Lib.hid (by have := HB4.out.size; have := HK3.out.size; omega)
          have HB9 : Hid (Below w.heap.size w w9) := Lib.hid (HBl.out.trans (HK9.out.below HBl.out.size (fun g e => by rw [e]; exact HW8.out)))
          have hz9 := HK9.out.size
          clear hw9 co cb fb hgo hgh hgs
          have hc9 := fun j u hu => HH9.out.cells (g := gh) rfl j u hu
          have HCA9 : Hid (CallsAt w9 w9.heap.size (some ⟨gh, 0, none⟩) H) := Lib.hid (callsAt_row (fun j u hu => by have := hc9 j u hu; rw [Addr.add_lit] at this; simpa using this) (row_lt HH9.out gh rfl).1 (by rw [HPL.out]; exact HPW.out))
          clear hc9
          obtain ⟨gh', off', e9, hgh9, hA9⟩ := HCA9.out.at_ q c HCQ.out
          injection e9 with e9
          injection e9 with e91 e92
          subst e91 e92
          obtain ⟨q0, q1, q2, q3, q4, q5, q6⟩ := hA9
          simp only [Nat.zero_add] at q0 q1 q2 q3 q4 q5 q6
          try simp only [Nat.add_zero] at q0
          go_upto_region 26 with (fail)
          clear q0 q1 q2 q3 q4 q5 q6
          obtain ⟨wa, hwa⟩ : ∃ wa, wa = w9.alloc (.cells (calA c) 58) := ⟨_, rfl⟩
          have hwa' := hwa
          unfold calA at hwa'
          rw [← hwa']
          clear hwa'
          have KA : Kept (fun _ => False) w9 wa := by rw [hwa]; exact (Kept.refl _ w9).alloc _
          have BLKa : Blk wa w9.heap.size 58 (calA c) := by rw [hwa]; exact Blk.new _ _ _
          have HOa := Lib.hid (HO9.out.same KA)
          have HSa := Lib.hid (KA.blk HS9.out id)
          have HRa := Lib.hid (row_kept HR9.out KA (fun _ _ _ _ => id))
          have HHa := Lib.hid (row_kept HH9.out KA (fun _ _ _ _ => id))
          have HBa := Lib.hid (HB9.out.trans (KA.below HB9.out.size (fun _ h => h.elim)))
          have hza : wa.heap.size = w9.heap.size + 1 := by rw [hwa]; simp
          have p0 : wa.cell? ⟨w9.heap.size, 0, none⟩ = some (.int .i8 c.op) := BLKa.cell 0
          have p1 : wa.cell? ⟨w9.heap.size, 1, none⟩ = some (.int .i64 c.arg) := BLKa.cell 1
          have p2 : wa.cell? ⟨w9.heap.size, 2, none⟩ = some (.int .i64 c.new) := BLKa.cell 2
          have p3 : wa.cell? ⟨w9.heap.size, 3, none⟩ = some (.int .i64 c.ans) := BLKa.cell 3
          have p4 : wa.cell? ⟨w9.heap.size, 4, none⟩ = some (.bool c.ok) := BLKa.cell 4
          have p5 : wa.cell? ⟨w9.heap.size, 5, none⟩ = some (.int .i64 c.beg) := BLKa.cell 5
          have p6 : wa.cell? ⟨w9.heap.size, 6, none⟩ = some (.int .i64 c.fin) := BLKa.cell 6
          have HBKa := Lib.hid BLKa
          clear BLKa hwa KA HOm HRm HHm HO9 HR9 HH9 HS9
          have hmem : c ∈ H := List.mem_of_getElem? HCQ.out
          have hfin : ¬ c.fin = -1 := (plan_done k cs HBE.out.wf HBL.out.wf cs.length).ends c (by rw [← HPL.out]; exact hmem)
          have hok := HOK.out
          unfold okStep at hok
          simp only [Bool.and_eq_true, Bool.or_eq_true, Bool.not_eq_true', decide_eq_true_eq] at hok
          obtain ⟨⟨_, hlate⟩, hsame⟩ := hok
          have hsame : (doesF k hs c).2 = c := hsame.resolve_left hfin
          have HLATE := Lib.hid hlate
          have HSAME := Lib.hid hsame
          have HWC : Hid c.wf := Lib.hid (HPW.out c (by rw [← HPL.out]; exact hmem))
          clear hmem hfin hlate hsame
          go_upto_region 27 with (go_at_call 21; rw [show (#[Value.int .i8 c.op, .int .i64 c.arg, .int .i64 c.new, .int .i64 c.ans, .bool c.ok, .int .i64 c.beg, .int .i64 c.fin] : Array Value) = calA c from rfl]; go_must (refine (plain_any w.heap.size k HK.out _ hs c HWC.out wa HBa.out.size HOa.out (by omega) H1m.out).mono ?_); rintro e wb ⟨vb, rfl, hob, hkb⟩; rw [HSAME.out]; unfold calA; have BLKb : Blk wb w9.heap.size 58 (calA c) := hkb.blk HBKa.out (fun hown => by obtain ⟨_, cs', hcs'⟩ := HOa.out.own1 hown; exact Blk.ne_ hcs' HBKa.out (by decide) rfl); have HOb := Lib.hid hob; have HKb := Lib.hid hkb; have HBKb := Lib.hid BLKb; have hzb := hkb.size; have s0 : wb.cell? ⟨w9.heap.size, 0, none⟩ = some (.int .i8 c.op) := BLKb.cell 0; have s1 : wb.cell? ⟨w9.heap.size, 1, none⟩ = some (.int .i64 c.arg) := BLKb.cell 1; have s2 : wb.cell? ⟨w9.heap.size, 2, none⟩ = some (.int .i64 c.new) := BLKb.cell 2; have s3 : wb.cell? ⟨w9.heap.size, 3, none⟩ = some (.int .i64 c.ans) := BLKb.cell 3; have s4 : wb.cell? ⟨w9.heap.size, 4, none⟩ = some (.bool c.ok) := BLKb.cell 4; have s5 : wb.cell? ⟨w9.heap.size, 5, none⟩ = some (.int .i64 c.beg) := BLKb.cell 5; have s6 : wb.cell? ⟨w9.heap.size, 6, none⟩ = some (.int .i64 c.fin) := BLKb.cell 6; have f0 := BLKb.frozen 0; have f1 := BLKb.frozen 1; have f2 := BLKb.frozen 2; have f3 := BLKb.frozen 3; have f4 := BLKb.frozen 4; have f5 := BLKb.frozen 5; have f6 := BLKb.frozen 6; clear BLKb hob hkb)
          clear s0 s1 s2 s3 s4 s5 s6 f0 f1 f2 f3 f4 f5 f6 p0 p1 p2 p3 p4 p5 p6
          obtain ⟨wc, hwc⟩ : ∃ wc, wc = put7 wb w9.heap.size (.int .i8 c.op) (.int .i64 c.arg) (.int .i64 c.new) (.int .i64 c.ans) (.bool c.ok) (.int .i64 c.beg) (.int .i64 c.fin) := ⟨_, rfl⟩
          have hwc' := hwc
          unfold put7 at hwc'
          rw [← hwc']
          clear hwc'
          have HBKc : Hid (Blk wc w9.heap.size 58 (calA c)) := Lib.hid (by rw [hwc]; exact put7_blk HBKb.out _ _ _ _ _ _ _)
          have HKPc : Hid (Kept (fun g => g = w9.heap.size) wb wc) := Lib.hid (by rw [hwc]; exact put7_kept _ _ _ _ _ _ _)
          clear hwc
          have HOc := Lib.hid (HOb.out.kept HKPc.out fun g cs' hg _ e => Blk.ne_ hg HBKb.out (by decide) e)
          have hown := fun g hg => (HOa.out.own1 (q := g) hg).2
          have HSc := Lib.hid (HKPc.out.blk (HKb.out.blk HSa.out (fun e => by obtain ⟨_, h2⟩ := hown _ e; exact Blk.ne_ h2 HSa.out (by decide) rfl)) (fun e => Blk.ne_ HSa.out HBKa.out (by decide) e))
          have HRc := Lib.hid (row_kept (row_kept HRa.out HKb.out (fun g cs' _ hg e => by obtain ⟨_, h2⟩ := hown _ e; exact Blk.ne_ h2 hg (by decide) rfl)) HKPc.out (fun g cs' _ hg e => Blk.ne_ hg HBKb.out (by decide) e))
          have hgh9 := (row_lt HHa.out gh rfl)
          have HGH : Hid (gh ≠ w9.heap.size) := Lib.hid (by omega)
          have HHc := Lib.hid (row_kept (row_kept HHa.out HKb.out (fun g cs' _ hg e => by obtain ⟨_, h2⟩ := hown _ e; exact Blk.ne_ h2 hg (by decide) rfl)) HKPc.out (fun g cs' hg0 _ e => by injection hg0 with hg0; exact HGH.out (hg0.trans e)))
          have HBc := Lib.hid ((HBa.out.trans (HKb.out.below HBa.out.size (fun g hg => (HOa.out.own1 hg).1))).trans (HKPc.out.below (by have := HBa.out.size; omega) (fun g e => by have := HB9.out.size; omega)))
          have hcc := fun j u hu => HHc.out.cells (g := gh) rfl j u hu
          have HCAc : Hid (CallsAt wc wc.heap.size (some ⟨gh, 0, none⟩) H) := Lib.hid (callsAt_row (fun j u hu => by have := hcc j u hu; rw [Addr.add_lit] at this; simpa using this) (row_lt HHc.out gh rfl).1 (by rw [HPL.out]; exact HPW.out))
          clear hcc
          obtain ⟨gh', off', ec, hghc, hAc⟩ := HCAc.out.at_ q c HCQ.out
          injection ec with ec
          injection ec with ec1 ec2
          subst ec1 ec2
          obtain ⟨q0, q1, q2, q3, q4, q5, q6⟩ := hAc
          simp only [Nat.zero_add] at q0 q1 q2 q3 q4 q5 q6
          try simp only [Nat.add_zero] at q0
          have s0 : wc.cell? ⟨w9.heap.size, 0, none⟩ = some (.int .i8 c.op) := HBKc.out.cell 0
          have s1 : wc.cell? ⟨w9.heap.size, 1, none⟩ = some (.int .i64 c.arg) := HBKc.out.cell 1
          have s2 : wc.cell? ⟨w9.heap.size, 2, none⟩ = some (.int .i64 c.new) := HBKc.out.cell 2
          have s3 : wc.cell? ⟨w9.heap.size, 3, none⟩ = some (.int .i64 c.ans) := HBKc.out.cell 3
          have s4 : wc.cell? ⟨w9.heap.size, 4, none⟩ = some (.bool c.ok) := HBKc.out.cell 4
          have s5 : wc.cell? ⟨w9.heap.size, 5, none⟩ = some (.int .i64 c.beg) := HBKc.out.cell 5
          have s6 : wc.cell? ⟨w9.heap.size, 6, none⟩ = some (.int .i64 c.fin) := HBKc.out.cell 6
          go_quiet (fail)
          clear s0 s1 s2 s3 s4 s5 s6 q0 q1 q2 q3 q4 q5 q6
          go_wp2_with fail
          go_loopw [20] (fun i wr => FiRel cs.length wc i wr) (fun i _ => 12 - (intOf i).toNat)
          case atStart => exact ⟨0, _, Nat.zero_le _, rfl, rfl⟩
          case round =>
            obtain ⟨j, nd, hj, rfl, rfl⟩ := hrel
            by_cases hlj : j < cs.length
            · have hy : decide (j < cs.length) = true := by simpa using hlj
              have hyi : decide ((j : Int) < (cs.length : Int)) = true := by simp; omega
              obtain ⟨u, hu⟩ : ∃ u, H[j]? = some u := ⟨H[j], List.getElem?_eq_getElem (by omega)⟩
              have hj12 : j < 12 := by omega
              have fb := HSc.out.frozen j
              have hgs := HSc.out.lt
              have hgh := (row_lt HHc.out gh rfl).1
              by_cases hb : (bs.setIfInBounds q (.bool true))[j]? = some (.bool true)
              · have cb : wc.cell? ⟨w4.heap.size, j, none⟩ = some (.bool true) := by rw [HSc.out.cell]; exact hb
                go_upto_region 32 with (fail)
                go_quiet (fail)
                go_wp2_with fail
                exact ⟨⟨j + 1, _, hlj, by rw [Int.natCast_add]; rfl, rfl⟩, by simp [intOf]; omega⟩
              · have hjq : ¬ j = q := by
                  rintro rfl
                  apply hb
                  rw [Array.getElem?_setIfInBounds_self_of_lt]
                  have := HBm.out j hj12
                  exact (Array.getElem?_eq_some_iff.1 this).1
                have hjb : bs[j]? = some (.bool (d.testBit j)) := HBm.out j hj12
                rw [Array.getElem?_setIfInBounds_ne (fun e => hjq e.symm), hjb] at hb
                have hdj : d.testBit j = false := by
                  cases hd : d.testBit j with
                  | false => rfl
                  | true => rw [hd] at hb; exact absurd rfl hb
                have cb : wc.cell? ⟨w4.heap.size, j, none⟩ = some (.bool false) := by
                  rw [HSc.out.cell, Array.getElem?_setIfInBounds_ne (fun e => hjq e.symm), hjb, hdj]
                have hul : decide (u.fin < c.beg) = false := by
                  have h1 := late_is HLATE.out j u hu
                  have h2 : ¬ u.fin = -1 := (plan_done k cs HBE.out.wf HBL.out.wf cs.length).ends u (by rw [← HPL.out]; exact List.mem_of_getElem? hu)
                  simp only [ahd, hdj, Bool.not_false, Bool.true_and, Bool.and_eq_false_iff, decide_eq_false_iff_not, Classical.not_not] at h1
                  simp only [decide_eq_false_iff_not]
                  exact h1.resolve_left (fun e => h2 (by simpa using e))
                obtain ⟨gu, offu, eu, hgu, hAu⟩ := HCAc.out.at_ j u hu
                injection eu with eu
                injection eu with eu1 eu2
                subst eu1 eu2
                obtain ⟨p0, p1, p2, p3, p4, p5, p6⟩ := hAu
                simp only [Nat.zero_add] at p6
                obtain ⟨gq, offq, eq0, hgq, hAq⟩ := HCAc.out.at_ q c HCQ.out
                injection eq0 with eq0
                injection eq0 with eq1 eq2
                subst eq1 eq2
                obtain ⟨q0, q1, q2, q3, q4, q5, q6⟩ := hAq
                simp only [Nat.zero_add] at q5
                clear p0 p1 p2 p3 p4 p5 q0 q1 q2 q3 q4 q6
                go_upto_region 32 with (fail)
                go_quiet (fail)
                go_wp2_with fail
                exact ⟨⟨j + 1, _, hlj, by rw [Int.natCast_add]; rfl, rfl⟩, by simp [intOf]; omega⟩
            · obtain rfl : j = cs.length := by omega
              have hy : decide (cs.length < cs.length) = false := by simp
              go_wp2_with fail
              refine ⟨⟨m + 1, bitSet d q, (doesF k hs c).1, by omega, by rw [Int.natCast_add]; rfl, HWY3.out, HOc.out.same (Kept.drewN (Kept.refl _ _) _), fun h => doesF_one h (H1m.out h), by have := doesF_len k hs c; omega, ⟨_, HSc.out, fun j hj => ?_⟩, HRc.out, HHc.out, HBc.out.trans (below_drewN (Below.refl _ _) _)⟩, by simp [intOf]; omega⟩
              exact seen_bit HBm.out hq12 j hj
        · obtain rfl : m = cs.length := by omega
          have hx : decide (cs.length < cs.length) = false := by simp
          clear HWY2
          go_wp2_with (go_at_call 10; go_must (refine (lives_any _ (HT.out.below HBl.out)).mono ?_); rintro e w9 ⟨rfl, hk9⟩; have HK9 := Lib.hid (HBl.out.trans (hk9.mono HBl.out.size)); clear hk9)
          exact bodyPost_ret (results_tmp rfl _ _ _) rfl ⟨rfl, HK9.out⟩
end Go.Proofs.YtonnlgpjobfnmaaDoor

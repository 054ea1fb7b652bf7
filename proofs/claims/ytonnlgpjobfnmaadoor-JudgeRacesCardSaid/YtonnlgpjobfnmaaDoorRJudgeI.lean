/- judge.late: does a call that is not done come ahead? Conditions: what the slice's cells hold. -/
import Derived.Test.YtonnlgpjobfnmaaDoorRJudgeH
import Derived.Deep.Light
import Derived.Laws.BitsLemmas
namespace Go.Proofs.YtonnlgpjobfnmaaDoor
open Go.RowKit
set_option maxRecDepth 100000

/-- A call of a history. -/
structure Cal where
  op : Int
  arg : Int
  new : Int
  ans : Int
  ok : Bool
  beg : Int
  fin : Int
deriving DecidableEq
def Cal.wf (c : Cal) : Prop := (-128 ≤ c.op ∧ c.op ≤ 127) ∧ i64of c.arg ∧ i64of c.new ∧ i64of c.ans ∧ i64of c.beg ∧ i64of c.fin
def calA (c : Cal) : Array Value := #[.int .i8 c.op, .int .i64 c.arg, .int .i64 c.new, .int .i64 c.ans, .bool c.ok, .int .i64 c.beg, .int .i64 c.fin]
/-- The seven cells at off hold the call. -/
def CalAt (w : World) (g off : Nat) (c : Cal) : Prop :=
  w.cell? ⟨g, off, none⟩ = some (.int .i8 c.op) ∧ w.cell? ⟨g, off + 1, none⟩ = some (.int .i64 c.arg) ∧ w.cell? ⟨g, off + 2, none⟩ = some (.int .i64 c.new) ∧ w.cell? ⟨g, off + 3, none⟩ = some (.int .i64 c.ans) ∧
  w.cell? ⟨g, off + 4, none⟩ = some (.bool c.ok) ∧ w.cell? ⟨g, off + 5, none⟩ = some (.int .i64 c.beg) ∧ w.cell? ⟨g, off + 6, none⟩ = some (.int .i64 c.fin)
/-- The slice that starts at b reads as the history; its block lies below B. -/
structure CallsAt (w : World) (B : Nat) (b : Option Addr) (H : List Cal) : Prop where
  wf : ∀ c, c ∈ H → c.wf
  at_ : ∀ (i : Nat) (c : Cal), H[i]? = some c → ∃ g off, b = some ⟨g, off, none⟩ ∧ g < B ∧ CalAt w g (off + i * 7) c
theorem CalAt.of {w w' : World} {B g off : Nat} {a : Cal} (h : CalAt w g off a) (hb : Below B w w') (hg : g < B) : CalAt w' g off a := by
  obtain ⟨h0, h1, h2, h3, h4, h5, h6⟩ := h
  exact ⟨(hb.cell hg).trans h0, (hb.cell hg).trans h1, (hb.cell hg).trans h2, (hb.cell hg).trans h3, (hb.cell hg).trans h4, (hb.cell hg).trans h5, (hb.cell hg).trans h6⟩
theorem CallsAt.of {w w' : World} {B : Nat} {b : Option Addr} {L : List Cal} (h : CallsAt w B b L) (hb : Below B w w') : CallsAt w' B b L :=
  ⟨h.wf, fun i a ha => by obtain ⟨g, off, e, hg, hA⟩ := h.at_ i a ha; exact ⟨g, off, e, hg, hA.of hb hg⟩⟩
theorem CallsAt.mono {w : World} {B B' : Nat} {b : Option Addr} {L : List Cal} (h : CallsAt w B b L) (hb : B ≤ B') : CallsAt w B' b L :=
  ⟨h.wf, fun i a ha => by obtain ⟨g, off, e, hg, hA⟩ := h.at_ i a ha; exact ⟨g, off, e, by omega, hA⟩⟩

theorem wraps_i64 (n : Int) (h₀ : 0 ≤ n) (h₁ : n < 2 ^ 63) : IntKind.i64.wrap n = n := by rw [IntKind.wrap_i64]; omega
/-- A bit of a set, as Go asks for it. -/
theorem bit_i64 (d k : Nat) (hd : d < 4096) : bits .and .i64 ((d : Int) / 2 ^ k) 1 = if d.testBit k then 1 else 0 := by
  have e : ((d : Int) / 2 ^ k) = ((d / 2 ^ k : Nat) : Int) := by simp
  have hlt : d / 2 ^ k < 4096 := Nat.lt_of_le_of_lt (Nat.div_le_self _ _) hd
  have h := bits_mask .i64 63 (by decide) wraps_i64 1 (by decide) ((d / 2 ^ k : Nat) : Int) (Int.natCast_nonneg _) (by generalize d / 2 ^ k = z at hlt; omega)
  rw [e]
  rw [show ((2 : Int) ^ 1 - 1) = 1 by decide, show ((2 : Int) ^ 1) = 2 by decide] at h
  rw [h, Nat.testBit_eq_decide_div_mod_eq]
  generalize d / 2 ^ k = z
  by_cases hb : z % 2 = 1
  · simp [hb]; omega
  · simp [hb]; omega
/-- Does this call, not done, come ahead of c? -/
def ahd (d i : Nat) (x c : Cal) : Bool := !d.testBit i && decide (x.fin ≠ -1) && decide (x.fin < c.beg)
theorem calAt_new (w : World) (c : Cal) : CalAt (w.alloc (.cells (calA c) 58)) w.heap.size 0 c := by
  have h := heap_alloc_new w (.cells (calA c) 58)
  refine ⟨?_, ?_, ?_, ?_, ?_, ?_, ?_⟩ <;> (rw [Lib.cell_of_heap h]; rfl)
def lateB (H : List Cal) (d : Nat) (c : Cal) : Bool := (List.range H.length).any fun i => match H[i]? with | some x => ahd d i x c | none => false
def LatePost (H : List Cal) (d : Nat) (c : Cal) (w : World) (e : Ending) (w' : World) : Prop := e = .returned (.bool (lateB H d c)) ∧ Below w.heap.size w w'
def LateRel (H : List Cal) (d : Nat) (c : Cal) (w0 : World) (i : Value) (wr : World) : Prop :=
  ∃ k : Nat, k ≤ H.length ∧ i = .int .i64 k ∧ (∀ j x, j < k → H[j]? = some x → ahd d j x c = false) ∧ CalAt wr w0.heap.size 0 c ∧ Below w0.heap.size w0 wr
theorem LateRel.more {H : List Cal} {d k : Nat} {c a : Cal} {w0 wr : World} {i : Int} (ha : H[k]? = some a) (hz : ahd d k a c = false) (hn : ∀ j x, j < k → H[j]? = some x → ahd d j x c = false) (hc : CalAt wr w0.heap.size 0 c) (hb : Below w0.heap.size w0 wr) (hlw : w0.heap.size < wr.heap.size) (o : Obj) (hi : i = (k : Int) + 1) :
    LateRel H d c w0 (.int .i64 i) (wr.alloc o) := by
  refine ⟨k + 1, by have := (List.getElem?_eq_some_iff.1 ha).1; omega, by rw [hi, Int.natCast_add]; rfl, fun j x hj hx => ?_, ?_, hb.alloc hb.size o⟩
  · by_cases he : j = k
    · subst he
      rw [ha] at hx
      injection hx with hx
      rw [← hx]
      exact hz
    · exact hn j x (by omega) hx
  · exact hc.of ((Below.refl (w0.heap.size + 1) wr).alloc hlw o) (Nat.lt_succ_self _)
theorem late_yes {H : List Cal} {d k : Nat} {c a : Cal} (ha : H[k]? = some a) (hz : ahd d k a c = true) : lateB H d c = true := by
  refine List.any_eq_true.2 ⟨k, by simpa using (List.getElem?_eq_some_iff.1 ha).1, ?_⟩
  simp [ha, hz]
theorem late_no {H : List Cal} {d : Nat} {c : Cal} (hn : ∀ j x, j < H.length → H[j]? = some x → ahd d j x c = false) : lateB H d c = false := by
  refine List.any_eq_false.2 fun i hi => ?_
  have hi : i < H.length := by simpa using hi
  obtain ⟨x, hx⟩ : ∃ x, H[i]? = some x := ⟨H[i], List.getElem?_eq_getElem hi⟩
  simp [hx, hn i x hi hx]
set_option maxHeartbeats 4000000 in
theorem late_any (b : Option Addr) (cap : Nat) (H : List Cal) (d : Nat) (hd : d < 4096) (hH : H.length ≤ 12) (c : Cal) (w : World) (h : CallsAt w w.heap.size b H) :
    Calls Tryd.prog 44 #[.slice b H.length cap, .int .i64 d, .agg (calA c)] w (LatePost H d c w) := by
  have HC := Lib.hid h
  clear h
  have hsm : H.length ≤ 9223372036854775807 := by omega
  unfold calA
  go_enter Tryd.func44, Tryd.ntmps44
  go_wp2_with fail
  go_loopw [11] (fun i wr => LateRel H d c w i wr) (fun i _ => H.length - (intOf i).toNat)
  case atStart => exact ⟨0, Nat.zero_le _, rfl, by intro j x hj; omega, calAt_new w c, (Below.refl _ w).alloc (Nat.le_refl _) _⟩
  case round =>
    obtain ⟨k, hk, rfl, hn, hc, hb⟩ := hrel
    have HB := Lib.hid hb
    have HN := Lib.hid hn
    obtain ⟨c0, c1, c2, c3, c4, c5, c6⟩ := hc
    simp only [Nat.zero_add] at c0 c1 c2 c3 c4 c5 c6
    have HCC := Lib.hid (show CalAt wr w.heap.size 0 c from ⟨c0, by simpa using c1, by simpa using c2, by simpa using c3, by simpa using c4, by simpa using c5, by simpa using c6⟩)
    have hlw : w.heap.size < wr.heap.size := World.block_lt_of_cell? wr _ c0
    clear c0 c1 c2 c3 c4 c6
    clear hb hn
    by_cases hlt : k < H.length
    · obtain ⟨a, ha⟩ : ∃ a, H[k]? = some a := ⟨H[k], List.getElem?_eq_getElem hlt⟩
      obtain ⟨g, off, rfl, hg, hA⟩ := (HC.out.of HB.out).at_ k a ha
      obtain ⟨h0, h1, h2, h3, h4, h5, h6⟩ := hA
      have HA := Lib.hid ha
      clear ha
      have hx : decide (k < H.length) = true := by simpa using hlt
      go_wp2_with fail
      all_goals first
        | (go_ret
           refine ⟨?_, HB.out.alloc HB.out.size _⟩
           rw [late_yes HA.out ?_]
           · rfl
           · have hbb := bit_i64 d k hd
             go_light
             unfold ahd
             simp_all)
        | (refine ⟨LateRel.more HA.out ?_ HN.out HCC.out HB.out hlw _ rfl, by simp [intOf]; omega⟩
           have hbb := bit_i64 d k hd
           go_light
           unfold ahd
           simp_all)
    · have hx : decide (k < H.length) = false := by simpa using hlt
      go_wp2_with fail
      go_ret
      refine ⟨?_, HB.out⟩
      rw [late_no fun j x hj => HN.out j x (by omega)]
      rfl
end Go.Proofs.YtonnlgpjobfnmaaDoor

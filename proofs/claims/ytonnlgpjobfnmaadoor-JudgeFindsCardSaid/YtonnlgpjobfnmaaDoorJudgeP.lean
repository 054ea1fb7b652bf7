/- What judge.Linear's inner function reads and writes. Conditions: none. -/
import Derived.Test.YtonnlgpjobfnmaaDoorJudgeO
namespace Go.Proofs.YtonnlgpjobfnmaaDoor
open Go.RowKit
set_option maxRecDepth 100000

/-- How many calls are done. -/
def cnt (d : Nat) : Nat := ((List.range 12).filter d.testBit).length
theorem cnt_bitSet {d i : Nat} (hi : i < 12) (h : d.testBit i = false) : cnt (bitSet d i) = cnt d + 1 := by
  have hb : ∀ j, (bitSet d i).testBit j = (d.testBit j || decide (i = j)) := fun j => by
    unfold bitSet
    rw [Nat.testBit_or, Nat.testBit_two_pow]
  have key : ∀ l : List Nat, l.Nodup → (l.filter (bitSet d i).testBit).length = (l.filter d.testBit).length + if i ∈ l then 1 else 0 := by
    intro l
    induction l with
    | nil => intro _; simp
    | cons x l ih =>
      intro hn
      obtain ⟨hx, hn⟩ := List.nodup_cons.1 hn
      have := ih hn
      simp only [List.filter_cons, hb x]
      by_cases e : i = x
      · subst e
        simp only [h, decide_true, Bool.or_true, if_true, Bool.false_eq_true, if_false, List.length_cons]
        rw [this, if_neg hx]
        simp
      · have e1 : decide (i = x) = false := by simpa using e
        rw [e1, Bool.or_false]
        have e2 : (i ∈ x :: l) ↔ i ∈ l := by simp [e]
        by_cases hd : d.testBit x = true
        · simp only [hd, if_true, List.length_cons, this]
          simp only [e2]
          omega
        · have hd : d.testBit x = false := by simpa using hd
          simp only [hd, Bool.false_eq_true, if_false, this]
          simp only [e2]
  have := key (List.range 12) List.nodup_range
  rw [if_pos (by simpa using hi)] at this
  exact this
/-- So many marks at most, so many calls left. -/
def nodes : Nat → Nat
  | 0 => 1
  | r + 1 => 1 + 12 * nodes r
theorem nodes_pos (r : Nat) : 1 ≤ nodes r := by cases r <;> simp [nodes]
theorem nodes_12 : nodes 12 ≤ 10000000000000 := by decide

/-- The boxes that Linear's inner function has caught, and its map. -/
structure Env where
  bm : Nat
  bb : Nat
  bh : Nat
  bk : Nat
  bo : Nat
  bf : Nat
  M : Nat
def Env.args (E : Env) : Array Value := #[.pointer (some ⟨E.bm, 0, none⟩), .pointer (some ⟨E.bb, 0, none⟩), .pointer (some ⟨E.bh, 0, none⟩), .pointer (some ⟨E.bk, 0, none⟩), .pointer (some ⟨E.bo, 0, none⟩), .pointer (some ⟨E.bf, 0, none⟩)]
/-- The blocks that it may write: the order's box, the map, rows of ints that were made behind base. -/
def Own (base : Nat) (E : Env) (w : World) (q : Nat) : Prop := q = E.bo ∨ q = E.M ∨ base ≤ q ∧ ∃ cs fr, w.heap[q]? = some (.cells cs 3 fr)
def Frm (base : Nat) (E : Env) (w w' : World) : Prop := Kept (Own base E w) w w'
theorem Frm.refl (base : Nat) (E : Env) (w : World) : Frm base E w w := Kept.refl _ w
theorem Frm.trans {base : Nat} {E : Env} {a b c : World} (h : Frm base E a b) (k : Frm base E b c) : Frm base E a c :=
  ⟨k.os.trans h.os, k.tape.trans h.tape, k.output.trans h.output, Nat.le_trans h.size k.size, fun q hq hs => by
    have e := h.block q hq hs
    refine (k.block q (Nat.lt_of_lt_of_le hq h.size) fun hh => hs ?_).trans e
    rcases hh with hh | hh | ⟨h1, cs, fr, h2⟩
    · exact .inl hh
    · exact .inr (.inl hh)
    · exact .inr (.inr ⟨h1, cs, fr, by rw [← e]; exact h2⟩)⟩
theorem Frm.of_kept {base : Nat} {E : Env} {a b : World} (h : Kept (fun _ => False) a b) : Frm base E a b := h.mono fun _ hh => hh.elim
theorem Frm.of_below {base : Nat} {E : Env} {a b : World} (h : Below a.heap.size a b) : Frm base E a b := Kept.of_below h
theorem Frm.blk {base : Nat} {E : Env} {w w' : World} (h : Frm base E w w') {g : Nat} {t : TypeId} {cs : Array Value} (hb : Blk w g t cs) (h1 : g ≠ E.bo) (h2 : g ≠ E.M) (h3 : t ≠ 3 ∨ g < base) : Blk w' g t cs := by
  refine Kept.blk h hb fun hh => ?_
  rcases hh with hh | hh | ⟨hh, cs', fr, hc⟩
  · exact h1 hh
  · exact h2 hh
  · rcases h3 with h3 | h3
    · have := hb.symm.trans hc
      injection this with this
      injection this with _ this
      exact h3 this
    · omega
/-- The boxes, the history, the order and the map, as the inner function finds them. -/
structure FromAt (w : World) (base : Nat) (E : Env) (k : Int) (H : List Cal) (must n : Nat) (seen : List (List UInt8)) (ord : List Nat) : Prop where
  m : Blk w E.bm 3 #[.int .i64 must]
  b : Blk w E.bb 91 #[.map (some E.M)]
  h : ∃ a cap, Blk w E.bh 22 #[.slice a H.length cap] ∧ CallsAt w base a H ∧ ∀ g off, a = some ⟨g, off, none⟩ → g ≠ E.bo ∧ g ≠ E.M
  k : Blk w E.bk 89 #[.int .i64 k]
  f : Blk w E.bf 92 #[.func (.func 42) #[] E.args]
  o : ∃ v, Blk w E.bo 27 #[v] ∧ w.ownsRow base 3 1 v ord.length (ord.map fun i => .int .i64 (i : Nat))
  seen : SeenIn w E.M n seen
  tens : Tens w
  far : ∀ q, Tryd.prog.globalNamed "internal/strconv.uint64pow10" = some q → q < base ∧ q ≠ E.bo ∧ q ≠ E.M
  low : E.bm < base ∧ E.bb < base ∧ E.bh < base ∧ E.bk < base ∧ E.bf < base ∧ E.bo < base ∧ E.M < base
  ne : E.bm ≠ E.bo ∧ E.bb ≠ E.bo ∧ E.bh ≠ E.bo ∧ E.bk ≠ E.bo ∧ E.bf ≠ E.bo ∧ E.bm ≠ E.M ∧ E.bb ≠ E.M ∧ E.bh ≠ E.M ∧ E.bk ≠ E.M ∧ E.bf ≠ E.M ∧ E.bo ≠ E.M
  size : base ≤ w.heap.size
theorem CallsAt.wf_at {w w' : World} {B B' : Nat} {a : Option Addr} {H : List Cal} (h : CallsAt w' B' a H) (h0 : CallsAt w B a H) : CallsAt w' B a H :=
  ⟨h.wf, fun i c hc => by
    obtain ⟨g, off, e, _, hA⟩ := h.at_ i c hc
    obtain ⟨g', off', e', hg', _⟩ := h0.at_ i c hc
    rw [e] at e'
    injection e' with e'
    injection e' with e1 e2
    exact ⟨g, off, e, by omega, hA⟩⟩
/-- What is new in the world alone: all is as it was. -/
theorem FromAt.below {w w' : World} {base : Nat} {E : Env} {k : Int} {H : List Cal} {must n : Nat} {seen : List (List UInt8)} {ord : List Nat} (h : FromAt w base E k H must n seen ord) (hb : Below w.heap.size w w') : FromAt w' base E k H must n seen ord := by
  have kk : Kept (fun _ => False) w w' := Kept.of_below hb
  refine ⟨h.m.below hb h.m.lt, h.b.below hb h.b.lt, ?_, h.k.below hb h.k.lt, h.f.below hb h.f.lt, ?_, h.seen.kept kk id, h.tens.below hb, h.far, h.low, h.ne, Nat.le_trans h.size hb.size⟩
  · obtain ⟨a, cap, h1, h2, h3⟩ := h.h
    exact ⟨a, cap, h1.below hb h1.lt, ((h2.mono h.size).of hb).wf_at h2, h3⟩
  · obtain ⟨v, h1, h2⟩ := h.o
    exact ⟨v, h1.below hb h1.lt, h2.kept (row := none) ⟨hb.os, hb.tape, hb.output, hb.size, fun q hq _ => hb.block q hq⟩ (by cases hv : v.ownBlock <;> simp)⟩
end Go.Proofs.YtonnlgpjobfnmaaDoor

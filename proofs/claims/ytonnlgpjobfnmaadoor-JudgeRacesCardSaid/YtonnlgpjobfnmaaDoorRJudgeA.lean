/- Joined of the texts Mem, Kept, JudgeA; what each proves, and its conditions, stand ahead of it. -/
import Derived.WalkKit
import Derived.WalkSpells
import Derived.WalkLawsBesides
import Derived.Lib.Hide
import Derived.Laws.OwnMore
import Derived.Deep.Draws
import Derived.Laws.Rows
import Derived.Below
import Derived.Laws.AppendOwn
import Derived.IntWalk
/- Small words on memory: a block that is known whole, and what draws, new blocks and stores do to it. No conditions. -/
namespace Go.Proofs.YtonnlgpjobfnmaaDoor
open Go.RowKit

/-- Block g is just the cells cs of element type t, none frozen. -/
def Blk (w : World) (g : Nat) (t : TypeId) (cs : Array Value) : Prop := w.heap[g]? = some (.cells cs t (0, 0))

section
variable {w w' : World} {g : Nat} {t : TypeId} {cs : Array Value}
theorem Blk.lt (h : Blk w g t cs) : g < w.heap.size := by
  rcases Nat.lt_or_ge g w.heap.size with hlt | hge
  · exact hlt
  · unfold Blk at h; rw [Array.getElem?_eq_none hge] at h; cases h
theorem Blk.cell (h : Blk w g t cs) (i : Nat) : w.cell? ⟨g, i, none⟩ = cs[i]? := cell_of_row w g i cs t (0, 0) h
theorem Blk.frozen (h : Blk w g t cs) (i : Nat) : w.frozen? ⟨g, i, none⟩ = false := by
  unfold Blk at h
  simp [World.frozen?, h]
theorem Blk.new (w : World) (t : TypeId) (cs : Array Value) : Blk (w.alloc (.cells cs t)) w.heap.size t cs := heap_alloc_new w _
theorem Blk.new' (w : World) (t : TypeId) (cs : Array Value) (g : Nat) (hg : g = w.heap.size) : Blk (w.alloc (.cells cs t)) g t cs := by subst hg; exact heap_alloc_new w _
theorem Blk.alloc (h : Blk w g t cs) (o : Obj) : Blk (w.alloc o) g t cs := (Below.heap_alloc w o g h.lt).trans h
theorem Blk.set_ (h : Blk w g t cs) (i : Nat) (u : Value) : Blk (w.setCell ⟨g, i, none⟩ u) g t (cs.setIfInBounds i u) := by
  unfold Blk at h ⊢
  simp [World.setCell, Array.getElem?_modify, h]
theorem Blk.far (h : Blk w g t cs) {p : Addr} (hp : g ≠ p.block) (u : Value) : Blk (w.setCell p u) g t cs := (Below.heap_setCell w p u g hp).trans h
theorem Blk.below {B : Nat} (h : Blk w g t cs) (hb : Below B w w') (hg : g < B) : Blk w' g t cs := (hb.block g hg).trans h
theorem Blk.ne_ {g' : Nat} {t' : TypeId} {cs' : Array Value} (h : Blk w g t cs) (h' : Blk w g' t' cs') (hne : t ≠ t') : g ≠ g' := by
  rintro rfl
  unfold Blk at h h'
  rw [h] at h'
  injection h' with h'
  injection h' with _ ht
  exact hne ht
end
end Go.Proofs.YtonnlgpjobfnmaaDoor
/- A world that is as it was but for some blocks. No conditions. -/
namespace Go.Proofs.YtonnlgpjobfnmaaDoor
open Go.RowKit

/-- Every block that was there is as it was, but those of S. -/
structure Kept (S : Nat → Prop) (w w' : World) : Prop where
  os : w'.os = w.os
  tape : w'.tape = w.tape
  output : w'.output = w.output
  size : w.heap.size ≤ w'.heap.size
  block : ∀ q, q < w.heap.size → ¬ S q → w'.heap[q]? = w.heap[q]?
theorem Kept.refl (S : Nat → Prop) (w : World) : Kept S w w := ⟨rfl, rfl, rfl, Nat.le_refl _, fun _ _ _ => rfl⟩
theorem Kept.trans {S : Nat → Prop} {a b c : World} (h : Kept S a b) (k : Kept S b c) : Kept S a c := ⟨k.os.trans h.os, k.tape.trans h.tape, k.output.trans h.output, Nat.le_trans h.size k.size, fun q hq hs => (k.block q (Nat.lt_of_lt_of_le hq h.size) hs).trans (h.block q hq hs)⟩
theorem Kept.mono {S T : Nat → Prop} {a b : World} (h : Kept S a b) (hs : ∀ q, S q → T q) : Kept T a b := ⟨h.os, h.tape, h.output, h.size, fun q hq ht => h.block q hq fun hh => ht (hs q hh)⟩
theorem Kept.of_below {S : Nat → Prop} {a b : World} (h : Below a.heap.size a b) : Kept S a b := ⟨h.os, h.tape, h.output, h.size, fun q hq _ => h.block q hq⟩
theorem Kept.below {S : Nat → Prop} {B : Nat} {a b : World} (h : Kept S a b) (hB : B ≤ a.heap.size) (hs : ∀ q, S q → B ≤ q) : Below B a b := ⟨h.os, h.tape, h.output, h.size, fun q hq => h.block q (Nat.lt_of_lt_of_le hq hB) fun hh => absurd (hs q hh) (by omega)⟩
theorem Kept.blk {S : Nat → Prop} {a b : World} (h : Kept S a b) {g : Nat} {t : TypeId} {cs : Array Value} (hb : Blk a g t cs) (hs : ¬ S g) : Blk b g t cs := (h.block g hb.lt hs).trans hb
theorem Kept.set {S : Nat → Prop} {a b : World} (h : Kept S a b) {p : Addr} (hs : S p.block) (v : Value) : Kept S a (b.setCell p v) :=
  ⟨h.os, h.tape, h.output, by simpa using h.size, fun q hq hq2 => (Below.heap_setCell b p v q (fun hh => hq2 (hh ▸ hs))).trans (h.block q hq hq2)⟩
theorem Kept.alloc {S : Nat → Prop} {a b : World} (h : Kept S a b) (o : Obj) : Kept S a (b.alloc o) := h.trans (Kept.of_below ((Below.refl _ _).alloc (Nat.le_refl _) o))
theorem Kept.drew {S : Nat → Prop} {a b : World} (h : Kept S a b) : Kept S a b.drew := ⟨h.os, h.tape, h.output, h.size, h.block⟩
theorem Kept.drewN {S : Nat → Prop} {a b : World} (h : Kept S a b) (n : Nat) : Kept S a (b.drewN n) := ⟨h.os, h.tape, h.output, h.size, h.block⟩
theorem Kept.grown {S : Nat → Prop} {a b c : World} {g : Nat} (h : Kept S a b) (k : b.grownBy c (some g)) (hs : S g) : Kept S a c := h.trans ⟨k.os, k.tape, k.output, k.size, fun q hq hq2 => k.block q hq (fun e => hq2 (by injection e with e; rw [e]; exact hs))⟩
theorem Kept.cell {S : Nat → Prop} {a b : World} (h : Kept S a b) {p : Addr} (hp : p.block < a.heap.size) (hs : ¬ S p.block) : b.cell? p = a.cell? p := World.cell?_of_block (h.block p.block hp hs)
end Go.Proofs.YtonnlgpjobfnmaaDoor
/- Logs: rows of accesses as they lie in memory; judge.may. Conditions: what the slice's cells hold. -/
namespace Go.Proofs.YtonnlgpjobfnmaaDoor
open Go.RowKit
set_option maxRecDepth 100000

/-- An access of a record. -/
structure Acc where
  th : Int
  op : Int
  cell : Int
  arg : Int
  new : Int
  was : Int
  now : Int
  ok : Bool
  deriving DecidableEq
instance : Inhabited Acc := ⟨⟨0, 0, 0, 0, 0, 0, 0, false⟩⟩
def i64in (x : Int) : Prop := -9223372036854775808 ≤ x ∧ x ≤ 9223372036854775807
def Acc.wf (a : Acc) : Prop := i64in a.th ∧ (-128 ≤ a.op ∧ a.op ≤ 127) ∧ i64in a.cell ∧ i64in a.arg ∧ i64in a.new ∧ i64in a.was ∧ i64in a.now
/-- The eight cells at off hold the access. -/
def AccAt (w : World) (g off : Nat) (a : Acc) : Prop :=
  w.cell? ⟨g, off, none⟩ = some (.int .i64 a.th) ∧ w.cell? ⟨g, off + 1, none⟩ = some (.int .i8 a.op) ∧ w.cell? ⟨g, off + 2, none⟩ = some (.int .i64 a.cell) ∧ w.cell? ⟨g, off + 3, none⟩ = some (.int .i64 a.arg) ∧
  w.cell? ⟨g, off + 4, none⟩ = some (.int .i64 a.new) ∧ w.cell? ⟨g, off + 5, none⟩ = some (.int .i64 a.was) ∧ w.cell? ⟨g, off + 6, none⟩ = some (.int .i64 a.now) ∧ w.cell? ⟨g, off + 7, none⟩ = some (.bool a.ok)
/-- The slice that starts at b reads as the log L; its block lies below B. -/
structure LogAt (w : World) (B : Nat) (b : Option Addr) (L : List Acc) : Prop where
  small : L.length ≤ 9223372036854775807
  wf : ∀ a, a ∈ L → a.wf
  at_ : ∀ (i : Nat) (a : Acc), L[i]? = some a → ∃ g off, b = some ⟨g, off, none⟩ ∧ g < B ∧ AccAt w g (off + i * 8) a
theorem AccAt.of {w w' : World} {B g off : Nat} {a : Acc} (h : AccAt w g off a) (hb : Below B w w') (hg : g < B) : AccAt w' g off a := by
  obtain ⟨h0, h1, h2, h3, h4, h5, h6, h7⟩ := h
  exact ⟨(hb.cell hg).trans h0, (hb.cell hg).trans h1, (hb.cell hg).trans h2, (hb.cell hg).trans h3, (hb.cell hg).trans h4, (hb.cell hg).trans h5, (hb.cell hg).trans h6, (hb.cell hg).trans h7⟩
theorem LogAt.of {w w' : World} {B : Nat} {b : Option Addr} {L : List Acc} (h : LogAt w B b L) (hb : Below B w w') : LogAt w' B b L :=
  ⟨h.small, h.wf, fun i a ha => by obtain ⟨g, off, e, hg, hA⟩ := h.at_ i a ha; exact ⟨g, off, e, hg, hA.of hb hg⟩⟩
theorem LogAt.mono {w : World} {B B' : Nat} {b : Option Addr} {L : List Acc} (h : LogAt w B b L) (hb : B ≤ B') : LogAt w B' b L :=
  ⟨h.small, h.wf, fun i a ha => by obtain ⟨g, off, e, hg, hA⟩ := h.at_ i a ha; exact ⟨g, off, e, by omega, hA⟩⟩

/-- May an access be judged? -/
def Acc.may (a : Acc) : Bool := decide (0 ≤ a.th ∧ a.th < 64 ∧ 1 ≤ a.op ∧ a.op ≤ 8) && (if a.op = 7 then decide (a.cell = -1 ∧ -1 ≤ a.now ∧ a.now < 64) else if a.op = 8 then decide (a.cell = -1) else decide (0 ≤ a.cell ∧ a.cell < 1048576))
def Acc.thr (n : Int) (a : Acc) : Int := if a.op = 7 then max (max n (a.th + 1)) (a.now + 1) else max n (a.th + 1)
def mayLog (L : List Acc) : Bool := L.all Acc.may
def threads (L : List Acc) : Int := L.foldl Acc.thr 0

theorem getElem_take {α : Type} {L : List α} {k : Nat} {a : α} (h : L[k]? = some a) : L.take (k + 1) = L.take k ++ [a] := by
  rw [List.take_add_one, h]; rfl
end Go.Proofs.YtonnlgpjobfnmaaDoor

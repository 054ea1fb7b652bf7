/- Logs: rows of accesses as they lie in memory; judge.may. Conditions: what the slice's cells hold. -/
import Derived.WalkKit
import Derived.WalkSpells
import Derived.WalkLawsBesides
import Derived.Lib.Hide
import Derived.Laws.OwnMore
import Derived.Deep.Draws
import Derived.Laws.Rows
import Derived.IntWalk
import Derived.Test.YtonnlgpjobfnmaaDoorMem
namespace Go.Proofs.YtonnlgpjobfnmaaDoor
open Go.RowKit
set_option maxRecDepth 100000

/-- An access of a record. -/
structure Acc where
  th : Int
  op : Int
  cell : Int
  arg : Int
  new : Int
  was : Int
  now : Int
  ok : Bool
  deriving DecidableEq
instance : Inhabited Acc := ⟨⟨0, 0, 0, 0, 0, 0, 0, false⟩⟩
def i64in (x : Int) : Prop := -9223372036854775808 ≤ x ∧ x ≤ 9223372036854775807
def Acc.wf (a : Acc) : Prop := i64in a.th ∧ (-128 ≤ a.op ∧ a.op ≤ 127) ∧ i64in a.cell ∧ i64in a.arg ∧ i64in a.new ∧ i64in a.was ∧ i64in a.now
/-- The eight cells at off hold the access. -/
def AccAt (w : World) (g off : Nat) (a : Acc) : Prop :=
  w.cell? ⟨g, off, none⟩ = some (.int .i64 a.th) ∧ w.cell? ⟨g, off + 1, none⟩ = some (.int .i8 a.op) ∧ w.cell? ⟨g, off + 2, none⟩ = some (.int .i64 a.cell) ∧ w.cell? ⟨g, off + 3, none⟩ = some (.int .i64 a.arg) ∧
  w.cell? ⟨g, off + 4, none⟩ = some (.int .i64 a.new) ∧ w.cell? ⟨g, off + 5, none⟩ = some (.int .i64 a.was) ∧ w.cell? ⟨g, off + 6, none⟩ = some (.int .i64 a.now) ∧ w.cell? ⟨g, off + 7, none⟩ = some (.bool a.ok)
/-- The slice that starts at b reads as the log L; its block lies below B. -/
structure LogAt (w : World) (B : Nat) (b : Option Addr) (L : List Acc) : Prop where
  small : L.length ≤ 9223372036854775807
  wf : ∀ a, a ∈ L → a.wf
  at_ : ∀ (i : Nat) (a : Acc), L[i]? = some a → ∃ g off, b = some ⟨g, off, none⟩ ∧ g < B ∧ AccAt w g (off + i * 8) a
theorem AccAt.of {w w' : World} {B g off : Nat} {a : Acc} (h : AccAt w g off a) (hb : Below B w w') (hg : g < B) : AccAt w' g off a := by
  obtain ⟨h0, h1, h2, h3, h4, h5, h6, h7⟩ := h
  exact ⟨(hb.cell hg).trans h0, (hb.cell hg).trans h1, (hb.cell hg).trans h2, (hb.cell hg).trans h3, (hb.cell hg).trans h4, (hb.cell hg).trans h5, (hb.cell hg).trans h6, (hb.cell hg).trans h7⟩
theorem LogAt.of {w w' : World} {B : Nat} {b : Option Addr} {L : List Acc} (h : LogAt w B b L) (hb : Below B w w') : LogAt w' B b L :=
  ⟨h.small, h.wf, fun i a ha => by obtain ⟨g, off, e, hg, hA⟩ := h.at_ i a ha; exact ⟨g, off, e, hg, hA.of hb hg⟩⟩
theorem LogAt.mono {w : World} {B B' : Nat} {b : Option Addr} {L : List Acc} (h : LogAt w B b L) (hb : B ≤ B') : LogAt w B' b L :=
  ⟨h.small, h.wf, fun i a ha => by obtain ⟨g, off, e, hg, hA⟩ := h.at_ i a ha; exact ⟨g, off, e, by omega, hA⟩⟩

/-- May an access be judged? -/
def Acc.may (a : Acc) : Bool := decide (0 ≤ a.th ∧ a.th < 64 ∧ 1 ≤ a.op ∧ a.op ≤ 8) && (if a.op = 7 then decide (a.cell = -1 ∧ -1 ≤ a.now ∧ a.now < 64) else if a.op = 8 then decide (a.cell = -1) else decide (0 ≤ a.cell ∧ a.cell < 1048576))
def Acc.thr (n : Int) (a : Acc) : Int := if a.op = 7 then max (max n (a.th + 1)) (a.now + 1) else max n (a.th + 1)
def mayLog (L : List Acc) : Bool := L.all Acc.may
def threads (L : List Acc) : Int := L.foldl Acc.thr 0

theorem getElem_take {α : Type} {L : List α} {k : Nat} {a : α} (h : L[k]? = some a) : L.take (k + 1) = L.take k ++ [a] := by
  rw [List.take_add_one, h]; rfl
end Go.Proofs.YtonnlgpjobfnmaaDoor

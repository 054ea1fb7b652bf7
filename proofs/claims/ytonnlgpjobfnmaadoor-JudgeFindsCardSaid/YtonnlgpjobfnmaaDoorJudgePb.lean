/- What judge.Linear's inner function finds, behind a change of the order. Conditions: none. -/
import Derived.Test.YtonnlgpjobfnmaaDoorJudgeP
namespace Go.Proofs.YtonnlgpjobfnmaaDoor
open Go.RowKit
set_option maxRecDepth 100000
/-- The order's box holds a new row: all else is as it was. -/
theorem FromAt.order {w w' : World} {base : Nat} {E : Env} {k : Int} {H : List Cal} {must n : Nat} {seen : List (List UInt8)} {ord ord' : List Nat} {v : Value} {row : Option Nat} (h : FromAt w base E k H must n seen ord) (kk : Kept (fun q => q = E.bo ∨ some q = row) w w') (hr : ∀ q, row = some q → base ≤ q)
    (hb : Blk w' E.bo 27 #[v]) (hown : w'.ownsRow base 3 1 v ord'.length (ord'.map fun i => .int .i64 (i : Nat))) : FromAt w' base E k H must n seen ord' := by
  obtain ⟨n1, n2, n3, n4, n5, n6, n7, n8, n9, n10, n11⟩ := h.ne
  obtain ⟨l1, l2, l3, l4, l5, l6, l7⟩ := h.low
  have low : ∀ q, q < base → q ≠ E.bo → ¬ (q = E.bo ∨ some q = row) := fun q hq hne hh => by
    rcases hh with hh | hh
    · exact hne hh
    · have := hr q hh.symm
      omega
  refine ⟨kk.blk h.m (low _ l1 n1), kk.blk h.b (low _ l2 n2), ?_, kk.blk h.k (low _ l4 n4), kk.blk h.f (low _ l5 n5), ⟨v, hb, hown⟩, h.seen.kept kk (low _ l7 (Ne.symm n11)), h.tens.of fun q hq hn => kk.block q hq (low _ (h.far q hn).1 (h.far q hn).2.1), h.far, h.low, h.ne, Nat.le_trans h.size kk.size⟩
  obtain ⟨a, cap, h1, h2, h3⟩ := h.h
  refine ⟨a, cap, kk.blk h1 (low _ l3 n3), ⟨h2.wf, fun i c hc => ?_⟩, h3⟩
  obtain ⟨g, off, e, hgb, hA⟩ := h2.at_ i c hc
  refine ⟨g, off, e, hgb, ?_⟩
  have hb := kk.block g (Nat.lt_of_lt_of_le hgb h.size) (low g hgb (h3 g off e).1)
  obtain ⟨h0, h1, h2, h3, h4, h5, h6⟩ := hA
  exact ⟨(World.cell?_of_block hb).trans h0, (World.cell?_of_block hb).trans h1, (World.cell?_of_block hb).trans h2, (World.cell?_of_block hb).trans h3, (World.cell?_of_block hb).trans h4, (World.cell?_of_block hb).trans h5, (World.cell?_of_block hb).trans h6⟩
theorem grown2_kept {w w' : World} {A B : Obj} {row : Option Nat} (bo : Nat) (h : ((w.alloc A).alloc B).grownBy w' row) (v : Value) : Kept (fun q => q = bo ∨ some q = row) w (w'.setCell ⟨bo, 0, none⟩ v) := by
  have h1 : Kept (fun q => q = bo ∨ some q = row) w ((w.alloc A).alloc B) := ((Kept.refl _ w).alloc A).alloc B
  have h2 : Kept (fun q => q = bo ∨ some q = row) ((w.alloc A).alloc B) w' := ⟨h.os, h.tape, h.output, h.size, fun q hq hs => h.block q hq fun e => hs (.inr e)⟩
  exact (h1.trans h2).set (p := ⟨bo, 0, none⟩) (.inl rfl) v
/-- A row is appended to and laid into the order's box. -/
theorem FromAt.push {w w' : World} {base : Nat} {E : Env} {k : Int} {H : List Cal} {must n m g cap : Nat} {seen : List (List UInt8)} {ord ord' : List Nat} {A B : Obj} {z : Value} {row : Option Nat} (h : FromAt w base E k H must n seen ord) (hg : ((w.alloc A).alloc B).grownBy w' row) (hr : ∀ q, row = some q → base ≤ q)
    (hb : Blk w' E.bo 27 #[z]) (hown : w'.ownsRow base 3 1 (.slice (some ⟨g, 0, none⟩) m cap) ord'.length (ord'.map fun i => .int .i64 (i : Nat))) :
    FromAt (w'.setCell ⟨E.bo, 0, none⟩ (.slice (some ⟨g, 0, none⟩) m cap)) base E k H must n seen ord' := by
  refine h.order (grown2_kept E.bo hg _) hr (hb.set_ 0 _) (hown.kept (row := some E.bo) ⟨rfl, rfl, rfl, by simp, fun q _ hq => Below.heap_setCell _ _ _ _ (fun e => hq (by rw [e]))⟩ (.inr fun e => ?_))
  have h1 := (hown.lt _ e).1
  have h2 := h.low.2.2.2.2.2.1
  omega
end Go.Proofs.YtonnlgpjobfnmaaDoor

/- choice.New and look. Conditions: what the blocks hold; the thread is nil. -/
import Derived.Test.YtdbllffkpkkggaaChoiceA
import Derived.Deep.RegionWith
namespace Go.Proofs.Ytdbllffkpkkggaa
open Go.RowKit Go.MuLone
set_option maxRecDepth 100000

theorem choice_new_nil (w : World) :
    Calls Try.prog 6 #[.pointer none] w fun e w' => e = .returned (.pointer none) ∧ w = w' := by
  go_enter Try.func6, Try.ntmps6
  go_wp2_with fail
  go_ret
  exact ⟨rfl, rfl⟩
theorem choice_new (b : Nat) (w : World) :
    Calls Try.prog 6 #[.pointer (some ⟨b, 0, none⟩)] w fun e w' => e = .returned (.pointer (some ⟨w.heap.size + 1, 0, none⟩)) ∧
      (w.alloc (cellObj 0)).alloc (.cells #[.pointer (some ⟨b, 0, none⟩), .pointer (some ⟨w.heap.size, 0, none⟩)] 59) = w' := by
  go_enter Try.func6, Try.ntmps6
  go_wp2_with (go_at_call 5; refine (cell_new _ _).mono ?_; rintro e w' ⟨rfl, rfl⟩)
  go_ret
  exact ⟨rfl, rfl⟩

/-- A store into a cell keeps what two worlds share. -/
theorem below_set {B : Nat} {a b : World} (h : Below B a b) {g : Nat} {x : Int} (hc : IsCell a g x) (hg : g < B) (y : Int) : Below B (a.setCell ⟨g, 0, none⟩ (.int .i64 y)) (b.setCell ⟨g, 0, none⟩ (.int .i64 y)) := by
  refine ⟨h.os, h.tape, h.output, by simpa using h.size, fun q hq => ?_⟩
  by_cases hqg : q = g
  · subst hqg
    have h1 : IsCell b q x := Blk.below hc h hq
    rw [h1.set y, hc.set y]
  · rw [cheap_set_ne _ _ _ _ (Ne.symm hqg), cheap_set_ne _ _ _ _ (Ne.symm hqg)]
    exact h.block q hq
end Go.Proofs.Ytdbllffkpkkggaa

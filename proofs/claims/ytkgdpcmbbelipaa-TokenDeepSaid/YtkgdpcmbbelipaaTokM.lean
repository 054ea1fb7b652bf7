/- Words for TokenDeep's walk: at, the row of tokens as it grows. Conditions: sizes. -/
import Derived.Test.YtkgdpcmbbelipaaTokL
namespace Go.Proofs.Ytkgdpcmbbelipaa
open Go.RowKit Go.MuLone
set_option maxRecDepth 100000

theorem at_in11 (i : Int) (n : Nat) (hn : 0 < n) (hn2 : n ≤ 1000) (w : World) :
    Calls Try.prog 11 #[.int .i64 i, .int .i64 n] w fun e w' => (∃ k : Nat, k < n ∧ e = .returned (.int .i64 k)) ∧ w = w' := by
  have hz : ((n : Int) == 0) = false := by rw [beq_eq_false_iff_ne]; omega
  go_enter Try.func11, Try.ntmps11
  go_wp2_with fail
  · go_ret
    have h1 := Int.lt_tmod_of_pos i (show (0 : Int) < n by omega)
    obtain ⟨k, hk⟩ := Int.eq_ofNat_of_zero_le (show 0 ≤ i.tmod n + n by omega)
    refine ⟨⟨k, by omega, ?_⟩, rfl⟩
    have : wrap64 (i.tmod n + n) = k := by rw [hk]; unfold wrap64; omega
    rw [← this]
    rfl
  · go_ret
    obtain ⟨k, hk⟩ := Int.eq_ofNat_of_zero_le (show 0 ≤ i.tmod n by assumption)
    exact ⟨⟨k, by have := Int.tmod_lt_of_pos i (show (0 : Int) < n by omega); omega, by rw [← hk]; rfl⟩, rfl⟩

theorem infoTokPtr : (Try.prog.info? 39).map (fun i => (i.zero, i.size, i.bytes)) = some (some (.pointer none), 1, 8) := by kernel_rfl
def tokRow (tk : Nat → Tk) (n : Nat) : List Value := (List.range n).map fun a => .pointer (some ⟨(tk a).T, 0, none⟩)
def putAt {α : Type} (f : Nat → α) (n : Nat) (x : α) : Nat → α := fun a => if a = n then x else f a
theorem putAt_same {α : Type} (f : Nat → α) (n : Nat) (x : α) : putAt f n x n = x := by simp [putAt]
theorem putAt_ne {α : Type} (f : Nat → α) {n a : Nat} (x : α) (h : a ≠ n) : putAt f n x a = f a := by simp [putAt, h]
theorem tokRow_more (tk : Nat → Tk) (n : Nat) (k : Tk) : tokRow (putAt tk n k) (n + 1) = tokRow tk n ++ [.pointer (some ⟨k.T, 0, none⟩)] := by
  unfold tokRow
  rw [List.range_succ, List.map_append, List.map_singleton, putAt_same]
  congr 1
  exact List.map_congr_left fun a ha => by rw [putAt_ne tk k (by have := List.mem_range.1 ha; omega)]
/-- i children are made, each one's child: the row of all, the tokens. -/
structure Row1 (w0 w : World) (i : Nat) (v : Value) (tk : Nat → Tk) (css : Nat → Array Value) : Prop where
  low : Below w0.heap.size w0 w
  own : w.ownsRow w0.heap.size 39 1 v (i + 1) (tokRow tk (i + 1))
  off : ∀ g, v.ownBlock = some g → ∀ a, a ≤ i → ¬ (tk a).has g
  tok : ∀ a, a < i → (tk a).At w a 0 (1 : Nat) (1 : Nat) (css a)
  last : (tk i).At w i 0 (0 : Nat) (0 : Nat) (css i)
  ch : ∀ a, a < i → ChainE (css a) 1 [(some ⟨(tk (a + 1)).T, 0, none⟩, .nilFunc)]
  up : ∀ a b, a < b → b ≤ i → (tk a).hi ≤ (tk b).lo
  lo : ∀ a, a ≤ i → w0.heap.size ≤ (tk a).lo ∧ (tk a).hi ≤ w.heap.size
theorem kept_grown {w w' : World} {r : Option Nat} (h : w.grownBy w' r) : Kept (fun q => some q = r) w w' := ⟨h.os, h.tape, h.output, h.size, fun q hq hs => h.block q hq hs⟩
theorem own_kept {w w' : World} {S : Nat → Prop} {base n size : Nat} {e : TypeId} {v : Value} {xs : List Value} (h : w.ownsRow base e size v n xs) (k : Kept S w w') (hs : ∀ g, v.ownBlock = some g → ¬ S g) : w'.ownsRow base e size v n xs := by
  refine ⟨h.1, ?_⟩
  rcases h.2 with hn | ⟨g, cap, cur, rfl, hb, hgg, rest⟩
  · exact .inl hn
  · exact .inr ⟨g, cap, cur, rfl, hb, k.blk hgg (hs g rfl), rest⟩
theorem Row1.child {w0 w w1 : World} {i : Nat} {v : Value} {tk : Nat → Tk} {css : Nat → Array Value} {k2 : Tk} (h : Row1 w0 w i v tk css) (h1 : k2.lo = w.heap.size) (h6 : Kept (tk i).has w w1) :
    (∀ g, v.ownBlock = some g → ∀ a, a ≤ i → ¬ (tk a).has g) ∧ w1.ownsRow w0.heap.size 39 1 v (i + 1) (tokRow tk (i + 1)) ∧ Below w0.heap.size w0 w1 ∧ ∀ g, v.ownBlock = some g → ¬ k2.has g := by
  have hl := h.lo i (Nat.le_refl _)
  refine ⟨h.off, own_kept h.own h6 (fun g hg => h.off g hg i (Nat.le_refl _)), h.low.trans (h6.below h.low.size (fun q hq => by have := hq.1; omega)), fun g hg hh => ?_⟩
  have := (h.own.lt g hg).2
  have := hh.1
  omega
theorem Row1.more {w0 w w1 w2 : World} {i g cap : Nat} {v : Value} {tk : Nat → Tk} {css : Nat → Array Value} {k2 : Tk} {cs2 : Array Value} {o : Obj} (h : Row1 w0 w i v tk css) (h1 : k2.lo = w.heap.size) (h2 : k2.hi ≤ w1.heap.size)
    (h3 : k2.At w1 ((i : Int) + 1) 0 (0 : Nat) (0 : Nat) cs2) (h4 : (tk i).At w1 i 0 (1 : Nat) (1 : Nat) (addedE (css i) 0 (some ⟨k2.T, 0, none⟩) .nilFunc (0 : Nat))) (h6 : Kept (tk i).has w w1)
    (hown : w2.ownsRow w0.heap.size 39 1 (.slice (some ⟨g, 0, none⟩) (i + 1 + 1) cap) (i + 1 + 1) (tokRow tk (i + 1) ++ [.pointer (some ⟨k2.T, 0, none⟩)])) (hg : (w1.alloc o).grownBy w2 v.ownBlock) (hat : v.ownBlock = some g ∨ g = (w1.alloc o).heap.size) :
    Row1 w0 w2 (i + 1) (.slice (some ⟨g, 0, none⟩) (i + 1 + 1) cap) (putAt tk (i + 1) k2) (putAt (putAt css i (addedE (css i) 0 (some ⟨k2.T, 0, none⟩) .nilFunc (0 : Nat))) (i + 1) cs2) := by
  obtain ⟨f1, f2, f3, f4⟩ := h.child h1 h6
  have kg : Kept (fun q => some q = v.ownBlock) w1 w2 := (Kept.of_below ((Below.refl _ _).alloc (Nat.le_refl _) o)).trans (kept_grown hg)
  have hli := h.lo i (Nat.le_refl _)
  have hsz := h6.size
  have hsz2 := kg.size
  have keepold : ∀ a, a ≤ i → ∀ q, (tk a).has q → ¬ some q = v.ownBlock := fun a ha q hq hs => f1 q hs.symm a ha hq
  have keepk2 : ∀ q, k2.has q → ¬ some q = v.ownBlock := fun q hq hs => f4 q hs.symm hq
  have ne : ∀ a, a ≤ i → putAt tk (i + 1) k2 a = tk a := fun a ha => putAt_ne tk k2 (by omega)
  have far : ∀ a, a < i → ∀ q, (tk a).has q → ¬ (tk i).has q := fun a ha => tk_apart' (h.up a i ha (Nat.le_refl _))
  refine ⟨f3.trans (kg.below f3.size (fun q hq => (f2.lt q hq.symm).1)), by rw [tokRow_more]; exact hown, fun g' hg' a ha => ?_, fun a ha => ?_, ?_, fun a ha => ?_, fun a b hab hb => ?_, fun a ha => ?_⟩
  · have hgg : g' = g := by simpa [Value.ownBlock] using hg'.symm
    subst hgg
    by_cases hai : a = i + 1
    · subst hai
      rw [putAt_same]
      rcases hat with hat | hat
      · exact f4 _ hat
      · intro hh; have := hh.2; simp at hat; omega
    · rw [ne a (by omega)]
      rcases hat with hat | hat
      · exact f1 _ hat a (by omega)
      · intro hh; have := hh.2; have := (h.lo a (by omega)).2; simp at hat; omega
  · rw [ne a (by omega)]
    by_cases hai : a = i
    · subst hai
      rw [putAt_ne _ _ (by omega), putAt_same]
      exact h4.keep kg (keepold a (Nat.le_refl _))
    · rw [putAt_ne _ _ (by omega), putAt_ne _ _ hai]
      exact ((h.tok a (by omega)).keep h6 (far a (by omega))).keep kg (keepold a (by omega))
  · rw [putAt_same, putAt_same]
    have := h3.keep kg keepk2
    simpa using this
  · by_cases hai : a = i
    · subst hai
      rw [putAt_ne _ _ (by omega), putAt_same, putAt_same]
      exact added_one h.last k2.T
    · rw [putAt_ne _ _ (by omega), putAt_ne _ _ hai, ne (a + 1) (by omega)]
      exact h.ch a (by omega)
  · by_cases hbi : b = i + 1
    · subst hbi
      rw [putAt_same, ne a (by omega), h1]
      exact (h.lo a (by omega)).2
    · rw [ne a (by omega), ne b (by omega)]
      exact h.up a b hab (by omega)
  · by_cases hai : a = i + 1
    · subst hai
      rw [putAt_same, h1]
      exact ⟨h.low.size, by omega⟩
    · rw [ne a (by omega)]
      have := h.lo a (by omega)
      exact ⟨this.1, by omega⟩
end Go.Proofs.Ytkgdpcmbbelipaa

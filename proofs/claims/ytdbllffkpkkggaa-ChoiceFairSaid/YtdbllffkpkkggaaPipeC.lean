/- The contract of pipe.New where the number of places may be. Conditions: the number is from 2 to 4096, and n & (n - 1) is 0; the bell is nil or a pointer. -/
import Derived.Test.YtdbllffkpkkggaaPipeB
import Derived.Deep.AppendLies
import Derived.LoopTactic
namespace Go.Proofs.Ytdbllffkpkkggaa
open Go.RowKit Go.MuLone
set_option maxRecDepth 100000

/-- The cells of k places. -/
def placeVals (bs : List (Nat × Nat)) : List Value := bs.flatMap fun b => [.pointer (some ⟨b.1, 0, none⟩), .pointer (some ⟨b.2, 0, none⟩)]
def placeBlocks (bs : List (Nat × Nat)) : List Nat := bs.flatMap fun b => [b.1, b.2]
/-- A pipe in the making: k places are there. -/
def Making (w0 w : World) (p i o : Nat) (bp : Value) (bs : List (Nat × Nat)) (v : Value) : Prop :=
  Below w0.heap.size w0 w ∧ Blk w p 62 #[.pointer (some ⟨i, 0, none⟩), .pointer (some ⟨o, 0, none⟩), bp, v] ∧ w0.heap.size ≤ p ∧ IsCell w i 0 ∧ IsCell w o 0 ∧
  w.ownsRow w0.heap.size 64 2 v bs.length (placeVals bs) ∧ (∀ (j t s : Nat), bs[j]? = some (t, s) → IsCell w t j ∧ IsCell w s 0) ∧
  (i :: o :: placeBlocks bs).Nodup ∧ (∀ b ∈ i :: o :: placeBlocks bs, w0.heap.size ≤ b ∧ b < w.heap.size)

theorem infoPipePlace : (Try.prog.info? 64).map (fun i => (i.zero, i.size, i.bytes)) = some (some (.agg #[.pointer none, .pointer none]), 2, 16) := by kernel_rfl

theorem IsCell.keep {w w1 : World} {b : Nat} {x : Int} (h : IsCell w b x) (hb : w1.heap[b]? = w.heap[b]?) : IsCell w1 b x := by unfold IsCell at *; rw [hb]; exact h
/-- The append of a place leaves the pipe's block. -/
theorem Making.pipe {w0 w w1 : World} {p i o : Nat} {bp v : Value} {bs : List (Nat × Nat)} {o1 o2 o3 : Obj} (h : Making w0 w p i o bp bs v) (hg : (((w.alloc o1).alloc o2).alloc o3).drew.grownBy w1 v.ownBlock) :
    w1.cell? ⟨p, 3, none⟩ = some v ∧ w1.frozen? ⟨p, 3, none⟩ = false := by
  obtain ⟨hb, hp, hp0, hi, ho, hown0, _⟩ := h
  have hpne : some p ≠ v.ownBlock := fun he => by
    rcases hown0.2 with ⟨rfl, _⟩ | ⟨g', cap', cur, rfl, _, hh, _⟩
    · simp [Value.ownBlock] at he
    · have : p = g' := by simpa [Value.ownBlock] using he
      subst this
      exact (Blk.ne_ (t := 64) (g := p) (g' := p) hh hp (by decide)) rfl
  have hlt := hp.lt
  have hp1 : Blk w1 p 62 #[.pointer (some ⟨i, 0, none⟩), .pointer (some ⟨o, 0, none⟩), bp, v] := by
    refine ((hg.block p (by simp; omega) hpne).trans ?_).trans hp
    show (((w.alloc _).alloc _).alloc _).heap[p]? = _
    rw [Below.heap_alloc _ _ _ (by simp; omega), Below.heap_alloc _ _ _ (by simp; omega), Below.heap_alloc _ _ _ hlt]
  exact ⟨(hp1.cell 3).trans rfl, hp1.frozen 3⟩
/-- One place more. 'w1': behind the append of the new place (its cells the two blocks w.heap.size, w.heap.size + 1; the place lay in w.heap.size + 2); 'w2': behind the store into the pipe. -/
theorem Making.more {w0 w w1 w2 : World} {p i o g cap : Nat} {bp v : Value} {bs : List (Nat × Nat)} (h : Making w0 w p i o bp bs v)
    (hown : w1.ownsRow w0.heap.size 64 2 (.slice (some ⟨g, 0, none⟩) (bs.length + 1) cap) (bs.length + 1) (placeVals bs ++ [.pointer (some ⟨w.heap.size, 0, none⟩), .pointer (some ⟨w.heap.size + 1, 0, none⟩)]))
    (hg : (((w.alloc (cellObj bs.length)).alloc (cellObj 0)).alloc (.cells #[.pointer (some ⟨w.heap.size, 0, none⟩), .pointer (some ⟨w.heap.size + 1, 0, none⟩)] 64)).drew.grownBy w1 v.ownBlock)
    (hw : w1.setCell ⟨p, 3, none⟩ (.slice (some ⟨g, 0, none⟩) (bs.length + 1) cap) = w2) :
    Making w0 w2 p i o bp (bs ++ [(w.heap.size, w.heap.size + 1)]) (.slice (some ⟨g, 0, none⟩) (bs.length + 1) cap) := by
  obtain ⟨hb, hp, hp0, hi, ho, hown0, hbs, hnd, hlt⟩ := h
  subst hw
  have hv : ∀ k, v.ownBlock = some k → w0.heap.size ≤ k ∧ k < w.heap.size := hown0.lt
  have hsz : w.heap.size + 3 ≤ w1.heap.size := by have := hg.size; simpa using this
  have hblk : ∀ k, k < w.heap.size → some k ≠ v.ownBlock → w1.heap[k]? = w.heap[k]? := fun k hk hne => by
    rw [hg.block k (by simp; omega) hne]
    show (((w.alloc _).alloc _).alloc _).heap[k]? = _
    rw [Below.heap_alloc _ _ _ (by simp; omega), Below.heap_alloc _ _ _ (by simp; omega), Below.heap_alloc _ _ _ hk]
  have hcellne : ∀ b x, IsCell w b x → some b ≠ v.ownBlock := fun b x hx he => by
    rcases hown0.2 with ⟨rfl, _⟩ | ⟨g', cap', cur, rfl, _, hh, _⟩
    · simp [Value.ownBlock] at he
    · have : b = g' := by simpa [Value.ownBlock] using he
      subst this
      exact (Blk.ne_ (t := 64) (g := b) (g' := b) hh hx (by decide)) rfl
  have hcell : ∀ b x, IsCell w b x → IsCell (w1.setCell ⟨p, 3, none⟩ (.slice (some ⟨g, 0, none⟩) (bs.length + 1) cap)) b x := fun b x hx => by
    have h1 : IsCell w1 b x := hx.keep (hblk b (Blk.lt hx) (hcellne b x hx))
    exact Blk.far h1 (p := ⟨p, 3, none⟩) (fun e => by
      have e' : b = p := e
      subst e'
      exact Blk.ne_ hp hx (by decide) rfl) _
  have hpne : some p ≠ v.ownBlock := fun he => by
    rcases hown0.2 with ⟨rfl, _⟩ | ⟨g', cap', cur, rfl, _, hh, _⟩
    · simp [Value.ownBlock] at he
    · have : p = g' := by simpa [Value.ownBlock] using he
      subst this
      exact (Blk.ne_ (t := 64) (g := p) (g' := p) hh hp (by decide)) rfl
  have hp1 : Blk w1 p 62 #[.pointer (some ⟨i, 0, none⟩), .pointer (some ⟨o, 0, none⟩), bp, v] := by
    exact (hblk p hp.lt hpne).trans hp
  have hn1 : IsCell w1 w.heap.size bs.length := by
    unfold IsCell
    rw [hg.block w.heap.size (by simp; omega) (fun e => by have := hv _ e.symm; omega)]
    exact Blk.alloc (Blk.alloc (Blk.new' w _ _ w.heap.size rfl) _) _
  have hn2 : IsCell w1 (w.heap.size + 1) 0 := by
    unfold IsCell
    rw [hg.block (w.heap.size + 1) (by simp) (fun e => by have := hv _ e.symm; omega)]
    exact Blk.alloc (Blk.new' (w.alloc (cellObj bs.length)) _ _ (w.heap.size + 1) (by simp)) _
  have hps := hb.size
  refine ⟨?_, hp1.set_ 3 _, hp0, hcell _ _ hi, hcell _ _ ho, ?_, ?_, ?_, ?_⟩
  · have b1 := ((((hb.alloc hb.size (cellObj bs.length)).alloc (by simp; omega) (cellObj 0)).alloc (by simp; omega) (.cells #[.pointer (some ⟨w.heap.size, 0, none⟩), .pointer (some ⟨w.heap.size + 1, 0, none⟩)] 64)).drew).grown hg (by simp; omega) (fun k hk => (hv k hk).1)
    exact b1.setCell (p := ⟨p, 3, none⟩) hp0 _
  · have : (bs ++ [(w.heap.size, w.heap.size + 1)]).length = bs.length + 1 := by simp
    rw [this, show placeVals (bs ++ [(w.heap.size, w.heap.size + 1)]) = placeVals bs ++ [.pointer (some ⟨w.heap.size, 0, none⟩), .pointer (some ⟨w.heap.size + 1, 0, none⟩)] by simp [placeVals]]
    obtain ⟨hl, hr⟩ := hown
    refine ⟨hl, .inr ?_⟩
    rcases hr with ⟨hc, _⟩ | ⟨g', cap', cur, he, h1, h2, h3⟩
    · cases hc
    · refine ⟨g', cap', cur, he, h1, ?_, h3⟩
      rw [Below.heap_setCell]
      · exact h2
      · intro e
        have e' : g' = p := e
        subst e'
        exact Blk.ne_ (t := 64) h2 hp1 (by decide) rfl
  · intro j t s hj
    rcases Nat.lt_or_ge j bs.length with hjl | hjl
    · rw [List.getElem?_append_left hjl] at hj
      obtain ⟨h1, h2⟩ := hbs j t s hj
      exact ⟨hcell _ _ h1, hcell _ _ h2⟩
    · rw [List.getElem?_append_right hjl] at hj
      have hj0 : j = bs.length := by
        rcases Nat.eq_zero_or_pos (j - bs.length) with h0 | h0
        · omega
        · rw [List.getElem?_eq_none (by simp; omega)] at hj; cases hj
      subst hj0
      simp at hj
      obtain ⟨rfl, rfl⟩ := hj
      have hpl := hp.lt
      exact ⟨Blk.far hn1 (p := ⟨p, 3, none⟩) (by simp; omega) _, Blk.far hn2 (p := ⟨p, 3, none⟩) (by simp; omega) _⟩
  · have hmem : ∀ b ∈ i :: o :: placeBlocks bs, b < w.heap.size := fun b hb' => (hlt b hb').2
    have e : (i :: o :: placeBlocks (bs ++ [(w.heap.size, w.heap.size + 1)])) = (i :: o :: placeBlocks bs) ++ [w.heap.size, w.heap.size + 1] := by simp [placeBlocks]
    rw [e, List.nodup_append]
    refine ⟨hnd, by simp, fun a ha b hb' => ?_⟩
    have := hmem a ha
    simp at hb'
    omega
  · have e : (i :: o :: placeBlocks (bs ++ [(w.heap.size, w.heap.size + 1)])) = (i :: o :: placeBlocks bs) ++ [w.heap.size, w.heap.size + 1] := by simp [placeBlocks]
    rw [e]
    intro b hb'
    have hss : (w1.setCell ⟨p, 3, none⟩ (.slice (some ⟨g, 0, none⟩) (bs.length + 1) cap)).heap.size = w1.heap.size := by simp [World.setCell]
    rw [hss]
    rcases List.mem_append.1 hb' with h1 | h1
    · have := hlt b h1; omega
    · simp at h1; omega
end Go.Proofs.Ytdbllffkpkkggaa

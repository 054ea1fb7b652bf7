/- Memory seen as another type, in a world and in one that is frozen at more places. -/
import Derived.Test.YtecmobjiepgfjaaGoA
namespace Go.Proofs.Ytecmobjiepgfjaa
open Go.Conc
set_option linter.unusedSimpArgs false
section
variable {S : Prot} {x w : World}
theorem seen_cells {P : Program} {at_ : Addr} {u : TypeId} {k : Addr} {atomic : Bool} {c c₀ : Array Value} {e t : TypeId} {f' f₀' f₀ : Nat × Nat} {first : Nat} {like : Value} {cells : List (Nat × Nat × List UInt8)}
    (h1 : x.heap[at_.block]? = some (.cells c₀ t f₀')) (h2 : w.heap[at_.block]? = some (.cells c₀ t f₀)) (hx : x.seen P at_ u k atomic = .ok (c, e, f', first, like, cells)) :
    c₀ = c ∧ t = e ∧ f₀' = f' ∧ w.seen P at_ u k atomic = .ok (c, e, f₀, first, like, cells) := by
  unfold World.seen at hx ⊢
  simp only [h1, h2] at hx ⊢
  revert hx
  (repeat' split) <;> intro hx <;> simp_all [bind, Except.bind, pure, Except.pure, MonadExcept.throw, throw, throwThe, MonadExceptOf.throw]
  all_goals revert hx
  all_goals (repeat' split) <;> intro hx <;> simp_all
  all_goals (obtain ⟨rfl, rfl, rfl, hx1, _, hx2⟩ := hx; simp_all)
  all_goals (rw [hx1] at hx2; exact hx2)
theorem seen_other {P : Program} {at_ : Addr} {u : TypeId} {k : Addr} {atomic : Bool} {r} (h1 : ∀ c t f, x.heap[at_.block]? ≠ some (.cells c t f)) (hx : x.seen P at_ u k atomic = .ok r) : False := by
  unfold World.seen at hx
  revert hx
  (repeat' split) <;> intro hx <;> simp_all [bind, Except.bind, pure, Except.pure, MonadExcept.throw, throw, throwThe, MonadExceptOf.throw]
theorem Thaw.seen (h : Thaw S x w) {P : Program} {at_ : Addr} {u : TypeId} {k : Addr} {atomic : Bool} {c : Array Value} {e : TypeId} {f' : Nat × Nat} {first : Nat} {like : Value} {cells : List (Nat × Nat × List UInt8)}
    (hx : x.seen P at_ u k atomic = .ok (c, e, f', first, like, cells)) :
    ∃ f, w.seen P at_ u k atomic = .ok (c, e, f, first, like, cells) ∧ Wider f' f ∧ x.heap[at_.block]? = some (.cells c e f') ∧ w.heap[at_.block]? = some (.cells c e f) := by
  by_cases hc : ∃ c₀ t f₀', x.heap[at_.block]? = some (.cells c₀ t f₀')
  · obtain ⟨c₀, t, f₀', h1⟩ := hc
    rcases h.cases at_.block with ⟨h3, _⟩ | ⟨o', o, h3, h2, hl⟩
    · rw [h1] at h3; cases h3
    · rw [h1] at h3
      obtain rfl := Option.some.inj h3
      rcases hl with rfl | ⟨c₁, t₁, g', g, e1, rfl, hg⟩
      · obtain ⟨rfl, rfl, rfl, hw⟩ := seen_cells h1 h2 hx
        exact ⟨_, hw, .refl _, h1, h2⟩
      · injection e1 with e1 e2 e3; subst e1 e2 e3
        obtain ⟨rfl, rfl, rfl, hw⟩ := seen_cells h1 h2 hx
        exact ⟨_, hw, hg, h1, h2⟩
  · exact (seen_other (fun c t f e => hc ⟨c, t, f, e⟩) hx).elim
theorem Thaw.viewLoad (h : Thaw S x w) {P : Program} {at_ : Addr} {u : TypeId} {k : Addr} {atomic : Bool} {r : Value × List Addr} (hx : x.viewLoad P at_ u k atomic = .ok r) :
    w.viewLoad P at_ u k atomic = .ok r ∧ ∀ a ∈ r.2, a.block = at_.block ∧ a.block < x.heap.size := by
  unfold World.viewLoad at hx ⊢
  cases hs : x.seen P at_ u k atomic with
  | error e => rw [hs] at hx; simp [bind, Except.bind] at hx
  | ok v =>
    obtain ⟨c, e, f', first, like, cells⟩ := v
    obtain ⟨f, hw, _, hb, _⟩ := h.seen hs
    rw [hs] at hx; rw [hw]
    simp only [bind, Except.bind] at hx ⊢
    have hlt : at_.block < x.heap.size := by
      rcases Nat.lt_or_ge at_.block x.heap.size with l | l
      · exact l
      · rw [Array.getElem?_eq_none l] at hb; cases hb
    revert hx
    split
    · intro hx
      refine ⟨hx, ?_⟩
      simp only [pure, Except.pure, Except.ok.injEq] at hx
      subst hx
      intro a ha
      simp only [List.mem_map] at ha
      obtain ⟨y, _, rfl⟩ := ha
      exact ⟨rfl, hlt⟩
    · intro hx; simp [throw, throwThe, MonadExceptOf.throw] at hx
theorem foldlM_thaw {α β : Type} {g' g : α → β → Except String α} {Q : β → Prop} (hg : ∀ c y c', g' c y = .ok c' → g c y = .ok c' ∧ Q y) : ∀ (l : List β) (c c' : α), l.foldlM g' c = .ok c' → l.foldlM g c = .ok c' ∧ ∀ y ∈ l, Q y
  | [], c, c', h => ⟨h, fun _ hy => by cases hy⟩
  | y :: l, c, c', h => by
    rw [List.foldlM_cons] at h ⊢
    cases e : g' c y with
    | error x => rw [e] at h; cases h
    | ok c₁ =>
      rw [e] at h
      obtain ⟨h1, h2⟩ := hg c y c₁ e
      obtain ⟨h3, h4⟩ := foldlM_thaw hg l c₁ c' h
      rw [h1]
      refine ⟨h3, fun z hz => ?_⟩
      rcases List.mem_cons.1 hz with rfl | hz
      · exact h2
      · exact h4 z hz
theorem Thaw.viewStore (h : Thaw S x w) {P : Program} {at_ : Addr} {u : TypeId} {k : Addr} {v : Value} {atomic : Bool} {x' : World} {l : List Addr} (hx : x.viewStore P at_ u k v atomic = .ok (x', l)) :
    ∃ w', w.viewStore P at_ u k v atomic = .ok (w', l) ∧ Thaw S x' w' ∧ ∀ a ∈ l, a.block < x.heap.size ∧ x.frozen? a = false := by
  unfold World.viewStore at hx ⊢
  simp only [bind, Except.bind, pure, Except.pure, throw, throwThe, MonadExceptOf.throw, MonadExcept.throw] at hx ⊢
  cases hs : x.seen P at_ u k atomic with
  | error e => simp only [hs] at hx; revert hx; (repeat' split) <;> intro hx <;> simp_all
  | ok v' =>
    obtain ⟨c, e, f', first, like, cells⟩ := v'
    obtain ⟨f, hw, hf, hb, hb2⟩ := h.seen hs
    simp only [hs] at hx
    simp only [hw]
    split at hx
    · cases hx
    rename_i ht
    rw [if_neg ht]
    cases hbs : v.bytes? with
    | none => simp only [hbs] at hx; cases hx
    | some bytes =>
      simp only [hbs] at hx ⊢
      split at hx
      · cases hx
      rename_i hsz
      rw [if_neg hsz]
      split at hx
      · cases hx
      rename_i c' hfold
      simp only [Except.ok.injEq, Prod.mk.injEq] at hx
      obtain ⟨rfl, rfl⟩ := hx
      have h4 := (foldlM_thaw (Q := fun y : Nat × Nat × List UInt8 => (decide (f'.1 ≤ y.1) && decide (y.1 < f'.2)) = false) (fun c y c' hc => by
        refine ⟨hc, ?_⟩
        revert hc
        split
        · intro hc; cases hc
        split
        · intro hc; cases hc
        rename_i n2
        intro _
        simpa using n2) _ _ _ hfold).2
      have h3 := fun g hg => (foldlM_thaw (g := g) (Q := fun _ => True) hg _ _ _ hfold).1
      have hlt : at_.block < x.heap.size := by
        rcases Nat.lt_or_ge at_.block x.heap.size with q | q
        · exact q
        · rw [Array.getElem?_eq_none q] at hb; cases hb
      rw [h3 _ ?hstep]
      case hstep =>
        intro c y c' hc
        refine ⟨?_, trivial⟩
        revert hc
        split
        · intro hc; cases hc
        split
        · intro hc; cases hc
        rename_i n2
        intro hc
        have n4 : ¬ (decide (f.1 ≤ y.1) && decide (y.1 < f.2)) = true := fun hq => by
          simp only [Bool.and_eq_true, decide_eq_true_eq] at hq
          have := hf.sub hq.1 hq.2
          simp [this.1, this.2] at n2
        rw [if_neg n4]
        exact hc
      refine ⟨_, rfl, ?_, fun a ha => ?_⟩
      · refine ⟨by simp [h.size], fun q o' o₂ h1 h2 => ?_, h.os, h.output, fun a ha => ?_, fun q hq => ?old⟩
        case old =>
          by_cases e' : at_.block = q
          · subst e'
            have := h.old _ hq
            rw [hb, hb2] at this
            injection this with this
            injection this with _ _ this
            rw [this, Array.getElem?_setIfInBounds_self_of_lt hlt, Array.getElem?_setIfInBounds_self_of_lt (h.size ▸ hlt)]
          · rw [Array.getElem?_setIfInBounds_ne e', Array.getElem?_setIfInBounds_ne e']; exact h.old q hq
        · simp only [Array.getElem?_setIfInBounds] at h1 h2
          rw [h.size] at h1
          split at h1
          · rename_i e'
            rw [if_pos e'] at h2
            split at h1
            · rename_i hl'; rw [if_pos hl'] at h2; rw [← Option.some.inj h1, ← Option.some.inj h2]; exact .inr ⟨_, _, _, _, rfl, rfl, hf⟩
            · cases h1
          · rename_i e'; rw [if_neg e'] at h2; exact h.like q _ _ h1 h2
        · have hs' := h.still a ha
          unfold World.frozen? at hs' ⊢
          by_cases e' : at_.block = a.block
          · rw [← e', hb] at hs'
            rw [← e', Array.getElem?_setIfInBounds_self_of_lt hlt]; exact hs'
          · rw [Array.getElem?_setIfInBounds_ne e']; exact hs'
      · obtain ⟨y, hy, rfl⟩ := List.mem_map.1 ha
        refine ⟨hlt, ?_⟩
        unfold World.frozen?
        rw [hb]
        exact h4 y hy
end
end Go.Proofs.Ytecmobjiepgfjaa

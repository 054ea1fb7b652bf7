/- Joined of the texts GoA, GoB; what each proves, and its conditions, stand ahead of it. -/
import Derived.Conc.Events
import Derived.Conc.Beside
/- A piece of the model's work, run in a world and in one that is frozen at more places: what the second comes to the first comes to, and it writes none of the places that the second holds frozen. -/
namespace Go.Proofs.Ytecmobjiepgfjaa
open Go.Conc
set_option linter.unusedSimpArgs false
set_option linter.unusedVariables false
/-- The first range holds what the second holds, and will. -/
def Wider (f' f : Nat × Nat) : Prop := f' = f ∨ f.1 = f.2 ∨ (f'.1 ≤ f.1 ∧ f.2 ≤ f'.2 ∧ f'.1 ≠ f'.2 ∧ f.1 ≠ f.2)
theorem Wider.refl (f : Nat × Nat) : Wider f f := .inl rfl
theorem Wider.sub {f' f : Nat × Nat} (h : Wider f' f) {i : Nat} (a : f.1 ≤ i) (b : i < f.2) : f'.1 ≤ i ∧ i < f'.2 := by
  rcases h with rfl | h | h
  · exact ⟨a, b⟩
  · omega
  · omega
/-- A range, grown. -/
def grown (f : Nat × Nat) (o n : Nat) : Nat × Nat := if f.1 == f.2 then (o, o + n) else (min f.1 o, max f.2 (o + n))
theorem grown_eq {f : Nat × Nat} (h : f.1 = f.2) (o n : Nat) : grown f o n = (o, o + n) := by simp [grown, h]
theorem grown_ne {f : Nat × Nat} (h : f.1 ≠ f.2) (o n : Nat) : grown f o n = (min f.1 o, max f.2 (o + n)) := by simp [grown, h]
theorem Wider.grow {f' f : Nat × Nat} (h : Wider f' f) (o : Nat) {n : Nat} (hn : n ≠ 0) : Wider (grown f' o n) (grown f o n) := by
  rcases h with rfl | h | ⟨h1, h2, h3, h4⟩
  · exact .inl rfl
  · rw [grown_eq h]
    by_cases e : f'.1 = f'.2
    · rw [grown_eq e]; exact .inl rfl
    · rw [grown_ne e]
      exact .inr (.inr ⟨by simp only; omega, by simp only; omega, by simp only; omega, by simp only; omega⟩)
  · rw [grown_ne h3, grown_ne h4]
    exact .inr (.inr ⟨by simp only; omega, by simp only; omega, by simp only; omega, by simp only; omega⟩)
theorem Wider.growL {f' f : Nat × Nat} (h : Wider f' f) (o : Nat) {n : Nat} (hn : n ≠ 0) : Wider (grown f' o n) f := by
  by_cases e0 : f.1 = f.2
  · exact .inr (.inl e0)
  · rcases h with rfl | h | ⟨h1, h2, h3, h4⟩
    · rw [grown_ne e0]
      exact .inr (.inr ⟨by simp only; omega, by simp only; omega, by simp only; omega, e0⟩)
    · exact absurd h e0
    · rw [grown_ne h3]
      exact .inr (.inr ⟨by simp only; omega, by simp only; omega, by simp only; omega, e0⟩)
theorem Wider.freeze {f' f : Nat × Nat} (h : Wider f' f) (o : Nat) {n : Nat} (hn : n ≠ 0) : Wider (if f'.1 == f'.2 then (o, o + n) else (min f'.1 o, max f'.2 (o + n))) (if f.1 == f.2 then (o, o + n) else (min f.1 o, max f.2 (o + n))) := h.grow o hn
/-- The same object; a row of cells may be frozen at more places in the first. -/
def OLike (o' o : Obj) : Prop := o' = o ∨ ∃ c t f' f, o' = .cells c t f' ∧ o = .cells c t f ∧ Wider f' f
/-- What nobody writes: cells, objects. -/
structure Prot where
  cells : Addr → Prop
  objs : Nat → Prop
  lo : Nat
/-- World x is world w, frozen at S too; the tape is let go. -/
structure Thaw (S : Prot) (x w : World) : Prop where
  size : x.heap.size = w.heap.size
  like : ∀ (r : Nat) (o' o : Obj), x.heap[r]? = some o' → w.heap[r]? = some o → OLike o' o
  os : x.os = w.os
  output : x.output = w.output
  still : ∀ a, S.cells a → x.frozen? a = true
  old : ∀ r, r < S.lo → x.heap[r]? = w.heap[r]?
/-- What an operation of memory leaves. -/
def outer (w : World) := (w.tape, w.os, w.output)
/-- The world under another tape. -/
def under (x : World) (τ : Nat → Question → Nat) (d : Nat) : World := { x with tape := τ, drawn := d }
section
variable {S : Prot} {x w : World}
theorem Thaw.cases (h : Thaw S x w) (r : Nat) : (x.heap[r]? = none ∧ w.heap[r]? = none) ∨ ∃ o' o, x.heap[r]? = some o' ∧ w.heap[r]? = some o ∧ OLike o' o := by
  rcases Nat.lt_or_ge r x.heap.size with hr | hr
  · have hr' : r < w.heap.size := h.size ▸ hr
    exact .inr ⟨x.heap[r], w.heap[r], Array.getElem?_eq_getElem hr, Array.getElem?_eq_getElem hr', h.like r _ _ (Array.getElem?_eq_getElem hr) (Array.getElem?_eq_getElem hr')⟩
  · exact .inl ⟨Array.getElem?_eq_none hr, Array.getElem?_eq_none (h.size ▸ hr)⟩
theorem Thaw.cell? (h : Thaw S x w) (a : Addr) : x.cell? a = w.cell? a := by
  unfold World.cell?
  rcases h.cases a.block with ⟨h1, h2⟩ | ⟨o', o, h1, h2, rfl | ⟨c, t, f', f, rfl, rfl, _⟩⟩ <;> simp [h1, h2]
theorem Thaw.shape? (h : Thaw S x w) (r : Nat) : x.shape? r = w.shape? r := by
  unfold World.shape?
  rcases h.cases r with ⟨h1, h2⟩ | ⟨o', o, h1, h2, rfl | ⟨c, t, f', f, rfl, rfl, _⟩⟩ <;> simp [h1, h2]
theorem Thaw.frozen? (h : Thaw S x w) (a : Addr) (hf : w.frozen? a = true) : x.frozen? a = true := by
  unfold World.frozen? at hf ⊢
  rcases h.cases a.block with ⟨h1, h2⟩ | ⟨o', o, h1, h2, rfl | ⟨c, t, f', f, rfl, rfl, hff⟩⟩
  · simp [h2] at hf
  · rw [h2] at hf; rw [h1]; exact hf
  · simp only [h1, h2, Bool.and_eq_true, decide_eq_true_eq] at hf ⊢
    exact hff.sub hf.1 hf.2
theorem Thaw.thawed (h : Thaw S x w) (a : Addr) (hf : x.frozen? a = false) : w.frozen? a = false := by
  cases e : w.frozen? a with
  | false => rfl
  | true => rw [h.frozen? a e] at hf; cases hf
theorem Thaw.free (h : Thaw S x w) {a : Addr} (hf : x.frozen? a = false) : ¬ S.cells a := fun hs => by rw [h.still a hs] at hf; cases hf
theorem Thaw.obj (h : Thaw S x w) {r : Nat} {o : Obj} (ho : ∀ c t f, o ≠ .cells c t f) (hx : x.heap[r]? = some o) : w.heap[r]? = some o := by
  rcases h.cases r with ⟨h1, _⟩ | ⟨o', o₂, h1, h2, rfl | ⟨c, t, f', f, rfl, rfl, _⟩⟩
  · rw [h1] at hx; cases hx
  · rw [h2, ← h1, hx]
  · rw [h1] at hx; exact absurd (Option.some.inj hx).symm (ho _ _ _)
theorem Thaw.mv (h : Thaw S x w) (τ : Nat → Question → Nat) (d : Nat) (t : Nat → Question → Nat) (k : Nat) : Thaw S (under x τ d) (under w t k) := ⟨h.size, h.like, h.os, h.output, h.still, h.old⟩
theorem Thaw.mvl (h : Thaw S x w) (τ : Nat → Question → Nat) (d : Nat) : Thaw S (under x τ d) w := ⟨h.size, h.like, h.os, h.output, h.still, h.old⟩
theorem Thaw.mvr (h : Thaw S x w) (t : Nat → Question → Nat) (k : Nat) : Thaw S x (under w t k) := ⟨h.size, h.like, h.os, h.output, h.still, h.old⟩
theorem OLike.refl (o : Obj) : OLike o o := .inl rfl
theorem heap_setCell (w : World) (a : Addr) (v : Value) (r : Nat) : (w.setCell a v).heap[r]? = (w.heap[r]?).map fun o => if r = a.block then (match o with | .cells c e fr => .cells (if a.spot.isSome then c else c.setIfInBounds a.off v) e fr | o => o) else o := by
  unfold World.setCell
  simp only [Array.getElem?_modify]
  by_cases e : a.block = r
  · subst e
    simp only [if_true]
    cases w.heap[a.block]? with
    | none => rfl
    | some o => cases o <;> rfl
  · simp only [e, if_false]
    have : ¬ r = a.block := fun x => e x.symm
    simp only [this, if_false]
    cases w.heap[r]? <;> rfl
theorem frozen_setCell (w : World) (a b : Addr) (v : Value) : (w.setCell a v).frozen? b = w.frozen? b := by
  unfold World.frozen?
  rw [heap_setCell]
  cases e : w.heap[b.block]? with
  | none => rfl
  | some o =>
    by_cases h : b.block = a.block
    · simp only [Option.map_some, h, if_true]; cases o <;> rfl
    · simp only [Option.map_some, h, if_false]
theorem Thaw.setCell (h : Thaw S x w) (a : Addr) (v : Value) : Thaw S (x.setCell a v) (w.setCell a v) := by
  refine ⟨by simp [World.setCell, h.size], fun r o' o h1 h2 => ?_, h.os, h.output, fun b hb => by rw [frozen_setCell]; exact h.still b hb, fun q hq => by rw [heap_setCell, heap_setCell, h.old q hq]⟩
  rw [heap_setCell] at h1 h2
  rcases h.cases r with ⟨e1, _⟩ | ⟨p', p, e1, e2, hl⟩
  · rw [e1] at h1; cases h1
  · rw [e1] at h1; rw [e2] at h2
    simp only [Option.map_some, Option.some.injEq] at h1 h2
    subst h1 h2
    rcases hl with rfl | ⟨c, t, f', f, rfl, rfl, hf⟩
    · exact .inl rfl
    · by_cases e : r = a.block
      · simp only [e, if_true]; exact .inr ⟨_, _, _, _, rfl, rfl, hf⟩
      · simp only [e, if_false]; exact .inr ⟨_, _, _, _, rfl, rfl, hf⟩
theorem Thaw.push (h : Thaw S x w) (o : Obj) : Thaw S { x with heap := x.heap.push o } { w with heap := w.heap.push o } := by
  refine ⟨by simp [h.size], fun r o' o₂ h1 h2 => ?_, h.os, h.output, fun a ha => ?_, fun q hq => by simp only [Array.getElem?_push, h.size, h.old q hq]⟩
  · simp only [Array.getElem?_push] at h1 h2
    rw [h.size] at h1
    split at h1
    · rw [if_pos (by assumption)] at h2; rw [← Option.some.inj h1, ← Option.some.inj h2]; exact .refl _
    · rw [if_neg (by assumption)] at h2; exact h.like r _ _ h1 h2
  · have hs := h.still a ha
    unfold World.frozen? at hs ⊢
    by_cases e : a.block = x.heap.size
    · rw [Array.getElem?_eq_none (Nat.le_of_eq e.symm)] at hs; cases hs
    · rw [Array.getElem?_push, if_neg e]; exact hs
theorem Thaw.set (h : Thaw S x w) {r : Nat} {o₀ : Obj} (hx : x.heap[r]? = some o₀) (ho : ∀ c t f, o₀ ≠ .cells c t f) (o : Obj) : Thaw S { x with heap := x.heap.setIfInBounds r o } { w with heap := w.heap.setIfInBounds r o } := by
  refine ⟨by simp [h.size], fun q o' o₂ h1 h2 => ?_, h.os, h.output, fun a ha => ?_, fun q hq => by simp only [Array.getElem?_setIfInBounds, h.size, h.old q hq]⟩
  · simp only [Array.getElem?_setIfInBounds] at h1 h2
    rw [h.size] at h1
    split at h1
    · rename_i e
      rw [if_pos e] at h2
      split at h1
      · rename_i hlt; rw [if_pos hlt] at h2; rw [← Option.some.inj h1, ← Option.some.inj h2]; exact .refl _
      · cases h1
    · rename_i e; rw [if_neg e] at h2; exact h.like q _ _ h1 h2
  · have hs := h.still a ha
    unfold World.frozen? at hs ⊢
    have hne : r ≠ a.block := fun e => by
      subst e
      rw [hx] at hs
      cases o₀ <;> simp_all
    rw [Array.getElem?_setIfInBounds_ne hne]; exact hs
theorem heap_freeze (w : World) (a : Addr) {n : Nat} (hn : n ≠ 0) (r : Nat) : (w.freeze a n).heap[r]? = (w.heap[r]?).map fun o => if r = a.block then (match o with | .cells c e fr => .cells c e (if fr.1 == fr.2 then (a.off, a.off + n) else (min fr.1 a.off, max fr.2 (a.off + n))) | o => o) else o := by
  unfold World.freeze
  rw [if_neg hn]
  simp only [Array.getElem?_modify]
  by_cases e : a.block = r
  · subst e
    simp only [if_true]
    cases w.heap[a.block]? with
    | none => rfl
    | some o => cases o <;> rfl
  · simp only [e, if_false]
    have : ¬ r = a.block := fun x => e x.symm
    simp only [this, if_false]
    cases w.heap[r]? <;> rfl
theorem frozen_freeze (w : World) (a b : Addr) (n : Nat) (h : w.frozen? b = true) : (w.freeze a n).frozen? b = true := by
  by_cases hn : n = 0
  · unfold World.freeze; rw [if_pos hn]; exact h
  · unfold World.frozen? at h ⊢
    rw [heap_freeze w a hn]
    cases e : w.heap[b.block]? with
    | none => rw [e] at h; cases h
    | some o =>
      rw [e] at h
      by_cases hb : b.block = a.block
      · simp only [Option.map_some, hb, if_true]
        cases o <;> first | (cases h) | skip
        rename_i c t fr
        obtain ⟨lo, hi⟩ := fr
        simp only [Bool.and_eq_true, decide_eq_true_eq] at h ⊢
        have hne : (lo == hi) = false := by simp; omega
        simp only [hne, Bool.false_eq_true, if_false]
        omega
      · simp only [Option.map_some, hb, if_false]; exact h
theorem Thaw.freeze (h : Thaw S x w) (a : Addr) (n : Nat) : Thaw S (x.freeze a n) (w.freeze a n) := by
  by_cases hn : n = 0
  · unfold World.freeze; rw [if_pos hn, if_pos hn]; exact h
  · refine ⟨by simp [World.freeze, hn, h.size], fun r o' o h1 h2 => ?_, by simp [World.freeze, hn, h.os], by simp [World.freeze, hn, h.output], fun b hb => frozen_freeze x a b n (h.still b hb), fun q hq => by rw [heap_freeze _ _ hn, heap_freeze _ _ hn, h.old q hq]⟩
    rw [heap_freeze _ _ hn] at h1 h2
    rcases h.cases r with ⟨e1, _⟩ | ⟨p', p, e1, e2, hl⟩
    · rw [e1] at h1; cases h1
    · rw [e1] at h1; rw [e2] at h2
      simp only [Option.map_some, Option.some.injEq] at h1 h2
      subst h1 h2
      rcases hl with rfl | ⟨c, t, f', f, rfl, rfl, hf⟩
      · exact .inl rfl
      · by_cases e : r = a.block
        · simp only [e, if_true]
          exact .inr ⟨_, _, _, _, rfl, rfl, hf.freeze _ hn⟩
        · simp only [e, if_false]; exact .inr ⟨_, _, _, _, rfl, rfl, hf⟩
theorem Thaw.freezeL (h : Thaw S x w) (a : Addr) (n : Nat) (ha : S.lo ≤ a.block) : Thaw S (x.freeze a n) w := by
  by_cases hn : n = 0
  · unfold World.freeze; rw [if_pos hn]; exact h
  · refine ⟨by simp [World.freeze, hn, h.size], fun r o' o h1 h2 => ?_, by simp [World.freeze, hn, h.os], by simp [World.freeze, hn, h.output], fun b hb => frozen_freeze x a b n (h.still b hb), fun q hq => by
      have hne : ¬ q = a.block := fun e => by omega
      rw [heap_freeze _ _ hn, h.old q hq]
      cases w.heap[q]? <;> simp [hne]⟩
    rw [heap_freeze _ _ hn] at h1
    rcases h.cases r with ⟨e1, _⟩ | ⟨p', p, e1, e2, hl⟩
    · rw [e1] at h1; cases h1
    · rw [e2] at h2
      obtain rfl := Option.some.inj h2
      rw [e1] at h1
      simp only [Option.map_some, Option.some.injEq] at h1
      subst h1
      rcases hl with rfl | ⟨c, t, f', f, rfl, rfl, hf⟩
      · by_cases e : r = a.block
        · simp only [e, if_true]
          cases p' <;> first | exact .inl rfl | skip
          exact .inr ⟨_, _, _, _, rfl, rfl, (Wider.refl _).growL _ hn⟩
        · simp only [e, if_false]; exact .inl rfl
      · by_cases e : r = a.block
        · simp only [e, if_true]
          exact .inr ⟨_, _, _, _, rfl, rfl, hf.growL _ hn⟩
        · simp only [e, if_false]; exact .inr ⟨_, _, _, _, rfl, rfl, hf⟩
/-- Protected: fewer, or other cells that are frozen. -/
theorem Thaw.other {S' : Prot} (h : Thaw S x w) (hs : ∀ a, S'.cells a → x.frozen? a = true) (hl : S'.lo ≤ S.lo) : Thaw S' x w := ⟨h.size, h.like, h.os, h.output, hs, fun r hr => h.old r (Nat.lt_of_lt_of_le hr hl)⟩
theorem Thaw.self {S : Prot} {w : World} (hs : ∀ a, S.cells a → w.frozen? a = true) : Thaw S w w := ⟨rfl, fun r o' o h1 h2 => .inl (Option.some.inj (h1.symm.trans h2)), rfl, rfl, hs, fun _ _ => rfl⟩
/-- What a freezing freezes. -/
theorem frozen_in {w : World} {a b : Addr} {n : Nat} {c : Array Value} {t : TypeId} {f : Nat × Nat} (hb : b.block = a.block) (h1 : a.off ≤ b.off) (h2 : b.off < a.off + n) (hw : w.heap[a.block]? = some (.cells c t f)) : (w.freeze a n).frozen? b = true := by
  have hn : n ≠ 0 := by omega
  unfold World.frozen?
  rw [heap_freeze w a hn, hb, hw]
  simp only [Option.map_some, if_true]
  by_cases e : f.1 = f.2
  · simp [e]; omega
  · simp [e]; omega
/-- .. and what not. -/
theorem frozen_out {w : World} {a b : Addr} {n : Nat} (h : b.block ≠ a.block) : (w.freeze a n).frozen? b = w.frozen? b := by
  by_cases hn : n = 0
  · unfold World.freeze; rw [if_pos hn]
  · unfold World.frozen?
    rw [heap_freeze w a hn]
    simp only [h, if_false, Option.map_id']
theorem frozen_off {w : World} {a b : Addr} {n : Nat} {c : Array Value} {t : TypeId} {f : Nat × Nat} (hb : b.block = a.block) (h : b.off < a.off ∨ a.off + n ≤ b.off) (hw : w.heap[a.block]? = some (.cells c t f)) (hf : f.1 = f.2) : (w.freeze a n).frozen? b = false := by
  by_cases hn : n = 0
  · unfold World.freeze World.frozen?; rw [if_pos hn, hb, hw]; simp; omega
  · unfold World.frozen?
    rw [heap_freeze w a hn, hb, hw]
    simp only [Option.map_some, if_true, hf]
    simp
    omega
end
end Go.Proofs.Ytecmobjiepgfjaa
/- Memory seen as another type, in a world and in one that is frozen at more places. -/
namespace Go.Proofs.Ytecmobjiepgfjaa
open Go.Conc
set_option linter.unusedSimpArgs false
section
variable {S : Prot} {x w : World}
theorem seen_cells {P : Program} {at_ : Addr} {u : TypeId} {k : Addr} {atomic : Bool} {c c₀ : Array Value} {e t : TypeId} {f' f₀' f₀ : Nat × Nat} {first : Nat} {like : Value} {cells : List (Nat × Nat × List UInt8)}
    (h1 : x.heap[at_.block]? = some (.cells c₀ t f₀')) (h2 : w.heap[at_.block]? = some (.cells c₀ t f₀)) (hx : x.seen P at_ u k atomic = .ok (c, e, f', first, like, cells)) :
    c₀ = c ∧ t = e ∧ f₀' = f' ∧ w.seen P at_ u k atomic = .ok (c, e, f₀, first, like, cells) := by
  unfold World.seen at hx ⊢
  simp only [h1, h2] at hx ⊢
  revert hx
  (repeat' split) <;> intro hx <;> simp_all [bind, Except.bind, pure, Except.pure, MonadExcept.throw, throw, throwThe, MonadExceptOf.throw]
  all_goals revert hx
  all_goals (repeat' split) <;> intro hx <;> simp_all
  all_goals (obtain ⟨rfl, rfl, rfl, hx1, _, hx2⟩ := hx; simp_all)
  all_goals (rw [hx1] at hx2; exact hx2)
theorem seen_other {P : Program} {at_ : Addr} {u : TypeId} {k : Addr} {atomic : Bool} {r} (h1 : ∀ c t f, x.heap[at_.block]? ≠ some (.cells c t f)) (hx : x.seen P at_ u k atomic = .ok r) : False := by
  unfold World.seen at hx
  revert hx
  (repeat' split) <;> intro hx <;> simp_all [bind, Except.bind, pure, Except.pure, MonadExcept.throw, throw, throwThe, MonadExceptOf.throw]
theorem Thaw.seen (h : Thaw S x w) {P : Program} {at_ : Addr} {u : TypeId} {k : Addr} {atomic : Bool} {c : Array Value} {e : TypeId} {f' : Nat × Nat} {first : Nat} {like : Value} {cells : List (Nat × Nat × List UInt8)}
    (hx : x.seen P at_ u k atomic = .ok (c, e, f', first, like, cells)) :
    ∃ f, w.seen P at_ u k atomic = .ok (c, e, f, first, like, cells) ∧ Wider f' f ∧ x.heap[at_.block]? = some (.cells c e f') ∧ w.heap[at_.block]? = some (.cells c e f) := by
  by_cases hc : ∃ c₀ t f₀', x.heap[at_.block]? = some (.cells c₀ t f₀')
  · obtain ⟨c₀, t, f₀', h1⟩ := hc
    rcases h.cases at_.block with ⟨h3, _⟩ | ⟨o', o, h3, h2, hl⟩
    · rw [h1] at h3; cases h3
    · rw [h1] at h3
      obtain rfl := Option.some.inj h3
      rcases hl with rfl | ⟨c₁, t₁, g', g, e1, rfl, hg⟩
      · obtain ⟨rfl, rfl, rfl, hw⟩ := seen_cells h1 h2 hx
        exact ⟨_, hw, .refl _, h1, h2⟩
      · injection e1 with e1 e2 e3; subst e1 e2 e3
        obtain ⟨rfl, rfl, rfl, hw⟩ := seen_cells h1 h2 hx
        exact ⟨_, hw, hg, h1, h2⟩
  · exact (seen_other (fun c t f e => hc ⟨c, t, f, e⟩) hx).elim
theorem Thaw.viewLoad (h : Thaw S x w) {P : Program} {at_ : Addr} {u : TypeId} {k : Addr} {atomic : Bool} {r : Value × List Addr} (hx : x.viewLoad P at_ u k atomic = .ok r) :
    w.viewLoad P at_ u k atomic = .ok r ∧ ∀ a ∈ r.2, a.block = at_.block ∧ a.block < x.heap.size := by
  unfold World.viewLoad at hx ⊢
  cases hs : x.seen P at_ u k atomic with
  | error e => rw [hs] at hx; simp [bind, Except.bind] at hx
  | ok v =>
    obtain ⟨c, e, f', first, like, cells⟩ := v
    obtain ⟨f, hw, _, hb, _⟩ := h.seen hs
    rw [hs] at hx; rw [hw]
    simp only [bind, Except.bind] at hx ⊢
    have hlt : at_.block < x.heap.size := by
      rcases Nat.lt_or_ge at_.block x.heap.size with l | l
      · exact l
      · rw [Array.getElem?_eq_none l] at hb; cases hb
    revert hx
    split
    · intro hx
      refine ⟨hx, ?_⟩
      simp only [pure, Except.pure, Except.ok.injEq] at hx
      subst hx
      intro a ha
      simp only [List.mem_map] at ha
      obtain ⟨y, _, rfl⟩ := ha
      exact ⟨rfl, hlt⟩
    · intro hx; simp [throw, throwThe, MonadExceptOf.throw] at hx
theorem foldlM_thaw {α β : Type} {g' g : α → β → Except String α} {Q : β → Prop} (hg : ∀ c y c', g' c y = .ok c' → g c y = .ok c' ∧ Q y) : ∀ (l : List β) (c c' : α), l.foldlM g' c = .ok c' → l.foldlM g c = .ok c' ∧ ∀ y ∈ l, Q y
  | [], c, c', h => ⟨h, fun _ hy => by cases hy⟩
  | y :: l, c, c', h => by
    rw [List.foldlM_cons] at h ⊢
    cases e : g' c y with
    | error x => rw [e] at h; cases h
    | ok c₁ =>
      rw [e] at h
      obtain ⟨h1, h2⟩ := hg c y c₁ e
      obtain ⟨h3, h4⟩ := foldlM_thaw hg l c₁ c' h
      rw [h1]
      refine ⟨h3, fun z hz => ?_⟩
      rcases List.mem_cons.1 hz with rfl | hz
      · exact h2
      · exact h4 z hz
theorem Thaw.viewStore (h : Thaw S x w) {P : Program} {at_ : Addr} {u : TypeId} {k : Addr} {v : Value} {atomic : Bool} {x' : World} {l : List Addr} (hx : x.viewStore P at_ u k v atomic = .ok (x', l)) :
    ∃ w', w.viewStore P at_ u k v atomic = .ok (w', l) ∧ Thaw S x' w' ∧ ∀ a ∈ l, a.block < x.heap.size ∧ x.frozen? a = false := by
  unfold World.viewStore at hx ⊢
  simp only [bind, Except.bind, pure, Except.pure, throw, throwThe, MonadExceptOf.throw, MonadExcept.throw] at hx ⊢
  cases hs : x.seen P at_ u k atomic with
  | error e => simp only [hs] at hx; revert hx; (repeat' split) <;> intro hx <;> simp_all
  | ok v' =>
    obtain ⟨c, e, f', first, like, cells⟩ := v'
    obtain ⟨f, hw, hf, hb, hb2⟩ := h.seen hs
    simp only [hs] at hx
    simp only [hw]
    split at hx
    · cases hx
    rename_i ht
    rw [if_neg ht]
    cases hbs : v.bytes? with
    | none => simp only [hbs] at hx; cases hx
    | some bytes =>
      simp only [hbs] at hx ⊢
      split at hx
      · cases hx
      rename_i hsz
      rw [if_neg hsz]
      split at hx
      · cases hx
      rename_i c' hfold
      simp only [Except.ok.injEq, Prod.mk.injEq] at hx
      obtain ⟨rfl, rfl⟩ := hx
      have h4 := (foldlM_thaw (Q := fun y : Nat × Nat × List UInt8 => (decide (f'.1 ≤ y.1) && decide (y.1 < f'.2)) = false) (fun c y c' hc => by
        refine ⟨hc, ?_⟩
        revert hc
        split
        · intro hc; cases hc
        split
        · intro hc; cases hc
        rename_i n2
        intro _
        simpa using n2) _ _ _ hfold).2
      have h3 := fun g hg => (foldlM_thaw (g := g) (Q := fun _ => True) hg _ _ _ hfold).1
      have hlt : at_.block < x.heap.size := by
        rcases Nat.lt_or_ge at_.block x.heap.size with q | q
        · exact q
        · rw [Array.getElem?_eq_none q] at hb; cases hb
      rw [h3 _ ?hstep]
      case hstep =>
        intro c y c' hc
        refine ⟨?_, trivial⟩
        revert hc
        split
        · intro hc; cases hc
        split
        · intro hc; cases hc
        rename_i n2
        intro hc
        have n4 : ¬ (decide (f.1 ≤ y.1) && decide (y.1 < f.2)) = true := fun hq => by
          simp only [Bool.and_eq_true, decide_eq_true_eq] at hq
          have := hf.sub hq.1 hq.2
          simp [this.1, this.2] at n2
        rw [if_neg n4]
        exact hc
      refine ⟨_, rfl, ?_, fun a ha => ?_⟩
      · refine ⟨by simp [h.size], fun q o' o₂ h1 h2 => ?_, h.os, h.output, fun a ha => ?_, fun q hq => ?old⟩
        case old =>
          by_cases e' : at_.block = q
          · subst e'
            have := h.old _ hq
            rw [hb, hb2] at this
            injection this with this
            injection this with _ _ this
            rw [this, Array.getElem?_setIfInBounds_self_of_lt hlt, Array.getElem?_setIfInBounds_self_of_lt (h.size ▸ hlt)]
          · rw [Array.getElem?_setIfInBounds_ne e', Array.getElem?_setIfInBounds_ne e']; exact h.old q hq
        · simp only [Array.getElem?_setIfInBounds] at h1 h2
          rw [h.size] at h1
          split at h1
          · rename_i e'
            rw [if_pos e'] at h2
            split at h1
            · rename_i hl'; rw [if_pos hl'] at h2; rw [← Option.some.inj h1, ← Option.some.inj h2]; exact .inr ⟨_, _, _, _, rfl, rfl, hf⟩
            · cases h1
          · rename_i e'; rw [if_neg e'] at h2; exact h.like q _ _ h1 h2
        · have hs' := h.still a ha
          unfold World.frozen? at hs' ⊢
          by_cases e' : at_.block = a.block
          · rw [← e', hb] at hs'
            rw [← e', Array.getElem?_setIfInBounds_self_of_lt hlt]; exact hs'
          · rw [Array.getElem?_setIfInBounds_ne e']; exact hs'
      · obtain ⟨y, hy, rfl⟩ := List.mem_map.1 ha
        refine ⟨hlt, ?_⟩
        unfold World.frozen?
        rw [hb]
        exact h4 y hy
end
end Go.Proofs.Ytecmobjiepgfjaa

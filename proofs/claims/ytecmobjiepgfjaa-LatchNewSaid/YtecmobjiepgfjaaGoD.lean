/- The primitives of the model's work: each is met in a world that is frozen at more places. -/
import Derived.Test.YtecmobjiepgfjaaGoC
namespace Go.Proofs.Ytecmobjiepgfjaa
open Go.Conc
set_option linter.unusedSimpArgs false
section
variable {P : Program} {S : Prot} {α β : Type} {N : α → Prop}
theorem noCell_bad (w : World) (a : Addr) (s : String) : Halt.bad (w.noCell a s) := by
  unfold World.noCell
  split <;> trivial
theorem farLoad_bad {w : World} {a : Addr} {b : Bool} {h : Halt} (e : w.farLoad P a b = .error h) : Halt.bad h := by
  unfold World.farLoad at e
  split at e
  · split at e
    · cases e
    · injection e with e; subst e; trivial
  · injection e with e; subst e; exact noCell_bad _ _ _
theorem farStore_bad {w : World} {a : Addr} {v : Value} {b : Bool} {h : Halt} (e : w.farStore P a v b = .error h) : Halt.bad h := by
  unfold World.farStore at e
  split at e
  · split at e
    · cases e
    · injection e with e; subst e; trivial
  · injection e with e; subst e; exact noCell_bad _ _ _
theorem cell_lt {w : World} {a : Addr} {v : Value} (h : w.cell? a = some v) : a.block < w.heap.size := by
  rcases Nat.lt_or_ge a.block w.heap.size with l | l
  · exact l
  · unfold World.cell? at h
    rw [Array.getElem?_eq_none l] at h; cases h
theorem sim_bad {h : Halt} (hb : Halt.bad h) : Sim P S N (Sem.halt h) := fun x _ _ => ⟨0, fun _ => 0, .inl fun τ d _ => ⟨h, under x τ d, rfl, hb⟩⟩
theorem sim_stuck {s : String} : Sim P S N (stuck s) := sim_bad trivial
theorem sim_unsupported {u : Unsupported} : Sim P S N (unsupported u) := sim_bad trivial
theorem sim_panic {v : Value} : Sim P S N (goPanic v) := fun x _ hT => ⟨0, fun _ => 0, .inr ⟨.halt (.panic v) x, .panic hT rfl (Nat.le_refl _), fun τ d _ => rfl, #[], fun es => by simp [goPanic, Sem.events, Sem.runT], by simp⟩⟩
theorem sim_load {a : Addr} {m : Mode} : Sim P S (fun _ => True) (load a m) := fun x w hT => by
  have hcx : ∀ τ d, (under x τ d).cell? a = x.cell? a := fun _ _ => rfl
  have hfx : ∀ τ d, (under x τ d).farLoad P a (m == .atomic) = x.farLoad P a (m == .atomic) := fun _ _ => rfl
  cases hc : w.cell? a with
  | some v =>
    refine ⟨0, fun _ => 0, .inr ⟨.ok v x, ?_, fun τ d _ => ?_, #[⟨.cell a, false, m == .atomic⟩], fun es => ?_, ?_⟩⟩
    · simp only [load, Sem.run, hc]; exact .ok ⟨rfl, trivial⟩ hT rfl (Nat.le_refl _)
    · simp only [load, Sem.run, hcx, hT.cell? a, hc]; rfl
    · simp only [load, Sem.events, Sem.runT, hc]; rfl
    · simp only [load, Sem.run, hc, Result.world]
      intro e he
      obtain rfl := by simpa using he
      exact evG_cell (by simp) (cell_lt hc)
  | none =>
    cases hf : x.farLoad P a (m == .atomic) with
    | error h => exact ⟨0, fun _ => 0, .inl fun τ d _ => ⟨h, under x τ d, by simp only [load, Sem.run, hcx, hT.cell? a, hc, hfx, hf], farLoad_bad hf⟩⟩
    | ok r =>
      obtain ⟨v, l⟩ := r
      obtain ⟨hw, hl⟩ := hT.farLoad hf
      refine ⟨0, fun _ => 0, .inr ⟨.ok v x, ?_, fun τ d _ => ?_, l.toArray.map (⟨.cell ·, false, m == .atomic⟩), fun es => ?_, ?_⟩⟩
      · simp only [load, Sem.run, hc, hw]; exact .ok ⟨rfl, trivial⟩ hT rfl (Nat.le_refl _)
      · simp only [load, Sem.run, hcx, hT.cell? a, hc, hfx, hf]; rfl
      · simp only [load, Sem.events, Sem.runT, hc, hw]
      · simp only [load, Sem.run, hc, hw, Result.world]
        intro e he
        simp only [List.map_toArray, List.mem_toArray, List.mem_map] at he
        obtain ⟨b, hb, rfl⟩ := he
        exact evG_cell (by simp) (hT.size ▸ hl b hb)
theorem sim_store {a : Addr} {v : Value} {m : Mode} : Sim P S (fun _ => True) (store a v m) := fun x w hT => by
  have hcx : ∀ τ d, (under x τ d).cell? a = x.cell? a := fun _ _ => rfl
  have hzx : ∀ τ d, (under x τ d).frozen? a = x.frozen? a := fun _ _ => rfl
  by_cases hag : (∃ c, v = .agg c) ∨ ∃ c, v = .tuple c
  · refine ⟨0, fun _ => 0, .inl fun τ d _ => ?_⟩
    rcases hag with ⟨c, rfl⟩ | ⟨c, rfl⟩ <;> exact ⟨_, _, rfl, trivial⟩
  · have hrun : ∀ w : World, (store a v m).run P w = match w.cell? a with
        | some _ => if w.frozen? a then .halt (.unsupported (.unsafePointer "a write to bytes that a string shares")) w else .ok () (w.setCell a v)
        | none => match w.farStore P a v (m == .atomic) with
          | .ok (w, _) => .ok () w
          | .error h => .halt h w := by
      intro w
      cases v <;> first | (exfalso; exact hag (.inl ⟨_, rfl⟩)) | (exfalso; exact hag (.inr ⟨_, rfl⟩)) | rfl
    have hevs : ∀ (w : World) es, (store a v m).events P w es = match w.cell? a with
        | some _ => if w.frozen? a then es else es.push ⟨.cell a, true, m == .atomic⟩
        | none => match w.farStore P a v (m == .atomic) with
          | .ok (_, l) => es ++ l.toArray.map (⟨.cell ·, true, m == .atomic⟩)
          | .error _ => es := by
      intro w es
      unfold Sem.events
      cases v <;> first | (exfalso; exact hag (.inl ⟨_, rfl⟩)) | (exfalso; exact hag (.inr ⟨_, rfl⟩)) | (simp only [store, Sem.runT]; (repeat' split) <;> first | rfl | simp_all)
    cases hc : w.cell? a with
    | some v₀ =>
      cases hz : x.frozen? a with
      | true => exact ⟨0, fun _ => 0, .inl fun τ d _ => ⟨.unsupported (.unsafePointer "a write to bytes that a string shares"), under x τ d, by rw [hrun]; simp only [hcx, hT.cell? a, hc, hzx, hz, if_true], trivial⟩⟩
      | false =>
        have hz' := hT.thawed a hz
        refine ⟨0, fun _ => 0, .inr ⟨.ok () (x.setCell a v), ?_, fun τ d _ => ?_, #[⟨.cell a, true, m == .atomic⟩], fun es => ?_, ?_⟩⟩
        · rw [hrun]; simp only [hc, hz', Bool.false_eq_true, if_false]; exact .ok ⟨rfl, trivial⟩ (hT.setCell a v) rfl (by simp [World.setCell])
        · rw [hrun]; simp only [hcx, hT.cell? a, hc, hzx, hz, Bool.false_eq_true, if_false]; rfl
        · rw [hevs]; simp only [hc, hz', Bool.false_eq_true, if_false]; rfl
        · rw [hrun]; simp only [hc, hz', Bool.false_eq_true, if_false, Result.world]
          intro e he
          obtain rfl := by simpa using he
          exact evG_cell (fun _ => hT.free hz) (by simpa [World.setCell] using cell_lt hc)
    | none =>
      cases hf : x.farStore P a v (m == .atomic) with
      | error h =>
        refine ⟨0, fun _ => 0, .inl fun τ d _ => ⟨h, under x τ d, ?_, farStore_bad hf⟩⟩
        have hfe : (under x τ d).farStore P a v (m == .atomic) = .error h := farStore_err hf τ d
        rw [hrun]; simp only [hcx, hT.cell? a, hc, hfe]
      | ok r =>
        obtain ⟨x', l⟩ := r
        obtain ⟨⟨w', hw, hT', ht, _⟩, hl, hsz, hu⟩ := hT.farStore hf
        refine ⟨0, fun _ => 0, .inr ⟨.ok () x', ?_, fun τ d _ => ?_, l.toArray.map (⟨.cell ·, true, m == .atomic⟩), fun es => ?_, ?_⟩⟩
        · rw [hrun]; simp only [hc, hw]; exact .ok ⟨rfl, trivial⟩ hT' ht (Nat.le_of_eq (by rw [← hT'.size, hsz, hT.size]))
        · rw [hrun]; simp only [hcx, hT.cell? a, hc, hu τ d]; rfl
        · rw [hevs]; simp only [hc, hw]
        · rw [hrun]; simp only [hc, hw, Result.world]
          intro e he
          simp only [List.map_toArray, List.mem_toArray, List.mem_map] at he
          obtain ⟨b, hb, rfl⟩ := he
          exact evG_cell (fun _ => hT.free (hl b hb).2) (by rw [← hT'.size, hsz]; exact (hl b hb).1)
theorem sim_new {o : Obj} : Sim P S (fun _ => True) (newObj o) := fun x w hT => ⟨0, fun _ => 0, .inr ⟨.ok x.heap.size { x with heap := x.heap.push o }, by
    simp only [newObj, Sem.run]; rw [← hT.size]; exact .ok ⟨rfl, trivial⟩ (hT.push o) rfl (by simp), fun τ d _ => rfl, #[], fun es => by simp [newObj, Sem.events, Sem.runT], by simp⟩⟩
theorem sim_shape {r : Nat} : Sim P S (fun _ => True) (shape r) := fun x w hT => ⟨0, fun _ => 0, .inr ⟨.ok (x.shape? r) x, by
    simp only [shape, Sem.run]; rw [← hT.shape? r]; exact .ok ⟨rfl, trivial⟩ hT rfl (Nat.le_refl _), fun τ d _ => rfl, #[], fun es => by simp [shape, Sem.events, Sem.runT], by simp⟩⟩
theorem sim_program : Sim P S (fun p => p = P) program := fun x w hT => ⟨0, fun _ => 0, .inr ⟨.ok P x, .ok ⟨rfl, rfl⟩ hT rfl (Nat.le_refl _), fun τ d _ => rfl, #[], fun es => by simp [program, Sem.events, Sem.runT], by simp⟩⟩
theorem sim_choose {q : Question} : Sim P S (fun _ => True) (choose q) := fun x w hT => by
  cases hq : q.forced with
  | true => exact ⟨0, fun _ => 0, .inr ⟨.ok 0 x, by simp only [choose, Sem.run, hq, if_true]; exact .ok ⟨rfl, trivial⟩ hT rfl (Nat.le_refl _), fun τ d _ => by simp only [choose, Sem.run, hq, if_true]; rfl, #[], fun es => by simp [choose, Sem.events, Sem.runT, hq], by simp⟩⟩
  | false =>
    refine ⟨1, fun _ => w.tape w.drawn q, .inr ⟨.ok (q.cut (w.tape w.drawn q)) x, ?_, fun τ d hA => ?_, #[], fun es => by simp [choose, Sem.events, Sem.runT, hq], by simp⟩⟩
    · simp only [choose, Sem.run, hq, Bool.false_eq_true, if_false]
      exact .ok ⟨rfl, trivial⟩ (hT.mvr w.tape (w.drawn + 1)) rfl (Nat.le_refl _)
    · have := hA 0 (by omega) q
      simp only [choose, Sem.run, hq, Bool.false_eq_true, if_false]
      show Result.ok (q.cut (τ d q)) _ = _
      rw [Nat.add_zero] at this
      rw [this]; rfl
end
end Go.Proofs.Ytecmobjiepgfjaa

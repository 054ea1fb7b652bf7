/- Are two addresses one? And equality of values. -/
import Derived.Test.YtecmobjiepgfjaaGoE
namespace Go.Proofs.Ytecmobjiepgfjaa
open Go.Conc
set_option linter.unusedSimpArgs false
section
variable {P : Program} {S : Prot} {α β : Type} {N : α → Prop}
/-- If the second is true, the first is. -/
def Over (a b : Bool) : Prop := b = true → a = true
/-- Work that looks only, beside a value. -/
theorem sims_still {M : α → β → Prop} {a : α} {s : Sem β} (h : ∀ w, ∃ b, s.run P w = .ok b w ∧ M a b ∧ ∀ es, s.events P w es = es) : Sims P S M (pure a) s := fun x w hT => by
  obtain ⟨b, h1, h2, h3⟩ := h w
  exact ⟨0, fun _ => 0, .inr ⟨.ok a x, by rw [h1]; exact .ok h2 hT rfl (Nat.le_refl _), fun τ d _ => rfl, #[], fun es => by rw [h3]; simp, by simp⟩⟩
/-- The first asks the tape: it is told 0. -/
theorem sims_told {M : α → β → Prop} {q : Question} {k : Nat → Sem α} {s : Sem β} (hq : q.forced = false) (h : Sims P S M (k (q.cut 0)) s) : Sims P S M (choose q >>= k) s := fun x w hT => by
  obtain ⟨n, f, hh⟩ := h x w hT
  have hrun : ∀ τ d, Agree τ d (n + 1) (fun j => if j = 0 then 0 else f (j - 1)) → (choose q >>= k).run P (under x τ d) = (k (q.cut 0)).run P (under x τ (d + 1)) ∧ Agree τ (d + 1) n f := by
    intro τ d hA
    have h0 := hA 0 (by omega) q
    simp only [Nat.add_zero, if_true] at h0
    refine ⟨?_, fun j hj q' => ?_⟩
    · rw [Sem.run_bind]
      simp only [choose, Sem.run, hq, Bool.false_eq_true, if_false]
      show (k (q.cut (τ d q))).run P _ = _
      rw [h0]; rfl
    · have := hA (j + 1) (by omega) q'
      simp only [Nat.add_sub_cancel, Nat.succ_ne_zero, if_false] at this
      rw [Nat.add_assoc, Nat.add_comm 1 j]; exact this
  rcases hh with hb | ⟨r, h1, h2, h3⟩
  · refine ⟨n + 1, fun j => if j = 0 then 0 else f (j - 1), .inl fun τ d hA => ?_⟩
    obtain ⟨e1, e2⟩ := hrun τ d hA
    rw [e1]; exact hb τ (d + 1) e2
  · refine ⟨n + 1, fun j => if j = 0 then 0 else f (j - 1), .inr ⟨r, h1, fun τ d hA => ?_, h3⟩⟩
    obtain ⟨e1, e2⟩ := hrun τ d hA
    rw [e1, h2 τ (d + 1) e2, Nat.add_assoc, Nat.add_comm 1 n]
theorem sims_stringish {a : Addr} : Sims P S Over (stringish a) (stringish a) := by
  have hz : ∀ k, Sims P S Over (frozen k) (frozen k) := fun k => by
    have := sims_frozen (P := P) (S := S) (M := Over) (a := k) (k' := pure) (k := pure) (Sims.pure id) (Sims.pure id) (Sims.pure fun _ => rfl)
    simpa using this
  have hrest : Sims P S Over (shape a.block >>= fun x => match x with | some (_, n) => frozen { block := a.block, off := n } | none => pure false) (shape a.block >>= fun x => match x with | some (_, n) => frozen { block := a.block, off := n } | none => pure false) := by
    refine Sims.bind sim_shape fun x y hxy => ?_
    obtain ⟨rfl, _⟩ := hxy
    split
    · exact hz _
    · exact Sims.pure id
  unfold stringish
  refine sims_frozen (Sims.pure id) hrest (sims_still fun w => ?_)
  have e1 : ∀ es, Sem.events P (shape a.block >>= fun x => match x with | some (_, n) => frozen { block := a.block, off := n } | none => pure false) w es = Sem.events P (match w.shape? a.block with | some (_, n) => frozen { block := a.block, off := n } | none => pure false) w es := fun _ => rfl
  have e2 : Sem.run P (shape a.block >>= fun x => match x with | some (_, n) => frozen { block := a.block, off := n } | none => pure false) w = Sem.run P (match w.shape? a.block with | some (_, n) => frozen { block := a.block, off := n } | none => pure false) w := rfl
  show ∃ b, Sem.run P (shape a.block >>= fun x => match x with | some (_, n) => frozen { block := a.block, off := n } | none => pure false) w = .ok b w ∧ Over true b ∧ ∀ es, Sem.events P (shape a.block >>= fun x => match x with | some (_, n) => frozen { block := a.block, off := n } | none => pure false) w es = es
  rw [e2]
  simp only [e1]
  cases w.shape? a.block with
  | none => exact ⟨false, rfl, fun _ => rfl, fun _ => rfl⟩
  | some v => exact ⟨w.frozen? { block := a.block, off := v.2 }, rfl, fun _ => rfl, fun _ => rfl⟩
theorem sims_mayBeOne {a b : Addr} : Sims P S Over (mayBeOne a b) (mayBeOne a b) := by
  unfold mayBeOne
  dsimp only
  refine sims_stringish.bind fun x1 y1 h1 => sims_stringish.bind fun x2 y2 h2 => ?_
  refine Sims.bind (Sim.bind (N := fun _ => True) (M := fun _ => True) sim_shape fun _ _ => Sim.pure trivial) fun u u' hu => ?_
  obtain ⟨rfl, _⟩ := hu
  refine Sims.bind (Sim.bind (N := fun _ => True) (M := fun _ => True) sim_shape fun _ _ => Sim.pure trivial) fun v v' hv => ?_
  obtain ⟨rfl, _⟩ := hv
  refine Sims.pure fun h => ?_
  cases y1 <;> cases y2 <;> cases u <;> cases v <;> simp_all [Over]
theorem sim_sameAddr {a b : Addr} : Sim P S (fun _ => True) (sameAddr a b) := by
  have hend : Sim P S (fun _ => True) (do
      noView a
      noView b
      if ← mayBeOne a b then return (← choose (.extern "sameAddr.stringBytes" 2)) == 1
      pure false : Sem Bool) := by
    refine sim_noView.bind fun _ _ => sim_noView.bind fun _ _ => sims_mayBeOne.bind fun x y h => ?_
    cases y with
    | true => obtain rfl := h rfl; exact sim_choose.bind fun n _ => Sim.pure trivial
    | false =>
      cases x with
      | false => exact Sim.pure trivial
      | true =>
        simp only [if_true, Bool.false_eq_true, if_false]
        exact sims_told rfl (Sims.pure ⟨rfl, trivial⟩)
  unfold sameAddr
  split
  · exact Sim.pure trivial
  · dsimp only
    have hd : ∀ {t : Sem Bool}, Sims P S (Eqs fun _ => True) (unsupported Unsupported.addressObserved >>= fun (_ : Unit) => (do
      noView a
      noView b
      if ← mayBeOne a b then return (← choose (.extern "sameAddr.stringBytes" 2)) == 1
      pure false : Sem Bool)) t := sims_doom fun w => ⟨_, w, rfl, trivial⟩
    refine sims_frozen (sims_frozen hd hend ?_) (sims_frozen hend hend hend) (sims_frozen ?_ hend ?_)
    · exact hd
    · exact hd
    · exact hd
end
end Go.Proofs.Ytecmobjiepgfjaa

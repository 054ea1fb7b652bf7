/- The body-less functions of sync/atomic on whole numbers meet themselves in a world that is frozen at more places. -/
import Derived.Test.YtecmobjiepgfjaaNGoI
import GoSem.Extern.Atomic
namespace Go.Proofs.Ytecmobjiepgfjaa
open Go.Conc
set_option linter.unusedSimpArgs false
set_option linter.unusedVariables false
section
variable {P : Program} {S : Prot}
theorem run_anyFrozen {g : Nat → Addr} : ∀ (l : List Nat) (w : World), (l.anyM fun i => frozen (g i)).run P w = .ok (l.any fun i => w.frozen? (g i)) w ∧ ∀ es, (l.anyM fun i => frozen (g i)).events P w es = es
  | [], w => ⟨rfl, fun _ => rfl⟩
  | i :: l, w => by
    obtain ⟨h1, h2⟩ := run_anyFrozen (g := g) l w
    have e1 : (frozen (g i)).run P w = .ok (w.frozen? (g i)) w := rfl
    have e2 : ∀ es, (frozen (g i)).events P w es = es := fun _ => rfl
    simp only [List.anyM, List.any]
    refine ⟨?_, fun es => ?_⟩
    · rw [Sem.run_bind, e1, Result.andThen_ok]
      cases w.frozen? (g i) with
      | true => rfl
      | false => exact h1
    · rw [Sem.events_bind, e1, Result.evThen_ok, e2]
      cases w.frozen? (g i) with
      | true => rfl
      | false => exact h2 es
theorem sims_anyFrozen {g : Nat → Addr} {l : List Nat} : Sims P S Over (l.anyM fun i => frozen (g i)) (l.anyM fun i => frozen (g i)) := fun x w hT => by
  refine ⟨0, fun _ => 0, .inr ⟨.ok (l.any fun i => x.frozen? (g i)) x, ?_, fun τ d _ => ?_, #[], fun es => ?_, by simp⟩⟩
  · rw [(run_anyFrozen l w).1]
    refine .ok (fun h => ?_) hT rfl (Nat.le_refl _)
    obtain ⟨i, hi, h⟩ := List.any_eq_true.1 h
    exact List.any_eq_true.2 ⟨i, hi, hT.frozen? _ h⟩
  · rw [(run_anyFrozen l _).1]; rfl
  · rw [(run_anyFrozen l w).2]; simp
theorem sims_isFrozen {a : Addr} : Sims P S Over (frozen a) (frozen a) := by
  have := sims_frozen (P := P) (S := S) (M := Over) (a := a) (k' := pure) (k := pure) (Sims.pure id) (Sims.pure id) (Sims.pure fun _ => rfl)
  simpa using this
theorem sims_touchesFrozen {a : Addr} : Sims P S Over (Extern.Atomic.touchesFrozen a) (Extern.Atomic.touchesFrozen a) := by
  unfold Extern.Atomic.touchesFrozen
  refine Sims.bind sq19 fun x y hxy => ?_
  obtain ⟨rfl, _⟩ := hxy
  split
  · exact sims_isFrozen
  · refine Sims.bind sq8 fun x y hxy => ?_
    obtain ⟨rfl, _⟩ := hxy
    dsimp only
    split
    · exact sims_doom fun w => ⟨_, _, rfl, trivial⟩
    · exact sims_anyFrozen
theorem sq143 {t : Extern.Atomic.T} {a : Addr} : Sim P S (fun _ => True) (Extern.Atomic.read t a) := by
  unfold Extern.Atomic.read
  refine Sim.bind sq12 fun v _ => ?_
  (repeat' split) <;> first | exact Sim.pure trivial | exact sq1
theorem sq160 {t : Extern.Atomic.T} {args : Array Value} : Sim P S (fun _ => True) (Extern.Atomic.loadT t args) := by
  obtain ⟨l⟩ := args
  rcases l with _ | ⟨x, _ | ⟨y, l⟩⟩ <;> first | exact sq0 | skip
  exact sq6.bind fun _ _ => sq143
theorem sq159 {args : Array Value} : Sim P S (fun _ => True) (Extern.Atomic.storeT args) := by
  obtain ⟨l⟩ := args
  rcases l with _ | ⟨x, _ | ⟨y, _ | ⟨z, l⟩⟩⟩ <;> first | exact sq0 | skip
  exact sq6.bind fun _ _ => Sim.bind sq9 fun _ _ => Sim.pure trivial
theorem sq155 {t : Extern.Atomic.T} {args : Array Value} : Sim P S (fun _ => True) (Extern.Atomic.swapT t args) := by
  obtain ⟨l⟩ := args
  rcases l with _ | ⟨x, _ | ⟨y, _ | ⟨z, l⟩⟩⟩ <;> first | exact sq0 | skip
  exact sq6.bind fun _ _ => sq143.bind fun _ _ => Sim.bind sq9 fun _ _ => Sim.pure trivial
theorem sq158 {k : IntKind} {b : Bool} {args : Array Value} : Sim P S (fun _ => True) (Extern.Atomic.update (Op.intArith .add) k b args) := by
  obtain ⟨l⟩ := args
  rcases l with _ | ⟨x, _ | ⟨y, _ | ⟨z, l⟩⟩⟩ <;> first | exact sq0 | skip
  exact sq6.bind fun _ _ => sq143.bind fun _ _ => sq10.bind fun _ _ => sq10.bind fun _ _ => sq50.bind fun _ _ => Sim.bind (N := fun _ => True) sq9 fun _ _ => Sim.pure trivial
theorem sq150 {k : IntKind} {args : Array Value} : Sim P S (fun _ => True) (Extern.Atomic.casT (.int k) args) := by
  obtain ⟨l⟩ := args
  rcases l with _ | ⟨x, _ | ⟨y, _ | ⟨z, _ | ⟨u, l⟩⟩⟩⟩ <;> first | exact sq0 | skip
  · refine sq6.bind fun a _ => Sims.bind sims_touchesFrozen fun x y hxy => ?_
    have hrest : ∀ (z : Value) (new : Value), Sim P S (fun _ => True) (do
        let eq ← match Extern.Atomic.T.int k, ← Extern.Atomic.read (.int k) a, z with
          | _, .int _ x, .int _ y => pure (x == y)
          | .ptr, .pointer x, .pointer y => samePointer x y
          | .int _, .pointer (some _), .int _ 0 | .int _, .int _ 0, .pointer (some _) => pure false
          | .int _, .pointer (some _), _ | .int _, _, .pointer (some _) => unsupported .addressObserved
          | _, _, _ => stuck "atomic.CompareAndSwap: old is no T"
        if eq then store a new .atomic
        pure (Value.bool eq)) := fun z new => by
      refine sq143.bind fun v _ => ?_
      have hk : ∀ eq : Bool, Sim P S (fun _ => True) (if eq = true then (store a new .atomic >>= fun _ => pure (Value.bool eq)) else pure (Value.bool eq)) := fun eq => by
        split
        · exact Sim.bind sq9 fun _ _ => Sim.pure trivial
        · exact Sim.pure trivial
      dsimp only
      (repeat' split) <;> first | exact Sim.bind (N := fun _ => True) (Sim.pure trivial) fun eq _ => hk eq | exact Sim.bind (N := fun _ => True) sq1 fun eq _ => hk eq | exact Sim.bind (N := fun _ => True) sq0 fun eq _ => hk eq | exact Sim.bind (N := fun _ => True) sq71 fun eq _ => hk eq
    cases x with
    | true => exact sims_doom fun w => ⟨_, _, rfl, trivial⟩
    | false =>
      cases y with
      | true => cases hxy rfl
      | false => exact hrest _ _
theorem sq162 {t : TypeId} {size : Value} : Sim P S (fun _ => True) (Instr.makeChan t size) := by
  unfold Instr.makeChan
  refine sq10.bind fun n _ => sq4.bind fun u _ => ?_
  split
  · refine Sim.bind sq8 fun i _ => ?_
    dsimp only
    split
    · exact Sim.bind (N := fun _ => True) sq13 fun _ _ => Sim.bind sq14 fun _ _ => Sim.pure trivial
    · exact Sim.bind sq14 fun _ _ => Sim.pure trivial
  · exact sq0
end
end Go.Proofs.Ytecmobjiepgfjaa

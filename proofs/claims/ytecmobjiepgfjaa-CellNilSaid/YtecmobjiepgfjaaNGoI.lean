/- The model's operations, on: each meets itself in a world that is frozen at more places. Printed by gen_gog.py. -/
import Derived.Test.YtecmobjiepgfjaaNGoH
namespace Go.Proofs.Ytecmobjiepgfjaa
open Go.Conc
set_option linter.unusedSimpArgs false
set_option linter.unusedVariables false
section
variable {P : Program} {S : Prot} {α σ : Type}
theorem mayShare_ok {m s n : Nat} {b : Option Addr} {x : Value} (w : World) : ∃ r, (Builtin.mayShare m s n b x).run P w = .ok r w := by
  have hh : ∀ (a : Addr) (k : Nat) (w : World), ∃ r, (Builtin.holdsCells a k).run P w = .ok r w := by
    intro a k w
    unfold Builtin.holdsCells
    cases e : w.shape? a.block with
    | none => exact ⟨false, by simp [shape, Sem.run, e]⟩
    | some v => exact ⟨a.spot.isNone && a.off + k ≤ v.2, by simp [shape, Sem.run, e]⟩
  have hj : ∀ (there : Bool) (w : World), ∃ r, Sem.run P (if (!there) = true then pure true else match x with | .slice (some b') _ _ => (do pure (!(← Builtin.holdsCells b' (n * m)) || b.any (·.block == b'.block))) | _ => pure false) w = .ok r w := by
    intro there w
    cases there with
    | false => exact ⟨true, rfl⟩
    | true =>
      simp only [Bool.not_true, Bool.false_eq_true, if_false]
      split
      · rename_i b' _ _
        obtain ⟨r, hr⟩ := hh b' (n * m) w
        exact ⟨_, by rw [Sem.run_bind, hr]; rfl⟩
      · exact ⟨false, rfl⟩
  unfold Builtin.mayShare
  dsimp only
  cases b with
  | none => exact hj true w
  | some a =>
    obtain ⟨r, hr⟩ := hh a (s * m) w
    dsimp only
    rw [Sem.run_bind, hr, Result.andThen_ok, Sem.run_bind]
    show ∃ q, Sem.run P _ w = .ok q w
    exact hj _ w
theorem sq166 {m s n : Nat} {b : Option Addr} {x : Value} {u : String} {γ : Type} : Sim P S (fun (_ : γ) => True) (Builtin.mayShare m s n b x >>= fun r => if (!r) = true then (mark .noRoom >>= fun _ => unsupported (.resourceLimit u)) else unsupported (.resourceLimit u)) := by
  refine sims_doom fun w => ?_
  obtain ⟨r, hr⟩ := mayShare_ok (P := P) (m := m) (s := s) (n := n) (b := b) (x := x) w
  rw [Sem.run_bind, hr]
  cases r with
  | true => exact ⟨_, w, rfl, trivial⟩
  | false => exact ⟨_, w, rfl, trivial⟩
set_option maxHeartbeats 4000000 in
theorem sq163 {ts : Array TypeId} {t : TypeId} {a : Array Value} : Sim P S (fun _ => True) (Builtin.append_ ts t a) := by
  unfold Builtin.append_
  repeat' first | (with_reducible first | exact Sim.pure trivial | exact sq0 | exact sq1 | exact sq3 | exact sq13 | exact sq166 | exact sq7' | exact sq17 (hS _) | exact sq2' | exact sq12 | exact sq9 | exact sq14 | exact sq5 | exact sq20 | exact sq41 | exact sq8 | exact sq4 | exact sq38 | exact sq11 | exact sq21 | exact sq30 | exact sq15 _ _ | exact sq24 | exact sq35 | exact sq23 | exact sq16 | exact sq18 | exact sq28 | exact sq19 | exact sq37 | exact sq42 | exact sq22 | exact sq26 | exact sq34 | exact sq33 | exact sq25 | exact sq10 | exact sq6 | exact sq36 | exact sq32 | exact sq43 | exact sq44 | exact sq45 | exact sq46 | exact sq47 | exact sq48 | exact sq49 | exact sq50 | exact sq51 | exact sq52 | exact sq53 | exact sq54 | exact sq55 | exact sq57 | exact sq58 | exact sq59 | exact sq56 | exact sq60 | exact sq62 | exact sq64 | exact sq61 | exact sq65 | exact sq63 | exact sq66 | exact sq67 | exact sq68 | exact sq70 | exact sq69 | exact sq71 | exact sq73 | exact sq72 _ _ _ _ | exact sq75 | exact sq74 _ _ _ _ | exact sq76 | exact sq77 | exact sq78 | exact sq79 | exact sq80 | exact sq81 | exact sq82 | exact sq83 | exact sq84 | exact sq85 | exact sq86 | exact sq87 | exact sq88 | exact sq89 | exact sq90 | exact sq91 | exact sq92 | exact sq93 | exact sq94 | exact sq95 | exact sq96 | exact sq97 | exact sq98 | exact sq99 | exact sq100 | exact sq101 | exact sq102 | exact sq103 | exact sq104 | exact sq105 | exact sq106 | exact sq107 | exact sq108 | exact sq109 | exact sq111 | exact sq110 | exact sq113 | exact sq115 | exact sq114 | exact sq116 | exact sq117 | exact sq118 | exact sq119 | exact sq121 | exact sq120 _ _ _ | exact sq122 _ _ | exact sq123 | exact sq124 | exact sq126 | exact sq125 hS | exact sq127 hS | exact sq128 hS | exact sq129 | exact sq130 hS | exact sq131 | exact sq132 | exact sq133 | exact sq134 | exact sq135 | exact sq137 | exact sq136 | exact sq138 | exact sq139 | exact sq141 | exact sq140 | exact sq145 | exact sq146 | exact sq154 hS | refine Sim.bind (N := fun _ => True) ?_ fun _ _ => ?_ | refine sq39 ?_ | refine sq31 (fun _ _ => ?_) _ _ | refine sq40 (fun _ _ => ?_) _ _ | refine sq29 (fun _ => ?_) _ | refine sq27 (fun _ _ => ?_) _ _) | split | dsimp only | (rename_i z hz; revert hz; cases z <;> intro _ <;> simp only [if_true, Bool.false_eq_true, if_false, Bool.not_true, Bool.not_false, true_or, false_or, and_true])
end
end Go.Proofs.Ytecmobjiepgfjaa

/- The model's operations, on: each meets itself in a world that is frozen at more places. Printed by gen_gog.py. -/
import Derived.Test.YtecmobjiepgfjaaPGoH
namespace Go.Proofs.Ytecmobjiepgfjaa
open Go.Conc
set_option linter.unusedSimpArgs false
set_option linter.unusedVariables false
section
variable {P : Program} {S : Prot} {α σ : Type}
theorem mayShare_ok {m s n : Nat} {b : Option Addr} {x : Value} (w : World) : ∃ r, (Builtin.mayShare m s n b x).run P w = .ok r w := by
  have hh : ∀ (a : Addr) (k : Nat) (w : World), ∃ r, (Builtin.holdsCells a k).run P w = .ok r w := by
    intro a k w
    unfold Builtin.holdsCells
    cases e : w.shape? a.block with
    | none => exact ⟨false, by simp [shape, Sem.run, e]⟩
    | some v => exact ⟨a.spot.isNone && a.off + k ≤ v.2, by simp [shape, Sem.run, e]⟩
  have hj : ∀ (there : Bool) (w : World), ∃ r, Sem.run P (if (!there) = true then pure true else match x with | .slice (some b') _ _ => (do pure (!(← Builtin.holdsCells b' (n * m)) || b.any (·.block == b'.block))) | _ => pure false) w = .ok r w := by
    intro there w
    cases there with
    | false => exact ⟨true, rfl⟩
    | true =>
      simp only [Bool.not_true, Bool.false_eq_true, if_false]
      split
      · rename_i b' _ _
        obtain ⟨r, hr⟩ := hh b' (n * m) w
        exact ⟨_, by rw [Sem.run_bind, hr]; rfl⟩
      · exact ⟨false, rfl⟩
  unfold Builtin.mayShare
  dsimp only
  cases b with
  | none => exact hj true w
  | some a =>
    obtain ⟨r, hr⟩ := hh a (s * m) w
    dsimp only
    rw [Sem.run_bind, hr, Result.andThen_ok, Sem.run_bind]
    show ∃ q, Sem.run P _ w = .ok q w
    exact hj _ w
theorem sim_shareDoom {m s n : Nat} {b : Option Addr} {x : Value} {u : String} {γ : Type} : Sim P S (fun (_ : γ) => True) (Builtin.mayShare m s n b x >>= fun r => if (!r) = true then (mark .noRoom >>= fun _ => unsupported (.resourceLimit u)) else unsupported (.resourceLimit u)) := by
  refine sims_doom fun w => ?_
  obtain ⟨r, hr⟩ := mayShare_ok (P := P) (m := m) (s := s) (n := n) (b := b) (x := x) w
  rw [Sem.run_bind, hr]
  cases r with
  | true => exact ⟨_, w, rfl, trivial⟩
  | false => exact ⟨_, w, rfl, trivial⟩
set_option maxHeartbeats 4000000 in
theorem sim_append {ts : Array TypeId} {t : TypeId} {a : Array Value} : Sim P S (fun _ => True) (Builtin.append_ ts t a) := by
  unfold Builtin.append_
  repeat' first
    | with_reducible exact Sim.pure trivial
    | with_reducible exact sim_stuck
    | with_reducible exact sim_unsupported
    | with_reducible exact sim_panic
    | with_reducible exact sim_runtimePanic
    | with_reducible exact sim_shareDoom
    | with_reducible exact sim_getObj'
    | with_reducible exact sim_setObj (hS _)
    | with_reducible exact sim_program'
    | with_reducible exact sim_load
    | with_reducible exact sim_store
    | with_reducible exact sim_new
    | with_reducible exact sim_shape
    | with_reducible exact sim_choose
    | with_reducible exact sim_askRoom
    | with_reducible exact sim_typeInfo
    | with_reducible exact sim_underlying
    | with_reducible exact sim_zeroValue
    | with_reducible exact sim_sizeOf
    | with_reducible exact sim_isAgg
    | with_reducible exact sim_loadCells
    | with_reducible exact sim_storeCells _ _
    | with_reducible exact sim_loadVar
    | with_reducible exact sim_storeVar
    | with_reducible exact sim_newRow
    | with_reducible exact sim_newVar
    | with_reducible exact sim_elemOf
    | with_reducible exact sim_part
    | with_reducible exact sim_viewAt
    | with_reducible exact sim_numberAt
    | with_reducible exact sim_cellsIn
    | with_reducible exact sim_noView
    | with_reducible exact sim_asBool
    | with_reducible exact sim_asString
    | with_reducible exact sim_asAgg
    | with_reducible exact sim_asIntOf
    | with_reducible exact sim_asInt
    | with_reducible exact sim_asAddr
    | with_reducible exact sim_sameAddr
    | with_reducible exact sim_freeze
    | with_reducible exact sim_markStringish
    | with_reducible exact sim_asNumber
    | with_reducible exact sim_behindNumber
    | with_reducible exact sim_byteOf
    | with_reducible exact sim_partAt
    | with_reducible exact sim_fieldPlace
    | with_reducible exact sim_boundsPanic
    | with_reducible exact sim_intArith
    | with_reducible exact sim_intDiv
    | with_reducible exact sim_intBits
    | with_reducible exact sim_shift
    | with_reducible exact sim_intCmp
    | with_reducible exact sim_stringOp
    | with_reducible exact sim_floatArith
    | with_reducible exact sim_floatCmp
    | with_reducible exact sim_floatToFloat
    | with_reducible exact sim_carith
    | with_reducible exact sim_ccmp
    | with_reducible exact sim_cconv
    | with_reducible exact sim_cadd
    | with_reducible exact sim_csub
    | with_reducible exact sim_cmul
    | with_reducible exact sim_cquo
    | with_reducible exact sim_cproduct
    | with_reducible exact sim_ccorrected
    | with_reducible exact sim_cquotient
    | with_reducible exact sim_complexOp
    | with_reducible exact sim_unary
    | with_reducible exact sim_samePointer
    | with_reducible exact sim_typeStr
    | with_reducible exact sim_equalIn _ _ _ _
    | with_reducible exact sim_equal
    | with_reducible exact sim_eqGuardIn _ _ _ _
    | with_reducible exact sim_eqGuard
    | with_reducible exact sim_unsafeAdd
    | with_reducible exact sim_movedNumber
    | with_reducible exact sim_movedPointer
    | with_reducible exact sim_twoPlaces
    | with_reducible exact sim_addrSub
    | with_reducible exact sim_addrCmp
    | with_reducible exact sim_addrMod
    | with_reducible exact sim_binOp
    | with_reducible exact sim_stringToBytes
    | with_reducible exact sim_stringToRunes
    | with_reducible exact sim_bytesToString
    | with_reducible exact sim_runesToString
    | with_reducible exact sim_intToInt
    | with_reducible exact sim_intToFloat
    | with_reducible exact sim_intToString
    | with_reducible exact sim_floatToInt
    | with_reducible exact sim_complexToComplex
    | with_reducible exact sim_backFromNumber
    | with_reducible exact sim_variablesAt
    | with_reducible exact sim_seenAt
    | with_reducible exact sim_unsafePointer
    | with_reducible exact sim_convert
    | with_reducible exact sim_alloc
    | with_reducible exact sim_box
    | with_reducible exact sim_build
    | with_reducible exact sim_buildSlice
    | with_reducible exact sim_sureAddr
    | with_reducible exact sim_loadAt
    | with_reducible exact sim_storeAt
    | with_reducible exact sim_fieldAt
    | with_reducible exact sim_indexAt
    | with_reducible exact sim_sliceBound
    | with_reducible exact sim_sliceBounds
    | with_reducible exact sim_slice
    | with_reducible exact sim_sliceAt
    | with_reducible exact sim_arrayAt
    | with_reducible exact sim_waits
    | with_reducible exact sim_makeInterface
    | with_reducible exact sim_makeFunc
    | with_reducible exact sim_makeMap
    | with_reducible exact sim_makeSlice
    | with_reducible exact sim_field
    | with_reducible exact sim_index
    | with_reducible exact sim_checkKey _ _ _
    | with_reducible exact sim_findAsking _ _
    | with_reducible exact sim_findKey
    | with_reducible exact sim_lookup
    | with_reducible exact sim_keyThatStays
    | with_reducible exact sim_mapUpdate hS
    | with_reducible exact sim_mapEntry hS
    | with_reducible exact sim_entryStore hS
    | with_reducible exact sim_range
    | with_reducible exact sim_next hS
    | with_reducible exact sim_entry
    | with_reducible exact sim_typeAssert
    | with_reducible exact sim_extract
    | with_reducible exact sim_holdsCells
    | with_reducible exact sim_lenOf
    | with_reducible exact sim_firstCells
    | with_reducible exact sim_cap
    | with_reducible exact sim_len
    | with_reducible exact sim_copy
    | with_reducible exact sim_max2
    | with_reducible exact sim_max
    | with_reducible exact sim_min2
    | with_reducible exact sim_min
    | with_reducible exact sim_delete hS
    | with_reducible refine Sim.bind (N := fun _ => True) ?_ fun _ _ => ?_
    | with_reducible refine sim_map ?_
    | with_reducible refine sim_forInA (fun _ _ => ?_) _ _
    | with_reducible refine sim_forInR (fun _ _ => ?_) _ _
    | with_reducible refine sim_mapA (fun _ => ?_) _
    | with_reducible refine sim_foldL (fun _ _ => ?_) _ _
    | split
    | dsimp only
    | (rename_i z hz; revert hz; cases z <;> intro _ <;> simp only [if_true, Bool.false_eq_true, if_false, Bool.not_true, Bool.not_false, true_or, false_or, and_true])
end
end Go.Proofs.Ytecmobjiepgfjaa

/- The model's operations, on: each meets itself in a world that is frozen at more places. Printed by gen_gog.py. -/
import Derived.Test.YtecmobjiepgfjaaPGoG
namespace Go.Proofs.Ytecmobjiepgfjaa
open Go.Conc
set_option linter.unusedSimpArgs false
set_option linter.unusedVariables false
section
variable {P : Program} {S : Prot} {α σ : Type}
theorem sim_stringToBytes {t : TypeId} {s : ByteArray} : Sim P S (fun _ => True) (Conv.stringToBytes t s) := by
  unfold Conv.stringToBytes
  repeat' first
    | with_reducible exact Sim.pure trivial
    | with_reducible exact sim_stuck
    | with_reducible exact sim_unsupported
    | with_reducible exact sim_panic
    | with_reducible exact sim_runtimePanic
    | with_reducible exact sim_getObj'
    | with_reducible exact sim_setObj (hS _)
    | with_reducible exact sim_program'
    | with_reducible exact sim_load
    | with_reducible exact sim_store
    | with_reducible exact sim_new
    | with_reducible exact sim_shape
    | with_reducible exact sim_choose
    | with_reducible exact sim_askRoom
    | with_reducible exact sim_typeInfo
    | with_reducible exact sim_underlying
    | with_reducible exact sim_zeroValue
    | with_reducible exact sim_sizeOf
    | with_reducible exact sim_isAgg
    | with_reducible exact sim_loadCells
    | with_reducible exact sim_storeCells _ _
    | with_reducible exact sim_loadVar
    | with_reducible exact sim_storeVar
    | with_reducible exact sim_newRow
    | with_reducible exact sim_newVar
    | with_reducible exact sim_elemOf
    | with_reducible exact sim_part
    | with_reducible exact sim_viewAt
    | with_reducible exact sim_numberAt
    | with_reducible exact sim_cellsIn
    | with_reducible exact sim_noView
    | with_reducible exact sim_asBool
    | with_reducible exact sim_asString
    | with_reducible exact sim_asAgg
    | with_reducible exact sim_asIntOf
    | with_reducible exact sim_asInt
    | with_reducible exact sim_asAddr
    | with_reducible exact sim_sameAddr
    | with_reducible exact sim_freeze
    | with_reducible exact sim_markStringish
    | with_reducible exact sim_asNumber
    | with_reducible exact sim_behindNumber
    | with_reducible exact sim_byteOf
    | with_reducible exact sim_partAt
    | with_reducible exact sim_fieldPlace
    | with_reducible exact sim_boundsPanic
    | with_reducible exact sim_intArith
    | with_reducible exact sim_intDiv
    | with_reducible exact sim_intBits
    | with_reducible exact sim_shift
    | with_reducible exact sim_intCmp
    | with_reducible exact sim_stringOp
    | with_reducible exact sim_floatArith
    | with_reducible exact sim_floatCmp
    | with_reducible exact sim_floatToFloat
    | with_reducible exact sim_carith
    | with_reducible exact sim_ccmp
    | with_reducible exact sim_cconv
    | with_reducible exact sim_cadd
    | with_reducible exact sim_csub
    | with_reducible exact sim_cmul
    | with_reducible exact sim_cquo
    | with_reducible exact sim_cproduct
    | with_reducible exact sim_ccorrected
    | with_reducible exact sim_cquotient
    | with_reducible exact sim_complexOp
    | with_reducible exact sim_unary
    | with_reducible exact sim_samePointer
    | with_reducible exact sim_typeStr
    | with_reducible exact sim_equalIn _ _ _ _
    | with_reducible exact sim_equal
    | with_reducible exact sim_eqGuardIn _ _ _ _
    | with_reducible exact sim_eqGuard
    | with_reducible exact sim_unsafeAdd
    | with_reducible exact sim_movedNumber
    | with_reducible exact sim_movedPointer
    | with_reducible exact sim_twoPlaces
    | with_reducible exact sim_addrSub
    | with_reducible exact sim_addrCmp
    | with_reducible exact sim_addrMod
    | with_reducible exact sim_binOp
    | with_reducible refine Sim.bind (N := fun _ => True) ?_ fun _ _ => ?_
    | with_reducible refine sim_map ?_
    | with_reducible refine sim_forInA (fun _ _ => ?_) _ _
    | with_reducible refine sim_forInR (fun _ _ => ?_) _ _
    | with_reducible refine sim_mapA (fun _ => ?_) _
    | with_reducible refine sim_foldL (fun _ _ => ?_) _ _
    | split
    | dsimp only

theorem sim_stringToRunes {t : TypeId} {s : ByteArray} : Sim P S (fun _ => True) (Conv.stringToRunes t s) := by
  unfold Conv.stringToRunes
  repeat' first
    | with_reducible exact Sim.pure trivial
    | with_reducible exact sim_stuck
    | with_reducible exact sim_unsupported
    | with_reducible exact sim_panic
    | with_reducible exact sim_runtimePanic
    | with_reducible exact sim_getObj'
    | with_reducible exact sim_setObj (hS _)
    | with_reducible exact sim_program'
    | with_reducible exact sim_load
    | with_reducible exact sim_store
    | with_reducible exact sim_new
    | with_reducible exact sim_shape
    | with_reducible exact sim_choose
    | with_reducible exact sim_askRoom
    | with_reducible exact sim_typeInfo
    | with_reducible exact sim_underlying
    | with_reducible exact sim_zeroValue
    | with_reducible exact sim_sizeOf
    | with_reducible exact sim_isAgg
    | with_reducible exact sim_loadCells
    | with_reducible exact sim_storeCells _ _
    | with_reducible exact sim_loadVar
    | with_reducible exact sim_storeVar
    | with_reducible exact sim_newRow
    | with_reducible exact sim_newVar
    | with_reducible exact sim_elemOf
    | with_reducible exact sim_part
    | with_reducible exact sim_viewAt
    | with_reducible exact sim_numberAt
    | with_reducible exact sim_cellsIn
    | with_reducible exact sim_noView
    | with_reducible exact sim_asBool
    | with_reducible exact sim_asString
    | with_reducible exact sim_asAgg
    | with_reducible exact sim_asIntOf
    | with_reducible exact sim_asInt
    | with_reducible exact sim_asAddr
    | with_reducible exact sim_sameAddr
    | with_reducible exact sim_freeze
    | with_reducible exact sim_markStringish
    | with_reducible exact sim_asNumber
    | with_reducible exact sim_behindNumber
    | with_reducible exact sim_byteOf
    | with_reducible exact sim_partAt
    | with_reducible exact sim_fieldPlace
    | with_reducible exact sim_boundsPanic
    | with_reducible exact sim_intArith
    | with_reducible exact sim_intDiv
    | with_reducible exact sim_intBits
    | with_reducible exact sim_shift
    | with_reducible exact sim_intCmp
    | with_reducible exact sim_stringOp
    | with_reducible exact sim_floatArith
    | with_reducible exact sim_floatCmp
    | with_reducible exact sim_floatToFloat
    | with_reducible exact sim_carith
    | with_reducible exact sim_ccmp
    | with_reducible exact sim_cconv
    | with_reducible exact sim_cadd
    | with_reducible exact sim_csub
    | with_reducible exact sim_cmul
    | with_reducible exact sim_cquo
    | with_reducible exact sim_cproduct
    | with_reducible exact sim_ccorrected
    | with_reducible exact sim_cquotient
    | with_reducible exact sim_complexOp
    | with_reducible exact sim_unary
    | with_reducible exact sim_samePointer
    | with_reducible exact sim_typeStr
    | with_reducible exact sim_equalIn _ _ _ _
    | with_reducible exact sim_equal
    | with_reducible exact sim_eqGuardIn _ _ _ _
    | with_reducible exact sim_eqGuard
    | with_reducible exact sim_unsafeAdd
    | with_reducible exact sim_movedNumber
    | with_reducible exact sim_movedPointer
    | with_reducible exact sim_twoPlaces
    | with_reducible exact sim_addrSub
    | with_reducible exact sim_addrCmp
    | with_reducible exact sim_addrMod
    | with_reducible exact sim_binOp
    | with_reducible exact sim_stringToBytes
    | with_reducible refine Sim.bind (N := fun _ => True) ?_ fun _ _ => ?_
    | with_reducible refine sim_map ?_
    | with_reducible refine sim_forInA (fun _ _ => ?_) _ _
    | with_reducible refine sim_forInR (fun _ _ => ?_) _ _
    | with_reducible refine sim_mapA (fun _ => ?_) _
    | with_reducible refine sim_foldL (fun _ _ => ?_) _ _
    | split
    | dsimp only

theorem sim_bytesToString {v : Value} : Sim P S (fun _ => True) (Conv.bytesToString v) := by
  unfold Conv.bytesToString
  repeat' first
    | with_reducible exact Sim.pure trivial
    | with_reducible exact sim_stuck
    | with_reducible exact sim_unsupported
    | with_reducible exact sim_panic
    | with_reducible exact sim_runtimePanic
    | with_reducible exact sim_getObj'
    | with_reducible exact sim_setObj (hS _)
    | with_reducible exact sim_program'
    | with_reducible exact sim_load
    | with_reducible exact sim_store
    | with_reducible exact sim_new
    | with_reducible exact sim_shape
    | with_reducible exact sim_choose
    | with_reducible exact sim_askRoom
    | with_reducible exact sim_typeInfo
    | with_reducible exact sim_underlying
    | with_reducible exact sim_zeroValue
    | with_reducible exact sim_sizeOf
    | with_reducible exact sim_isAgg
    | with_reducible exact sim_loadCells
    | with_reducible exact sim_storeCells _ _
    | with_reducible exact sim_loadVar
    | with_reducible exact sim_storeVar
    | with_reducible exact sim_newRow
    | with_reducible exact sim_newVar
    | with_reducible exact sim_elemOf
    | with_reducible exact sim_part
    | with_reducible exact sim_viewAt
    | with_reducible exact sim_numberAt
    | with_reducible exact sim_cellsIn
    | with_reducible exact sim_noView
    | with_reducible exact sim_asBool
    | with_reducible exact sim_asString
    | with_reducible exact sim_asAgg
    | with_reducible exact sim_asIntOf
    | with_reducible exact sim_asInt
    | with_reducible exact sim_asAddr
    | with_reducible exact sim_sameAddr
    | with_reducible exact sim_freeze
    | with_reducible exact sim_markStringish
    | with_reducible exact sim_asNumber
    | with_reducible exact sim_behindNumber
    | with_reducible exact sim_byteOf
    | with_reducible exact sim_partAt
    | with_reducible exact sim_fieldPlace
    | with_reducible exact sim_boundsPanic
    | with_reducible exact sim_intArith
    | with_reducible exact sim_intDiv
    | with_reducible exact sim_intBits
    | with_reducible exact sim_shift
    | with_reducible exact sim_intCmp
    | with_reducible exact sim_stringOp
    | with_reducible exact sim_floatArith
    | with_reducible exact sim_floatCmp
    | with_reducible exact sim_floatToFloat
    | with_reducible exact sim_carith
    | with_reducible exact sim_ccmp
    | with_reducible exact sim_cconv
    | with_reducible exact sim_cadd
    | with_reducible exact sim_csub
    | with_reducible exact sim_cmul
    | with_reducible exact sim_cquo
    | with_reducible exact sim_cproduct
    | with_reducible exact sim_ccorrected
    | with_reducible exact sim_cquotient
    | with_reducible exact sim_complexOp
    | with_reducible exact sim_unary
    | with_reducible exact sim_samePointer
    | with_reducible exact sim_typeStr
    | with_reducible exact sim_equalIn _ _ _ _
    | with_reducible exact sim_equal
    | with_reducible exact sim_eqGuardIn _ _ _ _
    | with_reducible exact sim_eqGuard
    | with_reducible exact sim_unsafeAdd
    | with_reducible exact sim_movedNumber
    | with_reducible exact sim_movedPointer
    | with_reducible exact sim_twoPlaces
    | with_reducible exact sim_addrSub
    | with_reducible exact sim_addrCmp
    | with_reducible exact sim_addrMod
    | with_reducible exact sim_binOp
    | with_reducible exact sim_stringToBytes
    | with_reducible exact sim_stringToRunes
    | with_reducible refine Sim.bind (N := fun _ => True) ?_ fun _ _ => ?_
    | with_reducible refine sim_map ?_
    | with_reducible refine sim_forInA (fun _ _ => ?_) _ _
    | with_reducible refine sim_forInR (fun _ _ => ?_) _ _
    | with_reducible refine sim_mapA (fun _ => ?_) _
    | with_reducible refine sim_foldL (fun _ _ => ?_) _ _
    | split
    | dsimp only

theorem sim_runesToString {v : Value} : Sim P S (fun _ => True) (Conv.runesToString v) := by
  unfold Conv.runesToString
  repeat' first
    | with_reducible exact Sim.pure trivial
    | with_reducible exact sim_stuck
    | with_reducible exact sim_unsupported
    | with_reducible exact sim_panic
    | with_reducible exact sim_runtimePanic
    | with_reducible exact sim_getObj'
    | with_reducible exact sim_setObj (hS _)
    | with_reducible exact sim_program'
    | with_reducible exact sim_load
    | with_reducible exact sim_store
    | with_reducible exact sim_new
    | with_reducible exact sim_shape
    | with_reducible exact sim_choose
    | with_reducible exact sim_askRoom
    | with_reducible exact sim_typeInfo
    | with_reducible exact sim_underlying
    | with_reducible exact sim_zeroValue
    | with_reducible exact sim_sizeOf
    | with_reducible exact sim_isAgg
    | with_reducible exact sim_loadCells
    | with_reducible exact sim_storeCells _ _
    | with_reducible exact sim_loadVar
    | with_reducible exact sim_storeVar
    | with_reducible exact sim_newRow
    | with_reducible exact sim_newVar
    | with_reducible exact sim_elemOf
    | with_reducible exact sim_part
    | with_reducible exact sim_viewAt
    | with_reducible exact sim_numberAt
    | with_reducible exact sim_cellsIn
    | with_reducible exact sim_noView
    | with_reducible exact sim_asBool
    | with_reducible exact sim_asString
    | with_reducible exact sim_asAgg
    | with_reducible exact sim_asIntOf
    | with_reducible exact sim_asInt
    | with_reducible exact sim_asAddr
    | with_reducible exact sim_sameAddr
    | with_reducible exact sim_freeze
    | with_reducible exact sim_markStringish
    | with_reducible exact sim_asNumber
    | with_reducible exact sim_behindNumber
    | with_reducible exact sim_byteOf
    | with_reducible exact sim_partAt
    | with_reducible exact sim_fieldPlace
    | with_reducible exact sim_boundsPanic
    | with_reducible exact sim_intArith
    | with_reducible exact sim_intDiv
    | with_reducible exact sim_intBits
    | with_reducible exact sim_shift
    | with_reducible exact sim_intCmp
    | with_reducible exact sim_stringOp
    | with_reducible exact sim_floatArith
    | with_reducible exact sim_floatCmp
    | with_reducible exact sim_floatToFloat
    | with_reducible exact sim_carith
    | with_reducible exact sim_ccmp
    | with_reducible exact sim_cconv
    | with_reducible exact sim_cadd
    | with_reducible exact sim_csub
    | with_reducible exact sim_cmul
    | with_reducible exact sim_cquo
    | with_reducible exact sim_cproduct
    | with_reducible exact sim_ccorrected
    | with_reducible exact sim_cquotient
    | with_reducible exact sim_complexOp
    | with_reducible exact sim_unary
    | with_reducible exact sim_samePointer
    | with_reducible exact sim_typeStr
    | with_reducible exact sim_equalIn _ _ _ _
    | with_reducible exact sim_equal
    | with_reducible exact sim_eqGuardIn _ _ _ _
    | with_reducible exact sim_eqGuard
    | with_reducible exact sim_unsafeAdd
    | with_reducible exact sim_movedNumber
    | with_reducible exact sim_movedPointer
    | with_reducible exact sim_twoPlaces
    | with_reducible exact sim_addrSub
    | with_reducible exact sim_addrCmp
    | with_reducible exact sim_addrMod
    | with_reducible exact sim_binOp
    | with_reducible exact sim_stringToBytes
    | with_reducible exact sim_stringToRunes
    | with_reducible exact sim_bytesToString
    | with_reducible refine Sim.bind (N := fun _ => True) ?_ fun _ _ => ?_
    | with_reducible refine sim_map ?_
    | with_reducible refine sim_forInA (fun _ _ => ?_) _ _
    | with_reducible refine sim_forInR (fun _ _ => ?_) _ _
    | with_reducible refine sim_mapA (fun _ => ?_) _
    | with_reducible refine sim_foldL (fun _ _ => ?_) _ _
    | split
    | dsimp only

theorem sim_intToInt {k : IntKind} {n : Int} : Sim P S (fun _ => True) (Conv.intToInt k n) := by
  unfold Conv.intToInt
  repeat' first
    | with_reducible exact Sim.pure trivial
    | with_reducible exact sim_stuck
    | with_reducible exact sim_unsupported
    | with_reducible exact sim_panic
    | with_reducible exact sim_runtimePanic
    | with_reducible exact sim_getObj'
    | with_reducible exact sim_setObj (hS _)
    | with_reducible exact sim_program'
    | with_reducible exact sim_load
    | with_reducible exact sim_store
    | with_reducible exact sim_new
    | with_reducible exact sim_shape
    | with_reducible exact sim_choose
    | with_reducible exact sim_askRoom
    | with_reducible exact sim_typeInfo
    | with_reducible exact sim_underlying
    | with_reducible exact sim_zeroValue
    | with_reducible exact sim_sizeOf
    | with_reducible exact sim_isAgg
    | with_reducible exact sim_loadCells
    | with_reducible exact sim_storeCells _ _
    | with_reducible exact sim_loadVar
    | with_reducible exact sim_storeVar
    | with_reducible exact sim_newRow
    | with_reducible exact sim_newVar
    | with_reducible exact sim_elemOf
    | with_reducible exact sim_part
    | with_reducible exact sim_viewAt
    | with_reducible exact sim_numberAt
    | with_reducible exact sim_cellsIn
    | with_reducible exact sim_noView
    | with_reducible exact sim_asBool
    | with_reducible exact sim_asString
    | with_reducible exact sim_asAgg
    | with_reducible exact sim_asIntOf
    | with_reducible exact sim_asInt
    | with_reducible exact sim_asAddr
    | with_reducible exact sim_sameAddr
    | with_reducible exact sim_freeze
    | with_reducible exact sim_markStringish
    | with_reducible exact sim_asNumber
    | with_reducible exact sim_behindNumber
    | with_reducible exact sim_byteOf
    | with_reducible exact sim_partAt
    | with_reducible exact sim_fieldPlace
    | with_reducible exact sim_boundsPanic
    | with_reducible exact sim_intArith
    | with_reducible exact sim_intDiv
    | with_reducible exact sim_intBits
    | with_reducible exact sim_shift
    | with_reducible exact sim_intCmp
    | with_reducible exact sim_stringOp
    | with_reducible exact sim_floatArith
    | with_reducible exact sim_floatCmp
    | with_reducible exact sim_floatToFloat
    | with_reducible exact sim_carith
    | with_reducible exact sim_ccmp
    | with_reducible exact sim_cconv
    | with_reducible exact sim_cadd
    | with_reducible exact sim_csub
    | with_reducible exact sim_cmul
    | with_reducible exact sim_cquo
    | with_reducible exact sim_cproduct
    | with_reducible exact sim_ccorrected
    | with_reducible exact sim_cquotient
    | with_reducible exact sim_complexOp
    | with_reducible exact sim_unary
    | with_reducible exact sim_samePointer
    | with_reducible exact sim_typeStr
    | with_reducible exact sim_equalIn _ _ _ _
    | with_reducible exact sim_equal
    | with_reducible exact sim_eqGuardIn _ _ _ _
    | with_reducible exact sim_eqGuard
    | with_reducible exact sim_unsafeAdd
    | with_reducible exact sim_movedNumber
    | with_reducible exact sim_movedPointer
    | with_reducible exact sim_twoPlaces
    | with_reducible exact sim_addrSub
    | with_reducible exact sim_addrCmp
    | with_reducible exact sim_addrMod
    | with_reducible exact sim_binOp
    | with_reducible exact sim_stringToBytes
    | with_reducible exact sim_stringToRunes
    | with_reducible exact sim_bytesToString
    | with_reducible exact sim_runesToString
    | with_reducible refine Sim.bind (N := fun _ => True) ?_ fun _ _ => ?_
    | with_reducible refine sim_map ?_
    | with_reducible refine sim_forInA (fun _ _ => ?_) _ _
    | with_reducible refine sim_forInR (fun _ _ => ?_) _ _
    | with_reducible refine sim_mapA (fun _ => ?_) _
    | with_reducible refine sim_foldL (fun _ _ => ?_) _ _
    | split
    | dsimp only

theorem sim_intToFloat {k : FloatKind} {n : Int} : Sim P S (fun _ => True) (Conv.intToFloat k n) := by
  unfold Conv.intToFloat
  repeat' first
    | with_reducible exact Sim.pure trivial
    | with_reducible exact sim_stuck
    | with_reducible exact sim_unsupported
    | with_reducible exact sim_panic
    | with_reducible exact sim_runtimePanic
    | with_reducible exact sim_getObj'
    | with_reducible exact sim_setObj (hS _)
    | with_reducible exact sim_program'
    | with_reducible exact sim_load
    | with_reducible exact sim_store
    | with_reducible exact sim_new
    | with_reducible exact sim_shape
    | with_reducible exact sim_choose
    | with_reducible exact sim_askRoom
    | with_reducible exact sim_typeInfo
    | with_reducible exact sim_underlying
    | with_reducible exact sim_zeroValue
    | with_reducible exact sim_sizeOf
    | with_reducible exact sim_isAgg
    | with_reducible exact sim_loadCells
    | with_reducible exact sim_storeCells _ _
    | with_reducible exact sim_loadVar
    | with_reducible exact sim_storeVar
    | with_reducible exact sim_newRow
    | with_reducible exact sim_newVar
    | with_reducible exact sim_elemOf
    | with_reducible exact sim_part
    | with_reducible exact sim_viewAt
    | with_reducible exact sim_numberAt
    | with_reducible exact sim_cellsIn
    | with_reducible exact sim_noView
    | with_reducible exact sim_asBool
    | with_reducible exact sim_asString
    | with_reducible exact sim_asAgg
    | with_reducible exact sim_asIntOf
    | with_reducible exact sim_asInt
    | with_reducible exact sim_asAddr
    | with_reducible exact sim_sameAddr
    | with_reducible exact sim_freeze
    | with_reducible exact sim_markStringish
    | with_reducible exact sim_asNumber
    | with_reducible exact sim_behindNumber
    | with_reducible exact sim_byteOf
    | with_reducible exact sim_partAt
    | with_reducible exact sim_fieldPlace
    | with_reducible exact sim_boundsPanic
    | with_reducible exact sim_intArith
    | with_reducible exact sim_intDiv
    | with_reducible exact sim_intBits
    | with_reducible exact sim_shift
    | with_reducible exact sim_intCmp
    | with_reducible exact sim_stringOp
    | with_reducible exact sim_floatArith
    | with_reducible exact sim_floatCmp
    | with_reducible exact sim_floatToFloat
    | with_reducible exact sim_carith
    | with_reducible exact sim_ccmp
    | with_reducible exact sim_cconv
    | with_reducible exact sim_cadd
    | with_reducible exact sim_csub
    | with_reducible exact sim_cmul
    | with_reducible exact sim_cquo
    | with_reducible exact sim_cproduct
    | with_reducible exact sim_ccorrected
    | with_reducible exact sim_cquotient
    | with_reducible exact sim_complexOp
    | with_reducible exact sim_unary
    | with_reducible exact sim_samePointer
    | with_reducible exact sim_typeStr
    | with_reducible exact sim_equalIn _ _ _ _
    | with_reducible exact sim_equal
    | with_reducible exact sim_eqGuardIn _ _ _ _
    | with_reducible exact sim_eqGuard
    | with_reducible exact sim_unsafeAdd
    | with_reducible exact sim_movedNumber
    | with_reducible exact sim_movedPointer
    | with_reducible exact sim_twoPlaces
    | with_reducible exact sim_addrSub
    | with_reducible exact sim_addrCmp
    | with_reducible exact sim_addrMod
    | with_reducible exact sim_binOp
    | with_reducible exact sim_stringToBytes
    | with_reducible exact sim_stringToRunes
    | with_reducible exact sim_bytesToString
    | with_reducible exact sim_runesToString
    | with_reducible exact sim_intToInt
    | with_reducible refine Sim.bind (N := fun _ => True) ?_ fun _ _ => ?_
    | with_reducible refine sim_map ?_
    | with_reducible refine sim_forInA (fun _ _ => ?_) _ _
    | with_reducible refine sim_forInR (fun _ _ => ?_) _ _
    | with_reducible refine sim_mapA (fun _ => ?_) _
    | with_reducible refine sim_foldL (fun _ _ => ?_) _ _
    | split
    | dsimp only

theorem sim_intToString {n : Int} : Sim P S (fun _ => True) (Conv.intToString n) := by
  unfold Conv.intToString
  repeat' first
    | with_reducible exact Sim.pure trivial
    | with_reducible exact sim_stuck
    | with_reducible exact sim_unsupported
    | with_reducible exact sim_panic
    | with_reducible exact sim_runtimePanic
    | with_reducible exact sim_getObj'
    | with_reducible exact sim_setObj (hS _)
    | with_reducible exact sim_program'
    | with_reducible exact sim_load
    | with_reducible exact sim_store
    | with_reducible exact sim_new
    | with_reducible exact sim_shape
    | with_reducible exact sim_choose
    | with_reducible exact sim_askRoom
    | with_reducible exact sim_typeInfo
    | with_reducible exact sim_underlying
    | with_reducible exact sim_zeroValue
    | with_reducible exact sim_sizeOf
    | with_reducible exact sim_isAgg
    | with_reducible exact sim_loadCells
    | with_reducible exact sim_storeCells _ _
    | with_reducible exact sim_loadVar
    | with_reducible exact sim_storeVar
    | with_reducible exact sim_newRow
    | with_reducible exact sim_newVar
    | with_reducible exact sim_elemOf
    | with_reducible exact sim_part
    | with_reducible exact sim_viewAt
    | with_reducible exact sim_numberAt
    | with_reducible exact sim_cellsIn
    | with_reducible exact sim_noView
    | with_reducible exact sim_asBool
    | with_reducible exact sim_asString
    | with_reducible exact sim_asAgg
    | with_reducible exact sim_asIntOf
    | with_reducible exact sim_asInt
    | with_reducible exact sim_asAddr
    | with_reducible exact sim_sameAddr
    | with_reducible exact sim_freeze
    | with_reducible exact sim_markStringish
    | with_reducible exact sim_asNumber
    | with_reducible exact sim_behindNumber
    | with_reducible exact sim_byteOf
    | with_reducible exact sim_partAt
    | with_reducible exact sim_fieldPlace
    | with_reducible exact sim_boundsPanic
    | with_reducible exact sim_intArith
    | with_reducible exact sim_intDiv
    | with_reducible exact sim_intBits
    | with_reducible exact sim_shift
    | with_reducible exact sim_intCmp
    | with_reducible exact sim_stringOp
    | with_reducible exact sim_floatArith
    | with_reducible exact sim_floatCmp
    | with_reducible exact sim_floatToFloat
    | with_reducible exact sim_carith
    | with_reducible exact sim_ccmp
    | with_reducible exact sim_cconv
    | with_reducible exact sim_cadd
    | with_reducible exact sim_csub
    | with_reducible exact sim_cmul
    | with_reducible exact sim_cquo
    | with_reducible exact sim_cproduct
    | with_reducible exact sim_ccorrected
    | with_reducible exact sim_cquotient
    | with_reducible exact sim_complexOp
    | with_reducible exact sim_unary
    | with_reducible exact sim_samePointer
    | with_reducible exact sim_typeStr
    | with_reducible exact sim_equalIn _ _ _ _
    | with_reducible exact sim_equal
    | with_reducible exact sim_eqGuardIn _ _ _ _
    | with_reducible exact sim_eqGuard
    | with_reducible exact sim_unsafeAdd
    | with_reducible exact sim_movedNumber
    | with_reducible exact sim_movedPointer
    | with_reducible exact sim_twoPlaces
    | with_reducible exact sim_addrSub
    | with_reducible exact sim_addrCmp
    | with_reducible exact sim_addrMod
    | with_reducible exact sim_binOp
    | with_reducible exact sim_stringToBytes
    | with_reducible exact sim_stringToRunes
    | with_reducible exact sim_bytesToString
    | with_reducible exact sim_runesToString
    | with_reducible exact sim_intToInt
    | with_reducible exact sim_intToFloat
    | with_reducible refine Sim.bind (N := fun _ => True) ?_ fun _ _ => ?_
    | with_reducible refine sim_map ?_
    | with_reducible refine sim_forInA (fun _ _ => ?_) _ _
    | with_reducible refine sim_forInR (fun _ _ => ?_) _ _
    | with_reducible refine sim_mapA (fun _ => ?_) _
    | with_reducible refine sim_foldL (fun _ _ => ?_) _ _
    | split
    | dsimp only

theorem sim_floatToInt {j : FloatKind} {b : Nat} {k : IntKind} : Sim P S (fun _ => True) (Conv.floatToInt j b k) := by
  unfold Conv.floatToInt
  repeat' first
    | with_reducible exact Sim.pure trivial
    | with_reducible exact sim_stuck
    | with_reducible exact sim_unsupported
    | with_reducible exact sim_panic
    | with_reducible exact sim_runtimePanic
    | with_reducible exact sim_getObj'
    | with_reducible exact sim_setObj (hS _)
    | with_reducible exact sim_program'
    | with_reducible exact sim_load
    | with_reducible exact sim_store
    | with_reducible exact sim_new
    | with_reducible exact sim_shape
    | with_reducible exact sim_choose
    | with_reducible exact sim_askRoom
    | with_reducible exact sim_typeInfo
    | with_reducible exact sim_underlying
    | with_reducible exact sim_zeroValue
    | with_reducible exact sim_sizeOf
    | with_reducible exact sim_isAgg
    | with_reducible exact sim_loadCells
    | with_reducible exact sim_storeCells _ _
    | with_reducible exact sim_loadVar
    | with_reducible exact sim_storeVar
    | with_reducible exact sim_newRow
    | with_reducible exact sim_newVar
    | with_reducible exact sim_elemOf
    | with_reducible exact sim_part
    | with_reducible exact sim_viewAt
    | with_reducible exact sim_numberAt
    | with_reducible exact sim_cellsIn
    | with_reducible exact sim_noView
    | with_reducible exact sim_asBool
    | with_reducible exact sim_asString
    | with_reducible exact sim_asAgg
    | with_reducible exact sim_asIntOf
    | with_reducible exact sim_asInt
    | with_reducible exact sim_asAddr
    | with_reducible exact sim_sameAddr
    | with_reducible exact sim_freeze
    | with_reducible exact sim_markStringish
    | with_reducible exact sim_asNumber
    | with_reducible exact sim_behindNumber
    | with_reducible exact sim_byteOf
    | with_reducible exact sim_partAt
    | with_reducible exact sim_fieldPlace
    | with_reducible exact sim_boundsPanic
    | with_reducible exact sim_intArith
    | with_reducible exact sim_intDiv
    | with_reducible exact sim_intBits
    | with_reducible exact sim_shift
    | with_reducible exact sim_intCmp
    | with_reducible exact sim_stringOp
    | with_reducible exact sim_floatArith
    | with_reducible exact sim_floatCmp
    | with_reducible exact sim_floatToFloat
    | with_reducible exact sim_carith
    | with_reducible exact sim_ccmp
    | with_reducible exact sim_cconv
    | with_reducible exact sim_cadd
    | with_reducible exact sim_csub
    | with_reducible exact sim_cmul
    | with_reducible exact sim_cquo
    | with_reducible exact sim_cproduct
    | with_reducible exact sim_ccorrected
    | with_reducible exact sim_cquotient
    | with_reducible exact sim_complexOp
    | with_reducible exact sim_unary
    | with_reducible exact sim_samePointer
    | with_reducible exact sim_typeStr
    | with_reducible exact sim_equalIn _ _ _ _
    | with_reducible exact sim_equal
    | with_reducible exact sim_eqGuardIn _ _ _ _
    | with_reducible exact sim_eqGuard
    | with_reducible exact sim_unsafeAdd
    | with_reducible exact sim_movedNumber
    | with_reducible exact sim_movedPointer
    | with_reducible exact sim_twoPlaces
    | with_reducible exact sim_addrSub
    | with_reducible exact sim_addrCmp
    | with_reducible exact sim_addrMod
    | with_reducible exact sim_binOp
    | with_reducible exact sim_stringToBytes
    | with_reducible exact sim_stringToRunes
    | with_reducible exact sim_bytesToString
    | with_reducible exact sim_runesToString
    | with_reducible exact sim_intToInt
    | with_reducible exact sim_intToFloat
    | with_reducible exact sim_intToString
    | with_reducible refine Sim.bind (N := fun _ => True) ?_ fun _ _ => ?_
    | with_reducible refine sim_map ?_
    | with_reducible refine sim_forInA (fun _ _ => ?_) _ _
    | with_reducible refine sim_forInR (fun _ _ => ?_) _ _
    | with_reducible refine sim_mapA (fun _ => ?_) _
    | with_reducible refine sim_foldL (fun _ _ => ?_) _ _
    | split
    | dsimp only

theorem sim_complexToComplex {j k : FloatKind} {a b : Nat} : Sim P S (fun _ => True) (Conv.complexToComplex j a b k) := by
  unfold Conv.complexToComplex
  repeat' first
    | with_reducible exact Sim.pure trivial
    | with_reducible exact sim_stuck
    | with_reducible exact sim_unsupported
    | with_reducible exact sim_panic
    | with_reducible exact sim_runtimePanic
    | with_reducible exact sim_getObj'
    | with_reducible exact sim_setObj (hS _)
    | with_reducible exact sim_program'
    | with_reducible exact sim_load
    | with_reducible exact sim_store
    | with_reducible exact sim_new
    | with_reducible exact sim_shape
    | with_reducible exact sim_choose
    | with_reducible exact sim_askRoom
    | with_reducible exact sim_typeInfo
    | with_reducible exact sim_underlying
    | with_reducible exact sim_zeroValue
    | with_reducible exact sim_sizeOf
    | with_reducible exact sim_isAgg
    | with_reducible exact sim_loadCells
    | with_reducible exact sim_storeCells _ _
    | with_reducible exact sim_loadVar
    | with_reducible exact sim_storeVar
    | with_reducible exact sim_newRow
    | with_reducible exact sim_newVar
    | with_reducible exact sim_elemOf
    | with_reducible exact sim_part
    | with_reducible exact sim_viewAt
    | with_reducible exact sim_numberAt
    | with_reducible exact sim_cellsIn
    | with_reducible exact sim_noView
    | with_reducible exact sim_asBool
    | with_reducible exact sim_asString
    | with_reducible exact sim_asAgg
    | with_reducible exact sim_asIntOf
    | with_reducible exact sim_asInt
    | with_reducible exact sim_asAddr
    | with_reducible exact sim_sameAddr
    | with_reducible exact sim_freeze
    | with_reducible exact sim_markStringish
    | with_reducible exact sim_asNumber
    | with_reducible exact sim_behindNumber
    | with_reducible exact sim_byteOf
    | with_reducible exact sim_partAt
    | with_reducible exact sim_fieldPlace
    | with_reducible exact sim_boundsPanic
    | with_reducible exact sim_intArith
    | with_reducible exact sim_intDiv
    | with_reducible exact sim_intBits
    | with_reducible exact sim_shift
    | with_reducible exact sim_intCmp
    | with_reducible exact sim_stringOp
    | with_reducible exact sim_floatArith
    | with_reducible exact sim_floatCmp
    | with_reducible exact sim_floatToFloat
    | with_reducible exact sim_carith
    | with_reducible exact sim_ccmp
    | with_reducible exact sim_cconv
    | with_reducible exact sim_cadd
    | with_reducible exact sim_csub
    | with_reducible exact sim_cmul
    | with_reducible exact sim_cquo
    | with_reducible exact sim_cproduct
    | with_reducible exact sim_ccorrected
    | with_reducible exact sim_cquotient
    | with_reducible exact sim_complexOp
    | with_reducible exact sim_unary
    | with_reducible exact sim_samePointer
    | with_reducible exact sim_typeStr
    | with_reducible exact sim_equalIn _ _ _ _
    | with_reducible exact sim_equal
    | with_reducible exact sim_eqGuardIn _ _ _ _
    | with_reducible exact sim_eqGuard
    | with_reducible exact sim_unsafeAdd
    | with_reducible exact sim_movedNumber
    | with_reducible exact sim_movedPointer
    | with_reducible exact sim_twoPlaces
    | with_reducible exact sim_addrSub
    | with_reducible exact sim_addrCmp
    | with_reducible exact sim_addrMod
    | with_reducible exact sim_binOp
    | with_reducible exact sim_stringToBytes
    | with_reducible exact sim_stringToRunes
    | with_reducible exact sim_bytesToString
    | with_reducible exact sim_runesToString
    | with_reducible exact sim_intToInt
    | with_reducible exact sim_intToFloat
    | with_reducible exact sim_intToString
    | with_reducible exact sim_floatToInt
    | with_reducible refine Sim.bind (N := fun _ => True) ?_ fun _ _ => ?_
    | with_reducible refine sim_map ?_
    | with_reducible refine sim_forInA (fun _ _ => ?_) _ _
    | with_reducible refine sim_forInR (fun _ _ => ?_) _ _
    | with_reducible refine sim_mapA (fun _ => ?_) _
    | with_reducible refine sim_foldL (fun _ _ => ?_) _ _
    | split
    | dsimp only

theorem sim_backFromNumber {a : Addr} : Sim P S (fun _ => True) (backFromNumber a) := by
  unfold backFromNumber
  repeat' first
    | with_reducible exact Sim.pure trivial
    | with_reducible exact sim_stuck
    | with_reducible exact sim_unsupported
    | with_reducible exact sim_panic
    | with_reducible exact sim_runtimePanic
    | with_reducible exact sim_getObj'
    | with_reducible exact sim_setObj (hS _)
    | with_reducible exact sim_program'
    | with_reducible exact sim_load
    | with_reducible exact sim_store
    | with_reducible exact sim_new
    | with_reducible exact sim_shape
    | with_reducible exact sim_choose
    | with_reducible exact sim_askRoom
    | with_reducible exact sim_typeInfo
    | with_reducible exact sim_underlying
    | with_reducible exact sim_zeroValue
    | with_reducible exact sim_sizeOf
    | with_reducible exact sim_isAgg
    | with_reducible exact sim_loadCells
    | with_reducible exact sim_storeCells _ _
    | with_reducible exact sim_loadVar
    | with_reducible exact sim_storeVar
    | with_reducible exact sim_newRow
    | with_reducible exact sim_newVar
    | with_reducible exact sim_elemOf
    | with_reducible exact sim_part
    | with_reducible exact sim_viewAt
    | with_reducible exact sim_numberAt
    | with_reducible exact sim_cellsIn
    | with_reducible exact sim_noView
    | with_reducible exact sim_asBool
    | with_reducible exact sim_asString
    | with_reducible exact sim_asAgg
    | with_reducible exact sim_asIntOf
    | with_reducible exact sim_asInt
    | with_reducible exact sim_asAddr
    | with_reducible exact sim_sameAddr
    | with_reducible exact sim_freeze
    | with_reducible exact sim_markStringish
    | with_reducible exact sim_asNumber
    | with_reducible exact sim_behindNumber
    | with_reducible exact sim_byteOf
    | with_reducible exact sim_partAt
    | with_reducible exact sim_fieldPlace
    | with_reducible exact sim_boundsPanic
    | with_reducible exact sim_intArith
    | with_reducible exact sim_intDiv
    | with_reducible exact sim_intBits
    | with_reducible exact sim_shift
    | with_reducible exact sim_intCmp
    | with_reducible exact sim_stringOp
    | with_reducible exact sim_floatArith
    | with_reducible exact sim_floatCmp
    | with_reducible exact sim_floatToFloat
    | with_reducible exact sim_carith
    | with_reducible exact sim_ccmp
    | with_reducible exact sim_cconv
    | with_reducible exact sim_cadd
    | with_reducible exact sim_csub
    | with_reducible exact sim_cmul
    | with_reducible exact sim_cquo
    | with_reducible exact sim_cproduct
    | with_reducible exact sim_ccorrected
    | with_reducible exact sim_cquotient
    | with_reducible exact sim_complexOp
    | with_reducible exact sim_unary
    | with_reducible exact sim_samePointer
    | with_reducible exact sim_typeStr
    | with_reducible exact sim_equalIn _ _ _ _
    | with_reducible exact sim_equal
    | with_reducible exact sim_eqGuardIn _ _ _ _
    | with_reducible exact sim_eqGuard
    | with_reducible exact sim_unsafeAdd
    | with_reducible exact sim_movedNumber
    | with_reducible exact sim_movedPointer
    | with_reducible exact sim_twoPlaces
    | with_reducible exact sim_addrSub
    | with_reducible exact sim_addrCmp
    | with_reducible exact sim_addrMod
    | with_reducible exact sim_binOp
    | with_reducible exact sim_stringToBytes
    | with_reducible exact sim_stringToRunes
    | with_reducible exact sim_bytesToString
    | with_reducible exact sim_runesToString
    | with_reducible exact sim_intToInt
    | with_reducible exact sim_intToFloat
    | with_reducible exact sim_intToString
    | with_reducible exact sim_floatToInt
    | with_reducible exact sim_complexToComplex
    | with_reducible refine Sim.bind (N := fun _ => True) ?_ fun _ _ => ?_
    | with_reducible refine sim_map ?_
    | with_reducible refine sim_forInA (fun _ _ => ?_) _ _
    | with_reducible refine sim_forInR (fun _ _ => ?_) _ _
    | with_reducible refine sim_mapA (fun _ => ?_) _
    | with_reducible refine sim_foldL (fun _ _ => ?_) _ _
    | split
    | dsimp only

theorem sim_variablesAt {a : Addr} {t : TypeId} {n : Nat} : Sim P S (fun _ => True) (variablesAt a t n) := by
  unfold variablesAt
  repeat' first
    | with_reducible exact Sim.pure trivial
    | with_reducible exact sim_stuck
    | with_reducible exact sim_unsupported
    | with_reducible exact sim_panic
    | with_reducible exact sim_runtimePanic
    | with_reducible exact sim_getObj'
    | with_reducible exact sim_setObj (hS _)
    | with_reducible exact sim_program'
    | with_reducible exact sim_load
    | with_reducible exact sim_store
    | with_reducible exact sim_new
    | with_reducible exact sim_shape
    | with_reducible exact sim_choose
    | with_reducible exact sim_askRoom
    | with_reducible exact sim_typeInfo
    | with_reducible exact sim_underlying
    | with_reducible exact sim_zeroValue
    | with_reducible exact sim_sizeOf
    | with_reducible exact sim_isAgg
    | with_reducible exact sim_loadCells
    | with_reducible exact sim_storeCells _ _
    | with_reducible exact sim_loadVar
    | with_reducible exact sim_storeVar
    | with_reducible exact sim_newRow
    | with_reducible exact sim_newVar
    | with_reducible exact sim_elemOf
    | with_reducible exact sim_part
    | with_reducible exact sim_viewAt
    | with_reducible exact sim_numberAt
    | with_reducible exact sim_cellsIn
    | with_reducible exact sim_noView
    | with_reducible exact sim_asBool
    | with_reducible exact sim_asString
    | with_reducible exact sim_asAgg
    | with_reducible exact sim_asIntOf
    | with_reducible exact sim_asInt
    | with_reducible exact sim_asAddr
    | with_reducible exact sim_sameAddr
    | with_reducible exact sim_freeze
    | with_reducible exact sim_markStringish
    | with_reducible exact sim_asNumber
    | with_reducible exact sim_behindNumber
    | with_reducible exact sim_byteOf
    | with_reducible exact sim_partAt
    | with_reducible exact sim_fieldPlace
    | with_reducible exact sim_boundsPanic
    | with_reducible exact sim_intArith
    | with_reducible exact sim_intDiv
    | with_reducible exact sim_intBits
    | with_reducible exact sim_shift
    | with_reducible exact sim_intCmp
    | with_reducible exact sim_stringOp
    | with_reducible exact sim_floatArith
    | with_reducible exact sim_floatCmp
    | with_reducible exact sim_floatToFloat
    | with_reducible exact sim_carith
    | with_reducible exact sim_ccmp
    | with_reducible exact sim_cconv
    | with_reducible exact sim_cadd
    | with_reducible exact sim_csub
    | with_reducible exact sim_cmul
    | with_reducible exact sim_cquo
    | with_reducible exact sim_cproduct
    | with_reducible exact sim_ccorrected
    | with_reducible exact sim_cquotient
    | with_reducible exact sim_complexOp
    | with_reducible exact sim_unary
    | with_reducible exact sim_samePointer
    | with_reducible exact sim_typeStr
    | with_reducible exact sim_equalIn _ _ _ _
    | with_reducible exact sim_equal
    | with_reducible exact sim_eqGuardIn _ _ _ _
    | with_reducible exact sim_eqGuard
    | with_reducible exact sim_unsafeAdd
    | with_reducible exact sim_movedNumber
    | with_reducible exact sim_movedPointer
    | with_reducible exact sim_twoPlaces
    | with_reducible exact sim_addrSub
    | with_reducible exact sim_addrCmp
    | with_reducible exact sim_addrMod
    | with_reducible exact sim_binOp
    | with_reducible exact sim_stringToBytes
    | with_reducible exact sim_stringToRunes
    | with_reducible exact sim_bytesToString
    | with_reducible exact sim_runesToString
    | with_reducible exact sim_intToInt
    | with_reducible exact sim_intToFloat
    | with_reducible exact sim_intToString
    | with_reducible exact sim_floatToInt
    | with_reducible exact sim_complexToComplex
    | with_reducible exact sim_backFromNumber
    | with_reducible refine Sim.bind (N := fun _ => True) ?_ fun _ _ => ?_
    | with_reducible refine sim_map ?_
    | with_reducible refine sim_forInA (fun _ _ => ?_) _ _
    | with_reducible refine sim_forInR (fun _ _ => ?_) _ _
    | with_reducible refine sim_mapA (fun _ => ?_) _
    | with_reducible refine sim_foldL (fun _ _ => ?_) _ _
    | split
    | dsimp only

theorem sim_seenAt {a : Addr} : Sim P S (fun _ => True) (Conv.seenAt a) := by
  unfold Conv.seenAt
  repeat' first
    | with_reducible exact Sim.pure trivial
    | with_reducible exact sim_stuck
    | with_reducible exact sim_unsupported
    | with_reducible exact sim_panic
    | with_reducible exact sim_runtimePanic
    | with_reducible exact sim_getObj'
    | with_reducible exact sim_setObj (hS _)
    | with_reducible exact sim_program'
    | with_reducible exact sim_load
    | with_reducible exact sim_store
    | with_reducible exact sim_new
    | with_reducible exact sim_shape
    | with_reducible exact sim_choose
    | with_reducible exact sim_askRoom
    | with_reducible exact sim_typeInfo
    | with_reducible exact sim_underlying
    | with_reducible exact sim_zeroValue
    | with_reducible exact sim_sizeOf
    | with_reducible exact sim_isAgg
    | with_reducible exact sim_loadCells
    | with_reducible exact sim_storeCells _ _
    | with_reducible exact sim_loadVar
    | with_reducible exact sim_storeVar
    | with_reducible exact sim_newRow
    | with_reducible exact sim_newVar
    | with_reducible exact sim_elemOf
    | with_reducible exact sim_part
    | with_reducible exact sim_viewAt
    | with_reducible exact sim_numberAt
    | with_reducible exact sim_cellsIn
    | with_reducible exact sim_noView
    | with_reducible exact sim_asBool
    | with_reducible exact sim_asString
    | with_reducible exact sim_asAgg
    | with_reducible exact sim_asIntOf
    | with_reducible exact sim_asInt
    | with_reducible exact sim_asAddr
    | with_reducible exact sim_sameAddr
    | with_reducible exact sim_freeze
    | with_reducible exact sim_markStringish
    | with_reducible exact sim_asNumber
    | with_reducible exact sim_behindNumber
    | with_reducible exact sim_byteOf
    | with_reducible exact sim_partAt
    | with_reducible exact sim_fieldPlace
    | with_reducible exact sim_boundsPanic
    | with_reducible exact sim_intArith
    | with_reducible exact sim_intDiv
    | with_reducible exact sim_intBits
    | with_reducible exact sim_shift
    | with_reducible exact sim_intCmp
    | with_reducible exact sim_stringOp
    | with_reducible exact sim_floatArith
    | with_reducible exact sim_floatCmp
    | with_reducible exact sim_floatToFloat
    | with_reducible exact sim_carith
    | with_reducible exact sim_ccmp
    | with_reducible exact sim_cconv
    | with_reducible exact sim_cadd
    | with_reducible exact sim_csub
    | with_reducible exact sim_cmul
    | with_reducible exact sim_cquo
    | with_reducible exact sim_cproduct
    | with_reducible exact sim_ccorrected
    | with_reducible exact sim_cquotient
    | with_reducible exact sim_complexOp
    | with_reducible exact sim_unary
    | with_reducible exact sim_samePointer
    | with_reducible exact sim_typeStr
    | with_reducible exact sim_equalIn _ _ _ _
    | with_reducible exact sim_equal
    | with_reducible exact sim_eqGuardIn _ _ _ _
    | with_reducible exact sim_eqGuard
    | with_reducible exact sim_unsafeAdd
    | with_reducible exact sim_movedNumber
    | with_reducible exact sim_movedPointer
    | with_reducible exact sim_twoPlaces
    | with_reducible exact sim_addrSub
    | with_reducible exact sim_addrCmp
    | with_reducible exact sim_addrMod
    | with_reducible exact sim_binOp
    | with_reducible exact sim_stringToBytes
    | with_reducible exact sim_stringToRunes
    | with_reducible exact sim_bytesToString
    | with_reducible exact sim_runesToString
    | with_reducible exact sim_intToInt
    | with_reducible exact sim_intToFloat
    | with_reducible exact sim_intToString
    | with_reducible exact sim_floatToInt
    | with_reducible exact sim_complexToComplex
    | with_reducible exact sim_backFromNumber
    | with_reducible exact sim_variablesAt
    | with_reducible refine Sim.bind (N := fun _ => True) ?_ fun _ _ => ?_
    | with_reducible refine sim_map ?_
    | with_reducible refine sim_forInA (fun _ _ => ?_) _ _
    | with_reducible refine sim_forInR (fun _ _ => ?_) _ _
    | with_reducible refine sim_mapA (fun _ => ?_) _
    | with_reducible refine sim_foldL (fun _ _ => ?_) _ _
    | split
    | dsimp only

theorem sim_unsafePointer {s t : TypeId} {x : Value} : Sim P S (fun _ => True) (Conv.unsafePointer s t x) := by
  unfold Conv.unsafePointer
  repeat' first
    | with_reducible exact Sim.pure trivial
    | with_reducible exact sim_stuck
    | with_reducible exact sim_unsupported
    | with_reducible exact sim_panic
    | with_reducible exact sim_runtimePanic
    | with_reducible exact sim_getObj'
    | with_reducible exact sim_setObj (hS _)
    | with_reducible exact sim_program'
    | with_reducible exact sim_load
    | with_reducible exact sim_store
    | with_reducible exact sim_new
    | with_reducible exact sim_shape
    | with_reducible exact sim_choose
    | with_reducible exact sim_askRoom
    | with_reducible exact sim_typeInfo
    | with_reducible exact sim_underlying
    | with_reducible exact sim_zeroValue
    | with_reducible exact sim_sizeOf
    | with_reducible exact sim_isAgg
    | with_reducible exact sim_loadCells
    | with_reducible exact sim_storeCells _ _
    | with_reducible exact sim_loadVar
    | with_reducible exact sim_storeVar
    | with_reducible exact sim_newRow
    | with_reducible exact sim_newVar
    | with_reducible exact sim_elemOf
    | with_reducible exact sim_part
    | with_reducible exact sim_viewAt
    | with_reducible exact sim_numberAt
    | with_reducible exact sim_cellsIn
    | with_reducible exact sim_noView
    | with_reducible exact sim_asBool
    | with_reducible exact sim_asString
    | with_reducible exact sim_asAgg
    | with_reducible exact sim_asIntOf
    | with_reducible exact sim_asInt
    | with_reducible exact sim_asAddr
    | with_reducible exact sim_sameAddr
    | with_reducible exact sim_freeze
    | with_reducible exact sim_markStringish
    | with_reducible exact sim_asNumber
    | with_reducible exact sim_behindNumber
    | with_reducible exact sim_byteOf
    | with_reducible exact sim_partAt
    | with_reducible exact sim_fieldPlace
    | with_reducible exact sim_boundsPanic
    | with_reducible exact sim_intArith
    | with_reducible exact sim_intDiv
    | with_reducible exact sim_intBits
    | with_reducible exact sim_shift
    | with_reducible exact sim_intCmp
    | with_reducible exact sim_stringOp
    | with_reducible exact sim_floatArith
    | with_reducible exact sim_floatCmp
    | with_reducible exact sim_floatToFloat
    | with_reducible exact sim_carith
    | with_reducible exact sim_ccmp
    | with_reducible exact sim_cconv
    | with_reducible exact sim_cadd
    | with_reducible exact sim_csub
    | with_reducible exact sim_cmul
    | with_reducible exact sim_cquo
    | with_reducible exact sim_cproduct
    | with_reducible exact sim_ccorrected
    | with_reducible exact sim_cquotient
    | with_reducible exact sim_complexOp
    | with_reducible exact sim_unary
    | with_reducible exact sim_samePointer
    | with_reducible exact sim_typeStr
    | with_reducible exact sim_equalIn _ _ _ _
    | with_reducible exact sim_equal
    | with_reducible exact sim_eqGuardIn _ _ _ _
    | with_reducible exact sim_eqGuard
    | with_reducible exact sim_unsafeAdd
    | with_reducible exact sim_movedNumber
    | with_reducible exact sim_movedPointer
    | with_reducible exact sim_twoPlaces
    | with_reducible exact sim_addrSub
    | with_reducible exact sim_addrCmp
    | with_reducible exact sim_addrMod
    | with_reducible exact sim_binOp
    | with_reducible exact sim_stringToBytes
    | with_reducible exact sim_stringToRunes
    | with_reducible exact sim_bytesToString
    | with_reducible exact sim_runesToString
    | with_reducible exact sim_intToInt
    | with_reducible exact sim_intToFloat
    | with_reducible exact sim_intToString
    | with_reducible exact sim_floatToInt
    | with_reducible exact sim_complexToComplex
    | with_reducible exact sim_backFromNumber
    | with_reducible exact sim_variablesAt
    | with_reducible exact sim_seenAt
    | with_reducible refine Sim.bind (N := fun _ => True) ?_ fun _ _ => ?_
    | with_reducible refine sim_map ?_
    | with_reducible refine sim_forInA (fun _ _ => ?_) _ _
    | with_reducible refine sim_forInR (fun _ _ => ?_) _ _
    | with_reducible refine sim_mapA (fun _ => ?_) _
    | with_reducible refine sim_foldL (fun _ _ => ?_) _ _
    | split
    | dsimp only

theorem sim_convert {s t : TypeId} {x : Value} : Sim P S (fun _ => True) (convert s t x) := by
  unfold convert
  repeat' first
    | with_reducible exact Sim.pure trivial
    | with_reducible exact sim_stuck
    | with_reducible exact sim_unsupported
    | with_reducible exact sim_panic
    | with_reducible exact sim_runtimePanic
    | with_reducible exact sim_getObj'
    | with_reducible exact sim_setObj (hS _)
    | with_reducible exact sim_program'
    | with_reducible exact sim_load
    | with_reducible exact sim_store
    | with_reducible exact sim_new
    | with_reducible exact sim_shape
    | with_reducible exact sim_choose
    | with_reducible exact sim_askRoom
    | with_reducible exact sim_typeInfo
    | with_reducible exact sim_underlying
    | with_reducible exact sim_zeroValue
    | with_reducible exact sim_sizeOf
    | with_reducible exact sim_isAgg
    | with_reducible exact sim_loadCells
    | with_reducible exact sim_storeCells _ _
    | with_reducible exact sim_loadVar
    | with_reducible exact sim_storeVar
    | with_reducible exact sim_newRow
    | with_reducible exact sim_newVar
    | with_reducible exact sim_elemOf
    | with_reducible exact sim_part
    | with_reducible exact sim_viewAt
    | with_reducible exact sim_numberAt
    | with_reducible exact sim_cellsIn
    | with_reducible exact sim_noView
    | with_reducible exact sim_asBool
    | with_reducible exact sim_asString
    | with_reducible exact sim_asAgg
    | with_reducible exact sim_asIntOf
    | with_reducible exact sim_asInt
    | with_reducible exact sim_asAddr
    | with_reducible exact sim_sameAddr
    | with_reducible exact sim_freeze
    | with_reducible exact sim_markStringish
    | with_reducible exact sim_asNumber
    | with_reducible exact sim_behindNumber
    | with_reducible exact sim_byteOf
    | with_reducible exact sim_partAt
    | with_reducible exact sim_fieldPlace
    | with_reducible exact sim_boundsPanic
    | with_reducible exact sim_intArith
    | with_reducible exact sim_intDiv
    | with_reducible exact sim_intBits
    | with_reducible exact sim_shift
    | with_reducible exact sim_intCmp
    | with_reducible exact sim_stringOp
    | with_reducible exact sim_floatArith
    | with_reducible exact sim_floatCmp
    | with_reducible exact sim_floatToFloat
    | with_reducible exact sim_carith
    | with_reducible exact sim_ccmp
    | with_reducible exact sim_cconv
    | with_reducible exact sim_cadd
    | with_reducible exact sim_csub
    | with_reducible exact sim_cmul
    | with_reducible exact sim_cquo
    | with_reducible exact sim_cproduct
    | with_reducible exact sim_ccorrected
    | with_reducible exact sim_cquotient
    | with_reducible exact sim_complexOp
    | with_reducible exact sim_unary
    | with_reducible exact sim_samePointer
    | with_reducible exact sim_typeStr
    | with_reducible exact sim_equalIn _ _ _ _
    | with_reducible exact sim_equal
    | with_reducible exact sim_eqGuardIn _ _ _ _
    | with_reducible exact sim_eqGuard
    | with_reducible exact sim_unsafeAdd
    | with_reducible exact sim_movedNumber
    | with_reducible exact sim_movedPointer
    | with_reducible exact sim_twoPlaces
    | with_reducible exact sim_addrSub
    | with_reducible exact sim_addrCmp
    | with_reducible exact sim_addrMod
    | with_reducible exact sim_binOp
    | with_reducible exact sim_stringToBytes
    | with_reducible exact sim_stringToRunes
    | with_reducible exact sim_bytesToString
    | with_reducible exact sim_runesToString
    | with_reducible exact sim_intToInt
    | with_reducible exact sim_intToFloat
    | with_reducible exact sim_intToString
    | with_reducible exact sim_floatToInt
    | with_reducible exact sim_complexToComplex
    | with_reducible exact sim_backFromNumber
    | with_reducible exact sim_variablesAt
    | with_reducible exact sim_seenAt
    | with_reducible exact sim_unsafePointer
    | with_reducible refine Sim.bind (N := fun _ => True) ?_ fun _ _ => ?_
    | with_reducible refine sim_map ?_
    | with_reducible refine sim_forInA (fun _ _ => ?_) _ _
    | with_reducible refine sim_forInR (fun _ _ => ?_) _ _
    | with_reducible refine sim_mapA (fun _ => ?_) _
    | with_reducible refine sim_foldL (fun _ _ => ?_) _ _
    | split
    | dsimp only

theorem sim_alloc {t : TypeId} {b : Bool} {x : Value} : Sim P S (fun _ => True) (Instr.alloc t b x) := by
  unfold Instr.alloc
  repeat' first
    | with_reducible exact Sim.pure trivial
    | with_reducible exact sim_stuck
    | with_reducible exact sim_unsupported
    | with_reducible exact sim_panic
    | with_reducible exact sim_runtimePanic
    | with_reducible exact sim_getObj'
    | with_reducible exact sim_setObj (hS _)
    | with_reducible exact sim_program'
    | with_reducible exact sim_load
    | with_reducible exact sim_store
    | with_reducible exact sim_new
    | with_reducible exact sim_shape
    | with_reducible exact sim_choose
    | with_reducible exact sim_askRoom
    | with_reducible exact sim_typeInfo
    | with_reducible exact sim_underlying
    | with_reducible exact sim_zeroValue
    | with_reducible exact sim_sizeOf
    | with_reducible exact sim_isAgg
    | with_reducible exact sim_loadCells
    | with_reducible exact sim_storeCells _ _
    | with_reducible exact sim_loadVar
    | with_reducible exact sim_storeVar
    | with_reducible exact sim_newRow
    | with_reducible exact sim_newVar
    | with_reducible exact sim_elemOf
    | with_reducible exact sim_part
    | with_reducible exact sim_viewAt
    | with_reducible exact sim_numberAt
    | with_reducible exact sim_cellsIn
    | with_reducible exact sim_noView
    | with_reducible exact sim_asBool
    | with_reducible exact sim_asString
    | with_reducible exact sim_asAgg
    | with_reducible exact sim_asIntOf
    | with_reducible exact sim_asInt
    | with_reducible exact sim_asAddr
    | with_reducible exact sim_sameAddr
    | with_reducible exact sim_freeze
    | with_reducible exact sim_markStringish
    | with_reducible exact sim_asNumber
    | with_reducible exact sim_behindNumber
    | with_reducible exact sim_byteOf
    | with_reducible exact sim_partAt
    | with_reducible exact sim_fieldPlace
    | with_reducible exact sim_boundsPanic
    | with_reducible exact sim_intArith
    | with_reducible exact sim_intDiv
    | with_reducible exact sim_intBits
    | with_reducible exact sim_shift
    | with_reducible exact sim_intCmp
    | with_reducible exact sim_stringOp
    | with_reducible exact sim_floatArith
    | with_reducible exact sim_floatCmp
    | with_reducible exact sim_floatToFloat
    | with_reducible exact sim_carith
    | with_reducible exact sim_ccmp
    | with_reducible exact sim_cconv
    | with_reducible exact sim_cadd
    | with_reducible exact sim_csub
    | with_reducible exact sim_cmul
    | with_reducible exact sim_cquo
    | with_reducible exact sim_cproduct
    | with_reducible exact sim_ccorrected
    | with_reducible exact sim_cquotient
    | with_reducible exact sim_complexOp
    | with_reducible exact sim_unary
    | with_reducible exact sim_samePointer
    | with_reducible exact sim_typeStr
    | with_reducible exact sim_equalIn _ _ _ _
    | with_reducible exact sim_equal
    | with_reducible exact sim_eqGuardIn _ _ _ _
    | with_reducible exact sim_eqGuard
    | with_reducible exact sim_unsafeAdd
    | with_reducible exact sim_movedNumber
    | with_reducible exact sim_movedPointer
    | with_reducible exact sim_twoPlaces
    | with_reducible exact sim_addrSub
    | with_reducible exact sim_addrCmp
    | with_reducible exact sim_addrMod
    | with_reducible exact sim_binOp
    | with_reducible exact sim_stringToBytes
    | with_reducible exact sim_stringToRunes
    | with_reducible exact sim_bytesToString
    | with_reducible exact sim_runesToString
    | with_reducible exact sim_intToInt
    | with_reducible exact sim_intToFloat
    | with_reducible exact sim_intToString
    | with_reducible exact sim_floatToInt
    | with_reducible exact sim_complexToComplex
    | with_reducible exact sim_backFromNumber
    | with_reducible exact sim_variablesAt
    | with_reducible exact sim_seenAt
    | with_reducible exact sim_unsafePointer
    | with_reducible exact sim_convert
    | with_reducible refine Sim.bind (N := fun _ => True) ?_ fun _ _ => ?_
    | with_reducible refine sim_map ?_
    | with_reducible refine sim_forInA (fun _ _ => ?_) _ _
    | with_reducible refine sim_forInR (fun _ _ => ?_) _ _
    | with_reducible refine sim_mapA (fun _ => ?_) _
    | with_reducible refine sim_foldL (fun _ _ => ?_) _ _
    | split
    | dsimp only

theorem sim_box {t : TypeId} {x : Value} : Sim P S (fun _ => True) (Instr.box t x) := by
  unfold Instr.box
  repeat' first
    | with_reducible exact Sim.pure trivial
    | with_reducible exact sim_stuck
    | with_reducible exact sim_unsupported
    | with_reducible exact sim_panic
    | with_reducible exact sim_runtimePanic
    | with_reducible exact sim_getObj'
    | with_reducible exact sim_setObj (hS _)
    | with_reducible exact sim_program'
    | with_reducible exact sim_load
    | with_reducible exact sim_store
    | with_reducible exact sim_new
    | with_reducible exact sim_shape
    | with_reducible exact sim_choose
    | with_reducible exact sim_askRoom
    | with_reducible exact sim_typeInfo
    | with_reducible exact sim_underlying
    | with_reducible exact sim_zeroValue
    | with_reducible exact sim_sizeOf
    | with_reducible exact sim_isAgg
    | with_reducible exact sim_loadCells
    | with_reducible exact sim_storeCells _ _
    | with_reducible exact sim_loadVar
    | with_reducible exact sim_storeVar
    | with_reducible exact sim_newRow
    | with_reducible exact sim_newVar
    | with_reducible exact sim_elemOf
    | with_reducible exact sim_part
    | with_reducible exact sim_viewAt
    | with_reducible exact sim_numberAt
    | with_reducible exact sim_cellsIn
    | with_reducible exact sim_noView
    | with_reducible exact sim_asBool
    | with_reducible exact sim_asString
    | with_reducible exact sim_asAgg
    | with_reducible exact sim_asIntOf
    | with_reducible exact sim_asInt
    | with_reducible exact sim_asAddr
    | with_reducible exact sim_sameAddr
    | with_reducible exact sim_freeze
    | with_reducible exact sim_markStringish
    | with_reducible exact sim_asNumber
    | with_reducible exact sim_behindNumber
    | with_reducible exact sim_byteOf
    | with_reducible exact sim_partAt
    | with_reducible exact sim_fieldPlace
    | with_reducible exact sim_boundsPanic
    | with_reducible exact sim_intArith
    | with_reducible exact sim_intDiv
    | with_reducible exact sim_intBits
    | with_reducible exact sim_shift
    | with_reducible exact sim_intCmp
    | with_reducible exact sim_stringOp
    | with_reducible exact sim_floatArith
    | with_reducible exact sim_floatCmp
    | with_reducible exact sim_floatToFloat
    | with_reducible exact sim_carith
    | with_reducible exact sim_ccmp
    | with_reducible exact sim_cconv
    | with_reducible exact sim_cadd
    | with_reducible exact sim_csub
    | with_reducible exact sim_cmul
    | with_reducible exact sim_cquo
    | with_reducible exact sim_cproduct
    | with_reducible exact sim_ccorrected
    | with_reducible exact sim_cquotient
    | with_reducible exact sim_complexOp
    | with_reducible exact sim_unary
    | with_reducible exact sim_samePointer
    | with_reducible exact sim_typeStr
    | with_reducible exact sim_equalIn _ _ _ _
    | with_reducible exact sim_equal
    | with_reducible exact sim_eqGuardIn _ _ _ _
    | with_reducible exact sim_eqGuard
    | with_reducible exact sim_unsafeAdd
    | with_reducible exact sim_movedNumber
    | with_reducible exact sim_movedPointer
    | with_reducible exact sim_twoPlaces
    | with_reducible exact sim_addrSub
    | with_reducible exact sim_addrCmp
    | with_reducible exact sim_addrMod
    | with_reducible exact sim_binOp
    | with_reducible exact sim_stringToBytes
    | with_reducible exact sim_stringToRunes
    | with_reducible exact sim_bytesToString
    | with_reducible exact sim_runesToString
    | with_reducible exact sim_intToInt
    | with_reducible exact sim_intToFloat
    | with_reducible exact sim_intToString
    | with_reducible exact sim_floatToInt
    | with_reducible exact sim_complexToComplex
    | with_reducible exact sim_backFromNumber
    | with_reducible exact sim_variablesAt
    | with_reducible exact sim_seenAt
    | with_reducible exact sim_unsafePointer
    | with_reducible exact sim_convert
    | with_reducible exact sim_alloc
    | with_reducible refine Sim.bind (N := fun _ => True) ?_ fun _ _ => ?_
    | with_reducible refine sim_map ?_
    | with_reducible refine sim_forInA (fun _ _ => ?_) _ _
    | with_reducible refine sim_forInR (fun _ _ => ?_) _ _
    | with_reducible refine sim_mapA (fun _ => ?_) _
    | with_reducible refine sim_foldL (fun _ _ => ?_) _ _
    | split
    | dsimp only

theorem sim_build {t : TypeId} {x : Array (Nat × Value)} : Sim P S (fun _ => True) (Instr.build t x) := by
  unfold Instr.build
  repeat' first
    | with_reducible exact Sim.pure trivial
    | with_reducible exact sim_stuck
    | with_reducible exact sim_unsupported
    | with_reducible exact sim_panic
    | with_reducible exact sim_runtimePanic
    | with_reducible exact sim_getObj'
    | with_reducible exact sim_setObj (hS _)
    | with_reducible exact sim_program'
    | with_reducible exact sim_load
    | with_reducible exact sim_store
    | with_reducible exact sim_new
    | with_reducible exact sim_shape
    | with_reducible exact sim_choose
    | with_reducible exact sim_askRoom
    | with_reducible exact sim_typeInfo
    | with_reducible exact sim_underlying
    | with_reducible exact sim_zeroValue
    | with_reducible exact sim_sizeOf
    | with_reducible exact sim_isAgg
    | with_reducible exact sim_loadCells
    | with_reducible exact sim_storeCells _ _
    | with_reducible exact sim_loadVar
    | with_reducible exact sim_storeVar
    | with_reducible exact sim_newRow
    | with_reducible exact sim_newVar
    | with_reducible exact sim_elemOf
    | with_reducible exact sim_part
    | with_reducible exact sim_viewAt
    | with_reducible exact sim_numberAt
    | with_reducible exact sim_cellsIn
    | with_reducible exact sim_noView
    | with_reducible exact sim_asBool
    | with_reducible exact sim_asString
    | with_reducible exact sim_asAgg
    | with_reducible exact sim_asIntOf
    | with_reducible exact sim_asInt
    | with_reducible exact sim_asAddr
    | with_reducible exact sim_sameAddr
    | with_reducible exact sim_freeze
    | with_reducible exact sim_markStringish
    | with_reducible exact sim_asNumber
    | with_reducible exact sim_behindNumber
    | with_reducible exact sim_byteOf
    | with_reducible exact sim_partAt
    | with_reducible exact sim_fieldPlace
    | with_reducible exact sim_boundsPanic
    | with_reducible exact sim_intArith
    | with_reducible exact sim_intDiv
    | with_reducible exact sim_intBits
    | with_reducible exact sim_shift
    | with_reducible exact sim_intCmp
    | with_reducible exact sim_stringOp
    | with_reducible exact sim_floatArith
    | with_reducible exact sim_floatCmp
    | with_reducible exact sim_floatToFloat
    | with_reducible exact sim_carith
    | with_reducible exact sim_ccmp
    | with_reducible exact sim_cconv
    | with_reducible exact sim_cadd
    | with_reducible exact sim_csub
    | with_reducible exact sim_cmul
    | with_reducible exact sim_cquo
    | with_reducible exact sim_cproduct
    | with_reducible exact sim_ccorrected
    | with_reducible exact sim_cquotient
    | with_reducible exact sim_complexOp
    | with_reducible exact sim_unary
    | with_reducible exact sim_samePointer
    | with_reducible exact sim_typeStr
    | with_reducible exact sim_equalIn _ _ _ _
    | with_reducible exact sim_equal
    | with_reducible exact sim_eqGuardIn _ _ _ _
    | with_reducible exact sim_eqGuard
    | with_reducible exact sim_unsafeAdd
    | with_reducible exact sim_movedNumber
    | with_reducible exact sim_movedPointer
    | with_reducible exact sim_twoPlaces
    | with_reducible exact sim_addrSub
    | with_reducible exact sim_addrCmp
    | with_reducible exact sim_addrMod
    | with_reducible exact sim_binOp
    | with_reducible exact sim_stringToBytes
    | with_reducible exact sim_stringToRunes
    | with_reducible exact sim_bytesToString
    | with_reducible exact sim_runesToString
    | with_reducible exact sim_intToInt
    | with_reducible exact sim_intToFloat
    | with_reducible exact sim_intToString
    | with_reducible exact sim_floatToInt
    | with_reducible exact sim_complexToComplex
    | with_reducible exact sim_backFromNumber
    | with_reducible exact sim_variablesAt
    | with_reducible exact sim_seenAt
    | with_reducible exact sim_unsafePointer
    | with_reducible exact sim_convert
    | with_reducible exact sim_alloc
    | with_reducible exact sim_box
    | with_reducible refine Sim.bind (N := fun _ => True) ?_ fun _ _ => ?_
    | with_reducible refine sim_map ?_
    | with_reducible refine sim_forInA (fun _ _ => ?_) _ _
    | with_reducible refine sim_forInR (fun _ _ => ?_) _ _
    | with_reducible refine sim_mapA (fun _ => ?_) _
    | with_reducible refine sim_foldL (fun _ _ => ?_) _ _
    | split
    | dsimp only

theorem sim_buildSlice {t : TypeId} {n : Nat} {x : Array (Nat × Value)} : Sim P S (fun _ => True) (Instr.buildSlice t n x) := by
  unfold Instr.buildSlice
  repeat' first
    | with_reducible exact Sim.pure trivial
    | with_reducible exact sim_stuck
    | with_reducible exact sim_unsupported
    | with_reducible exact sim_panic
    | with_reducible exact sim_runtimePanic
    | with_reducible exact sim_getObj'
    | with_reducible exact sim_setObj (hS _)
    | with_reducible exact sim_program'
    | with_reducible exact sim_load
    | with_reducible exact sim_store
    | with_reducible exact sim_new
    | with_reducible exact sim_shape
    | with_reducible exact sim_choose
    | with_reducible exact sim_askRoom
    | with_reducible exact sim_typeInfo
    | with_reducible exact sim_underlying
    | with_reducible exact sim_zeroValue
    | with_reducible exact sim_sizeOf
    | with_reducible exact sim_isAgg
    | with_reducible exact sim_loadCells
    | with_reducible exact sim_storeCells _ _
    | with_reducible exact sim_loadVar
    | with_reducible exact sim_storeVar
    | with_reducible exact sim_newRow
    | with_reducible exact sim_newVar
    | with_reducible exact sim_elemOf
    | with_reducible exact sim_part
    | with_reducible exact sim_viewAt
    | with_reducible exact sim_numberAt
    | with_reducible exact sim_cellsIn
    | with_reducible exact sim_noView
    | with_reducible exact sim_asBool
    | with_reducible exact sim_asString
    | with_reducible exact sim_asAgg
    | with_reducible exact sim_asIntOf
    | with_reducible exact sim_asInt
    | with_reducible exact sim_asAddr
    | with_reducible exact sim_sameAddr
    | with_reducible exact sim_freeze
    | with_reducible exact sim_markStringish
    | with_reducible exact sim_asNumber
    | with_reducible exact sim_behindNumber
    | with_reducible exact sim_byteOf
    | with_reducible exact sim_partAt
    | with_reducible exact sim_fieldPlace
    | with_reducible exact sim_boundsPanic
    | with_reducible exact sim_intArith
    | with_reducible exact sim_intDiv
    | with_reducible exact sim_intBits
    | with_reducible exact sim_shift
    | with_reducible exact sim_intCmp
    | with_reducible exact sim_stringOp
    | with_reducible exact sim_floatArith
    | with_reducible exact sim_floatCmp
    | with_reducible exact sim_floatToFloat
    | with_reducible exact sim_carith
    | with_reducible exact sim_ccmp
    | with_reducible exact sim_cconv
    | with_reducible exact sim_cadd
    | with_reducible exact sim_csub
    | with_reducible exact sim_cmul
    | with_reducible exact sim_cquo
    | with_reducible exact sim_cproduct
    | with_reducible exact sim_ccorrected
    | with_reducible exact sim_cquotient
    | with_reducible exact sim_complexOp
    | with_reducible exact sim_unary
    | with_reducible exact sim_samePointer
    | with_reducible exact sim_typeStr
    | with_reducible exact sim_equalIn _ _ _ _
    | with_reducible exact sim_equal
    | with_reducible exact sim_eqGuardIn _ _ _ _
    | with_reducible exact sim_eqGuard
    | with_reducible exact sim_unsafeAdd
    | with_reducible exact sim_movedNumber
    | with_reducible exact sim_movedPointer
    | with_reducible exact sim_twoPlaces
    | with_reducible exact sim_addrSub
    | with_reducible exact sim_addrCmp
    | with_reducible exact sim_addrMod
    | with_reducible exact sim_binOp
    | with_reducible exact sim_stringToBytes
    | with_reducible exact sim_stringToRunes
    | with_reducible exact sim_bytesToString
    | with_reducible exact sim_runesToString
    | with_reducible exact sim_intToInt
    | with_reducible exact sim_intToFloat
    | with_reducible exact sim_intToString
    | with_reducible exact sim_floatToInt
    | with_reducible exact sim_complexToComplex
    | with_reducible exact sim_backFromNumber
    | with_reducible exact sim_variablesAt
    | with_reducible exact sim_seenAt
    | with_reducible exact sim_unsafePointer
    | with_reducible exact sim_convert
    | with_reducible exact sim_alloc
    | with_reducible exact sim_box
    | with_reducible exact sim_build
    | with_reducible refine Sim.bind (N := fun _ => True) ?_ fun _ _ => ?_
    | with_reducible refine sim_map ?_
    | with_reducible refine sim_forInA (fun _ _ => ?_) _ _
    | with_reducible refine sim_forInR (fun _ _ => ?_) _ _
    | with_reducible refine sim_mapA (fun _ => ?_) _
    | with_reducible refine sim_foldL (fun _ _ => ?_) _ _
    | split
    | dsimp only

theorem sim_sureAddr {x : Value} : Sim P S (fun _ => True) (Instr.sureAddr x) := by
  unfold Instr.sureAddr
  repeat' first
    | with_reducible exact Sim.pure trivial
    | with_reducible exact sim_stuck
    | with_reducible exact sim_unsupported
    | with_reducible exact sim_panic
    | with_reducible exact sim_runtimePanic
    | with_reducible exact sim_getObj'
    | with_reducible exact sim_setObj (hS _)
    | with_reducible exact sim_program'
    | with_reducible exact sim_load
    | with_reducible exact sim_store
    | with_reducible exact sim_new
    | with_reducible exact sim_shape
    | with_reducible exact sim_choose
    | with_reducible exact sim_askRoom
    | with_reducible exact sim_typeInfo
    | with_reducible exact sim_underlying
    | with_reducible exact sim_zeroValue
    | with_reducible exact sim_sizeOf
    | with_reducible exact sim_isAgg
    | with_reducible exact sim_loadCells
    | with_reducible exact sim_storeCells _ _
    | with_reducible exact sim_loadVar
    | with_reducible exact sim_storeVar
    | with_reducible exact sim_newRow
    | with_reducible exact sim_newVar
    | with_reducible exact sim_elemOf
    | with_reducible exact sim_part
    | with_reducible exact sim_viewAt
    | with_reducible exact sim_numberAt
    | with_reducible exact sim_cellsIn
    | with_reducible exact sim_noView
    | with_reducible exact sim_asBool
    | with_reducible exact sim_asString
    | with_reducible exact sim_asAgg
    | with_reducible exact sim_asIntOf
    | with_reducible exact sim_asInt
    | with_reducible exact sim_asAddr
    | with_reducible exact sim_sameAddr
    | with_reducible exact sim_freeze
    | with_reducible exact sim_markStringish
    | with_reducible exact sim_asNumber
    | with_reducible exact sim_behindNumber
    | with_reducible exact sim_byteOf
    | with_reducible exact sim_partAt
    | with_reducible exact sim_fieldPlace
    | with_reducible exact sim_boundsPanic
    | with_reducible exact sim_intArith
    | with_reducible exact sim_intDiv
    | with_reducible exact sim_intBits
    | with_reducible exact sim_shift
    | with_reducible exact sim_intCmp
    | with_reducible exact sim_stringOp
    | with_reducible exact sim_floatArith
    | with_reducible exact sim_floatCmp
    | with_reducible exact sim_floatToFloat
    | with_reducible exact sim_carith
    | with_reducible exact sim_ccmp
    | with_reducible exact sim_cconv
    | with_reducible exact sim_cadd
    | with_reducible exact sim_csub
    | with_reducible exact sim_cmul
    | with_reducible exact sim_cquo
    | with_reducible exact sim_cproduct
    | with_reducible exact sim_ccorrected
    | with_reducible exact sim_cquotient
    | with_reducible exact sim_complexOp
    | with_reducible exact sim_unary
    | with_reducible exact sim_samePointer
    | with_reducible exact sim_typeStr
    | with_reducible exact sim_equalIn _ _ _ _
    | with_reducible exact sim_equal
    | with_reducible exact sim_eqGuardIn _ _ _ _
    | with_reducible exact sim_eqGuard
    | with_reducible exact sim_unsafeAdd
    | with_reducible exact sim_movedNumber
    | with_reducible exact sim_movedPointer
    | with_reducible exact sim_twoPlaces
    | with_reducible exact sim_addrSub
    | with_reducible exact sim_addrCmp
    | with_reducible exact sim_addrMod
    | with_reducible exact sim_binOp
    | with_reducible exact sim_stringToBytes
    | with_reducible exact sim_stringToRunes
    | with_reducible exact sim_bytesToString
    | with_reducible exact sim_runesToString
    | with_reducible exact sim_intToInt
    | with_reducible exact sim_intToFloat
    | with_reducible exact sim_intToString
    | with_reducible exact sim_floatToInt
    | with_reducible exact sim_complexToComplex
    | with_reducible exact sim_backFromNumber
    | with_reducible exact sim_variablesAt
    | with_reducible exact sim_seenAt
    | with_reducible exact sim_unsafePointer
    | with_reducible exact sim_convert
    | with_reducible exact sim_alloc
    | with_reducible exact sim_box
    | with_reducible exact sim_build
    | with_reducible exact sim_buildSlice
    | with_reducible refine Sim.bind (N := fun _ => True) ?_ fun _ _ => ?_
    | with_reducible refine sim_map ?_
    | with_reducible refine sim_forInA (fun _ _ => ?_) _ _
    | with_reducible refine sim_forInR (fun _ _ => ?_) _ _
    | with_reducible refine sim_mapA (fun _ => ?_) _
    | with_reducible refine sim_foldL (fun _ _ => ?_) _ _
    | split
    | dsimp only

theorem sim_loadAt {t : TypeId} {x : Value} : Sim P S (fun _ => True) (Instr.loadAt t x) := by
  unfold Instr.loadAt
  repeat' first
    | with_reducible exact Sim.pure trivial
    | with_reducible exact sim_stuck
    | with_reducible exact sim_unsupported
    | with_reducible exact sim_panic
    | with_reducible exact sim_runtimePanic
    | with_reducible exact sim_getObj'
    | with_reducible exact sim_setObj (hS _)
    | with_reducible exact sim_program'
    | with_reducible exact sim_load
    | with_reducible exact sim_store
    | with_reducible exact sim_new
    | with_reducible exact sim_shape
    | with_reducible exact sim_choose
    | with_reducible exact sim_askRoom
    | with_reducible exact sim_typeInfo
    | with_reducible exact sim_underlying
    | with_reducible exact sim_zeroValue
    | with_reducible exact sim_sizeOf
    | with_reducible exact sim_isAgg
    | with_reducible exact sim_loadCells
    | with_reducible exact sim_storeCells _ _
    | with_reducible exact sim_loadVar
    | with_reducible exact sim_storeVar
    | with_reducible exact sim_newRow
    | with_reducible exact sim_newVar
    | with_reducible exact sim_elemOf
    | with_reducible exact sim_part
    | with_reducible exact sim_viewAt
    | with_reducible exact sim_numberAt
    | with_reducible exact sim_cellsIn
    | with_reducible exact sim_noView
    | with_reducible exact sim_asBool
    | with_reducible exact sim_asString
    | with_reducible exact sim_asAgg
    | with_reducible exact sim_asIntOf
    | with_reducible exact sim_asInt
    | with_reducible exact sim_asAddr
    | with_reducible exact sim_sameAddr
    | with_reducible exact sim_freeze
    | with_reducible exact sim_markStringish
    | with_reducible exact sim_asNumber
    | with_reducible exact sim_behindNumber
    | with_reducible exact sim_byteOf
    | with_reducible exact sim_partAt
    | with_reducible exact sim_fieldPlace
    | with_reducible exact sim_boundsPanic
    | with_reducible exact sim_intArith
    | with_reducible exact sim_intDiv
    | with_reducible exact sim_intBits
    | with_reducible exact sim_shift
    | with_reducible exact sim_intCmp
    | with_reducible exact sim_stringOp
    | with_reducible exact sim_floatArith
    | with_reducible exact sim_floatCmp
    | with_reducible exact sim_floatToFloat
    | with_reducible exact sim_carith
    | with_reducible exact sim_ccmp
    | with_reducible exact sim_cconv
    | with_reducible exact sim_cadd
    | with_reducible exact sim_csub
    | with_reducible exact sim_cmul
    | with_reducible exact sim_cquo
    | with_reducible exact sim_cproduct
    | with_reducible exact sim_ccorrected
    | with_reducible exact sim_cquotient
    | with_reducible exact sim_complexOp
    | with_reducible exact sim_unary
    | with_reducible exact sim_samePointer
    | with_reducible exact sim_typeStr
    | with_reducible exact sim_equalIn _ _ _ _
    | with_reducible exact sim_equal
    | with_reducible exact sim_eqGuardIn _ _ _ _
    | with_reducible exact sim_eqGuard
    | with_reducible exact sim_unsafeAdd
    | with_reducible exact sim_movedNumber
    | with_reducible exact sim_movedPointer
    | with_reducible exact sim_twoPlaces
    | with_reducible exact sim_addrSub
    | with_reducible exact sim_addrCmp
    | with_reducible exact sim_addrMod
    | with_reducible exact sim_binOp
    | with_reducible exact sim_stringToBytes
    | with_reducible exact sim_stringToRunes
    | with_reducible exact sim_bytesToString
    | with_reducible exact sim_runesToString
    | with_reducible exact sim_intToInt
    | with_reducible exact sim_intToFloat
    | with_reducible exact sim_intToString
    | with_reducible exact sim_floatToInt
    | with_reducible exact sim_complexToComplex
    | with_reducible exact sim_backFromNumber
    | with_reducible exact sim_variablesAt
    | with_reducible exact sim_seenAt
    | with_reducible exact sim_unsafePointer
    | with_reducible exact sim_convert
    | with_reducible exact sim_alloc
    | with_reducible exact sim_box
    | with_reducible exact sim_build
    | with_reducible exact sim_buildSlice
    | with_reducible exact sim_sureAddr
    | with_reducible refine Sim.bind (N := fun _ => True) ?_ fun _ _ => ?_
    | with_reducible refine sim_map ?_
    | with_reducible refine sim_forInA (fun _ _ => ?_) _ _
    | with_reducible refine sim_forInR (fun _ _ => ?_) _ _
    | with_reducible refine sim_mapA (fun _ => ?_) _
    | with_reducible refine sim_foldL (fun _ _ => ?_) _ _
    | split
    | dsimp only

theorem sim_storeAt {t : TypeId} {x y : Value} : Sim P S (fun _ => True) (Instr.storeAt t x y) := by
  unfold Instr.storeAt
  repeat' first
    | with_reducible exact Sim.pure trivial
    | with_reducible exact sim_stuck
    | with_reducible exact sim_unsupported
    | with_reducible exact sim_panic
    | with_reducible exact sim_runtimePanic
    | with_reducible exact sim_getObj'
    | with_reducible exact sim_setObj (hS _)
    | with_reducible exact sim_program'
    | with_reducible exact sim_load
    | with_reducible exact sim_store
    | with_reducible exact sim_new
    | with_reducible exact sim_shape
    | with_reducible exact sim_choose
    | with_reducible exact sim_askRoom
    | with_reducible exact sim_typeInfo
    | with_reducible exact sim_underlying
    | with_reducible exact sim_zeroValue
    | with_reducible exact sim_sizeOf
    | with_reducible exact sim_isAgg
    | with_reducible exact sim_loadCells
    | with_reducible exact sim_storeCells _ _
    | with_reducible exact sim_loadVar
    | with_reducible exact sim_storeVar
    | with_reducible exact sim_newRow
    | with_reducible exact sim_newVar
    | with_reducible exact sim_elemOf
    | with_reducible exact sim_part
    | with_reducible exact sim_viewAt
    | with_reducible exact sim_numberAt
    | with_reducible exact sim_cellsIn
    | with_reducible exact sim_noView
    | with_reducible exact sim_asBool
    | with_reducible exact sim_asString
    | with_reducible exact sim_asAgg
    | with_reducible exact sim_asIntOf
    | with_reducible exact sim_asInt
    | with_reducible exact sim_asAddr
    | with_reducible exact sim_sameAddr
    | with_reducible exact sim_freeze
    | with_reducible exact sim_markStringish
    | with_reducible exact sim_asNumber
    | with_reducible exact sim_behindNumber
    | with_reducible exact sim_byteOf
    | with_reducible exact sim_partAt
    | with_reducible exact sim_fieldPlace
    | with_reducible exact sim_boundsPanic
    | with_reducible exact sim_intArith
    | with_reducible exact sim_intDiv
    | with_reducible exact sim_intBits
    | with_reducible exact sim_shift
    | with_reducible exact sim_intCmp
    | with_reducible exact sim_stringOp
    | with_reducible exact sim_floatArith
    | with_reducible exact sim_floatCmp
    | with_reducible exact sim_floatToFloat
    | with_reducible exact sim_carith
    | with_reducible exact sim_ccmp
    | with_reducible exact sim_cconv
    | with_reducible exact sim_cadd
    | with_reducible exact sim_csub
    | with_reducible exact sim_cmul
    | with_reducible exact sim_cquo
    | with_reducible exact sim_cproduct
    | with_reducible exact sim_ccorrected
    | with_reducible exact sim_cquotient
    | with_reducible exact sim_complexOp
    | with_reducible exact sim_unary
    | with_reducible exact sim_samePointer
    | with_reducible exact sim_typeStr
    | with_reducible exact sim_equalIn _ _ _ _
    | with_reducible exact sim_equal
    | with_reducible exact sim_eqGuardIn _ _ _ _
    | with_reducible exact sim_eqGuard
    | with_reducible exact sim_unsafeAdd
    | with_reducible exact sim_movedNumber
    | with_reducible exact sim_movedPointer
    | with_reducible exact sim_twoPlaces
    | with_reducible exact sim_addrSub
    | with_reducible exact sim_addrCmp
    | with_reducible exact sim_addrMod
    | with_reducible exact sim_binOp
    | with_reducible exact sim_stringToBytes
    | with_reducible exact sim_stringToRunes
    | with_reducible exact sim_bytesToString
    | with_reducible exact sim_runesToString
    | with_reducible exact sim_intToInt
    | with_reducible exact sim_intToFloat
    | with_reducible exact sim_intToString
    | with_reducible exact sim_floatToInt
    | with_reducible exact sim_complexToComplex
    | with_reducible exact sim_backFromNumber
    | with_reducible exact sim_variablesAt
    | with_reducible exact sim_seenAt
    | with_reducible exact sim_unsafePointer
    | with_reducible exact sim_convert
    | with_reducible exact sim_alloc
    | with_reducible exact sim_box
    | with_reducible exact sim_build
    | with_reducible exact sim_buildSlice
    | with_reducible exact sim_sureAddr
    | with_reducible exact sim_loadAt
    | with_reducible refine Sim.bind (N := fun _ => True) ?_ fun _ _ => ?_
    | with_reducible refine sim_map ?_
    | with_reducible refine sim_forInA (fun _ _ => ?_) _ _
    | with_reducible refine sim_forInR (fun _ _ => ?_) _ _
    | with_reducible refine sim_mapA (fun _ => ?_) _
    | with_reducible refine sim_foldL (fun _ _ => ?_) _ _
    | split
    | dsimp only

theorem sim_fieldAt {t : TypeId} {x : Value} {f : Nat} : Sim P S (fun _ => True) (Instr.fieldAt t x f) := by
  unfold Instr.fieldAt
  repeat' first
    | with_reducible exact Sim.pure trivial
    | with_reducible exact sim_stuck
    | with_reducible exact sim_unsupported
    | with_reducible exact sim_panic
    | with_reducible exact sim_runtimePanic
    | with_reducible exact sim_getObj'
    | with_reducible exact sim_setObj (hS _)
    | with_reducible exact sim_program'
    | with_reducible exact sim_load
    | with_reducible exact sim_store
    | with_reducible exact sim_new
    | with_reducible exact sim_shape
    | with_reducible exact sim_choose
    | with_reducible exact sim_askRoom
    | with_reducible exact sim_typeInfo
    | with_reducible exact sim_underlying
    | with_reducible exact sim_zeroValue
    | with_reducible exact sim_sizeOf
    | with_reducible exact sim_isAgg
    | with_reducible exact sim_loadCells
    | with_reducible exact sim_storeCells _ _
    | with_reducible exact sim_loadVar
    | with_reducible exact sim_storeVar
    | with_reducible exact sim_newRow
    | with_reducible exact sim_newVar
    | with_reducible exact sim_elemOf
    | with_reducible exact sim_part
    | with_reducible exact sim_viewAt
    | with_reducible exact sim_numberAt
    | with_reducible exact sim_cellsIn
    | with_reducible exact sim_noView
    | with_reducible exact sim_asBool
    | with_reducible exact sim_asString
    | with_reducible exact sim_asAgg
    | with_reducible exact sim_asIntOf
    | with_reducible exact sim_asInt
    | with_reducible exact sim_asAddr
    | with_reducible exact sim_sameAddr
    | with_reducible exact sim_freeze
    | with_reducible exact sim_markStringish
    | with_reducible exact sim_asNumber
    | with_reducible exact sim_behindNumber
    | with_reducible exact sim_byteOf
    | with_reducible exact sim_partAt
    | with_reducible exact sim_fieldPlace
    | with_reducible exact sim_boundsPanic
    | with_reducible exact sim_intArith
    | with_reducible exact sim_intDiv
    | with_reducible exact sim_intBits
    | with_reducible exact sim_shift
    | with_reducible exact sim_intCmp
    | with_reducible exact sim_stringOp
    | with_reducible exact sim_floatArith
    | with_reducible exact sim_floatCmp
    | with_reducible exact sim_floatToFloat
    | with_reducible exact sim_carith
    | with_reducible exact sim_ccmp
    | with_reducible exact sim_cconv
    | with_reducible exact sim_cadd
    | with_reducible exact sim_csub
    | with_reducible exact sim_cmul
    | with_reducible exact sim_cquo
    | with_reducible exact sim_cproduct
    | with_reducible exact sim_ccorrected
    | with_reducible exact sim_cquotient
    | with_reducible exact sim_complexOp
    | with_reducible exact sim_unary
    | with_reducible exact sim_samePointer
    | with_reducible exact sim_typeStr
    | with_reducible exact sim_equalIn _ _ _ _
    | with_reducible exact sim_equal
    | with_reducible exact sim_eqGuardIn _ _ _ _
    | with_reducible exact sim_eqGuard
    | with_reducible exact sim_unsafeAdd
    | with_reducible exact sim_movedNumber
    | with_reducible exact sim_movedPointer
    | with_reducible exact sim_twoPlaces
    | with_reducible exact sim_addrSub
    | with_reducible exact sim_addrCmp
    | with_reducible exact sim_addrMod
    | with_reducible exact sim_binOp
    | with_reducible exact sim_stringToBytes
    | with_reducible exact sim_stringToRunes
    | with_reducible exact sim_bytesToString
    | with_reducible exact sim_runesToString
    | with_reducible exact sim_intToInt
    | with_reducible exact sim_intToFloat
    | with_reducible exact sim_intToString
    | with_reducible exact sim_floatToInt
    | with_reducible exact sim_complexToComplex
    | with_reducible exact sim_backFromNumber
    | with_reducible exact sim_variablesAt
    | with_reducible exact sim_seenAt
    | with_reducible exact sim_unsafePointer
    | with_reducible exact sim_convert
    | with_reducible exact sim_alloc
    | with_reducible exact sim_box
    | with_reducible exact sim_build
    | with_reducible exact sim_buildSlice
    | with_reducible exact sim_sureAddr
    | with_reducible exact sim_loadAt
    | with_reducible exact sim_storeAt
    | with_reducible refine Sim.bind (N := fun _ => True) ?_ fun _ _ => ?_
    | with_reducible refine sim_map ?_
    | with_reducible refine sim_forInA (fun _ _ => ?_) _ _
    | with_reducible refine sim_forInR (fun _ _ => ?_) _ _
    | with_reducible refine sim_mapA (fun _ => ?_) _
    | with_reducible refine sim_foldL (fun _ _ => ?_) _ _
    | split
    | dsimp only

theorem sim_indexAt {t : TypeId} {x i : Value} : Sim P S (fun _ => True) (Instr.indexAt t x i) := by
  unfold Instr.indexAt
  repeat' first
    | with_reducible exact Sim.pure trivial
    | with_reducible exact sim_stuck
    | with_reducible exact sim_unsupported
    | with_reducible exact sim_panic
    | with_reducible exact sim_runtimePanic
    | with_reducible exact sim_getObj'
    | with_reducible exact sim_setObj (hS _)
    | with_reducible exact sim_program'
    | with_reducible exact sim_load
    | with_reducible exact sim_store
    | with_reducible exact sim_new
    | with_reducible exact sim_shape
    | with_reducible exact sim_choose
    | with_reducible exact sim_askRoom
    | with_reducible exact sim_typeInfo
    | with_reducible exact sim_underlying
    | with_reducible exact sim_zeroValue
    | with_reducible exact sim_sizeOf
    | with_reducible exact sim_isAgg
    | with_reducible exact sim_loadCells
    | with_reducible exact sim_storeCells _ _
    | with_reducible exact sim_loadVar
    | with_reducible exact sim_storeVar
    | with_reducible exact sim_newRow
    | with_reducible exact sim_newVar
    | with_reducible exact sim_elemOf
    | with_reducible exact sim_part
    | with_reducible exact sim_viewAt
    | with_reducible exact sim_numberAt
    | with_reducible exact sim_cellsIn
    | with_reducible exact sim_noView
    | with_reducible exact sim_asBool
    | with_reducible exact sim_asString
    | with_reducible exact sim_asAgg
    | with_reducible exact sim_asIntOf
    | with_reducible exact sim_asInt
    | with_reducible exact sim_asAddr
    | with_reducible exact sim_sameAddr
    | with_reducible exact sim_freeze
    | with_reducible exact sim_markStringish
    | with_reducible exact sim_asNumber
    | with_reducible exact sim_behindNumber
    | with_reducible exact sim_byteOf
    | with_reducible exact sim_partAt
    | with_reducible exact sim_fieldPlace
    | with_reducible exact sim_boundsPanic
    | with_reducible exact sim_intArith
    | with_reducible exact sim_intDiv
    | with_reducible exact sim_intBits
    | with_reducible exact sim_shift
    | with_reducible exact sim_intCmp
    | with_reducible exact sim_stringOp
    | with_reducible exact sim_floatArith
    | with_reducible exact sim_floatCmp
    | with_reducible exact sim_floatToFloat
    | with_reducible exact sim_carith
    | with_reducible exact sim_ccmp
    | with_reducible exact sim_cconv
    | with_reducible exact sim_cadd
    | with_reducible exact sim_csub
    | with_reducible exact sim_cmul
    | with_reducible exact sim_cquo
    | with_reducible exact sim_cproduct
    | with_reducible exact sim_ccorrected
    | with_reducible exact sim_cquotient
    | with_reducible exact sim_complexOp
    | with_reducible exact sim_unary
    | with_reducible exact sim_samePointer
    | with_reducible exact sim_typeStr
    | with_reducible exact sim_equalIn _ _ _ _
    | with_reducible exact sim_equal
    | with_reducible exact sim_eqGuardIn _ _ _ _
    | with_reducible exact sim_eqGuard
    | with_reducible exact sim_unsafeAdd
    | with_reducible exact sim_movedNumber
    | with_reducible exact sim_movedPointer
    | with_reducible exact sim_twoPlaces
    | with_reducible exact sim_addrSub
    | with_reducible exact sim_addrCmp
    | with_reducible exact sim_addrMod
    | with_reducible exact sim_binOp
    | with_reducible exact sim_stringToBytes
    | with_reducible exact sim_stringToRunes
    | with_reducible exact sim_bytesToString
    | with_reducible exact sim_runesToString
    | with_reducible exact sim_intToInt
    | with_reducible exact sim_intToFloat
    | with_reducible exact sim_intToString
    | with_reducible exact sim_floatToInt
    | with_reducible exact sim_complexToComplex
    | with_reducible exact sim_backFromNumber
    | with_reducible exact sim_variablesAt
    | with_reducible exact sim_seenAt
    | with_reducible exact sim_unsafePointer
    | with_reducible exact sim_convert
    | with_reducible exact sim_alloc
    | with_reducible exact sim_box
    | with_reducible exact sim_build
    | with_reducible exact sim_buildSlice
    | with_reducible exact sim_sureAddr
    | with_reducible exact sim_loadAt
    | with_reducible exact sim_storeAt
    | with_reducible exact sim_fieldAt
    | with_reducible refine Sim.bind (N := fun _ => True) ?_ fun _ _ => ?_
    | with_reducible refine sim_map ?_
    | with_reducible refine sim_forInA (fun _ _ => ?_) _ _
    | with_reducible refine sim_forInR (fun _ _ => ?_) _ _
    | with_reducible refine sim_mapA (fun _ => ?_) _
    | with_reducible refine sim_foldL (fun _ _ => ?_) _ _
    | split
    | dsimp only

theorem sim_sliceBound {x : Value} {y : Nat} {c : BoundsCode} : Sim P S (fun _ => True) (Instr.sliceBound x y c) := by
  unfold Instr.sliceBound
  repeat' first
    | with_reducible exact Sim.pure trivial
    | with_reducible exact sim_stuck
    | with_reducible exact sim_unsupported
    | with_reducible exact sim_panic
    | with_reducible exact sim_runtimePanic
    | with_reducible exact sim_getObj'
    | with_reducible exact sim_setObj (hS _)
    | with_reducible exact sim_program'
    | with_reducible exact sim_load
    | with_reducible exact sim_store
    | with_reducible exact sim_new
    | with_reducible exact sim_shape
    | with_reducible exact sim_choose
    | with_reducible exact sim_askRoom
    | with_reducible exact sim_typeInfo
    | with_reducible exact sim_underlying
    | with_reducible exact sim_zeroValue
    | with_reducible exact sim_sizeOf
    | with_reducible exact sim_isAgg
    | with_reducible exact sim_loadCells
    | with_reducible exact sim_storeCells _ _
    | with_reducible exact sim_loadVar
    | with_reducible exact sim_storeVar
    | with_reducible exact sim_newRow
    | with_reducible exact sim_newVar
    | with_reducible exact sim_elemOf
    | with_reducible exact sim_part
    | with_reducible exact sim_viewAt
    | with_reducible exact sim_numberAt
    | with_reducible exact sim_cellsIn
    | with_reducible exact sim_noView
    | with_reducible exact sim_asBool
    | with_reducible exact sim_asString
    | with_reducible exact sim_asAgg
    | with_reducible exact sim_asIntOf
    | with_reducible exact sim_asInt
    | with_reducible exact sim_asAddr
    | with_reducible exact sim_sameAddr
    | with_reducible exact sim_freeze
    | with_reducible exact sim_markStringish
    | with_reducible exact sim_asNumber
    | with_reducible exact sim_behindNumber
    | with_reducible exact sim_byteOf
    | with_reducible exact sim_partAt
    | with_reducible exact sim_fieldPlace
    | with_reducible exact sim_boundsPanic
    | with_reducible exact sim_intArith
    | with_reducible exact sim_intDiv
    | with_reducible exact sim_intBits
    | with_reducible exact sim_shift
    | with_reducible exact sim_intCmp
    | with_reducible exact sim_stringOp
    | with_reducible exact sim_floatArith
    | with_reducible exact sim_floatCmp
    | with_reducible exact sim_floatToFloat
    | with_reducible exact sim_carith
    | with_reducible exact sim_ccmp
    | with_reducible exact sim_cconv
    | with_reducible exact sim_cadd
    | with_reducible exact sim_csub
    | with_reducible exact sim_cmul
    | with_reducible exact sim_cquo
    | with_reducible exact sim_cproduct
    | with_reducible exact sim_ccorrected
    | with_reducible exact sim_cquotient
    | with_reducible exact sim_complexOp
    | with_reducible exact sim_unary
    | with_reducible exact sim_samePointer
    | with_reducible exact sim_typeStr
    | with_reducible exact sim_equalIn _ _ _ _
    | with_reducible exact sim_equal
    | with_reducible exact sim_eqGuardIn _ _ _ _
    | with_reducible exact sim_eqGuard
    | with_reducible exact sim_unsafeAdd
    | with_reducible exact sim_movedNumber
    | with_reducible exact sim_movedPointer
    | with_reducible exact sim_twoPlaces
    | with_reducible exact sim_addrSub
    | with_reducible exact sim_addrCmp
    | with_reducible exact sim_addrMod
    | with_reducible exact sim_binOp
    | with_reducible exact sim_stringToBytes
    | with_reducible exact sim_stringToRunes
    | with_reducible exact sim_bytesToString
    | with_reducible exact sim_runesToString
    | with_reducible exact sim_intToInt
    | with_reducible exact sim_intToFloat
    | with_reducible exact sim_intToString
    | with_reducible exact sim_floatToInt
    | with_reducible exact sim_complexToComplex
    | with_reducible exact sim_backFromNumber
    | with_reducible exact sim_variablesAt
    | with_reducible exact sim_seenAt
    | with_reducible exact sim_unsafePointer
    | with_reducible exact sim_convert
    | with_reducible exact sim_alloc
    | with_reducible exact sim_box
    | with_reducible exact sim_build
    | with_reducible exact sim_buildSlice
    | with_reducible exact sim_sureAddr
    | with_reducible exact sim_loadAt
    | with_reducible exact sim_storeAt
    | with_reducible exact sim_fieldAt
    | with_reducible exact sim_indexAt
    | with_reducible refine Sim.bind (N := fun _ => True) ?_ fun _ _ => ?_
    | with_reducible refine sim_map ?_
    | with_reducible refine sim_forInA (fun _ _ => ?_) _ _
    | with_reducible refine sim_forInR (fun _ _ => ?_) _ _
    | with_reducible refine sim_mapA (fun _ => ?_) _
    | with_reducible refine sim_foldL (fun _ _ => ?_) _ _
    | split
    | dsimp only

theorem sim_sliceBounds {b : Bool} {m n : Nat} {x y z : Option Value} : Sim P S (fun _ => True) (Instr.sliceBounds b m n x y z) := by
  unfold Instr.sliceBounds
  repeat' first
    | with_reducible exact Sim.pure trivial
    | with_reducible exact sim_stuck
    | with_reducible exact sim_unsupported
    | with_reducible exact sim_panic
    | with_reducible exact sim_runtimePanic
    | with_reducible exact sim_getObj'
    | with_reducible exact sim_setObj (hS _)
    | with_reducible exact sim_program'
    | with_reducible exact sim_load
    | with_reducible exact sim_store
    | with_reducible exact sim_new
    | with_reducible exact sim_shape
    | with_reducible exact sim_choose
    | with_reducible exact sim_askRoom
    | with_reducible exact sim_typeInfo
    | with_reducible exact sim_underlying
    | with_reducible exact sim_zeroValue
    | with_reducible exact sim_sizeOf
    | with_reducible exact sim_isAgg
    | with_reducible exact sim_loadCells
    | with_reducible exact sim_storeCells _ _
    | with_reducible exact sim_loadVar
    | with_reducible exact sim_storeVar
    | with_reducible exact sim_newRow
    | with_reducible exact sim_newVar
    | with_reducible exact sim_elemOf
    | with_reducible exact sim_part
    | with_reducible exact sim_viewAt
    | with_reducible exact sim_numberAt
    | with_reducible exact sim_cellsIn
    | with_reducible exact sim_noView
    | with_reducible exact sim_asBool
    | with_reducible exact sim_asString
    | with_reducible exact sim_asAgg
    | with_reducible exact sim_asIntOf
    | with_reducible exact sim_asInt
    | with_reducible exact sim_asAddr
    | with_reducible exact sim_sameAddr
    | with_reducible exact sim_freeze
    | with_reducible exact sim_markStringish
    | with_reducible exact sim_asNumber
    | with_reducible exact sim_behindNumber
    | with_reducible exact sim_byteOf
    | with_reducible exact sim_partAt
    | with_reducible exact sim_fieldPlace
    | with_reducible exact sim_boundsPanic
    | with_reducible exact sim_intArith
    | with_reducible exact sim_intDiv
    | with_reducible exact sim_intBits
    | with_reducible exact sim_shift
    | with_reducible exact sim_intCmp
    | with_reducible exact sim_stringOp
    | with_reducible exact sim_floatArith
    | with_reducible exact sim_floatCmp
    | with_reducible exact sim_floatToFloat
    | with_reducible exact sim_carith
    | with_reducible exact sim_ccmp
    | with_reducible exact sim_cconv
    | with_reducible exact sim_cadd
    | with_reducible exact sim_csub
    | with_reducible exact sim_cmul
    | with_reducible exact sim_cquo
    | with_reducible exact sim_cproduct
    | with_reducible exact sim_ccorrected
    | with_reducible exact sim_cquotient
    | with_reducible exact sim_complexOp
    | with_reducible exact sim_unary
    | with_reducible exact sim_samePointer
    | with_reducible exact sim_typeStr
    | with_reducible exact sim_equalIn _ _ _ _
    | with_reducible exact sim_equal
    | with_reducible exact sim_eqGuardIn _ _ _ _
    | with_reducible exact sim_eqGuard
    | with_reducible exact sim_unsafeAdd
    | with_reducible exact sim_movedNumber
    | with_reducible exact sim_movedPointer
    | with_reducible exact sim_twoPlaces
    | with_reducible exact sim_addrSub
    | with_reducible exact sim_addrCmp
    | with_reducible exact sim_addrMod
    | with_reducible exact sim_binOp
    | with_reducible exact sim_stringToBytes
    | with_reducible exact sim_stringToRunes
    | with_reducible exact sim_bytesToString
    | with_reducible exact sim_runesToString
    | with_reducible exact sim_intToInt
    | with_reducible exact sim_intToFloat
    | with_reducible exact sim_intToString
    | with_reducible exact sim_floatToInt
    | with_reducible exact sim_complexToComplex
    | with_reducible exact sim_backFromNumber
    | with_reducible exact sim_variablesAt
    | with_reducible exact sim_seenAt
    | with_reducible exact sim_unsafePointer
    | with_reducible exact sim_convert
    | with_reducible exact sim_alloc
    | with_reducible exact sim_box
    | with_reducible exact sim_build
    | with_reducible exact sim_buildSlice
    | with_reducible exact sim_sureAddr
    | with_reducible exact sim_loadAt
    | with_reducible exact sim_storeAt
    | with_reducible exact sim_fieldAt
    | with_reducible exact sim_indexAt
    | with_reducible exact sim_sliceBound
    | with_reducible refine Sim.bind (N := fun _ => True) ?_ fun _ _ => ?_
    | with_reducible refine sim_map ?_
    | with_reducible refine sim_forInA (fun _ _ => ?_) _ _
    | with_reducible refine sim_forInR (fun _ _ => ?_) _ _
    | with_reducible refine sim_mapA (fun _ => ?_) _
    | with_reducible refine sim_foldL (fun _ _ => ?_) _ _
    | split
    | dsimp only

theorem sim_slice {t : TypeId} {v : Value} {x y z : Option Value} : Sim P S (fun _ => True) (Instr.slice t v x y z) := by
  unfold Instr.slice
  repeat' first
    | with_reducible exact Sim.pure trivial
    | with_reducible exact sim_stuck
    | with_reducible exact sim_unsupported
    | with_reducible exact sim_panic
    | with_reducible exact sim_runtimePanic
    | with_reducible exact sim_getObj'
    | with_reducible exact sim_setObj (hS _)
    | with_reducible exact sim_program'
    | with_reducible exact sim_load
    | with_reducible exact sim_store
    | with_reducible exact sim_new
    | with_reducible exact sim_shape
    | with_reducible exact sim_choose
    | with_reducible exact sim_askRoom
    | with_reducible exact sim_typeInfo
    | with_reducible exact sim_underlying
    | with_reducible exact sim_zeroValue
    | with_reducible exact sim_sizeOf
    | with_reducible exact sim_isAgg
    | with_reducible exact sim_loadCells
    | with_reducible exact sim_storeCells _ _
    | with_reducible exact sim_loadVar
    | with_reducible exact sim_storeVar
    | with_reducible exact sim_newRow
    | with_reducible exact sim_newVar
    | with_reducible exact sim_elemOf
    | with_reducible exact sim_part
    | with_reducible exact sim_viewAt
    | with_reducible exact sim_numberAt
    | with_reducible exact sim_cellsIn
    | with_reducible exact sim_noView
    | with_reducible exact sim_asBool
    | with_reducible exact sim_asString
    | with_reducible exact sim_asAgg
    | with_reducible exact sim_asIntOf
    | with_reducible exact sim_asInt
    | with_reducible exact sim_asAddr
    | with_reducible exact sim_sameAddr
    | with_reducible exact sim_freeze
    | with_reducible exact sim_markStringish
    | with_reducible exact sim_asNumber
    | with_reducible exact sim_behindNumber
    | with_reducible exact sim_byteOf
    | with_reducible exact sim_partAt
    | with_reducible exact sim_fieldPlace
    | with_reducible exact sim_boundsPanic
    | with_reducible exact sim_intArith
    | with_reducible exact sim_intDiv
    | with_reducible exact sim_intBits
    | with_reducible exact sim_shift
    | with_reducible exact sim_intCmp
    | with_reducible exact sim_stringOp
    | with_reducible exact sim_floatArith
    | with_reducible exact sim_floatCmp
    | with_reducible exact sim_floatToFloat
    | with_reducible exact sim_carith
    | with_reducible exact sim_ccmp
    | with_reducible exact sim_cconv
    | with_reducible exact sim_cadd
    | with_reducible exact sim_csub
    | with_reducible exact sim_cmul
    | with_reducible exact sim_cquo
    | with_reducible exact sim_cproduct
    | with_reducible exact sim_ccorrected
    | with_reducible exact sim_cquotient
    | with_reducible exact sim_complexOp
    | with_reducible exact sim_unary
    | with_reducible exact sim_samePointer
    | with_reducible exact sim_typeStr
    | with_reducible exact sim_equalIn _ _ _ _
    | with_reducible exact sim_equal
    | with_reducible exact sim_eqGuardIn _ _ _ _
    | with_reducible exact sim_eqGuard
    | with_reducible exact sim_unsafeAdd
    | with_reducible exact sim_movedNumber
    | with_reducible exact sim_movedPointer
    | with_reducible exact sim_twoPlaces
    | with_reducible exact sim_addrSub
    | with_reducible exact sim_addrCmp
    | with_reducible exact sim_addrMod
    | with_reducible exact sim_binOp
    | with_reducible exact sim_stringToBytes
    | with_reducible exact sim_stringToRunes
    | with_reducible exact sim_bytesToString
    | with_reducible exact sim_runesToString
    | with_reducible exact sim_intToInt
    | with_reducible exact sim_intToFloat
    | with_reducible exact sim_intToString
    | with_reducible exact sim_floatToInt
    | with_reducible exact sim_complexToComplex
    | with_reducible exact sim_backFromNumber
    | with_reducible exact sim_variablesAt
    | with_reducible exact sim_seenAt
    | with_reducible exact sim_unsafePointer
    | with_reducible exact sim_convert
    | with_reducible exact sim_alloc
    | with_reducible exact sim_box
    | with_reducible exact sim_build
    | with_reducible exact sim_buildSlice
    | with_reducible exact sim_sureAddr
    | with_reducible exact sim_loadAt
    | with_reducible exact sim_storeAt
    | with_reducible exact sim_fieldAt
    | with_reducible exact sim_indexAt
    | with_reducible exact sim_sliceBound
    | with_reducible exact sim_sliceBounds
    | with_reducible refine Sim.bind (N := fun _ => True) ?_ fun _ _ => ?_
    | with_reducible refine sim_map ?_
    | with_reducible refine sim_forInA (fun _ _ => ?_) _ _
    | with_reducible refine sim_forInR (fun _ _ => ?_) _ _
    | with_reducible refine sim_mapA (fun _ => ?_) _
    | with_reducible refine sim_foldL (fun _ _ => ?_) _ _
    | split
    | dsimp only

theorem sim_sliceAt {t : TypeId} {v : Value} {x y z : Option Value} : Sim P S (fun _ => True) (Instr.sliceAt t v x y z) := by
  unfold Instr.sliceAt
  repeat' first
    | with_reducible exact Sim.pure trivial
    | with_reducible exact sim_stuck
    | with_reducible exact sim_unsupported
    | with_reducible exact sim_panic
    | with_reducible exact sim_runtimePanic
    | with_reducible exact sim_getObj'
    | with_reducible exact sim_setObj (hS _)
    | with_reducible exact sim_program'
    | with_reducible exact sim_load
    | with_reducible exact sim_store
    | with_reducible exact sim_new
    | with_reducible exact sim_shape
    | with_reducible exact sim_choose
    | with_reducible exact sim_askRoom
    | with_reducible exact sim_typeInfo
    | with_reducible exact sim_underlying
    | with_reducible exact sim_zeroValue
    | with_reducible exact sim_sizeOf
    | with_reducible exact sim_isAgg
    | with_reducible exact sim_loadCells
    | with_reducible exact sim_storeCells _ _
    | with_reducible exact sim_loadVar
    | with_reducible exact sim_storeVar
    | with_reducible exact sim_newRow
    | with_reducible exact sim_newVar
    | with_reducible exact sim_elemOf
    | with_reducible exact sim_part
    | with_reducible exact sim_viewAt
    | with_reducible exact sim_numberAt
    | with_reducible exact sim_cellsIn
    | with_reducible exact sim_noView
    | with_reducible exact sim_asBool
    | with_reducible exact sim_asString
    | with_reducible exact sim_asAgg
    | with_reducible exact sim_asIntOf
    | with_reducible exact sim_asInt
    | with_reducible exact sim_asAddr
    | with_reducible exact sim_sameAddr
    | with_reducible exact sim_freeze
    | with_reducible exact sim_markStringish
    | with_reducible exact sim_asNumber
    | with_reducible exact sim_behindNumber
    | with_reducible exact sim_byteOf
    | with_reducible exact sim_partAt
    | with_reducible exact sim_fieldPlace
    | with_reducible exact sim_boundsPanic
    | with_reducible exact sim_intArith
    | with_reducible exact sim_intDiv
    | with_reducible exact sim_intBits
    | with_reducible exact sim_shift
    | with_reducible exact sim_intCmp
    | with_reducible exact sim_stringOp
    | with_reducible exact sim_floatArith
    | with_reducible exact sim_floatCmp
    | with_reducible exact sim_floatToFloat
    | with_reducible exact sim_carith
    | with_reducible exact sim_ccmp
    | with_reducible exact sim_cconv
    | with_reducible exact sim_cadd
    | with_reducible exact sim_csub
    | with_reducible exact sim_cmul
    | with_reducible exact sim_cquo
    | with_reducible exact sim_cproduct
    | with_reducible exact sim_ccorrected
    | with_reducible exact sim_cquotient
    | with_reducible exact sim_complexOp
    | with_reducible exact sim_unary
    | with_reducible exact sim_samePointer
    | with_reducible exact sim_typeStr
    | with_reducible exact sim_equalIn _ _ _ _
    | with_reducible exact sim_equal
    | with_reducible exact sim_eqGuardIn _ _ _ _
    | with_reducible exact sim_eqGuard
    | with_reducible exact sim_unsafeAdd
    | with_reducible exact sim_movedNumber
    | with_reducible exact sim_movedPointer
    | with_reducible exact sim_twoPlaces
    | with_reducible exact sim_addrSub
    | with_reducible exact sim_addrCmp
    | with_reducible exact sim_addrMod
    | with_reducible exact sim_binOp
    | with_reducible exact sim_stringToBytes
    | with_reducible exact sim_stringToRunes
    | with_reducible exact sim_bytesToString
    | with_reducible exact sim_runesToString
    | with_reducible exact sim_intToInt
    | with_reducible exact sim_intToFloat
    | with_reducible exact sim_intToString
    | with_reducible exact sim_floatToInt
    | with_reducible exact sim_complexToComplex
    | with_reducible exact sim_backFromNumber
    | with_reducible exact sim_variablesAt
    | with_reducible exact sim_seenAt
    | with_reducible exact sim_unsafePointer
    | with_reducible exact sim_convert
    | with_reducible exact sim_alloc
    | with_reducible exact sim_box
    | with_reducible exact sim_build
    | with_reducible exact sim_buildSlice
    | with_reducible exact sim_sureAddr
    | with_reducible exact sim_loadAt
    | with_reducible exact sim_storeAt
    | with_reducible exact sim_fieldAt
    | with_reducible exact sim_indexAt
    | with_reducible exact sim_sliceBound
    | with_reducible exact sim_sliceBounds
    | with_reducible exact sim_slice
    | with_reducible refine Sim.bind (N := fun _ => True) ?_ fun _ _ => ?_
    | with_reducible refine sim_map ?_
    | with_reducible refine sim_forInA (fun _ _ => ?_) _ _
    | with_reducible refine sim_forInR (fun _ _ => ?_) _ _
    | with_reducible refine sim_mapA (fun _ => ?_) _
    | with_reducible refine sim_foldL (fun _ _ => ?_) _ _
    | split
    | dsimp only

theorem sim_arrayAt {t : TypeId} {v : Value} : Sim P S (fun _ => True) (Instr.arrayAt t v) := by
  unfold Instr.arrayAt
  repeat' first
    | with_reducible exact Sim.pure trivial
    | with_reducible exact sim_stuck
    | with_reducible exact sim_unsupported
    | with_reducible exact sim_panic
    | with_reducible exact sim_runtimePanic
    | with_reducible exact sim_getObj'
    | with_reducible exact sim_setObj (hS _)
    | with_reducible exact sim_program'
    | with_reducible exact sim_load
    | with_reducible exact sim_store
    | with_reducible exact sim_new
    | with_reducible exact sim_shape
    | with_reducible exact sim_choose
    | with_reducible exact sim_askRoom
    | with_reducible exact sim_typeInfo
    | with_reducible exact sim_underlying
    | with_reducible exact sim_zeroValue
    | with_reducible exact sim_sizeOf
    | with_reducible exact sim_isAgg
    | with_reducible exact sim_loadCells
    | with_reducible exact sim_storeCells _ _
    | with_reducible exact sim_loadVar
    | with_reducible exact sim_storeVar
    | with_reducible exact sim_newRow
    | with_reducible exact sim_newVar
    | with_reducible exact sim_elemOf
    | with_reducible exact sim_part
    | with_reducible exact sim_viewAt
    | with_reducible exact sim_numberAt
    | with_reducible exact sim_cellsIn
    | with_reducible exact sim_noView
    | with_reducible exact sim_asBool
    | with_reducible exact sim_asString
    | with_reducible exact sim_asAgg
    | with_reducible exact sim_asIntOf
    | with_reducible exact sim_asInt
    | with_reducible exact sim_asAddr
    | with_reducible exact sim_sameAddr
    | with_reducible exact sim_freeze
    | with_reducible exact sim_markStringish
    | with_reducible exact sim_asNumber
    | with_reducible exact sim_behindNumber
    | with_reducible exact sim_byteOf
    | with_reducible exact sim_partAt
    | with_reducible exact sim_fieldPlace
    | with_reducible exact sim_boundsPanic
    | with_reducible exact sim_intArith
    | with_reducible exact sim_intDiv
    | with_reducible exact sim_intBits
    | with_reducible exact sim_shift
    | with_reducible exact sim_intCmp
    | with_reducible exact sim_stringOp
    | with_reducible exact sim_floatArith
    | with_reducible exact sim_floatCmp
    | with_reducible exact sim_floatToFloat
    | with_reducible exact sim_carith
    | with_reducible exact sim_ccmp
    | with_reducible exact sim_cconv
    | with_reducible exact sim_cadd
    | with_reducible exact sim_csub
    | with_reducible exact sim_cmul
    | with_reducible exact sim_cquo
    | with_reducible exact sim_cproduct
    | with_reducible exact sim_ccorrected
    | with_reducible exact sim_cquotient
    | with_reducible exact sim_complexOp
    | with_reducible exact sim_unary
    | with_reducible exact sim_samePointer
    | with_reducible exact sim_typeStr
    | with_reducible exact sim_equalIn _ _ _ _
    | with_reducible exact sim_equal
    | with_reducible exact sim_eqGuardIn _ _ _ _
    | with_reducible exact sim_eqGuard
    | with_reducible exact sim_unsafeAdd
    | with_reducible exact sim_movedNumber
    | with_reducible exact sim_movedPointer
    | with_reducible exact sim_twoPlaces
    | with_reducible exact sim_addrSub
    | with_reducible exact sim_addrCmp
    | with_reducible exact sim_addrMod
    | with_reducible exact sim_binOp
    | with_reducible exact sim_stringToBytes
    | with_reducible exact sim_stringToRunes
    | with_reducible exact sim_bytesToString
    | with_reducible exact sim_runesToString
    | with_reducible exact sim_intToInt
    | with_reducible exact sim_intToFloat
    | with_reducible exact sim_intToString
    | with_reducible exact sim_floatToInt
    | with_reducible exact sim_complexToComplex
    | with_reducible exact sim_backFromNumber
    | with_reducible exact sim_variablesAt
    | with_reducible exact sim_seenAt
    | with_reducible exact sim_unsafePointer
    | with_reducible exact sim_convert
    | with_reducible exact sim_alloc
    | with_reducible exact sim_box
    | with_reducible exact sim_build
    | with_reducible exact sim_buildSlice
    | with_reducible exact sim_sureAddr
    | with_reducible exact sim_loadAt
    | with_reducible exact sim_storeAt
    | with_reducible exact sim_fieldAt
    | with_reducible exact sim_indexAt
    | with_reducible exact sim_sliceBound
    | with_reducible exact sim_sliceBounds
    | with_reducible exact sim_slice
    | with_reducible exact sim_sliceAt
    | with_reducible refine Sim.bind (N := fun _ => True) ?_ fun _ _ => ?_
    | with_reducible refine sim_map ?_
    | with_reducible refine sim_forInA (fun _ _ => ?_) _ _
    | with_reducible refine sim_forInR (fun _ _ => ?_) _ _
    | with_reducible refine sim_mapA (fun _ => ?_) _
    | with_reducible refine sim_foldL (fun _ _ => ?_) _ _
    | split
    | dsimp only

theorem sim_waits {g : Nat} : Sim P S (fun _ => True) (Instr.waits g) := by
  unfold Instr.waits
  repeat' first
    | with_reducible exact Sim.pure trivial
    | with_reducible exact sim_stuck
    | with_reducible exact sim_unsupported
    | with_reducible exact sim_panic
    | with_reducible exact sim_runtimePanic
    | with_reducible exact sim_getObj'
    | with_reducible exact sim_setObj (hS _)
    | with_reducible exact sim_program'
    | with_reducible exact sim_load
    | with_reducible exact sim_store
    | with_reducible exact sim_new
    | with_reducible exact sim_shape
    | with_reducible exact sim_choose
    | with_reducible exact sim_askRoom
    | with_reducible exact sim_typeInfo
    | with_reducible exact sim_underlying
    | with_reducible exact sim_zeroValue
    | with_reducible exact sim_sizeOf
    | with_reducible exact sim_isAgg
    | with_reducible exact sim_loadCells
    | with_reducible exact sim_storeCells _ _
    | with_reducible exact sim_loadVar
    | with_reducible exact sim_storeVar
    | with_reducible exact sim_newRow
    | with_reducible exact sim_newVar
    | with_reducible exact sim_elemOf
    | with_reducible exact sim_part
    | with_reducible exact sim_viewAt
    | with_reducible exact sim_numberAt
    | with_reducible exact sim_cellsIn
    | with_reducible exact sim_noView
    | with_reducible exact sim_asBool
    | with_reducible exact sim_asString
    | with_reducible exact sim_asAgg
    | with_reducible exact sim_asIntOf
    | with_reducible exact sim_asInt
    | with_reducible exact sim_asAddr
    | with_reducible exact sim_sameAddr
    | with_reducible exact sim_freeze
    | with_reducible exact sim_markStringish
    | with_reducible exact sim_asNumber
    | with_reducible exact sim_behindNumber
    | with_reducible exact sim_byteOf
    | with_reducible exact sim_partAt
    | with_reducible exact sim_fieldPlace
    | with_reducible exact sim_boundsPanic
    | with_reducible exact sim_intArith
    | with_reducible exact sim_intDiv
    | with_reducible exact sim_intBits
    | with_reducible exact sim_shift
    | with_reducible exact sim_intCmp
    | with_reducible exact sim_stringOp
    | with_reducible exact sim_floatArith
    | with_reducible exact sim_floatCmp
    | with_reducible exact sim_floatToFloat
    | with_reducible exact sim_carith
    | with_reducible exact sim_ccmp
    | with_reducible exact sim_cconv
    | with_reducible exact sim_cadd
    | with_reducible exact sim_csub
    | with_reducible exact sim_cmul
    | with_reducible exact sim_cquo
    | with_reducible exact sim_cproduct
    | with_reducible exact sim_ccorrected
    | with_reducible exact sim_cquotient
    | with_reducible exact sim_complexOp
    | with_reducible exact sim_unary
    | with_reducible exact sim_samePointer
    | with_reducible exact sim_typeStr
    | with_reducible exact sim_equalIn _ _ _ _
    | with_reducible exact sim_equal
    | with_reducible exact sim_eqGuardIn _ _ _ _
    | with_reducible exact sim_eqGuard
    | with_reducible exact sim_unsafeAdd
    | with_reducible exact sim_movedNumber
    | with_reducible exact sim_movedPointer
    | with_reducible exact sim_twoPlaces
    | with_reducible exact sim_addrSub
    | with_reducible exact sim_addrCmp
    | with_reducible exact sim_addrMod
    | with_reducible exact sim_binOp
    | with_reducible exact sim_stringToBytes
    | with_reducible exact sim_stringToRunes
    | with_reducible exact sim_bytesToString
    | with_reducible exact sim_runesToString
    | with_reducible exact sim_intToInt
    | with_reducible exact sim_intToFloat
    | with_reducible exact sim_intToString
    | with_reducible exact sim_floatToInt
    | with_reducible exact sim_complexToComplex
    | with_reducible exact sim_backFromNumber
    | with_reducible exact sim_variablesAt
    | with_reducible exact sim_seenAt
    | with_reducible exact sim_unsafePointer
    | with_reducible exact sim_convert
    | with_reducible exact sim_alloc
    | with_reducible exact sim_box
    | with_reducible exact sim_build
    | with_reducible exact sim_buildSlice
    | with_reducible exact sim_sureAddr
    | with_reducible exact sim_loadAt
    | with_reducible exact sim_storeAt
    | with_reducible exact sim_fieldAt
    | with_reducible exact sim_indexAt
    | with_reducible exact sim_sliceBound
    | with_reducible exact sim_sliceBounds
    | with_reducible exact sim_slice
    | with_reducible exact sim_sliceAt
    | with_reducible exact sim_arrayAt
    | with_reducible refine Sim.bind (N := fun _ => True) ?_ fun _ _ => ?_
    | with_reducible refine sim_map ?_
    | with_reducible refine sim_forInA (fun _ _ => ?_) _ _
    | with_reducible refine sim_forInR (fun _ _ => ?_) _ _
    | with_reducible refine sim_mapA (fun _ => ?_) _
    | with_reducible refine sim_foldL (fun _ _ => ?_) _ _
    | split
    | dsimp only

theorem sim_makeInterface {t : TypeId} {v : Value} : Sim P S (fun _ => True) (Instr.makeInterface t v) := by
  unfold Instr.makeInterface
  repeat' first
    | with_reducible exact Sim.pure trivial
    | with_reducible exact sim_stuck
    | with_reducible exact sim_unsupported
    | with_reducible exact sim_panic
    | with_reducible exact sim_runtimePanic
    | with_reducible exact sim_getObj'
    | with_reducible exact sim_setObj (hS _)
    | with_reducible exact sim_program'
    | with_reducible exact sim_load
    | with_reducible exact sim_store
    | with_reducible exact sim_new
    | with_reducible exact sim_shape
    | with_reducible exact sim_choose
    | with_reducible exact sim_askRoom
    | with_reducible exact sim_typeInfo
    | with_reducible exact sim_underlying
    | with_reducible exact sim_zeroValue
    | with_reducible exact sim_sizeOf
    | with_reducible exact sim_isAgg
    | with_reducible exact sim_loadCells
    | with_reducible exact sim_storeCells _ _
    | with_reducible exact sim_loadVar
    | with_reducible exact sim_storeVar
    | with_reducible exact sim_newRow
    | with_reducible exact sim_newVar
    | with_reducible exact sim_elemOf
    | with_reducible exact sim_part
    | with_reducible exact sim_viewAt
    | with_reducible exact sim_numberAt
    | with_reducible exact sim_cellsIn
    | with_reducible exact sim_noView
    | with_reducible exact sim_asBool
    | with_reducible exact sim_asString
    | with_reducible exact sim_asAgg
    | with_reducible exact sim_asIntOf
    | with_reducible exact sim_asInt
    | with_reducible exact sim_asAddr
    | with_reducible exact sim_sameAddr
    | with_reducible exact sim_freeze
    | with_reducible exact sim_markStringish
    | with_reducible exact sim_asNumber
    | with_reducible exact sim_behindNumber
    | with_reducible exact sim_byteOf
    | with_reducible exact sim_partAt
    | with_reducible exact sim_fieldPlace
    | with_reducible exact sim_boundsPanic
    | with_reducible exact sim_intArith
    | with_reducible exact sim_intDiv
    | with_reducible exact sim_intBits
    | with_reducible exact sim_shift
    | with_reducible exact sim_intCmp
    | with_reducible exact sim_stringOp
    | with_reducible exact sim_floatArith
    | with_reducible exact sim_floatCmp
    | with_reducible exact sim_floatToFloat
    | with_reducible exact sim_carith
    | with_reducible exact sim_ccmp
    | with_reducible exact sim_cconv
    | with_reducible exact sim_cadd
    | with_reducible exact sim_csub
    | with_reducible exact sim_cmul
    | with_reducible exact sim_cquo
    | with_reducible exact sim_cproduct
    | with_reducible exact sim_ccorrected
    | with_reducible exact sim_cquotient
    | with_reducible exact sim_complexOp
    | with_reducible exact sim_unary
    | with_reducible exact sim_samePointer
    | with_reducible exact sim_typeStr
    | with_reducible exact sim_equalIn _ _ _ _
    | with_reducible exact sim_equal
    | with_reducible exact sim_eqGuardIn _ _ _ _
    | with_reducible exact sim_eqGuard
    | with_reducible exact sim_unsafeAdd
    | with_reducible exact sim_movedNumber
    | with_reducible exact sim_movedPointer
    | with_reducible exact sim_twoPlaces
    | with_reducible exact sim_addrSub
    | with_reducible exact sim_addrCmp
    | with_reducible exact sim_addrMod
    | with_reducible exact sim_binOp
    | with_reducible exact sim_stringToBytes
    | with_reducible exact sim_stringToRunes
    | with_reducible exact sim_bytesToString
    | with_reducible exact sim_runesToString
    | with_reducible exact sim_intToInt
    | with_reducible exact sim_intToFloat
    | with_reducible exact sim_intToString
    | with_reducible exact sim_floatToInt
    | with_reducible exact sim_complexToComplex
    | with_reducible exact sim_backFromNumber
    | with_reducible exact sim_variablesAt
    | with_reducible exact sim_seenAt
    | with_reducible exact sim_unsafePointer
    | with_reducible exact sim_convert
    | with_reducible exact sim_alloc
    | with_reducible exact sim_box
    | with_reducible exact sim_build
    | with_reducible exact sim_buildSlice
    | with_reducible exact sim_sureAddr
    | with_reducible exact sim_loadAt
    | with_reducible exact sim_storeAt
    | with_reducible exact sim_fieldAt
    | with_reducible exact sim_indexAt
    | with_reducible exact sim_sliceBound
    | with_reducible exact sim_sliceBounds
    | with_reducible exact sim_slice
    | with_reducible exact sim_sliceAt
    | with_reducible exact sim_arrayAt
    | with_reducible exact sim_waits
    | with_reducible refine Sim.bind (N := fun _ => True) ?_ fun _ _ => ?_
    | with_reducible refine sim_map ?_
    | with_reducible refine sim_forInA (fun _ _ => ?_) _ _
    | with_reducible refine sim_forInR (fun _ _ => ?_) _ _
    | with_reducible refine sim_mapA (fun _ => ?_) _
    | with_reducible refine sim_foldL (fun _ _ => ?_) _ _
    | split
    | dsimp only

theorem sim_makeFunc {f : Fn} {a b : Array Value} : Sim P S (fun _ => True) (Instr.makeFunc f a b) := by
  unfold Instr.makeFunc
  repeat' first
    | with_reducible exact Sim.pure trivial
    | with_reducible exact sim_stuck
    | with_reducible exact sim_unsupported
    | with_reducible exact sim_panic
    | with_reducible exact sim_runtimePanic
    | with_reducible exact sim_getObj'
    | with_reducible exact sim_setObj (hS _)
    | with_reducible exact sim_program'
    | with_reducible exact sim_load
    | with_reducible exact sim_store
    | with_reducible exact sim_new
    | with_reducible exact sim_shape
    | with_reducible exact sim_choose
    | with_reducible exact sim_askRoom
    | with_reducible exact sim_typeInfo
    | with_reducible exact sim_underlying
    | with_reducible exact sim_zeroValue
    | with_reducible exact sim_sizeOf
    | with_reducible exact sim_isAgg
    | with_reducible exact sim_loadCells
    | with_reducible exact sim_storeCells _ _
    | with_reducible exact sim_loadVar
    | with_reducible exact sim_storeVar
    | with_reducible exact sim_newRow
    | with_reducible exact sim_newVar
    | with_reducible exact sim_elemOf
    | with_reducible exact sim_part
    | with_reducible exact sim_viewAt
    | with_reducible exact sim_numberAt
    | with_reducible exact sim_cellsIn
    | with_reducible exact sim_noView
    | with_reducible exact sim_asBool
    | with_reducible exact sim_asString
    | with_reducible exact sim_asAgg
    | with_reducible exact sim_asIntOf
    | with_reducible exact sim_asInt
    | with_reducible exact sim_asAddr
    | with_reducible exact sim_sameAddr
    | with_reducible exact sim_freeze
    | with_reducible exact sim_markStringish
    | with_reducible exact sim_asNumber
    | with_reducible exact sim_behindNumber
    | with_reducible exact sim_byteOf
    | with_reducible exact sim_partAt
    | with_reducible exact sim_fieldPlace
    | with_reducible exact sim_boundsPanic
    | with_reducible exact sim_intArith
    | with_reducible exact sim_intDiv
    | with_reducible exact sim_intBits
    | with_reducible exact sim_shift
    | with_reducible exact sim_intCmp
    | with_reducible exact sim_stringOp
    | with_reducible exact sim_floatArith
    | with_reducible exact sim_floatCmp
    | with_reducible exact sim_floatToFloat
    | with_reducible exact sim_carith
    | with_reducible exact sim_ccmp
    | with_reducible exact sim_cconv
    | with_reducible exact sim_cadd
    | with_reducible exact sim_csub
    | with_reducible exact sim_cmul
    | with_reducible exact sim_cquo
    | with_reducible exact sim_cproduct
    | with_reducible exact sim_ccorrected
    | with_reducible exact sim_cquotient
    | with_reducible exact sim_complexOp
    | with_reducible exact sim_unary
    | with_reducible exact sim_samePointer
    | with_reducible exact sim_typeStr
    | with_reducible exact sim_equalIn _ _ _ _
    | with_reducible exact sim_equal
    | with_reducible exact sim_eqGuardIn _ _ _ _
    | with_reducible exact sim_eqGuard
    | with_reducible exact sim_unsafeAdd
    | with_reducible exact sim_movedNumber
    | with_reducible exact sim_movedPointer
    | with_reducible exact sim_twoPlaces
    | with_reducible exact sim_addrSub
    | with_reducible exact sim_addrCmp
    | with_reducible exact sim_addrMod
    | with_reducible exact sim_binOp
    | with_reducible exact sim_stringToBytes
    | with_reducible exact sim_stringToRunes
    | with_reducible exact sim_bytesToString
    | with_reducible exact sim_runesToString
    | with_reducible exact sim_intToInt
    | with_reducible exact sim_intToFloat
    | with_reducible exact sim_intToString
    | with_reducible exact sim_floatToInt
    | with_reducible exact sim_complexToComplex
    | with_reducible exact sim_backFromNumber
    | with_reducible exact sim_variablesAt
    | with_reducible exact sim_seenAt
    | with_reducible exact sim_unsafePointer
    | with_reducible exact sim_convert
    | with_reducible exact sim_alloc
    | with_reducible exact sim_box
    | with_reducible exact sim_build
    | with_reducible exact sim_buildSlice
    | with_reducible exact sim_sureAddr
    | with_reducible exact sim_loadAt
    | with_reducible exact sim_storeAt
    | with_reducible exact sim_fieldAt
    | with_reducible exact sim_indexAt
    | with_reducible exact sim_sliceBound
    | with_reducible exact sim_sliceBounds
    | with_reducible exact sim_slice
    | with_reducible exact sim_sliceAt
    | with_reducible exact sim_arrayAt
    | with_reducible exact sim_waits
    | with_reducible exact sim_makeInterface
    | with_reducible refine Sim.bind (N := fun _ => True) ?_ fun _ _ => ?_
    | with_reducible refine sim_map ?_
    | with_reducible refine sim_forInA (fun _ _ => ?_) _ _
    | with_reducible refine sim_forInR (fun _ _ => ?_) _ _
    | with_reducible refine sim_mapA (fun _ => ?_) _
    | with_reducible refine sim_foldL (fun _ _ => ?_) _ _
    | split
    | dsimp only

theorem sim_makeMap {t : TypeId} {r : Option Value} : Sim P S (fun _ => True) (Instr.makeMap t r) := by
  unfold Instr.makeMap
  repeat' first
    | with_reducible exact Sim.pure trivial
    | with_reducible exact sim_stuck
    | with_reducible exact sim_unsupported
    | with_reducible exact sim_panic
    | with_reducible exact sim_runtimePanic
    | with_reducible exact sim_getObj'
    | with_reducible exact sim_setObj (hS _)
    | with_reducible exact sim_program'
    | with_reducible exact sim_load
    | with_reducible exact sim_store
    | with_reducible exact sim_new
    | with_reducible exact sim_shape
    | with_reducible exact sim_choose
    | with_reducible exact sim_askRoom
    | with_reducible exact sim_typeInfo
    | with_reducible exact sim_underlying
    | with_reducible exact sim_zeroValue
    | with_reducible exact sim_sizeOf
    | with_reducible exact sim_isAgg
    | with_reducible exact sim_loadCells
    | with_reducible exact sim_storeCells _ _
    | with_reducible exact sim_loadVar
    | with_reducible exact sim_storeVar
    | with_reducible exact sim_newRow
    | with_reducible exact sim_newVar
    | with_reducible exact sim_elemOf
    | with_reducible exact sim_part
    | with_reducible exact sim_viewAt
    | with_reducible exact sim_numberAt
    | with_reducible exact sim_cellsIn
    | with_reducible exact sim_noView
    | with_reducible exact sim_asBool
    | with_reducible exact sim_asString
    | with_reducible exact sim_asAgg
    | with_reducible exact sim_asIntOf
    | with_reducible exact sim_asInt
    | with_reducible exact sim_asAddr
    | with_reducible exact sim_sameAddr
    | with_reducible exact sim_freeze
    | with_reducible exact sim_markStringish
    | with_reducible exact sim_asNumber
    | with_reducible exact sim_behindNumber
    | with_reducible exact sim_byteOf
    | with_reducible exact sim_partAt
    | with_reducible exact sim_fieldPlace
    | with_reducible exact sim_boundsPanic
    | with_reducible exact sim_intArith
    | with_reducible exact sim_intDiv
    | with_reducible exact sim_intBits
    | with_reducible exact sim_shift
    | with_reducible exact sim_intCmp
    | with_reducible exact sim_stringOp
    | with_reducible exact sim_floatArith
    | with_reducible exact sim_floatCmp
    | with_reducible exact sim_floatToFloat
    | with_reducible exact sim_carith
    | with_reducible exact sim_ccmp
    | with_reducible exact sim_cconv
    | with_reducible exact sim_cadd
    | with_reducible exact sim_csub
    | with_reducible exact sim_cmul
    | with_reducible exact sim_cquo
    | with_reducible exact sim_cproduct
    | with_reducible exact sim_ccorrected
    | with_reducible exact sim_cquotient
    | with_reducible exact sim_complexOp
    | with_reducible exact sim_unary
    | with_reducible exact sim_samePointer
    | with_reducible exact sim_typeStr
    | with_reducible exact sim_equalIn _ _ _ _
    | with_reducible exact sim_equal
    | with_reducible exact sim_eqGuardIn _ _ _ _
    | with_reducible exact sim_eqGuard
    | with_reducible exact sim_unsafeAdd
    | with_reducible exact sim_movedNumber
    | with_reducible exact sim_movedPointer
    | with_reducible exact sim_twoPlaces
    | with_reducible exact sim_addrSub
    | with_reducible exact sim_addrCmp
    | with_reducible exact sim_addrMod
    | with_reducible exact sim_binOp
    | with_reducible exact sim_stringToBytes
    | with_reducible exact sim_stringToRunes
    | with_reducible exact sim_bytesToString
    | with_reducible exact sim_runesToString
    | with_reducible exact sim_intToInt
    | with_reducible exact sim_intToFloat
    | with_reducible exact sim_intToString
    | with_reducible exact sim_floatToInt
    | with_reducible exact sim_complexToComplex
    | with_reducible exact sim_backFromNumber
    | with_reducible exact sim_variablesAt
    | with_reducible exact sim_seenAt
    | with_reducible exact sim_unsafePointer
    | with_reducible exact sim_convert
    | with_reducible exact sim_alloc
    | with_reducible exact sim_box
    | with_reducible exact sim_build
    | with_reducible exact sim_buildSlice
    | with_reducible exact sim_sureAddr
    | with_reducible exact sim_loadAt
    | with_reducible exact sim_storeAt
    | with_reducible exact sim_fieldAt
    | with_reducible exact sim_indexAt
    | with_reducible exact sim_sliceBound
    | with_reducible exact sim_sliceBounds
    | with_reducible exact sim_slice
    | with_reducible exact sim_sliceAt
    | with_reducible exact sim_arrayAt
    | with_reducible exact sim_waits
    | with_reducible exact sim_makeInterface
    | with_reducible exact sim_makeFunc
    | with_reducible refine Sim.bind (N := fun _ => True) ?_ fun _ _ => ?_
    | with_reducible refine sim_map ?_
    | with_reducible refine sim_forInA (fun _ _ => ?_) _ _
    | with_reducible refine sim_forInR (fun _ _ => ?_) _ _
    | with_reducible refine sim_mapA (fun _ => ?_) _
    | with_reducible refine sim_foldL (fun _ _ => ?_) _ _
    | split
    | dsimp only

theorem sim_makeSlice {t : TypeId} {l c : Value} : Sim P S (fun _ => True) (Instr.makeSlice t l c) := by
  unfold Instr.makeSlice
  repeat' first
    | with_reducible exact Sim.pure trivial
    | with_reducible exact sim_stuck
    | with_reducible exact sim_unsupported
    | with_reducible exact sim_panic
    | with_reducible exact sim_runtimePanic
    | with_reducible exact sim_getObj'
    | with_reducible exact sim_setObj (hS _)
    | with_reducible exact sim_program'
    | with_reducible exact sim_load
    | with_reducible exact sim_store
    | with_reducible exact sim_new
    | with_reducible exact sim_shape
    | with_reducible exact sim_choose
    | with_reducible exact sim_askRoom
    | with_reducible exact sim_typeInfo
    | with_reducible exact sim_underlying
    | with_reducible exact sim_zeroValue
    | with_reducible exact sim_sizeOf
    | with_reducible exact sim_isAgg
    | with_reducible exact sim_loadCells
    | with_reducible exact sim_storeCells _ _
    | with_reducible exact sim_loadVar
    | with_reducible exact sim_storeVar
    | with_reducible exact sim_newRow
    | with_reducible exact sim_newVar
    | with_reducible exact sim_elemOf
    | with_reducible exact sim_part
    | with_reducible exact sim_viewAt
    | with_reducible exact sim_numberAt
    | with_reducible exact sim_cellsIn
    | with_reducible exact sim_noView
    | with_reducible exact sim_asBool
    | with_reducible exact sim_asString
    | with_reducible exact sim_asAgg
    | with_reducible exact sim_asIntOf
    | with_reducible exact sim_asInt
    | with_reducible exact sim_asAddr
    | with_reducible exact sim_sameAddr
    | with_reducible exact sim_freeze
    | with_reducible exact sim_markStringish
    | with_reducible exact sim_asNumber
    | with_reducible exact sim_behindNumber
    | with_reducible exact sim_byteOf
    | with_reducible exact sim_partAt
    | with_reducible exact sim_fieldPlace
    | with_reducible exact sim_boundsPanic
    | with_reducible exact sim_intArith
    | with_reducible exact sim_intDiv
    | with_reducible exact sim_intBits
    | with_reducible exact sim_shift
    | with_reducible exact sim_intCmp
    | with_reducible exact sim_stringOp
    | with_reducible exact sim_floatArith
    | with_reducible exact sim_floatCmp
    | with_reducible exact sim_floatToFloat
    | with_reducible exact sim_carith
    | with_reducible exact sim_ccmp
    | with_reducible exact sim_cconv
    | with_reducible exact sim_cadd
    | with_reducible exact sim_csub
    | with_reducible exact sim_cmul
    | with_reducible exact sim_cquo
    | with_reducible exact sim_cproduct
    | with_reducible exact sim_ccorrected
    | with_reducible exact sim_cquotient
    | with_reducible exact sim_complexOp
    | with_reducible exact sim_unary
    | with_reducible exact sim_samePointer
    | with_reducible exact sim_typeStr
    | with_reducible exact sim_equalIn _ _ _ _
    | with_reducible exact sim_equal
    | with_reducible exact sim_eqGuardIn _ _ _ _
    | with_reducible exact sim_eqGuard
    | with_reducible exact sim_unsafeAdd
    | with_reducible exact sim_movedNumber
    | with_reducible exact sim_movedPointer
    | with_reducible exact sim_twoPlaces
    | with_reducible exact sim_addrSub
    | with_reducible exact sim_addrCmp
    | with_reducible exact sim_addrMod
    | with_reducible exact sim_binOp
    | with_reducible exact sim_stringToBytes
    | with_reducible exact sim_stringToRunes
    | with_reducible exact sim_bytesToString
    | with_reducible exact sim_runesToString
    | with_reducible exact sim_intToInt
    | with_reducible exact sim_intToFloat
    | with_reducible exact sim_intToString
    | with_reducible exact sim_floatToInt
    | with_reducible exact sim_complexToComplex
    | with_reducible exact sim_backFromNumber
    | with_reducible exact sim_variablesAt
    | with_reducible exact sim_seenAt
    | with_reducible exact sim_unsafePointer
    | with_reducible exact sim_convert
    | with_reducible exact sim_alloc
    | with_reducible exact sim_box
    | with_reducible exact sim_build
    | with_reducible exact sim_buildSlice
    | with_reducible exact sim_sureAddr
    | with_reducible exact sim_loadAt
    | with_reducible exact sim_storeAt
    | with_reducible exact sim_fieldAt
    | with_reducible exact sim_indexAt
    | with_reducible exact sim_sliceBound
    | with_reducible exact sim_sliceBounds
    | with_reducible exact sim_slice
    | with_reducible exact sim_sliceAt
    | with_reducible exact sim_arrayAt
    | with_reducible exact sim_waits
    | with_reducible exact sim_makeInterface
    | with_reducible exact sim_makeFunc
    | with_reducible exact sim_makeMap
    | with_reducible refine Sim.bind (N := fun _ => True) ?_ fun _ _ => ?_
    | with_reducible refine sim_map ?_
    | with_reducible refine sim_forInA (fun _ _ => ?_) _ _
    | with_reducible refine sim_forInR (fun _ _ => ?_) _ _
    | with_reducible refine sim_mapA (fun _ => ?_) _
    | with_reducible refine sim_foldL (fun _ _ => ?_) _ _
    | split
    | dsimp only

theorem sim_field {t : TypeId} {x : Value} {f : Nat} : Sim P S (fun _ => True) (Instr.field t x f) := by
  unfold Instr.field
  repeat' first
    | with_reducible exact Sim.pure trivial
    | with_reducible exact sim_stuck
    | with_reducible exact sim_unsupported
    | with_reducible exact sim_panic
    | with_reducible exact sim_runtimePanic
    | with_reducible exact sim_getObj'
    | with_reducible exact sim_setObj (hS _)
    | with_reducible exact sim_program'
    | with_reducible exact sim_load
    | with_reducible exact sim_store
    | with_reducible exact sim_new
    | with_reducible exact sim_shape
    | with_reducible exact sim_choose
    | with_reducible exact sim_askRoom
    | with_reducible exact sim_typeInfo
    | with_reducible exact sim_underlying
    | with_reducible exact sim_zeroValue
    | with_reducible exact sim_sizeOf
    | with_reducible exact sim_isAgg
    | with_reducible exact sim_loadCells
    | with_reducible exact sim_storeCells _ _
    | with_reducible exact sim_loadVar
    | with_reducible exact sim_storeVar
    | with_reducible exact sim_newRow
    | with_reducible exact sim_newVar
    | with_reducible exact sim_elemOf
    | with_reducible exact sim_part
    | with_reducible exact sim_viewAt
    | with_reducible exact sim_numberAt
    | with_reducible exact sim_cellsIn
    | with_reducible exact sim_noView
    | with_reducible exact sim_asBool
    | with_reducible exact sim_asString
    | with_reducible exact sim_asAgg
    | with_reducible exact sim_asIntOf
    | with_reducible exact sim_asInt
    | with_reducible exact sim_asAddr
    | with_reducible exact sim_sameAddr
    | with_reducible exact sim_freeze
    | with_reducible exact sim_markStringish
    | with_reducible exact sim_asNumber
    | with_reducible exact sim_behindNumber
    | with_reducible exact sim_byteOf
    | with_reducible exact sim_partAt
    | with_reducible exact sim_fieldPlace
    | with_reducible exact sim_boundsPanic
    | with_reducible exact sim_intArith
    | with_reducible exact sim_intDiv
    | with_reducible exact sim_intBits
    | with_reducible exact sim_shift
    | with_reducible exact sim_intCmp
    | with_reducible exact sim_stringOp
    | with_reducible exact sim_floatArith
    | with_reducible exact sim_floatCmp
    | with_reducible exact sim_floatToFloat
    | with_reducible exact sim_carith
    | with_reducible exact sim_ccmp
    | with_reducible exact sim_cconv
    | with_reducible exact sim_cadd
    | with_reducible exact sim_csub
    | with_reducible exact sim_cmul
    | with_reducible exact sim_cquo
    | with_reducible exact sim_cproduct
    | with_reducible exact sim_ccorrected
    | with_reducible exact sim_cquotient
    | with_reducible exact sim_complexOp
    | with_reducible exact sim_unary
    | with_reducible exact sim_samePointer
    | with_reducible exact sim_typeStr
    | with_reducible exact sim_equalIn _ _ _ _
    | with_reducible exact sim_equal
    | with_reducible exact sim_eqGuardIn _ _ _ _
    | with_reducible exact sim_eqGuard
    | with_reducible exact sim_unsafeAdd
    | with_reducible exact sim_movedNumber
    | with_reducible exact sim_movedPointer
    | with_reducible exact sim_twoPlaces
    | with_reducible exact sim_addrSub
    | with_reducible exact sim_addrCmp
    | with_reducible exact sim_addrMod
    | with_reducible exact sim_binOp
    | with_reducible exact sim_stringToBytes
    | with_reducible exact sim_stringToRunes
    | with_reducible exact sim_bytesToString
    | with_reducible exact sim_runesToString
    | with_reducible exact sim_intToInt
    | with_reducible exact sim_intToFloat
    | with_reducible exact sim_intToString
    | with_reducible exact sim_floatToInt
    | with_reducible exact sim_complexToComplex
    | with_reducible exact sim_backFromNumber
    | with_reducible exact sim_variablesAt
    | with_reducible exact sim_seenAt
    | with_reducible exact sim_unsafePointer
    | with_reducible exact sim_convert
    | with_reducible exact sim_alloc
    | with_reducible exact sim_box
    | with_reducible exact sim_build
    | with_reducible exact sim_buildSlice
    | with_reducible exact sim_sureAddr
    | with_reducible exact sim_loadAt
    | with_reducible exact sim_storeAt
    | with_reducible exact sim_fieldAt
    | with_reducible exact sim_indexAt
    | with_reducible exact sim_sliceBound
    | with_reducible exact sim_sliceBounds
    | with_reducible exact sim_slice
    | with_reducible exact sim_sliceAt
    | with_reducible exact sim_arrayAt
    | with_reducible exact sim_waits
    | with_reducible exact sim_makeInterface
    | with_reducible exact sim_makeFunc
    | with_reducible exact sim_makeMap
    | with_reducible exact sim_makeSlice
    | with_reducible refine Sim.bind (N := fun _ => True) ?_ fun _ _ => ?_
    | with_reducible refine sim_map ?_
    | with_reducible refine sim_forInA (fun _ _ => ?_) _ _
    | with_reducible refine sim_forInR (fun _ _ => ?_) _ _
    | with_reducible refine sim_mapA (fun _ => ?_) _
    | with_reducible refine sim_foldL (fun _ _ => ?_) _ _
    | split
    | dsimp only

theorem sim_index {t : TypeId} {x i : Value} : Sim P S (fun _ => True) (Instr.index t x i) := by
  unfold Instr.index
  repeat' first
    | with_reducible exact Sim.pure trivial
    | with_reducible exact sim_stuck
    | with_reducible exact sim_unsupported
    | with_reducible exact sim_panic
    | with_reducible exact sim_runtimePanic
    | with_reducible exact sim_getObj'
    | with_reducible exact sim_setObj (hS _)
    | with_reducible exact sim_program'
    | with_reducible exact sim_load
    | with_reducible exact sim_store
    | with_reducible exact sim_new
    | with_reducible exact sim_shape
    | with_reducible exact sim_choose
    | with_reducible exact sim_askRoom
    | with_reducible exact sim_typeInfo
    | with_reducible exact sim_underlying
    | with_reducible exact sim_zeroValue
    | with_reducible exact sim_sizeOf
    | with_reducible exact sim_isAgg
    | with_reducible exact sim_loadCells
    | with_reducible exact sim_storeCells _ _
    | with_reducible exact sim_loadVar
    | with_reducible exact sim_storeVar
    | with_reducible exact sim_newRow
    | with_reducible exact sim_newVar
    | with_reducible exact sim_elemOf
    | with_reducible exact sim_part
    | with_reducible exact sim_viewAt
    | with_reducible exact sim_numberAt
    | with_reducible exact sim_cellsIn
    | with_reducible exact sim_noView
    | with_reducible exact sim_asBool
    | with_reducible exact sim_asString
    | with_reducible exact sim_asAgg
    | with_reducible exact sim_asIntOf
    | with_reducible exact sim_asInt
    | with_reducible exact sim_asAddr
    | with_reducible exact sim_sameAddr
    | with_reducible exact sim_freeze
    | with_reducible exact sim_markStringish
    | with_reducible exact sim_asNumber
    | with_reducible exact sim_behindNumber
    | with_reducible exact sim_byteOf
    | with_reducible exact sim_partAt
    | with_reducible exact sim_fieldPlace
    | with_reducible exact sim_boundsPanic
    | with_reducible exact sim_intArith
    | with_reducible exact sim_intDiv
    | with_reducible exact sim_intBits
    | with_reducible exact sim_shift
    | with_reducible exact sim_intCmp
    | with_reducible exact sim_stringOp
    | with_reducible exact sim_floatArith
    | with_reducible exact sim_floatCmp
    | with_reducible exact sim_floatToFloat
    | with_reducible exact sim_carith
    | with_reducible exact sim_ccmp
    | with_reducible exact sim_cconv
    | with_reducible exact sim_cadd
    | with_reducible exact sim_csub
    | with_reducible exact sim_cmul
    | with_reducible exact sim_cquo
    | with_reducible exact sim_cproduct
    | with_reducible exact sim_ccorrected
    | with_reducible exact sim_cquotient
    | with_reducible exact sim_complexOp
    | with_reducible exact sim_unary
    | with_reducible exact sim_samePointer
    | with_reducible exact sim_typeStr
    | with_reducible exact sim_equalIn _ _ _ _
    | with_reducible exact sim_equal
    | with_reducible exact sim_eqGuardIn _ _ _ _
    | with_reducible exact sim_eqGuard
    | with_reducible exact sim_unsafeAdd
    | with_reducible exact sim_movedNumber
    | with_reducible exact sim_movedPointer
    | with_reducible exact sim_twoPlaces
    | with_reducible exact sim_addrSub
    | with_reducible exact sim_addrCmp
    | with_reducible exact sim_addrMod
    | with_reducible exact sim_binOp
    | with_reducible exact sim_stringToBytes
    | with_reducible exact sim_stringToRunes
    | with_reducible exact sim_bytesToString
    | with_reducible exact sim_runesToString
    | with_reducible exact sim_intToInt
    | with_reducible exact sim_intToFloat
    | with_reducible exact sim_intToString
    | with_reducible exact sim_floatToInt
    | with_reducible exact sim_complexToComplex
    | with_reducible exact sim_backFromNumber
    | with_reducible exact sim_variablesAt
    | with_reducible exact sim_seenAt
    | with_reducible exact sim_unsafePointer
    | with_reducible exact sim_convert
    | with_reducible exact sim_alloc
    | with_reducible exact sim_box
    | with_reducible exact sim_build
    | with_reducible exact sim_buildSlice
    | with_reducible exact sim_sureAddr
    | with_reducible exact sim_loadAt
    | with_reducible exact sim_storeAt
    | with_reducible exact sim_fieldAt
    | with_reducible exact sim_indexAt
    | with_reducible exact sim_sliceBound
    | with_reducible exact sim_sliceBounds
    | with_reducible exact sim_slice
    | with_reducible exact sim_sliceAt
    | with_reducible exact sim_arrayAt
    | with_reducible exact sim_waits
    | with_reducible exact sim_makeInterface
    | with_reducible exact sim_makeFunc
    | with_reducible exact sim_makeMap
    | with_reducible exact sim_makeSlice
    | with_reducible exact sim_field
    | with_reducible refine Sim.bind (N := fun _ => True) ?_ fun _ _ => ?_
    | with_reducible refine sim_map ?_
    | with_reducible refine sim_forInA (fun _ _ => ?_) _ _
    | with_reducible refine sim_forInR (fun _ _ => ?_) _ _
    | with_reducible refine sim_mapA (fun _ => ?_) _
    | with_reducible refine sim_foldL (fun _ _ => ?_) _ _
    | split
    | dsimp only

theorem sim_checkKey {e : Bool} : ∀ (d : Nat) (t : TypeId) (x : Value), Sim P S (fun _ => True) (Instr.checkKey e d t x)
  | 0, _, _ => by unfold Instr.checkKey; exact sim_unsupported
  | d + 1, t, x => by
    unfold Instr.checkKey
    repeat' first
      | with_reducible exact Sim.pure trivial
      | with_reducible exact sim_stuck
      | with_reducible exact sim_unsupported
      | with_reducible exact sim_panic
      | with_reducible exact sim_runtimePanic
      | with_reducible exact sim_checkKey d _ _
      | with_reducible exact sim_getObj'
      | with_reducible exact sim_setObj (hS _)
      | with_reducible exact sim_program'
      | with_reducible exact sim_load
      | with_reducible exact sim_store
      | with_reducible exact sim_new
      | with_reducible exact sim_shape
      | with_reducible exact sim_choose
      | with_reducible exact sim_askRoom
      | with_reducible exact sim_typeInfo
      | with_reducible exact sim_underlying
      | with_reducible exact sim_zeroValue
      | with_reducible exact sim_sizeOf
      | with_reducible exact sim_isAgg
      | with_reducible exact sim_loadCells
      | with_reducible exact sim_storeCells _ _
      | with_reducible exact sim_loadVar
      | with_reducible exact sim_storeVar
      | with_reducible exact sim_newRow
      | with_reducible exact sim_newVar
      | with_reducible exact sim_elemOf
      | with_reducible exact sim_part
      | with_reducible exact sim_viewAt
      | with_reducible exact sim_numberAt
      | with_reducible exact sim_cellsIn
      | with_reducible exact sim_noView
      | with_reducible exact sim_asBool
      | with_reducible exact sim_asString
      | with_reducible exact sim_asAgg
      | with_reducible exact sim_asIntOf
      | with_reducible exact sim_asInt
      | with_reducible exact sim_asAddr
      | with_reducible exact sim_sameAddr
      | with_reducible exact sim_freeze
      | with_reducible exact sim_markStringish
      | with_reducible exact sim_asNumber
      | with_reducible exact sim_behindNumber
      | with_reducible exact sim_byteOf
      | with_reducible exact sim_partAt
      | with_reducible exact sim_fieldPlace
      | with_reducible exact sim_boundsPanic
      | with_reducible exact sim_intArith
      | with_reducible exact sim_intDiv
      | with_reducible exact sim_intBits
      | with_reducible exact sim_shift
      | with_reducible exact sim_intCmp
      | with_reducible exact sim_stringOp
      | with_reducible exact sim_floatArith
      | with_reducible exact sim_floatCmp
      | with_reducible exact sim_floatToFloat
      | with_reducible exact sim_carith
      | with_reducible exact sim_ccmp
      | with_reducible exact sim_cconv
      | with_reducible exact sim_cadd
      | with_reducible exact sim_csub
      | with_reducible exact sim_cmul
      | with_reducible exact sim_cquo
      | with_reducible exact sim_cproduct
      | with_reducible exact sim_ccorrected
      | with_reducible exact sim_cquotient
      | with_reducible exact sim_complexOp
      | with_reducible exact sim_unary
      | with_reducible exact sim_samePointer
      | with_reducible exact sim_typeStr
      | with_reducible exact sim_equalIn _ _ _ _
      | with_reducible exact sim_equal
      | with_reducible exact sim_eqGuardIn _ _ _ _
      | with_reducible exact sim_eqGuard
      | with_reducible exact sim_unsafeAdd
      | with_reducible exact sim_movedNumber
      | with_reducible exact sim_movedPointer
      | with_reducible exact sim_twoPlaces
      | with_reducible exact sim_addrSub
      | with_reducible exact sim_addrCmp
      | with_reducible exact sim_addrMod
      | with_reducible exact sim_binOp
      | with_reducible exact sim_stringToBytes
      | with_reducible exact sim_stringToRunes
      | with_reducible exact sim_bytesToString
      | with_reducible exact sim_runesToString
      | with_reducible exact sim_intToInt
      | with_reducible exact sim_intToFloat
      | with_reducible exact sim_intToString
      | with_reducible exact sim_floatToInt
      | with_reducible exact sim_complexToComplex
      | with_reducible exact sim_backFromNumber
      | with_reducible exact sim_variablesAt
      | with_reducible exact sim_seenAt
      | with_reducible exact sim_unsafePointer
      | with_reducible exact sim_convert
      | with_reducible exact sim_alloc
      | with_reducible exact sim_box
      | with_reducible exact sim_build
      | with_reducible exact sim_buildSlice
      | with_reducible exact sim_sureAddr
      | with_reducible exact sim_loadAt
      | with_reducible exact sim_storeAt
      | with_reducible exact sim_fieldAt
      | with_reducible exact sim_indexAt
      | with_reducible exact sim_sliceBound
      | with_reducible exact sim_sliceBounds
      | with_reducible exact sim_slice
      | with_reducible exact sim_sliceAt
      | with_reducible exact sim_arrayAt
      | with_reducible exact sim_waits
      | with_reducible exact sim_makeInterface
      | with_reducible exact sim_makeFunc
      | with_reducible exact sim_makeMap
      | with_reducible exact sim_makeSlice
      | with_reducible exact sim_field
      | with_reducible exact sim_index
      | with_reducible refine Sim.bind (N := fun _ => True) ?_ fun _ _ => ?_
      | with_reducible refine sim_map ?_
      | with_reducible refine sim_forInA (fun _ _ => ?_) _ _
      | with_reducible refine sim_forInR (fun _ _ => ?_) _ _
      | with_reducible refine sim_mapA (fun _ => ?_) _
      | with_reducible refine sim_foldL (fun _ _ => ?_) _ _
      | split
      | dsimp only

theorem sim_findAsking {t : TypeId} {k : Value} : ∀ (l : List MapEntry) (i : Nat), Sim P S (fun _ => True) (Instr.findAsking t k l i)
  | [], _ => Sim.pure trivial
  | e :: es, i => by
    unfold Instr.findAsking
    repeat' first
      | with_reducible exact Sim.pure trivial
      | with_reducible exact sim_stuck
      | with_reducible exact sim_unsupported
      | with_reducible exact sim_panic
      | with_reducible exact sim_runtimePanic
      | with_reducible exact sim_findAsking es _
      | with_reducible exact sim_getObj'
      | with_reducible exact sim_setObj (hS _)
      | with_reducible exact sim_program'
      | with_reducible exact sim_load
      | with_reducible exact sim_store
      | with_reducible exact sim_new
      | with_reducible exact sim_shape
      | with_reducible exact sim_choose
      | with_reducible exact sim_askRoom
      | with_reducible exact sim_typeInfo
      | with_reducible exact sim_underlying
      | with_reducible exact sim_zeroValue
      | with_reducible exact sim_sizeOf
      | with_reducible exact sim_isAgg
      | with_reducible exact sim_loadCells
      | with_reducible exact sim_storeCells _ _
      | with_reducible exact sim_loadVar
      | with_reducible exact sim_storeVar
      | with_reducible exact sim_newRow
      | with_reducible exact sim_newVar
      | with_reducible exact sim_elemOf
      | with_reducible exact sim_part
      | with_reducible exact sim_viewAt
      | with_reducible exact sim_numberAt
      | with_reducible exact sim_cellsIn
      | with_reducible exact sim_noView
      | with_reducible exact sim_asBool
      | with_reducible exact sim_asString
      | with_reducible exact sim_asAgg
      | with_reducible exact sim_asIntOf
      | with_reducible exact sim_asInt
      | with_reducible exact sim_asAddr
      | with_reducible exact sim_sameAddr
      | with_reducible exact sim_freeze
      | with_reducible exact sim_markStringish
      | with_reducible exact sim_asNumber
      | with_reducible exact sim_behindNumber
      | with_reducible exact sim_byteOf
      | with_reducible exact sim_partAt
      | with_reducible exact sim_fieldPlace
      | with_reducible exact sim_boundsPanic
      | with_reducible exact sim_intArith
      | with_reducible exact sim_intDiv
      | with_reducible exact sim_intBits
      | with_reducible exact sim_shift
      | with_reducible exact sim_intCmp
      | with_reducible exact sim_stringOp
      | with_reducible exact sim_floatArith
      | with_reducible exact sim_floatCmp
      | with_reducible exact sim_floatToFloat
      | with_reducible exact sim_carith
      | with_reducible exact sim_ccmp
      | with_reducible exact sim_cconv
      | with_reducible exact sim_cadd
      | with_reducible exact sim_csub
      | with_reducible exact sim_cmul
      | with_reducible exact sim_cquo
      | with_reducible exact sim_cproduct
      | with_reducible exact sim_ccorrected
      | with_reducible exact sim_cquotient
      | with_reducible exact sim_complexOp
      | with_reducible exact sim_unary
      | with_reducible exact sim_samePointer
      | with_reducible exact sim_typeStr
      | with_reducible exact sim_equalIn _ _ _ _
      | with_reducible exact sim_equal
      | with_reducible exact sim_eqGuardIn _ _ _ _
      | with_reducible exact sim_eqGuard
      | with_reducible exact sim_unsafeAdd
      | with_reducible exact sim_movedNumber
      | with_reducible exact sim_movedPointer
      | with_reducible exact sim_twoPlaces
      | with_reducible exact sim_addrSub
      | with_reducible exact sim_addrCmp
      | with_reducible exact sim_addrMod
      | with_reducible exact sim_binOp
      | with_reducible exact sim_stringToBytes
      | with_reducible exact sim_stringToRunes
      | with_reducible exact sim_bytesToString
      | with_reducible exact sim_runesToString
      | with_reducible exact sim_intToInt
      | with_reducible exact sim_intToFloat
      | with_reducible exact sim_intToString
      | with_reducible exact sim_floatToInt
      | with_reducible exact sim_complexToComplex
      | with_reducible exact sim_backFromNumber
      | with_reducible exact sim_variablesAt
      | with_reducible exact sim_seenAt
      | with_reducible exact sim_unsafePointer
      | with_reducible exact sim_convert
      | with_reducible exact sim_alloc
      | with_reducible exact sim_box
      | with_reducible exact sim_build
      | with_reducible exact sim_buildSlice
      | with_reducible exact sim_sureAddr
      | with_reducible exact sim_loadAt
      | with_reducible exact sim_storeAt
      | with_reducible exact sim_fieldAt
      | with_reducible exact sim_indexAt
      | with_reducible exact sim_sliceBound
      | with_reducible exact sim_sliceBounds
      | with_reducible exact sim_slice
      | with_reducible exact sim_sliceAt
      | with_reducible exact sim_arrayAt
      | with_reducible exact sim_waits
      | with_reducible exact sim_makeInterface
      | with_reducible exact sim_makeFunc
      | with_reducible exact sim_makeMap
      | with_reducible exact sim_makeSlice
      | with_reducible exact sim_field
      | with_reducible exact sim_index
      | with_reducible exact sim_checkKey _ _ _
      | with_reducible refine Sim.bind (N := fun _ => True) ?_ fun _ _ => ?_
      | with_reducible refine sim_map ?_
      | with_reducible refine sim_forInA (fun _ _ => ?_) _ _
      | with_reducible refine sim_forInR (fun _ _ => ?_) _ _
      | with_reducible refine sim_mapA (fun _ => ?_) _
      | with_reducible refine sim_foldL (fun _ _ => ?_) _ _
      | split
      | dsimp only

theorem sim_findKey {t : TypeId} {k : Value} {l : List MapEntry} : Sim P S (fun _ => True) (Instr.findKey t k l) := by
  unfold Instr.findKey
  repeat' first
    | with_reducible exact Sim.pure trivial
    | with_reducible exact sim_stuck
    | with_reducible exact sim_unsupported
    | with_reducible exact sim_panic
    | with_reducible exact sim_runtimePanic
    | with_reducible exact sim_getObj'
    | with_reducible exact sim_setObj (hS _)
    | with_reducible exact sim_program'
    | with_reducible exact sim_load
    | with_reducible exact sim_store
    | with_reducible exact sim_new
    | with_reducible exact sim_shape
    | with_reducible exact sim_choose
    | with_reducible exact sim_askRoom
    | with_reducible exact sim_typeInfo
    | with_reducible exact sim_underlying
    | with_reducible exact sim_zeroValue
    | with_reducible exact sim_sizeOf
    | with_reducible exact sim_isAgg
    | with_reducible exact sim_loadCells
    | with_reducible exact sim_storeCells _ _
    | with_reducible exact sim_loadVar
    | with_reducible exact sim_storeVar
    | with_reducible exact sim_newRow
    | with_reducible exact sim_newVar
    | with_reducible exact sim_elemOf
    | with_reducible exact sim_part
    | with_reducible exact sim_viewAt
    | with_reducible exact sim_numberAt
    | with_reducible exact sim_cellsIn
    | with_reducible exact sim_noView
    | with_reducible exact sim_asBool
    | with_reducible exact sim_asString
    | with_reducible exact sim_asAgg
    | with_reducible exact sim_asIntOf
    | with_reducible exact sim_asInt
    | with_reducible exact sim_asAddr
    | with_reducible exact sim_sameAddr
    | with_reducible exact sim_freeze
    | with_reducible exact sim_markStringish
    | with_reducible exact sim_asNumber
    | with_reducible exact sim_behindNumber
    | with_reducible exact sim_byteOf
    | with_reducible exact sim_partAt
    | with_reducible exact sim_fieldPlace
    | with_reducible exact sim_boundsPanic
    | with_reducible exact sim_intArith
    | with_reducible exact sim_intDiv
    | with_reducible exact sim_intBits
    | with_reducible exact sim_shift
    | with_reducible exact sim_intCmp
    | with_reducible exact sim_stringOp
    | with_reducible exact sim_floatArith
    | with_reducible exact sim_floatCmp
    | with_reducible exact sim_floatToFloat
    | with_reducible exact sim_carith
    | with_reducible exact sim_ccmp
    | with_reducible exact sim_cconv
    | with_reducible exact sim_cadd
    | with_reducible exact sim_csub
    | with_reducible exact sim_cmul
    | with_reducible exact sim_cquo
    | with_reducible exact sim_cproduct
    | with_reducible exact sim_ccorrected
    | with_reducible exact sim_cquotient
    | with_reducible exact sim_complexOp
    | with_reducible exact sim_unary
    | with_reducible exact sim_samePointer
    | with_reducible exact sim_typeStr
    | with_reducible exact sim_equalIn _ _ _ _
    | with_reducible exact sim_equal
    | with_reducible exact sim_eqGuardIn _ _ _ _
    | with_reducible exact sim_eqGuard
    | with_reducible exact sim_unsafeAdd
    | with_reducible exact sim_movedNumber
    | with_reducible exact sim_movedPointer
    | with_reducible exact sim_twoPlaces
    | with_reducible exact sim_addrSub
    | with_reducible exact sim_addrCmp
    | with_reducible exact sim_addrMod
    | with_reducible exact sim_binOp
    | with_reducible exact sim_stringToBytes
    | with_reducible exact sim_stringToRunes
    | with_reducible exact sim_bytesToString
    | with_reducible exact sim_runesToString
    | with_reducible exact sim_intToInt
    | with_reducible exact sim_intToFloat
    | with_reducible exact sim_intToString
    | with_reducible exact sim_floatToInt
    | with_reducible exact sim_complexToComplex
    | with_reducible exact sim_backFromNumber
    | with_reducible exact sim_variablesAt
    | with_reducible exact sim_seenAt
    | with_reducible exact sim_unsafePointer
    | with_reducible exact sim_convert
    | with_reducible exact sim_alloc
    | with_reducible exact sim_box
    | with_reducible exact sim_build
    | with_reducible exact sim_buildSlice
    | with_reducible exact sim_sureAddr
    | with_reducible exact sim_loadAt
    | with_reducible exact sim_storeAt
    | with_reducible exact sim_fieldAt
    | with_reducible exact sim_indexAt
    | with_reducible exact sim_sliceBound
    | with_reducible exact sim_sliceBounds
    | with_reducible exact sim_slice
    | with_reducible exact sim_sliceAt
    | with_reducible exact sim_arrayAt
    | with_reducible exact sim_waits
    | with_reducible exact sim_makeInterface
    | with_reducible exact sim_makeFunc
    | with_reducible exact sim_makeMap
    | with_reducible exact sim_makeSlice
    | with_reducible exact sim_field
    | with_reducible exact sim_index
    | with_reducible exact sim_checkKey _ _ _
    | with_reducible exact sim_findAsking _ _
    | with_reducible refine Sim.bind (N := fun _ => True) ?_ fun _ _ => ?_
    | with_reducible refine sim_map ?_
    | with_reducible refine sim_forInA (fun _ _ => ?_) _ _
    | with_reducible refine sim_forInR (fun _ _ => ?_) _ _
    | with_reducible refine sim_mapA (fun _ => ?_) _
    | with_reducible refine sim_foldL (fun _ _ => ?_) _ _
    | split
    | dsimp only

theorem sim_lookup {t : TypeId} {x i : Value} {b : Bool} : Sim P S (fun _ => True) (Instr.lookup t x i b) := by
  unfold Instr.lookup
  repeat' first
    | with_reducible exact Sim.pure trivial
    | with_reducible exact sim_stuck
    | with_reducible exact sim_unsupported
    | with_reducible exact sim_panic
    | with_reducible exact sim_runtimePanic
    | with_reducible exact sim_getObj'
    | with_reducible exact sim_setObj (hS _)
    | with_reducible exact sim_program'
    | with_reducible exact sim_load
    | with_reducible exact sim_store
    | with_reducible exact sim_new
    | with_reducible exact sim_shape
    | with_reducible exact sim_choose
    | with_reducible exact sim_askRoom
    | with_reducible exact sim_typeInfo
    | with_reducible exact sim_underlying
    | with_reducible exact sim_zeroValue
    | with_reducible exact sim_sizeOf
    | with_reducible exact sim_isAgg
    | with_reducible exact sim_loadCells
    | with_reducible exact sim_storeCells _ _
    | with_reducible exact sim_loadVar
    | with_reducible exact sim_storeVar
    | with_reducible exact sim_newRow
    | with_reducible exact sim_newVar
    | with_reducible exact sim_elemOf
    | with_reducible exact sim_part
    | with_reducible exact sim_viewAt
    | with_reducible exact sim_numberAt
    | with_reducible exact sim_cellsIn
    | with_reducible exact sim_noView
    | with_reducible exact sim_asBool
    | with_reducible exact sim_asString
    | with_reducible exact sim_asAgg
    | with_reducible exact sim_asIntOf
    | with_reducible exact sim_asInt
    | with_reducible exact sim_asAddr
    | with_reducible exact sim_sameAddr
    | with_reducible exact sim_freeze
    | with_reducible exact sim_markStringish
    | with_reducible exact sim_asNumber
    | with_reducible exact sim_behindNumber
    | with_reducible exact sim_byteOf
    | with_reducible exact sim_partAt
    | with_reducible exact sim_fieldPlace
    | with_reducible exact sim_boundsPanic
    | with_reducible exact sim_intArith
    | with_reducible exact sim_intDiv
    | with_reducible exact sim_intBits
    | with_reducible exact sim_shift
    | with_reducible exact sim_intCmp
    | with_reducible exact sim_stringOp
    | with_reducible exact sim_floatArith
    | with_reducible exact sim_floatCmp
    | with_reducible exact sim_floatToFloat
    | with_reducible exact sim_carith
    | with_reducible exact sim_ccmp
    | with_reducible exact sim_cconv
    | with_reducible exact sim_cadd
    | with_reducible exact sim_csub
    | with_reducible exact sim_cmul
    | with_reducible exact sim_cquo
    | with_reducible exact sim_cproduct
    | with_reducible exact sim_ccorrected
    | with_reducible exact sim_cquotient
    | with_reducible exact sim_complexOp
    | with_reducible exact sim_unary
    | with_reducible exact sim_samePointer
    | with_reducible exact sim_typeStr
    | with_reducible exact sim_equalIn _ _ _ _
    | with_reducible exact sim_equal
    | with_reducible exact sim_eqGuardIn _ _ _ _
    | with_reducible exact sim_eqGuard
    | with_reducible exact sim_unsafeAdd
    | with_reducible exact sim_movedNumber
    | with_reducible exact sim_movedPointer
    | with_reducible exact sim_twoPlaces
    | with_reducible exact sim_addrSub
    | with_reducible exact sim_addrCmp
    | with_reducible exact sim_addrMod
    | with_reducible exact sim_binOp
    | with_reducible exact sim_stringToBytes
    | with_reducible exact sim_stringToRunes
    | with_reducible exact sim_bytesToString
    | with_reducible exact sim_runesToString
    | with_reducible exact sim_intToInt
    | with_reducible exact sim_intToFloat
    | with_reducible exact sim_intToString
    | with_reducible exact sim_floatToInt
    | with_reducible exact sim_complexToComplex
    | with_reducible exact sim_backFromNumber
    | with_reducible exact sim_variablesAt
    | with_reducible exact sim_seenAt
    | with_reducible exact sim_unsafePointer
    | with_reducible exact sim_convert
    | with_reducible exact sim_alloc
    | with_reducible exact sim_box
    | with_reducible exact sim_build
    | with_reducible exact sim_buildSlice
    | with_reducible exact sim_sureAddr
    | with_reducible exact sim_loadAt
    | with_reducible exact sim_storeAt
    | with_reducible exact sim_fieldAt
    | with_reducible exact sim_indexAt
    | with_reducible exact sim_sliceBound
    | with_reducible exact sim_sliceBounds
    | with_reducible exact sim_slice
    | with_reducible exact sim_sliceAt
    | with_reducible exact sim_arrayAt
    | with_reducible exact sim_waits
    | with_reducible exact sim_makeInterface
    | with_reducible exact sim_makeFunc
    | with_reducible exact sim_makeMap
    | with_reducible exact sim_makeSlice
    | with_reducible exact sim_field
    | with_reducible exact sim_index
    | with_reducible exact sim_checkKey _ _ _
    | with_reducible exact sim_findAsking _ _
    | with_reducible exact sim_findKey
    | with_reducible refine Sim.bind (N := fun _ => True) ?_ fun _ _ => ?_
    | with_reducible refine sim_map ?_
    | with_reducible refine sim_forInA (fun _ _ => ?_) _ _
    | with_reducible refine sim_forInR (fun _ _ => ?_) _ _
    | with_reducible refine sim_mapA (fun _ => ?_) _
    | with_reducible refine sim_foldL (fun _ _ => ?_) _ _
    | split
    | dsimp only

theorem sim_keyThatStays {x y : Value} : Sim P S (fun _ => True) (Instr.keyThatStays x y) := by
  unfold Instr.keyThatStays
  repeat' first
    | with_reducible exact Sim.pure trivial
    | with_reducible exact sim_stuck
    | with_reducible exact sim_unsupported
    | with_reducible exact sim_panic
    | with_reducible exact sim_runtimePanic
    | with_reducible exact sim_getObj'
    | with_reducible exact sim_setObj (hS _)
    | with_reducible exact sim_program'
    | with_reducible exact sim_load
    | with_reducible exact sim_store
    | with_reducible exact sim_new
    | with_reducible exact sim_shape
    | with_reducible exact sim_choose
    | with_reducible exact sim_askRoom
    | with_reducible exact sim_typeInfo
    | with_reducible exact sim_underlying
    | with_reducible exact sim_zeroValue
    | with_reducible exact sim_sizeOf
    | with_reducible exact sim_isAgg
    | with_reducible exact sim_loadCells
    | with_reducible exact sim_storeCells _ _
    | with_reducible exact sim_loadVar
    | with_reducible exact sim_storeVar
    | with_reducible exact sim_newRow
    | with_reducible exact sim_newVar
    | with_reducible exact sim_elemOf
    | with_reducible exact sim_part
    | with_reducible exact sim_viewAt
    | with_reducible exact sim_numberAt
    | with_reducible exact sim_cellsIn
    | with_reducible exact sim_noView
    | with_reducible exact sim_asBool
    | with_reducible exact sim_asString
    | with_reducible exact sim_asAgg
    | with_reducible exact sim_asIntOf
    | with_reducible exact sim_asInt
    | with_reducible exact sim_asAddr
    | with_reducible exact sim_sameAddr
    | with_reducible exact sim_freeze
    | with_reducible exact sim_markStringish
    | with_reducible exact sim_asNumber
    | with_reducible exact sim_behindNumber
    | with_reducible exact sim_byteOf
    | with_reducible exact sim_partAt
    | with_reducible exact sim_fieldPlace
    | with_reducible exact sim_boundsPanic
    | with_reducible exact sim_intArith
    | with_reducible exact sim_intDiv
    | with_reducible exact sim_intBits
    | with_reducible exact sim_shift
    | with_reducible exact sim_intCmp
    | with_reducible exact sim_stringOp
    | with_reducible exact sim_floatArith
    | with_reducible exact sim_floatCmp
    | with_reducible exact sim_floatToFloat
    | with_reducible exact sim_carith
    | with_reducible exact sim_ccmp
    | with_reducible exact sim_cconv
    | with_reducible exact sim_cadd
    | with_reducible exact sim_csub
    | with_reducible exact sim_cmul
    | with_reducible exact sim_cquo
    | with_reducible exact sim_cproduct
    | with_reducible exact sim_ccorrected
    | with_reducible exact sim_cquotient
    | with_reducible exact sim_complexOp
    | with_reducible exact sim_unary
    | with_reducible exact sim_samePointer
    | with_reducible exact sim_typeStr
    | with_reducible exact sim_equalIn _ _ _ _
    | with_reducible exact sim_equal
    | with_reducible exact sim_eqGuardIn _ _ _ _
    | with_reducible exact sim_eqGuard
    | with_reducible exact sim_unsafeAdd
    | with_reducible exact sim_movedNumber
    | with_reducible exact sim_movedPointer
    | with_reducible exact sim_twoPlaces
    | with_reducible exact sim_addrSub
    | with_reducible exact sim_addrCmp
    | with_reducible exact sim_addrMod
    | with_reducible exact sim_binOp
    | with_reducible exact sim_stringToBytes
    | with_reducible exact sim_stringToRunes
    | with_reducible exact sim_bytesToString
    | with_reducible exact sim_runesToString
    | with_reducible exact sim_intToInt
    | with_reducible exact sim_intToFloat
    | with_reducible exact sim_intToString
    | with_reducible exact sim_floatToInt
    | with_reducible exact sim_complexToComplex
    | with_reducible exact sim_backFromNumber
    | with_reducible exact sim_variablesAt
    | with_reducible exact sim_seenAt
    | with_reducible exact sim_unsafePointer
    | with_reducible exact sim_convert
    | with_reducible exact sim_alloc
    | with_reducible exact sim_box
    | with_reducible exact sim_build
    | with_reducible exact sim_buildSlice
    | with_reducible exact sim_sureAddr
    | with_reducible exact sim_loadAt
    | with_reducible exact sim_storeAt
    | with_reducible exact sim_fieldAt
    | with_reducible exact sim_indexAt
    | with_reducible exact sim_sliceBound
    | with_reducible exact sim_sliceBounds
    | with_reducible exact sim_slice
    | with_reducible exact sim_sliceAt
    | with_reducible exact sim_arrayAt
    | with_reducible exact sim_waits
    | with_reducible exact sim_makeInterface
    | with_reducible exact sim_makeFunc
    | with_reducible exact sim_makeMap
    | with_reducible exact sim_makeSlice
    | with_reducible exact sim_field
    | with_reducible exact sim_index
    | with_reducible exact sim_checkKey _ _ _
    | with_reducible exact sim_findAsking _ _
    | with_reducible exact sim_findKey
    | with_reducible exact sim_lookup
    | with_reducible refine Sim.bind (N := fun _ => True) ?_ fun _ _ => ?_
    | with_reducible refine sim_map ?_
    | with_reducible refine sim_forInA (fun _ _ => ?_) _ _
    | with_reducible refine sim_forInR (fun _ _ => ?_) _ _
    | with_reducible refine sim_mapA (fun _ => ?_) _
    | with_reducible refine sim_foldL (fun _ _ => ?_) _ _
    | split
    | dsimp only

theorem sim_mapUpdate (hS : ∀ r, ¬ S.objs r) {t : TypeId} {m k v : Value} : Sim P S (fun _ => True) (Instr.mapUpdate t m k v) := by
  unfold Instr.mapUpdate
  repeat' first
    | with_reducible exact Sim.pure trivial
    | with_reducible exact sim_stuck
    | with_reducible exact sim_unsupported
    | with_reducible exact sim_panic
    | with_reducible exact sim_runtimePanic
    | with_reducible exact sim_getObj'
    | with_reducible exact sim_setObj (hS _)
    | with_reducible exact sim_program'
    | with_reducible exact sim_load
    | with_reducible exact sim_store
    | with_reducible exact sim_new
    | with_reducible exact sim_shape
    | with_reducible exact sim_choose
    | with_reducible exact sim_askRoom
    | with_reducible exact sim_typeInfo
    | with_reducible exact sim_underlying
    | with_reducible exact sim_zeroValue
    | with_reducible exact sim_sizeOf
    | with_reducible exact sim_isAgg
    | with_reducible exact sim_loadCells
    | with_reducible exact sim_storeCells _ _
    | with_reducible exact sim_loadVar
    | with_reducible exact sim_storeVar
    | with_reducible exact sim_newRow
    | with_reducible exact sim_newVar
    | with_reducible exact sim_elemOf
    | with_reducible exact sim_part
    | with_reducible exact sim_viewAt
    | with_reducible exact sim_numberAt
    | with_reducible exact sim_cellsIn
    | with_reducible exact sim_noView
    | with_reducible exact sim_asBool
    | with_reducible exact sim_asString
    | with_reducible exact sim_asAgg
    | with_reducible exact sim_asIntOf
    | with_reducible exact sim_asInt
    | with_reducible exact sim_asAddr
    | with_reducible exact sim_sameAddr
    | with_reducible exact sim_freeze
    | with_reducible exact sim_markStringish
    | with_reducible exact sim_asNumber
    | with_reducible exact sim_behindNumber
    | with_reducible exact sim_byteOf
    | with_reducible exact sim_partAt
    | with_reducible exact sim_fieldPlace
    | with_reducible exact sim_boundsPanic
    | with_reducible exact sim_intArith
    | with_reducible exact sim_intDiv
    | with_reducible exact sim_intBits
    | with_reducible exact sim_shift
    | with_reducible exact sim_intCmp
    | with_reducible exact sim_stringOp
    | with_reducible exact sim_floatArith
    | with_reducible exact sim_floatCmp
    | with_reducible exact sim_floatToFloat
    | with_reducible exact sim_carith
    | with_reducible exact sim_ccmp
    | with_reducible exact sim_cconv
    | with_reducible exact sim_cadd
    | with_reducible exact sim_csub
    | with_reducible exact sim_cmul
    | with_reducible exact sim_cquo
    | with_reducible exact sim_cproduct
    | with_reducible exact sim_ccorrected
    | with_reducible exact sim_cquotient
    | with_reducible exact sim_complexOp
    | with_reducible exact sim_unary
    | with_reducible exact sim_samePointer
    | with_reducible exact sim_typeStr
    | with_reducible exact sim_equalIn _ _ _ _
    | with_reducible exact sim_equal
    | with_reducible exact sim_eqGuardIn _ _ _ _
    | with_reducible exact sim_eqGuard
    | with_reducible exact sim_unsafeAdd
    | with_reducible exact sim_movedNumber
    | with_reducible exact sim_movedPointer
    | with_reducible exact sim_twoPlaces
    | with_reducible exact sim_addrSub
    | with_reducible exact sim_addrCmp
    | with_reducible exact sim_addrMod
    | with_reducible exact sim_binOp
    | with_reducible exact sim_stringToBytes
    | with_reducible exact sim_stringToRunes
    | with_reducible exact sim_bytesToString
    | with_reducible exact sim_runesToString
    | with_reducible exact sim_intToInt
    | with_reducible exact sim_intToFloat
    | with_reducible exact sim_intToString
    | with_reducible exact sim_floatToInt
    | with_reducible exact sim_complexToComplex
    | with_reducible exact sim_backFromNumber
    | with_reducible exact sim_variablesAt
    | with_reducible exact sim_seenAt
    | with_reducible exact sim_unsafePointer
    | with_reducible exact sim_convert
    | with_reducible exact sim_alloc
    | with_reducible exact sim_box
    | with_reducible exact sim_build
    | with_reducible exact sim_buildSlice
    | with_reducible exact sim_sureAddr
    | with_reducible exact sim_loadAt
    | with_reducible exact sim_storeAt
    | with_reducible exact sim_fieldAt
    | with_reducible exact sim_indexAt
    | with_reducible exact sim_sliceBound
    | with_reducible exact sim_sliceBounds
    | with_reducible exact sim_slice
    | with_reducible exact sim_sliceAt
    | with_reducible exact sim_arrayAt
    | with_reducible exact sim_waits
    | with_reducible exact sim_makeInterface
    | with_reducible exact sim_makeFunc
    | with_reducible exact sim_makeMap
    | with_reducible exact sim_makeSlice
    | with_reducible exact sim_field
    | with_reducible exact sim_index
    | with_reducible exact sim_checkKey _ _ _
    | with_reducible exact sim_findAsking _ _
    | with_reducible exact sim_findKey
    | with_reducible exact sim_lookup
    | with_reducible exact sim_keyThatStays
    | with_reducible refine Sim.bind (N := fun _ => True) ?_ fun _ _ => ?_
    | with_reducible refine sim_map ?_
    | with_reducible refine sim_forInA (fun _ _ => ?_) _ _
    | with_reducible refine sim_forInR (fun _ _ => ?_) _ _
    | with_reducible refine sim_mapA (fun _ => ?_) _
    | with_reducible refine sim_foldL (fun _ _ => ?_) _ _
    | split
    | dsimp only

theorem sim_mapEntry (hS : ∀ r, ¬ S.objs r) {t : TypeId} {m k : Value} : Sim P S (fun _ => True) (Instr.mapEntry t m k) := by
  unfold Instr.mapEntry
  repeat' first
    | with_reducible exact Sim.pure trivial
    | with_reducible exact sim_stuck
    | with_reducible exact sim_unsupported
    | with_reducible exact sim_panic
    | with_reducible exact sim_runtimePanic
    | with_reducible exact sim_getObj'
    | with_reducible exact sim_setObj (hS _)
    | with_reducible exact sim_program'
    | with_reducible exact sim_load
    | with_reducible exact sim_store
    | with_reducible exact sim_new
    | with_reducible exact sim_shape
    | with_reducible exact sim_choose
    | with_reducible exact sim_askRoom
    | with_reducible exact sim_typeInfo
    | with_reducible exact sim_underlying
    | with_reducible exact sim_zeroValue
    | with_reducible exact sim_sizeOf
    | with_reducible exact sim_isAgg
    | with_reducible exact sim_loadCells
    | with_reducible exact sim_storeCells _ _
    | with_reducible exact sim_loadVar
    | with_reducible exact sim_storeVar
    | with_reducible exact sim_newRow
    | with_reducible exact sim_newVar
    | with_reducible exact sim_elemOf
    | with_reducible exact sim_part
    | with_reducible exact sim_viewAt
    | with_reducible exact sim_numberAt
    | with_reducible exact sim_cellsIn
    | with_reducible exact sim_noView
    | with_reducible exact sim_asBool
    | with_reducible exact sim_asString
    | with_reducible exact sim_asAgg
    | with_reducible exact sim_asIntOf
    | with_reducible exact sim_asInt
    | with_reducible exact sim_asAddr
    | with_reducible exact sim_sameAddr
    | with_reducible exact sim_freeze
    | with_reducible exact sim_markStringish
    | with_reducible exact sim_asNumber
    | with_reducible exact sim_behindNumber
    | with_reducible exact sim_byteOf
    | with_reducible exact sim_partAt
    | with_reducible exact sim_fieldPlace
    | with_reducible exact sim_boundsPanic
    | with_reducible exact sim_intArith
    | with_reducible exact sim_intDiv
    | with_reducible exact sim_intBits
    | with_reducible exact sim_shift
    | with_reducible exact sim_intCmp
    | with_reducible exact sim_stringOp
    | with_reducible exact sim_floatArith
    | with_reducible exact sim_floatCmp
    | with_reducible exact sim_floatToFloat
    | with_reducible exact sim_carith
    | with_reducible exact sim_ccmp
    | with_reducible exact sim_cconv
    | with_reducible exact sim_cadd
    | with_reducible exact sim_csub
    | with_reducible exact sim_cmul
    | with_reducible exact sim_cquo
    | with_reducible exact sim_cproduct
    | with_reducible exact sim_ccorrected
    | with_reducible exact sim_cquotient
    | with_reducible exact sim_complexOp
    | with_reducible exact sim_unary
    | with_reducible exact sim_samePointer
    | with_reducible exact sim_typeStr
    | with_reducible exact sim_equalIn _ _ _ _
    | with_reducible exact sim_equal
    | with_reducible exact sim_eqGuardIn _ _ _ _
    | with_reducible exact sim_eqGuard
    | with_reducible exact sim_unsafeAdd
    | with_reducible exact sim_movedNumber
    | with_reducible exact sim_movedPointer
    | with_reducible exact sim_twoPlaces
    | with_reducible exact sim_addrSub
    | with_reducible exact sim_addrCmp
    | with_reducible exact sim_addrMod
    | with_reducible exact sim_binOp
    | with_reducible exact sim_stringToBytes
    | with_reducible exact sim_stringToRunes
    | with_reducible exact sim_bytesToString
    | with_reducible exact sim_runesToString
    | with_reducible exact sim_intToInt
    | with_reducible exact sim_intToFloat
    | with_reducible exact sim_intToString
    | with_reducible exact sim_floatToInt
    | with_reducible exact sim_complexToComplex
    | with_reducible exact sim_backFromNumber
    | with_reducible exact sim_variablesAt
    | with_reducible exact sim_seenAt
    | with_reducible exact sim_unsafePointer
    | with_reducible exact sim_convert
    | with_reducible exact sim_alloc
    | with_reducible exact sim_box
    | with_reducible exact sim_build
    | with_reducible exact sim_buildSlice
    | with_reducible exact sim_sureAddr
    | with_reducible exact sim_loadAt
    | with_reducible exact sim_storeAt
    | with_reducible exact sim_fieldAt
    | with_reducible exact sim_indexAt
    | with_reducible exact sim_sliceBound
    | with_reducible exact sim_sliceBounds
    | with_reducible exact sim_slice
    | with_reducible exact sim_sliceAt
    | with_reducible exact sim_arrayAt
    | with_reducible exact sim_waits
    | with_reducible exact sim_makeInterface
    | with_reducible exact sim_makeFunc
    | with_reducible exact sim_makeMap
    | with_reducible exact sim_makeSlice
    | with_reducible exact sim_field
    | with_reducible exact sim_index
    | with_reducible exact sim_checkKey _ _ _
    | with_reducible exact sim_findAsking _ _
    | with_reducible exact sim_findKey
    | with_reducible exact sim_lookup
    | with_reducible exact sim_keyThatStays
    | with_reducible exact sim_mapUpdate hS
    | with_reducible refine Sim.bind (N := fun _ => True) ?_ fun _ _ => ?_
    | with_reducible refine sim_map ?_
    | with_reducible refine sim_forInA (fun _ _ => ?_) _ _
    | with_reducible refine sim_forInR (fun _ _ => ?_) _ _
    | with_reducible refine sim_mapA (fun _ => ?_) _
    | with_reducible refine sim_foldL (fun _ _ => ?_) _ _
    | split
    | dsimp only

theorem sim_entryStore (hS : ∀ r, ¬ S.objs r) {t : TypeId} {m s v : Value} : Sim P S (fun _ => True) (Instr.entryStore t m s v) := by
  unfold Instr.entryStore
  repeat' first
    | with_reducible exact Sim.pure trivial
    | with_reducible exact sim_stuck
    | with_reducible exact sim_unsupported
    | with_reducible exact sim_panic
    | with_reducible exact sim_runtimePanic
    | with_reducible exact sim_getObj'
    | with_reducible exact sim_setObj (hS _)
    | with_reducible exact sim_program'
    | with_reducible exact sim_load
    | with_reducible exact sim_store
    | with_reducible exact sim_new
    | with_reducible exact sim_shape
    | with_reducible exact sim_choose
    | with_reducible exact sim_askRoom
    | with_reducible exact sim_typeInfo
    | with_reducible exact sim_underlying
    | with_reducible exact sim_zeroValue
    | with_reducible exact sim_sizeOf
    | with_reducible exact sim_isAgg
    | with_reducible exact sim_loadCells
    | with_reducible exact sim_storeCells _ _
    | with_reducible exact sim_loadVar
    | with_reducible exact sim_storeVar
    | with_reducible exact sim_newRow
    | with_reducible exact sim_newVar
    | with_reducible exact sim_elemOf
    | with_reducible exact sim_part
    | with_reducible exact sim_viewAt
    | with_reducible exact sim_numberAt
    | with_reducible exact sim_cellsIn
    | with_reducible exact sim_noView
    | with_reducible exact sim_asBool
    | with_reducible exact sim_asString
    | with_reducible exact sim_asAgg
    | with_reducible exact sim_asIntOf
    | with_reducible exact sim_asInt
    | with_reducible exact sim_asAddr
    | with_reducible exact sim_sameAddr
    | with_reducible exact sim_freeze
    | with_reducible exact sim_markStringish
    | with_reducible exact sim_asNumber
    | with_reducible exact sim_behindNumber
    | with_reducible exact sim_byteOf
    | with_reducible exact sim_partAt
    | with_reducible exact sim_fieldPlace
    | with_reducible exact sim_boundsPanic
    | with_reducible exact sim_intArith
    | with_reducible exact sim_intDiv
    | with_reducible exact sim_intBits
    | with_reducible exact sim_shift
    | with_reducible exact sim_intCmp
    | with_reducible exact sim_stringOp
    | with_reducible exact sim_floatArith
    | with_reducible exact sim_floatCmp
    | with_reducible exact sim_floatToFloat
    | with_reducible exact sim_carith
    | with_reducible exact sim_ccmp
    | with_reducible exact sim_cconv
    | with_reducible exact sim_cadd
    | with_reducible exact sim_csub
    | with_reducible exact sim_cmul
    | with_reducible exact sim_cquo
    | with_reducible exact sim_cproduct
    | with_reducible exact sim_ccorrected
    | with_reducible exact sim_cquotient
    | with_reducible exact sim_complexOp
    | with_reducible exact sim_unary
    | with_reducible exact sim_samePointer
    | with_reducible exact sim_typeStr
    | with_reducible exact sim_equalIn _ _ _ _
    | with_reducible exact sim_equal
    | with_reducible exact sim_eqGuardIn _ _ _ _
    | with_reducible exact sim_eqGuard
    | with_reducible exact sim_unsafeAdd
    | with_reducible exact sim_movedNumber
    | with_reducible exact sim_movedPointer
    | with_reducible exact sim_twoPlaces
    | with_reducible exact sim_addrSub
    | with_reducible exact sim_addrCmp
    | with_reducible exact sim_addrMod
    | with_reducible exact sim_binOp
    | with_reducible exact sim_stringToBytes
    | with_reducible exact sim_stringToRunes
    | with_reducible exact sim_bytesToString
    | with_reducible exact sim_runesToString
    | with_reducible exact sim_intToInt
    | with_reducible exact sim_intToFloat
    | with_reducible exact sim_intToString
    | with_reducible exact sim_floatToInt
    | with_reducible exact sim_complexToComplex
    | with_reducible exact sim_backFromNumber
    | with_reducible exact sim_variablesAt
    | with_reducible exact sim_seenAt
    | with_reducible exact sim_unsafePointer
    | with_reducible exact sim_convert
    | with_reducible exact sim_alloc
    | with_reducible exact sim_box
    | with_reducible exact sim_build
    | with_reducible exact sim_buildSlice
    | with_reducible exact sim_sureAddr
    | with_reducible exact sim_loadAt
    | with_reducible exact sim_storeAt
    | with_reducible exact sim_fieldAt
    | with_reducible exact sim_indexAt
    | with_reducible exact sim_sliceBound
    | with_reducible exact sim_sliceBounds
    | with_reducible exact sim_slice
    | with_reducible exact sim_sliceAt
    | with_reducible exact sim_arrayAt
    | with_reducible exact sim_waits
    | with_reducible exact sim_makeInterface
    | with_reducible exact sim_makeFunc
    | with_reducible exact sim_makeMap
    | with_reducible exact sim_makeSlice
    | with_reducible exact sim_field
    | with_reducible exact sim_index
    | with_reducible exact sim_checkKey _ _ _
    | with_reducible exact sim_findAsking _ _
    | with_reducible exact sim_findKey
    | with_reducible exact sim_lookup
    | with_reducible exact sim_keyThatStays
    | with_reducible exact sim_mapUpdate hS
    | with_reducible exact sim_mapEntry hS
    | with_reducible refine Sim.bind (N := fun _ => True) ?_ fun _ _ => ?_
    | with_reducible refine sim_map ?_
    | with_reducible refine sim_forInA (fun _ _ => ?_) _ _
    | with_reducible refine sim_forInR (fun _ _ => ?_) _ _
    | with_reducible refine sim_mapA (fun _ => ?_) _
    | with_reducible refine sim_foldL (fun _ _ => ?_) _ _
    | split
    | dsimp only

theorem sim_range {t : TypeId} {x : Value} : Sim P S (fun _ => True) (Instr.range t x) := by
  unfold Instr.range
  repeat' first
    | with_reducible exact Sim.pure trivial
    | with_reducible exact sim_stuck
    | with_reducible exact sim_unsupported
    | with_reducible exact sim_panic
    | with_reducible exact sim_runtimePanic
    | with_reducible exact sim_getObj'
    | with_reducible exact sim_setObj (hS _)
    | with_reducible exact sim_program'
    | with_reducible exact sim_load
    | with_reducible exact sim_store
    | with_reducible exact sim_new
    | with_reducible exact sim_shape
    | with_reducible exact sim_choose
    | with_reducible exact sim_askRoom
    | with_reducible exact sim_typeInfo
    | with_reducible exact sim_underlying
    | with_reducible exact sim_zeroValue
    | with_reducible exact sim_sizeOf
    | with_reducible exact sim_isAgg
    | with_reducible exact sim_loadCells
    | with_reducible exact sim_storeCells _ _
    | with_reducible exact sim_loadVar
    | with_reducible exact sim_storeVar
    | with_reducible exact sim_newRow
    | with_reducible exact sim_newVar
    | with_reducible exact sim_elemOf
    | with_reducible exact sim_part
    | with_reducible exact sim_viewAt
    | with_reducible exact sim_numberAt
    | with_reducible exact sim_cellsIn
    | with_reducible exact sim_noView
    | with_reducible exact sim_asBool
    | with_reducible exact sim_asString
    | with_reducible exact sim_asAgg
    | with_reducible exact sim_asIntOf
    | with_reducible exact sim_asInt
    | with_reducible exact sim_asAddr
    | with_reducible exact sim_sameAddr
    | with_reducible exact sim_freeze
    | with_reducible exact sim_markStringish
    | with_reducible exact sim_asNumber
    | with_reducible exact sim_behindNumber
    | with_reducible exact sim_byteOf
    | with_reducible exact sim_partAt
    | with_reducible exact sim_fieldPlace
    | with_reducible exact sim_boundsPanic
    | with_reducible exact sim_intArith
    | with_reducible exact sim_intDiv
    | with_reducible exact sim_intBits
    | with_reducible exact sim_shift
    | with_reducible exact sim_intCmp
    | with_reducible exact sim_stringOp
    | with_reducible exact sim_floatArith
    | with_reducible exact sim_floatCmp
    | with_reducible exact sim_floatToFloat
    | with_reducible exact sim_carith
    | with_reducible exact sim_ccmp
    | with_reducible exact sim_cconv
    | with_reducible exact sim_cadd
    | with_reducible exact sim_csub
    | with_reducible exact sim_cmul
    | with_reducible exact sim_cquo
    | with_reducible exact sim_cproduct
    | with_reducible exact sim_ccorrected
    | with_reducible exact sim_cquotient
    | with_reducible exact sim_complexOp
    | with_reducible exact sim_unary
    | with_reducible exact sim_samePointer
    | with_reducible exact sim_typeStr
    | with_reducible exact sim_equalIn _ _ _ _
    | with_reducible exact sim_equal
    | with_reducible exact sim_eqGuardIn _ _ _ _
    | with_reducible exact sim_eqGuard
    | with_reducible exact sim_unsafeAdd
    | with_reducible exact sim_movedNumber
    | with_reducible exact sim_movedPointer
    | with_reducible exact sim_twoPlaces
    | with_reducible exact sim_addrSub
    | with_reducible exact sim_addrCmp
    | with_reducible exact sim_addrMod
    | with_reducible exact sim_binOp
    | with_reducible exact sim_stringToBytes
    | with_reducible exact sim_stringToRunes
    | with_reducible exact sim_bytesToString
    | with_reducible exact sim_runesToString
    | with_reducible exact sim_intToInt
    | with_reducible exact sim_intToFloat
    | with_reducible exact sim_intToString
    | with_reducible exact sim_floatToInt
    | with_reducible exact sim_complexToComplex
    | with_reducible exact sim_backFromNumber
    | with_reducible exact sim_variablesAt
    | with_reducible exact sim_seenAt
    | with_reducible exact sim_unsafePointer
    | with_reducible exact sim_convert
    | with_reducible exact sim_alloc
    | with_reducible exact sim_box
    | with_reducible exact sim_build
    | with_reducible exact sim_buildSlice
    | with_reducible exact sim_sureAddr
    | with_reducible exact sim_loadAt
    | with_reducible exact sim_storeAt
    | with_reducible exact sim_fieldAt
    | with_reducible exact sim_indexAt
    | with_reducible exact sim_sliceBound
    | with_reducible exact sim_sliceBounds
    | with_reducible exact sim_slice
    | with_reducible exact sim_sliceAt
    | with_reducible exact sim_arrayAt
    | with_reducible exact sim_waits
    | with_reducible exact sim_makeInterface
    | with_reducible exact sim_makeFunc
    | with_reducible exact sim_makeMap
    | with_reducible exact sim_makeSlice
    | with_reducible exact sim_field
    | with_reducible exact sim_index
    | with_reducible exact sim_checkKey _ _ _
    | with_reducible exact sim_findAsking _ _
    | with_reducible exact sim_findKey
    | with_reducible exact sim_lookup
    | with_reducible exact sim_keyThatStays
    | with_reducible exact sim_mapUpdate hS
    | with_reducible exact sim_mapEntry hS
    | with_reducible exact sim_entryStore hS
    | with_reducible refine Sim.bind (N := fun _ => True) ?_ fun _ _ => ?_
    | with_reducible refine sim_map ?_
    | with_reducible refine sim_forInA (fun _ _ => ?_) _ _
    | with_reducible refine sim_forInR (fun _ _ => ?_) _ _
    | with_reducible refine sim_mapA (fun _ => ?_) _
    | with_reducible refine sim_foldL (fun _ _ => ?_) _ _
    | split
    | dsimp only

theorem sim_next (hS : ∀ r, ¬ S.objs r) {x : Value} {b : Bool} {t : TypeId} : Sim P S (fun _ => True) (Instr.next x b t) := by
  unfold Instr.next
  repeat' first
    | with_reducible exact Sim.pure trivial
    | with_reducible exact sim_stuck
    | with_reducible exact sim_unsupported
    | with_reducible exact sim_panic
    | with_reducible exact sim_runtimePanic
    | with_reducible exact sim_getObj'
    | with_reducible exact sim_setObj (hS _)
    | with_reducible exact sim_program'
    | with_reducible exact sim_load
    | with_reducible exact sim_store
    | with_reducible exact sim_new
    | with_reducible exact sim_shape
    | with_reducible exact sim_choose
    | with_reducible exact sim_askRoom
    | with_reducible exact sim_typeInfo
    | with_reducible exact sim_underlying
    | with_reducible exact sim_zeroValue
    | with_reducible exact sim_sizeOf
    | with_reducible exact sim_isAgg
    | with_reducible exact sim_loadCells
    | with_reducible exact sim_storeCells _ _
    | with_reducible exact sim_loadVar
    | with_reducible exact sim_storeVar
    | with_reducible exact sim_newRow
    | with_reducible exact sim_newVar
    | with_reducible exact sim_elemOf
    | with_reducible exact sim_part
    | with_reducible exact sim_viewAt
    | with_reducible exact sim_numberAt
    | with_reducible exact sim_cellsIn
    | with_reducible exact sim_noView
    | with_reducible exact sim_asBool
    | with_reducible exact sim_asString
    | with_reducible exact sim_asAgg
    | with_reducible exact sim_asIntOf
    | with_reducible exact sim_asInt
    | with_reducible exact sim_asAddr
    | with_reducible exact sim_sameAddr
    | with_reducible exact sim_freeze
    | with_reducible exact sim_markStringish
    | with_reducible exact sim_asNumber
    | with_reducible exact sim_behindNumber
    | with_reducible exact sim_byteOf
    | with_reducible exact sim_partAt
    | with_reducible exact sim_fieldPlace
    | with_reducible exact sim_boundsPanic
    | with_reducible exact sim_intArith
    | with_reducible exact sim_intDiv
    | with_reducible exact sim_intBits
    | with_reducible exact sim_shift
    | with_reducible exact sim_intCmp
    | with_reducible exact sim_stringOp
    | with_reducible exact sim_floatArith
    | with_reducible exact sim_floatCmp
    | with_reducible exact sim_floatToFloat
    | with_reducible exact sim_carith
    | with_reducible exact sim_ccmp
    | with_reducible exact sim_cconv
    | with_reducible exact sim_cadd
    | with_reducible exact sim_csub
    | with_reducible exact sim_cmul
    | with_reducible exact sim_cquo
    | with_reducible exact sim_cproduct
    | with_reducible exact sim_ccorrected
    | with_reducible exact sim_cquotient
    | with_reducible exact sim_complexOp
    | with_reducible exact sim_unary
    | with_reducible exact sim_samePointer
    | with_reducible exact sim_typeStr
    | with_reducible exact sim_equalIn _ _ _ _
    | with_reducible exact sim_equal
    | with_reducible exact sim_eqGuardIn _ _ _ _
    | with_reducible exact sim_eqGuard
    | with_reducible exact sim_unsafeAdd
    | with_reducible exact sim_movedNumber
    | with_reducible exact sim_movedPointer
    | with_reducible exact sim_twoPlaces
    | with_reducible exact sim_addrSub
    | with_reducible exact sim_addrCmp
    | with_reducible exact sim_addrMod
    | with_reducible exact sim_binOp
    | with_reducible exact sim_stringToBytes
    | with_reducible exact sim_stringToRunes
    | with_reducible exact sim_bytesToString
    | with_reducible exact sim_runesToString
    | with_reducible exact sim_intToInt
    | with_reducible exact sim_intToFloat
    | with_reducible exact sim_intToString
    | with_reducible exact sim_floatToInt
    | with_reducible exact sim_complexToComplex
    | with_reducible exact sim_backFromNumber
    | with_reducible exact sim_variablesAt
    | with_reducible exact sim_seenAt
    | with_reducible exact sim_unsafePointer
    | with_reducible exact sim_convert
    | with_reducible exact sim_alloc
    | with_reducible exact sim_box
    | with_reducible exact sim_build
    | with_reducible exact sim_buildSlice
    | with_reducible exact sim_sureAddr
    | with_reducible exact sim_loadAt
    | with_reducible exact sim_storeAt
    | with_reducible exact sim_fieldAt
    | with_reducible exact sim_indexAt
    | with_reducible exact sim_sliceBound
    | with_reducible exact sim_sliceBounds
    | with_reducible exact sim_slice
    | with_reducible exact sim_sliceAt
    | with_reducible exact sim_arrayAt
    | with_reducible exact sim_waits
    | with_reducible exact sim_makeInterface
    | with_reducible exact sim_makeFunc
    | with_reducible exact sim_makeMap
    | with_reducible exact sim_makeSlice
    | with_reducible exact sim_field
    | with_reducible exact sim_index
    | with_reducible exact sim_checkKey _ _ _
    | with_reducible exact sim_findAsking _ _
    | with_reducible exact sim_findKey
    | with_reducible exact sim_lookup
    | with_reducible exact sim_keyThatStays
    | with_reducible exact sim_mapUpdate hS
    | with_reducible exact sim_mapEntry hS
    | with_reducible exact sim_entryStore hS
    | with_reducible exact sim_range
    | with_reducible refine Sim.bind (N := fun _ => True) ?_ fun _ _ => ?_
    | with_reducible refine sim_map ?_
    | with_reducible refine sim_forInA (fun _ _ => ?_) _ _
    | with_reducible refine sim_forInR (fun _ _ => ?_) _ _
    | with_reducible refine sim_mapA (fun _ => ?_) _
    | with_reducible refine sim_foldL (fun _ _ => ?_) _ _
    | split
    | dsimp only

theorem sim_entry {x : Value} : Sim P S (fun _ => True) (Instr.entry x) := by
  unfold Instr.entry
  repeat' first
    | with_reducible exact Sim.pure trivial
    | with_reducible exact sim_stuck
    | with_reducible exact sim_unsupported
    | with_reducible exact sim_panic
    | with_reducible exact sim_runtimePanic
    | with_reducible exact sim_getObj'
    | with_reducible exact sim_setObj (hS _)
    | with_reducible exact sim_program'
    | with_reducible exact sim_load
    | with_reducible exact sim_store
    | with_reducible exact sim_new
    | with_reducible exact sim_shape
    | with_reducible exact sim_choose
    | with_reducible exact sim_askRoom
    | with_reducible exact sim_typeInfo
    | with_reducible exact sim_underlying
    | with_reducible exact sim_zeroValue
    | with_reducible exact sim_sizeOf
    | with_reducible exact sim_isAgg
    | with_reducible exact sim_loadCells
    | with_reducible exact sim_storeCells _ _
    | with_reducible exact sim_loadVar
    | with_reducible exact sim_storeVar
    | with_reducible exact sim_newRow
    | with_reducible exact sim_newVar
    | with_reducible exact sim_elemOf
    | with_reducible exact sim_part
    | with_reducible exact sim_viewAt
    | with_reducible exact sim_numberAt
    | with_reducible exact sim_cellsIn
    | with_reducible exact sim_noView
    | with_reducible exact sim_asBool
    | with_reducible exact sim_asString
    | with_reducible exact sim_asAgg
    | with_reducible exact sim_asIntOf
    | with_reducible exact sim_asInt
    | with_reducible exact sim_asAddr
    | with_reducible exact sim_sameAddr
    | with_reducible exact sim_freeze
    | with_reducible exact sim_markStringish
    | with_reducible exact sim_asNumber
    | with_reducible exact sim_behindNumber
    | with_reducible exact sim_byteOf
    | with_reducible exact sim_partAt
    | with_reducible exact sim_fieldPlace
    | with_reducible exact sim_boundsPanic
    | with_reducible exact sim_intArith
    | with_reducible exact sim_intDiv
    | with_reducible exact sim_intBits
    | with_reducible exact sim_shift
    | with_reducible exact sim_intCmp
    | with_reducible exact sim_stringOp
    | with_reducible exact sim_floatArith
    | with_reducible exact sim_floatCmp
    | with_reducible exact sim_floatToFloat
    | with_reducible exact sim_carith
    | with_reducible exact sim_ccmp
    | with_reducible exact sim_cconv
    | with_reducible exact sim_cadd
    | with_reducible exact sim_csub
    | with_reducible exact sim_cmul
    | with_reducible exact sim_cquo
    | with_reducible exact sim_cproduct
    | with_reducible exact sim_ccorrected
    | with_reducible exact sim_cquotient
    | with_reducible exact sim_complexOp
    | with_reducible exact sim_unary
    | with_reducible exact sim_samePointer
    | with_reducible exact sim_typeStr
    | with_reducible exact sim_equalIn _ _ _ _
    | with_reducible exact sim_equal
    | with_reducible exact sim_eqGuardIn _ _ _ _
    | with_reducible exact sim_eqGuard
    | with_reducible exact sim_unsafeAdd
    | with_reducible exact sim_movedNumber
    | with_reducible exact sim_movedPointer
    | with_reducible exact sim_twoPlaces
    | with_reducible exact sim_addrSub
    | with_reducible exact sim_addrCmp
    | with_reducible exact sim_addrMod
    | with_reducible exact sim_binOp
    | with_reducible exact sim_stringToBytes
    | with_reducible exact sim_stringToRunes
    | with_reducible exact sim_bytesToString
    | with_reducible exact sim_runesToString
    | with_reducible exact sim_intToInt
    | with_reducible exact sim_intToFloat
    | with_reducible exact sim_intToString
    | with_reducible exact sim_floatToInt
    | with_reducible exact sim_complexToComplex
    | with_reducible exact sim_backFromNumber
    | with_reducible exact sim_variablesAt
    | with_reducible exact sim_seenAt
    | with_reducible exact sim_unsafePointer
    | with_reducible exact sim_convert
    | with_reducible exact sim_alloc
    | with_reducible exact sim_box
    | with_reducible exact sim_build
    | with_reducible exact sim_buildSlice
    | with_reducible exact sim_sureAddr
    | with_reducible exact sim_loadAt
    | with_reducible exact sim_storeAt
    | with_reducible exact sim_fieldAt
    | with_reducible exact sim_indexAt
    | with_reducible exact sim_sliceBound
    | with_reducible exact sim_sliceBounds
    | with_reducible exact sim_slice
    | with_reducible exact sim_sliceAt
    | with_reducible exact sim_arrayAt
    | with_reducible exact sim_waits
    | with_reducible exact sim_makeInterface
    | with_reducible exact sim_makeFunc
    | with_reducible exact sim_makeMap
    | with_reducible exact sim_makeSlice
    | with_reducible exact sim_field
    | with_reducible exact sim_index
    | with_reducible exact sim_checkKey _ _ _
    | with_reducible exact sim_findAsking _ _
    | with_reducible exact sim_findKey
    | with_reducible exact sim_lookup
    | with_reducible exact sim_keyThatStays
    | with_reducible exact sim_mapUpdate hS
    | with_reducible exact sim_mapEntry hS
    | with_reducible exact sim_entryStore hS
    | with_reducible exact sim_range
    | with_reducible exact sim_next hS
    | with_reducible refine Sim.bind (N := fun _ => True) ?_ fun _ _ => ?_
    | with_reducible refine sim_map ?_
    | with_reducible refine sim_forInA (fun _ _ => ?_) _ _
    | with_reducible refine sim_forInR (fun _ _ => ?_) _ _
    | with_reducible refine sim_mapA (fun _ => ?_) _
    | with_reducible refine sim_foldL (fun _ _ => ?_) _ _
    | split
    | dsimp only

theorem sim_typeAssert {x : Value} {s t : TypeId} {b : Bool} : Sim P S (fun _ => True) (Instr.typeAssert x s t b) := by
  unfold Instr.typeAssert
  repeat' first
    | with_reducible exact Sim.pure trivial
    | with_reducible exact sim_stuck
    | with_reducible exact sim_unsupported
    | with_reducible exact sim_panic
    | with_reducible exact sim_runtimePanic
    | with_reducible exact sim_getObj'
    | with_reducible exact sim_setObj (hS _)
    | with_reducible exact sim_program'
    | with_reducible exact sim_load
    | with_reducible exact sim_store
    | with_reducible exact sim_new
    | with_reducible exact sim_shape
    | with_reducible exact sim_choose
    | with_reducible exact sim_askRoom
    | with_reducible exact sim_typeInfo
    | with_reducible exact sim_underlying
    | with_reducible exact sim_zeroValue
    | with_reducible exact sim_sizeOf
    | with_reducible exact sim_isAgg
    | with_reducible exact sim_loadCells
    | with_reducible exact sim_storeCells _ _
    | with_reducible exact sim_loadVar
    | with_reducible exact sim_storeVar
    | with_reducible exact sim_newRow
    | with_reducible exact sim_newVar
    | with_reducible exact sim_elemOf
    | with_reducible exact sim_part
    | with_reducible exact sim_viewAt
    | with_reducible exact sim_numberAt
    | with_reducible exact sim_cellsIn
    | with_reducible exact sim_noView
    | with_reducible exact sim_asBool
    | with_reducible exact sim_asString
    | with_reducible exact sim_asAgg
    | with_reducible exact sim_asIntOf
    | with_reducible exact sim_asInt
    | with_reducible exact sim_asAddr
    | with_reducible exact sim_sameAddr
    | with_reducible exact sim_freeze
    | with_reducible exact sim_markStringish
    | with_reducible exact sim_asNumber
    | with_reducible exact sim_behindNumber
    | with_reducible exact sim_byteOf
    | with_reducible exact sim_partAt
    | with_reducible exact sim_fieldPlace
    | with_reducible exact sim_boundsPanic
    | with_reducible exact sim_intArith
    | with_reducible exact sim_intDiv
    | with_reducible exact sim_intBits
    | with_reducible exact sim_shift
    | with_reducible exact sim_intCmp
    | with_reducible exact sim_stringOp
    | with_reducible exact sim_floatArith
    | with_reducible exact sim_floatCmp
    | with_reducible exact sim_floatToFloat
    | with_reducible exact sim_carith
    | with_reducible exact sim_ccmp
    | with_reducible exact sim_cconv
    | with_reducible exact sim_cadd
    | with_reducible exact sim_csub
    | with_reducible exact sim_cmul
    | with_reducible exact sim_cquo
    | with_reducible exact sim_cproduct
    | with_reducible exact sim_ccorrected
    | with_reducible exact sim_cquotient
    | with_reducible exact sim_complexOp
    | with_reducible exact sim_unary
    | with_reducible exact sim_samePointer
    | with_reducible exact sim_typeStr
    | with_reducible exact sim_equalIn _ _ _ _
    | with_reducible exact sim_equal
    | with_reducible exact sim_eqGuardIn _ _ _ _
    | with_reducible exact sim_eqGuard
    | with_reducible exact sim_unsafeAdd
    | with_reducible exact sim_movedNumber
    | with_reducible exact sim_movedPointer
    | with_reducible exact sim_twoPlaces
    | with_reducible exact sim_addrSub
    | with_reducible exact sim_addrCmp
    | with_reducible exact sim_addrMod
    | with_reducible exact sim_binOp
    | with_reducible exact sim_stringToBytes
    | with_reducible exact sim_stringToRunes
    | with_reducible exact sim_bytesToString
    | with_reducible exact sim_runesToString
    | with_reducible exact sim_intToInt
    | with_reducible exact sim_intToFloat
    | with_reducible exact sim_intToString
    | with_reducible exact sim_floatToInt
    | with_reducible exact sim_complexToComplex
    | with_reducible exact sim_backFromNumber
    | with_reducible exact sim_variablesAt
    | with_reducible exact sim_seenAt
    | with_reducible exact sim_unsafePointer
    | with_reducible exact sim_convert
    | with_reducible exact sim_alloc
    | with_reducible exact sim_box
    | with_reducible exact sim_build
    | with_reducible exact sim_buildSlice
    | with_reducible exact sim_sureAddr
    | with_reducible exact sim_loadAt
    | with_reducible exact sim_storeAt
    | with_reducible exact sim_fieldAt
    | with_reducible exact sim_indexAt
    | with_reducible exact sim_sliceBound
    | with_reducible exact sim_sliceBounds
    | with_reducible exact sim_slice
    | with_reducible exact sim_sliceAt
    | with_reducible exact sim_arrayAt
    | with_reducible exact sim_waits
    | with_reducible exact sim_makeInterface
    | with_reducible exact sim_makeFunc
    | with_reducible exact sim_makeMap
    | with_reducible exact sim_makeSlice
    | with_reducible exact sim_field
    | with_reducible exact sim_index
    | with_reducible exact sim_checkKey _ _ _
    | with_reducible exact sim_findAsking _ _
    | with_reducible exact sim_findKey
    | with_reducible exact sim_lookup
    | with_reducible exact sim_keyThatStays
    | with_reducible exact sim_mapUpdate hS
    | with_reducible exact sim_mapEntry hS
    | with_reducible exact sim_entryStore hS
    | with_reducible exact sim_range
    | with_reducible exact sim_next hS
    | with_reducible exact sim_entry
    | with_reducible refine Sim.bind (N := fun _ => True) ?_ fun _ _ => ?_
    | with_reducible refine sim_map ?_
    | with_reducible refine sim_forInA (fun _ _ => ?_) _ _
    | with_reducible refine sim_forInR (fun _ _ => ?_) _ _
    | with_reducible refine sim_mapA (fun _ => ?_) _
    | with_reducible refine sim_foldL (fun _ _ => ?_) _ _
    | split
    | dsimp only

theorem sim_extract {x : Value} {i : Nat} : Sim P S (fun _ => True) (Instr.extract x i) := by
  unfold Instr.extract
  repeat' first
    | with_reducible exact Sim.pure trivial
    | with_reducible exact sim_stuck
    | with_reducible exact sim_unsupported
    | with_reducible exact sim_panic
    | with_reducible exact sim_runtimePanic
    | with_reducible exact sim_getObj'
    | with_reducible exact sim_setObj (hS _)
    | with_reducible exact sim_program'
    | with_reducible exact sim_load
    | with_reducible exact sim_store
    | with_reducible exact sim_new
    | with_reducible exact sim_shape
    | with_reducible exact sim_choose
    | with_reducible exact sim_askRoom
    | with_reducible exact sim_typeInfo
    | with_reducible exact sim_underlying
    | with_reducible exact sim_zeroValue
    | with_reducible exact sim_sizeOf
    | with_reducible exact sim_isAgg
    | with_reducible exact sim_loadCells
    | with_reducible exact sim_storeCells _ _
    | with_reducible exact sim_loadVar
    | with_reducible exact sim_storeVar
    | with_reducible exact sim_newRow
    | with_reducible exact sim_newVar
    | with_reducible exact sim_elemOf
    | with_reducible exact sim_part
    | with_reducible exact sim_viewAt
    | with_reducible exact sim_numberAt
    | with_reducible exact sim_cellsIn
    | with_reducible exact sim_noView
    | with_reducible exact sim_asBool
    | with_reducible exact sim_asString
    | with_reducible exact sim_asAgg
    | with_reducible exact sim_asIntOf
    | with_reducible exact sim_asInt
    | with_reducible exact sim_asAddr
    | with_reducible exact sim_sameAddr
    | with_reducible exact sim_freeze
    | with_reducible exact sim_markStringish
    | with_reducible exact sim_asNumber
    | with_reducible exact sim_behindNumber
    | with_reducible exact sim_byteOf
    | with_reducible exact sim_partAt
    | with_reducible exact sim_fieldPlace
    | with_reducible exact sim_boundsPanic
    | with_reducible exact sim_intArith
    | with_reducible exact sim_intDiv
    | with_reducible exact sim_intBits
    | with_reducible exact sim_shift
    | with_reducible exact sim_intCmp
    | with_reducible exact sim_stringOp
    | with_reducible exact sim_floatArith
    | with_reducible exact sim_floatCmp
    | with_reducible exact sim_floatToFloat
    | with_reducible exact sim_carith
    | with_reducible exact sim_ccmp
    | with_reducible exact sim_cconv
    | with_reducible exact sim_cadd
    | with_reducible exact sim_csub
    | with_reducible exact sim_cmul
    | with_reducible exact sim_cquo
    | with_reducible exact sim_cproduct
    | with_reducible exact sim_ccorrected
    | with_reducible exact sim_cquotient
    | with_reducible exact sim_complexOp
    | with_reducible exact sim_unary
    | with_reducible exact sim_samePointer
    | with_reducible exact sim_typeStr
    | with_reducible exact sim_equalIn _ _ _ _
    | with_reducible exact sim_equal
    | with_reducible exact sim_eqGuardIn _ _ _ _
    | with_reducible exact sim_eqGuard
    | with_reducible exact sim_unsafeAdd
    | with_reducible exact sim_movedNumber
    | with_reducible exact sim_movedPointer
    | with_reducible exact sim_twoPlaces
    | with_reducible exact sim_addrSub
    | with_reducible exact sim_addrCmp
    | with_reducible exact sim_addrMod
    | with_reducible exact sim_binOp
    | with_reducible exact sim_stringToBytes
    | with_reducible exact sim_stringToRunes
    | with_reducible exact sim_bytesToString
    | with_reducible exact sim_runesToString
    | with_reducible exact sim_intToInt
    | with_reducible exact sim_intToFloat
    | with_reducible exact sim_intToString
    | with_reducible exact sim_floatToInt
    | with_reducible exact sim_complexToComplex
    | with_reducible exact sim_backFromNumber
    | with_reducible exact sim_variablesAt
    | with_reducible exact sim_seenAt
    | with_reducible exact sim_unsafePointer
    | with_reducible exact sim_convert
    | with_reducible exact sim_alloc
    | with_reducible exact sim_box
    | with_reducible exact sim_build
    | with_reducible exact sim_buildSlice
    | with_reducible exact sim_sureAddr
    | with_reducible exact sim_loadAt
    | with_reducible exact sim_storeAt
    | with_reducible exact sim_fieldAt
    | with_reducible exact sim_indexAt
    | with_reducible exact sim_sliceBound
    | with_reducible exact sim_sliceBounds
    | with_reducible exact sim_slice
    | with_reducible exact sim_sliceAt
    | with_reducible exact sim_arrayAt
    | with_reducible exact sim_waits
    | with_reducible exact sim_makeInterface
    | with_reducible exact sim_makeFunc
    | with_reducible exact sim_makeMap
    | with_reducible exact sim_makeSlice
    | with_reducible exact sim_field
    | with_reducible exact sim_index
    | with_reducible exact sim_checkKey _ _ _
    | with_reducible exact sim_findAsking _ _
    | with_reducible exact sim_findKey
    | with_reducible exact sim_lookup
    | with_reducible exact sim_keyThatStays
    | with_reducible exact sim_mapUpdate hS
    | with_reducible exact sim_mapEntry hS
    | with_reducible exact sim_entryStore hS
    | with_reducible exact sim_range
    | with_reducible exact sim_next hS
    | with_reducible exact sim_entry
    | with_reducible exact sim_typeAssert
    | with_reducible refine Sim.bind (N := fun _ => True) ?_ fun _ _ => ?_
    | with_reducible refine sim_map ?_
    | with_reducible refine sim_forInA (fun _ _ => ?_) _ _
    | with_reducible refine sim_forInR (fun _ _ => ?_) _ _
    | with_reducible refine sim_mapA (fun _ => ?_) _
    | with_reducible refine sim_foldL (fun _ _ => ?_) _ _
    | split
    | dsimp only

theorem sim_holdsCells {a : Addr} {n : Nat} : Sim P S (fun _ => True) (Builtin.holdsCells a n) := by
  unfold Builtin.holdsCells
  repeat' first
    | with_reducible exact Sim.pure trivial
    | with_reducible exact sim_stuck
    | with_reducible exact sim_unsupported
    | with_reducible exact sim_panic
    | with_reducible exact sim_runtimePanic
    | with_reducible exact sim_getObj'
    | with_reducible exact sim_setObj (hS _)
    | with_reducible exact sim_program'
    | with_reducible exact sim_load
    | with_reducible exact sim_store
    | with_reducible exact sim_new
    | with_reducible exact sim_shape
    | with_reducible exact sim_choose
    | with_reducible exact sim_askRoom
    | with_reducible exact sim_typeInfo
    | with_reducible exact sim_underlying
    | with_reducible exact sim_zeroValue
    | with_reducible exact sim_sizeOf
    | with_reducible exact sim_isAgg
    | with_reducible exact sim_loadCells
    | with_reducible exact sim_storeCells _ _
    | with_reducible exact sim_loadVar
    | with_reducible exact sim_storeVar
    | with_reducible exact sim_newRow
    | with_reducible exact sim_newVar
    | with_reducible exact sim_elemOf
    | with_reducible exact sim_part
    | with_reducible exact sim_viewAt
    | with_reducible exact sim_numberAt
    | with_reducible exact sim_cellsIn
    | with_reducible exact sim_noView
    | with_reducible exact sim_asBool
    | with_reducible exact sim_asString
    | with_reducible exact sim_asAgg
    | with_reducible exact sim_asIntOf
    | with_reducible exact sim_asInt
    | with_reducible exact sim_asAddr
    | with_reducible exact sim_sameAddr
    | with_reducible exact sim_freeze
    | with_reducible exact sim_markStringish
    | with_reducible exact sim_asNumber
    | with_reducible exact sim_behindNumber
    | with_reducible exact sim_byteOf
    | with_reducible exact sim_partAt
    | with_reducible exact sim_fieldPlace
    | with_reducible exact sim_boundsPanic
    | with_reducible exact sim_intArith
    | with_reducible exact sim_intDiv
    | with_reducible exact sim_intBits
    | with_reducible exact sim_shift
    | with_reducible exact sim_intCmp
    | with_reducible exact sim_stringOp
    | with_reducible exact sim_floatArith
    | with_reducible exact sim_floatCmp
    | with_reducible exact sim_floatToFloat
    | with_reducible exact sim_carith
    | with_reducible exact sim_ccmp
    | with_reducible exact sim_cconv
    | with_reducible exact sim_cadd
    | with_reducible exact sim_csub
    | with_reducible exact sim_cmul
    | with_reducible exact sim_cquo
    | with_reducible exact sim_cproduct
    | with_reducible exact sim_ccorrected
    | with_reducible exact sim_cquotient
    | with_reducible exact sim_complexOp
    | with_reducible exact sim_unary
    | with_reducible exact sim_samePointer
    | with_reducible exact sim_typeStr
    | with_reducible exact sim_equalIn _ _ _ _
    | with_reducible exact sim_equal
    | with_reducible exact sim_eqGuardIn _ _ _ _
    | with_reducible exact sim_eqGuard
    | with_reducible exact sim_unsafeAdd
    | with_reducible exact sim_movedNumber
    | with_reducible exact sim_movedPointer
    | with_reducible exact sim_twoPlaces
    | with_reducible exact sim_addrSub
    | with_reducible exact sim_addrCmp
    | with_reducible exact sim_addrMod
    | with_reducible exact sim_binOp
    | with_reducible exact sim_stringToBytes
    | with_reducible exact sim_stringToRunes
    | with_reducible exact sim_bytesToString
    | with_reducible exact sim_runesToString
    | with_reducible exact sim_intToInt
    | with_reducible exact sim_intToFloat
    | with_reducible exact sim_intToString
    | with_reducible exact sim_floatToInt
    | with_reducible exact sim_complexToComplex
    | with_reducible exact sim_backFromNumber
    | with_reducible exact sim_variablesAt
    | with_reducible exact sim_seenAt
    | with_reducible exact sim_unsafePointer
    | with_reducible exact sim_convert
    | with_reducible exact sim_alloc
    | with_reducible exact sim_box
    | with_reducible exact sim_build
    | with_reducible exact sim_buildSlice
    | with_reducible exact sim_sureAddr
    | with_reducible exact sim_loadAt
    | with_reducible exact sim_storeAt
    | with_reducible exact sim_fieldAt
    | with_reducible exact sim_indexAt
    | with_reducible exact sim_sliceBound
    | with_reducible exact sim_sliceBounds
    | with_reducible exact sim_slice
    | with_reducible exact sim_sliceAt
    | with_reducible exact sim_arrayAt
    | with_reducible exact sim_waits
    | with_reducible exact sim_makeInterface
    | with_reducible exact sim_makeFunc
    | with_reducible exact sim_makeMap
    | with_reducible exact sim_makeSlice
    | with_reducible exact sim_field
    | with_reducible exact sim_index
    | with_reducible exact sim_checkKey _ _ _
    | with_reducible exact sim_findAsking _ _
    | with_reducible exact sim_findKey
    | with_reducible exact sim_lookup
    | with_reducible exact sim_keyThatStays
    | with_reducible exact sim_mapUpdate hS
    | with_reducible exact sim_mapEntry hS
    | with_reducible exact sim_entryStore hS
    | with_reducible exact sim_range
    | with_reducible exact sim_next hS
    | with_reducible exact sim_entry
    | with_reducible exact sim_typeAssert
    | with_reducible exact sim_extract
    | with_reducible refine Sim.bind (N := fun _ => True) ?_ fun _ _ => ?_
    | with_reducible refine sim_map ?_
    | with_reducible refine sim_forInA (fun _ _ => ?_) _ _
    | with_reducible refine sim_forInR (fun _ _ => ?_) _ _
    | with_reducible refine sim_mapA (fun _ => ?_) _
    | with_reducible refine sim_foldL (fun _ _ => ?_) _ _
    | split
    | dsimp only

theorem sim_lenOf {x : Value} : Sim P S (fun _ => True) (Builtin.lenOf x) := by
  unfold Builtin.lenOf
  repeat' first
    | with_reducible exact Sim.pure trivial
    | with_reducible exact sim_stuck
    | with_reducible exact sim_unsupported
    | with_reducible exact sim_panic
    | with_reducible exact sim_runtimePanic
    | with_reducible exact sim_getObj'
    | with_reducible exact sim_setObj (hS _)
    | with_reducible exact sim_program'
    | with_reducible exact sim_load
    | with_reducible exact sim_store
    | with_reducible exact sim_new
    | with_reducible exact sim_shape
    | with_reducible exact sim_choose
    | with_reducible exact sim_askRoom
    | with_reducible exact sim_typeInfo
    | with_reducible exact sim_underlying
    | with_reducible exact sim_zeroValue
    | with_reducible exact sim_sizeOf
    | with_reducible exact sim_isAgg
    | with_reducible exact sim_loadCells
    | with_reducible exact sim_storeCells _ _
    | with_reducible exact sim_loadVar
    | with_reducible exact sim_storeVar
    | with_reducible exact sim_newRow
    | with_reducible exact sim_newVar
    | with_reducible exact sim_elemOf
    | with_reducible exact sim_part
    | with_reducible exact sim_viewAt
    | with_reducible exact sim_numberAt
    | with_reducible exact sim_cellsIn
    | with_reducible exact sim_noView
    | with_reducible exact sim_asBool
    | with_reducible exact sim_asString
    | with_reducible exact sim_asAgg
    | with_reducible exact sim_asIntOf
    | with_reducible exact sim_asInt
    | with_reducible exact sim_asAddr
    | with_reducible exact sim_sameAddr
    | with_reducible exact sim_freeze
    | with_reducible exact sim_markStringish
    | with_reducible exact sim_asNumber
    | with_reducible exact sim_behindNumber
    | with_reducible exact sim_byteOf
    | with_reducible exact sim_partAt
    | with_reducible exact sim_fieldPlace
    | with_reducible exact sim_boundsPanic
    | with_reducible exact sim_intArith
    | with_reducible exact sim_intDiv
    | with_reducible exact sim_intBits
    | with_reducible exact sim_shift
    | with_reducible exact sim_intCmp
    | with_reducible exact sim_stringOp
    | with_reducible exact sim_floatArith
    | with_reducible exact sim_floatCmp
    | with_reducible exact sim_floatToFloat
    | with_reducible exact sim_carith
    | with_reducible exact sim_ccmp
    | with_reducible exact sim_cconv
    | with_reducible exact sim_cadd
    | with_reducible exact sim_csub
    | with_reducible exact sim_cmul
    | with_reducible exact sim_cquo
    | with_reducible exact sim_cproduct
    | with_reducible exact sim_ccorrected
    | with_reducible exact sim_cquotient
    | with_reducible exact sim_complexOp
    | with_reducible exact sim_unary
    | with_reducible exact sim_samePointer
    | with_reducible exact sim_typeStr
    | with_reducible exact sim_equalIn _ _ _ _
    | with_reducible exact sim_equal
    | with_reducible exact sim_eqGuardIn _ _ _ _
    | with_reducible exact sim_eqGuard
    | with_reducible exact sim_unsafeAdd
    | with_reducible exact sim_movedNumber
    | with_reducible exact sim_movedPointer
    | with_reducible exact sim_twoPlaces
    | with_reducible exact sim_addrSub
    | with_reducible exact sim_addrCmp
    | with_reducible exact sim_addrMod
    | with_reducible exact sim_binOp
    | with_reducible exact sim_stringToBytes
    | with_reducible exact sim_stringToRunes
    | with_reducible exact sim_bytesToString
    | with_reducible exact sim_runesToString
    | with_reducible exact sim_intToInt
    | with_reducible exact sim_intToFloat
    | with_reducible exact sim_intToString
    | with_reducible exact sim_floatToInt
    | with_reducible exact sim_complexToComplex
    | with_reducible exact sim_backFromNumber
    | with_reducible exact sim_variablesAt
    | with_reducible exact sim_seenAt
    | with_reducible exact sim_unsafePointer
    | with_reducible exact sim_convert
    | with_reducible exact sim_alloc
    | with_reducible exact sim_box
    | with_reducible exact sim_build
    | with_reducible exact sim_buildSlice
    | with_reducible exact sim_sureAddr
    | with_reducible exact sim_loadAt
    | with_reducible exact sim_storeAt
    | with_reducible exact sim_fieldAt
    | with_reducible exact sim_indexAt
    | with_reducible exact sim_sliceBound
    | with_reducible exact sim_sliceBounds
    | with_reducible exact sim_slice
    | with_reducible exact sim_sliceAt
    | with_reducible exact sim_arrayAt
    | with_reducible exact sim_waits
    | with_reducible exact sim_makeInterface
    | with_reducible exact sim_makeFunc
    | with_reducible exact sim_makeMap
    | with_reducible exact sim_makeSlice
    | with_reducible exact sim_field
    | with_reducible exact sim_index
    | with_reducible exact sim_checkKey _ _ _
    | with_reducible exact sim_findAsking _ _
    | with_reducible exact sim_findKey
    | with_reducible exact sim_lookup
    | with_reducible exact sim_keyThatStays
    | with_reducible exact sim_mapUpdate hS
    | with_reducible exact sim_mapEntry hS
    | with_reducible exact sim_entryStore hS
    | with_reducible exact sim_range
    | with_reducible exact sim_next hS
    | with_reducible exact sim_entry
    | with_reducible exact sim_typeAssert
    | with_reducible exact sim_extract
    | with_reducible exact sim_holdsCells
    | with_reducible refine Sim.bind (N := fun _ => True) ?_ fun _ _ => ?_
    | with_reducible refine sim_map ?_
    | with_reducible refine sim_forInA (fun _ _ => ?_) _ _
    | with_reducible refine sim_forInR (fun _ _ => ?_) _ _
    | with_reducible refine sim_mapA (fun _ => ?_) _
    | with_reducible refine sim_foldL (fun _ _ => ?_) _ _
    | split
    | dsimp only

theorem sim_firstCells {m n : Nat} {x : Value} : Sim P S (fun _ => True) (Builtin.firstCells m n x) := by
  unfold Builtin.firstCells
  repeat' first
    | with_reducible exact Sim.pure trivial
    | with_reducible exact sim_stuck
    | with_reducible exact sim_unsupported
    | with_reducible exact sim_panic
    | with_reducible exact sim_runtimePanic
    | with_reducible exact sim_getObj'
    | with_reducible exact sim_setObj (hS _)
    | with_reducible exact sim_program'
    | with_reducible exact sim_load
    | with_reducible exact sim_store
    | with_reducible exact sim_new
    | with_reducible exact sim_shape
    | with_reducible exact sim_choose
    | with_reducible exact sim_askRoom
    | with_reducible exact sim_typeInfo
    | with_reducible exact sim_underlying
    | with_reducible exact sim_zeroValue
    | with_reducible exact sim_sizeOf
    | with_reducible exact sim_isAgg
    | with_reducible exact sim_loadCells
    | with_reducible exact sim_storeCells _ _
    | with_reducible exact sim_loadVar
    | with_reducible exact sim_storeVar
    | with_reducible exact sim_newRow
    | with_reducible exact sim_newVar
    | with_reducible exact sim_elemOf
    | with_reducible exact sim_part
    | with_reducible exact sim_viewAt
    | with_reducible exact sim_numberAt
    | with_reducible exact sim_cellsIn
    | with_reducible exact sim_noView
    | with_reducible exact sim_asBool
    | with_reducible exact sim_asString
    | with_reducible exact sim_asAgg
    | with_reducible exact sim_asIntOf
    | with_reducible exact sim_asInt
    | with_reducible exact sim_asAddr
    | with_reducible exact sim_sameAddr
    | with_reducible exact sim_freeze
    | with_reducible exact sim_markStringish
    | with_reducible exact sim_asNumber
    | with_reducible exact sim_behindNumber
    | with_reducible exact sim_byteOf
    | with_reducible exact sim_partAt
    | with_reducible exact sim_fieldPlace
    | with_reducible exact sim_boundsPanic
    | with_reducible exact sim_intArith
    | with_reducible exact sim_intDiv
    | with_reducible exact sim_intBits
    | with_reducible exact sim_shift
    | with_reducible exact sim_intCmp
    | with_reducible exact sim_stringOp
    | with_reducible exact sim_floatArith
    | with_reducible exact sim_floatCmp
    | with_reducible exact sim_floatToFloat
    | with_reducible exact sim_carith
    | with_reducible exact sim_ccmp
    | with_reducible exact sim_cconv
    | with_reducible exact sim_cadd
    | with_reducible exact sim_csub
    | with_reducible exact sim_cmul
    | with_reducible exact sim_cquo
    | with_reducible exact sim_cproduct
    | with_reducible exact sim_ccorrected
    | with_reducible exact sim_cquotient
    | with_reducible exact sim_complexOp
    | with_reducible exact sim_unary
    | with_reducible exact sim_samePointer
    | with_reducible exact sim_typeStr
    | with_reducible exact sim_equalIn _ _ _ _
    | with_reducible exact sim_equal
    | with_reducible exact sim_eqGuardIn _ _ _ _
    | with_reducible exact sim_eqGuard
    | with_reducible exact sim_unsafeAdd
    | with_reducible exact sim_movedNumber
    | with_reducible exact sim_movedPointer
    | with_reducible exact sim_twoPlaces
    | with_reducible exact sim_addrSub
    | with_reducible exact sim_addrCmp
    | with_reducible exact sim_addrMod
    | with_reducible exact sim_binOp
    | with_reducible exact sim_stringToBytes
    | with_reducible exact sim_stringToRunes
    | with_reducible exact sim_bytesToString
    | with_reducible exact sim_runesToString
    | with_reducible exact sim_intToInt
    | with_reducible exact sim_intToFloat
    | with_reducible exact sim_intToString
    | with_reducible exact sim_floatToInt
    | with_reducible exact sim_complexToComplex
    | with_reducible exact sim_backFromNumber
    | with_reducible exact sim_variablesAt
    | with_reducible exact sim_seenAt
    | with_reducible exact sim_unsafePointer
    | with_reducible exact sim_convert
    | with_reducible exact sim_alloc
    | with_reducible exact sim_box
    | with_reducible exact sim_build
    | with_reducible exact sim_buildSlice
    | with_reducible exact sim_sureAddr
    | with_reducible exact sim_loadAt
    | with_reducible exact sim_storeAt
    | with_reducible exact sim_fieldAt
    | with_reducible exact sim_indexAt
    | with_reducible exact sim_sliceBound
    | with_reducible exact sim_sliceBounds
    | with_reducible exact sim_slice
    | with_reducible exact sim_sliceAt
    | with_reducible exact sim_arrayAt
    | with_reducible exact sim_waits
    | with_reducible exact sim_makeInterface
    | with_reducible exact sim_makeFunc
    | with_reducible exact sim_makeMap
    | with_reducible exact sim_makeSlice
    | with_reducible exact sim_field
    | with_reducible exact sim_index
    | with_reducible exact sim_checkKey _ _ _
    | with_reducible exact sim_findAsking _ _
    | with_reducible exact sim_findKey
    | with_reducible exact sim_lookup
    | with_reducible exact sim_keyThatStays
    | with_reducible exact sim_mapUpdate hS
    | with_reducible exact sim_mapEntry hS
    | with_reducible exact sim_entryStore hS
    | with_reducible exact sim_range
    | with_reducible exact sim_next hS
    | with_reducible exact sim_entry
    | with_reducible exact sim_typeAssert
    | with_reducible exact sim_extract
    | with_reducible exact sim_holdsCells
    | with_reducible exact sim_lenOf
    | with_reducible refine Sim.bind (N := fun _ => True) ?_ fun _ _ => ?_
    | with_reducible refine sim_map ?_
    | with_reducible refine sim_forInA (fun _ _ => ?_) _ _
    | with_reducible refine sim_forInR (fun _ _ => ?_) _ _
    | with_reducible refine sim_mapA (fun _ => ?_) _
    | with_reducible refine sim_foldL (fun _ _ => ?_) _ _
    | split
    | dsimp only

theorem sim_cap {ts : Array TypeId} {t : TypeId} {a : Array Value} : Sim P S (fun _ => True) (Builtin.cap_ ts t a) := by
  unfold Builtin.cap_
  repeat' first
    | with_reducible exact Sim.pure trivial
    | with_reducible exact sim_stuck
    | with_reducible exact sim_unsupported
    | with_reducible exact sim_panic
    | with_reducible exact sim_runtimePanic
    | with_reducible exact sim_getObj'
    | with_reducible exact sim_setObj (hS _)
    | with_reducible exact sim_program'
    | with_reducible exact sim_load
    | with_reducible exact sim_store
    | with_reducible exact sim_new
    | with_reducible exact sim_shape
    | with_reducible exact sim_choose
    | with_reducible exact sim_askRoom
    | with_reducible exact sim_typeInfo
    | with_reducible exact sim_underlying
    | with_reducible exact sim_zeroValue
    | with_reducible exact sim_sizeOf
    | with_reducible exact sim_isAgg
    | with_reducible exact sim_loadCells
    | with_reducible exact sim_storeCells _ _
    | with_reducible exact sim_loadVar
    | with_reducible exact sim_storeVar
    | with_reducible exact sim_newRow
    | with_reducible exact sim_newVar
    | with_reducible exact sim_elemOf
    | with_reducible exact sim_part
    | with_reducible exact sim_viewAt
    | with_reducible exact sim_numberAt
    | with_reducible exact sim_cellsIn
    | with_reducible exact sim_noView
    | with_reducible exact sim_asBool
    | with_reducible exact sim_asString
    | with_reducible exact sim_asAgg
    | with_reducible exact sim_asIntOf
    | with_reducible exact sim_asInt
    | with_reducible exact sim_asAddr
    | with_reducible exact sim_sameAddr
    | with_reducible exact sim_freeze
    | with_reducible exact sim_markStringish
    | with_reducible exact sim_asNumber
    | with_reducible exact sim_behindNumber
    | with_reducible exact sim_byteOf
    | with_reducible exact sim_partAt
    | with_reducible exact sim_fieldPlace
    | with_reducible exact sim_boundsPanic
    | with_reducible exact sim_intArith
    | with_reducible exact sim_intDiv
    | with_reducible exact sim_intBits
    | with_reducible exact sim_shift
    | with_reducible exact sim_intCmp
    | with_reducible exact sim_stringOp
    | with_reducible exact sim_floatArith
    | with_reducible exact sim_floatCmp
    | with_reducible exact sim_floatToFloat
    | with_reducible exact sim_carith
    | with_reducible exact sim_ccmp
    | with_reducible exact sim_cconv
    | with_reducible exact sim_cadd
    | with_reducible exact sim_csub
    | with_reducible exact sim_cmul
    | with_reducible exact sim_cquo
    | with_reducible exact sim_cproduct
    | with_reducible exact sim_ccorrected
    | with_reducible exact sim_cquotient
    | with_reducible exact sim_complexOp
    | with_reducible exact sim_unary
    | with_reducible exact sim_samePointer
    | with_reducible exact sim_typeStr
    | with_reducible exact sim_equalIn _ _ _ _
    | with_reducible exact sim_equal
    | with_reducible exact sim_eqGuardIn _ _ _ _
    | with_reducible exact sim_eqGuard
    | with_reducible exact sim_unsafeAdd
    | with_reducible exact sim_movedNumber
    | with_reducible exact sim_movedPointer
    | with_reducible exact sim_twoPlaces
    | with_reducible exact sim_addrSub
    | with_reducible exact sim_addrCmp
    | with_reducible exact sim_addrMod
    | with_reducible exact sim_binOp
    | with_reducible exact sim_stringToBytes
    | with_reducible exact sim_stringToRunes
    | with_reducible exact sim_bytesToString
    | with_reducible exact sim_runesToString
    | with_reducible exact sim_intToInt
    | with_reducible exact sim_intToFloat
    | with_reducible exact sim_intToString
    | with_reducible exact sim_floatToInt
    | with_reducible exact sim_complexToComplex
    | with_reducible exact sim_backFromNumber
    | with_reducible exact sim_variablesAt
    | with_reducible exact sim_seenAt
    | with_reducible exact sim_unsafePointer
    | with_reducible exact sim_convert
    | with_reducible exact sim_alloc
    | with_reducible exact sim_box
    | with_reducible exact sim_build
    | with_reducible exact sim_buildSlice
    | with_reducible exact sim_sureAddr
    | with_reducible exact sim_loadAt
    | with_reducible exact sim_storeAt
    | with_reducible exact sim_fieldAt
    | with_reducible exact sim_indexAt
    | with_reducible exact sim_sliceBound
    | with_reducible exact sim_sliceBounds
    | with_reducible exact sim_slice
    | with_reducible exact sim_sliceAt
    | with_reducible exact sim_arrayAt
    | with_reducible exact sim_waits
    | with_reducible exact sim_makeInterface
    | with_reducible exact sim_makeFunc
    | with_reducible exact sim_makeMap
    | with_reducible exact sim_makeSlice
    | with_reducible exact sim_field
    | with_reducible exact sim_index
    | with_reducible exact sim_checkKey _ _ _
    | with_reducible exact sim_findAsking _ _
    | with_reducible exact sim_findKey
    | with_reducible exact sim_lookup
    | with_reducible exact sim_keyThatStays
    | with_reducible exact sim_mapUpdate hS
    | with_reducible exact sim_mapEntry hS
    | with_reducible exact sim_entryStore hS
    | with_reducible exact sim_range
    | with_reducible exact sim_next hS
    | with_reducible exact sim_entry
    | with_reducible exact sim_typeAssert
    | with_reducible exact sim_extract
    | with_reducible exact sim_holdsCells
    | with_reducible exact sim_lenOf
    | with_reducible exact sim_firstCells
    | with_reducible refine Sim.bind (N := fun _ => True) ?_ fun _ _ => ?_
    | with_reducible refine sim_map ?_
    | with_reducible refine sim_forInA (fun _ _ => ?_) _ _
    | with_reducible refine sim_forInR (fun _ _ => ?_) _ _
    | with_reducible refine sim_mapA (fun _ => ?_) _
    | with_reducible refine sim_foldL (fun _ _ => ?_) _ _
    | split
    | dsimp only

theorem sim_len {ts : Array TypeId} {t : TypeId} {a : Array Value} : Sim P S (fun _ => True) (Builtin.len_ ts t a) := by
  unfold Builtin.len_
  repeat' first
    | with_reducible exact Sim.pure trivial
    | with_reducible exact sim_stuck
    | with_reducible exact sim_unsupported
    | with_reducible exact sim_panic
    | with_reducible exact sim_runtimePanic
    | with_reducible exact sim_getObj'
    | with_reducible exact sim_setObj (hS _)
    | with_reducible exact sim_program'
    | with_reducible exact sim_load
    | with_reducible exact sim_store
    | with_reducible exact sim_new
    | with_reducible exact sim_shape
    | with_reducible exact sim_choose
    | with_reducible exact sim_askRoom
    | with_reducible exact sim_typeInfo
    | with_reducible exact sim_underlying
    | with_reducible exact sim_zeroValue
    | with_reducible exact sim_sizeOf
    | with_reducible exact sim_isAgg
    | with_reducible exact sim_loadCells
    | with_reducible exact sim_storeCells _ _
    | with_reducible exact sim_loadVar
    | with_reducible exact sim_storeVar
    | with_reducible exact sim_newRow
    | with_reducible exact sim_newVar
    | with_reducible exact sim_elemOf
    | with_reducible exact sim_part
    | with_reducible exact sim_viewAt
    | with_reducible exact sim_numberAt
    | with_reducible exact sim_cellsIn
    | with_reducible exact sim_noView
    | with_reducible exact sim_asBool
    | with_reducible exact sim_asString
    | with_reducible exact sim_asAgg
    | with_reducible exact sim_asIntOf
    | with_reducible exact sim_asInt
    | with_reducible exact sim_asAddr
    | with_reducible exact sim_sameAddr
    | with_reducible exact sim_freeze
    | with_reducible exact sim_markStringish
    | with_reducible exact sim_asNumber
    | with_reducible exact sim_behindNumber
    | with_reducible exact sim_byteOf
    | with_reducible exact sim_partAt
    | with_reducible exact sim_fieldPlace
    | with_reducible exact sim_boundsPanic
    | with_reducible exact sim_intArith
    | with_reducible exact sim_intDiv
    | with_reducible exact sim_intBits
    | with_reducible exact sim_shift
    | with_reducible exact sim_intCmp
    | with_reducible exact sim_stringOp
    | with_reducible exact sim_floatArith
    | with_reducible exact sim_floatCmp
    | with_reducible exact sim_floatToFloat
    | with_reducible exact sim_carith
    | with_reducible exact sim_ccmp
    | with_reducible exact sim_cconv
    | with_reducible exact sim_cadd
    | with_reducible exact sim_csub
    | with_reducible exact sim_cmul
    | with_reducible exact sim_cquo
    | with_reducible exact sim_cproduct
    | with_reducible exact sim_ccorrected
    | with_reducible exact sim_cquotient
    | with_reducible exact sim_complexOp
    | with_reducible exact sim_unary
    | with_reducible exact sim_samePointer
    | with_reducible exact sim_typeStr
    | with_reducible exact sim_equalIn _ _ _ _
    | with_reducible exact sim_equal
    | with_reducible exact sim_eqGuardIn _ _ _ _
    | with_reducible exact sim_eqGuard
    | with_reducible exact sim_unsafeAdd
    | with_reducible exact sim_movedNumber
    | with_reducible exact sim_movedPointer
    | with_reducible exact sim_twoPlaces
    | with_reducible exact sim_addrSub
    | with_reducible exact sim_addrCmp
    | with_reducible exact sim_addrMod
    | with_reducible exact sim_binOp
    | with_reducible exact sim_stringToBytes
    | with_reducible exact sim_stringToRunes
    | with_reducible exact sim_bytesToString
    | with_reducible exact sim_runesToString
    | with_reducible exact sim_intToInt
    | with_reducible exact sim_intToFloat
    | with_reducible exact sim_intToString
    | with_reducible exact sim_floatToInt
    | with_reducible exact sim_complexToComplex
    | with_reducible exact sim_backFromNumber
    | with_reducible exact sim_variablesAt
    | with_reducible exact sim_seenAt
    | with_reducible exact sim_unsafePointer
    | with_reducible exact sim_convert
    | with_reducible exact sim_alloc
    | with_reducible exact sim_box
    | with_reducible exact sim_build
    | with_reducible exact sim_buildSlice
    | with_reducible exact sim_sureAddr
    | with_reducible exact sim_loadAt
    | with_reducible exact sim_storeAt
    | with_reducible exact sim_fieldAt
    | with_reducible exact sim_indexAt
    | with_reducible exact sim_sliceBound
    | with_reducible exact sim_sliceBounds
    | with_reducible exact sim_slice
    | with_reducible exact sim_sliceAt
    | with_reducible exact sim_arrayAt
    | with_reducible exact sim_waits
    | with_reducible exact sim_makeInterface
    | with_reducible exact sim_makeFunc
    | with_reducible exact sim_makeMap
    | with_reducible exact sim_makeSlice
    | with_reducible exact sim_field
    | with_reducible exact sim_index
    | with_reducible exact sim_checkKey _ _ _
    | with_reducible exact sim_findAsking _ _
    | with_reducible exact sim_findKey
    | with_reducible exact sim_lookup
    | with_reducible exact sim_keyThatStays
    | with_reducible exact sim_mapUpdate hS
    | with_reducible exact sim_mapEntry hS
    | with_reducible exact sim_entryStore hS
    | with_reducible exact sim_range
    | with_reducible exact sim_next hS
    | with_reducible exact sim_entry
    | with_reducible exact sim_typeAssert
    | with_reducible exact sim_extract
    | with_reducible exact sim_holdsCells
    | with_reducible exact sim_lenOf
    | with_reducible exact sim_firstCells
    | with_reducible exact sim_cap
    | with_reducible refine Sim.bind (N := fun _ => True) ?_ fun _ _ => ?_
    | with_reducible refine sim_map ?_
    | with_reducible refine sim_forInA (fun _ _ => ?_) _ _
    | with_reducible refine sim_forInR (fun _ _ => ?_) _ _
    | with_reducible refine sim_mapA (fun _ => ?_) _
    | with_reducible refine sim_foldL (fun _ _ => ?_) _ _
    | split
    | dsimp only

theorem sim_copy {ts : Array TypeId} {t : TypeId} {a : Array Value} : Sim P S (fun _ => True) (Builtin.copy_ ts t a) := by
  unfold Builtin.copy_
  repeat' first
    | with_reducible exact Sim.pure trivial
    | with_reducible exact sim_stuck
    | with_reducible exact sim_unsupported
    | with_reducible exact sim_panic
    | with_reducible exact sim_runtimePanic
    | with_reducible exact sim_getObj'
    | with_reducible exact sim_setObj (hS _)
    | with_reducible exact sim_program'
    | with_reducible exact sim_load
    | with_reducible exact sim_store
    | with_reducible exact sim_new
    | with_reducible exact sim_shape
    | with_reducible exact sim_choose
    | with_reducible exact sim_askRoom
    | with_reducible exact sim_typeInfo
    | with_reducible exact sim_underlying
    | with_reducible exact sim_zeroValue
    | with_reducible exact sim_sizeOf
    | with_reducible exact sim_isAgg
    | with_reducible exact sim_loadCells
    | with_reducible exact sim_storeCells _ _
    | with_reducible exact sim_loadVar
    | with_reducible exact sim_storeVar
    | with_reducible exact sim_newRow
    | with_reducible exact sim_newVar
    | with_reducible exact sim_elemOf
    | with_reducible exact sim_part
    | with_reducible exact sim_viewAt
    | with_reducible exact sim_numberAt
    | with_reducible exact sim_cellsIn
    | with_reducible exact sim_noView
    | with_reducible exact sim_asBool
    | with_reducible exact sim_asString
    | with_reducible exact sim_asAgg
    | with_reducible exact sim_asIntOf
    | with_reducible exact sim_asInt
    | with_reducible exact sim_asAddr
    | with_reducible exact sim_sameAddr
    | with_reducible exact sim_freeze
    | with_reducible exact sim_markStringish
    | with_reducible exact sim_asNumber
    | with_reducible exact sim_behindNumber
    | with_reducible exact sim_byteOf
    | with_reducible exact sim_partAt
    | with_reducible exact sim_fieldPlace
    | with_reducible exact sim_boundsPanic
    | with_reducible exact sim_intArith
    | with_reducible exact sim_intDiv
    | with_reducible exact sim_intBits
    | with_reducible exact sim_shift
    | with_reducible exact sim_intCmp
    | with_reducible exact sim_stringOp
    | with_reducible exact sim_floatArith
    | with_reducible exact sim_floatCmp
    | with_reducible exact sim_floatToFloat
    | with_reducible exact sim_carith
    | with_reducible exact sim_ccmp
    | with_reducible exact sim_cconv
    | with_reducible exact sim_cadd
    | with_reducible exact sim_csub
    | with_reducible exact sim_cmul
    | with_reducible exact sim_cquo
    | with_reducible exact sim_cproduct
    | with_reducible exact sim_ccorrected
    | with_reducible exact sim_cquotient
    | with_reducible exact sim_complexOp
    | with_reducible exact sim_unary
    | with_reducible exact sim_samePointer
    | with_reducible exact sim_typeStr
    | with_reducible exact sim_equalIn _ _ _ _
    | with_reducible exact sim_equal
    | with_reducible exact sim_eqGuardIn _ _ _ _
    | with_reducible exact sim_eqGuard
    | with_reducible exact sim_unsafeAdd
    | with_reducible exact sim_movedNumber
    | with_reducible exact sim_movedPointer
    | with_reducible exact sim_twoPlaces
    | with_reducible exact sim_addrSub
    | with_reducible exact sim_addrCmp
    | with_reducible exact sim_addrMod
    | with_reducible exact sim_binOp
    | with_reducible exact sim_stringToBytes
    | with_reducible exact sim_stringToRunes
    | with_reducible exact sim_bytesToString
    | with_reducible exact sim_runesToString
    | with_reducible exact sim_intToInt
    | with_reducible exact sim_intToFloat
    | with_reducible exact sim_intToString
    | with_reducible exact sim_floatToInt
    | with_reducible exact sim_complexToComplex
    | with_reducible exact sim_backFromNumber
    | with_reducible exact sim_variablesAt
    | with_reducible exact sim_seenAt
    | with_reducible exact sim_unsafePointer
    | with_reducible exact sim_convert
    | with_reducible exact sim_alloc
    | with_reducible exact sim_box
    | with_reducible exact sim_build
    | with_reducible exact sim_buildSlice
    | with_reducible exact sim_sureAddr
    | with_reducible exact sim_loadAt
    | with_reducible exact sim_storeAt
    | with_reducible exact sim_fieldAt
    | with_reducible exact sim_indexAt
    | with_reducible exact sim_sliceBound
    | with_reducible exact sim_sliceBounds
    | with_reducible exact sim_slice
    | with_reducible exact sim_sliceAt
    | with_reducible exact sim_arrayAt
    | with_reducible exact sim_waits
    | with_reducible exact sim_makeInterface
    | with_reducible exact sim_makeFunc
    | with_reducible exact sim_makeMap
    | with_reducible exact sim_makeSlice
    | with_reducible exact sim_field
    | with_reducible exact sim_index
    | with_reducible exact sim_checkKey _ _ _
    | with_reducible exact sim_findAsking _ _
    | with_reducible exact sim_findKey
    | with_reducible exact sim_lookup
    | with_reducible exact sim_keyThatStays
    | with_reducible exact sim_mapUpdate hS
    | with_reducible exact sim_mapEntry hS
    | with_reducible exact sim_entryStore hS
    | with_reducible exact sim_range
    | with_reducible exact sim_next hS
    | with_reducible exact sim_entry
    | with_reducible exact sim_typeAssert
    | with_reducible exact sim_extract
    | with_reducible exact sim_holdsCells
    | with_reducible exact sim_lenOf
    | with_reducible exact sim_firstCells
    | with_reducible exact sim_cap
    | with_reducible exact sim_len
    | with_reducible refine Sim.bind (N := fun _ => True) ?_ fun _ _ => ?_
    | with_reducible refine sim_map ?_
    | with_reducible refine sim_forInA (fun _ _ => ?_) _ _
    | with_reducible refine sim_forInR (fun _ _ => ?_) _ _
    | with_reducible refine sim_mapA (fun _ => ?_) _
    | with_reducible refine sim_foldL (fun _ _ => ?_) _ _
    | split
    | dsimp only

theorem sim_max2 {x y : Value} : Sim P S (fun _ => True) (Builtin.max2 x y) := by
  unfold Builtin.max2
  repeat' first
    | with_reducible exact Sim.pure trivial
    | with_reducible exact sim_stuck
    | with_reducible exact sim_unsupported
    | with_reducible exact sim_panic
    | with_reducible exact sim_runtimePanic
    | with_reducible exact sim_getObj'
    | with_reducible exact sim_setObj (hS _)
    | with_reducible exact sim_program'
    | with_reducible exact sim_load
    | with_reducible exact sim_store
    | with_reducible exact sim_new
    | with_reducible exact sim_shape
    | with_reducible exact sim_choose
    | with_reducible exact sim_askRoom
    | with_reducible exact sim_typeInfo
    | with_reducible exact sim_underlying
    | with_reducible exact sim_zeroValue
    | with_reducible exact sim_sizeOf
    | with_reducible exact sim_isAgg
    | with_reducible exact sim_loadCells
    | with_reducible exact sim_storeCells _ _
    | with_reducible exact sim_loadVar
    | with_reducible exact sim_storeVar
    | with_reducible exact sim_newRow
    | with_reducible exact sim_newVar
    | with_reducible exact sim_elemOf
    | with_reducible exact sim_part
    | with_reducible exact sim_viewAt
    | with_reducible exact sim_numberAt
    | with_reducible exact sim_cellsIn
    | with_reducible exact sim_noView
    | with_reducible exact sim_asBool
    | with_reducible exact sim_asString
    | with_reducible exact sim_asAgg
    | with_reducible exact sim_asIntOf
    | with_reducible exact sim_asInt
    | with_reducible exact sim_asAddr
    | with_reducible exact sim_sameAddr
    | with_reducible exact sim_freeze
    | with_reducible exact sim_markStringish
    | with_reducible exact sim_asNumber
    | with_reducible exact sim_behindNumber
    | with_reducible exact sim_byteOf
    | with_reducible exact sim_partAt
    | with_reducible exact sim_fieldPlace
    | with_reducible exact sim_boundsPanic
    | with_reducible exact sim_intArith
    | with_reducible exact sim_intDiv
    | with_reducible exact sim_intBits
    | with_reducible exact sim_shift
    | with_reducible exact sim_intCmp
    | with_reducible exact sim_stringOp
    | with_reducible exact sim_floatArith
    | with_reducible exact sim_floatCmp
    | with_reducible exact sim_floatToFloat
    | with_reducible exact sim_carith
    | with_reducible exact sim_ccmp
    | with_reducible exact sim_cconv
    | with_reducible exact sim_cadd
    | with_reducible exact sim_csub
    | with_reducible exact sim_cmul
    | with_reducible exact sim_cquo
    | with_reducible exact sim_cproduct
    | with_reducible exact sim_ccorrected
    | with_reducible exact sim_cquotient
    | with_reducible exact sim_complexOp
    | with_reducible exact sim_unary
    | with_reducible exact sim_samePointer
    | with_reducible exact sim_typeStr
    | with_reducible exact sim_equalIn _ _ _ _
    | with_reducible exact sim_equal
    | with_reducible exact sim_eqGuardIn _ _ _ _
    | with_reducible exact sim_eqGuard
    | with_reducible exact sim_unsafeAdd
    | with_reducible exact sim_movedNumber
    | with_reducible exact sim_movedPointer
    | with_reducible exact sim_twoPlaces
    | with_reducible exact sim_addrSub
    | with_reducible exact sim_addrCmp
    | with_reducible exact sim_addrMod
    | with_reducible exact sim_binOp
    | with_reducible exact sim_stringToBytes
    | with_reducible exact sim_stringToRunes
    | with_reducible exact sim_bytesToString
    | with_reducible exact sim_runesToString
    | with_reducible exact sim_intToInt
    | with_reducible exact sim_intToFloat
    | with_reducible exact sim_intToString
    | with_reducible exact sim_floatToInt
    | with_reducible exact sim_complexToComplex
    | with_reducible exact sim_backFromNumber
    | with_reducible exact sim_variablesAt
    | with_reducible exact sim_seenAt
    | with_reducible exact sim_unsafePointer
    | with_reducible exact sim_convert
    | with_reducible exact sim_alloc
    | with_reducible exact sim_box
    | with_reducible exact sim_build
    | with_reducible exact sim_buildSlice
    | with_reducible exact sim_sureAddr
    | with_reducible exact sim_loadAt
    | with_reducible exact sim_storeAt
    | with_reducible exact sim_fieldAt
    | with_reducible exact sim_indexAt
    | with_reducible exact sim_sliceBound
    | with_reducible exact sim_sliceBounds
    | with_reducible exact sim_slice
    | with_reducible exact sim_sliceAt
    | with_reducible exact sim_arrayAt
    | with_reducible exact sim_waits
    | with_reducible exact sim_makeInterface
    | with_reducible exact sim_makeFunc
    | with_reducible exact sim_makeMap
    | with_reducible exact sim_makeSlice
    | with_reducible exact sim_field
    | with_reducible exact sim_index
    | with_reducible exact sim_checkKey _ _ _
    | with_reducible exact sim_findAsking _ _
    | with_reducible exact sim_findKey
    | with_reducible exact sim_lookup
    | with_reducible exact sim_keyThatStays
    | with_reducible exact sim_mapUpdate hS
    | with_reducible exact sim_mapEntry hS
    | with_reducible exact sim_entryStore hS
    | with_reducible exact sim_range
    | with_reducible exact sim_next hS
    | with_reducible exact sim_entry
    | with_reducible exact sim_typeAssert
    | with_reducible exact sim_extract
    | with_reducible exact sim_holdsCells
    | with_reducible exact sim_lenOf
    | with_reducible exact sim_firstCells
    | with_reducible exact sim_cap
    | with_reducible exact sim_len
    | with_reducible exact sim_copy
    | with_reducible refine Sim.bind (N := fun _ => True) ?_ fun _ _ => ?_
    | with_reducible refine sim_map ?_
    | with_reducible refine sim_forInA (fun _ _ => ?_) _ _
    | with_reducible refine sim_forInR (fun _ _ => ?_) _ _
    | with_reducible refine sim_mapA (fun _ => ?_) _
    | with_reducible refine sim_foldL (fun _ _ => ?_) _ _
    | split
    | dsimp only

theorem sim_max {ts : Array TypeId} {t : TypeId} {a : Array Value} : Sim P S (fun _ => True) (Builtin.max_ ts t a) := by
  unfold Builtin.max_
  repeat' first
    | with_reducible exact Sim.pure trivial
    | with_reducible exact sim_stuck
    | with_reducible exact sim_unsupported
    | with_reducible exact sim_panic
    | with_reducible exact sim_runtimePanic
    | with_reducible exact sim_getObj'
    | with_reducible exact sim_setObj (hS _)
    | with_reducible exact sim_program'
    | with_reducible exact sim_load
    | with_reducible exact sim_store
    | with_reducible exact sim_new
    | with_reducible exact sim_shape
    | with_reducible exact sim_choose
    | with_reducible exact sim_askRoom
    | with_reducible exact sim_typeInfo
    | with_reducible exact sim_underlying
    | with_reducible exact sim_zeroValue
    | with_reducible exact sim_sizeOf
    | with_reducible exact sim_isAgg
    | with_reducible exact sim_loadCells
    | with_reducible exact sim_storeCells _ _
    | with_reducible exact sim_loadVar
    | with_reducible exact sim_storeVar
    | with_reducible exact sim_newRow
    | with_reducible exact sim_newVar
    | with_reducible exact sim_elemOf
    | with_reducible exact sim_part
    | with_reducible exact sim_viewAt
    | with_reducible exact sim_numberAt
    | with_reducible exact sim_cellsIn
    | with_reducible exact sim_noView
    | with_reducible exact sim_asBool
    | with_reducible exact sim_asString
    | with_reducible exact sim_asAgg
    | with_reducible exact sim_asIntOf
    | with_reducible exact sim_asInt
    | with_reducible exact sim_asAddr
    | with_reducible exact sim_sameAddr
    | with_reducible exact sim_freeze
    | with_reducible exact sim_markStringish
    | with_reducible exact sim_asNumber
    | with_reducible exact sim_behindNumber
    | with_reducible exact sim_byteOf
    | with_reducible exact sim_partAt
    | with_reducible exact sim_fieldPlace
    | with_reducible exact sim_boundsPanic
    | with_reducible exact sim_intArith
    | with_reducible exact sim_intDiv
    | with_reducible exact sim_intBits
    | with_reducible exact sim_shift
    | with_reducible exact sim_intCmp
    | with_reducible exact sim_stringOp
    | with_reducible exact sim_floatArith
    | with_reducible exact sim_floatCmp
    | with_reducible exact sim_floatToFloat
    | with_reducible exact sim_carith
    | with_reducible exact sim_ccmp
    | with_reducible exact sim_cconv
    | with_reducible exact sim_cadd
    | with_reducible exact sim_csub
    | with_reducible exact sim_cmul
    | with_reducible exact sim_cquo
    | with_reducible exact sim_cproduct
    | with_reducible exact sim_ccorrected
    | with_reducible exact sim_cquotient
    | with_reducible exact sim_complexOp
    | with_reducible exact sim_unary
    | with_reducible exact sim_samePointer
    | with_reducible exact sim_typeStr
    | with_reducible exact sim_equalIn _ _ _ _
    | with_reducible exact sim_equal
    | with_reducible exact sim_eqGuardIn _ _ _ _
    | with_reducible exact sim_eqGuard
    | with_reducible exact sim_unsafeAdd
    | with_reducible exact sim_movedNumber
    | with_reducible exact sim_movedPointer
    | with_reducible exact sim_twoPlaces
    | with_reducible exact sim_addrSub
    | with_reducible exact sim_addrCmp
    | with_reducible exact sim_addrMod
    | with_reducible exact sim_binOp
    | with_reducible exact sim_stringToBytes
    | with_reducible exact sim_stringToRunes
    | with_reducible exact sim_bytesToString
    | with_reducible exact sim_runesToString
    | with_reducible exact sim_intToInt
    | with_reducible exact sim_intToFloat
    | with_reducible exact sim_intToString
    | with_reducible exact sim_floatToInt
    | with_reducible exact sim_complexToComplex
    | with_reducible exact sim_backFromNumber
    | with_reducible exact sim_variablesAt
    | with_reducible exact sim_seenAt
    | with_reducible exact sim_unsafePointer
    | with_reducible exact sim_convert
    | with_reducible exact sim_alloc
    | with_reducible exact sim_box
    | with_reducible exact sim_build
    | with_reducible exact sim_buildSlice
    | with_reducible exact sim_sureAddr
    | with_reducible exact sim_loadAt
    | with_reducible exact sim_storeAt
    | with_reducible exact sim_fieldAt
    | with_reducible exact sim_indexAt
    | with_reducible exact sim_sliceBound
    | with_reducible exact sim_sliceBounds
    | with_reducible exact sim_slice
    | with_reducible exact sim_sliceAt
    | with_reducible exact sim_arrayAt
    | with_reducible exact sim_waits
    | with_reducible exact sim_makeInterface
    | with_reducible exact sim_makeFunc
    | with_reducible exact sim_makeMap
    | with_reducible exact sim_makeSlice
    | with_reducible exact sim_field
    | with_reducible exact sim_index
    | with_reducible exact sim_checkKey _ _ _
    | with_reducible exact sim_findAsking _ _
    | with_reducible exact sim_findKey
    | with_reducible exact sim_lookup
    | with_reducible exact sim_keyThatStays
    | with_reducible exact sim_mapUpdate hS
    | with_reducible exact sim_mapEntry hS
    | with_reducible exact sim_entryStore hS
    | with_reducible exact sim_range
    | with_reducible exact sim_next hS
    | with_reducible exact sim_entry
    | with_reducible exact sim_typeAssert
    | with_reducible exact sim_extract
    | with_reducible exact sim_holdsCells
    | with_reducible exact sim_lenOf
    | with_reducible exact sim_firstCells
    | with_reducible exact sim_cap
    | with_reducible exact sim_len
    | with_reducible exact sim_copy
    | with_reducible exact sim_max2
    | with_reducible refine Sim.bind (N := fun _ => True) ?_ fun _ _ => ?_
    | with_reducible refine sim_map ?_
    | with_reducible refine sim_forInA (fun _ _ => ?_) _ _
    | with_reducible refine sim_forInR (fun _ _ => ?_) _ _
    | with_reducible refine sim_mapA (fun _ => ?_) _
    | with_reducible refine sim_foldL (fun _ _ => ?_) _ _
    | split
    | dsimp only

theorem sim_min2 {x y : Value} : Sim P S (fun _ => True) (Builtin.min2 x y) := by
  unfold Builtin.min2
  repeat' first
    | with_reducible exact Sim.pure trivial
    | with_reducible exact sim_stuck
    | with_reducible exact sim_unsupported
    | with_reducible exact sim_panic
    | with_reducible exact sim_runtimePanic
    | with_reducible exact sim_getObj'
    | with_reducible exact sim_setObj (hS _)
    | with_reducible exact sim_program'
    | with_reducible exact sim_load
    | with_reducible exact sim_store
    | with_reducible exact sim_new
    | with_reducible exact sim_shape
    | with_reducible exact sim_choose
    | with_reducible exact sim_askRoom
    | with_reducible exact sim_typeInfo
    | with_reducible exact sim_underlying
    | with_reducible exact sim_zeroValue
    | with_reducible exact sim_sizeOf
    | with_reducible exact sim_isAgg
    | with_reducible exact sim_loadCells
    | with_reducible exact sim_storeCells _ _
    | with_reducible exact sim_loadVar
    | with_reducible exact sim_storeVar
    | with_reducible exact sim_newRow
    | with_reducible exact sim_newVar
    | with_reducible exact sim_elemOf
    | with_reducible exact sim_part
    | with_reducible exact sim_viewAt
    | with_reducible exact sim_numberAt
    | with_reducible exact sim_cellsIn
    | with_reducible exact sim_noView
    | with_reducible exact sim_asBool
    | with_reducible exact sim_asString
    | with_reducible exact sim_asAgg
    | with_reducible exact sim_asIntOf
    | with_reducible exact sim_asInt
    | with_reducible exact sim_asAddr
    | with_reducible exact sim_sameAddr
    | with_reducible exact sim_freeze
    | with_reducible exact sim_markStringish
    | with_reducible exact sim_asNumber
    | with_reducible exact sim_behindNumber
    | with_reducible exact sim_byteOf
    | with_reducible exact sim_partAt
    | with_reducible exact sim_fieldPlace
    | with_reducible exact sim_boundsPanic
    | with_reducible exact sim_intArith
    | with_reducible exact sim_intDiv
    | with_reducible exact sim_intBits
    | with_reducible exact sim_shift
    | with_reducible exact sim_intCmp
    | with_reducible exact sim_stringOp
    | with_reducible exact sim_floatArith
    | with_reducible exact sim_floatCmp
    | with_reducible exact sim_floatToFloat
    | with_reducible exact sim_carith
    | with_reducible exact sim_ccmp
    | with_reducible exact sim_cconv
    | with_reducible exact sim_cadd
    | with_reducible exact sim_csub
    | with_reducible exact sim_cmul
    | with_reducible exact sim_cquo
    | with_reducible exact sim_cproduct
    | with_reducible exact sim_ccorrected
    | with_reducible exact sim_cquotient
    | with_reducible exact sim_complexOp
    | with_reducible exact sim_unary
    | with_reducible exact sim_samePointer
    | with_reducible exact sim_typeStr
    | with_reducible exact sim_equalIn _ _ _ _
    | with_reducible exact sim_equal
    | with_reducible exact sim_eqGuardIn _ _ _ _
    | with_reducible exact sim_eqGuard
    | with_reducible exact sim_unsafeAdd
    | with_reducible exact sim_movedNumber
    | with_reducible exact sim_movedPointer
    | with_reducible exact sim_twoPlaces
    | with_reducible exact sim_addrSub
    | with_reducible exact sim_addrCmp
    | with_reducible exact sim_addrMod
    | with_reducible exact sim_binOp
    | with_reducible exact sim_stringToBytes
    | with_reducible exact sim_stringToRunes
    | with_reducible exact sim_bytesToString
    | with_reducible exact sim_runesToString
    | with_reducible exact sim_intToInt
    | with_reducible exact sim_intToFloat
    | with_reducible exact sim_intToString
    | with_reducible exact sim_floatToInt
    | with_reducible exact sim_complexToComplex
    | with_reducible exact sim_backFromNumber
    | with_reducible exact sim_variablesAt
    | with_reducible exact sim_seenAt
    | with_reducible exact sim_unsafePointer
    | with_reducible exact sim_convert
    | with_reducible exact sim_alloc
    | with_reducible exact sim_box
    | with_reducible exact sim_build
    | with_reducible exact sim_buildSlice
    | with_reducible exact sim_sureAddr
    | with_reducible exact sim_loadAt
    | with_reducible exact sim_storeAt
    | with_reducible exact sim_fieldAt
    | with_reducible exact sim_indexAt
    | with_reducible exact sim_sliceBound
    | with_reducible exact sim_sliceBounds
    | with_reducible exact sim_slice
    | with_reducible exact sim_sliceAt
    | with_reducible exact sim_arrayAt
    | with_reducible exact sim_waits
    | with_reducible exact sim_makeInterface
    | with_reducible exact sim_makeFunc
    | with_reducible exact sim_makeMap
    | with_reducible exact sim_makeSlice
    | with_reducible exact sim_field
    | with_reducible exact sim_index
    | with_reducible exact sim_checkKey _ _ _
    | with_reducible exact sim_findAsking _ _
    | with_reducible exact sim_findKey
    | with_reducible exact sim_lookup
    | with_reducible exact sim_keyThatStays
    | with_reducible exact sim_mapUpdate hS
    | with_reducible exact sim_mapEntry hS
    | with_reducible exact sim_entryStore hS
    | with_reducible exact sim_range
    | with_reducible exact sim_next hS
    | with_reducible exact sim_entry
    | with_reducible exact sim_typeAssert
    | with_reducible exact sim_extract
    | with_reducible exact sim_holdsCells
    | with_reducible exact sim_lenOf
    | with_reducible exact sim_firstCells
    | with_reducible exact sim_cap
    | with_reducible exact sim_len
    | with_reducible exact sim_copy
    | with_reducible exact sim_max2
    | with_reducible exact sim_max
    | with_reducible refine Sim.bind (N := fun _ => True) ?_ fun _ _ => ?_
    | with_reducible refine sim_map ?_
    | with_reducible refine sim_forInA (fun _ _ => ?_) _ _
    | with_reducible refine sim_forInR (fun _ _ => ?_) _ _
    | with_reducible refine sim_mapA (fun _ => ?_) _
    | with_reducible refine sim_foldL (fun _ _ => ?_) _ _
    | split
    | dsimp only

theorem sim_min {ts : Array TypeId} {t : TypeId} {a : Array Value} : Sim P S (fun _ => True) (Builtin.min_ ts t a) := by
  unfold Builtin.min_
  repeat' first
    | with_reducible exact Sim.pure trivial
    | with_reducible exact sim_stuck
    | with_reducible exact sim_unsupported
    | with_reducible exact sim_panic
    | with_reducible exact sim_runtimePanic
    | with_reducible exact sim_getObj'
    | with_reducible exact sim_setObj (hS _)
    | with_reducible exact sim_program'
    | with_reducible exact sim_load
    | with_reducible exact sim_store
    | with_reducible exact sim_new
    | with_reducible exact sim_shape
    | with_reducible exact sim_choose
    | with_reducible exact sim_askRoom
    | with_reducible exact sim_typeInfo
    | with_reducible exact sim_underlying
    | with_reducible exact sim_zeroValue
    | with_reducible exact sim_sizeOf
    | with_reducible exact sim_isAgg
    | with_reducible exact sim_loadCells
    | with_reducible exact sim_storeCells _ _
    | with_reducible exact sim_loadVar
    | with_reducible exact sim_storeVar
    | with_reducible exact sim_newRow
    | with_reducible exact sim_newVar
    | with_reducible exact sim_elemOf
    | with_reducible exact sim_part
    | with_reducible exact sim_viewAt
    | with_reducible exact sim_numberAt
    | with_reducible exact sim_cellsIn
    | with_reducible exact sim_noView
    | with_reducible exact sim_asBool
    | with_reducible exact sim_asString
    | with_reducible exact sim_asAgg
    | with_reducible exact sim_asIntOf
    | with_reducible exact sim_asInt
    | with_reducible exact sim_asAddr
    | with_reducible exact sim_sameAddr
    | with_reducible exact sim_freeze
    | with_reducible exact sim_markStringish
    | with_reducible exact sim_asNumber
    | with_reducible exact sim_behindNumber
    | with_reducible exact sim_byteOf
    | with_reducible exact sim_partAt
    | with_reducible exact sim_fieldPlace
    | with_reducible exact sim_boundsPanic
    | with_reducible exact sim_intArith
    | with_reducible exact sim_intDiv
    | with_reducible exact sim_intBits
    | with_reducible exact sim_shift
    | with_reducible exact sim_intCmp
    | with_reducible exact sim_stringOp
    | with_reducible exact sim_floatArith
    | with_reducible exact sim_floatCmp
    | with_reducible exact sim_floatToFloat
    | with_reducible exact sim_carith
    | with_reducible exact sim_ccmp
    | with_reducible exact sim_cconv
    | with_reducible exact sim_cadd
    | with_reducible exact sim_csub
    | with_reducible exact sim_cmul
    | with_reducible exact sim_cquo
    | with_reducible exact sim_cproduct
    | with_reducible exact sim_ccorrected
    | with_reducible exact sim_cquotient
    | with_reducible exact sim_complexOp
    | with_reducible exact sim_unary
    | with_reducible exact sim_samePointer
    | with_reducible exact sim_typeStr
    | with_reducible exact sim_equalIn _ _ _ _
    | with_reducible exact sim_equal
    | with_reducible exact sim_eqGuardIn _ _ _ _
    | with_reducible exact sim_eqGuard
    | with_reducible exact sim_unsafeAdd
    | with_reducible exact sim_movedNumber
    | with_reducible exact sim_movedPointer
    | with_reducible exact sim_twoPlaces
    | with_reducible exact sim_addrSub
    | with_reducible exact sim_addrCmp
    | with_reducible exact sim_addrMod
    | with_reducible exact sim_binOp
    | with_reducible exact sim_stringToBytes
    | with_reducible exact sim_stringToRunes
    | with_reducible exact sim_bytesToString
    | with_reducible exact sim_runesToString
    | with_reducible exact sim_intToInt
    | with_reducible exact sim_intToFloat
    | with_reducible exact sim_intToString
    | with_reducible exact sim_floatToInt
    | with_reducible exact sim_complexToComplex
    | with_reducible exact sim_backFromNumber
    | with_reducible exact sim_variablesAt
    | with_reducible exact sim_seenAt
    | with_reducible exact sim_unsafePointer
    | with_reducible exact sim_convert
    | with_reducible exact sim_alloc
    | with_reducible exact sim_box
    | with_reducible exact sim_build
    | with_reducible exact sim_buildSlice
    | with_reducible exact sim_sureAddr
    | with_reducible exact sim_loadAt
    | with_reducible exact sim_storeAt
    | with_reducible exact sim_fieldAt
    | with_reducible exact sim_indexAt
    | with_reducible exact sim_sliceBound
    | with_reducible exact sim_sliceBounds
    | with_reducible exact sim_slice
    | with_reducible exact sim_sliceAt
    | with_reducible exact sim_arrayAt
    | with_reducible exact sim_waits
    | with_reducible exact sim_makeInterface
    | with_reducible exact sim_makeFunc
    | with_reducible exact sim_makeMap
    | with_reducible exact sim_makeSlice
    | with_reducible exact sim_field
    | with_reducible exact sim_index
    | with_reducible exact sim_checkKey _ _ _
    | with_reducible exact sim_findAsking _ _
    | with_reducible exact sim_findKey
    | with_reducible exact sim_lookup
    | with_reducible exact sim_keyThatStays
    | with_reducible exact sim_mapUpdate hS
    | with_reducible exact sim_mapEntry hS
    | with_reducible exact sim_entryStore hS
    | with_reducible exact sim_range
    | with_reducible exact sim_next hS
    | with_reducible exact sim_entry
    | with_reducible exact sim_typeAssert
    | with_reducible exact sim_extract
    | with_reducible exact sim_holdsCells
    | with_reducible exact sim_lenOf
    | with_reducible exact sim_firstCells
    | with_reducible exact sim_cap
    | with_reducible exact sim_len
    | with_reducible exact sim_copy
    | with_reducible exact sim_max2
    | with_reducible exact sim_max
    | with_reducible exact sim_min2
    | with_reducible refine Sim.bind (N := fun _ => True) ?_ fun _ _ => ?_
    | with_reducible refine sim_map ?_
    | with_reducible refine sim_forInA (fun _ _ => ?_) _ _
    | with_reducible refine sim_forInR (fun _ _ => ?_) _ _
    | with_reducible refine sim_mapA (fun _ => ?_) _
    | with_reducible refine sim_foldL (fun _ _ => ?_) _ _
    | split
    | dsimp only

theorem sim_delete (hS : ∀ r, ¬ S.objs r) {ts : Array TypeId} {t : TypeId} {a : Array Value} : Sim P S (fun _ => True) (Builtin.delete_ ts t a) := by
  unfold Builtin.delete_
  repeat' first
    | with_reducible exact Sim.pure trivial
    | with_reducible exact sim_stuck
    | with_reducible exact sim_unsupported
    | with_reducible exact sim_panic
    | with_reducible exact sim_runtimePanic
    | with_reducible exact sim_getObj'
    | with_reducible exact sim_setObj (hS _)
    | with_reducible exact sim_program'
    | with_reducible exact sim_load
    | with_reducible exact sim_store
    | with_reducible exact sim_new
    | with_reducible exact sim_shape
    | with_reducible exact sim_choose
    | with_reducible exact sim_askRoom
    | with_reducible exact sim_typeInfo
    | with_reducible exact sim_underlying
    | with_reducible exact sim_zeroValue
    | with_reducible exact sim_sizeOf
    | with_reducible exact sim_isAgg
    | with_reducible exact sim_loadCells
    | with_reducible exact sim_storeCells _ _
    | with_reducible exact sim_loadVar
    | with_reducible exact sim_storeVar
    | with_reducible exact sim_newRow
    | with_reducible exact sim_newVar
    | with_reducible exact sim_elemOf
    | with_reducible exact sim_part
    | with_reducible exact sim_viewAt
    | with_reducible exact sim_numberAt
    | with_reducible exact sim_cellsIn
    | with_reducible exact sim_noView
    | with_reducible exact sim_asBool
    | with_reducible exact sim_asString
    | with_reducible exact sim_asAgg
    | with_reducible exact sim_asIntOf
    | with_reducible exact sim_asInt
    | with_reducible exact sim_asAddr
    | with_reducible exact sim_sameAddr
    | with_reducible exact sim_freeze
    | with_reducible exact sim_markStringish
    | with_reducible exact sim_asNumber
    | with_reducible exact sim_behindNumber
    | with_reducible exact sim_byteOf
    | with_reducible exact sim_partAt
    | with_reducible exact sim_fieldPlace
    | with_reducible exact sim_boundsPanic
    | with_reducible exact sim_intArith
    | with_reducible exact sim_intDiv
    | with_reducible exact sim_intBits
    | with_reducible exact sim_shift
    | with_reducible exact sim_intCmp
    | with_reducible exact sim_stringOp
    | with_reducible exact sim_floatArith
    | with_reducible exact sim_floatCmp
    | with_reducible exact sim_floatToFloat
    | with_reducible exact sim_carith
    | with_reducible exact sim_ccmp
    | with_reducible exact sim_cconv
    | with_reducible exact sim_cadd
    | with_reducible exact sim_csub
    | with_reducible exact sim_cmul
    | with_reducible exact sim_cquo
    | with_reducible exact sim_cproduct
    | with_reducible exact sim_ccorrected
    | with_reducible exact sim_cquotient
    | with_reducible exact sim_complexOp
    | with_reducible exact sim_unary
    | with_reducible exact sim_samePointer
    | with_reducible exact sim_typeStr
    | with_reducible exact sim_equalIn _ _ _ _
    | with_reducible exact sim_equal
    | with_reducible exact sim_eqGuardIn _ _ _ _
    | with_reducible exact sim_eqGuard
    | with_reducible exact sim_unsafeAdd
    | with_reducible exact sim_movedNumber
    | with_reducible exact sim_movedPointer
    | with_reducible exact sim_twoPlaces
    | with_reducible exact sim_addrSub
    | with_reducible exact sim_addrCmp
    | with_reducible exact sim_addrMod
    | with_reducible exact sim_binOp
    | with_reducible exact sim_stringToBytes
    | with_reducible exact sim_stringToRunes
    | with_reducible exact sim_bytesToString
    | with_reducible exact sim_runesToString
    | with_reducible exact sim_intToInt
    | with_reducible exact sim_intToFloat
    | with_reducible exact sim_intToString
    | with_reducible exact sim_floatToInt
    | with_reducible exact sim_complexToComplex
    | with_reducible exact sim_backFromNumber
    | with_reducible exact sim_variablesAt
    | with_reducible exact sim_seenAt
    | with_reducible exact sim_unsafePointer
    | with_reducible exact sim_convert
    | with_reducible exact sim_alloc
    | with_reducible exact sim_box
    | with_reducible exact sim_build
    | with_reducible exact sim_buildSlice
    | with_reducible exact sim_sureAddr
    | with_reducible exact sim_loadAt
    | with_reducible exact sim_storeAt
    | with_reducible exact sim_fieldAt
    | with_reducible exact sim_indexAt
    | with_reducible exact sim_sliceBound
    | with_reducible exact sim_sliceBounds
    | with_reducible exact sim_slice
    | with_reducible exact sim_sliceAt
    | with_reducible exact sim_arrayAt
    | with_reducible exact sim_waits
    | with_reducible exact sim_makeInterface
    | with_reducible exact sim_makeFunc
    | with_reducible exact sim_makeMap
    | with_reducible exact sim_makeSlice
    | with_reducible exact sim_field
    | with_reducible exact sim_index
    | with_reducible exact sim_checkKey _ _ _
    | with_reducible exact sim_findAsking _ _
    | with_reducible exact sim_findKey
    | with_reducible exact sim_lookup
    | with_reducible exact sim_keyThatStays
    | with_reducible exact sim_mapUpdate hS
    | with_reducible exact sim_mapEntry hS
    | with_reducible exact sim_entryStore hS
    | with_reducible exact sim_range
    | with_reducible exact sim_next hS
    | with_reducible exact sim_entry
    | with_reducible exact sim_typeAssert
    | with_reducible exact sim_extract
    | with_reducible exact sim_holdsCells
    | with_reducible exact sim_lenOf
    | with_reducible exact sim_firstCells
    | with_reducible exact sim_cap
    | with_reducible exact sim_len
    | with_reducible exact sim_copy
    | with_reducible exact sim_max2
    | with_reducible exact sim_max
    | with_reducible exact sim_min2
    | with_reducible exact sim_min
    | with_reducible refine Sim.bind (N := fun _ => True) ?_ fun _ _ => ?_
    | with_reducible refine sim_map ?_
    | with_reducible refine sim_forInA (fun _ _ => ?_) _ _
    | with_reducible refine sim_forInR (fun _ _ => ?_) _ _
    | with_reducible refine sim_mapA (fun _ => ?_) _
    | with_reducible refine sim_foldL (fun _ _ => ?_) _ _
    | split
    | dsimp only
end
end Go.Proofs.Ytecmobjiepgfjaa

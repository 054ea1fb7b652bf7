/- The model's operations: each meets itself in a world that is frozen at more places. Printed by gen_gog.py. -/
import Derived.Test.YtecmobjiepgfjaaPGoF
namespace Go.Proofs.Ytecmobjiepgfjaa
open Go.Conc
set_option linter.unusedSimpArgs false
set_option linter.unusedVariables false
section
variable {P : Program} {S : Prot} {α σ : Type}
theorem sim_getObj' {r : Nat} : Sim P S (fun _ => True) (getObj r) := Sim.mono sim_getObj fun _ _ => trivial
theorem sim_program' : Sim P S (fun _ => True) program := Sim.mono sim_program fun _ _ => trivial
theorem sim_freeze {a : Addr} {n : Nat} : Sim P S (fun _ => True) (freeze a n) := fun x w hT => ⟨0, fun _ => 0, .inr ⟨.ok () (x.freeze a n), by
    show Fits S _ w _ (.ok () (w.freeze a n))
    refine .ok ⟨rfl, trivial⟩ (hT.freeze a n) ?_ ?_
    · unfold World.freeze; split <;> rfl
    · unfold World.freeze; split <;> simp, fun τ d _ => by
    show Result.ok () ((under x τ d).freeze a n) = .ok () (under (x.freeze a n) τ d)
    congr 1
    unfold World.freeze; split <;> rfl, #[], fun es => by show es = _; simp, by simp⟩⟩
theorem sim_map {β : Type} {f : α → β} {s : Sem α} (h : Sim P S (fun _ => True) s) : Sim P S (fun _ => True) (f <$> s) := Sim.bind h fun _ _ => Sim.pure trivial
theorem sim_forIn {f : α → σ → Sem (ForInStep σ)} (h : ∀ a s, Sim P S (fun _ => True) (f a s)) : ∀ (l : List α) (s : σ), Sim P S (fun _ => True) (forIn l s f)
  | [], s => by simp only [List.forIn_nil]; exact Sim.pure trivial
  | a :: l, s => by
    rw [List.forIn_cons]
    refine Sim.bind (h a s) fun r _ => ?_
    cases r with
    | done b => exact Sim.pure trivial
    | yield b => exact sim_forIn h l b
theorem sim_forInA {f : α → σ → Sem (ForInStep σ)} (h : ∀ a s, Sim P S (fun _ => True) (f a s)) (l : Array α) (s : σ) : Sim P S (fun _ => True) (forIn l s f) := by
  rw [← Array.forIn_toList]; exact sim_forIn h _ _
theorem sim_forInR {f : Nat → σ → Sem (ForInStep σ)} (h : ∀ a s, Sim P S (fun _ => True) (f a s)) (l : Std.Legacy.Range) (s : σ) : Sim P S (fun _ => True) (forIn l s f) := by
  rw [Std.Legacy.Range.forIn_eq_forIn_range']; exact sim_forIn h _ _
theorem sim_mapL {f : α → Sem σ} (h : ∀ a, Sim P S (fun _ => True) (f a)) : ∀ l : List α, Sim P S (fun _ => True) (l.mapM f)
  | [] => by rw [List.mapM_nil]; exact Sim.pure trivial
  | a :: l => by
    rw [List.mapM_cons]
    exact (h a).bind fun _ _ => (sim_mapL h l).bind fun _ _ => Sim.pure trivial
theorem sim_mapA {f : α → Sem σ} (h : ∀ a, Sim P S (fun _ => True) (f a)) (l : Array α) : Sim P S (fun _ => True) (l.mapM f) := by
  rw [Array.mapM_eq_mapM_toList]
  exact (sim_mapL h l.toList).bind fun _ _ => Sim.pure trivial
theorem sim_foldL {f : σ → α → Sem σ} (h : ∀ s a, Sim P S (fun _ => True) (f s a)) : ∀ (l : List α) (s : σ), Sim P S (fun _ => True) (l.foldlM f s)
  | [], s => by rw [List.foldlM_nil]; exact Sim.pure trivial
  | a :: l, s => by rw [List.foldlM_cons]; exact (h s a).bind fun _ _ => sim_foldL h l _
theorem sim_markStringish {a : Addr} : Sim P S (fun _ => True) (markStringish a) := by
  unfold markStringish
  repeat' first
    | with_reducible exact Sim.pure trivial
    | with_reducible exact sim_stuck
    | with_reducible exact sim_unsupported
    | with_reducible exact sim_panic
    | with_reducible exact sim_runtimePanic
    | with_reducible exact sim_getObj'
    | with_reducible exact sim_setObj (hS _)
    | with_reducible exact sim_program'
    | with_reducible exact sim_load
    | with_reducible exact sim_store
    | with_reducible exact sim_new
    | with_reducible exact sim_shape
    | with_reducible exact sim_choose
    | with_reducible exact sim_askRoom
    | with_reducible exact sim_typeInfo
    | with_reducible exact sim_underlying
    | with_reducible exact sim_zeroValue
    | with_reducible exact sim_sizeOf
    | with_reducible exact sim_isAgg
    | with_reducible exact sim_loadCells
    | with_reducible exact sim_storeCells _ _
    | with_reducible exact sim_loadVar
    | with_reducible exact sim_storeVar
    | with_reducible exact sim_newRow
    | with_reducible exact sim_newVar
    | with_reducible exact sim_elemOf
    | with_reducible exact sim_part
    | with_reducible exact sim_viewAt
    | with_reducible exact sim_numberAt
    | with_reducible exact sim_cellsIn
    | with_reducible exact sim_noView
    | with_reducible exact sim_asBool
    | with_reducible exact sim_asString
    | with_reducible exact sim_asAgg
    | with_reducible exact sim_asIntOf
    | with_reducible exact sim_asInt
    | with_reducible exact sim_asAddr
    | with_reducible exact sim_sameAddr
    | with_reducible exact sim_freeze
    | with_reducible refine Sim.bind (N := fun _ => True) ?_ fun _ _ => ?_
    | with_reducible refine sim_map ?_
    | with_reducible refine sim_forInA (fun _ _ => ?_) _ _
    | with_reducible refine sim_forInR (fun _ _ => ?_) _ _
    | with_reducible refine sim_mapA (fun _ => ?_) _
    | with_reducible refine sim_foldL (fun _ _ => ?_) _ _
    | split
    | dsimp only

theorem sim_asNumber {a : Addr} {b : Bool} : Sim P S (fun _ => True) (asNumber a b) := by
  unfold asNumber
  repeat' first
    | with_reducible exact Sim.pure trivial
    | with_reducible exact sim_stuck
    | with_reducible exact sim_unsupported
    | with_reducible exact sim_panic
    | with_reducible exact sim_runtimePanic
    | with_reducible exact sim_getObj'
    | with_reducible exact sim_setObj (hS _)
    | with_reducible exact sim_program'
    | with_reducible exact sim_load
    | with_reducible exact sim_store
    | with_reducible exact sim_new
    | with_reducible exact sim_shape
    | with_reducible exact sim_choose
    | with_reducible exact sim_askRoom
    | with_reducible exact sim_typeInfo
    | with_reducible exact sim_underlying
    | with_reducible exact sim_zeroValue
    | with_reducible exact sim_sizeOf
    | with_reducible exact sim_isAgg
    | with_reducible exact sim_loadCells
    | with_reducible exact sim_storeCells _ _
    | with_reducible exact sim_loadVar
    | with_reducible exact sim_storeVar
    | with_reducible exact sim_newRow
    | with_reducible exact sim_newVar
    | with_reducible exact sim_elemOf
    | with_reducible exact sim_part
    | with_reducible exact sim_viewAt
    | with_reducible exact sim_numberAt
    | with_reducible exact sim_cellsIn
    | with_reducible exact sim_noView
    | with_reducible exact sim_asBool
    | with_reducible exact sim_asString
    | with_reducible exact sim_asAgg
    | with_reducible exact sim_asIntOf
    | with_reducible exact sim_asInt
    | with_reducible exact sim_asAddr
    | with_reducible exact sim_sameAddr
    | with_reducible exact sim_freeze
    | with_reducible exact sim_markStringish
    | with_reducible refine Sim.bind (N := fun _ => True) ?_ fun _ _ => ?_
    | with_reducible refine sim_map ?_
    | with_reducible refine sim_forInA (fun _ _ => ?_) _ _
    | with_reducible refine sim_forInR (fun _ _ => ?_) _ _
    | with_reducible refine sim_mapA (fun _ => ?_) _
    | with_reducible refine sim_foldL (fun _ _ => ?_) _ _
    | split
    | dsimp only

theorem sim_behindNumber {a : Addr} : Sim P S (fun _ => True) (behindNumber a) := by
  unfold behindNumber
  repeat' first
    | with_reducible exact Sim.pure trivial
    | with_reducible exact sim_stuck
    | with_reducible exact sim_unsupported
    | with_reducible exact sim_panic
    | with_reducible exact sim_runtimePanic
    | with_reducible exact sim_getObj'
    | with_reducible exact sim_setObj (hS _)
    | with_reducible exact sim_program'
    | with_reducible exact sim_load
    | with_reducible exact sim_store
    | with_reducible exact sim_new
    | with_reducible exact sim_shape
    | with_reducible exact sim_choose
    | with_reducible exact sim_askRoom
    | with_reducible exact sim_typeInfo
    | with_reducible exact sim_underlying
    | with_reducible exact sim_zeroValue
    | with_reducible exact sim_sizeOf
    | with_reducible exact sim_isAgg
    | with_reducible exact sim_loadCells
    | with_reducible exact sim_storeCells _ _
    | with_reducible exact sim_loadVar
    | with_reducible exact sim_storeVar
    | with_reducible exact sim_newRow
    | with_reducible exact sim_newVar
    | with_reducible exact sim_elemOf
    | with_reducible exact sim_part
    | with_reducible exact sim_viewAt
    | with_reducible exact sim_numberAt
    | with_reducible exact sim_cellsIn
    | with_reducible exact sim_noView
    | with_reducible exact sim_asBool
    | with_reducible exact sim_asString
    | with_reducible exact sim_asAgg
    | with_reducible exact sim_asIntOf
    | with_reducible exact sim_asInt
    | with_reducible exact sim_asAddr
    | with_reducible exact sim_sameAddr
    | with_reducible exact sim_freeze
    | with_reducible exact sim_markStringish
    | with_reducible exact sim_asNumber
    | with_reducible refine Sim.bind (N := fun _ => True) ?_ fun _ _ => ?_
    | with_reducible refine sim_map ?_
    | with_reducible refine sim_forInA (fun _ _ => ?_) _ _
    | with_reducible refine sim_forInR (fun _ _ => ?_) _ _
    | with_reducible refine sim_mapA (fun _ => ?_) _
    | with_reducible refine sim_foldL (fun _ _ => ?_) _ _
    | split
    | dsimp only

theorem sim_byteOf {a : Addr} : Sim P S (fun _ => True) (byteOf a) := by
  unfold byteOf
  repeat' first
    | with_reducible exact Sim.pure trivial
    | with_reducible exact sim_stuck
    | with_reducible exact sim_unsupported
    | with_reducible exact sim_panic
    | with_reducible exact sim_runtimePanic
    | with_reducible exact sim_getObj'
    | with_reducible exact sim_setObj (hS _)
    | with_reducible exact sim_program'
    | with_reducible exact sim_load
    | with_reducible exact sim_store
    | with_reducible exact sim_new
    | with_reducible exact sim_shape
    | with_reducible exact sim_choose
    | with_reducible exact sim_askRoom
    | with_reducible exact sim_typeInfo
    | with_reducible exact sim_underlying
    | with_reducible exact sim_zeroValue
    | with_reducible exact sim_sizeOf
    | with_reducible exact sim_isAgg
    | with_reducible exact sim_loadCells
    | with_reducible exact sim_storeCells _ _
    | with_reducible exact sim_loadVar
    | with_reducible exact sim_storeVar
    | with_reducible exact sim_newRow
    | with_reducible exact sim_newVar
    | with_reducible exact sim_elemOf
    | with_reducible exact sim_part
    | with_reducible exact sim_viewAt
    | with_reducible exact sim_numberAt
    | with_reducible exact sim_cellsIn
    | with_reducible exact sim_noView
    | with_reducible exact sim_asBool
    | with_reducible exact sim_asString
    | with_reducible exact sim_asAgg
    | with_reducible exact sim_asIntOf
    | with_reducible exact sim_asInt
    | with_reducible exact sim_asAddr
    | with_reducible exact sim_sameAddr
    | with_reducible exact sim_freeze
    | with_reducible exact sim_markStringish
    | with_reducible exact sim_asNumber
    | with_reducible exact sim_behindNumber
    | with_reducible refine Sim.bind (N := fun _ => True) ?_ fun _ _ => ?_
    | with_reducible refine sim_map ?_
    | with_reducible refine sim_forInA (fun _ _ => ?_) _ _
    | with_reducible refine sim_forInR (fun _ _ => ?_) _ _
    | with_reducible refine sim_mapA (fun _ => ?_) _
    | with_reducible refine sim_foldL (fun _ _ => ?_) _ _
    | split
    | dsimp only

theorem sim_partAt {a : Addr} {m n : Nat} : Sim P S (fun _ => True) (partAt a m n) := by
  unfold partAt
  repeat' first
    | with_reducible exact Sim.pure trivial
    | with_reducible exact sim_stuck
    | with_reducible exact sim_unsupported
    | with_reducible exact sim_panic
    | with_reducible exact sim_runtimePanic
    | with_reducible exact sim_getObj'
    | with_reducible exact sim_setObj (hS _)
    | with_reducible exact sim_program'
    | with_reducible exact sim_load
    | with_reducible exact sim_store
    | with_reducible exact sim_new
    | with_reducible exact sim_shape
    | with_reducible exact sim_choose
    | with_reducible exact sim_askRoom
    | with_reducible exact sim_typeInfo
    | with_reducible exact sim_underlying
    | with_reducible exact sim_zeroValue
    | with_reducible exact sim_sizeOf
    | with_reducible exact sim_isAgg
    | with_reducible exact sim_loadCells
    | with_reducible exact sim_storeCells _ _
    | with_reducible exact sim_loadVar
    | with_reducible exact sim_storeVar
    | with_reducible exact sim_newRow
    | with_reducible exact sim_newVar
    | with_reducible exact sim_elemOf
    | with_reducible exact sim_part
    | with_reducible exact sim_viewAt
    | with_reducible exact sim_numberAt
    | with_reducible exact sim_cellsIn
    | with_reducible exact sim_noView
    | with_reducible exact sim_asBool
    | with_reducible exact sim_asString
    | with_reducible exact sim_asAgg
    | with_reducible exact sim_asIntOf
    | with_reducible exact sim_asInt
    | with_reducible exact sim_asAddr
    | with_reducible exact sim_sameAddr
    | with_reducible exact sim_freeze
    | with_reducible exact sim_markStringish
    | with_reducible exact sim_asNumber
    | with_reducible exact sim_behindNumber
    | with_reducible exact sim_byteOf
    | with_reducible refine Sim.bind (N := fun _ => True) ?_ fun _ _ => ?_
    | with_reducible refine sim_map ?_
    | with_reducible refine sim_forInA (fun _ _ => ?_) _ _
    | with_reducible refine sim_forInR (fun _ _ => ?_) _ _
    | with_reducible refine sim_mapA (fun _ => ?_) _
    | with_reducible refine sim_foldL (fun _ _ => ?_) _ _
    | split
    | dsimp only

theorem sim_fieldPlace {a : Addr} {f : Field} : Sim P S (fun _ => True) (fieldPlace a f) := by
  unfold fieldPlace
  repeat' first
    | with_reducible exact Sim.pure trivial
    | with_reducible exact sim_stuck
    | with_reducible exact sim_unsupported
    | with_reducible exact sim_panic
    | with_reducible exact sim_runtimePanic
    | with_reducible exact sim_getObj'
    | with_reducible exact sim_setObj (hS _)
    | with_reducible exact sim_program'
    | with_reducible exact sim_load
    | with_reducible exact sim_store
    | with_reducible exact sim_new
    | with_reducible exact sim_shape
    | with_reducible exact sim_choose
    | with_reducible exact sim_askRoom
    | with_reducible exact sim_typeInfo
    | with_reducible exact sim_underlying
    | with_reducible exact sim_zeroValue
    | with_reducible exact sim_sizeOf
    | with_reducible exact sim_isAgg
    | with_reducible exact sim_loadCells
    | with_reducible exact sim_storeCells _ _
    | with_reducible exact sim_loadVar
    | with_reducible exact sim_storeVar
    | with_reducible exact sim_newRow
    | with_reducible exact sim_newVar
    | with_reducible exact sim_elemOf
    | with_reducible exact sim_part
    | with_reducible exact sim_viewAt
    | with_reducible exact sim_numberAt
    | with_reducible exact sim_cellsIn
    | with_reducible exact sim_noView
    | with_reducible exact sim_asBool
    | with_reducible exact sim_asString
    | with_reducible exact sim_asAgg
    | with_reducible exact sim_asIntOf
    | with_reducible exact sim_asInt
    | with_reducible exact sim_asAddr
    | with_reducible exact sim_sameAddr
    | with_reducible exact sim_freeze
    | with_reducible exact sim_markStringish
    | with_reducible exact sim_asNumber
    | with_reducible exact sim_behindNumber
    | with_reducible exact sim_byteOf
    | with_reducible exact sim_partAt
    | with_reducible refine Sim.bind (N := fun _ => True) ?_ fun _ _ => ?_
    | with_reducible refine sim_map ?_
    | with_reducible refine sim_forInA (fun _ _ => ?_) _ _
    | with_reducible refine sim_forInR (fun _ _ => ?_) _ _
    | with_reducible refine sim_mapA (fun _ => ?_) _
    | with_reducible refine sim_foldL (fun _ _ => ?_) _ _
    | split
    | dsimp only

theorem sim_boundsPanic {k : IntKind} {x y : Int} {c : BoundsCode} : Sim P S (fun _ => True) (boundsPanic (α := α) k x y c) := by
  unfold boundsPanic
  repeat' first
    | with_reducible exact Sim.pure trivial
    | with_reducible exact sim_stuck
    | with_reducible exact sim_unsupported
    | with_reducible exact sim_panic
    | with_reducible exact sim_runtimePanic
    | with_reducible exact sim_getObj'
    | with_reducible exact sim_setObj (hS _)
    | with_reducible exact sim_program'
    | with_reducible exact sim_load
    | with_reducible exact sim_store
    | with_reducible exact sim_new
    | with_reducible exact sim_shape
    | with_reducible exact sim_choose
    | with_reducible exact sim_askRoom
    | with_reducible exact sim_typeInfo
    | with_reducible exact sim_underlying
    | with_reducible exact sim_zeroValue
    | with_reducible exact sim_sizeOf
    | with_reducible exact sim_isAgg
    | with_reducible exact sim_loadCells
    | with_reducible exact sim_storeCells _ _
    | with_reducible exact sim_loadVar
    | with_reducible exact sim_storeVar
    | with_reducible exact sim_newRow
    | with_reducible exact sim_newVar
    | with_reducible exact sim_elemOf
    | with_reducible exact sim_part
    | with_reducible exact sim_viewAt
    | with_reducible exact sim_numberAt
    | with_reducible exact sim_cellsIn
    | with_reducible exact sim_noView
    | with_reducible exact sim_asBool
    | with_reducible exact sim_asString
    | with_reducible exact sim_asAgg
    | with_reducible exact sim_asIntOf
    | with_reducible exact sim_asInt
    | with_reducible exact sim_asAddr
    | with_reducible exact sim_sameAddr
    | with_reducible exact sim_freeze
    | with_reducible exact sim_markStringish
    | with_reducible exact sim_asNumber
    | with_reducible exact sim_behindNumber
    | with_reducible exact sim_byteOf
    | with_reducible exact sim_partAt
    | with_reducible exact sim_fieldPlace
    | with_reducible refine Sim.bind (N := fun _ => True) ?_ fun _ _ => ?_
    | with_reducible refine sim_map ?_
    | with_reducible refine sim_forInA (fun _ _ => ?_) _ _
    | with_reducible refine sim_forInR (fun _ _ => ?_) _ _
    | with_reducible refine sim_mapA (fun _ => ?_) _
    | with_reducible refine sim_foldL (fun _ _ => ?_) _ _
    | split
    | dsimp only

theorem sim_intArith {op : BinOp} {k : IntKind} {x y : Int} : Sim P S (fun _ => True) (Op.intArith op k x y) := by
  unfold Op.intArith
  repeat' first
    | with_reducible exact Sim.pure trivial
    | with_reducible exact sim_stuck
    | with_reducible exact sim_unsupported
    | with_reducible exact sim_panic
    | with_reducible exact sim_runtimePanic
    | with_reducible exact sim_getObj'
    | with_reducible exact sim_setObj (hS _)
    | with_reducible exact sim_program'
    | with_reducible exact sim_load
    | with_reducible exact sim_store
    | with_reducible exact sim_new
    | with_reducible exact sim_shape
    | with_reducible exact sim_choose
    | with_reducible exact sim_askRoom
    | with_reducible exact sim_typeInfo
    | with_reducible exact sim_underlying
    | with_reducible exact sim_zeroValue
    | with_reducible exact sim_sizeOf
    | with_reducible exact sim_isAgg
    | with_reducible exact sim_loadCells
    | with_reducible exact sim_storeCells _ _
    | with_reducible exact sim_loadVar
    | with_reducible exact sim_storeVar
    | with_reducible exact sim_newRow
    | with_reducible exact sim_newVar
    | with_reducible exact sim_elemOf
    | with_reducible exact sim_part
    | with_reducible exact sim_viewAt
    | with_reducible exact sim_numberAt
    | with_reducible exact sim_cellsIn
    | with_reducible exact sim_noView
    | with_reducible exact sim_asBool
    | with_reducible exact sim_asString
    | with_reducible exact sim_asAgg
    | with_reducible exact sim_asIntOf
    | with_reducible exact sim_asInt
    | with_reducible exact sim_asAddr
    | with_reducible exact sim_sameAddr
    | with_reducible exact sim_freeze
    | with_reducible exact sim_markStringish
    | with_reducible exact sim_asNumber
    | with_reducible exact sim_behindNumber
    | with_reducible exact sim_byteOf
    | with_reducible exact sim_partAt
    | with_reducible exact sim_fieldPlace
    | with_reducible exact sim_boundsPanic
    | with_reducible refine Sim.bind (N := fun _ => True) ?_ fun _ _ => ?_
    | with_reducible refine sim_map ?_
    | with_reducible refine sim_forInA (fun _ _ => ?_) _ _
    | with_reducible refine sim_forInR (fun _ _ => ?_) _ _
    | with_reducible refine sim_mapA (fun _ => ?_) _
    | with_reducible refine sim_foldL (fun _ _ => ?_) _ _
    | split
    | dsimp only

theorem sim_intDiv {op : BinOp} {k : IntKind} {x y : Int} : Sim P S (fun _ => True) (Op.intDiv op k x y) := by
  unfold Op.intDiv
  repeat' first
    | with_reducible exact Sim.pure trivial
    | with_reducible exact sim_stuck
    | with_reducible exact sim_unsupported
    | with_reducible exact sim_panic
    | with_reducible exact sim_runtimePanic
    | with_reducible exact sim_getObj'
    | with_reducible exact sim_setObj (hS _)
    | with_reducible exact sim_program'
    | with_reducible exact sim_load
    | with_reducible exact sim_store
    | with_reducible exact sim_new
    | with_reducible exact sim_shape
    | with_reducible exact sim_choose
    | with_reducible exact sim_askRoom
    | with_reducible exact sim_typeInfo
    | with_reducible exact sim_underlying
    | with_reducible exact sim_zeroValue
    | with_reducible exact sim_sizeOf
    | with_reducible exact sim_isAgg
    | with_reducible exact sim_loadCells
    | with_reducible exact sim_storeCells _ _
    | with_reducible exact sim_loadVar
    | with_reducible exact sim_storeVar
    | with_reducible exact sim_newRow
    | with_reducible exact sim_newVar
    | with_reducible exact sim_elemOf
    | with_reducible exact sim_part
    | with_reducible exact sim_viewAt
    | with_reducible exact sim_numberAt
    | with_reducible exact sim_cellsIn
    | with_reducible exact sim_noView
    | with_reducible exact sim_asBool
    | with_reducible exact sim_asString
    | with_reducible exact sim_asAgg
    | with_reducible exact sim_asIntOf
    | with_reducible exact sim_asInt
    | with_reducible exact sim_asAddr
    | with_reducible exact sim_sameAddr
    | with_reducible exact sim_freeze
    | with_reducible exact sim_markStringish
    | with_reducible exact sim_asNumber
    | with_reducible exact sim_behindNumber
    | with_reducible exact sim_byteOf
    | with_reducible exact sim_partAt
    | with_reducible exact sim_fieldPlace
    | with_reducible exact sim_boundsPanic
    | with_reducible exact sim_intArith
    | with_reducible refine Sim.bind (N := fun _ => True) ?_ fun _ _ => ?_
    | with_reducible refine sim_map ?_
    | with_reducible refine sim_forInA (fun _ _ => ?_) _ _
    | with_reducible refine sim_forInR (fun _ _ => ?_) _ _
    | with_reducible refine sim_mapA (fun _ => ?_) _
    | with_reducible refine sim_foldL (fun _ _ => ?_) _ _
    | split
    | dsimp only

theorem sim_intBits {op : BinOp} {k : IntKind} {x y : Int} : Sim P S (fun _ => True) (Op.intBits op k x y) := by
  unfold Op.intBits
  repeat' first
    | with_reducible exact Sim.pure trivial
    | with_reducible exact sim_stuck
    | with_reducible exact sim_unsupported
    | with_reducible exact sim_panic
    | with_reducible exact sim_runtimePanic
    | with_reducible exact sim_getObj'
    | with_reducible exact sim_setObj (hS _)
    | with_reducible exact sim_program'
    | with_reducible exact sim_load
    | with_reducible exact sim_store
    | with_reducible exact sim_new
    | with_reducible exact sim_shape
    | with_reducible exact sim_choose
    | with_reducible exact sim_askRoom
    | with_reducible exact sim_typeInfo
    | with_reducible exact sim_underlying
    | with_reducible exact sim_zeroValue
    | with_reducible exact sim_sizeOf
    | with_reducible exact sim_isAgg
    | with_reducible exact sim_loadCells
    | with_reducible exact sim_storeCells _ _
    | with_reducible exact sim_loadVar
    | with_reducible exact sim_storeVar
    | with_reducible exact sim_newRow
    | with_reducible exact sim_newVar
    | with_reducible exact sim_elemOf
    | with_reducible exact sim_part
    | with_reducible exact sim_viewAt
    | with_reducible exact sim_numberAt
    | with_reducible exact sim_cellsIn
    | with_reducible exact sim_noView
    | with_reducible exact sim_asBool
    | with_reducible exact sim_asString
    | with_reducible exact sim_asAgg
    | with_reducible exact sim_asIntOf
    | with_reducible exact sim_asInt
    | with_reducible exact sim_asAddr
    | with_reducible exact sim_sameAddr
    | with_reducible exact sim_freeze
    | with_reducible exact sim_markStringish
    | with_reducible exact sim_asNumber
    | with_reducible exact sim_behindNumber
    | with_reducible exact sim_byteOf
    | with_reducible exact sim_partAt
    | with_reducible exact sim_fieldPlace
    | with_reducible exact sim_boundsPanic
    | with_reducible exact sim_intArith
    | with_reducible exact sim_intDiv
    | with_reducible refine Sim.bind (N := fun _ => True) ?_ fun _ _ => ?_
    | with_reducible refine sim_map ?_
    | with_reducible refine sim_forInA (fun _ _ => ?_) _ _
    | with_reducible refine sim_forInR (fun _ _ => ?_) _ _
    | with_reducible refine sim_mapA (fun _ => ?_) _
    | with_reducible refine sim_foldL (fun _ _ => ?_) _ _
    | split
    | dsimp only

theorem sim_shift {op : BinOp} {k j : IntKind} {x y : Int} : Sim P S (fun _ => True) (Op.shift op k x j y) := by
  unfold Op.shift
  repeat' first
    | with_reducible exact Sim.pure trivial
    | with_reducible exact sim_stuck
    | with_reducible exact sim_unsupported
    | with_reducible exact sim_panic
    | with_reducible exact sim_runtimePanic
    | with_reducible exact sim_getObj'
    | with_reducible exact sim_setObj (hS _)
    | with_reducible exact sim_program'
    | with_reducible exact sim_load
    | with_reducible exact sim_store
    | with_reducible exact sim_new
    | with_reducible exact sim_shape
    | with_reducible exact sim_choose
    | with_reducible exact sim_askRoom
    | with_reducible exact sim_typeInfo
    | with_reducible exact sim_underlying
    | with_reducible exact sim_zeroValue
    | with_reducible exact sim_sizeOf
    | with_reducible exact sim_isAgg
    | with_reducible exact sim_loadCells
    | with_reducible exact sim_storeCells _ _
    | with_reducible exact sim_loadVar
    | with_reducible exact sim_storeVar
    | with_reducible exact sim_newRow
    | with_reducible exact sim_newVar
    | with_reducible exact sim_elemOf
    | with_reducible exact sim_part
    | with_reducible exact sim_viewAt
    | with_reducible exact sim_numberAt
    | with_reducible exact sim_cellsIn
    | with_reducible exact sim_noView
    | with_reducible exact sim_asBool
    | with_reducible exact sim_asString
    | with_reducible exact sim_asAgg
    | with_reducible exact sim_asIntOf
    | with_reducible exact sim_asInt
    | with_reducible exact sim_asAddr
    | with_reducible exact sim_sameAddr
    | with_reducible exact sim_freeze
    | with_reducible exact sim_markStringish
    | with_reducible exact sim_asNumber
    | with_reducible exact sim_behindNumber
    | with_reducible exact sim_byteOf
    | with_reducible exact sim_partAt
    | with_reducible exact sim_fieldPlace
    | with_reducible exact sim_boundsPanic
    | with_reducible exact sim_intArith
    | with_reducible exact sim_intDiv
    | with_reducible exact sim_intBits
    | with_reducible refine Sim.bind (N := fun _ => True) ?_ fun _ _ => ?_
    | with_reducible refine sim_map ?_
    | with_reducible refine sim_forInA (fun _ _ => ?_) _ _
    | with_reducible refine sim_forInR (fun _ _ => ?_) _ _
    | with_reducible refine sim_mapA (fun _ => ?_) _
    | with_reducible refine sim_foldL (fun _ _ => ?_) _ _
    | split
    | dsimp only

theorem sim_intCmp {op : BinOp} {x y : Int} : Sim P S (fun _ => True) (Op.intCmp op x y) := by
  unfold Op.intCmp
  repeat' first
    | with_reducible exact Sim.pure trivial
    | with_reducible exact sim_stuck
    | with_reducible exact sim_unsupported
    | with_reducible exact sim_panic
    | with_reducible exact sim_runtimePanic
    | with_reducible exact sim_getObj'
    | with_reducible exact sim_setObj (hS _)
    | with_reducible exact sim_program'
    | with_reducible exact sim_load
    | with_reducible exact sim_store
    | with_reducible exact sim_new
    | with_reducible exact sim_shape
    | with_reducible exact sim_choose
    | with_reducible exact sim_askRoom
    | with_reducible exact sim_typeInfo
    | with_reducible exact sim_underlying
    | with_reducible exact sim_zeroValue
    | with_reducible exact sim_sizeOf
    | with_reducible exact sim_isAgg
    | with_reducible exact sim_loadCells
    | with_reducible exact sim_storeCells _ _
    | with_reducible exact sim_loadVar
    | with_reducible exact sim_storeVar
    | with_reducible exact sim_newRow
    | with_reducible exact sim_newVar
    | with_reducible exact sim_elemOf
    | with_reducible exact sim_part
    | with_reducible exact sim_viewAt
    | with_reducible exact sim_numberAt
    | with_reducible exact sim_cellsIn
    | with_reducible exact sim_noView
    | with_reducible exact sim_asBool
    | with_reducible exact sim_asString
    | with_reducible exact sim_asAgg
    | with_reducible exact sim_asIntOf
    | with_reducible exact sim_asInt
    | with_reducible exact sim_asAddr
    | with_reducible exact sim_sameAddr
    | with_reducible exact sim_freeze
    | with_reducible exact sim_markStringish
    | with_reducible exact sim_asNumber
    | with_reducible exact sim_behindNumber
    | with_reducible exact sim_byteOf
    | with_reducible exact sim_partAt
    | with_reducible exact sim_fieldPlace
    | with_reducible exact sim_boundsPanic
    | with_reducible exact sim_intArith
    | with_reducible exact sim_intDiv
    | with_reducible exact sim_intBits
    | with_reducible exact sim_shift
    | with_reducible refine Sim.bind (N := fun _ => True) ?_ fun _ _ => ?_
    | with_reducible refine sim_map ?_
    | with_reducible refine sim_forInA (fun _ _ => ?_) _ _
    | with_reducible refine sim_forInR (fun _ _ => ?_) _ _
    | with_reducible refine sim_mapA (fun _ => ?_) _
    | with_reducible refine sim_foldL (fun _ _ => ?_) _ _
    | split
    | dsimp only

theorem sim_stringOp {op : BinOp} {x y : ByteArray} : Sim P S (fun _ => True) (Op.stringOp op x y) := by
  unfold Op.stringOp
  repeat' first
    | with_reducible exact Sim.pure trivial
    | with_reducible exact sim_stuck
    | with_reducible exact sim_unsupported
    | with_reducible exact sim_panic
    | with_reducible exact sim_runtimePanic
    | with_reducible exact sim_getObj'
    | with_reducible exact sim_setObj (hS _)
    | with_reducible exact sim_program'
    | with_reducible exact sim_load
    | with_reducible exact sim_store
    | with_reducible exact sim_new
    | with_reducible exact sim_shape
    | with_reducible exact sim_choose
    | with_reducible exact sim_askRoom
    | with_reducible exact sim_typeInfo
    | with_reducible exact sim_underlying
    | with_reducible exact sim_zeroValue
    | with_reducible exact sim_sizeOf
    | with_reducible exact sim_isAgg
    | with_reducible exact sim_loadCells
    | with_reducible exact sim_storeCells _ _
    | with_reducible exact sim_loadVar
    | with_reducible exact sim_storeVar
    | with_reducible exact sim_newRow
    | with_reducible exact sim_newVar
    | with_reducible exact sim_elemOf
    | with_reducible exact sim_part
    | with_reducible exact sim_viewAt
    | with_reducible exact sim_numberAt
    | with_reducible exact sim_cellsIn
    | with_reducible exact sim_noView
    | with_reducible exact sim_asBool
    | with_reducible exact sim_asString
    | with_reducible exact sim_asAgg
    | with_reducible exact sim_asIntOf
    | with_reducible exact sim_asInt
    | with_reducible exact sim_asAddr
    | with_reducible exact sim_sameAddr
    | with_reducible exact sim_freeze
    | with_reducible exact sim_markStringish
    | with_reducible exact sim_asNumber
    | with_reducible exact sim_behindNumber
    | with_reducible exact sim_byteOf
    | with_reducible exact sim_partAt
    | with_reducible exact sim_fieldPlace
    | with_reducible exact sim_boundsPanic
    | with_reducible exact sim_intArith
    | with_reducible exact sim_intDiv
    | with_reducible exact sim_intBits
    | with_reducible exact sim_shift
    | with_reducible exact sim_intCmp
    | with_reducible refine Sim.bind (N := fun _ => True) ?_ fun _ _ => ?_
    | with_reducible refine sim_map ?_
    | with_reducible refine sim_forInA (fun _ _ => ?_) _ _
    | with_reducible refine sim_forInR (fun _ _ => ?_) _ _
    | with_reducible refine sim_mapA (fun _ => ?_) _
    | with_reducible refine sim_foldL (fun _ _ => ?_) _ _
    | split
    | dsimp only

theorem sim_floatArith {op : BinOp} {k : FloatKind} {x y : Nat} : Sim P S (fun _ => True) (Op.floatArith op k x y) := by
  unfold Op.floatArith
  repeat' first
    | with_reducible exact Sim.pure trivial
    | with_reducible exact sim_stuck
    | with_reducible exact sim_unsupported
    | with_reducible exact sim_panic
    | with_reducible exact sim_runtimePanic
    | with_reducible exact sim_getObj'
    | with_reducible exact sim_setObj (hS _)
    | with_reducible exact sim_program'
    | with_reducible exact sim_load
    | with_reducible exact sim_store
    | with_reducible exact sim_new
    | with_reducible exact sim_shape
    | with_reducible exact sim_choose
    | with_reducible exact sim_askRoom
    | with_reducible exact sim_typeInfo
    | with_reducible exact sim_underlying
    | with_reducible exact sim_zeroValue
    | with_reducible exact sim_sizeOf
    | with_reducible exact sim_isAgg
    | with_reducible exact sim_loadCells
    | with_reducible exact sim_storeCells _ _
    | with_reducible exact sim_loadVar
    | with_reducible exact sim_storeVar
    | with_reducible exact sim_newRow
    | with_reducible exact sim_newVar
    | with_reducible exact sim_elemOf
    | with_reducible exact sim_part
    | with_reducible exact sim_viewAt
    | with_reducible exact sim_numberAt
    | with_reducible exact sim_cellsIn
    | with_reducible exact sim_noView
    | with_reducible exact sim_asBool
    | with_reducible exact sim_asString
    | with_reducible exact sim_asAgg
    | with_reducible exact sim_asIntOf
    | with_reducible exact sim_asInt
    | with_reducible exact sim_asAddr
    | with_reducible exact sim_sameAddr
    | with_reducible exact sim_freeze
    | with_reducible exact sim_markStringish
    | with_reducible exact sim_asNumber
    | with_reducible exact sim_behindNumber
    | with_reducible exact sim_byteOf
    | with_reducible exact sim_partAt
    | with_reducible exact sim_fieldPlace
    | with_reducible exact sim_boundsPanic
    | with_reducible exact sim_intArith
    | with_reducible exact sim_intDiv
    | with_reducible exact sim_intBits
    | with_reducible exact sim_shift
    | with_reducible exact sim_intCmp
    | with_reducible exact sim_stringOp
    | with_reducible refine Sim.bind (N := fun _ => True) ?_ fun _ _ => ?_
    | with_reducible refine sim_map ?_
    | with_reducible refine sim_forInA (fun _ _ => ?_) _ _
    | with_reducible refine sim_forInR (fun _ _ => ?_) _ _
    | with_reducible refine sim_mapA (fun _ => ?_) _
    | with_reducible refine sim_foldL (fun _ _ => ?_) _ _
    | split
    | dsimp only

theorem sim_floatCmp {op : BinOp} {k : FloatKind} {x y : Nat} : Sim P S (fun _ => True) (Op.floatCmp op k x y) := by
  unfold Op.floatCmp
  repeat' first
    | with_reducible exact Sim.pure trivial
    | with_reducible exact sim_stuck
    | with_reducible exact sim_unsupported
    | with_reducible exact sim_panic
    | with_reducible exact sim_runtimePanic
    | with_reducible exact sim_getObj'
    | with_reducible exact sim_setObj (hS _)
    | with_reducible exact sim_program'
    | with_reducible exact sim_load
    | with_reducible exact sim_store
    | with_reducible exact sim_new
    | with_reducible exact sim_shape
    | with_reducible exact sim_choose
    | with_reducible exact sim_askRoom
    | with_reducible exact sim_typeInfo
    | with_reducible exact sim_underlying
    | with_reducible exact sim_zeroValue
    | with_reducible exact sim_sizeOf
    | with_reducible exact sim_isAgg
    | with_reducible exact sim_loadCells
    | with_reducible exact sim_storeCells _ _
    | with_reducible exact sim_loadVar
    | with_reducible exact sim_storeVar
    | with_reducible exact sim_newRow
    | with_reducible exact sim_newVar
    | with_reducible exact sim_elemOf
    | with_reducible exact sim_part
    | with_reducible exact sim_viewAt
    | with_reducible exact sim_numberAt
    | with_reducible exact sim_cellsIn
    | with_reducible exact sim_noView
    | with_reducible exact sim_asBool
    | with_reducible exact sim_asString
    | with_reducible exact sim_asAgg
    | with_reducible exact sim_asIntOf
    | with_reducible exact sim_asInt
    | with_reducible exact sim_asAddr
    | with_reducible exact sim_sameAddr
    | with_reducible exact sim_freeze
    | with_reducible exact sim_markStringish
    | with_reducible exact sim_asNumber
    | with_reducible exact sim_behindNumber
    | with_reducible exact sim_byteOf
    | with_reducible exact sim_partAt
    | with_reducible exact sim_fieldPlace
    | with_reducible exact sim_boundsPanic
    | with_reducible exact sim_intArith
    | with_reducible exact sim_intDiv
    | with_reducible exact sim_intBits
    | with_reducible exact sim_shift
    | with_reducible exact sim_intCmp
    | with_reducible exact sim_stringOp
    | with_reducible exact sim_floatArith
    | with_reducible refine Sim.bind (N := fun _ => True) ?_ fun _ _ => ?_
    | with_reducible refine sim_map ?_
    | with_reducible refine sim_forInA (fun _ _ => ?_) _ _
    | with_reducible refine sim_forInR (fun _ _ => ?_) _ _
    | with_reducible refine sim_mapA (fun _ => ?_) _
    | with_reducible refine sim_foldL (fun _ _ => ?_) _ _
    | split
    | dsimp only

theorem sim_floatToFloat {k j : FloatKind} {x : Nat} : Sim P S (fun _ => True) (Conv.floatToFloat k x j) := by
  unfold Conv.floatToFloat
  repeat' first
    | with_reducible exact Sim.pure trivial
    | with_reducible exact sim_stuck
    | with_reducible exact sim_unsupported
    | with_reducible exact sim_panic
    | with_reducible exact sim_runtimePanic
    | with_reducible exact sim_getObj'
    | with_reducible exact sim_setObj (hS _)
    | with_reducible exact sim_program'
    | with_reducible exact sim_load
    | with_reducible exact sim_store
    | with_reducible exact sim_new
    | with_reducible exact sim_shape
    | with_reducible exact sim_choose
    | with_reducible exact sim_askRoom
    | with_reducible exact sim_typeInfo
    | with_reducible exact sim_underlying
    | with_reducible exact sim_zeroValue
    | with_reducible exact sim_sizeOf
    | with_reducible exact sim_isAgg
    | with_reducible exact sim_loadCells
    | with_reducible exact sim_storeCells _ _
    | with_reducible exact sim_loadVar
    | with_reducible exact sim_storeVar
    | with_reducible exact sim_newRow
    | with_reducible exact sim_newVar
    | with_reducible exact sim_elemOf
    | with_reducible exact sim_part
    | with_reducible exact sim_viewAt
    | with_reducible exact sim_numberAt
    | with_reducible exact sim_cellsIn
    | with_reducible exact sim_noView
    | with_reducible exact sim_asBool
    | with_reducible exact sim_asString
    | with_reducible exact sim_asAgg
    | with_reducible exact sim_asIntOf
    | with_reducible exact sim_asInt
    | with_reducible exact sim_asAddr
    | with_reducible exact sim_sameAddr
    | with_reducible exact sim_freeze
    | with_reducible exact sim_markStringish
    | with_reducible exact sim_asNumber
    | with_reducible exact sim_behindNumber
    | with_reducible exact sim_byteOf
    | with_reducible exact sim_partAt
    | with_reducible exact sim_fieldPlace
    | with_reducible exact sim_boundsPanic
    | with_reducible exact sim_intArith
    | with_reducible exact sim_intDiv
    | with_reducible exact sim_intBits
    | with_reducible exact sim_shift
    | with_reducible exact sim_intCmp
    | with_reducible exact sim_stringOp
    | with_reducible exact sim_floatArith
    | with_reducible exact sim_floatCmp
    | with_reducible refine Sim.bind (N := fun _ => True) ?_ fun _ _ => ?_
    | with_reducible refine sim_map ?_
    | with_reducible refine sim_forInA (fun _ _ => ?_) _ _
    | with_reducible refine sim_forInR (fun _ _ => ?_) _ _
    | with_reducible refine sim_mapA (fun _ => ?_) _
    | with_reducible refine sim_foldL (fun _ _ => ?_) _ _
    | split
    | dsimp only

theorem sim_carith {op : BinOp} {k : FloatKind} {x y : Nat} : Sim P S (fun _ => True) (Op.Complex.arith op k x y) := by
  unfold Op.Complex.arith
  repeat' first
    | with_reducible exact Sim.pure trivial
    | with_reducible exact sim_stuck
    | with_reducible exact sim_unsupported
    | with_reducible exact sim_panic
    | with_reducible exact sim_runtimePanic
    | with_reducible exact sim_getObj'
    | with_reducible exact sim_setObj (hS _)
    | with_reducible exact sim_program'
    | with_reducible exact sim_load
    | with_reducible exact sim_store
    | with_reducible exact sim_new
    | with_reducible exact sim_shape
    | with_reducible exact sim_choose
    | with_reducible exact sim_askRoom
    | with_reducible exact sim_typeInfo
    | with_reducible exact sim_underlying
    | with_reducible exact sim_zeroValue
    | with_reducible exact sim_sizeOf
    | with_reducible exact sim_isAgg
    | with_reducible exact sim_loadCells
    | with_reducible exact sim_storeCells _ _
    | with_reducible exact sim_loadVar
    | with_reducible exact sim_storeVar
    | with_reducible exact sim_newRow
    | with_reducible exact sim_newVar
    | with_reducible exact sim_elemOf
    | with_reducible exact sim_part
    | with_reducible exact sim_viewAt
    | with_reducible exact sim_numberAt
    | with_reducible exact sim_cellsIn
    | with_reducible exact sim_noView
    | with_reducible exact sim_asBool
    | with_reducible exact sim_asString
    | with_reducible exact sim_asAgg
    | with_reducible exact sim_asIntOf
    | with_reducible exact sim_asInt
    | with_reducible exact sim_asAddr
    | with_reducible exact sim_sameAddr
    | with_reducible exact sim_freeze
    | with_reducible exact sim_markStringish
    | with_reducible exact sim_asNumber
    | with_reducible exact sim_behindNumber
    | with_reducible exact sim_byteOf
    | with_reducible exact sim_partAt
    | with_reducible exact sim_fieldPlace
    | with_reducible exact sim_boundsPanic
    | with_reducible exact sim_intArith
    | with_reducible exact sim_intDiv
    | with_reducible exact sim_intBits
    | with_reducible exact sim_shift
    | with_reducible exact sim_intCmp
    | with_reducible exact sim_stringOp
    | with_reducible exact sim_floatArith
    | with_reducible exact sim_floatCmp
    | with_reducible exact sim_floatToFloat
    | with_reducible refine Sim.bind (N := fun _ => True) ?_ fun _ _ => ?_
    | with_reducible refine sim_map ?_
    | with_reducible refine sim_forInA (fun _ _ => ?_) _ _
    | with_reducible refine sim_forInR (fun _ _ => ?_) _ _
    | with_reducible refine sim_mapA (fun _ => ?_) _
    | with_reducible refine sim_foldL (fun _ _ => ?_) _ _
    | split
    | dsimp only

theorem sim_ccmp {op : BinOp} {k : FloatKind} {x y : Nat} : Sim P S (fun _ => True) (Op.Complex.cmp op k x y) := by
  unfold Op.Complex.cmp
  repeat' first
    | with_reducible exact Sim.pure trivial
    | with_reducible exact sim_stuck
    | with_reducible exact sim_unsupported
    | with_reducible exact sim_panic
    | with_reducible exact sim_runtimePanic
    | with_reducible exact sim_getObj'
    | with_reducible exact sim_setObj (hS _)
    | with_reducible exact sim_program'
    | with_reducible exact sim_load
    | with_reducible exact sim_store
    | with_reducible exact sim_new
    | with_reducible exact sim_shape
    | with_reducible exact sim_choose
    | with_reducible exact sim_askRoom
    | with_reducible exact sim_typeInfo
    | with_reducible exact sim_underlying
    | with_reducible exact sim_zeroValue
    | with_reducible exact sim_sizeOf
    | with_reducible exact sim_isAgg
    | with_reducible exact sim_loadCells
    | with_reducible exact sim_storeCells _ _
    | with_reducible exact sim_loadVar
    | with_reducible exact sim_storeVar
    | with_reducible exact sim_newRow
    | with_reducible exact sim_newVar
    | with_reducible exact sim_elemOf
    | with_reducible exact sim_part
    | with_reducible exact sim_viewAt
    | with_reducible exact sim_numberAt
    | with_reducible exact sim_cellsIn
    | with_reducible exact sim_noView
    | with_reducible exact sim_asBool
    | with_reducible exact sim_asString
    | with_reducible exact sim_asAgg
    | with_reducible exact sim_asIntOf
    | with_reducible exact sim_asInt
    | with_reducible exact sim_asAddr
    | with_reducible exact sim_sameAddr
    | with_reducible exact sim_freeze
    | with_reducible exact sim_markStringish
    | with_reducible exact sim_asNumber
    | with_reducible exact sim_behindNumber
    | with_reducible exact sim_byteOf
    | with_reducible exact sim_partAt
    | with_reducible exact sim_fieldPlace
    | with_reducible exact sim_boundsPanic
    | with_reducible exact sim_intArith
    | with_reducible exact sim_intDiv
    | with_reducible exact sim_intBits
    | with_reducible exact sim_shift
    | with_reducible exact sim_intCmp
    | with_reducible exact sim_stringOp
    | with_reducible exact sim_floatArith
    | with_reducible exact sim_floatCmp
    | with_reducible exact sim_floatToFloat
    | with_reducible exact sim_carith
    | with_reducible refine Sim.bind (N := fun _ => True) ?_ fun _ _ => ?_
    | with_reducible refine sim_map ?_
    | with_reducible refine sim_forInA (fun _ _ => ?_) _ _
    | with_reducible refine sim_forInR (fun _ _ => ?_) _ _
    | with_reducible refine sim_mapA (fun _ => ?_) _
    | with_reducible refine sim_foldL (fun _ _ => ?_) _ _
    | split
    | dsimp only

theorem sim_cconv {k j : FloatKind} {x : Nat} : Sim P S (fun _ => True) (Op.Complex.conv k x j) := by
  unfold Op.Complex.conv
  repeat' first
    | with_reducible exact Sim.pure trivial
    | with_reducible exact sim_stuck
    | with_reducible exact sim_unsupported
    | with_reducible exact sim_panic
    | with_reducible exact sim_runtimePanic
    | with_reducible exact sim_getObj'
    | with_reducible exact sim_setObj (hS _)
    | with_reducible exact sim_program'
    | with_reducible exact sim_load
    | with_reducible exact sim_store
    | with_reducible exact sim_new
    | with_reducible exact sim_shape
    | with_reducible exact sim_choose
    | with_reducible exact sim_askRoom
    | with_reducible exact sim_typeInfo
    | with_reducible exact sim_underlying
    | with_reducible exact sim_zeroValue
    | with_reducible exact sim_sizeOf
    | with_reducible exact sim_isAgg
    | with_reducible exact sim_loadCells
    | with_reducible exact sim_storeCells _ _
    | with_reducible exact sim_loadVar
    | with_reducible exact sim_storeVar
    | with_reducible exact sim_newRow
    | with_reducible exact sim_newVar
    | with_reducible exact sim_elemOf
    | with_reducible exact sim_part
    | with_reducible exact sim_viewAt
    | with_reducible exact sim_numberAt
    | with_reducible exact sim_cellsIn
    | with_reducible exact sim_noView
    | with_reducible exact sim_asBool
    | with_reducible exact sim_asString
    | with_reducible exact sim_asAgg
    | with_reducible exact sim_asIntOf
    | with_reducible exact sim_asInt
    | with_reducible exact sim_asAddr
    | with_reducible exact sim_sameAddr
    | with_reducible exact sim_freeze
    | with_reducible exact sim_markStringish
    | with_reducible exact sim_asNumber
    | with_reducible exact sim_behindNumber
    | with_reducible exact sim_byteOf
    | with_reducible exact sim_partAt
    | with_reducible exact sim_fieldPlace
    | with_reducible exact sim_boundsPanic
    | with_reducible exact sim_intArith
    | with_reducible exact sim_intDiv
    | with_reducible exact sim_intBits
    | with_reducible exact sim_shift
    | with_reducible exact sim_intCmp
    | with_reducible exact sim_stringOp
    | with_reducible exact sim_floatArith
    | with_reducible exact sim_floatCmp
    | with_reducible exact sim_floatToFloat
    | with_reducible exact sim_carith
    | with_reducible exact sim_ccmp
    | with_reducible refine Sim.bind (N := fun _ => True) ?_ fun _ _ => ?_
    | with_reducible refine sim_map ?_
    | with_reducible refine sim_forInA (fun _ _ => ?_) _ _
    | with_reducible refine sim_forInR (fun _ _ => ?_) _ _
    | with_reducible refine sim_mapA (fun _ => ?_) _
    | with_reducible refine sim_foldL (fun _ _ => ?_) _ _
    | split
    | dsimp only

theorem sim_cadd {x y : Nat} : Sim P S (fun _ => True) (Op.Complex.add x y) := sim_carith

theorem sim_csub {x y : Nat} : Sim P S (fun _ => True) (Op.Complex.sub x y) := sim_carith

theorem sim_cmul {x y : Nat} : Sim P S (fun _ => True) (Op.Complex.mul x y) := sim_carith

theorem sim_cquo {x y : Nat} : Sim P S (fun _ => True) (Op.Complex.quo x y) := sim_carith

theorem sim_cproduct {a b c d : Nat} : Sim P S (fun _ => True) (Op.Complex.product a b c d) := by
  unfold Op.Complex.product
  repeat' first
    | with_reducible exact Sim.pure trivial
    | with_reducible exact sim_stuck
    | with_reducible exact sim_unsupported
    | with_reducible exact sim_panic
    | with_reducible exact sim_runtimePanic
    | with_reducible exact sim_getObj'
    | with_reducible exact sim_setObj (hS _)
    | with_reducible exact sim_program'
    | with_reducible exact sim_load
    | with_reducible exact sim_store
    | with_reducible exact sim_new
    | with_reducible exact sim_shape
    | with_reducible exact sim_choose
    | with_reducible exact sim_askRoom
    | with_reducible exact sim_typeInfo
    | with_reducible exact sim_underlying
    | with_reducible exact sim_zeroValue
    | with_reducible exact sim_sizeOf
    | with_reducible exact sim_isAgg
    | with_reducible exact sim_loadCells
    | with_reducible exact sim_storeCells _ _
    | with_reducible exact sim_loadVar
    | with_reducible exact sim_storeVar
    | with_reducible exact sim_newRow
    | with_reducible exact sim_newVar
    | with_reducible exact sim_elemOf
    | with_reducible exact sim_part
    | with_reducible exact sim_viewAt
    | with_reducible exact sim_numberAt
    | with_reducible exact sim_cellsIn
    | with_reducible exact sim_noView
    | with_reducible exact sim_asBool
    | with_reducible exact sim_asString
    | with_reducible exact sim_asAgg
    | with_reducible exact sim_asIntOf
    | with_reducible exact sim_asInt
    | with_reducible exact sim_asAddr
    | with_reducible exact sim_sameAddr
    | with_reducible exact sim_freeze
    | with_reducible exact sim_markStringish
    | with_reducible exact sim_asNumber
    | with_reducible exact sim_behindNumber
    | with_reducible exact sim_byteOf
    | with_reducible exact sim_partAt
    | with_reducible exact sim_fieldPlace
    | with_reducible exact sim_boundsPanic
    | with_reducible exact sim_intArith
    | with_reducible exact sim_intDiv
    | with_reducible exact sim_intBits
    | with_reducible exact sim_shift
    | with_reducible exact sim_intCmp
    | with_reducible exact sim_stringOp
    | with_reducible exact sim_floatArith
    | with_reducible exact sim_floatCmp
    | with_reducible exact sim_floatToFloat
    | with_reducible exact sim_carith
    | with_reducible exact sim_ccmp
    | with_reducible exact sim_cconv
    | with_reducible exact sim_cadd
    | with_reducible exact sim_csub
    | with_reducible exact sim_cmul
    | with_reducible exact sim_cquo
    | with_reducible refine Sim.bind (N := fun _ => True) ?_ fun _ _ => ?_
    | with_reducible refine sim_map ?_
    | with_reducible refine sim_forInA (fun _ _ => ?_) _ _
    | with_reducible refine sim_forInR (fun _ _ => ?_) _ _
    | with_reducible refine sim_mapA (fun _ => ?_) _
    | with_reducible refine sim_foldL (fun _ _ => ?_) _ _
    | split
    | dsimp only

theorem sim_ccorrected {s a b c d : Nat} : Sim P S (fun _ => True) (Op.Complex.corrected s a b c d) := by
  unfold Op.Complex.corrected
  repeat' first
    | with_reducible exact Sim.pure trivial
    | with_reducible exact sim_stuck
    | with_reducible exact sim_unsupported
    | with_reducible exact sim_panic
    | with_reducible exact sim_runtimePanic
    | with_reducible exact sim_getObj'
    | with_reducible exact sim_setObj (hS _)
    | with_reducible exact sim_program'
    | with_reducible exact sim_load
    | with_reducible exact sim_store
    | with_reducible exact sim_new
    | with_reducible exact sim_shape
    | with_reducible exact sim_choose
    | with_reducible exact sim_askRoom
    | with_reducible exact sim_typeInfo
    | with_reducible exact sim_underlying
    | with_reducible exact sim_zeroValue
    | with_reducible exact sim_sizeOf
    | with_reducible exact sim_isAgg
    | with_reducible exact sim_loadCells
    | with_reducible exact sim_storeCells _ _
    | with_reducible exact sim_loadVar
    | with_reducible exact sim_storeVar
    | with_reducible exact sim_newRow
    | with_reducible exact sim_newVar
    | with_reducible exact sim_elemOf
    | with_reducible exact sim_part
    | with_reducible exact sim_viewAt
    | with_reducible exact sim_numberAt
    | with_reducible exact sim_cellsIn
    | with_reducible exact sim_noView
    | with_reducible exact sim_asBool
    | with_reducible exact sim_asString
    | with_reducible exact sim_asAgg
    | with_reducible exact sim_asIntOf
    | with_reducible exact sim_asInt
    | with_reducible exact sim_asAddr
    | with_reducible exact sim_sameAddr
    | with_reducible exact sim_freeze
    | with_reducible exact sim_markStringish
    | with_reducible exact sim_asNumber
    | with_reducible exact sim_behindNumber
    | with_reducible exact sim_byteOf
    | with_reducible exact sim_partAt
    | with_reducible exact sim_fieldPlace
    | with_reducible exact sim_boundsPanic
    | with_reducible exact sim_intArith
    | with_reducible exact sim_intDiv
    | with_reducible exact sim_intBits
    | with_reducible exact sim_shift
    | with_reducible exact sim_intCmp
    | with_reducible exact sim_stringOp
    | with_reducible exact sim_floatArith
    | with_reducible exact sim_floatCmp
    | with_reducible exact sim_floatToFloat
    | with_reducible exact sim_carith
    | with_reducible exact sim_ccmp
    | with_reducible exact sim_cconv
    | with_reducible exact sim_cadd
    | with_reducible exact sim_csub
    | with_reducible exact sim_cmul
    | with_reducible exact sim_cquo
    | with_reducible exact sim_cproduct
    | with_reducible refine Sim.bind (N := fun _ => True) ?_ fun _ _ => ?_
    | with_reducible refine sim_map ?_
    | with_reducible refine sim_forInA (fun _ _ => ?_) _ _
    | with_reducible refine sim_forInR (fun _ _ => ?_) _ _
    | with_reducible refine sim_mapA (fun _ => ?_) _
    | with_reducible refine sim_foldL (fun _ _ => ?_) _ _
    | split
    | dsimp only

theorem sim_cquotient {a b c d : Nat} : Sim P S (fun _ => True) (Op.Complex.quotient a b c d) := by
  unfold Op.Complex.quotient
  repeat' first
    | with_reducible exact Sim.pure trivial
    | with_reducible exact sim_stuck
    | with_reducible exact sim_unsupported
    | with_reducible exact sim_panic
    | with_reducible exact sim_runtimePanic
    | with_reducible exact sim_getObj'
    | with_reducible exact sim_setObj (hS _)
    | with_reducible exact sim_program'
    | with_reducible exact sim_load
    | with_reducible exact sim_store
    | with_reducible exact sim_new
    | with_reducible exact sim_shape
    | with_reducible exact sim_choose
    | with_reducible exact sim_askRoom
    | with_reducible exact sim_typeInfo
    | with_reducible exact sim_underlying
    | with_reducible exact sim_zeroValue
    | with_reducible exact sim_sizeOf
    | with_reducible exact sim_isAgg
    | with_reducible exact sim_loadCells
    | with_reducible exact sim_storeCells _ _
    | with_reducible exact sim_loadVar
    | with_reducible exact sim_storeVar
    | with_reducible exact sim_newRow
    | with_reducible exact sim_newVar
    | with_reducible exact sim_elemOf
    | with_reducible exact sim_part
    | with_reducible exact sim_viewAt
    | with_reducible exact sim_numberAt
    | with_reducible exact sim_cellsIn
    | with_reducible exact sim_noView
    | with_reducible exact sim_asBool
    | with_reducible exact sim_asString
    | with_reducible exact sim_asAgg
    | with_reducible exact sim_asIntOf
    | with_reducible exact sim_asInt
    | with_reducible exact sim_asAddr
    | with_reducible exact sim_sameAddr
    | with_reducible exact sim_freeze
    | with_reducible exact sim_markStringish
    | with_reducible exact sim_asNumber
    | with_reducible exact sim_behindNumber
    | with_reducible exact sim_byteOf
    | with_reducible exact sim_partAt
    | with_reducible exact sim_fieldPlace
    | with_reducible exact sim_boundsPanic
    | with_reducible exact sim_intArith
    | with_reducible exact sim_intDiv
    | with_reducible exact sim_intBits
    | with_reducible exact sim_shift
    | with_reducible exact sim_intCmp
    | with_reducible exact sim_stringOp
    | with_reducible exact sim_floatArith
    | with_reducible exact sim_floatCmp
    | with_reducible exact sim_floatToFloat
    | with_reducible exact sim_carith
    | with_reducible exact sim_ccmp
    | with_reducible exact sim_cconv
    | with_reducible exact sim_cadd
    | with_reducible exact sim_csub
    | with_reducible exact sim_cmul
    | with_reducible exact sim_cquo
    | with_reducible exact sim_cproduct
    | with_reducible exact sim_ccorrected
    | with_reducible refine Sim.bind (N := fun _ => True) ?_ fun _ _ => ?_
    | with_reducible refine sim_map ?_
    | with_reducible refine sim_forInA (fun _ _ => ?_) _ _
    | with_reducible refine sim_forInR (fun _ _ => ?_) _ _
    | with_reducible refine sim_mapA (fun _ => ?_) _
    | with_reducible refine sim_foldL (fun _ _ => ?_) _ _
    | split
    | dsimp only

theorem sim_complexOp {op : BinOp} {k : FloatKind} {a b c d : Nat} : Sim P S (fun _ => True) (Op.complexOp op k a b c d) := by
  unfold Op.complexOp
  repeat' first
    | with_reducible exact Sim.pure trivial
    | with_reducible exact sim_stuck
    | with_reducible exact sim_unsupported
    | with_reducible exact sim_panic
    | with_reducible exact sim_runtimePanic
    | with_reducible exact sim_getObj'
    | with_reducible exact sim_setObj (hS _)
    | with_reducible exact sim_program'
    | with_reducible exact sim_load
    | with_reducible exact sim_store
    | with_reducible exact sim_new
    | with_reducible exact sim_shape
    | with_reducible exact sim_choose
    | with_reducible exact sim_askRoom
    | with_reducible exact sim_typeInfo
    | with_reducible exact sim_underlying
    | with_reducible exact sim_zeroValue
    | with_reducible exact sim_sizeOf
    | with_reducible exact sim_isAgg
    | with_reducible exact sim_loadCells
    | with_reducible exact sim_storeCells _ _
    | with_reducible exact sim_loadVar
    | with_reducible exact sim_storeVar
    | with_reducible exact sim_newRow
    | with_reducible exact sim_newVar
    | with_reducible exact sim_elemOf
    | with_reducible exact sim_part
    | with_reducible exact sim_viewAt
    | with_reducible exact sim_numberAt
    | with_reducible exact sim_cellsIn
    | with_reducible exact sim_noView
    | with_reducible exact sim_asBool
    | with_reducible exact sim_asString
    | with_reducible exact sim_asAgg
    | with_reducible exact sim_asIntOf
    | with_reducible exact sim_asInt
    | with_reducible exact sim_asAddr
    | with_reducible exact sim_sameAddr
    | with_reducible exact sim_freeze
    | with_reducible exact sim_markStringish
    | with_reducible exact sim_asNumber
    | with_reducible exact sim_behindNumber
    | with_reducible exact sim_byteOf
    | with_reducible exact sim_partAt
    | with_reducible exact sim_fieldPlace
    | with_reducible exact sim_boundsPanic
    | with_reducible exact sim_intArith
    | with_reducible exact sim_intDiv
    | with_reducible exact sim_intBits
    | with_reducible exact sim_shift
    | with_reducible exact sim_intCmp
    | with_reducible exact sim_stringOp
    | with_reducible exact sim_floatArith
    | with_reducible exact sim_floatCmp
    | with_reducible exact sim_floatToFloat
    | with_reducible exact sim_carith
    | with_reducible exact sim_ccmp
    | with_reducible exact sim_cconv
    | with_reducible exact sim_cadd
    | with_reducible exact sim_csub
    | with_reducible exact sim_cmul
    | with_reducible exact sim_cquo
    | with_reducible exact sim_cproduct
    | with_reducible exact sim_ccorrected
    | with_reducible exact sim_cquotient
    | with_reducible refine Sim.bind (N := fun _ => True) ?_ fun _ _ => ?_
    | with_reducible refine sim_map ?_
    | with_reducible refine sim_forInA (fun _ _ => ?_) _ _
    | with_reducible refine sim_forInR (fun _ _ => ?_) _ _
    | with_reducible refine sim_mapA (fun _ => ?_) _
    | with_reducible refine sim_foldL (fun _ _ => ?_) _ _
    | split
    | dsimp only

theorem sim_unary {op : UnOp} {x : Value} : Sim P S (fun _ => True) (Op.unary op x) := by
  unfold Op.unary
  repeat' first
    | with_reducible exact Sim.pure trivial
    | with_reducible exact sim_stuck
    | with_reducible exact sim_unsupported
    | with_reducible exact sim_panic
    | with_reducible exact sim_runtimePanic
    | with_reducible exact sim_getObj'
    | with_reducible exact sim_setObj (hS _)
    | with_reducible exact sim_program'
    | with_reducible exact sim_load
    | with_reducible exact sim_store
    | with_reducible exact sim_new
    | with_reducible exact sim_shape
    | with_reducible exact sim_choose
    | with_reducible exact sim_askRoom
    | with_reducible exact sim_typeInfo
    | with_reducible exact sim_underlying
    | with_reducible exact sim_zeroValue
    | with_reducible exact sim_sizeOf
    | with_reducible exact sim_isAgg
    | with_reducible exact sim_loadCells
    | with_reducible exact sim_storeCells _ _
    | with_reducible exact sim_loadVar
    | with_reducible exact sim_storeVar
    | with_reducible exact sim_newRow
    | with_reducible exact sim_newVar
    | with_reducible exact sim_elemOf
    | with_reducible exact sim_part
    | with_reducible exact sim_viewAt
    | with_reducible exact sim_numberAt
    | with_reducible exact sim_cellsIn
    | with_reducible exact sim_noView
    | with_reducible exact sim_asBool
    | with_reducible exact sim_asString
    | with_reducible exact sim_asAgg
    | with_reducible exact sim_asIntOf
    | with_reducible exact sim_asInt
    | with_reducible exact sim_asAddr
    | with_reducible exact sim_sameAddr
    | with_reducible exact sim_freeze
    | with_reducible exact sim_markStringish
    | with_reducible exact sim_asNumber
    | with_reducible exact sim_behindNumber
    | with_reducible exact sim_byteOf
    | with_reducible exact sim_partAt
    | with_reducible exact sim_fieldPlace
    | with_reducible exact sim_boundsPanic
    | with_reducible exact sim_intArith
    | with_reducible exact sim_intDiv
    | with_reducible exact sim_intBits
    | with_reducible exact sim_shift
    | with_reducible exact sim_intCmp
    | with_reducible exact sim_stringOp
    | with_reducible exact sim_floatArith
    | with_reducible exact sim_floatCmp
    | with_reducible exact sim_floatToFloat
    | with_reducible exact sim_carith
    | with_reducible exact sim_ccmp
    | with_reducible exact sim_cconv
    | with_reducible exact sim_cadd
    | with_reducible exact sim_csub
    | with_reducible exact sim_cmul
    | with_reducible exact sim_cquo
    | with_reducible exact sim_cproduct
    | with_reducible exact sim_ccorrected
    | with_reducible exact sim_cquotient
    | with_reducible exact sim_complexOp
    | with_reducible refine Sim.bind (N := fun _ => True) ?_ fun _ _ => ?_
    | with_reducible refine sim_map ?_
    | with_reducible refine sim_forInA (fun _ _ => ?_) _ _
    | with_reducible refine sim_forInR (fun _ _ => ?_) _ _
    | with_reducible refine sim_mapA (fun _ => ?_) _
    | with_reducible refine sim_foldL (fun _ _ => ?_) _ _
    | split
    | dsimp only

theorem sim_samePointer {a b : Option Addr} : Sim P S (fun _ => True) (samePointer a b) := by
  unfold samePointer
  repeat' first
    | with_reducible exact Sim.pure trivial
    | with_reducible exact sim_stuck
    | with_reducible exact sim_unsupported
    | with_reducible exact sim_panic
    | with_reducible exact sim_runtimePanic
    | with_reducible exact sim_getObj'
    | with_reducible exact sim_setObj (hS _)
    | with_reducible exact sim_program'
    | with_reducible exact sim_load
    | with_reducible exact sim_store
    | with_reducible exact sim_new
    | with_reducible exact sim_shape
    | with_reducible exact sim_choose
    | with_reducible exact sim_askRoom
    | with_reducible exact sim_typeInfo
    | with_reducible exact sim_underlying
    | with_reducible exact sim_zeroValue
    | with_reducible exact sim_sizeOf
    | with_reducible exact sim_isAgg
    | with_reducible exact sim_loadCells
    | with_reducible exact sim_storeCells _ _
    | with_reducible exact sim_loadVar
    | with_reducible exact sim_storeVar
    | with_reducible exact sim_newRow
    | with_reducible exact sim_newVar
    | with_reducible exact sim_elemOf
    | with_reducible exact sim_part
    | with_reducible exact sim_viewAt
    | with_reducible exact sim_numberAt
    | with_reducible exact sim_cellsIn
    | with_reducible exact sim_noView
    | with_reducible exact sim_asBool
    | with_reducible exact sim_asString
    | with_reducible exact sim_asAgg
    | with_reducible exact sim_asIntOf
    | with_reducible exact sim_asInt
    | with_reducible exact sim_asAddr
    | with_reducible exact sim_sameAddr
    | with_reducible exact sim_freeze
    | with_reducible exact sim_markStringish
    | with_reducible exact sim_asNumber
    | with_reducible exact sim_behindNumber
    | with_reducible exact sim_byteOf
    | with_reducible exact sim_partAt
    | with_reducible exact sim_fieldPlace
    | with_reducible exact sim_boundsPanic
    | with_reducible exact sim_intArith
    | with_reducible exact sim_intDiv
    | with_reducible exact sim_intBits
    | with_reducible exact sim_shift
    | with_reducible exact sim_intCmp
    | with_reducible exact sim_stringOp
    | with_reducible exact sim_floatArith
    | with_reducible exact sim_floatCmp
    | with_reducible exact sim_floatToFloat
    | with_reducible exact sim_carith
    | with_reducible exact sim_ccmp
    | with_reducible exact sim_cconv
    | with_reducible exact sim_cadd
    | with_reducible exact sim_csub
    | with_reducible exact sim_cmul
    | with_reducible exact sim_cquo
    | with_reducible exact sim_cproduct
    | with_reducible exact sim_ccorrected
    | with_reducible exact sim_cquotient
    | with_reducible exact sim_complexOp
    | with_reducible exact sim_unary
    | with_reducible refine Sim.bind (N := fun _ => True) ?_ fun _ _ => ?_
    | with_reducible refine sim_map ?_
    | with_reducible refine sim_forInA (fun _ _ => ?_) _ _
    | with_reducible refine sim_forInR (fun _ _ => ?_) _ _
    | with_reducible refine sim_mapA (fun _ => ?_) _
    | with_reducible refine sim_foldL (fun _ _ => ?_) _ _
    | split
    | dsimp only

theorem sim_typeStr {t : TypeId} : Sim P S (fun _ => True) (typeStr t) := by
  unfold typeStr
  repeat' first
    | with_reducible exact Sim.pure trivial
    | with_reducible exact sim_stuck
    | with_reducible exact sim_unsupported
    | with_reducible exact sim_panic
    | with_reducible exact sim_runtimePanic
    | with_reducible exact sim_getObj'
    | with_reducible exact sim_setObj (hS _)
    | with_reducible exact sim_program'
    | with_reducible exact sim_load
    | with_reducible exact sim_store
    | with_reducible exact sim_new
    | with_reducible exact sim_shape
    | with_reducible exact sim_choose
    | with_reducible exact sim_askRoom
    | with_reducible exact sim_typeInfo
    | with_reducible exact sim_underlying
    | with_reducible exact sim_zeroValue
    | with_reducible exact sim_sizeOf
    | with_reducible exact sim_isAgg
    | with_reducible exact sim_loadCells
    | with_reducible exact sim_storeCells _ _
    | with_reducible exact sim_loadVar
    | with_reducible exact sim_storeVar
    | with_reducible exact sim_newRow
    | with_reducible exact sim_newVar
    | with_reducible exact sim_elemOf
    | with_reducible exact sim_part
    | with_reducible exact sim_viewAt
    | with_reducible exact sim_numberAt
    | with_reducible exact sim_cellsIn
    | with_reducible exact sim_noView
    | with_reducible exact sim_asBool
    | with_reducible exact sim_asString
    | with_reducible exact sim_asAgg
    | with_reducible exact sim_asIntOf
    | with_reducible exact sim_asInt
    | with_reducible exact sim_asAddr
    | with_reducible exact sim_sameAddr
    | with_reducible exact sim_freeze
    | with_reducible exact sim_markStringish
    | with_reducible exact sim_asNumber
    | with_reducible exact sim_behindNumber
    | with_reducible exact sim_byteOf
    | with_reducible exact sim_partAt
    | with_reducible exact sim_fieldPlace
    | with_reducible exact sim_boundsPanic
    | with_reducible exact sim_intArith
    | with_reducible exact sim_intDiv
    | with_reducible exact sim_intBits
    | with_reducible exact sim_shift
    | with_reducible exact sim_intCmp
    | with_reducible exact sim_stringOp
    | with_reducible exact sim_floatArith
    | with_reducible exact sim_floatCmp
    | with_reducible exact sim_floatToFloat
    | with_reducible exact sim_carith
    | with_reducible exact sim_ccmp
    | with_reducible exact sim_cconv
    | with_reducible exact sim_cadd
    | with_reducible exact sim_csub
    | with_reducible exact sim_cmul
    | with_reducible exact sim_cquo
    | with_reducible exact sim_cproduct
    | with_reducible exact sim_ccorrected
    | with_reducible exact sim_cquotient
    | with_reducible exact sim_complexOp
    | with_reducible exact sim_unary
    | with_reducible exact sim_samePointer
    | with_reducible refine Sim.bind (N := fun _ => True) ?_ fun _ _ => ?_
    | with_reducible refine sim_map ?_
    | with_reducible refine sim_forInA (fun _ _ => ?_) _ _
    | with_reducible refine sim_forInR (fun _ _ => ?_) _ _
    | with_reducible refine sim_mapA (fun _ => ?_) _
    | with_reducible refine sim_foldL (fun _ _ => ?_) _ _
    | split
    | dsimp only

theorem sim_equalIn : ∀ (d : Nat) (t : TypeId) (x y : Value), Sim P S (fun _ => True) (Op.equalIn d t x y)
  | 0, _, _, _ => by unfold Op.equalIn; exact sim_unsupported
  | d + 1, t, x, y => by
    unfold Op.equalIn
    repeat' first
      | with_reducible exact Sim.pure trivial
      | with_reducible exact sim_stuck
      | with_reducible exact sim_unsupported
      | with_reducible exact sim_panic
      | with_reducible exact sim_runtimePanic
      | with_reducible exact sim_equalIn d _ _ _
      | with_reducible exact (sim_choose.bind fun _ _ => sim_equalIn d _ _ _)
      | with_reducible exact sim_getObj'
      | with_reducible exact sim_setObj (hS _)
      | with_reducible exact sim_program'
      | with_reducible exact sim_load
      | with_reducible exact sim_store
      | with_reducible exact sim_new
      | with_reducible exact sim_shape
      | with_reducible exact sim_choose
      | with_reducible exact sim_askRoom
      | with_reducible exact sim_typeInfo
      | with_reducible exact sim_underlying
      | with_reducible exact sim_zeroValue
      | with_reducible exact sim_sizeOf
      | with_reducible exact sim_isAgg
      | with_reducible exact sim_loadCells
      | with_reducible exact sim_storeCells _ _
      | with_reducible exact sim_loadVar
      | with_reducible exact sim_storeVar
      | with_reducible exact sim_newRow
      | with_reducible exact sim_newVar
      | with_reducible exact sim_elemOf
      | with_reducible exact sim_part
      | with_reducible exact sim_viewAt
      | with_reducible exact sim_numberAt
      | with_reducible exact sim_cellsIn
      | with_reducible exact sim_noView
      | with_reducible exact sim_asBool
      | with_reducible exact sim_asString
      | with_reducible exact sim_asAgg
      | with_reducible exact sim_asIntOf
      | with_reducible exact sim_asInt
      | with_reducible exact sim_asAddr
      | with_reducible exact sim_sameAddr
      | with_reducible exact sim_freeze
      | with_reducible exact sim_markStringish
      | with_reducible exact sim_asNumber
      | with_reducible exact sim_behindNumber
      | with_reducible exact sim_byteOf
      | with_reducible exact sim_partAt
      | with_reducible exact sim_fieldPlace
      | with_reducible exact sim_boundsPanic
      | with_reducible exact sim_intArith
      | with_reducible exact sim_intDiv
      | with_reducible exact sim_intBits
      | with_reducible exact sim_shift
      | with_reducible exact sim_intCmp
      | with_reducible exact sim_stringOp
      | with_reducible exact sim_floatArith
      | with_reducible exact sim_floatCmp
      | with_reducible exact sim_floatToFloat
      | with_reducible exact sim_carith
      | with_reducible exact sim_ccmp
      | with_reducible exact sim_cconv
      | with_reducible exact sim_cadd
      | with_reducible exact sim_csub
      | with_reducible exact sim_cmul
      | with_reducible exact sim_cquo
      | with_reducible exact sim_cproduct
      | with_reducible exact sim_ccorrected
      | with_reducible exact sim_cquotient
      | with_reducible exact sim_complexOp
      | with_reducible exact sim_unary
      | with_reducible exact sim_samePointer
      | with_reducible exact sim_typeStr
      | with_reducible refine Sim.bind (N := fun _ => True) ?_ fun _ _ => ?_
      | with_reducible refine sim_map ?_
      | with_reducible refine sim_forInA (fun _ _ => ?_) _ _
      | with_reducible refine sim_forInR (fun _ _ => ?_) _ _
      | with_reducible refine sim_mapA (fun _ => ?_) _
      | with_reducible refine sim_foldL (fun _ _ => ?_) _ _
      | split
      | dsimp only

theorem sim_equal {t : TypeId} {x y : Value} : Sim P S (fun _ => True) (Op.equal t x y) := by
  unfold Op.equal
  repeat' first
    | with_reducible exact Sim.pure trivial
    | with_reducible exact sim_stuck
    | with_reducible exact sim_unsupported
    | with_reducible exact sim_panic
    | with_reducible exact sim_runtimePanic
    | with_reducible exact sim_getObj'
    | with_reducible exact sim_setObj (hS _)
    | with_reducible exact sim_program'
    | with_reducible exact sim_load
    | with_reducible exact sim_store
    | with_reducible exact sim_new
    | with_reducible exact sim_shape
    | with_reducible exact sim_choose
    | with_reducible exact sim_askRoom
    | with_reducible exact sim_typeInfo
    | with_reducible exact sim_underlying
    | with_reducible exact sim_zeroValue
    | with_reducible exact sim_sizeOf
    | with_reducible exact sim_isAgg
    | with_reducible exact sim_loadCells
    | with_reducible exact sim_storeCells _ _
    | with_reducible exact sim_loadVar
    | with_reducible exact sim_storeVar
    | with_reducible exact sim_newRow
    | with_reducible exact sim_newVar
    | with_reducible exact sim_elemOf
    | with_reducible exact sim_part
    | with_reducible exact sim_viewAt
    | with_reducible exact sim_numberAt
    | with_reducible exact sim_cellsIn
    | with_reducible exact sim_noView
    | with_reducible exact sim_asBool
    | with_reducible exact sim_asString
    | with_reducible exact sim_asAgg
    | with_reducible exact sim_asIntOf
    | with_reducible exact sim_asInt
    | with_reducible exact sim_asAddr
    | with_reducible exact sim_sameAddr
    | with_reducible exact sim_freeze
    | with_reducible exact sim_markStringish
    | with_reducible exact sim_asNumber
    | with_reducible exact sim_behindNumber
    | with_reducible exact sim_byteOf
    | with_reducible exact sim_partAt
    | with_reducible exact sim_fieldPlace
    | with_reducible exact sim_boundsPanic
    | with_reducible exact sim_intArith
    | with_reducible exact sim_intDiv
    | with_reducible exact sim_intBits
    | with_reducible exact sim_shift
    | with_reducible exact sim_intCmp
    | with_reducible exact sim_stringOp
    | with_reducible exact sim_floatArith
    | with_reducible exact sim_floatCmp
    | with_reducible exact sim_floatToFloat
    | with_reducible exact sim_carith
    | with_reducible exact sim_ccmp
    | with_reducible exact sim_cconv
    | with_reducible exact sim_cadd
    | with_reducible exact sim_csub
    | with_reducible exact sim_cmul
    | with_reducible exact sim_cquo
    | with_reducible exact sim_cproduct
    | with_reducible exact sim_ccorrected
    | with_reducible exact sim_cquotient
    | with_reducible exact sim_complexOp
    | with_reducible exact sim_unary
    | with_reducible exact sim_samePointer
    | with_reducible exact sim_typeStr
    | with_reducible exact sim_equalIn _ _ _ _
    | with_reducible refine Sim.bind (N := fun _ => True) ?_ fun _ _ => ?_
    | with_reducible refine sim_map ?_
    | with_reducible refine sim_forInA (fun _ _ => ?_) _ _
    | with_reducible refine sim_forInR (fun _ _ => ?_) _ _
    | with_reducible refine sim_mapA (fun _ => ?_) _
    | with_reducible refine sim_foldL (fun _ _ => ?_) _ _
    | split
    | dsimp only

theorem sim_eqGuardIn : ∀ (d : Nat) (t : TypeId) (x y : Value), Sim P S (fun _ => True) (Op.eqGuardIn d t x y)
  | 0, _, _, _ => by unfold Op.eqGuardIn; exact sim_unsupported
  | d + 1, t, x, y => by
    unfold Op.eqGuardIn
    repeat' first
      | with_reducible exact Sim.pure trivial
      | with_reducible exact sim_stuck
      | with_reducible exact sim_unsupported
      | with_reducible exact sim_panic
      | with_reducible exact sim_runtimePanic
      | with_reducible exact sim_eqGuardIn d _ _ _
      | with_reducible exact sim_getObj'
      | with_reducible exact sim_setObj (hS _)
      | with_reducible exact sim_program'
      | with_reducible exact sim_load
      | with_reducible exact sim_store
      | with_reducible exact sim_new
      | with_reducible exact sim_shape
      | with_reducible exact sim_choose
      | with_reducible exact sim_askRoom
      | with_reducible exact sim_typeInfo
      | with_reducible exact sim_underlying
      | with_reducible exact sim_zeroValue
      | with_reducible exact sim_sizeOf
      | with_reducible exact sim_isAgg
      | with_reducible exact sim_loadCells
      | with_reducible exact sim_storeCells _ _
      | with_reducible exact sim_loadVar
      | with_reducible exact sim_storeVar
      | with_reducible exact sim_newRow
      | with_reducible exact sim_newVar
      | with_reducible exact sim_elemOf
      | with_reducible exact sim_part
      | with_reducible exact sim_viewAt
      | with_reducible exact sim_numberAt
      | with_reducible exact sim_cellsIn
      | with_reducible exact sim_noView
      | with_reducible exact sim_asBool
      | with_reducible exact sim_asString
      | with_reducible exact sim_asAgg
      | with_reducible exact sim_asIntOf
      | with_reducible exact sim_asInt
      | with_reducible exact sim_asAddr
      | with_reducible exact sim_sameAddr
      | with_reducible exact sim_freeze
      | with_reducible exact sim_markStringish
      | with_reducible exact sim_asNumber
      | with_reducible exact sim_behindNumber
      | with_reducible exact sim_byteOf
      | with_reducible exact sim_partAt
      | with_reducible exact sim_fieldPlace
      | with_reducible exact sim_boundsPanic
      | with_reducible exact sim_intArith
      | with_reducible exact sim_intDiv
      | with_reducible exact sim_intBits
      | with_reducible exact sim_shift
      | with_reducible exact sim_intCmp
      | with_reducible exact sim_stringOp
      | with_reducible exact sim_floatArith
      | with_reducible exact sim_floatCmp
      | with_reducible exact sim_floatToFloat
      | with_reducible exact sim_carith
      | with_reducible exact sim_ccmp
      | with_reducible exact sim_cconv
      | with_reducible exact sim_cadd
      | with_reducible exact sim_csub
      | with_reducible exact sim_cmul
      | with_reducible exact sim_cquo
      | with_reducible exact sim_cproduct
      | with_reducible exact sim_ccorrected
      | with_reducible exact sim_cquotient
      | with_reducible exact sim_complexOp
      | with_reducible exact sim_unary
      | with_reducible exact sim_samePointer
      | with_reducible exact sim_typeStr
      | with_reducible exact sim_equalIn _ _ _ _
      | with_reducible exact sim_equal
      | with_reducible refine Sim.bind (N := fun _ => True) ?_ fun _ _ => ?_
      | with_reducible refine sim_map ?_
      | with_reducible refine sim_forInA (fun _ _ => ?_) _ _
      | with_reducible refine sim_forInR (fun _ _ => ?_) _ _
      | with_reducible refine sim_mapA (fun _ => ?_) _
      | with_reducible refine sim_foldL (fun _ _ => ?_) _ _
      | split
      | dsimp only

theorem sim_eqGuard {op : BinOp} {t : TypeId} {x y : Operand} {a b : Value} : Sim P S (fun _ => True) (eqGuard op t x y a b) := by
  unfold eqGuard
  repeat' first
    | with_reducible exact Sim.pure trivial
    | with_reducible exact sim_stuck
    | with_reducible exact sim_unsupported
    | with_reducible exact sim_panic
    | with_reducible exact sim_runtimePanic
    | with_reducible exact sim_getObj'
    | with_reducible exact sim_setObj (hS _)
    | with_reducible exact sim_program'
    | with_reducible exact sim_load
    | with_reducible exact sim_store
    | with_reducible exact sim_new
    | with_reducible exact sim_shape
    | with_reducible exact sim_choose
    | with_reducible exact sim_askRoom
    | with_reducible exact sim_typeInfo
    | with_reducible exact sim_underlying
    | with_reducible exact sim_zeroValue
    | with_reducible exact sim_sizeOf
    | with_reducible exact sim_isAgg
    | with_reducible exact sim_loadCells
    | with_reducible exact sim_storeCells _ _
    | with_reducible exact sim_loadVar
    | with_reducible exact sim_storeVar
    | with_reducible exact sim_newRow
    | with_reducible exact sim_newVar
    | with_reducible exact sim_elemOf
    | with_reducible exact sim_part
    | with_reducible exact sim_viewAt
    | with_reducible exact sim_numberAt
    | with_reducible exact sim_cellsIn
    | with_reducible exact sim_noView
    | with_reducible exact sim_asBool
    | with_reducible exact sim_asString
    | with_reducible exact sim_asAgg
    | with_reducible exact sim_asIntOf
    | with_reducible exact sim_asInt
    | with_reducible exact sim_asAddr
    | with_reducible exact sim_sameAddr
    | with_reducible exact sim_freeze
    | with_reducible exact sim_markStringish
    | with_reducible exact sim_asNumber
    | with_reducible exact sim_behindNumber
    | with_reducible exact sim_byteOf
    | with_reducible exact sim_partAt
    | with_reducible exact sim_fieldPlace
    | with_reducible exact sim_boundsPanic
    | with_reducible exact sim_intArith
    | with_reducible exact sim_intDiv
    | with_reducible exact sim_intBits
    | with_reducible exact sim_shift
    | with_reducible exact sim_intCmp
    | with_reducible exact sim_stringOp
    | with_reducible exact sim_floatArith
    | with_reducible exact sim_floatCmp
    | with_reducible exact sim_floatToFloat
    | with_reducible exact sim_carith
    | with_reducible exact sim_ccmp
    | with_reducible exact sim_cconv
    | with_reducible exact sim_cadd
    | with_reducible exact sim_csub
    | with_reducible exact sim_cmul
    | with_reducible exact sim_cquo
    | with_reducible exact sim_cproduct
    | with_reducible exact sim_ccorrected
    | with_reducible exact sim_cquotient
    | with_reducible exact sim_complexOp
    | with_reducible exact sim_unary
    | with_reducible exact sim_samePointer
    | with_reducible exact sim_typeStr
    | with_reducible exact sim_equalIn _ _ _ _
    | with_reducible exact sim_equal
    | with_reducible exact sim_eqGuardIn _ _ _ _
    | with_reducible refine Sim.bind (N := fun _ => True) ?_ fun _ _ => ?_
    | with_reducible refine sim_map ?_
    | with_reducible refine sim_forInA (fun _ _ => ?_) _ _
    | with_reducible refine sim_forInR (fun _ _ => ?_) _ _
    | with_reducible refine sim_mapA (fun _ => ?_) _
    | with_reducible refine sim_foldL (fun _ _ => ?_) _ _
    | split
    | dsimp only

theorem sim_unsafeAdd {ts : Array TypeId} {t : TypeId} {a : Array Value} : Sim P S (fun _ => True) (Builtin.unsafeAdd_ ts t a) := by
  unfold Builtin.unsafeAdd_
  rcases a with ⟨_ | ⟨a1, _ | ⟨a2, _ | ⟨a3, l⟩⟩⟩⟩
  · exact sim_stuck
  · exact sim_stuck
  rotate_left
  · exact sim_stuck
  cases a1 <;> try exact sim_stuck
  refine Sim.bind (s := asInt a2) (N := fun _ => True) sim_asInt fun n _ => ?_
  repeat' first
    | with_reducible exact Sim.pure trivial
    | with_reducible exact sim_stuck
    | with_reducible exact sim_unsupported
    | with_reducible exact sim_panic
    | with_reducible exact sim_runtimePanic
    | with_reducible exact sim_getObj'
    | with_reducible exact sim_setObj (hS _)
    | with_reducible exact sim_program'
    | with_reducible exact sim_load
    | with_reducible exact sim_store
    | with_reducible exact sim_new
    | with_reducible exact sim_shape
    | with_reducible exact sim_choose
    | with_reducible exact sim_askRoom
    | with_reducible exact sim_typeInfo
    | with_reducible exact sim_underlying
    | with_reducible exact sim_zeroValue
    | with_reducible exact sim_sizeOf
    | with_reducible exact sim_isAgg
    | with_reducible exact sim_loadCells
    | with_reducible exact sim_storeCells _ _
    | with_reducible exact sim_loadVar
    | with_reducible exact sim_storeVar
    | with_reducible exact sim_newRow
    | with_reducible exact sim_newVar
    | with_reducible exact sim_elemOf
    | with_reducible exact sim_part
    | with_reducible exact sim_viewAt
    | with_reducible exact sim_numberAt
    | with_reducible exact sim_cellsIn
    | with_reducible exact sim_noView
    | with_reducible exact sim_asBool
    | with_reducible exact sim_asString
    | with_reducible exact sim_asAgg
    | with_reducible exact sim_asIntOf
    | with_reducible exact sim_asInt
    | with_reducible exact sim_asAddr
    | with_reducible exact sim_sameAddr
    | with_reducible exact sim_freeze
    | with_reducible exact sim_markStringish
    | with_reducible exact sim_asNumber
    | with_reducible exact sim_behindNumber
    | with_reducible exact sim_byteOf
    | with_reducible exact sim_partAt
    | with_reducible exact sim_fieldPlace
    | with_reducible exact sim_boundsPanic
    | with_reducible exact sim_intArith
    | with_reducible exact sim_intDiv
    | with_reducible exact sim_intBits
    | with_reducible exact sim_shift
    | with_reducible exact sim_intCmp
    | with_reducible exact sim_stringOp
    | with_reducible exact sim_floatArith
    | with_reducible exact sim_floatCmp
    | with_reducible exact sim_floatToFloat
    | with_reducible exact sim_carith
    | with_reducible exact sim_ccmp
    | with_reducible exact sim_cconv
    | with_reducible exact sim_cadd
    | with_reducible exact sim_csub
    | with_reducible exact sim_cmul
    | with_reducible exact sim_cquo
    | with_reducible exact sim_cproduct
    | with_reducible exact sim_ccorrected
    | with_reducible exact sim_cquotient
    | with_reducible exact sim_complexOp
    | with_reducible exact sim_unary
    | with_reducible exact sim_samePointer
    | with_reducible exact sim_typeStr
    | with_reducible exact sim_equalIn _ _ _ _
    | with_reducible exact sim_equal
    | with_reducible exact sim_eqGuardIn _ _ _ _
    | with_reducible exact sim_eqGuard
    | with_reducible refine Sim.bind (N := fun _ => True) ?_ fun _ _ => ?_
    | with_reducible refine sim_map ?_
    | with_reducible refine sim_forInA (fun _ _ => ?_) _ _
    | with_reducible refine sim_forInR (fun _ _ => ?_) _ _
    | with_reducible refine sim_mapA (fun _ => ?_) _
    | with_reducible refine sim_foldL (fun _ _ => ?_) _ _
    | split
    | dsimp only

theorem sim_movedNumber {t : TypeId} {x y : Value} : Sim P S (fun _ => True) (movedNumber t x y) := by
  unfold movedNumber
  repeat' first
    | with_reducible exact Sim.pure trivial
    | with_reducible exact sim_stuck
    | with_reducible exact sim_unsupported
    | with_reducible exact sim_panic
    | with_reducible exact sim_runtimePanic
    | with_reducible exact sim_getObj'
    | with_reducible exact sim_setObj (hS _)
    | with_reducible exact sim_program'
    | with_reducible exact sim_load
    | with_reducible exact sim_store
    | with_reducible exact sim_new
    | with_reducible exact sim_shape
    | with_reducible exact sim_choose
    | with_reducible exact sim_askRoom
    | with_reducible exact sim_typeInfo
    | with_reducible exact sim_underlying
    | with_reducible exact sim_zeroValue
    | with_reducible exact sim_sizeOf
    | with_reducible exact sim_isAgg
    | with_reducible exact sim_loadCells
    | with_reducible exact sim_storeCells _ _
    | with_reducible exact sim_loadVar
    | with_reducible exact sim_storeVar
    | with_reducible exact sim_newRow
    | with_reducible exact sim_newVar
    | with_reducible exact sim_elemOf
    | with_reducible exact sim_part
    | with_reducible exact sim_viewAt
    | with_reducible exact sim_numberAt
    | with_reducible exact sim_cellsIn
    | with_reducible exact sim_noView
    | with_reducible exact sim_asBool
    | with_reducible exact sim_asString
    | with_reducible exact sim_asAgg
    | with_reducible exact sim_asIntOf
    | with_reducible exact sim_asInt
    | with_reducible exact sim_asAddr
    | with_reducible exact sim_sameAddr
    | with_reducible exact sim_freeze
    | with_reducible exact sim_markStringish
    | with_reducible exact sim_asNumber
    | with_reducible exact sim_behindNumber
    | with_reducible exact sim_byteOf
    | with_reducible exact sim_partAt
    | with_reducible exact sim_fieldPlace
    | with_reducible exact sim_boundsPanic
    | with_reducible exact sim_intArith
    | with_reducible exact sim_intDiv
    | with_reducible exact sim_intBits
    | with_reducible exact sim_shift
    | with_reducible exact sim_intCmp
    | with_reducible exact sim_stringOp
    | with_reducible exact sim_floatArith
    | with_reducible exact sim_floatCmp
    | with_reducible exact sim_floatToFloat
    | with_reducible exact sim_carith
    | with_reducible exact sim_ccmp
    | with_reducible exact sim_cconv
    | with_reducible exact sim_cadd
    | with_reducible exact sim_csub
    | with_reducible exact sim_cmul
    | with_reducible exact sim_cquo
    | with_reducible exact sim_cproduct
    | with_reducible exact sim_ccorrected
    | with_reducible exact sim_cquotient
    | with_reducible exact sim_complexOp
    | with_reducible exact sim_unary
    | with_reducible exact sim_samePointer
    | with_reducible exact sim_typeStr
    | with_reducible exact sim_equalIn _ _ _ _
    | with_reducible exact sim_equal
    | with_reducible exact sim_eqGuardIn _ _ _ _
    | with_reducible exact sim_eqGuard
    | with_reducible exact sim_unsafeAdd
    | with_reducible refine Sim.bind (N := fun _ => True) ?_ fun _ _ => ?_
    | with_reducible refine sim_map ?_
    | with_reducible refine sim_forInA (fun _ _ => ?_) _ _
    | with_reducible refine sim_forInR (fun _ _ => ?_) _ _
    | with_reducible refine sim_mapA (fun _ => ?_) _
    | with_reducible refine sim_foldL (fun _ _ => ?_) _ _
    | split
    | dsimp only

theorem sim_movedPointer {t : TypeId} {x y : Value} : Sim P S (fun _ => True) (movedPointer t x y) := by
  unfold movedPointer
  repeat' first
    | with_reducible exact Sim.pure trivial
    | with_reducible exact sim_stuck
    | with_reducible exact sim_unsupported
    | with_reducible exact sim_panic
    | with_reducible exact sim_runtimePanic
    | with_reducible exact sim_getObj'
    | with_reducible exact sim_setObj (hS _)
    | with_reducible exact sim_program'
    | with_reducible exact sim_load
    | with_reducible exact sim_store
    | with_reducible exact sim_new
    | with_reducible exact sim_shape
    | with_reducible exact sim_choose
    | with_reducible exact sim_askRoom
    | with_reducible exact sim_typeInfo
    | with_reducible exact sim_underlying
    | with_reducible exact sim_zeroValue
    | with_reducible exact sim_sizeOf
    | with_reducible exact sim_isAgg
    | with_reducible exact sim_loadCells
    | with_reducible exact sim_storeCells _ _
    | with_reducible exact sim_loadVar
    | with_reducible exact sim_storeVar
    | with_reducible exact sim_newRow
    | with_reducible exact sim_newVar
    | with_reducible exact sim_elemOf
    | with_reducible exact sim_part
    | with_reducible exact sim_viewAt
    | with_reducible exact sim_numberAt
    | with_reducible exact sim_cellsIn
    | with_reducible exact sim_noView
    | with_reducible exact sim_asBool
    | with_reducible exact sim_asString
    | with_reducible exact sim_asAgg
    | with_reducible exact sim_asIntOf
    | with_reducible exact sim_asInt
    | with_reducible exact sim_asAddr
    | with_reducible exact sim_sameAddr
    | with_reducible exact sim_freeze
    | with_reducible exact sim_markStringish
    | with_reducible exact sim_asNumber
    | with_reducible exact sim_behindNumber
    | with_reducible exact sim_byteOf
    | with_reducible exact sim_partAt
    | with_reducible exact sim_fieldPlace
    | with_reducible exact sim_boundsPanic
    | with_reducible exact sim_intArith
    | with_reducible exact sim_intDiv
    | with_reducible exact sim_intBits
    | with_reducible exact sim_shift
    | with_reducible exact sim_intCmp
    | with_reducible exact sim_stringOp
    | with_reducible exact sim_floatArith
    | with_reducible exact sim_floatCmp
    | with_reducible exact sim_floatToFloat
    | with_reducible exact sim_carith
    | with_reducible exact sim_ccmp
    | with_reducible exact sim_cconv
    | with_reducible exact sim_cadd
    | with_reducible exact sim_csub
    | with_reducible exact sim_cmul
    | with_reducible exact sim_cquo
    | with_reducible exact sim_cproduct
    | with_reducible exact sim_ccorrected
    | with_reducible exact sim_cquotient
    | with_reducible exact sim_complexOp
    | with_reducible exact sim_unary
    | with_reducible exact sim_samePointer
    | with_reducible exact sim_typeStr
    | with_reducible exact sim_equalIn _ _ _ _
    | with_reducible exact sim_equal
    | with_reducible exact sim_eqGuardIn _ _ _ _
    | with_reducible exact sim_eqGuard
    | with_reducible exact sim_unsafeAdd
    | with_reducible exact sim_movedNumber
    | with_reducible refine Sim.bind (N := fun _ => True) ?_ fun _ _ => ?_
    | with_reducible refine sim_map ?_
    | with_reducible refine sim_forInA (fun _ _ => ?_) _ _
    | with_reducible refine sim_forInR (fun _ _ => ?_) _ _
    | with_reducible refine sim_mapA (fun _ => ?_) _
    | with_reducible refine sim_foldL (fun _ _ => ?_) _ _
    | split
    | dsimp only

theorem sim_twoPlaces {a b : Addr} : Sim P S (fun _ => True) (Op.twoPlaces a b) := by
  unfold Op.twoPlaces
  repeat' first
    | with_reducible exact Sim.pure trivial
    | with_reducible exact sim_stuck
    | with_reducible exact sim_unsupported
    | with_reducible exact sim_panic
    | with_reducible exact sim_runtimePanic
    | with_reducible exact sim_getObj'
    | with_reducible exact sim_setObj (hS _)
    | with_reducible exact sim_program'
    | with_reducible exact sim_load
    | with_reducible exact sim_store
    | with_reducible exact sim_new
    | with_reducible exact sim_shape
    | with_reducible exact sim_choose
    | with_reducible exact sim_askRoom
    | with_reducible exact sim_typeInfo
    | with_reducible exact sim_underlying
    | with_reducible exact sim_zeroValue
    | with_reducible exact sim_sizeOf
    | with_reducible exact sim_isAgg
    | with_reducible exact sim_loadCells
    | with_reducible exact sim_storeCells _ _
    | with_reducible exact sim_loadVar
    | with_reducible exact sim_storeVar
    | with_reducible exact sim_newRow
    | with_reducible exact sim_newVar
    | with_reducible exact sim_elemOf
    | with_reducible exact sim_part
    | with_reducible exact sim_viewAt
    | with_reducible exact sim_numberAt
    | with_reducible exact sim_cellsIn
    | with_reducible exact sim_noView
    | with_reducible exact sim_asBool
    | with_reducible exact sim_asString
    | with_reducible exact sim_asAgg
    | with_reducible exact sim_asIntOf
    | with_reducible exact sim_asInt
    | with_reducible exact sim_asAddr
    | with_reducible exact sim_sameAddr
    | with_reducible exact sim_freeze
    | with_reducible exact sim_markStringish
    | with_reducible exact sim_asNumber
    | with_reducible exact sim_behindNumber
    | with_reducible exact sim_byteOf
    | with_reducible exact sim_partAt
    | with_reducible exact sim_fieldPlace
    | with_reducible exact sim_boundsPanic
    | with_reducible exact sim_intArith
    | with_reducible exact sim_intDiv
    | with_reducible exact sim_intBits
    | with_reducible exact sim_shift
    | with_reducible exact sim_intCmp
    | with_reducible exact sim_stringOp
    | with_reducible exact sim_floatArith
    | with_reducible exact sim_floatCmp
    | with_reducible exact sim_floatToFloat
    | with_reducible exact sim_carith
    | with_reducible exact sim_ccmp
    | with_reducible exact sim_cconv
    | with_reducible exact sim_cadd
    | with_reducible exact sim_csub
    | with_reducible exact sim_cmul
    | with_reducible exact sim_cquo
    | with_reducible exact sim_cproduct
    | with_reducible exact sim_ccorrected
    | with_reducible exact sim_cquotient
    | with_reducible exact sim_complexOp
    | with_reducible exact sim_unary
    | with_reducible exact sim_samePointer
    | with_reducible exact sim_typeStr
    | with_reducible exact sim_equalIn _ _ _ _
    | with_reducible exact sim_equal
    | with_reducible exact sim_eqGuardIn _ _ _ _
    | with_reducible exact sim_eqGuard
    | with_reducible exact sim_unsafeAdd
    | with_reducible exact sim_movedNumber
    | with_reducible exact sim_movedPointer
    | with_reducible refine Sim.bind (N := fun _ => True) ?_ fun _ _ => ?_
    | with_reducible refine sim_map ?_
    | with_reducible refine sim_forInA (fun _ _ => ?_) _ _
    | with_reducible refine sim_forInR (fun _ _ => ?_) _ _
    | with_reducible refine sim_mapA (fun _ => ?_) _
    | with_reducible refine sim_foldL (fun _ _ => ?_) _ _
    | split
    | dsimp only

theorem sim_addrSub {k : IntKind} {a b : Addr} : Sim P S (fun _ => True) (Op.addrSub k a b) := by
  unfold Op.addrSub
  repeat' first
    | with_reducible exact Sim.pure trivial
    | with_reducible exact sim_stuck
    | with_reducible exact sim_unsupported
    | with_reducible exact sim_panic
    | with_reducible exact sim_runtimePanic
    | with_reducible exact sim_getObj'
    | with_reducible exact sim_setObj (hS _)
    | with_reducible exact sim_program'
    | with_reducible exact sim_load
    | with_reducible exact sim_store
    | with_reducible exact sim_new
    | with_reducible exact sim_shape
    | with_reducible exact sim_choose
    | with_reducible exact sim_askRoom
    | with_reducible exact sim_typeInfo
    | with_reducible exact sim_underlying
    | with_reducible exact sim_zeroValue
    | with_reducible exact sim_sizeOf
    | with_reducible exact sim_isAgg
    | with_reducible exact sim_loadCells
    | with_reducible exact sim_storeCells _ _
    | with_reducible exact sim_loadVar
    | with_reducible exact sim_storeVar
    | with_reducible exact sim_newRow
    | with_reducible exact sim_newVar
    | with_reducible exact sim_elemOf
    | with_reducible exact sim_part
    | with_reducible exact sim_viewAt
    | with_reducible exact sim_numberAt
    | with_reducible exact sim_cellsIn
    | with_reducible exact sim_noView
    | with_reducible exact sim_asBool
    | with_reducible exact sim_asString
    | with_reducible exact sim_asAgg
    | with_reducible exact sim_asIntOf
    | with_reducible exact sim_asInt
    | with_reducible exact sim_asAddr
    | with_reducible exact sim_sameAddr
    | with_reducible exact sim_freeze
    | with_reducible exact sim_markStringish
    | with_reducible exact sim_asNumber
    | with_reducible exact sim_behindNumber
    | with_reducible exact sim_byteOf
    | with_reducible exact sim_partAt
    | with_reducible exact sim_fieldPlace
    | with_reducible exact sim_boundsPanic
    | with_reducible exact sim_intArith
    | with_reducible exact sim_intDiv
    | with_reducible exact sim_intBits
    | with_reducible exact sim_shift
    | with_reducible exact sim_intCmp
    | with_reducible exact sim_stringOp
    | with_reducible exact sim_floatArith
    | with_reducible exact sim_floatCmp
    | with_reducible exact sim_floatToFloat
    | with_reducible exact sim_carith
    | with_reducible exact sim_ccmp
    | with_reducible exact sim_cconv
    | with_reducible exact sim_cadd
    | with_reducible exact sim_csub
    | with_reducible exact sim_cmul
    | with_reducible exact sim_cquo
    | with_reducible exact sim_cproduct
    | with_reducible exact sim_ccorrected
    | with_reducible exact sim_cquotient
    | with_reducible exact sim_complexOp
    | with_reducible exact sim_unary
    | with_reducible exact sim_samePointer
    | with_reducible exact sim_typeStr
    | with_reducible exact sim_equalIn _ _ _ _
    | with_reducible exact sim_equal
    | with_reducible exact sim_eqGuardIn _ _ _ _
    | with_reducible exact sim_eqGuard
    | with_reducible exact sim_unsafeAdd
    | with_reducible exact sim_movedNumber
    | with_reducible exact sim_movedPointer
    | with_reducible exact sim_twoPlaces
    | with_reducible refine Sim.bind (N := fun _ => True) ?_ fun _ _ => ?_
    | with_reducible refine sim_map ?_
    | with_reducible refine sim_forInA (fun _ _ => ?_) _ _
    | with_reducible refine sim_forInR (fun _ _ => ?_) _ _
    | with_reducible refine sim_mapA (fun _ => ?_) _
    | with_reducible refine sim_foldL (fun _ _ => ?_) _ _
    | split
    | dsimp only

theorem sim_addrCmp {op : BinOp} {a b : Addr} : Sim P S (fun _ => True) (Op.addrCmp op a b) := by
  unfold Op.addrCmp
  repeat' first
    | with_reducible exact Sim.pure trivial
    | with_reducible exact sim_stuck
    | with_reducible exact sim_unsupported
    | with_reducible exact sim_panic
    | with_reducible exact sim_runtimePanic
    | with_reducible exact sim_getObj'
    | with_reducible exact sim_setObj (hS _)
    | with_reducible exact sim_program'
    | with_reducible exact sim_load
    | with_reducible exact sim_store
    | with_reducible exact sim_new
    | with_reducible exact sim_shape
    | with_reducible exact sim_choose
    | with_reducible exact sim_askRoom
    | with_reducible exact sim_typeInfo
    | with_reducible exact sim_underlying
    | with_reducible exact sim_zeroValue
    | with_reducible exact sim_sizeOf
    | with_reducible exact sim_isAgg
    | with_reducible exact sim_loadCells
    | with_reducible exact sim_storeCells _ _
    | with_reducible exact sim_loadVar
    | with_reducible exact sim_storeVar
    | with_reducible exact sim_newRow
    | with_reducible exact sim_newVar
    | with_reducible exact sim_elemOf
    | with_reducible exact sim_part
    | with_reducible exact sim_viewAt
    | with_reducible exact sim_numberAt
    | with_reducible exact sim_cellsIn
    | with_reducible exact sim_noView
    | with_reducible exact sim_asBool
    | with_reducible exact sim_asString
    | with_reducible exact sim_asAgg
    | with_reducible exact sim_asIntOf
    | with_reducible exact sim_asInt
    | with_reducible exact sim_asAddr
    | with_reducible exact sim_sameAddr
    | with_reducible exact sim_freeze
    | with_reducible exact sim_markStringish
    | with_reducible exact sim_asNumber
    | with_reducible exact sim_behindNumber
    | with_reducible exact sim_byteOf
    | with_reducible exact sim_partAt
    | with_reducible exact sim_fieldPlace
    | with_reducible exact sim_boundsPanic
    | with_reducible exact sim_intArith
    | with_reducible exact sim_intDiv
    | with_reducible exact sim_intBits
    | with_reducible exact sim_shift
    | with_reducible exact sim_intCmp
    | with_reducible exact sim_stringOp
    | with_reducible exact sim_floatArith
    | with_reducible exact sim_floatCmp
    | with_reducible exact sim_floatToFloat
    | with_reducible exact sim_carith
    | with_reducible exact sim_ccmp
    | with_reducible exact sim_cconv
    | with_reducible exact sim_cadd
    | with_reducible exact sim_csub
    | with_reducible exact sim_cmul
    | with_reducible exact sim_cquo
    | with_reducible exact sim_cproduct
    | with_reducible exact sim_ccorrected
    | with_reducible exact sim_cquotient
    | with_reducible exact sim_complexOp
    | with_reducible exact sim_unary
    | with_reducible exact sim_samePointer
    | with_reducible exact sim_typeStr
    | with_reducible exact sim_equalIn _ _ _ _
    | with_reducible exact sim_equal
    | with_reducible exact sim_eqGuardIn _ _ _ _
    | with_reducible exact sim_eqGuard
    | with_reducible exact sim_unsafeAdd
    | with_reducible exact sim_movedNumber
    | with_reducible exact sim_movedPointer
    | with_reducible exact sim_twoPlaces
    | with_reducible exact sim_addrSub
    | with_reducible refine Sim.bind (N := fun _ => True) ?_ fun _ _ => ?_
    | with_reducible refine sim_map ?_
    | with_reducible refine sim_forInA (fun _ _ => ?_) _ _
    | with_reducible refine sim_forInR (fun _ _ => ?_) _ _
    | with_reducible refine sim_mapA (fun _ => ?_) _
    | with_reducible refine sim_foldL (fun _ _ => ?_) _ _
    | split
    | dsimp only

theorem sim_addrMod {k : IntKind} {a : Addr} {n : Int} : Sim P S (fun _ => True) (Op.addrMod k a n) := by
  unfold Op.addrMod
  repeat' first
    | with_reducible exact Sim.pure trivial
    | with_reducible exact sim_stuck
    | with_reducible exact sim_unsupported
    | with_reducible exact sim_panic
    | with_reducible exact sim_runtimePanic
    | with_reducible exact sim_getObj'
    | with_reducible exact sim_setObj (hS _)
    | with_reducible exact sim_program'
    | with_reducible exact sim_load
    | with_reducible exact sim_store
    | with_reducible exact sim_new
    | with_reducible exact sim_shape
    | with_reducible exact sim_choose
    | with_reducible exact sim_askRoom
    | with_reducible exact sim_typeInfo
    | with_reducible exact sim_underlying
    | with_reducible exact sim_zeroValue
    | with_reducible exact sim_sizeOf
    | with_reducible exact sim_isAgg
    | with_reducible exact sim_loadCells
    | with_reducible exact sim_storeCells _ _
    | with_reducible exact sim_loadVar
    | with_reducible exact sim_storeVar
    | with_reducible exact sim_newRow
    | with_reducible exact sim_newVar
    | with_reducible exact sim_elemOf
    | with_reducible exact sim_part
    | with_reducible exact sim_viewAt
    | with_reducible exact sim_numberAt
    | with_reducible exact sim_cellsIn
    | with_reducible exact sim_noView
    | with_reducible exact sim_asBool
    | with_reducible exact sim_asString
    | with_reducible exact sim_asAgg
    | with_reducible exact sim_asIntOf
    | with_reducible exact sim_asInt
    | with_reducible exact sim_asAddr
    | with_reducible exact sim_sameAddr
    | with_reducible exact sim_freeze
    | with_reducible exact sim_markStringish
    | with_reducible exact sim_asNumber
    | with_reducible exact sim_behindNumber
    | with_reducible exact sim_byteOf
    | with_reducible exact sim_partAt
    | with_reducible exact sim_fieldPlace
    | with_reducible exact sim_boundsPanic
    | with_reducible exact sim_intArith
    | with_reducible exact sim_intDiv
    | with_reducible exact sim_intBits
    | with_reducible exact sim_shift
    | with_reducible exact sim_intCmp
    | with_reducible exact sim_stringOp
    | with_reducible exact sim_floatArith
    | with_reducible exact sim_floatCmp
    | with_reducible exact sim_floatToFloat
    | with_reducible exact sim_carith
    | with_reducible exact sim_ccmp
    | with_reducible exact sim_cconv
    | with_reducible exact sim_cadd
    | with_reducible exact sim_csub
    | with_reducible exact sim_cmul
    | with_reducible exact sim_cquo
    | with_reducible exact sim_cproduct
    | with_reducible exact sim_ccorrected
    | with_reducible exact sim_cquotient
    | with_reducible exact sim_complexOp
    | with_reducible exact sim_unary
    | with_reducible exact sim_samePointer
    | with_reducible exact sim_typeStr
    | with_reducible exact sim_equalIn _ _ _ _
    | with_reducible exact sim_equal
    | with_reducible exact sim_eqGuardIn _ _ _ _
    | with_reducible exact sim_eqGuard
    | with_reducible exact sim_unsafeAdd
    | with_reducible exact sim_movedNumber
    | with_reducible exact sim_movedPointer
    | with_reducible exact sim_twoPlaces
    | with_reducible exact sim_addrSub
    | with_reducible exact sim_addrCmp
    | with_reducible refine Sim.bind (N := fun _ => True) ?_ fun _ _ => ?_
    | with_reducible refine sim_map ?_
    | with_reducible refine sim_forInA (fun _ _ => ?_) _ _
    | with_reducible refine sim_forInR (fun _ _ => ?_) _ _
    | with_reducible refine sim_mapA (fun _ => ?_) _
    | with_reducible refine sim_foldL (fun _ _ => ?_) _ _
    | split
    | dsimp only

theorem sim_binOp {op : BinOp} {t : TypeId} {x y : Value} : Sim P S (fun _ => True) (binOp op t x y) := by
  unfold binOp
  repeat' first
    | with_reducible exact Sim.pure trivial
    | with_reducible exact sim_stuck
    | with_reducible exact sim_unsupported
    | with_reducible exact sim_panic
    | with_reducible exact sim_runtimePanic
    | with_reducible exact sim_getObj'
    | with_reducible exact sim_setObj (hS _)
    | with_reducible exact sim_program'
    | with_reducible exact sim_load
    | with_reducible exact sim_store
    | with_reducible exact sim_new
    | with_reducible exact sim_shape
    | with_reducible exact sim_choose
    | with_reducible exact sim_askRoom
    | with_reducible exact sim_typeInfo
    | with_reducible exact sim_underlying
    | with_reducible exact sim_zeroValue
    | with_reducible exact sim_sizeOf
    | with_reducible exact sim_isAgg
    | with_reducible exact sim_loadCells
    | with_reducible exact sim_storeCells _ _
    | with_reducible exact sim_loadVar
    | with_reducible exact sim_storeVar
    | with_reducible exact sim_newRow
    | with_reducible exact sim_newVar
    | with_reducible exact sim_elemOf
    | with_reducible exact sim_part
    | with_reducible exact sim_viewAt
    | with_reducible exact sim_numberAt
    | with_reducible exact sim_cellsIn
    | with_reducible exact sim_noView
    | with_reducible exact sim_asBool
    | with_reducible exact sim_asString
    | with_reducible exact sim_asAgg
    | with_reducible exact sim_asIntOf
    | with_reducible exact sim_asInt
    | with_reducible exact sim_asAddr
    | with_reducible exact sim_sameAddr
    | with_reducible exact sim_freeze
    | with_reducible exact sim_markStringish
    | with_reducible exact sim_asNumber
    | with_reducible exact sim_behindNumber
    | with_reducible exact sim_byteOf
    | with_reducible exact sim_partAt
    | with_reducible exact sim_fieldPlace
    | with_reducible exact sim_boundsPanic
    | with_reducible exact sim_intArith
    | with_reducible exact sim_intDiv
    | with_reducible exact sim_intBits
    | with_reducible exact sim_shift
    | with_reducible exact sim_intCmp
    | with_reducible exact sim_stringOp
    | with_reducible exact sim_floatArith
    | with_reducible exact sim_floatCmp
    | with_reducible exact sim_floatToFloat
    | with_reducible exact sim_carith
    | with_reducible exact sim_ccmp
    | with_reducible exact sim_cconv
    | with_reducible exact sim_cadd
    | with_reducible exact sim_csub
    | with_reducible exact sim_cmul
    | with_reducible exact sim_cquo
    | with_reducible exact sim_cproduct
    | with_reducible exact sim_ccorrected
    | with_reducible exact sim_cquotient
    | with_reducible exact sim_complexOp
    | with_reducible exact sim_unary
    | with_reducible exact sim_samePointer
    | with_reducible exact sim_typeStr
    | with_reducible exact sim_equalIn _ _ _ _
    | with_reducible exact sim_equal
    | with_reducible exact sim_eqGuardIn _ _ _ _
    | with_reducible exact sim_eqGuard
    | with_reducible exact sim_unsafeAdd
    | with_reducible exact sim_movedNumber
    | with_reducible exact sim_movedPointer
    | with_reducible exact sim_twoPlaces
    | with_reducible exact sim_addrSub
    | with_reducible exact sim_addrCmp
    | with_reducible exact sim_addrMod
    | with_reducible refine Sim.bind (N := fun _ => True) ?_ fun _ _ => ?_
    | with_reducible refine sim_map ?_
    | with_reducible refine sim_forInA (fun _ _ => ?_) _ _
    | with_reducible refine sim_forInR (fun _ _ => ?_) _ _
    | with_reducible refine sim_mapA (fun _ => ?_) _
    | with_reducible refine sim_foldL (fun _ _ => ?_) _ _
    | split
    | dsimp only
end
end Go.Proofs.Ytecmobjiepgfjaa

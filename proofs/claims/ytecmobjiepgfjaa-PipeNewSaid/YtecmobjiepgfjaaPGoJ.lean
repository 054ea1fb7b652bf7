/- An operation of the mild kinds meets itself in a world that is frozen at more places; it ends by a value, by nothing, or by a call of a function of F. -/
import Derived.Test.YtecmobjiepgfjaaPGoO
namespace Go.Proofs.Ytecmobjiepgfjaa
open Go.Conc
set_option linter.unusedSimpArgs false
set_option linter.unusedVariables false
section
variable {P : Program} {S : Prot}
theorem sim_followBlind : ∀ (l : List FieldStep) (t : TypeId) (x : Option Value), Sim P S (fun _ => True) (followBlind l t x)
  | [], _, _ => by unfold followBlind; exact Sim.pure trivial
  | s :: l, t, x => by
    unfold followBlind
    repeat' first
      | with_reducible exact Sim.pure trivial
      | with_reducible exact sim_stuck
      | with_reducible exact sim_followBlind l _ _
      | with_reducible exact sim_underlying
      | with_reducible exact sim_part
      | with_reducible refine Sim.bind (N := fun _ => True) ?_ fun _ _ => ?_
      | split
      | dsimp only
theorem sim_nilAhead : ∀ (n : Nat) (t : TypeId) (x : Value) (s : String), Sim P S (fun _ => True) (nilAhead n t x s)
  | 0, _, _, _ => by unfold nilAhead; exact Sim.pure trivial
  | n + 1, t, x, s => by
    unfold nilAhead
    repeat' first
      | with_reducible exact Sim.pure trivial
      | with_reducible exact sim_stuck
      | with_reducible exact sim_nilAhead n _ _ _
      | with_reducible exact sim_followBlind _ _ _
      | with_reducible exact sim_underlying
      | with_reducible exact sim_typeInfo
      | with_reducible refine Sim.bind (N := fun _ => True) ?_ fun _ _ => ?_
      | split
      | dsimp only
/-- Functions; do they write maps, or step iterators? 'top': functions that stand, of whose text nothing is asked. 'ext': body-less functions that are mild. -/
structure Fns where
  fn : FuncId → Bool
  maps : Bool
  top : FuncId → Bool
  ext : FuncId → Bool
/-- Which built-in functions are mild. -/
def mildB (F : Fns) : Builtin → Bool
  | .append | .cap | .len | .copy | .max | .min => true
  | .delete => F.maps
  | _ => false
/-- Which operations are mild: no communication, no go statement, no deferral, no panic of the text's own, no call of a value but of a function of F by its number. -/
def mild (F : Fns) : Op → Bool
  | .move _ | .assign _ | .pick .. | .alloc _ | .box .. | .build .. | .buildSlice .. | .load .. | .store .. | .nilCheck _ | .binOp .. | .unOp .. | .convert .. | .sliceToArrayPointer .. | .makeInterface .. | .makeFunc ..
  | .makeMap .. | .makeSlice .. | .slice .. | .fieldAddr .. | .field .. | .indexAddr .. | .index .. | .lookup .. | .range .. | .entry .. | .typeAssert .. | .extract .. | .makeChan .. => true
  | .mapUpdate .. | .insert .. | .mapEntry .. | .entryStore .. | .next .. => F.maps
  | .call { callee := .value (.func f), .. } => F.fn f || F.ext f
  | .call { callee := .builtin b, .. } => mildB F b
  | _ => false
/-- How a mild operation ends. -/
def MildEnd (F : Fns) (r : Next) : Prop := (∃ v, r = .value v) ∨ r = .skip ∨ ∃ f args, r = .enter f args ∧ F.fn f = true
/-- A body-less function that is mild. -/
def MildExt (e : Array Value → Sem Value) : Prop := ∀ P S args, Sim P S (fun _ => True) (e args)
def ExtAt (P : Program) (f : FuncId) : Prop := ∃ fn e, P.funcs[f]? = some fn ∧ (fn.name == "runtime.NumGoroutine") = false ∧ fn.body.isNone = true ∧ Extern.findNext fn = none ∧ Extern.find fn = some e ∧ MildExt e
/-- F's functions stand in the program, with a body. -/
def Stands (P : Program) (F : Fns) : Prop := (∀ f, F.fn f = true → ∃ fn, P.funcs[f]? = some fn ∧ (fn.name == "runtime.NumGoroutine") = false ∧ fn.body.isSome = true) ∧ ∀ f, F.ext f = true → ExtAt P f
theorem sim_v {F : Fns} {s : Sem Value} (h : Sim P S (fun _ => True) s) : Sim P S (MildEnd F) (do pure (.value (← s))) := Sim.bind h fun v _ => Sim.pure (.inl ⟨v, rfl⟩)
theorem sim_u {F : Fns} {s : Sem Unit} (h : Sim P S (fun _ => True) s) : Sim P S (MildEnd F) (do s; pure .skip) := Sim.bind h fun v _ => Sim.pure (.inr (.inl rfl))
theorem sim_callFunc {F : Fns} (hF : Stands P F) {f : FuncId} (hf : F.fn f = true) {args : Array Value} : Sim P S (MildEnd F) (callFunc f args) := by
  obtain ⟨fn, h1, h2, h3⟩ := hF.1 f hf
  unfold callFunc
  refine Sim.bind sim_program fun p hp => ?_
  subst hp
  have h4 : fn.body.isNone = false := by cases h : fn.body <;> simp_all
  simp only [h1, h2, h4, Bool.false_eq_true, if_false]
  exact Sim.pure (.inr (.inr ⟨f, args, rfl, hf⟩))
theorem sim_callExt {F : Fns} {f : FuncId} (hf : ExtAt P f) {args : Array Value} : Sim P S (MildEnd F) (callFunc f args) := by
  obtain ⟨fn, e, h1, h2, h3, h4, h5, h6⟩ := hf
  unfold callFunc
  refine Sim.bind sim_program fun p hp => ?_
  subst hp
  simp only [h1, h2, h3, h4, h5, Bool.false_eq_true, if_false, if_true]
  refine Sim.bind (sim_mark (fun a => ⟨by simp, by simp, by simp, by simp, by simp⟩) (by simp) (by simp)) fun _ _ => ?_
  exact sim_v (h6 _ S args)
theorem sim_execOp {F : Fns} (hF : Stands P F) (hM : F.maps = true → ∀ r, ¬ S.objs r) {ρ : Operand → Value} (hρ : ∀ f, ρ (.func f) = .func (.func f) #[] #[]) {o : Oper} (h : mild F o.op = true) : Sim P S (MildEnd F) (execOp ρ o) := by
  unfold execOp
  cases ho : o.op with
  | move x => exact Sim.pure (.inl ⟨_, rfl⟩)
  | assign x => exact Sim.pure (.inl ⟨_, rfl⟩)
  | pick c a b => exact Sim.bind (N := fun _ => True) sim_asBool fun b _ => Sim.pure (.inl ⟨_, rfl⟩)
  | alloc t => exact sim_v sim_alloc
  | box t x => exact sim_v sim_box
  | build t p => exact sim_v sim_build
  | buildSlice t n p => exact sim_v sim_buildSlice
  | load t a => exact sim_v sim_loadAt
  | store t a v => exact sim_u sim_storeAt
  | binOp b t x y u => exact sim_v (Sim.bind sim_eqGuard fun _ _ => sim_binOp)
  | unOp b t x => exact sim_v sim_unary
  | convert s t x => exact sim_v sim_convert
  | sliceToArrayPointer t x => exact sim_v sim_arrayAt
  | makeInterface t x => exact sim_v sim_makeInterface
  | makeFunc f a b => exact sim_v sim_makeFunc
  | makeMap t r => exact sim_v sim_makeMap
  | makeSlice t l c => exact sim_v sim_makeSlice
  | slice t x l m n => exact sim_v sim_sliceAt
  | fieldAddr t x f => exact sim_v sim_fieldAt
  | field t x f => exact sim_v sim_field
  | indexAddr t x i => exact sim_v sim_indexAt
  | index t x i => exact sim_v sim_index
  | lookup t x i b => exact sim_v sim_lookup
  | mapUpdate t m k v => rw [ho] at h; exact sim_u (sim_mapUpdate (hM h))
  | insert t m k v => rw [ho] at h; exact sim_u (sim_mapUpdate (hM h))
  | mapEntry t m k => rw [ho] at h; exact sim_v (sim_mapEntry (hM h))
  | entryStore t m s v => rw [ho] at h; exact sim_u (sim_entryStore (hM h))
  | range t x => exact sim_v sim_range
  | next i b => rw [ho] at h; exact sim_v (sim_next (hM h))
  | entry i => exact sim_v sim_entry
  | typeAssert x s t b => exact sim_v sim_typeAssert
  | extract t i => exact sim_v sim_extract
  | nilCheck x =>
    dsimp only
    repeat' first
      | (with_reducible refine Sim.pure ?_); exact Or.inl ⟨_, rfl⟩
      | with_reducible exact sim_runtimePanic
      | with_reducible exact sim_unsupported
      | with_reducible exact sim_program'
      | with_reducible exact sim_nilAhead _ _ _ _
      | with_reducible exact Sim.bind sim_program' fun _ _ => sim_nilAhead _ _ _ _
      | with_reducible refine Sim.bind (N := fun _ => True) ?_ fun _ _ => ?_
      | split
  | call c =>
    rw [ho] at h
    obtain ⟨callee, args, ts⟩ := c
    cases callee with
    | builtin b =>
      have hb : mildB F b = true := h
      show Sim P S (MildEnd F) (builtin b ts o.type _ (args.map ρ))
      cases b <;> first | (cases hb; done) | skip
      all_goals unfold builtin
      all_goals first
        | exact sim_v sim_append
        | exact sim_v sim_cap
        | exact sim_v sim_len
        | exact sim_v sim_copy
        | exact sim_v sim_max
        | exact sim_v sim_min
        | exact sim_v (sim_delete (hM hb))
    | invoke r n => cases h
    | value f =>
      cases f <;> first | (cases h; done) | skip
      rename_i f
      have hf : (F.fn f || F.ext f) = true := h
      show Sim P S (MildEnd F) (Deferred.ofValue (ρ (.func f)) (args.map ρ) >>= fun d => invoke d.target d.args)
      rw [hρ f]
      show Sim P S (MildEnd F) (callFunc f ((#[] ++ args.map ρ) ++ #[]))
      rcases Bool.or_eq_true _ _ ▸ hf with hf | hf
      · exact sim_callFunc hF hf
      · exact sim_callExt (hF.2 f hf)
  | makeChan t c => exact sim_v sim_makeChan
  | ready g => rw [ho] at h; cases h
  | waits g => rw [ho] at h; cases h
  | go c => rw [ho] at h; cases h
  | defer c => rw [ho] at h; cases h
  | panic x => rw [ho] at h; cases h
  | send c x => rw [ho] at h; cases h
  | recv t c b => rw [ho] at h; cases h
  | select c b => rw [ho] at h; cases h
end
end Go.Proofs.Ytecmobjiepgfjaa

/- An operation of the mild kinds meets itself in a world that is frozen at more places; it ends by a value, by nothing, or by a call of a function of F. -/
import Derived.Test.YtecmobjiepgfjaaNGoO
namespace Go.Proofs.Ytecmobjiepgfjaa
open Go.Conc
set_option linter.unusedSimpArgs false
set_option linter.unusedVariables false
section
variable {P : Program} {S : Prot}
theorem sq153 : ∀ (l : List FieldStep) (t : TypeId) (x : Option Value), Sim P S (fun _ => True) (followBlind l t x)
  | [], _, _ => by unfold followBlind; exact Sim.pure trivial
  | s :: l, t, x => by
    unfold followBlind
    repeat' first | (with_reducible first | exact Sim.pure trivial | exact sq0 | exact sq153 l _ _ | exact sq4 | exact sq28 | refine Sim.bind (N := fun _ => True) ?_ fun _ _ => ?_) | split | dsimp only
theorem sq147 : ∀ (n : Nat) (t : TypeId) (x : Value) (s : String), Sim P S (fun _ => True) (nilAhead n t x s)
  | 0, _, _, _ => by unfold nilAhead; exact Sim.pure trivial
  | n + 1, t, x, s => by
    unfold nilAhead
    repeat' first | (with_reducible first | exact Sim.pure trivial | exact sq0 | exact sq147 n _ _ _ | exact sq153 _ _ _ | exact sq4 | exact sq8 | refine Sim.bind (N := fun _ => True) ?_ fun _ _ => ?_) | split | dsimp only
/-- Functions; do they write maps, or step iterators? 'top': functions that stand, of whose text nothing is asked. 'ext': body-less functions that are mild. -/
structure Fns where
  fn : FuncId → Bool
  maps : Bool
  top : FuncId → Bool
  ext : FuncId → Bool
/-- Which built-in functions are mild. -/
def mildB (F : Fns) : Builtin → Bool
  | .append | .cap | .len | .copy | .max | .min => true
  | .delete => F.maps
  | _ => false
/-- Which operations are mild: no communication, no go statement, no deferral, no panic of the text's own, no call of a value but of a function of F by its number. -/
def mild (F : Fns) : Op → Bool
  | .move _ | .assign _ | .pick .. | .alloc _ | .box .. | .build .. | .buildSlice .. | .load .. | .store .. | .nilCheck _ | .binOp .. | .unOp .. | .convert .. | .sliceToArrayPointer .. | .makeInterface .. | .makeFunc ..
  | .makeMap .. | .makeSlice .. | .slice .. | .fieldAddr .. | .field .. | .indexAddr .. | .index .. | .lookup .. | .range .. | .entry .. | .typeAssert .. | .extract .. | .makeChan .. => true
  | .mapUpdate .. | .insert .. | .mapEntry .. | .entryStore .. | .next .. => F.maps
  | .call { callee := .value (.func f), .. } => F.fn f || F.ext f
  | .call { callee := .builtin b, .. } => mildB F b
  | _ => false
/-- How a mild operation ends. -/
def MildEnd (F : Fns) (r : Next) : Prop := (∃ v, r = .value v) ∨ r = .skip ∨ ∃ f args, r = .enter f args ∧ F.fn f = true
/-- A body-less function that is mild. -/
def MildExt (e : Array Value → Sem Value) : Prop := ∀ P S args, Sim P S (fun _ => True) (e args)
def ExtAt (P : Program) (f : FuncId) : Prop := ∃ fn e, P.funcs[f]? = some fn ∧ (fn.name == "runtime.NumGoroutine") = false ∧ fn.body.isNone = true ∧ Extern.findNext fn = none ∧ Extern.find fn = some e ∧ MildExt e
/-- F's functions stand in the program, with a body. -/
def Stands (P : Program) (F : Fns) : Prop := (∀ f, F.fn f = true → ∃ fn, P.funcs[f]? = some fn ∧ (fn.name == "runtime.NumGoroutine") = false ∧ fn.body.isSome = true) ∧ ∀ f, F.ext f = true → ExtAt P f
theorem sq112 {F : Fns} {s : Sem Value} (h : Sim P S (fun _ => True) s) : Sim P S (MildEnd F) (do pure (.value (← s))) := Sim.bind h fun v _ => Sim.pure (.inl ⟨v, rfl⟩)
theorem sq142 {F : Fns} {s : Sem Unit} (h : Sim P S (fun _ => True) s) : Sim P S (MildEnd F) (do s; pure .skip) := Sim.bind h fun v _ => Sim.pure (.inr (.inl rfl))
theorem sq161 {F : Fns} (hF : Stands P F) {f : FuncId} (hf : F.fn f = true) {args : Array Value} : Sim P S (MildEnd F) (callFunc f args) := by
  obtain ⟨fn, h1, h2, h3⟩ := hF.1 f hf
  unfold callFunc
  refine Sim.bind sq2 fun p hp => ?_
  subst hp
  have h4 : fn.body.isNone = false := by cases h : fn.body <;> simp_all
  simp only [h1, h2, h4, Bool.false_eq_true, if_false]
  exact Sim.pure (.inr (.inr ⟨f, args, rfl, hf⟩))
theorem sq165 {F : Fns} {f : FuncId} (hf : ExtAt P f) {args : Array Value} : Sim P S (MildEnd F) (callFunc f args) := by
  obtain ⟨fn, e, h1, h2, h3, h4, h5, h6⟩ := hf
  unfold callFunc
  refine Sim.bind sq2 fun p hp => ?_
  subst hp
  simp only [h1, h2, h3, h4, h5, Bool.false_eq_true, if_false, if_true]
  refine Sim.bind (sq156 (fun a => ⟨by simp, by simp, by simp, by simp, by simp⟩) (by simp) (by simp)) fun _ _ => ?_
  exact sq112 (h6 _ S args)
theorem sq148 {F : Fns} (hF : Stands P F) (hM : F.maps = true → ∀ r, ¬ S.objs r) {ρ : Operand → Value} (hρ : ∀ f, ρ (.func f) = .func (.func f) #[] #[]) {o : Oper} (h : mild F o.op = true) : Sim P S (MildEnd F) (execOp ρ o) := by
  unfold execOp
  cases ho : o.op with
  | move x => exact Sim.pure (.inl ⟨_, rfl⟩)
  | assign x => exact Sim.pure (.inl ⟨_, rfl⟩)
  | pick c a b => exact Sim.bind (N := fun _ => True) sq26 fun b _ => Sim.pure (.inl ⟨_, rfl⟩)
  | alloc t => exact sq112 sq99
  | box t x => exact sq112 sq100
  | build t p => exact sq112 sq101
  | buildSlice t n p => exact sq112 sq102
  | load t a => exact sq112 sq104
  | store t a v => exact sq142 sq105
  | binOp b t x y u => exact sq112 (Sim.bind sq76 fun _ _ => sq84)
  | unOp b t x => exact sq112 sq69
  | convert s t x => exact sq112 sq98
  | sliceToArrayPointer t x => exact sq112 sq113
  | makeInterface t x => exact sq112 sq114
  | makeFunc f a b => exact sq112 sq116
  | makeMap t r => exact sq112 sq117
  | makeSlice t l c => exact sq112 sq118
  | slice t x l m n => exact sq112 sq110
  | fieldAddr t x f => exact sq112 sq106
  | field t x f => exact sq112 sq119
  | indexAddr t x i => exact sq112 sq107
  | index t x i => exact sq112 sq121
  | lookup t x i b => exact sq112 sq124
  | mapUpdate t m k v => rw [ho] at h; exact sq142 (sq125 (hM h))
  | insert t m k v => rw [ho] at h; exact sq142 (sq125 (hM h))
  | mapEntry t m k => rw [ho] at h; exact sq112 (sq127 (hM h))
  | entryStore t m s v => rw [ho] at h; exact sq142 (sq128 (hM h))
  | range t x => exact sq112 sq129
  | next i b => rw [ho] at h; exact sq112 (sq130 (hM h))
  | entry i => exact sq112 sq131
  | typeAssert x s t b => exact sq112 sq132
  | extract t i => exact sq112 sq133
  | nilCheck x =>
    dsimp only
    repeat' first | (with_reducible refine Sim.pure ?_); exact Or.inl ⟨_, rfl⟩ | (with_reducible first | exact sq13 | exact sq1 | exact sq2' | exact sq147 _ _ _ _ | exact Sim.bind sq2' fun _ _ => sq147 _ _ _ _ | refine Sim.bind (N := fun _ => True) ?_ fun _ _ => ?_) | split
  | call c =>
    rw [ho] at h
    obtain ⟨callee, args, ts⟩ := c
    cases callee with
    | builtin b =>
      have hb : mildB F b = true := h
      show Sim P S (MildEnd F) (builtin b ts o.type _ (args.map ρ))
      cases b <;> first | (cases hb; done) | skip
      all_goals unfold builtin
      all_goals first
        | exact sq112 sq163
        | exact sq112 sq136
        | exact sq112 sq138
        | exact sq112 sq139
        | exact sq112 sq140
        | exact sq112 sq146
        | exact sq112 (sq154 (hM hb))
    | invoke r n => cases h
    | value f =>
      cases f <;> first | (cases h; done) | skip
      rename_i f
      have hf : (F.fn f || F.ext f) = true := h
      show Sim P S (MildEnd F) (Deferred.ofValue (ρ (.func f)) (args.map ρ) >>= fun d => invoke d.target d.args)
      rw [hρ f]
      show Sim P S (MildEnd F) (callFunc f ((#[] ++ args.map ρ) ++ #[]))
      rcases Bool.or_eq_true _ _ ▸ hf with hf | hf
      · exact sq161 hF hf
      · exact sq165 (hF.2 f hf)
  | makeChan t c => exact sq112 sq162
  | ready g => rw [ho] at h; cases h
  | waits g => rw [ho] at h; cases h
  | go c => rw [ho] at h; cases h
  | defer c => rw [ho] at h; cases h
  | panic x => rw [ho] at h; cases h
  | send c x => rw [ho] at h; cases h
  | recv t c b => rw [ho] at h; cases h
  | select c b => rw [ho] at h; cases h
end
end Go.Proofs.Ytecmobjiepgfjaa

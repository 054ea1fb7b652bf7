/- A frame all of whose operations are mild: one own step of its goroutine, in a world and in one that is frozen at more places. -/
import Derived.Test.YtecmobjiepgfjaaNGoN
import Derived.Conc.Own5
namespace Go.Proofs.Ytecmobjiepgfjaa
open Go.Conc
set_option linter.unusedSimpArgs false
/-- Text all of whose operations are mild. -/
def okCode (F : Fns) : Code → Bool
  | .skip | .ret | .label _ | .exit _ | .goto _ | .refuse _ => true
  | .region _ ops _ => ops.all fun o => mild F o.op
  | .seq a b | .cond _ a b => okCode F a && okCode F b
  | .block _ c | .loop c | .scope c => okCode F c
  | .rangeFunc .. => false
def okItem (F : Fns) : Item → Bool
  | .code c | .inLoop c | .inScope c => okCode F c
  | .inBlock _ => true
  | .inRegion ops _ => ops.all fun o => mild F o.op
  | _ => false
structure Fit (F : Fns) (fr : Frame) : Prop where
  kind : fr.kind = .normal
  round : fr.roundOf = none
  defers : fr.defers = []
  todo : ∀ x ∈ fr.todo, okItem F x = true
  fn : F.fn fr.fn = true ∨ F.top fr.fn = true
/-- F's functions stand in the program, each with a text whose operations are mild. -/
structure Closed (P : Program) (S : Prot) (F : Fns) : Prop where
  maps : F.maps = true → ∀ r, ¬ S.objs r
  text : ∀ f, F.fn f = true → ∃ fn c, P.funcs[f]? = some fn ∧ (fn.name == "runtime.NumGoroutine") = false ∧ fn.body = some c ∧ okCode F c = true
  exts : ∀ f, F.ext f = true → ExtAt P f
  tops : ∀ f, F.top f = true → ∃ fn, P.funcs[f]? = some fn
  early : P.follows .staticDataAhead = true ∧ ∀ g, P.stepOf g = none
theorem Closed.there {P : Program} {S : Prot} {F : Fns} (h : Closed P S F) {fr : Frame} (hf : Fit F fr) : ∃ fn, P.funcs[fr.fn]? = some fn := by
  rcases hf.fn with e | e
  · obtain ⟨fn, c, h1, _⟩ := h.text _ e
    exact ⟨fn, h1⟩
  · exact h.tops _ e
theorem Closed.stands {P : Program} {S : Prot} {F : Fns} (h : Closed P S F) : Stands P F := ⟨fun f hf => by
  obtain ⟨fn, c, h1, h2, h3, _⟩ := h.text f hf
  exact ⟨fn, h1, h2, by rw [h3]; rfl⟩, h.exts⟩
/-- The same frame, with more to do behind. -/
def _root_.Go.Frame.app (fr : Frame) (t : List Item) : Frame := { fr with todo := fr.todo ++ t }
/-- Nothing in it that one may leave to. -/
def Shut (t : List Item) : Prop := (∀ id, exitTo id t = none) ∧ ∀ l, gotoIn l t = none
theorem exitTo_app {id : Nat} (t : List Item) : ∀ {k k' : List Item}, exitTo id k = some k' → exitTo id (k ++ t) = some (k' ++ t)
  | [], _, h => by simp [exitTo] at h
  | y :: k, k', h => by
    cases y <;> first | (simp only [List.cons_append, exitTo] at h ⊢; exact exitTo_app t h) | skip
    simp only [List.cons_append, exitTo] at h ⊢
    split at h
    · rename_i e; rw [if_pos e]; rw [← Option.some.inj h]
    · rename_i e; rw [if_neg e]; exact exitTo_app t h
theorem exitTo_none {id : Nat} {t : List Item} (ht : exitTo id t = none) : ∀ {k : List Item}, exitTo id k = none → exitTo id (k ++ t) = none
  | [], _ => ht
  | y :: k, h => by
    cases y <;> first | (simp only [List.cons_append, exitTo] at h ⊢; exact exitTo_none ht h) | skip
    simp only [List.cons_append, exitTo] at h ⊢
    split at h
    · cases h
    · rename_i e; rw [if_neg e]; exact exitTo_none ht h
theorem gotoIn_app {l : Nat} (t : List Item) : ∀ {k k' : List Item}, gotoIn l k = some k' → gotoIn l (k ++ t) = some (k' ++ t)
  | [], _, h => by simp [gotoIn] at h
  | y :: k, k', h => by
    cases y <;> first | (simp only [List.cons_append, gotoIn] at h ⊢; exact gotoIn_app t h) | skip
    simp only [List.cons_append, gotoIn] at h ⊢
    split at h
    · rw [← Option.some.inj h]; rfl
    · exact gotoIn_app t h
theorem gotoIn_none {l : Nat} {t : List Item} (ht : gotoIn l t = none) : ∀ {k : List Item}, gotoIn l k = none → gotoIn l (k ++ t) = none
  | [], _ => ht
  | y :: k, h => by
    cases y <;> first | (simp only [List.cons_append, gotoIn] at h ⊢; exact gotoIn_none ht h) | skip
    simp only [List.cons_append, gotoIn] at h ⊢
    split at h
    · cases h
    · exact gotoIn_none ht h
/-- What a step makes of the frames. -/
inductive FStep where
  | to (fr : Frame)
  | push (fr fr' : Frame)
  | pop (v : Value)
  | raise (ch : List PanicEntry)
def FStep.gor : FStep → List Frame → Goroutine
  | .to fr, cs => G fr cs
  | .push fr fr', cs => G fr' (fr :: cs)
  | .pop v, c :: cs => G (c.finish v) cs
  | .raise ch, c :: cs => G (c.raise ch) cs
  | _, [] => default
def FStep.app : FStep → List Item → FStep
  | .to fr, t => .to (fr.app t)
  | .push fr fr', t => .push (fr.app t) fr'
  | s, _ => s
def FStep.Fit (F : Fns) : FStep → Prop
  | .to fr => Go.Proofs.Ytecmobjiepgfjaa.Fit F fr
  | .push fr fr' => Go.Proofs.Ytecmobjiepgfjaa.Fit F fr ∧ Go.Proofs.Ytecmobjiepgfjaa.Fit F fr'
  | _ => True
/-- It is about to make an operation. -/
def AtOp (fr : Frame) : Prop := ∃ ops i rest k, fr.todo = .inRegion ops (i :: rest) :: k
/-- Which steps a frame makes in which mode. -/
def FStep.from (fr : Frame) : FStep → Prop
  | .to _ => True
  | .push fr₁ _ => fr₁ = fr ∧ fr.mode = .run ∧ AtOp fr
  | .pop _ => fr.mode = .returning
  | .raise _ => ∃ ch, fr.mode = .panicking ch
/-- One own step of a frame's goroutine, whoever called, in both worlds, whatever is to do behind what the frame has to do. -/
def StepSim (P : Program) (S : Prot) (F : Fns) (fr : Frame) (T : List Item → Prop) : Prop := ∀ x w, Thaw S x w → ∃ (n : Nat) (f : Nat → Nat),
  (∀ τ d c cs main t, Shut t → Agree τ d n f → ∃ o y es, stepG P main (G (fr.app t) (c :: cs)) (under x τ d) = .ended o y es) ∨
  ∃ (s : FStep) (y w' : World) (es : Array Event), s.Fit F ∧ s.from fr ∧ Thaw S y w' ∧ outer w' = outer w ∧ w.heap.size ≤ w'.heap.size ∧ Stay S w w' ∧ (∀ e ∈ es, EvG S w'.heap.size e) ∧
    (∀ t cs main, T t → (cs = [] → fr.mode = .run) → stepG P main (G (fr.app t) cs) w = .go ((s.app t).gor cs) w' es) ∧
    ∀ τ d t c cs main, T t → Agree τ d n f → ∃ es', stepG P main (G (fr.app t) (c :: cs)) (under x τ d) = .go ((s.app t).gor (c :: cs)) (under y τ (d + n)) es'
section
variable {P : Program} {S : Prot} {F : Fns} {fr : Frame} {T : List Item → Prop}
theorem stepSim_to {fr' : Frame} (h' : Fit F fr') (h : ∀ w t cs main, T t → stepG P main (G (fr.app t) cs) w = .go (G (fr'.app t) cs) w #[]) : StepSim P S F fr T := fun x w hT =>
  ⟨0, fun _ => 0, .inr ⟨.to fr', x, w, #[], h', trivial, hT, rfl, Nat.le_refl _, .refl _ _, by simp, fun t cs main ht _ => h w t cs main ht, fun τ d t c cs main ht _ => ⟨#[], h _ t (c :: cs) main ht⟩⟩⟩
theorem stepSim_ended (h : ∀ w t c cs main, Shut t → ∃ o y es, stepG P main (G (fr.app t) (c :: cs)) w = .ended o y es) : StepSim P S F fr T := fun _ _ _ =>
  ⟨0, fun _ => 0, .inl fun _ _ c cs main t ht _ => h _ t c cs main ht⟩
theorem Fit.with (h : Fit F fr) {todo : List Item} (ht : ∀ x ∈ todo, okItem F x = true) : Fit F { fr with todo } := ⟨h.kind, h.round, h.defers, ht, h.fn⟩
theorem Fit.mode (h : Fit F fr) (m : FrameMode) : Fit F { fr with mode := m } := ⟨h.kind, h.round, h.defers, h.todo, h.fn⟩
theorem exitTo_ok {id : Nat} : ∀ {k k' : List Item}, exitTo id k = some k' → (∀ x ∈ k, okItem F x = true) → ∀ x ∈ k', okItem F x = true
  | [], _, h, _ => by simp [exitTo] at h
  | y :: k, k', h, hk => by
    have hk2 : ∀ x ∈ k, okItem F x = true := fun x hx => hk x (List.mem_cons_of_mem _ hx)
    cases y <;> first | (exact exitTo_ok (k := k) (by simpa [exitTo] using h) hk2) | skip
    rename_i id'
    simp only [exitTo] at h
    split at h
    · obtain rfl := Option.some.inj h; exact hk2
    · exact exitTo_ok h hk2
theorem findLabel_ok {l : Nat} : ∀ {c r : Code}, findLabel c l = some r → okCode F c = true → okCode F r = true := by
  intro c
  induction c with
  | seq a b iha ihb =>
    intro r h hc
    simp only [okCode, Bool.and_eq_true] at hc
    simp only [findLabel] at h
    split at h
    · rename_i rest hr
      obtain rfl := Option.some.inj h
      simp only [okCode, Bool.and_eq_true]
      exact ⟨iha hr hc.1, hc.2⟩
    · exact ihb h hc.2
  | label l' =>
    intro r h _
    simp only [findLabel] at h
    split at h
    · obtain rfl := Option.some.inj h; rfl
    · cases h
  | _ => intro r h; simp [findLabel] at h
theorem gotoIn_ok {l : Nat} : ∀ {k k' : List Item}, gotoIn l k = some k' → (∀ x ∈ k, okItem F x = true) → ∀ x ∈ k', okItem F x = true
  | [], _, h, _ => by simp [gotoIn] at h
  | y :: k, k', h, hk => by
    have hk2 : ∀ x ∈ k, okItem F x = true := fun x hx => hk x (List.mem_cons_of_mem _ hx)
    cases y <;> first | (exact gotoIn_ok (k := k) (by simpa [gotoIn] using h) hk2) | skip
    rename_i body
    simp only [gotoIn] at h
    split at h
    · rename_i rest hr
      obtain rfl := Option.some.inj h
      have hb : okCode F body = true := hk _ (List.mem_cons_self ..)
      intro x hx
      rcases List.mem_cons.1 hx with rfl | hx
      · exact findLabel_ok hr hb
      · rcases List.mem_cons.1 hx with rfl | hx
        · exact hb
        · exact hk2 x hx
    · exact gotoIn_ok h hk2
/-- The moves of control. -/
theorem stepSim_ctl (h : Fit F fr) (hm : fr.mode = .run) {i : Item} {k : List Item} (ht : fr.todo = i :: k) (hi : ∀ ops l, i ≠ .inRegion ops l) (hr : ∀ id ops, i ≠ .code (.region id ops true)) : StepSim P S F fr T := by
  have hk : ∀ x ∈ k, okItem F x = true := fun x hx => h.todo x (ht ▸ List.mem_cons_of_mem _ hx)
  have hi0 : okItem F i = true := h.todo i (ht ▸ List.mem_cons_self ..)
  obtain ⟨fn, tmps, todo, defers, mode, kind, roundOf⟩ := fr
  obtain rfl : todo = _ := ht
  obtain rfl : mode = _ := hm
  obtain rfl : roundOf = none := h.round
  cases i with
  | code c =>
    cases c with
    | skip => exact stepSim_to (h.with hk) fun w t cs main _ => by simp [Frame.app, G, stepG, stepG.exec]
    | label l => exact stepSim_to (h.with hk) fun w t cs main _ => by simp [Frame.app, G, stepG, stepG.exec]
    | ret => exact stepSim_to (h.mode .returning) fun w t cs main _ => by simp [Frame.app, G, stepG, stepG.exec]
    | region id ops draw =>
      cases draw with
      | true => exact absurd rfl (hr id ops)
      | false =>
        refine stepSim_to (h.with (todo := .inRegion ops (List.range ops.size) :: k) fun x hx => ?_) fun w t cs main _ => by simp [Frame.app, G, stepG, stepG.exec]
        rcases List.mem_cons.1 hx with rfl | hx
        · exact hi0
        · exact hk x hx
    | seq a b =>
      simp only [okItem, okCode, Bool.and_eq_true] at hi0
      refine stepSim_to (h.with (todo := .code a :: .code b :: k) fun x hx => ?_) fun w t cs main _ => by simp [Frame.app, G, stepG, stepG.exec]
      rcases List.mem_cons.1 hx with rfl | hx
      · exact hi0.1
      · rcases List.mem_cons.1 hx with rfl | hx
        · exact hi0.2
        · exact hk x hx
    | cond e a b =>
      simp only [okItem, okCode, Bool.and_eq_true] at hi0
      by_cases hb : ∃ t, Frame.eval { fn, tmps, todo := .code (.cond e a b) :: k, defers, mode := .run, kind, roundOf := none } e = .bool t
      · obtain ⟨t, ht⟩ := hb
        refine stepSim_to (h.with (todo := .code (if t then a else b) :: k) fun x hx => ?_) fun w t₂ cs main _ => by
          have ht' : Frame.eval { fn, tmps, todo := .code (.cond e a b) :: (k ++ t₂), defers, mode := .run, kind, roundOf := none } e = .bool t := ht
          simp [Frame.app, G, stepG, stepG.exec, ht']
        rcases List.mem_cons.1 hx with rfl | hx
        · cases t
          · exact hi0.2
          · exact hi0.1
        · exact hk x hx
      · refine stepSim_ended fun w t c cs main _ => ?_
        simp only [Frame.app, G, stepG, stepG.exec, List.cons_append]
        split
        · rename_i t' ht; exact absurd ⟨t', ht⟩ hb
        · exact ⟨_, _, _, rfl⟩
    | block id c =>
      refine stepSim_to (h.with (todo := .code c :: .inBlock id :: k) fun x hx => ?_) fun w t cs main _ => by simp [Frame.app, G, stepG, stepG.exec]
      rcases List.mem_cons.1 hx with rfl | hx
      · exact hi0
      · rcases List.mem_cons.1 hx with rfl | hx
        · rfl
        · exact hk x hx
    | loop c =>
      refine stepSim_to (h.with (todo := .code c :: .inLoop c :: k) fun x hx => ?_) fun w t cs main _ => by simp [Frame.app, G, stepG, stepG.exec]
      rcases List.mem_cons.1 hx with rfl | hx
      · exact hi0
      · rcases List.mem_cons.1 hx with rfl | hx
        · exact hi0
        · exact hk x hx
    | scope c =>
      refine stepSim_to (h.with (todo := .code c :: .inScope c :: k) fun x hx => ?_) fun w t cs main _ => by simp [Frame.app, G, stepG, stepG.exec]
      rcases List.mem_cons.1 hx with rfl | hx
      · exact hi0
      · rcases List.mem_cons.1 hx with rfl | hx
        · exact hi0
        · exact hk x hx
    | rangeFunc f ps a b => cases hi0
    | refuse why => exact stepSim_ended fun w t c cs main _ => ⟨_, _, _, by simp only [Frame.app, G, stepG, stepG.exec, List.cons_append]; rfl⟩
    | exit id =>
      cases he : exitTo id k with
      | some k' => exact stepSim_to (h.with (exitTo_ok he hk)) fun w t cs main _ => by simp [Frame.app, G, stepG, stepG.exec, exitTo_app t he]
      | none => exact stepSim_ended fun w t c cs main ht => ⟨_, _, _, by simp only [Frame.app, G, stepG, stepG.exec, List.cons_append, exitTo_none (ht.1 id) he]; rfl⟩
    | goto l =>
      cases he : gotoIn l k with
      | some k' => exact stepSim_to (h.with (gotoIn_ok he hk)) fun w t cs main _ => by simp [Frame.app, G, stepG, stepG.exec, gotoIn_app t he]
      | none => exact stepSim_ended fun w t c cs main ht => ⟨_, _, _, by simp only [Frame.app, G, stepG, stepG.exec, List.cons_append, gotoIn_none (ht.2 l) he]; rfl⟩
  | inBlock id => exact stepSim_to (h.with hk) fun w t cs main _ => by simp [Frame.app, G, stepG, stepG.exec]
  | inScope c => exact stepSim_to (h.with hk) fun w t cs main _ => by simp [Frame.app, G, stepG, stepG.exec]
  | inLoop c =>
    refine stepSim_to (h.with (todo := .code c :: .inLoop c :: k) fun x hx => ?_) fun w t cs main _ => by simp [Frame.app, G, stepG, stepG.exec]
    rcases List.mem_cons.1 hx with rfl | hx
    · exact hi0
    · rcases List.mem_cons.1 hx with rfl | hx
      · exact hi0
      · exact hk x hx
  | inRegion ops l => exact absurd rfl (hi ops l)
  | _ => cases hi0
end
end Go.Proofs.Ytecmobjiepgfjaa

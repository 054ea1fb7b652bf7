/- A frame all of whose operations are mild: the steps of its regions, its return, its panic. -/
import Derived.Test.YtecmobjiepgfjaaNGoK
import Derived.Conc.Listed
namespace Go.Proofs.Ytecmobjiepgfjaa
open Go.Conc
set_option linter.unusedSimpArgs false
section
variable {P : Program} {S : Prot} {F : Fns} {fr : Frame} {T : List Item → Prop}
theorem Fit.finish (h : Fit F fr) (v : Value) : Fit F (fr.finish v) := by
  obtain ⟨fn, tmps, todo, defers, mode, kind, roundOf⟩ := fr
  cases todo with
  | nil => exact h
  | cons i k =>
    have h0 : okItem F i = true := h.todo i (List.mem_cons_self ..)
    cases i <;> first | exact h | (cases h0; done) | skip
    rename_i ops l
    cases l with
    | nil => exact h
    | cons j rest =>
      refine ⟨h.kind, h.round, h.defers, fun x hx => ?_, h.fn⟩
      rcases List.mem_cons.1 hx with rfl | hx
      · exact h0
      · exact h.todo x (List.mem_cons_of_mem _ hx)
theorem Fit.raise (h : Fit F fr) (ch : List PanicEntry) : Fit F (fr.raise ch) := by
  unfold Frame.raise
  split <;> exact ⟨h.kind, h.round, h.defers, h.todo, h.fn⟩
theorem Closed.enter (hC : Closed P S F) {f : FuncId} (hf : F.fn f = true) (args : Array Value) : Fit F (Frame.enter P f args .normal) := by
  obtain ⟨fn, c, h1, _, h3, h4⟩ := hC.text f hf
  refine ⟨rfl, rfl, rfl, fun x hx => ?_, .inl hf⟩
  simp only [Frame.enter, h1, Option.bind_some, h3, Option.getD_some, List.mem_cons, List.not_mem_nil, or_false] at hx
  subst hx
  exact h4
theorem early_ends (hC : Closed P S F) (fr : Frame) (cs : List Frame) (g : Nat) (w : World) : ∃ o y es, early P fr cs none g w = .ended o y es := by
  unfold early
  simp only [hC.early.1, Bool.not_true, Bool.false_eq_true, if_false, hC.early.2 g]
  exact ⟨_, _, _, rfl⟩
/-- A step that is an operation's. -/
theorem stepSim_apply (hC : Closed P S F) (h : Fit F fr) {s : Sem Next} (hs : Sim P S (MildEnd F) s) (hst : ∀ w t cs main, stepG P main (G (fr.app t) cs) w = stepG.apply P true (fr.app t) cs none s w)
    {i : Item} {k : List Item} (ht : fr.todo = i :: k) (hk : ∀ d a b c, i ≠ .call d a b c) (hop : fr.mode = .run ∧ AtOp fr) : StepSim P S F fr T := fun x w hT => by
  have hfin : ∀ t v, (fr.app t).finish v = (fr.finish v).app t := fun t v => by
    obtain ⟨fn, tmps, todo, defers, mode, kind, roundOf⟩ := fr
    obtain rfl : todo = _ := ht
    cases i <;> try rfl
    rename_i ops l
    cases l <;> rfl
  have hrai : ∀ t ch, (fr.app t).raise ch = (fr.raise ch).app t := fun t ch => by
    obtain ⟨fn, tmps, todo, defers, mode, kind, roundOf⟩ := fr
    cases mode <;> rfl
  have hke : ∀ t, ((fr.app t).kind == CallKind.early) = false := fun t => by show (fr.kind == _) = _; rw [h.kind]; rfl
  have hkt : ∀ t d a b c k, (fr.app t).todo ≠ .call d a b c :: k := fun t d a b c k' e => by
    simp only [Frame.app, ht, List.cons_append, List.cons.injEq] at e
    exact hk _ _ _ _ e.1
  obtain ⟨n, f, hb | ⟨r, hf, hr, evs, he, hev⟩⟩ := hs x w hT
  · refine ⟨n, f, .inl fun τ d c cs main t _ hA => ?_⟩
    obtain ⟨hh, y, e, hbad⟩ := hb τ d hA
    rw [hst]
    simp only [stepG.apply, Sem.runT_eq, if_true, e]
    cases hh <;> first | (cases hbad; done) | skip
    · rename_i u
      cases u <;> first
        | exact ⟨_, _, _, rfl⟩
        | (rename_i g; obtain ⟨o, y', es, e'⟩ := early_ends hC (fr.app t) (c :: cs) g y; simp only [e']; exact ⟨_, _, _, rfl⟩)
    · exact ⟨_, _, _, rfl⟩
  · have hev' : ∀ e ∈ seen P fr.fn (s.events P w #[]), EvG S (Result.world (s.run P w)).heap.size e := fun e hm => hev e (by have := mem_seen hm; rw [he] at this; simpa using this)
    have hstay := Stay.of_events (P := P) (S := S) (w := w) (s := s) (B := (Result.world (s.run P w)).heap.size) fun e hm => hev e (by rw [he] at hm; simpa using hm)
    refine ⟨n, f, .inr ?_⟩
    cases hw : s.run P w with
    | halt hh w₁ =>
      rw [hw] at hf hev' hstay
      cases hf with
      | @panic v y _ hT₁ ht hsz =>
        refine ⟨.to (fr.raise [{ v, recovered := false }]), y, w₁, seen P fr.fn (s.events P w #[]) ++ #[], h.raise _, trivial, hT₁, ht, hsz, hstay, fun e hm => hev' e (by simpa using hm), fun t cs main _ hcs => ?_, fun τ d t c cs main _ hA => ?_⟩
        · rw [hst]; simp only [stepG.apply, Sem.runT_eq, if_true, hw, hke, hfin, hrai, Bool.false_eq_true, if_false]; rfl
        · rw [hst]; simp only [stepG.apply, Sem.runT_eq, if_true, hr τ d hA, Result.tap, hfin, hrai]; exact ⟨_, rfl⟩
    | ok b w₁ =>
      rw [hw] at hf hev' hstay
      cases hf with
      | @ok a _ y _ hN hT₁ ht hsz =>
        obtain ⟨rfl, hN⟩ := hN
        rcases hN with ⟨v, rfl⟩ | rfl | ⟨g, args, rfl, hg⟩
        · refine ⟨.to (fr.finish v), y, w₁, seen P fr.fn (s.events P w #[]) ++ #[], h.finish _, trivial, hT₁, ht, hsz, hstay, fun e hm => hev' e (by simpa using hm), fun t cs main _ hcs => ?_, fun τ d t c cs main _ hA => ?_⟩
          · rw [hst]; simp only [stepG.apply, Sem.runT_eq, if_true, hw, hke, hfin, hrai, Bool.false_eq_true, if_false]; rfl
          · rw [hst]; simp only [stepG.apply, Sem.runT_eq, if_true, hr τ d hA, Result.tap, hfin, hrai]; exact ⟨_, rfl⟩
        · refine ⟨.to (fr.finish undef), y, w₁, seen P fr.fn (s.events P w #[]) ++ #[], h.finish _, trivial, hT₁, ht, hsz, hstay, fun e hm => hev' e (by simpa using hm), fun t cs main _ hcs => ?_, fun τ d t c cs main _ hA => ?_⟩
          · rw [hst]; simp only [stepG.apply, Sem.runT_eq, if_true, hw, hke, hfin, hrai, Bool.false_eq_true, if_false]; rfl
          · rw [hst]; simp only [stepG.apply, Sem.runT_eq, if_true, hr τ d hA, Result.tap, hfin, hrai]; exact ⟨_, rfl⟩
        · refine ⟨.push fr (Frame.enter P g args .normal), y, w₁, seen P fr.fn (s.events P w #[]) ++ #[], ⟨h, hC.enter hg args⟩, ⟨rfl, hop⟩, hT₁, ht, hsz, hstay, fun e hm => hev' e (by simpa using hm), fun t cs main _ hcs => ?_, fun τ d t c cs main _ hA => ?_⟩
          · rw [hst]; simp only [stepG.apply, Sem.runT_eq, if_true, hw, hke, Bool.false_eq_true, if_false]
            split
            · rename_i e; exact absurd e (hkt _ _ _ _ _ _)
            · rfl
          · rw [hst]; simp only [stepG.apply, Sem.runT_eq, if_true, hr τ d hA, Result.tap, hke, Bool.false_eq_true, if_false]
            split
            · rename_i e; exact absurd e (hkt _ _ _ _ _ _)
            · exact ⟨_, rfl⟩
theorem sq152 {fn : Func} {tmps : Array Value} : Sim P S (fun _ => True) (results fn tmps) := by
  unfold results
  refine Sim.bind (sq29 (fun a => ?_) _) fun _ _ => Sim.pure trivial
  split
  · exact Sim.pure trivial
  · exact sq6.bind fun _ _ => sq24
theorem stepSim_region (hC : Closed P S F) (h : Fit F fr) (hm : fr.mode = .run) {ops : Array Oper} {l : List Nat} {k : List Item} (ht : fr.todo = .inRegion ops l :: k) : StepSim P S F fr T := by
  have hk : ∀ x ∈ k, okItem F x = true := fun x hx => h.todo x (ht ▸ List.mem_cons_of_mem _ hx)
  have hi0 : okItem F (.inRegion ops l) = true := h.todo _ (ht ▸ List.mem_cons_self ..)
  cases l with
  | nil =>
    obtain ⟨fn, tmps, todo, defers, mode, kind, roundOf⟩ := fr
    obtain rfl : todo = _ := ht
    obtain rfl : mode = _ := hm
    exact stepSim_to (h.with hk) fun w t cs main _ => by simp [Frame.app, G, stepG, stepG.exec]
  | cons i rest =>
    have hro := h.round
    cases hw : ((ops[i]?).map (Region.wanted · (yielded ops fr.tmps))).getD false with
    | false =>
      refine stepSim_to (h.finish undef) fun w t cs main _ => ?_
      obtain ⟨fn, tmps, todo, defers, mode, kind, roundOf⟩ := fr
      obtain rfl : todo = _ := ht
      obtain rfl : mode = _ := hm
      simp only at hw
      simp [Frame.app, G, stepG, stepG.exec, hw, Frame.finish]
    | true =>
      cases ho : ops[i]? with
      | none => rw [ho] at hw; cases hw
      | some o =>
        have hmild : mild F o.op = true := by
          simp only [okItem, Array.all_eq_true_iff_forall_mem] at hi0
          exact hi0 o (Array.mem_of_getElem? ho)
        refine stepSim_apply hC h (sq148 (P := P) (S := S) hC.stands hC.maps (ρ := fr.eval) (fun f => rfl) hmild) (fun w t cs main => ?_) ht (fun d a b c e => by cases e) ⟨hm, _, _, _, _, ht⟩
        obtain ⟨fn, tmps, todo, defers, mode, kind, roundOf⟩ := fr
        obtain rfl : todo = _ := ht
        obtain rfl : mode = _ := hm
        obtain rfl : roundOf = _ := hro
        simp only [ho, Option.map_some, Option.getD_some] at hw
        simp [Frame.app, G, stepG, stepG.exec, stepG.oper, Frame.oper?, hw, ho]
        rfl
theorem stepSim_draw (h : Fit F fr) (hm : fr.mode = .run) {id : Nat} {ops : Array Oper} {k : List Item} (ht : fr.todo = .code (.region id ops true) :: k) : StepSim P S F fr T := fun x w hT => by
  have hk : ∀ x ∈ k, okItem F x = true := fun x hx => h.todo x (ht ▸ List.mem_cons_of_mem _ hx)
  have hi0 : okItem F (.code (.region id ops true)) = true := h.todo _ (ht ▸ List.mem_cons_self ..)
  refine ⟨1, fun _ => w.tape w.drawn (.order fr.fn id), .inr ⟨.to { fr with todo := .inRegion ops (Region.schedule (P.follows .mixedOrders) ops (w.tape w.drawn (.order fr.fn id))) :: k }, x, { w with drawn := w.drawn + 1 }, #[], h.with (fun y hy => ?_), trivial, hT.mvr w.tape _, rfl, Nat.le_refl _, ⟨fun _ _ _ h => h, fun _ _ _ h _ => h⟩, by simp, fun t cs main _ _ => ?_, fun τ d t c cs main _ hA => ⟨#[], ?_⟩⟩⟩
  · rcases List.mem_cons.1 hy with rfl | hy
    · exact hi0
    · exact hk y hy
  · obtain ⟨fn, tmps, todo, defers, mode, kind, roundOf⟩ := fr
    obtain rfl : todo = _ := ht
    obtain rfl : mode = _ := hm
    simp [Frame.app, FStep.app, G, stepG, stepG.exec, choose, Sem.run, Question.forced, Question.cut, FStep.gor]
  · have h0 := hA 0 (by omega) (.order fr.fn id)
    obtain ⟨fn, tmps, todo, defers, mode, kind, roundOf⟩ := fr
    obtain rfl : todo = _ := ht
    obtain rfl : mode = _ := hm
    simp only [Nat.add_zero] at h0
    simp [Frame.app, FStep.app, G, stepG, stepG.exec, choose, Sem.run, Question.forced, Question.cut, FStep.gor, under, h0]
theorem stepSim_panicking (hC : Closed P S F) (h : Fit F fr) {ch : List PanicEntry} (hm : fr.mode = .panicking ch) : StepSim P S F fr T := fun x w hT => by
  obtain ⟨f, h1⟩ := hC.there h
  have hd := h.defers
  have hst : ∀ w t c cs main, stepG P main (G (fr.app t) (c :: cs)) w = .go (G (c.raise ch) cs) w := fun w t c cs main => by
    obtain ⟨fn, tmps, todo, defers, mode, kind, roundOf⟩ := fr
    obtain rfl : mode = _ := hm
    obtain rfl : defers = _ := hd
    simp [Frame.app, G, stepG, unwind, Frame.catches, h1]
  exact ⟨0, fun _ => 0, .inr ⟨.raise ch, x, w, #[], trivial, ⟨_, hm⟩, hT, rfl, Nat.le_refl _, .refl _ _, by simp, fun t cs main _ hcs => (by cases cs with | nil => (have := hcs rfl; rw [hm] at this; cases this) | cons c cs => exact hst w t c cs main), fun τ d t c cs main _ _ => ⟨#[], hst _ t c cs main⟩⟩⟩
theorem stepSim_returning (hC : Closed P S F) (h : Fit F fr) (hm : fr.mode = .returning) : StepSim P S F fr T := fun x w hT => by
  obtain ⟨f, h1⟩ := hC.there h
  have hd := h.defers
  have hki := h.kind
  have hst : ∀ w t c cs main, stepG P main (G (fr.app t) (c :: cs)) w = GStep.after (seen P fr.fn ((results f fr.tmps).events P w #[])) (match (results f fr.tmps).run P w with
      | .ok v w => .go (G (c.finish v) cs) w
      | .halt (.stuck s) w => .ended (.stuck s ((fr.app t).pos P)) w
      | .halt _ w => .ended (.stuck "return: the result variables cannot be read" ((fr.app t).pos P)) w) := fun w t c cs main => by
    obtain ⟨fn, tmps, todo, defers, mode, kind, roundOf⟩ := fr
    obtain rfl : mode = _ := hm
    obtain rfl : defers = _ := hd
    obtain rfl : kind = _ := hki
    simp only [Frame.app, G, stepG, unwind, h1, Sem.runT_eq]
    congr 1
  obtain ⟨n, g, hb | ⟨r, hf, hr, evs, he, hev⟩⟩ := sq152 (P := P) (S := S) (fn := f) (tmps := fr.tmps) x w hT
  · refine ⟨n, g, .inl fun τ d c cs main t _ hA => ?_⟩
    obtain ⟨hh, y, e, hbad⟩ := hb τ d hA
    rw [hst, e]
    cases hh <;> exact ⟨_, _, _, rfl⟩
  · have hstay := Stay.of_events (P := P) (S := S) (w := w) (s := results f fr.tmps) (B := (Result.world ((results f fr.tmps).run P w)).heap.size) fun e hm => hev e (by rw [he] at hm; simpa using hm)
    cases hw : (results f fr.tmps).run P w with
    | halt hh w₁ =>
      rw [hw] at hf
      cases hf with
      | @panic v y _ _ _ _ =>
        refine ⟨n, g, .inl fun τ d c cs main t _ hA => ?_⟩
        rw [hst, hr τ d hA]
        exact ⟨_, _, _, rfl⟩
    | ok b w₁ =>
      rw [hw] at hf hev hstay
      cases hf with
      | @ok a _ y _ hN hT₁ ht hsz =>
        obtain ⟨rfl, _⟩ := hN
        refine ⟨n, g, .inr ⟨.pop a, y, w₁, seen P fr.fn ((results f fr.tmps).events P w #[]) ++ #[], trivial, hm, hT₁, ht, hsz, hstay, fun e hm => ?_, fun t cs main _ hcs => ?_, fun τ d t c cs main _ hA => ?_⟩⟩
        · have hm' : e ∈ seen P fr.fn ((results f fr.tmps).events P w #[]) := by simpa using hm
          have := mem_seen hm'
          rw [he] at this
          exact hev e (by simpa using this)
        · cases cs with
          | nil => have := hcs rfl; rw [hm] at this; cases this
          | cons c cs => rw [hst, hw]; rfl
        · rw [hst, hr τ d hA]; exact ⟨_, rfl⟩
/-- EVERY STEP OF A FRAME ALL OF WHOSE OPERATIONS ARE MILD; where it has nothing to do any more, nothing stands behind. -/
theorem step_sim (hC : Closed P S F) (h : Fit F fr) (hT : fr.todo = [] → fr.mode = .run → ∀ t, T t → t = []) : StepSim P S F fr T := by
  cases hm : fr.mode with
  | returning => exact stepSim_returning hC h hm
  | panicking ch => exact stepSim_panicking hC h hm
  | run =>
    cases ht : fr.todo with
    | nil =>
      refine stepSim_to (h.mode .returning) fun w t cs main ht₂ => ?_
      obtain rfl := hT ht hm t ht₂
      have hro := h.round
      obtain ⟨fn, tmps, todo, defers, mode, kind, roundOf⟩ := fr
      obtain rfl : todo = _ := ht
      obtain rfl : mode = _ := hm
      obtain rfl : roundOf = _ := hro
      simp [Frame.app, G, stepG, stepG.exec]
    | cons i k =>
      by_cases h1 : ∃ ops l, i = .inRegion ops l
      · obtain ⟨ops, l, rfl⟩ := h1; exact stepSim_region hC h hm ht
      · by_cases h2 : ∃ id ops, i = .code (.region id ops true)
        · obtain ⟨id, ops, rfl⟩ := h2; exact stepSim_draw h hm ht
        · exact stepSim_ctl h hm ht (fun ops l e => h1 ⟨ops, l, e⟩) (fun id ops e => h2 ⟨id, ops, e⟩)
theorem app_nil (fr : Frame) : fr.app [] = fr := by unfold Frame.app; rw [List.append_nil]
theorem app_nilS (s : FStep) : s.app [] = s := by cases s <;> simp [FStep.app, app_nil]
/-- .. with nothing behind. -/
theorem step_sim0 (hC : Closed P S F) (h : Fit F fr) (x w : World) (hT : Thaw S x w) : ∃ (n : Nat) (f : Nat → Nat),
    (∀ τ d c cs main, Agree τ d n f → ∃ o y es, stepG P main (G fr (c :: cs)) (under x τ d) = .ended o y es) ∨
    ∃ (s : FStep) (y w' : World) (es : Array Event), s.Fit F ∧ s.from fr ∧ Thaw S y w' ∧ outer w' = outer w ∧ w.heap.size ≤ w'.heap.size ∧ Stay S w w' ∧ (∀ e ∈ es, EvG S w'.heap.size e) ∧
      (∀ cs main, (cs = [] → fr.mode = .run) → stepG P main (G fr cs) w = .go (s.gor cs) w' es) ∧
      ∀ τ d c cs main, Agree τ d n f → ∃ es', stepG P main (G fr (c :: cs)) (under x τ d) = .go (s.gor (c :: cs)) (under y τ (d + n)) es' := by
  obtain ⟨n, f, h1 | ⟨s, y, w', es, a1, a0, a2, a3, a4, a5, a6, a7, a8⟩⟩ := step_sim (T := fun t => t = []) hC h (fun _ _ _ e => e) x w hT
  · exact ⟨n, f, .inl fun τ d c cs main hA => by have := h1 τ d c cs main [] ⟨fun _ => rfl, fun _ => rfl⟩ hA; rwa [app_nil] at this⟩
  · refine ⟨n, f, .inr ⟨s, y, w', es, a1, a0, a2, a3, a4, a5, a6, fun cs main hcs => ?_, fun τ d c cs main hA => ?_⟩⟩
    · have := a7 [] cs main rfl hcs; rwa [app_nil, app_nilS] at this
    · have := a8 τ d [] c cs main rfl hA; rwa [app_nil, app_nilS] at this
end
end Go.Proofs.Ytecmobjiepgfjaa

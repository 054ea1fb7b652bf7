/- The judgement J in a ghost world: a send that gives the token away, a go statement, deferred calls, recover, panics. -/
import Derived.Test.YtecmobjiepgfjaaTkE
namespace Go.Proofs.Ytecmobjiepgfjaa
open Go.Conc
open Go.ConcN (upd upd_same upd_ne)
set_option linter.unusedSimpArgs false
set_option linter.unusedVariables false
section
variable {P : Program} {Post : Value → World → Prop} {C : Ctx} {g g' : Goroutine} {x : World} {b : Frame} {a : Act} {k : List Item} {cs : List Frame}
theorem Thaw.seat {S : Prot} {x w : World} (h : Thaw S x w) {B : Nat} {Ch : Nat → Option Chair} {hh : Nat} {s : Chair} (f : Free B Ch hh x s) : Free B Ch hh w s := by
  obtain ⟨kk, hk⟩ := f.open_
  exact ⟨f.low, ⟨kk, h.obj (fun _ _ _ e => by cases e) hk⟩, f.own, fun a v hv => by rw [← h.cell? a]; exact f.keep a v hv⟩
theorem served_G (fr : Frame) (cs : List Frame) (v : Value) : Go.Conc.served (G fr cs) v = G (fr.finish v) cs := rfl
section
variable {ops : Array Oper} {i : Nat} {rest : List Nat} {o : Oper}
theorem served_at (ho : ops[i]? = some o) (v : Value) : Go.Conc.served (G (b.at a (.inRegion ops (i :: rest) :: k)) cs) v = G (b.at (a.put o.dst v) (.inRegion ops rest :: k)) cs := by
  rw [served_G, Frame.finish_at, ho]; rfl
/-- A send on the channel of j's chair. -/
theorem JG.give {j : Nat} {s : Chair} {v z' : Value} (hd : C.d = 0) (hjh : j ≠ C.h) (hj : C.Ch j = some s) (ho : ops[i]? = some o) (hw : Region.wanted o (yielded ops a.tmps) = true) (hk : b.kind ≠ .early)
    (hr : ∀ w, (execOp a.eval o).run P w = .ok (.comm #[scase s.c v z'] true .send) w) (he : ∀ w, (execOp a.eval o).events P w #[] = #[])
    (new : Option Chair) (hnew : ∀ s', new = some s' → Free x.heap.size C.Ch C.h x s') (hfr : ∀ s', new = some s' → ∀ ad v, s'.kn ad v → x.frozen? ad = true)
    (hafter : ∃ nh, ∀ T', Deaf T' C.h = 0 → Rest P x.heap.size T' C.h nh (G (b.at (a.put o.dst undef) (.inRegion ops rest :: k)) cs) new)
    (hnext : ∀ g₂ kk, s.home g₂ → x.heap[s.c]? = some (.chan 0 #[] false kk kk false) → JG P Post { Ch := upd C.Ch C.h new, h := j, d := 0, n := C.n, lo := C.lo, io := C.io } (Go.Conc.served g₂ v) (x.setChan s.c 0 #[] false (kk + 1) (kk + 1) false)) :
    JG P Post C (G (b.at a (.inRegion ops (i :: rest) :: k)) cs) x := fun w hT => by
  have hsz := hT.size
  refine J.give (es := #[]) hd hjh hj rfl (fun kk => by rw [stepG_comm ho hw hk (hr _), listed_none (he _)]) (by simp) new (fun s' e => by rw [← hsz]; exact hT.seat (hnew s' e)) ?_ ?_
  · rw [← hsz, served_at ho]; exact hafter
  · intro g₂ kk hh hc
    have hcx : x.heap[s.c]? = some (.chan 0 #[] false kk kk false) := by
      rcases hT.cases s.c with ⟨_, h2⟩ | ⟨o', o₂, h1, h2, rfl | ⟨c, t, f', f, rfl, rfl, _⟩⟩
      · rw [h2] at hc; cases hc
      · rw [h1, ← h2, hc]
      · rw [h2] at hc; cases hc
    refine hnext g₂ kk hh hcx _ ?_
    have := hT.set hcx (fun _ _ _ e => by cases e) (.chan 0 #[] false (kk + 1) (kk + 1) false)
    refine Thaw.other (x := x.setChan s.c 0 #[] false (kk + 1) (kk + 1) false) this (fun ad had => ?_) (Nat.le_refl _)
    have h1 : x.frozen? ad = true := by
      obtain ⟨i', s', v', hi, e, hv⟩ := had
      have e : upd C.Ch C.h new i' = some s' := e
      by_cases ei : i' = C.h
      · subst ei
        rw [upd_same] at e
        exact hfr s' e ad v' hv
      · rw [upd_ne C.Ch new ei] at e
        exact hT.still ad ⟨i', s', v', ei, e, hv⟩
    unfold World.frozen? at h1 ⊢
    simp only [World.setChan]
    by_cases e : s.c = ad.block
    · rw [← e, hcx] at h1; cases h1
    · rw [Array.getElem?_setIfInBounds_ne e]; exact h1
/-- A go statement: the child is on its way to a chair of its own. -/
theorem JG.hire {d : Deferred} {f : Fn} {c : Array Value} (hd : C.d = 0) (ho : ops[i]? = some o) (hw : Region.wanted o (yielded ops a.tmps) = true) (hk : b.kind ≠ .early)
    (hr : ∀ w, (execOp a.eval o).run P w = .ok (.spawn d) w) (hdt : d.target = .fn f c) (he : ∀ w, (execOp a.eval o).events P w #[] = #[])
    (s : Chair) (hs : Free x.heap.size C.Ch C.h x s) (hfr : ∀ ad v, s.kn ad v → x.frozen? ad = true) (hchild : ∃ nc, SitC P x.heap.size C.n s nc (born P d))
    (hnext : JG P Post { Ch := upd C.Ch C.n (some s), h := C.h, d := 0, n := C.n + 1, lo := C.lo, io := C.io } (G (b.at (a.put o.dst undef) (.inRegion ops rest :: k)) cs) x) :
    JG P Post C (G (b.at a (.inRegion ops (i :: rest) :: k)) cs) x := fun w hT => by
  have hsz := hT.size
  refine J.hire (es := #[]) hd rfl (fun kk => by rw [stepG_spawn ho hw hk (hr _) hdt, listed_none (he _)]) (by simp) s (by rw [← hsz]; exact hT.seat hs) (by rw [← hsz]; exact hchild) ?_
  refine hnext w (hT.other (fun ad had => ?_) (Nat.le_refl _))
  obtain ⟨i, s', v, hi, e, hv⟩ := had
  by_cases ei : i = C.n
  · subst ei
    have e : upd C.Ch C.n (some s) C.n = some s' := e
    rw [upd_same] at e
    obtain rfl := Option.some.inj e
    exact hfr ad v hv
  · have e : upd C.Ch C.n (some s) i = some s' := e
    rw [upd_ne C.Ch _ ei] at e
    exact hT.still ad ⟨i, s', v, hi, e, hv⟩
theorem stepG_defer1 {main : Bool} {w : World} {d : Deferred} (ho : ops[i]? = some o) (hw : Region.wanted o (yielded ops a.tmps) = true) (hk : b.kind ≠ .early) (hr : ∀ w, (execOp a.eval o).run P w = .ok (.defer d) w) (he : ∀ w, (execOp a.eval o).events P w #[] = #[]) :
    stepG P main (G (b.at a (.inRegion ops (i :: rest) :: k)) cs) w = .go (G (b.at (Act.put ⟨a.tmps, d :: a.defers⟩ o.dst undef) (.inRegion ops rest :: k)) cs) w := by
  have hfin : (b.at ⟨a.tmps, d :: a.defers⟩ (.inRegion ops (i :: rest) :: k)).finish undef = b.at (Act.put ⟨a.tmps, d :: a.defers⟩ o.dst undef) (.inRegion ops rest :: k) := by rw [Frame.finish_at, ho]; rfl
  have hk' : (b.kind == CallKind.early) = false := by simpa using hk
  rw [stepG_oper ho hw, ← hfin]
  simp [stepG.apply, hr, he, G, Frame.at, hk', GStep.after, seen_none]
/-- A deferral. -/
theorem JG.defer {d : Deferred} (ho : ops[i]? = some o) (hw : Region.wanted o (yielded ops a.tmps) = true) (hk : b.kind ≠ .early) (hr : ∀ w, (execOp a.eval o).run P w = .ok (.defer d) w) (he : ∀ w, (execOp a.eval o).events P w #[] = #[])
    (h : JG P Post C (G (b.at (Act.put ⟨a.tmps, d :: a.defers⟩ o.dst undef) (.inRegion ops rest :: k)) cs) x) : JG P Post C (G (b.at a (.inRegion ops (i :: rest) :: k)) cs) x :=
  .ctl rfl (fun main w => stepG_defer1 ho hw hk hr he) h
/-- recover, where nobody panics. -/
theorem JG.recover0 (ho : ops[i]? = some o) (hw : Region.wanted o (yielded ops a.tmps) = true) (hk : b.kind ≠ .early) (hr : ∀ w, (execOp a.eval o).run P w = .ok .recover w) (he : ∀ w, (execOp a.eval o).events P w #[] = #[])
    (ht : tryRecover (b.at a (.inRegion ops (i :: rest) :: k)) cs = none)
    (h : JG P Post C (G (b.at (a.put o.dst .nilIface) (.inRegion ops rest :: k)) cs) x) : JG P Post C (G (b.at a (.inRegion ops (i :: rest) :: k)) cs) x := by
  refine .ctl rfl (fun main w => ?_) h
  have hfin : (b.at a (.inRegion ops (i :: rest) :: k)).finish .nilIface = b.at (a.put o.dst .nilIface) (.inRegion ops rest :: k) := by rw [Frame.finish_at, ho]; rfl
  have hk' : (b.kind == CallKind.early) = false := by simpa using hk
  rw [stepG_oper ho hw, ← hfin]
  have hro : (b.at a (.inRegion ops (i :: rest) :: k)).roundOf = none := rfl
  simp only [stepG.apply, Sem.runT_eq, hr, he, GStep.after, seen_none, hro, ht]
  simp [G, Frame.at, hk', seen_none]
/-- recover, behind a panic. -/
theorem JG.recover1 {v : Value} {cs' : List Frame} (ho : ops[i]? = some o) (hw : Region.wanted o (yielded ops a.tmps) = true) (hk : b.kind ≠ .early) (hr : ∀ w, (execOp a.eval o).run P w = .ok .recover w) (he : ∀ w, (execOp a.eval o).events P w #[] = #[])
    (ht : tryRecover (b.at a (.inRegion ops (i :: rest) :: k)) cs = some (v, cs'))
    (h : JG P Post C (G (b.at (a.put o.dst v) (.inRegion ops rest :: k)) cs') x) : JG P Post C (G (b.at a (.inRegion ops (i :: rest) :: k)) cs) x := by
  refine .ctl rfl (fun main w => ?_) h
  have hfin : (b.at a (.inRegion ops (i :: rest) :: k)).finish v = b.at (a.put o.dst v) (.inRegion ops rest :: k) := by rw [Frame.finish_at, ho]; rfl
  have hk' : (b.kind == CallKind.early) = false := by simpa using hk
  rw [stepG_oper ho hw, ← hfin]
  have hro : (b.at a (.inRegion ops (i :: rest) :: k)).roundOf = none := rfl
  simp only [stepG.apply, Sem.runT_eq, hr, he, GStep.after, seen_none, hro, ht]
  simp [G, Frame.at, hk', seen_none]
/-- A panic. -/
theorem JG.panic {v : Value} (ho : ops[i]? = some o) (hw : Region.wanted o (yielded ops a.tmps) = true) (hk : b.kind ≠ .early) (hr : ∀ w, (execOp a.eval o).run P w = .halt (.panic v) w) (he : ∀ w, (execOp a.eval o).events P w #[] = #[])
    (h : JG P Post C (G { b.at a (.inRegion ops (i :: rest) :: k) with mode := .panicking [{ v, recovered := false }] } cs) x) : JG P Post C (G (b.at a (.inRegion ops (i :: rest) :: k)) cs) x := by
  refine .ctl rfl (fun main w => ?_) h
  have hk' : (b.kind == CallKind.early) = false := by simpa using hk
  rw [stepG_oper ho hw]
  simp [stepG.apply, hr, he, G, Frame.at, hk', GStep.after, seen_none, Frame.raise]
end
/-- A frame on its way out makes its next deferred call. -/
theorem stepG_unwind {main : Bool} {w : World} {d : Deferred} {ds : List Deferred} {f : FuncId} {c : Array Value} {fn : Func} {todo : List Item} {m : FrameMode} (hd : a.defers = d :: ds) (ht : d.target = .fn (.func f) c) (hf : P.funcs[f]? = some fn) (hname : (fn.name == "runtime.NumGoroutine") = false) (hb : fn.body.isNone = false) :
    stepG P main (G { b.at a todo with mode := m } cs) w = (match m with | .run => stepG P main (G { b.at a todo with mode := m } cs) w | _ => .go (G (Frame.enter P f (d.args ++ c) .deferred) ({ b.at ⟨a.tmps, ds⟩ todo with mode := m } :: cs)) w) := by
  obtain ⟨t, as⟩ := d
  simp only at ht
  subst ht
  have h1 : ¬ fn.name = "runtime.NumGoroutine" := by simpa using hname
  have h2 : ¬ fn.body = none := by intro e; rw [e] at hb; cases hb
  cases m with
  | run => rfl
  | returning => simp [G, stepG, unwind, callDeferred, Frame.at, hd, invoke, callFunc, hf, h1, h2, GStep.after, seen_none]
  | panicking ch => simp [G, stepG, unwind, callDeferred, Frame.at, hd, invoke, callFunc, hf, h1, h2, GStep.after, seen_none]
theorem JG.unwind {d : Deferred} {ds : List Deferred} {f : FuncId} {c : Array Value} {fn : Func} {todo : List Item} {m : FrameMode} (hm : m ≠ .run) (hd : a.defers = d :: ds) (ht : d.target = .fn (.func f) c) (hf : P.funcs[f]? = some fn) (hname : (fn.name == "runtime.NumGoroutine") = false) (hb : fn.body.isNone = false)
    (h : JG P Post C (G (Frame.enter P f (d.args ++ c) .deferred) ({ b.at ⟨a.tmps, ds⟩ todo with mode := m } :: cs)) x) : JG P Post C (G { b.at a todo with mode := m } cs) x :=
  .ctl rfl (fun main w => by rw [stepG_unwind hd ht hf hname hb]; cases m <;> first | exact absurd rfl hm | rfl) h
/-- A deferred call without results returns. -/
def behindDeferred (c : Frame) : Frame :=
  match c.mode with
  | .panicking ({ recovered := true, .. } :: older) => match older.dropWhile (!·.goexit) with
    | [] => { c with mode := .returning }
    | rest => { c with mode := .panicking rest }
  | _ => c
theorem stepG_leaveD {main : Bool} {w : World} {c : Frame} {fn : Func} {todo : List Item} (hk : b.kind = .deferred) (hd : a.defers = []) (hf : P.funcs[b.fn]? = some fn) (hr : fn.results = #[]) :
    stepG P main (G { b.at a todo with mode := .returning } (c :: cs)) w = .go (G (behindDeferred c) cs) w := by
  have h1 := results_none hr a.tmps P w
  have h2 := events_results_none (P := P) (w := w) hr a.tmps #[]
  simp only [G, Frame.at, hk, hd, stepG, unwind, hf, Sem.runT_eq, h1, h2, doReturn, GStep.after, seen_none]
  rfl
theorem JG.leaveD {c : Frame} {fn : Func} {todo : List Item} (hk : b.kind = .deferred) (hd : a.defers = []) (hf : P.funcs[b.fn]? = some fn) (hr : fn.results = #[]) (h : JG P Post C (G (behindDeferred c) cs) x) :
    JG P Post C (G { b.at a todo with mode := .returning } (c :: cs)) x := .ctl rfl (fun main w => stepG_leaveD hk hd hf hr) h
/-- A panic goes on to the caller. -/
theorem stepG_raise {main : Bool} {w : World} {c : Frame} {fn : Func} {todo : List Item} {ch : List PanicEntry} (hd : a.defers = []) (hf : P.funcs[b.fn]? = some fn) :
    stepG P main (G { b.at a todo with mode := .panicking ch } (c :: cs)) w = .go (G (c.raise ch) cs) w := by
  simp [G, Frame.at, stepG, unwind, hd, Frame.catches, hf]
theorem JG.raise {c : Frame} {fn : Func} {todo : List Item} {ch : List PanicEntry} (hd : a.defers = []) (hf : P.funcs[b.fn]? = some fn) (h : JG P Post C (G (c.raise ch) cs) x) : JG P Post C (G { b.at a todo with mode := .panicking ch } (c :: cs)) x :=
  .ctl rfl (fun main w => stepG_raise hd hf) h
/-- A goroutine just born makes its call. -/
def rootF (P : Program) : Frame := { (default : Frame) with fn := P.funcs.size, defers := [], mode := .panicking [goexitEntry] }
theorem stepG_born {main : Bool} {w : World} {d : Deferred} {f : FuncId} {c : Array Value} {fn : Func} (ht : d.target = .fn (.func f) c) (hf : P.funcs[f]? = some fn) (hname : (fn.name == "runtime.NumGoroutine") = false) (hb : fn.body.isNone = false) :
    stepG P main (born P d) w = .go (G (Frame.enter P f (d.args ++ c) .deferred) [rootF P]) w := by
  obtain ⟨t, as⟩ := d
  simp only at ht
  subst ht
  have h1 : ¬ fn.name = "runtime.NumGoroutine" := by simpa using hname
  have h2 : ¬ fn.body = none := by intro e; rw [e] at hb; cases hb
  simp [born, G, stepG, unwind, callDeferred, invoke, callFunc, hf, h1, h2, GStep.after, seen_none, rootF]
/-- .. and in the end has ended. -/
theorem stepG_root {w : World} : stepG P false (G (rootF P) []) w = .go { frame := rootF P, callers := [], status := .finished, dying := none } w := by
  simp [G, rootF, stepG, unwind, Frame.catches, goexitEntry]
  rfl
theorem quits_root : QuitsD P 1 0 (G (rootF P) []) := .ctl rfl (fun w => stepG_root) ⟨rfl, rfl⟩
/-- The end of the run. -/
theorem JG.end {fn : Func} {todo : List Item} {v : Value} (h0 : C.h = 0) (hd : C.d = 0) (hI : ∀ i, i ≠ 0 → C.Ch i = none) (hk : b.kind = .normal) (hds : a.defers = []) (hf : P.funcs[b.fn]? = some fn) (hin : P.inits.idxOf? b.fn = none)
    (hr : ∀ w, Thaw C.prot x w → ∀ d, (results fn a.tmps).run P (w.at d) = .ok v (w.at d)) (he : ∀ w, (results fn a.tmps).events P w #[] = #[]) (hpost : ∀ w, Thaw C.prot x w → ioOf w = C.io → ∀ d, Post v (w.at d)) :
    JG P Post C (G { b.at a todo with mode := .returning } []) x := fun w hT =>
  J.end h0 hd hI rfl fun d => ⟨v, #[], by
    simp only [G, Frame.at, hk, hds, stepG, Go.unwind, hf, Sem.runT_eq, hr w hT d, he, doReturn, GStep.after, seen_none, hin]
    rfl, by simp, fun hio => hpost w hT hio d⟩
end
end Go.Proofs.Ytecmobjiepgfjaa

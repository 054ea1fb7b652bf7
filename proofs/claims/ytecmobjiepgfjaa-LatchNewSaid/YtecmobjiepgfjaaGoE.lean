/- The primitives, on: objects, marks; what memory's words are made of. -/
import Derived.Test.YtecmobjiepgfjaaGoD
namespace Go.Proofs.Ytecmobjiepgfjaa
open Go.Conc
set_option linter.unusedSimpArgs false
section
variable {P : Program} {S : Prot} {α β : Type} {N : α → Prop}
theorem obj_lt {w : World} {r : Nat} {o : Obj} (h : w.heap[r]? = some o) : r < w.heap.size := by
  rcases Nat.lt_or_ge r w.heap.size with l | l
  · exact l
  · rw [Array.getElem?_eq_none l] at h; cases h
theorem sim_getObj {r : Nat} : Sim P S (fun o => ∀ c t f, o ≠ .cells c t f) (getObj r) := fun x w hT => by
  have hux : ∀ τ d, (under x τ d).heap[r]? = x.heap[r]? := fun _ _ => rfl
  rcases hT.cases r with ⟨h1, h2⟩ | ⟨o', o, h1, h2, rfl | ⟨c, t, f', f, rfl, rfl, _⟩⟩
  · exact ⟨0, fun _ => 0, .inl fun τ d _ => ⟨.stuck "getObj: no such block", under x τ d, by simp only [getObj, Sem.run, hux, h1], trivial⟩⟩
  · by_cases hc : ∃ c t f, o' = .cells c t f
    · obtain ⟨c, t, f, rfl⟩ := hc
      exact ⟨0, fun _ => 0, .inl fun τ d _ => ⟨.stuck "getObj: a row of cells", under x τ d, by simp only [getObj, Sem.run, hux, h1], trivial⟩⟩
    · have hne : ∀ c t f, o' ≠ .cells c t f := fun c t f e => hc ⟨c, t, f, e⟩
      have hrun : ∀ w : World, w.heap[r]? = some o' → (getObj r).run P w = .ok o' w := by
        intro w hw
        simp only [getObj, Sem.run, hw]
      have hevs : ∀ (w : World) es, w.heap[r]? = some o' → (getObj r).events P w es = es.push ⟨.obj r, false, o'.isChan⟩ := by
        intro w es hw
        simp only [getObj, Sem.events, Sem.runT, hw]
      refine ⟨0, fun _ => 0, .inr ⟨.ok o' x, ?_, fun τ d _ => ?_, #[⟨.obj r, false, o'.isChan⟩], fun es => ?_, ?_⟩⟩
      · rw [hrun w h2]; exact .ok ⟨rfl, hne⟩ hT rfl (Nat.le_refl _)
      · rw [hrun _ (by rw [hux]; exact h1)]; rfl
      · rw [hevs w es h2]; rfl
      · rw [hrun w h2]
        intro e he
        obtain rfl := by simpa using he
        exact evG_obj (by simp) (obj_lt h2)
  · exact ⟨0, fun _ => 0, .inl fun τ d _ => ⟨.stuck "getObj: a row of cells", under x τ d, by simp only [getObj, Sem.run, hux, h1], trivial⟩⟩
theorem sim_setObj {r : Nat} {o : Obj} (hr : ¬ S.objs r) : Sim P S (fun _ => True) (setObj r o) := fun x w hT => by
  have hux : ∀ τ d, (under x τ d).heap[r]? = x.heap[r]? := fun _ _ => rfl
  rcases hT.cases r with ⟨h1, h2⟩ | ⟨o', o₂, h1, h2, rfl | ⟨c, t, f', f, rfl, rfl, _⟩⟩
  · exact ⟨0, fun _ => 0, .inl fun τ d _ => ⟨.stuck "setObj: no such block", under x τ d, by simp only [setObj, Sem.run, hux, h1], trivial⟩⟩
  · by_cases hc : ∃ c t f, o' = .cells c t f
    · obtain ⟨c, t, f, rfl⟩ := hc
      exact ⟨0, fun _ => 0, .inl fun τ d _ => ⟨.stuck "setObj: a row of cells", under x τ d, by simp only [setObj, Sem.run, hux, h1], trivial⟩⟩
    · have hne : ∀ c t f, o' ≠ .cells c t f := fun c t f e => hc ⟨c, t, f, e⟩
      have hrun : ∀ w : World, w.heap[r]? = some o' → (setObj r o).run P w = .ok () { w with heap := w.heap.setIfInBounds r o } := by
        intro w hw
        simp only [setObj, Sem.run, hw]
      have hevs : ∀ (w : World) es, w.heap[r]? = some o' → (setObj r o).events P w es = es.push ⟨.obj r, true, o.isChan⟩ := by
        intro w es hw
        simp only [setObj, Sem.events, Sem.runT, hw]
      refine ⟨0, fun _ => 0, .inr ⟨.ok () { x with heap := x.heap.setIfInBounds r o }, ?_, fun τ d _ => ?_, #[⟨.obj r, true, o.isChan⟩], fun es => ?_, ?_⟩⟩
      · rw [hrun w h2]; exact .ok ⟨rfl, trivial⟩ (hT.set h1 hne o) rfl (by simp)
      · rw [hrun _ (by rw [hux]; exact h1)]; rfl
      · rw [hevs w es h2]; rfl
      · rw [hrun w h2]
        intro e he
        obtain rfl := by simpa using he
        exact evG_obj (fun _ => hr) (by simpa [Result.world] using obj_lt h2)
  · exact ⟨0, fun _ => 0, .inl fun τ d _ => ⟨.stuck "setObj: a row of cells", under x τ d, by simp only [setObj, Sem.run, hux, h1], trivial⟩⟩
theorem sim_mark {m : Mark} (h1 : ∀ a, m ≠ .acquire a ∧ m ≠ .release a ∧ m ≠ .releaseMerge a ∧ m ≠ .read a ∧ m ≠ .write a) (h2 : m ≠ .disable) (h3 : m ≠ .enable) : Sim P S (fun _ => True) (mark m) := fun x w hT =>
  ⟨0, fun _ => 0, .inr ⟨.ok () x, .ok ⟨rfl, trivial⟩ hT rfl (Nat.le_refl _), fun τ d _ => rfl, #[⟨.mark m, false, true⟩], fun es => rfl, fun e he => by
    obtain rfl := by simpa using he
    refine ⟨fun h => (by cases h), fun h => (by cases h), fun m' e => ?_, ?_⟩
    · injection e with e; subst e
      exact ⟨h2, h3, fun a => ⟨(h1 a).2.2.2.1, (h1 a).2.2.2.2⟩⟩
    · cases m <;> first | trivial | exact absurd rfl (h1 _).1 | exact absurd rfl (h1 _).2.1 | exact absurd rfl (h1 _).2.2.1 | exact absurd rfl (h1 _).2.2.2.1 | exact absurd rfl (h1 _).2.2.2.2⟩⟩
theorem sim_askRoom {n : Nat} : Sim P S (fun _ => True) (askRoom n) := by
  unfold askRoom
  split
  · exact sim_mark (by simp) (by simp) (by simp)
  · exact Sim.pure trivial
theorem sim_typeInfo {t : TypeId} : Sim P S (fun _ => True) (typeInfo t) := by
  unfold typeInfo
  refine sim_program.bind fun p hp => ?_
  split
  · exact Sim.pure trivial
  · exact sim_stuck
theorem sim_underlying {t : TypeId} : Sim P S (fun _ => True) (underlying t) := by
  unfold underlying
  refine sim_program.bind fun p hp => ?_
  split
  · exact Sim.pure trivial
  · exact sim_stuck
theorem sim_zeroValue {t : TypeId} : Sim P S (fun _ => True) (zeroValue t) := by
  unfold zeroValue
  refine sim_typeInfo.bind fun p hp => ?_
  split
  · exact Sim.pure trivial
  · exact sim_unsupported
theorem sim_sizeOf {t : TypeId} : Sim P S (fun _ => True) (sizeOf t) := by
  unfold sizeOf
  exact sim_typeInfo.bind fun p hp => Sim.pure trivial
theorem sim_isAgg {t : TypeId} : Sim P S (fun _ => True) (isAgg t) := by
  unfold isAgg
  refine sim_underlying.bind fun p hp => ?_
  split <;> exact Sim.pure trivial
theorem sim_loadCellsFrom {a : Addr} : ∀ (n i : Nat) (acc : Array Value), Sim P S (fun _ => True) (loadCellsFrom a i n acc)
  | 0, _, _ => Sim.pure trivial
  | n + 1, i, _ => sim_load.bind fun _ _ => sim_loadCellsFrom n (i + 1) _
theorem sim_loadCells {a : Addr} {n : Nat} : Sim P S (fun _ => True) (loadCells a n) := sim_loadCellsFrom n 0 _
theorem sim_storeCells {a : Addr} : ∀ (vs : List Value) (i : Nat), Sim P S (fun _ => True) (storeCells a vs i)
  | [], _ => Sim.pure trivial
  | _ :: vs, i => sim_store.bind fun _ _ => sim_storeCells vs (i + 1)
theorem sim_loadVar {t : TypeId} {a : Addr} : Sim P S (fun _ => True) (loadVar t a) := by
  unfold loadVar
  refine sim_isAgg.bind fun b _ => ?_
  split
  · exact sim_sizeOf.bind fun n _ => sim_loadCells.bind fun _ _ => Sim.pure trivial
  · exact sim_load
theorem sim_storeVar {t : TypeId} {a : Addr} {v : Value} : Sim P S (fun _ => True) (storeVar t a v) := by
  unfold storeVar
  refine sim_sizeOf.bind fun n _ => ?_
  split
  · exact sim_stuck.bind fun _ (_ : True) => sim_storeCells _ _
  · exact (Sim.pure trivial).bind fun _ (_ : True) => sim_storeCells _ _
theorem sim_newRow {t : TypeId} {c : Array Value} : Sim P S (fun _ => True) (newRow t c) := sim_new.bind fun _ _ => Sim.pure trivial
theorem sim_newVar {t : TypeId} {v : Value} : Sim P S (fun _ => True) (newVar t v) := sim_newRow
theorem sim_elemOf {t : TypeId} : Sim P S (fun _ => True) (elemOf t) := by
  unfold elemOf
  refine sim_underlying.bind fun b _ => ?_
  split
  · exact Sim.pure trivial
  · exact sim_stuck
theorem sim_part {t : TypeId} {c : Array Value} {n : Nat} : Sim P S (fun _ => True) (part t c n) := by
  unfold part
  refine sim_isAgg.bind fun b _ => ?_
  split
  · exact sim_sizeOf.bind fun n _ => Sim.pure trivial
  · split
    · exact Sim.pure trivial
    · exact sim_stuck
theorem sim_viewAt {r : Nat} : Sim P S (fun _ => True) (viewAt r) := by
  unfold viewAt
  refine sim_shape.bind fun b _ => ?_
  split
  · exact Sim.pure trivial
  · refine sim_getObj.bind fun o _ => ?_
    split <;> exact Sim.pure trivial
theorem sim_numberAt {r : Nat} : Sim P S (fun _ => True) (numberAt r) := by
  unfold numberAt
  refine sim_shape.bind fun b _ => ?_
  split
  · exact Sim.pure trivial
  · refine sim_getObj.bind fun o _ => ?_
    split <;> exact Sim.pure trivial
theorem sim_cellsIn {r : Nat} : Sim P S (fun _ => True) (cellsIn r) := by
  unfold cellsIn
  refine sim_shape.bind fun b _ => ?_
  split
  · exact Sim.pure trivial
  · refine sim_getObj.bind fun o _ => ?_
    split <;> exact Sim.pure trivial
theorem sim_noView {a : Addr} : Sim P S (fun _ => True) (noView a) := by
  unfold noView
  refine sim_viewAt.bind fun b _ => ?_
  split
  · exact sim_unsupported
  · exact Sim.pure trivial
theorem sim_asBool {v : Value} : Sim P S (fun _ => True) (asBool v) := by
  unfold asBool
  split
  · exact Sim.pure trivial
  · exact sim_stuck
theorem sim_asString {v : Value} : Sim P S (fun _ => True) (asString v) := by
  unfold asString
  split
  · exact Sim.pure trivial
  · exact sim_stuck
theorem sim_asAgg {v : Value} : Sim P S (fun _ => True) (asAgg v) := by
  unfold asAgg
  split
  · exact Sim.pure trivial
  · exact sim_stuck
theorem sim_asIntOf {v : Value} : Sim P S (fun _ => True) (asIntOf v) := by
  unfold asIntOf
  split
  · exact Sim.pure trivial
  · exact sim_unsupported
  · exact sim_stuck
theorem sim_asInt {v : Value} : Sim P S (fun _ => True) (asInt v) := sim_asIntOf.bind fun _ _ => Sim.pure trivial
theorem sim_runtimePanic {e : RuntimeError} : Sim P S N (runtimePanic e) := by
  unfold runtimePanic
  refine sim_program.bind fun p _ => ?_
  split
  · exact sim_panic
  · exact sim_panic
  · exact sim_panic
  · exact sim_panic
  · exact sim_elemOf.bind fun t _ => sim_newVar.bind fun r _ => sim_panic
  · exact sim_elemOf.bind fun t _ => sim_newVar.bind fun r _ => sim_panic
  · exact sim_panic
theorem sim_asAddr {v : Value} : Sim P S (fun _ => True) (asAddr v) := by
  unfold asAddr
  split
  · exact Sim.pure trivial
  · exact sim_runtimePanic
  · exact sim_stuck
end
end Go.Proofs.Ytecmobjiepgfjaa

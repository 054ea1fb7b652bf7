/- A region that draws its order under J: operations that read alone, in whatever order, and some more behind them one by one. -/
import Derived.Test.YtecmobjiepgfjaaPTkG
import Derived.StillTail
import Derived.StillTailTactics
namespace Go.Proofs.Ytecmobjiepgfjaa
open Go.Conc
set_option linter.unusedSimpArgs false
set_option linter.unusedVariables false
def F00 : Fns := { fn := fun _ => false, maps := false, top := fun _ => false, ext := fun _ => false }
theorem stands00 {P : Program} : Stands P F00 := ⟨fun f h => (by cases h), fun f h => (by cases h)⟩
section
variable {P : Program} {Post : Value → World → Prop} {C : Ctx} {x : World} {b : Frame} {a : Act} {k : List Item} {cs : List Frame} {ops : Array Oper}
/-- A mild operation that leaves the world under every tape: it asks nothing, and what it yields is one. -/
theorem still_same {o : Oper} {w : World} {Kf : (Nat → Question → Nat) → Nat → Act → Prop} (hm : mild F00 o.op = true) (hT : Thaw C.prot x w) (H : ∀ τ d, o.still P a (under x τ d) (Kf τ d)) :
    (∃ v, ∀ τ d, (execOp a.eval o).run P (under x τ d) = .ok (.value v) (under x τ d) ∧ Kf τ d (a.put o.dst v)) ∨ (∀ τ d, (execOp a.eval o).run P (under x τ d) = .ok .skip (under x τ d) ∧ Kf τ d (a.put o.dst undef)) := by
  have hs := sim_execOp (P := P) (S := C.prot) (stands00 (P := P)) (fun h => by cases h) (ρ := a.eval) (fun f => rfl) hm
  obtain ⟨n, f, hb | ⟨r, hf, hr, evs, he, hev⟩⟩ := hs x (w.at 0) (hT.mvr w.tape 0)
  · exfalso
    obtain ⟨hh, y, e, hbad⟩ := hb (fun j _ => f j) 0 (fun j _ _ => by simp)
    have := H (fun j _ => f j) 0
    unfold Oper.still at this
    rw [e] at this
    exact this
  · have h0 := H (fun j _ => f j) 0
    have hr0 := hr (fun j _ => f j) 0 (fun j _ _ => by simp)
    unfold Oper.still at h0
    rw [hr0] at h0
    generalize (execOp a.eval o).run P (w.at 0) = rw0 at hf
    cases hf with
    | panic _ _ _ => exact h0.elim
    | @ok a' _ y _ hN hT₁ ht hsz =>
      obtain ⟨rfl, hN⟩ := hN
      have hall : n = 0 → under y (fun j _ => f j) 0 = under x (fun j _ => f j) 0 → ∀ τ d, (execOp a.eval o).run P (under x τ d) = .ok a' (under x τ d) := fun hn hy τ d => by
        subst hn
        rw [hr τ d (fun j h _ => absurd h (by omega))]
        have : under y τ d = under x τ d := by
          have := congrArg (fun z => under z τ d) hy
          exact this
        simp only [Result.tap, Nat.add_zero]
        rw [this]
      rcases hN with ⟨v, rfl⟩ | rfl | ⟨_, _, _, hfn⟩
      · simp only [Result.tap, Oper.stillUpon] at h0
        have hn : n = 0 := by
          have := congrArg World.drawn h0.1
          simpa [under] using this
        have hA := hall hn (by have := h0.1; rw [hn] at this; exact this)
        refine .inl ⟨v, fun τ d => ⟨hA τ d, ?_⟩⟩
        have h1 := H τ d
        unfold Oper.still at h1
        rw [hA τ d] at h1
        exact h1.2
      · simp only [Result.tap, Oper.stillUpon] at h0
        have hn : n = 0 := by
          have := congrArg World.drawn h0.1
          simpa [under] using this
        have hA := hall hn (by have := h0.1; rw [hn] at this; exact this)
        refine .inr fun τ d => ⟨hA τ d, ?_⟩
        have h1 := H τ d
        unfold Oper.still at h1
        rw [hA τ d] at h1
        exact h1.2
      · cases hfn
theorem seqB_list {md : Region.Mode} : ∀ (g k t : Nat) (listed : Array Bool), Region.seqB md ops g k listed = true → Region.linearise.go md ops g t listed [] = List.range' k g
  | 0, k, t, listed, h => by simp [Region.linearise.go]
  | g + 1, k, t, listed, h => by
    simp only [Region.seqB, Bool.and_eq_true, decide_eq_true_eq] at h
    simp only [Region.linearise.go]
    change (match (Region.ready md ops listed)[t % (Region.ready md ops listed).length]? with
      | some i => Region.linearise.go md ops g (t / (Region.ready md ops listed).length) (listed.setIfInBounds i true) [i]
      | none => [].reverse) = _
    rw [h.1]
    simp only [List.length_singleton, Nat.mod_one, List.getElem?_cons_zero]
    rw [linearise_go_acc, seqB_list g (k + 1) _ _ h.2]
    rfl
/-- In whatever order. -/
theorem JG.anyL {n g : Nat} {Q : Act → Prop} (hm : ∀ i o, i < n → ops[i]? = some o → mild F00 o.op = true) (hk : b.kind ≠ .early)
    (hQ : ∀ a', Q a' → JG P Post C (G (b.at a' (.inRegion ops (List.range' n g) :: k)) cs) x) :
    ∀ (f t : Nat) (listed : Array Bool) (a : Act), (∀ τ d, wpAnyL P .any ops (under x τ d) n (fun l a' => Region.seqB .any ops g n l = true ∧ Q a') f listed a) →
      JG P Post C (G (b.at a (.inRegion ops (Region.linearise.go .any ops (f + g) t listed []) :: k)) cs) x := by
  intro f
  induction f with
  | zero =>
    intro t listed a h
    obtain ⟨h1, h2⟩ := h x.tape x.drawn
    rw [Nat.zero_add, seqB_list g n t listed h1]
    exact hQ a h2
  | succ f ih =>
    intro t listed a h
    have hne : Region.ready .any ops listed ≠ [] := (h x.tape x.drawn).1
    rw [show f + 1 + g = (f + g) + 1 by omega]
    simp only [Region.linearise.go]
    change JG P Post C (G (b.at a (.inRegion ops (match (Region.ready .any ops listed)[t % (Region.ready .any ops listed).length]? with
      | some i => Region.linearise.go .any ops (f + g) (t / (Region.ready .any ops listed).length) (listed.setIfInBounds i true) [i]
      | none => [].reverse) :: k)) cs) x
    cases hi : (Region.ready .any ops listed)[t % (Region.ready .any ops listed).length]? with
    | none =>
      exfalso
      have hlt : t % (Region.ready .any ops listed).length < (Region.ready .any ops listed).length := Nat.mod_lt _ (List.length_pos_iff.2 hne)
      rw [List.getElem?_eq_getElem hlt] at hi
      cases hi
    | some i =>
      simp only []
      rw [linearise_go_acc, List.reverse_singleton, List.singleton_append]
      have him : i ∈ Region.ready .any ops listed := List.mem_of_getElem? hi
      have hin : i < n := ((h x.tape x.drawn).2 i him).1
      obtain ⟨_, o, ho, _⟩ := mem_ready.1 him
      have hst : ∀ τ d, stOp P ops (under x τ d) i (wpAnyL P .any ops (under x τ d) n (fun l a' => Region.seqB .any ops g n l = true ∧ Q a') f (listed.setIfInBounds i true)) a := fun τ d => ((h τ d).2 i him).2
      cases hw : Region.wanted o (yielded ops a.tmps) with
      | false =>
        refine JG.unwanted ho hw (ih _ _ _ fun τ d => ?_)
        have := hst τ d
        unfold stOp at this
        simp only [ho, hw] at this
        exact this
      | true =>
        intro w hT
        have H : ∀ τ d, o.still P a (under x τ d) (wpAnyL P .any ops (under x τ d) n (fun l a' => Region.seqB .any ops g n l = true ∧ Q a') f (listed.setIfInBounds i true)) := fun τ d => by
          have := hst τ d
          unfold stOp at this
          simp only [ho, hw, if_true] at this
          exact this
        refine JG.op (F := F00) stands00 (fun h => by cases h) (hm i o hin ho) ho hw hk (fun K E hK hE τ d => ?_) w hT
        rcases still_same (hm i o hin ho) hT H with ⟨v, hv⟩ | hv
        · rw [(hv τ d).1, uponE_value]
          exact hK _ _ (JG.tap (ih _ _ _ fun τ d => (hv τ d).2))
        · rw [(hv τ d).1, uponE_skip]
          exact hK _ _ (JG.tap (ih _ _ _ fun τ d => (hv τ d).2))
/-- A DRAWN REGION: its first n operations read alone; the others come behind all these, one by one. -/
theorem JG.drawTail {id : Nat} {l : List Oper} (n : Nat) (hm : P.follows .mixedOrders = true) (hB : Region.lexTailB .any l.toArray n = true) (hmild : ((l.take n).all fun o => mild F00 o.op) = true) (hk : b.kind ≠ .early)
    (h : ∀ τ d, wpStill P l.toArray (under x τ d) (fun a' => JG P Post C (G (b.at a' (.inRegion l.toArray (List.range' n (l.length - n)) :: k)) cs) x) (l.take n) a) : JG P Post C (G (b.at a (.code (.region id l.toArray true) :: k)) cs) x := by
  refine JG.draw fun t => ?_
  simp only [Region.schedule, hm, Bool.true_or, if_true, Region.linearise]
  simp only [Region.lexTailB, Bool.and_eq_true, decide_eq_true_eq] at hB
  obtain ⟨⟨⟨⟨hsel, hn⟩, hs⟩, hc⟩, hlex⟩ := hB
  have hn' : n < l.length := by simpa using hn
  have htl : (l.take n).length = n := by simp; omega
  have inv0 : HeadInv .any l.toArray n (Array.replicate l.toArray.size false) :=
    ⟨by simp, fun j oj _ hl => (by rw [getD_replicate_false] at hl; cases hl), fun t _ ht => getD_in (by simpa using ht) (getD_replicate_false _ _)⟩
  have H := fun τ d => wpAnyL_lex (md := .any) (g := l.toArray.size - n) hsel hs hc hn (l.take n) 0 _ a (fun j hj => by
    have hj' : j < n := by rw [htl] at hj; exact hj
    simp [hj']) (by simpa using htl) inv0 (by rw [htl]; exact hlex) (h τ d)
  have hmild' : ∀ i o, i < n → l.toArray[i]? = some o → mild F00 o.op = true := fun i o hi ho => by
    refine List.all_eq_true.1 hmild o ?_
    have : (l.take n)[i]? = some o := by rw [List.getElem?_take_of_lt hi]; simpa using ho
    exact List.mem_of_getElem? this
  have R := JG.anyL (Q := fun a' => JG P Post C (G (b.at a' (.inRegion l.toArray (List.range' n (l.length - n)) :: k)) cs) x) (g := l.toArray.size - n) hmild' hk (fun a' h' => by simpa using h') n t (Array.replicate l.toArray.size false) a (fun τ d => by have := H τ d; rw [htl] at this; exact this)
  rw [show n + (l.toArray.size - n) = l.toArray.size by simp; omega] at R
  exact R
end
end Go.Proofs.Ytecmobjiepgfjaa

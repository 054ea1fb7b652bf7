/- An operation under J of which a Sim speaks; a map's update. -/
import Derived.Test.YtecmobjiepgfjaaNTkG
namespace Go.Proofs.Ytecmobjiepgfjaa
open Go.Conc
set_option linter.unusedSimpArgs false
set_option linter.unusedVariables false
theorem sq164 {P : Program} {S : Prot} {t : TypeId} {m : Nat} {k v : Value} (hm : ¬ S.objs m) : Sim P S (fun _ => True) (Instr.mapUpdate t (.map (some m)) k v) := by
  unfold Instr.mapUpdate
  refine Sim.bind sq4 fun d _ => ?_
  split
  · refine Sim.bind sq7' fun o _ => ?_
    split
    · refine Sim.bind (sq120 _ _ _) fun _ _ => Sim.bind sq123 fun q _ => ?_
      split
      · exact Sim.bind sq126 fun _ _ => sq17 hm
      · exact sq17 hm
    · exact sq0
  · exact sq0
section
variable {P : Program} {Post : Value → World → Prop} {C : Ctx} {g : Goroutine} {x : World} {b : Frame} {a : Act} {k : List Item} {cs : List Frame} {F : Fns} {ops : Array Oper} {i : Nat} {rest : List Nat} {o : Oper}
/-- The chairs' channels are channels. -/
theorem J.objs {w : World} (h : (∀ r, C.prot.objs r → ∃ k, w.heap[r]? = some (.chan 0 #[] false k k false)) → J P Post C g w) : J P Post C g w := fun k B T gs sl q hio hB hn hg hT =>
  h (fun r ⟨i, s, hi, e, hc⟩ => by obtain ⟨_, _, kk, hk⟩ := hT.chan i s hi e; exact ⟨kk, by rw [← hc]; exact hk⟩) k B T gs sl q hio hB hn hg hT
theorem J.opS {w : World} (hT : Thaw C.prot x w) (hs : Sim P C.prot (MildEnd F) (execOp a.eval o)) (ho : ops[i]? = some o) (hw : Region.wanted o (yielded ops a.tmps) = true) (hk : b.kind ≠ .early)
    (h : ∀ K E, (∀ a' y, JG P Post C (G (b.at a' (.inRegion ops rest :: k)) cs) y → K a' y) → (∀ f args y, JG P Post C (G (Frame.enter P f args .normal) (b.at a (.inRegion ops (i :: rest) :: k) :: cs)) y → E f args y) → ∀ τ d, uponE o a K E ((execOp a.eval o).run P (under x τ d))) :
    J P Post C (G (b.at a (.inRegion ops (i :: rest) :: k)) cs) w := by
  refine J.step rfl fun d => ?_
  obtain ⟨n, f, hb | ⟨r, hf, hr, evs, he, hev⟩⟩ := hs x (w.at d) (hT.mvr w.tape d)
  · exfalso
    obtain ⟨hh, y, e, hbad⟩ := hb (fun j _ => f j) 0 (fun j _ _ => by simp)
    have := h (fun _ _ => True) (fun _ _ _ => True) (fun _ _ _ => trivial) (fun _ _ _ _ => trivial) (fun j _ => f j) 0
    rw [e] at this
    exact this
  · have h1 := h (fun a' y => JG P Post C (G (b.at a' (.inRegion ops rest :: k)) cs) y) (fun f args y => JG P Post C (G (Frame.enter P f args .normal) (b.at a (.inRegion ops (i :: rest) :: k) :: cs)) y) (fun _ _ h => h) (fun _ _ _ h => h) (fun j _ => f j) 0
    rw [hr (fun j _ => f j) 0 (fun j _ _ => by simp)] at h1
    have hev' : ∀ e ∈ listed P b.fn a o (w.at d), EvG C.prot (Result.world ((execOp a.eval o).run P (w.at d))).heap.size e := fun e hm => hev e (by have := mem_listed hm; rw [he] at this; simpa using this)
    have hstay := Stay.of_events (P := P) (S := C.prot) (w := w.at d) (s := execOp a.eval o) (B := (Result.world ((execOp a.eval o).run P (w.at d))).heap.size) fun e hm => hev e (by rw [he] at hm; simpa using hm)
    cases hrw : (execOp a.eval o).run P (w.at d) with
    | halt hh w₁ =>
      rw [hrw] at hf
      cases hf with
      | panic _ _ _ => exact h1.elim
    | ok q w₁ =>
      rw [hrw] at hf hev' hstay
      cases hf with
      | @ok a' _ y _ hN hT₁ ht hsz =>
        obtain ⟨rfl, _⟩ := hN
        have hd : ∀ es : Array Event, (∀ e ∈ es, EvG C.prot w₁.heap.size e) → ({ C with d := deafBehind C.d es } : Ctx) = C := fun es h => by rw [EvG.still h]
        have hst : Stay C.prot w w₁ := ⟨hstay.cells, hstay.objs⟩
        cases a' with
        | value v =>
          refine ⟨_, w₁, listed P b.fn a o (w.at d), stepG_value ho hw hk hrw, fun e he => (hev' e he).evT, hsz, hst, ht, ?_⟩
          rw [hd _ hev']
          exact h1 w₁ (hT₁.mvl _ _)
        | skip =>
          refine ⟨_, w₁, listed P b.fn a o (w.at d), stepG_none ho hw hk hrw, fun e he => (hev' e he).evT, hsz, hst, ht, ?_⟩
          rw [hd _ hev']
          exact h1 w₁ (hT₁.mvl _ _)
        | enter f args =>
          refine ⟨_, w₁, listed P b.fn a o (w.at d), stepG_enter ho hw hk hrw, fun e he => (hev' e he).evT, hsz, hst, ht, ?_⟩
          rw [hd _ hev']
          exact h1 w₁ (hT₁.mvl _ _)
        | _ => exact h1.elim

/-- A map's update. -/
theorem JG.mapUpd {t : TypeId} {om ok ov : Operand} {mb : Nat} {es : Array MapEntry} {cl : Nat} (hop : o.op = .mapUpdate t om ok ov) (hmv : a.eval om = .map (some mb)) (hmb : x.heap[mb]? = some (.map es cl)) (ho : ops[i]? = some o) (hw : Region.wanted o (yielded ops a.tmps) = true) (hk : b.kind ≠ .early)
    (h : ∀ K E, (∀ a' y, JG P Post C (G (b.at a' (.inRegion ops rest :: k)) cs) y → K a' y) → (∀ f args y, JG P Post C (G (Frame.enter P f args .normal) (b.at a (.inRegion ops (i :: rest) :: k) :: cs)) y → E f args y) → ∀ τ d, uponE o a K E ((execOp a.eval o).run P (under x τ d))) :
    JG P Post C (G (b.at a (.inRegion ops (i :: rest) :: k)) cs) x := fun w hT => by
  refine J.objs fun hobj => ?_
  have hn : ¬ C.prot.objs mb := fun z => by
    obtain ⟨kk, e⟩ := hobj mb z
    have h2 := hT.obj (fun _ _ _ e => by cases e) hmb
    rw [h2] at e; cases e
  refine J.opS (F := { fn := fun _ => false, maps := false, top := fun _ => false, ext := fun _ => false }) hT ?_ ho hw hk h
  unfold execOp
  rw [hop]
  show Sim P C.prot _ (do Instr.mapUpdate t (a.eval om) (a.eval ok) (a.eval ov); pure Next.skip)
  rw [hmv]
  exact sq142 (sq164 hn)
end
end Go.Proofs.Ytecmobjiepgfjaa

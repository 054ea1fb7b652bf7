/- Joined of the texts RnO, RnP, RnQ, RnR, RnS, RnT, RnU; what each proves, and its conditions, stand ahead of it. -/
import Derived.Test.YtecmobjiepgfjaaNRnN
/- What stands in a run under way: the gate's own memory. -/
namespace Go.Proofs.Ytecmobjiepgfjaa
open Go.Conc Go.RowKit
open Go.ConcN (upd upd_same upd_ne)
set_option linter.unusedSimpArgs false
set_option linter.unusedVariables false
set_option maxRecDepth 100000
/-- A thread's blocks. -/
structure Th where
  tv : Nat
  tb : Nat
  rv : Nat
  wk : Nat
  st : Nat
  ab : Nat
/-- Where the gate's memory lies; kept: blocks that nobody changes while the run goes on. -/
structure Gs where
  rb : Nat
  mb : Nat
  N : Nat
  vT : Value
  vL : Value
  vW : Value
  vR : Value
  vF : Value
  thr : List Th
  kept : Nat → Prop
  x0 : World
  A : Nat → Nat
/-- The gate's blocks. -/
def Gs.col (g : Gs) (r : Nat) : Prop :=
  g.kept r ∨ r = g.rb ∨ r = g.mb ∨ some r = g.vT.ownBlock ∨ some r = g.vL.ownBlock ∨ some r = g.vW.ownBlock ∨ some r = g.vR.ownBlock ∨ some r = g.vF.ownBlock ∨ ∃ t ∈ g.thr, r = t.tv ∨ r = t.tb ∨ r = t.rv ∨ r = t.wk ∨ r = t.st ∨ r = t.ab
/-- What a thread stands at. -/
def Ask.at' (r : Ask) (i : Nat) : Entry := ⟨i, r.op, -1, r.arg, r.new, 0, 0, false⟩
section
variable {Sh : Type}
/-- Thread i as it lies there; hold: it has the token. -/
structure ThAt (g : Gs) (p : Prog Sh Unit) (hold : Bool) (x : World) (i : Nat) (t : Th) : Prop where
  tvo : x.heap[t.tv]? = some (.cells #[P0 t.tb] 33 (0, 1))
  rvo : x.heap[t.rv]? = some (.cells #[P0 g.rb] 175 (0, 0))
  wko : ∃ k, x.heap[t.wk]? = some (.chan 0 #[] false k k false)
  sto : ∃ k, x.heap[t.st]? = some (.chan 0 #[] false k k false)
  tbo : ∃ vv a, x.heap[t.tb]? = some (.cells (thrObj g.rb i t.wk t.st vv a (!hold && p.ended)) 184 (2, 4)) ∧ (hold = false → ∀ r k, p = .acc r k → vv = P0 (g.A r.cell) ∧ a = r.at' i)
  abo : hold = false → ∀ r k, p = .acc r k → x.heap[t.ab]? = some (.cells (accV (r.at' i)).toArray 172 (0, 0))
/-- The gate's memory in a run P; h: the thread that has the token. -/
structure GateAt (g : Gs) (P : Play Sh) (h : Option Nat) (stops : Bool) (x : World) : Prop where
  obj : x.heap[g.rb]? = some (.cells (runObj g.vT (.map (some g.mb)) g.vL g.vW g.vR g.vF stops) 179 (0, 0))
  ths : x.ownsRow g.N 33 1 g.vT g.thr.length (g.thr.map fun t => P0 t.tb)
  fls : x.ownsRow g.N 4 1 g.vF g.thr.length (List.replicate g.thr.length (.bool false))
  lg : x.ownsRow g.N 172 8 g.vL P.st.log.length (P.st.log.flatMap accV)
  wn : x.ownsRow g.N 3 1 g.vW P.st.went.length (P.st.went.map fun i => .int .i64 (i : Nat))
  rd : x.ownsRow g.N 3 1 g.vR P.st.ready.length (P.st.ready.map fun i => .int .i64 (i : Nat))
  map : MapAt x g.mb g.A P.st.names
  num : g.thr.length = P.n
  thr : ∀ (i : Nat) (t : Th), g.thr[i]? = some t → ThAt g (P.progs i) (h == some i) x i t
  kept : ∀ r, g.kept r → r < x.heap.size ∧ x.heap[r]? = g.x0.heap[r]?
  low : g.N ≤ x.heap.size
  abl : ∀ t ∈ g.thr, t.ab < x.heap.size
/-- What lies apart. -/
structure Gs.Apart (g : Gs) : Prop where
  wr : ∀ b, g.vW.ownBlock = some b → g.vR.ownBlock ≠ some b
  tt : ∀ t ∈ g.thr, g.vT.ownBlock ≠ some t.tv
  la : ∀ t ∈ g.thr, g.vL.ownBlock ≠ some t.ab
  tb : ∀ (i j : Nat) (t u : Th), g.thr[i]? = some t → g.thr[j]? = some u → t.tb = u.tb → i = j
  ab : ∀ (i j : Nat) (t u : Th), g.thr[i]? = some t → g.thr[j]? = some u → t.ab = u.ab → i = j
  wk : ∀ (i j : Nat) (t u : Th), g.thr[i]? = some t → g.thr[j]? = some u → t.wk = u.wk → i = j
  ws : ∀ (i j : Nat) (t u : Th), g.thr[i]? = some t → g.thr[j]? = some u → t.wk ≠ u.st
  kept : ∀ r, g.kept r → r ≠ g.rb ∧ r ≠ g.mb ∧ some r ≠ g.vT.ownBlock ∧ some r ≠ g.vL.ownBlock ∧ some r ≠ g.vW.ownBlock ∧ some r ≠ g.vR.ownBlock ∧ some r ≠ g.vF.ownBlock ∧ ∀ t ∈ g.thr, r ≠ t.tb ∧ r ≠ t.wk ∧ r ≠ t.st ∧ r ≠ t.ab
variable {g : Gs} {P : Play Sh} {h : Option Nat} {stops : Bool} {x y : World}
theorem ThAt.frame {p : Prog Sh Unit} {hold : Bool} {i : Nat} {t : Th} (H : ThAt g p hold x i t) (hy : ∀ r, r = t.tv ∨ r = t.tb ∨ r = t.rv ∨ r = t.wk ∨ r = t.st ∨ r = t.ab → y.heap[r]? = x.heap[r]?) : ThAt g p hold y i t := by
  obtain ⟨h1, h2, ⟨k3, h3⟩, ⟨k4, h4⟩, ⟨vv, a, h5, h6⟩, h7⟩ := H
  exact ⟨(hy _ (by simp)).trans h1, (hy _ (by simp)).trans h2, ⟨k3, (hy _ (by simp)).trans h3⟩, ⟨k4, (hy _ (by simp)).trans h4⟩, ⟨vv, a, (hy _ (by simp)).trans h5, h6⟩, fun e r k e2 => (hy _ (by simp)).trans (h7 e r k e2)⟩
/-- What others do leaves it. -/
theorem GateAt.frame (H : GateAt g P h stops x) (hy : ∀ r, g.col r → y.heap[r]? = x.heap[r]?) (hs : x.heap.size ≤ y.heap.size) : GateAt g P h stops y := by
  obtain ⟨h1, h2, h3, h4, h5, h6, h7, h8, h9, h10, h11, h12⟩ := H
  have ht : ∀ (i : Nat) (t : Th), g.thr[i]? = some t → ∀ r, r = t.tv ∨ r = t.tb ∨ r = t.rv ∨ r = t.wk ∨ r = t.st ∨ r = t.ab → y.heap[r]? = x.heap[r]? := fun i t e r hr => hy r (by unfold Gs.col; exact .inr (.inr (.inr (.inr (.inr (.inr (.inr (.inr ⟨t, List.mem_of_getElem? e, hr⟩))))))))
  exact ⟨(hy _ (by simp [Gs.col])).trans h1, own_heap h2 fun b e => hy b (by simp [Gs.col, e]), own_heap h3 fun b e => hy b (by simp [Gs.col, e]), own_heap h4 fun b e => hy b (by simp [Gs.col, e]), own_heap h5 fun b e => hy b (by simp [Gs.col, e]), own_heap h6 fun b e => hy b (by simp [Gs.col, e]),
    h7.heap (hy _ (by simp [Gs.col])), h8, fun i t e => (h9 i t e).frame (ht i t e), fun r hr => ⟨Nat.lt_of_lt_of_le (h10 r hr).1 hs, (hy r (.inl hr)).trans (h10 r hr).2⟩, Nat.le_trans h11 hs, fun t ht => Nat.lt_of_lt_of_le (h12 t ht) hs⟩
/-- Two blocks of which different things are known. -/
theorem blk_ne {a b : Nat} {o o' : Obj} (h : x.heap[a]? = some o) (h' : x.heap[b]? = some o') (hn : o ≠ o') : a ≠ b := fun e => hn (by rw [e, h'] at h; exact (Option.some.inj h).symm)
theorem own_ne {N : Nat} {e : TypeId} {size : Nat} {v : Value} {n : Nat} {xs : List Value} {b : Nat} (hv : x.ownsRow N e size v n xs) (h : ∀ cur, x.heap[b]? ≠ some (.cells cur e (0, 0))) : v.ownBlock ≠ some b := by
  rcases hv.2 with ⟨rfl, _⟩ | ⟨g, cap, cur, rfl, _, hg, _⟩
  · simp [Value.ownBlock]
  · intro e2
    have : g = b := by simpa [Value.ownBlock] using e2
    subst this
    exact h cur hg
theorem own_obj {N : Nat} {e : TypeId} {size : Nat} {v : Value} {n : Nat} {xs : List Value} {b : Nat} (hv : x.ownsRow N e size v n xs) (h : v.ownBlock = some b) : ∃ cur, x.heap[b]? = some (.cells cur e (0, 0)) := by
  rcases hv.2 with ⟨rfl, _⟩ | ⟨g, cap, cur, rfl, _, hg, _⟩
  · simp [Value.ownBlock] at h
  · have : g = b := by simpa [Value.ownBlock] using h
    subst this
    exact ⟨cur, hg⟩
/-- Behind an access of the thread that has the token. -/
theorem GateAt.access {i : Nat} {t : Th} {r : Ask} {vL' : Value} (H : GateAt g P (some i) false x) (hap : g.Apart) (hi : g.thr[i]? = some t) (hab : ∃ cur, x.heap[t.ab]? = some (.cells cur 172 (0, 0))) (hnc : ¬ g.col (g.A r.cell))
    (hacc : Accessed x y g.rb t.ab g.mb g.N g.vT g.vL vL' g.vW g.vR g.vF false g.A P.st.names r.cell P.st.log (r.done i (P.st.cells r.cell))) :
    GateAt { g with vL := vL' } { P with st := P.st.access i r } (some i) false y ∧ ({ g with vL := vL' } : Gs).Apart := by
  obtain ⟨acur, hab⟩ := hab
  obtain ⟨es, cl, hmb, _⟩ := id H.map
  have hcell : ∀ b, g.col b → b ≠ g.A r.cell := fun b hb e => hnc (e ▸ hb)
  have keepO : ∀ b o, g.col b → x.heap[b]? = some o → (∀ cur, o ≠ .cells cur 172 (0, 0)) → (∀ cur, o ≠ .cells cur 179 (0, 0)) → (∀ es cl, o ≠ .map es cl) → y.heap[b]? = x.heap[b]? := fun b o hb ho h1 h2 h3 => by
    refine hacc.old b (Array.getElem?_eq_some_iff.1 ho).1 (blk_ne ho H.obj (h2 _)) (blk_ne ho hab (h1 _)) (blk_ne ho hmb (h3 _ _)) (hcell b hb) fun e => ?_
    obtain ⟨cur, hc⟩ := own_obj H.lg e.symm
    exact h1 cur (by rw [hc] at ho; exact (Option.some.inj ho).symm)
  have hth : ∀ (j : Nat) (u : Th), g.thr[j]? = some u → ∀ b, b = u.tv ∨ b = u.tb ∨ b = u.rv ∨ b = u.wk ∨ b = u.st ∨ b = u.ab → g.col b := fun j u e b hb => .inr (.inr (.inr (.inr (.inr (.inr (.inr (.inr ⟨u, List.mem_of_getElem? e, hb⟩)))))))
  refine ⟨⟨hacc.obj, own_heap H.ths fun b e => ?_, own_heap H.fls fun b e => ?_, ?_, own_heap H.wn fun b e => ?_, own_heap H.rd fun b e => ?_, hacc.map, H.num, fun j u hu => ?_, fun b hb => ?_, Nat.le_trans H.low hacc.size, fun u hu => Nat.lt_of_lt_of_le (H.abl u hu) hacc.size⟩, ?_⟩
  · obtain ⟨cur, hc⟩ := own_obj H.ths e
    exact keepO b _ (by simp [Gs.col, e]) hc (by simp) (by simp) (by simp)
  · obtain ⟨cur, hc⟩ := own_obj H.fls e
    exact keepO b _ (by simp [Gs.col, e]) hc (by simp) (by simp) (by simp)
  · have := hacc.log
    simp only [Rst.access, List.length_append, List.length_singleton]
    exact this
  · obtain ⟨cur, hc⟩ := own_obj H.wn e
    exact keepO b _ (by simp [Gs.col, e]) hc (by simp) (by simp) (by simp)
  · obtain ⟨cur, hc⟩ := own_obj H.rd e
    exact keepO b _ (by simp [Gs.col, e]) hc (by simp) (by simp) (by simp)
  · obtain ⟨h1, h2, ⟨k3, h3⟩, ⟨k4, h4⟩, ⟨vv, a, h5, h6⟩, h7⟩ := H.thr j u hu
    have hc := hth j u hu
    refine ⟨(keepO _ _ (hc _ (by simp)) h1 (by simp) (by simp) (by simp)).trans h1, (keepO _ _ (hc _ (by simp)) h2 (by simp) (by simp) (by simp)).trans h2, ⟨k3, (keepO _ _ (hc _ (by simp)) h3 (by simp) (by simp) (by simp)).trans h3⟩, ⟨k4, (keepO _ _ (hc _ (by simp)) h4 (by simp) (by simp) (by simp)).trans h4⟩,
      ⟨vv, a, (keepO _ _ (hc _ (by simp)) h5 (by simp) (by simp) (by simp)).trans h5, h6⟩, fun e q k eq => ?_⟩
    have h8 := h7 e q k eq
    have hji : j ≠ i := by rintro rfl; simp at e
    rw [← h8]
    refine hacc.old _ (Array.getElem?_eq_some_iff.1 h8).1 (blk_ne h8 H.obj (by simp)) (fun e2 => hji (hap.ab j i u t hu hi e2)) (blk_ne h8 hmb (by simp)) (hcell _ (hc _ (by simp))) fun e2 => hap.la u (List.mem_of_getElem? hu) e2.symm
  · obtain ⟨b1, b2⟩ := H.kept b hb
    obtain ⟨k1, k2, k3, k4, k5, k6, k7, k8⟩ := hap.kept b hb
    refine ⟨Nat.lt_of_lt_of_le b1 hacc.size, (hacc.old b b1 k1 (k8 t (List.mem_of_getElem? hi)).2.2.2 k2 (hcell b (.inl hb)) k4).trans b2⟩
  · obtain ⟨p1, p2, p3, p4, p5, p6, p7, p8⟩ := hap
    have hnew : ∀ b, vL'.ownBlock = some b → g.vL.ownBlock = some b ∨ x.heap.size ≤ b := fun b e => by
      rcases hacc.lnew with h | ⟨b', h, h'⟩
      · exact .inl (h ▸ e)
      · rw [h] at e; obtain rfl := Option.some.inj e; exact .inr h'
    refine ⟨p1, p2, fun u hu e => ?_, p4, p5, p6, p7, fun b hb => ?_⟩
    · rcases hnew _ e with h | h
      · exact p3 u hu h
      · have := H.abl u hu; omega
    · obtain ⟨k1, k2, k3, k4, k5, k6, k7, k8⟩ := p8 b hb
      refine ⟨k1, k2, k3, fun e => ?_, k5, k6, k7, k8⟩
      rcases hnew b e.symm with h | h
      · exact k4 h.symm
      · have := (H.kept b hb).1; omega
/-- A thread stands at its next access: nobody of the threads has the token. -/
theorem GateAt.stand {z : World} {i ab kk : Nat} {t : Th} {r : Ask} {k : Told → Prog Sh Unit} (H : GateAt g P (some i) stops x) (hap : g.Apart) (hi : g.thr[i]? = some t) (hp : P.progs i = .acc r k) (h1 : x.heap.size ≤ ab) (h2 : ab < y.heap.size)
    (h3 : y.heap[ab]? = some (.cells (accV (r.at' i)).toArray 172 (0, 0))) (h4 : y.heap[t.tb]? = some (.cells (thrObj g.rb i t.wk t.st (P0 (g.A r.cell)) (r.at' i) false) 184 (2, 4)))
    (h5 : ∀ q, q ≠ t.tb → q < x.heap.size → y.heap[q]? = x.heap[q]?) (h6 : ∀ q, q ≠ t.st → z.heap[q]? = y.heap[q]?) (h7 : z.heap[t.st]? = some (.chan 0 #[] false kk kk false)) (h8 : z.heap.size = y.heap.size) :
    GateAt { g with thr := g.thr.set i { t with ab := ab } } P none stops z ∧ ({ g with thr := g.thr.set i { t with ab := ab } } : Gs).Apart := by
  have hT := H.thr i t hi
  obtain ⟨k0, hst⟩ := hT.sto
  obtain ⟨v0, a0, htb, _⟩ := hT.tbo
  have hlen : i < g.thr.length := (List.getElem?_eq_some_iff.1 hi).1
  have hmem : t ∈ g.thr := List.mem_of_getElem? hi
  have keep : ∀ b o, x.heap[b]? = some o → (∀ kk, o ≠ .chan 0 #[] false kk kk false) → b ≠ t.tb → z.heap[b]? = some o := fun b o hb hc hne => by
    rw [h6 b (blk_ne hb hst (hc _)), h5 b hne (Array.getElem?_eq_some_iff.1 hb).1]; exact hb
  have hbt : ∀ b o, x.heap[b]? = some o → (∀ cur f, o ≠ .cells cur 184 f) → b ≠ t.tb := fun b o hb hn => blk_ne hb htb (hn _ _)
  have hget : ∀ (j : Nat) (u : Th), (g.thr.set i { t with ab := ab })[j]? = some u → (j = i ∧ u = { t with ab := ab }) ∨ (j ≠ i ∧ g.thr[j]? = some u) := fun j u hu => by
    rw [List.getElem?_set] at hu
    by_cases e : i = j
    · subst e
      simp [hlen] at hu
      exact .inl ⟨rfl, hu.symm⟩
    · rw [if_neg e] at hu
      exact .inr ⟨fun e2 => e e2.symm, hu⟩
  have hmap : (g.thr.set i { t with ab := ab }).map (fun t => P0 t.tb) = g.thr.map fun t => P0 t.tb := by
    apply List.ext_getElem?
    intro j
    rw [List.getElem?_map, List.getElem?_map, List.getElem?_set]
    by_cases e : i = j
    · subst e; rw [if_pos rfl, if_pos hlen, hi]; rfl
    · rw [if_neg e]
  have hown : ∀ {e : TypeId} {size : Nat} {v : Value} {n : Nat} {xs : List Value}, x.ownsRow g.N e size v n xs → e ≠ 184 → z.ownsRow g.N e size v n xs := fun hv he => own_heap hv fun b hb => by
    obtain ⟨cur, hc⟩ := own_obj hv hb
    rw [keep b _ hc (by simp) (hbt b _ hc (fun c f e => by injection e with _ e2; exact he e2)), hc]
  refine ⟨⟨keep _ _ H.obj (by simp) (hbt _ _ H.obj (by simp)), ?_, ?_, hown H.lg (by decide), hown H.wn (by decide), hown H.rd (by decide), ?_, by rw [List.length_set]; exact H.num, fun j u hu => ?_, fun b hb => ?_, by rw [h8]; have := H.low; show g.N ≤ _; omega, fun u hu => ?_⟩, ?_⟩
  · rw [List.length_set, hmap]; exact hown H.ths (by decide)
  · rw [List.length_set]; exact hown H.fls (by decide)
  · obtain ⟨es, cl, hmb, hx⟩ := H.map
    exact ⟨es, cl, keep _ _ hmb (by simp) (hbt _ _ hmb (by simp)), hx⟩
  · rcases hget j u hu with ⟨rfl, rfl⟩ | ⟨hj, hu'⟩
    · obtain ⟨e1, e2, e3, ⟨k4, e4⟩, _, _⟩ := hT
      obtain ⟨k3, e3⟩ := e3
      have hws : t.wk ≠ t.st := hap.ws j j t t hi hi
      have hts : t.tb ≠ t.st := fun e => by rw [e, hst] at htb; cases htb
      have has : ab ≠ t.st := fun e => by rw [e] at h3; have := h5 t.st (by intro e2; rw [e2] at hst; rw [htb] at hst; cases hst) (Array.getElem?_eq_some_iff.1 hst).1; rw [this, hst] at h3; cases h3
      refine ⟨keep _ _ e1 (by simp) (hbt _ _ e1 (by simp)), keep _ _ e2 (by simp) (hbt _ _ e2 (by simp)), ⟨k3, ?_⟩, ⟨kk, h7⟩, ⟨_, _, by rw [h6 _ hts, h4, hp]; rfl, fun _ q k' e => ?_⟩, fun _ q k' e => ?_⟩
      · show z.heap[t.wk]? = _
        rw [h6 _ hws, h5 _ (blk_ne e3 htb (by simp)) (Array.getElem?_eq_some_iff.1 e3).1]; exact e3
      · rw [hp] at e; injection e with e _; subst e; exact ⟨rfl, rfl⟩
      · rw [hp] at e; injection e with e _; subst e
        show z.heap[ab]? = _
        rw [h6 _ has]; exact h3
    · have hji : (some i == some j) = false := by simp; exact fun e => hj e.symm
      have hu2 := H.thr j u hu'
      rw [hji] at hu2
      obtain ⟨e1, e2, ⟨k3, e3⟩, ⟨k4, e4⟩, ⟨vv, a, e5, e6⟩, e7⟩ := hu2
      have hch : ∀ (b kq : Nat), x.heap[b]? = some (Obj.chan 0 #[] false kq kq false) → ∃ kq, z.heap[b]? = some (Obj.chan 0 #[] false kq kq false) := fun b kq hb => by
        by_cases e : b = t.st
        · exact ⟨kk, by rw [e]; exact h7⟩
        · exact ⟨kq, by rw [h6 _ e, h5 _ (blk_ne hb htb (by simp)) (Array.getElem?_eq_some_iff.1 hb).1]; exact hb⟩
      exact ⟨keep _ _ e1 (by simp) (hbt _ _ e1 (by simp)), keep _ _ e2 (by simp) (hbt _ _ e2 (by simp)), hch _ _ e3, hch _ _ e4, ⟨vv, a, keep _ _ e5 (by simp) (fun e => hj (hap.tb j i u t hu' hi e)), e6⟩, fun q r' k' e => by
        have e8 := e7 q r' k' e
        exact keep _ _ e8 (by simp) (hbt _ _ e8 (by simp))⟩
  · obtain ⟨b1, b2⟩ := H.kept b hb
    obtain ⟨_, _, _, _, _, _, _, k8⟩ := hap.kept b hb
    obtain ⟨k9, _, k10, _⟩ := k8 t hmem
    exact ⟨by rw [h8]; omega, by rw [h6 b k10, h5 b k9 b1]; exact b2⟩
  · obtain ⟨j, hj⟩ := List.getElem?_of_mem hu
    rw [h8]
    rcases hget j u hj with ⟨rfl, rfl⟩ | ⟨_, hu'⟩
    · exact h2
    · have := H.abl u (List.mem_of_getElem? hu'); omega
  · obtain ⟨p1, p2, p3, p4, p5, p6, p7, p8⟩ := hap
    have hsub : ∀ u ∈ g.thr.set i { t with ab := ab }, u = { t with ab := ab } ∨ u ∈ g.thr := fun u hu => by
      obtain ⟨j, hj⟩ := List.getElem?_of_mem hu
      rcases hget j u hj with ⟨_, rfl⟩ | ⟨_, hu'⟩
      · exact .inl rfl
      · exact .inr (List.mem_of_getElem? hu')
    have pair : ∀ (f : Th → Nat), f { t with ab := ab } = f t → (∀ (i j : Nat) (t u : Th), g.thr[i]? = some t → g.thr[j]? = some u → f t = f u → i = j) → ∀ (a b : Nat) (u v : Th), (g.thr.set i { t with ab := ab })[a]? = some u → (g.thr.set i { t with ab := ab })[b]? = some v → f u = f v → a = b := fun f hf hpp a b u v hu hv e => by
      rcases hget a u hu with ⟨rfl, rfl⟩ | ⟨_, hu'⟩ <;> rcases hget b v hv with ⟨rfl, rfl⟩ | ⟨_, hv'⟩
      · rfl
      · exact hpp _ _ t v hi hv' (by rw [← hf]; exact e)
      · exact hpp _ _ u t hu' hi (by rw [← hf]; exact e)
      · exact hpp _ _ u v hu' hv' e
    refine ⟨p1, fun u hu => ?_, fun u hu => ?_, pair (·.tb) rfl p4, ?_, pair (·.wk) rfl p6, fun a b u v hu hv => ?_, fun b hb => ?_⟩
    · rcases hsub u hu with rfl | hu'
      · exact p2 t hmem
      · exact p2 u hu'
    · rcases hsub u hu with rfl | hu'
      · intro e
        have := own_lt H.lg e
        have e2 : ab < x.heap.size := this
        omega
      · exact p3 u hu'
    · intro a b u v hu hv e
      rcases hget a u hu with ⟨rfl, rfl⟩ | ⟨_, hu'⟩ <;> rcases hget b v hv with ⟨rfl, rfl⟩ | ⟨_, hv'⟩
      · rfl
      · have := H.abl v (List.mem_of_getElem? hv'); have e : ab = v.ab := e; omega
      · have := H.abl u (List.mem_of_getElem? hu'); have e : u.ab = ab := e; omega
      · exact p5 _ _ u v hu' hv' e
    · rcases hget a u hu with ⟨rfl, rfl⟩ | ⟨_, hu'⟩ <;> rcases hget b v hv with ⟨rfl, rfl⟩ | ⟨_, hv'⟩
      · exact p7 _ _ t t hi hi
      · exact p7 _ _ t v hi hv'
      · exact p7 _ _ u t hu' hi
      · exact p7 _ _ u v hu' hv'
    · obtain ⟨k1, k2, k3, k4, k5, k6, k7, k8⟩ := p8 b hb
      refine ⟨k1, k2, k3, k4, k5, k6, k7, fun u hu => ?_⟩
      rcases hsub u hu with rfl | hu'
      · obtain ⟨q1, q2, q3, q4⟩ := k8 t hmem
        refine ⟨q1, q2, q3, ?_⟩
        have := (H.kept b hb).1
        show b ≠ ab
        omega
      · exact k8 u hu'
/-- A thread has been begun, and has the token. -/
theorem GateAt.begun {z : World} {h0 : Option Nat} {vT' vF' : Value} {tv tb wk st : Nat} {p : Prog Sh Unit} (H : GateAt g P h0 false x) (hap : g.Apart) (hh : ∀ i, h0 = some i → P.n ≤ i)
    (B : BegunR x z g.N g.rb g.vT g.vF vT' vF' (.map (some g.mb)) g.vL g.vW g.vR false (g.thr.map fun t => P0 t.tb) (List.replicate g.thr.length (.bool false)) tv tb wk st) :
    GateAt { g with vT := vT', vF := vF', thr := g.thr ++ [⟨tv, tb, x.heap.size, wk, st, tb⟩] } { P with n := P.n + 1, progs := upd P.progs P.n p } (some P.n) false z ∧ ({ g with vT := vT', vF := vF', thr := g.thr ++ [⟨tv, tb, x.heap.size, wk, st, tb⟩] } : Gs).Apart := by
  have hlenT : (g.thr.map fun t => P0 t.tb).length = g.thr.length := List.length_map _
  have hlenF : (List.replicate g.thr.length (Value.bool false)).length = g.thr.length := List.length_replicate
  have keep : ∀ (b : Nat) (o : Obj), x.heap[b]? = some o → (∀ cur, o ≠ .cells cur 179 (0, 0)) → (∀ cur, o ≠ .cells cur 33 (0, 0)) → (∀ cur, o ≠ .cells cur 4 (0, 0)) → z.heap[b]? = some o := fun b o hb h1 h2 h3 => by
    rw [B.old b (Array.getElem?_eq_some_iff.1 hb).1 (blk_ne hb H.obj (h1 _)) (fun e => ?_) fun e => ?_]
    · exact hb
    · obtain ⟨cur, hc⟩ := own_obj H.ths e.symm
      exact h2 cur (by rw [hc] at hb; exact (Option.some.inj hb).symm)
    · obtain ⟨cur, hc⟩ := own_obj H.fls e.symm
      exact h3 cur (by rw [hc] at hb; exact (Option.some.inj hb).symm)
  have hown : ∀ {e : TypeId} {size : Nat} {v : Value} {n : Nat} {xs : List Value}, x.ownsRow g.N e size v n xs → e ≠ 179 → e ≠ 33 → e ≠ 4 → z.ownsRow g.N e size v n xs := fun hv e1 e2 e3 => own_heap hv fun b hb => by
    obtain ⟨cur, hc⟩ := own_obj hv hb
    rw [keep b _ hc (fun c e => by injection e with _ e; exact e1 e) (fun c e => by injection e with _ e; exact e2 e) (fun c e => by injection e with _ e; exact e3 e), hc]
  have hget : ∀ (j : Nat) (u : Th), (g.thr ++ [⟨tv, tb, x.heap.size, wk, st, tb⟩])[j]? = some u → (j < g.thr.length ∧ g.thr[j]? = some u) ∨ (j = g.thr.length ∧ u = ⟨tv, tb, x.heap.size, wk, st, tb⟩) := fun j u hu => by
    rcases Nat.lt_or_ge j g.thr.length with h | h
    · rw [List.getElem?_append_left h] at hu; exact .inl ⟨h, hu⟩
    · rw [List.getElem?_append_right h] at hu
      have hj : j - g.thr.length = 0 := by
        rcases Nat.eq_zero_or_pos (j - g.thr.length) with h0 | h0
        · exact h0
        · rw [List.getElem?_eq_none (by simp; omega)] at hu; cases hu
      rw [hj] at hu
      exact .inr ⟨by omega, (Option.some.inj hu).symm⟩
  refine ⟨⟨B.obj, ?_, ?_, hown H.lg (by decide) (by decide) (by decide), hown H.wn (by decide) (by decide) (by decide), hown H.rd (by decide) (by decide) (by decide), ?_, by simp [H.num], fun j u hu => ?_, fun b hb => ?_, ?_, fun u hu => ?_⟩, ?_⟩
  · have := B.rths
    rw [hlenT] at this
    simpa using this
  · have := B.rfls
    rw [hlenF] at this
    simpa [List.replicate_succ'] using this
  · obtain ⟨es, cl, hmb, hx⟩ := H.map
    exact ⟨es, cl, keep _ _ hmb (by simp) (by simp) (by simp), hx⟩
  · rcases hget j u hu with ⟨hj, hu'⟩ | ⟨rfl, rfl⟩
    · have hjn : j ≠ P.n := by rw [← H.num]; omega
      have e0 : (some P.n == some j) = false := by simp; exact fun e => hjn e.symm
      have e1 : (h0 == some j) = false := by
        cases h0 with
        | none => rfl
        | some q => simp; have := hh q rfl; rw [← H.num] at this; omega
      have hT := H.thr j u hu'
      rw [e1] at hT
      rw [e0, show ({ n := P.n + 1, progs := upd P.progs P.n p, st := P.st } : Play Sh).progs j = P.progs j from upd_ne _ _ hjn]
      obtain ⟨h1, h2, ⟨k3, h3⟩, ⟨k4, h4⟩, ⟨vv, a, h5, h6⟩, h7⟩ := hT
      exact ⟨keep _ _ h1 (by simp) (by simp) (by simp), keep _ _ h2 (by simp) (by simp) (by simp), ⟨k3, keep _ _ h3 (by simp) (by simp) (by simp)⟩, ⟨k4, keep _ _ h4 (by simp) (by simp) (by simp)⟩, ⟨vv, a, keep _ _ h5 (by simp) (by simp) (by simp), h6⟩, fun e r k e2 => keep _ _ (h7 e r k e2) (by simp) (by simp) (by simp)⟩
    · have e0 : (some P.n == some g.thr.length) = true := by rw [H.num]; simp
      rw [e0]
      have ht := B.tbo
      rw [hlenT] at ht
      exact ⟨B.tvo, B.rvo, B.wko, B.sto, ⟨.pointer none, ⟨0, 0, 0, 0, 0, 0, 0, false⟩, by simpa [newThread, thrObj] using ht, fun e => by cases e⟩, fun e => by cases e⟩
  · obtain ⟨b1, b2⟩ := H.kept b hb
    obtain ⟨k1, k2, k3, k4, k5, k6, k7, k8⟩ := hap.kept b hb
    exact ⟨Nat.lt_of_lt_of_le b1 B.size, (B.old b b1 k1 k3 k7).trans b2⟩
  · exact Nat.le_trans H.low B.size
  · rcases List.mem_append.1 hu with h | h
    · exact Nat.lt_of_lt_of_le (H.abl u h) B.size
    · obtain rfl := List.mem_singleton.1 h; exact B.tbn.2
  · obtain ⟨p1, p2, p3, p4, p5, p6, p7, p8⟩ := hap
    have hsub : ∀ u ∈ g.thr ++ [⟨tv, tb, x.heap.size, wk, st, tb⟩], u ∈ g.thr ∨ u = ⟨tv, tb, x.heap.size, wk, st, tb⟩ := fun u hu => (List.mem_append.1 hu).imp id fun h => List.mem_singleton.1 h
    have hlt : ∀ u ∈ g.thr, u.tb < x.heap.size ∧ u.wk < x.heap.size ∧ u.st < x.heap.size ∧ u.ab < x.heap.size ∧ u.tv < x.heap.size := fun u hu => by
      obtain ⟨j, hj⟩ := List.getElem?_of_mem hu
      obtain ⟨h1, h2, ⟨k3, h3⟩, ⟨k4, h4⟩, ⟨vv, a, h5, h6⟩, h7⟩ := H.thr j u hj
      exact ⟨(Array.getElem?_eq_some_iff.1 h5).1, (Array.getElem?_eq_some_iff.1 h3).1, (Array.getElem?_eq_some_iff.1 h4).1, H.abl u hu, (Array.getElem?_eq_some_iff.1 h1).1⟩
    have pair : ∀ (f : Th → Nat), x.heap.size ≤ f ⟨tv, tb, x.heap.size, wk, st, tb⟩ → (∀ u ∈ g.thr, f u < x.heap.size) → (∀ (i j : Nat) (t u : Th), g.thr[i]? = some t → g.thr[j]? = some u → f t = f u → i = j) → ∀ (a b : Nat) (u v : Th), (g.thr ++ [⟨tv, tb, x.heap.size, wk, st, tb⟩])[a]? = some u → (g.thr ++ [⟨tv, tb, x.heap.size, wk, st, tb⟩])[b]? = some v → f u = f v → a = b := fun f hf hl hpp a b u v hu hv e => by
      rcases hget a u hu with ⟨_, hu'⟩ | ⟨rfl, rfl⟩ <;> rcases hget b v hv with ⟨_, hv'⟩ | ⟨rfl, rfl⟩
      · exact hpp _ _ u v hu' hv' e
      · have := hl u (List.mem_of_getElem? hu'); omega
      · have := hl v (List.mem_of_getElem? hv'); omega
      · rfl
    have tn := B.tbn.1
    have wn := B.wkn.1
    have sn := B.stn.1
    refine ⟨p1, fun u hu e => ?_, fun u hu e => ?_, pair (·.tb) tn (fun u h => (hlt u h).1) p4, pair (·.ab) tn (fun u h => (hlt u h).2.2.2.1) p5, pair (·.wk) wn (fun u h => (hlt u h).2.1) p6, fun a b u v hu hv => ?_, fun b hb => ?_⟩
    · obtain ⟨cur, hc⟩ := own_obj B.rths e
      rcases hsub u hu with hu' | rfl
      · rcases B.tnew with h | ⟨b', h, h'⟩
        · exact p2 u hu' (h ▸ e)
        · rw [h] at e
          have : b' = u.tv := Option.some.inj e
          have := (hlt u hu').2.2.2.2
          omega
      · have := B.tvo
        have hc' : z.heap[tv]? = _ := hc
        rw [this] at hc'; simp at hc'
    · rcases hsub u hu with hu' | rfl
      · exact p3 u hu' e
      · have h1 := own_lt H.lg e
        have h2 : tb < x.heap.size := h1
        omega
    · rcases hget a u hu with ⟨_, hu'⟩ | ⟨rfl, rfl⟩ <;> rcases hget b v hv with ⟨_, hv'⟩ | ⟨rfl, rfl⟩
      · exact p7 _ _ u v hu' hv'
      · have := (hlt u (List.mem_of_getElem? hu')).2.1
        show u.wk ≠ st
        omega
      · have := (hlt v (List.mem_of_getElem? hv')).2.2.1
        show wk ≠ v.st
        omega
      · exact B.ne
    · obtain ⟨k1, k2, k3, k4, k5, k6, k7, k8⟩ := p8 b hb
      have hb1 := (H.kept b hb).1
      refine ⟨k1, k2, fun e => ?_, k4, k5, k6, fun e => ?_, fun u hu => ?_⟩
      · rcases B.tnew with h | ⟨b', h, h'⟩
        · exact k3 (e.trans h)
        · have e : some b = vT'.ownBlock := e
          rw [h] at e; have := Option.some.inj e; omega
      · rcases B.fnew with h | ⟨b', h, h'⟩
        · exact k7 (e.trans h)
        · have e : some b = vF'.ownBlock := e
          rw [h] at e; have := Option.some.inj e; omega
      · rcases hsub u hu with hu' | rfl
        · exact k8 u hu'
        · refine ⟨?_, ?_, ?_, ?_⟩
          · show b ≠ tb; omega
          · show b ≠ wk; omega
          · show b ≠ st; omega
          · show b ≠ tb; omega
/-- A turn is written down: who went. -/
theorem GateAt.wentOn {v' : Value} {q : Nat} (H : GateAt g P h stops x) (hap : g.Apart) (h1 : y.heap[g.rb]? = some (.cells (runObj g.vT (.map (some g.mb)) g.vL v' g.vR g.vF stops) 179 (0, 0)))
    (h2 : y.ownsRow g.N 3 1 v' (P.st.went.length + 1) ((P.st.went.map fun i => .int .i64 (i : Nat)) ++ [.int .i64 q])) (h3 : v'.ownBlock = g.vW.ownBlock ∨ ∃ b, v'.ownBlock = some b ∧ x.heap.size ≤ b) (h4 : x.heap.size ≤ y.heap.size) (h5 : ∀ r, r < x.heap.size → r ≠ g.rb → some r ≠ g.vW.ownBlock → y.heap[r]? = x.heap[r]?) :
    GateAt { g with vW := v' } { P with st := { P.st with went := P.st.went ++ [q] } } h stops y ∧ ({ g with vW := v' } : Gs).Apart := by
  have keep : ∀ (b : Nat) (o : Obj), x.heap[b]? = some o → (∀ cur, o ≠ .cells cur 179 (0, 0)) → (∀ cur, o ≠ .cells cur 3 (0, 0)) → y.heap[b]? = some o := fun b o hb e1 e2 => by
    rw [h5 b (Array.getElem?_eq_some_iff.1 hb).1 (blk_ne hb H.obj (e1 _)) fun e => ?_]
    · exact hb
    · obtain ⟨cur, hc⟩ := own_obj H.wn e.symm
      exact e2 cur (by rw [hc] at hb; exact (Option.some.inj hb).symm)
  have hown : ∀ {e : TypeId} {size : Nat} {v : Value} {n : Nat} {xs : List Value}, x.ownsRow g.N e size v n xs → e ≠ 179 → e ≠ 3 → y.ownsRow g.N e size v n xs := fun hv e1 e2 => own_heap hv fun b hb => by
    obtain ⟨cur, hc⟩ := own_obj hv hb
    rw [keep b _ hc (fun c e => by injection e with _ e; exact e1 e) (fun c e => by injection e with _ e; exact e2 e), hc]
  have hoth : y.ownsRow g.N 3 1 g.vR P.st.ready.length (P.st.ready.map fun i => .int .i64 (i : Nat)) := own_heap H.rd fun b hb => by
    obtain ⟨cur, hc⟩ := own_obj H.rd hb
    exact h5 b (Array.getElem?_eq_some_iff.1 hc).1 (blk_ne hc H.obj (by simp)) fun e => hap.wr b e.symm hb
  have hnew : ∀ b, v'.ownBlock = some b → g.vW.ownBlock = some b ∨ x.heap.size ≤ b := fun b e => by
    rcases h3 with h | ⟨b', h, h'⟩
    · exact .inl (h ▸ e)
    · rw [h] at e; obtain rfl := Option.some.inj e; exact .inr h'
  refine ⟨⟨h1, hown H.ths (by decide) (by decide), hown H.fls (by decide) (by decide), hown H.lg (by decide) (by decide), by simpa using h2, hoth, ?_, H.num, fun j u hu => ?_, fun b hb => ?_, Nat.le_trans H.low h4, fun u hu => Nat.lt_of_lt_of_le (H.abl u hu) h4⟩, ?_⟩
  · obtain ⟨es, cl, hmb, hx⟩ := H.map
    exact ⟨es, cl, keep _ _ hmb (by simp) (by simp), hx⟩
  · obtain ⟨h1, h2, ⟨k3, h3⟩, ⟨k4, h4⟩, ⟨vv, a, h5, h6⟩, h7⟩ := H.thr j u hu
    exact ⟨keep _ _ h1 (by simp) (by simp), keep _ _ h2 (by simp) (by simp), ⟨k3, keep _ _ h3 (by simp) (by simp)⟩, ⟨k4, keep _ _ h4 (by simp) (by simp)⟩, ⟨vv, a, keep _ _ h5 (by simp) (by simp), h6⟩, fun e r k e2 => keep _ _ (h7 e r k e2) (by simp) (by simp)⟩
  · obtain ⟨b1, b2⟩ := H.kept b hb
    obtain ⟨k1, k2, k3, k4, k5, k6, k7, k8⟩ := hap.kept b hb
    exact ⟨Nat.lt_of_lt_of_le b1 h4, (h5 b b1 k1 k5).trans b2⟩
  · obtain ⟨p1, p2, p3, p4, p5, p6, p7, p8⟩ := hap
    refine ⟨fun b e e2 => ?_, p2, p3, p4, p5, p6, p7, fun b hb => ?_⟩
    · rcases hnew b e with h | h
      · exact p1 b h e2
      · have := own_lt H.rd e2; omega
    · obtain ⟨k1, k2, k3, k4, k5, k6, k7, k8⟩ := p8 b hb
      have hb1 := (H.kept b hb).1
      refine ⟨k1, k2, k3, k4, fun e => ?_, k6, k7, k8⟩
      all_goals (
        rcases hnew b e.symm with h | h
        · exact k5 h.symm
        · omega)
/-- A turn is written down: how many were ready. -/
theorem GateAt.readyOn {v' : Value} {q : Nat} (H : GateAt g P h stops x) (hap : g.Apart) (h1 : y.heap[g.rb]? = some (.cells (runObj g.vT (.map (some g.mb)) g.vL g.vW v' g.vF stops) 179 (0, 0)))
    (h2 : y.ownsRow g.N 3 1 v' (P.st.ready.length + 1) ((P.st.ready.map fun i => .int .i64 (i : Nat)) ++ [.int .i64 q])) (h3 : v'.ownBlock = g.vR.ownBlock ∨ ∃ b, v'.ownBlock = some b ∧ x.heap.size ≤ b) (h4 : x.heap.size ≤ y.heap.size) (h5 : ∀ r, r < x.heap.size → r ≠ g.rb → some r ≠ g.vR.ownBlock → y.heap[r]? = x.heap[r]?) :
    GateAt { g with vR := v' } { P with st := { P.st with ready := P.st.ready ++ [q] } } h stops y ∧ ({ g with vR := v' } : Gs).Apart := by
  have keep : ∀ (b : Nat) (o : Obj), x.heap[b]? = some o → (∀ cur, o ≠ .cells cur 179 (0, 0)) → (∀ cur, o ≠ .cells cur 3 (0, 0)) → y.heap[b]? = some o := fun b o hb e1 e2 => by
    rw [h5 b (Array.getElem?_eq_some_iff.1 hb).1 (blk_ne hb H.obj (e1 _)) fun e => ?_]
    · exact hb
    · obtain ⟨cur, hc⟩ := own_obj H.rd e.symm
      exact e2 cur (by rw [hc] at hb; exact (Option.some.inj hb).symm)
  have hown : ∀ {e : TypeId} {size : Nat} {v : Value} {n : Nat} {xs : List Value}, x.ownsRow g.N e size v n xs → e ≠ 179 → e ≠ 3 → y.ownsRow g.N e size v n xs := fun hv e1 e2 => own_heap hv fun b hb => by
    obtain ⟨cur, hc⟩ := own_obj hv hb
    rw [keep b _ hc (fun c e => by injection e with _ e; exact e1 e) (fun c e => by injection e with _ e; exact e2 e), hc]
  have hoth : y.ownsRow g.N 3 1 g.vW P.st.went.length (P.st.went.map fun i => .int .i64 (i : Nat)) := own_heap H.wn fun b hb => by
    obtain ⟨cur, hc⟩ := own_obj H.wn hb
    exact h5 b (Array.getElem?_eq_some_iff.1 hc).1 (blk_ne hc H.obj (by simp)) fun e => hap.wr b hb e.symm
  have hnew : ∀ b, v'.ownBlock = some b → g.vR.ownBlock = some b ∨ x.heap.size ≤ b := fun b e => by
    rcases h3 with h | ⟨b', h, h'⟩
    · exact .inl (h ▸ e)
    · rw [h] at e; obtain rfl := Option.some.inj e; exact .inr h'
  refine ⟨⟨h1, hown H.ths (by decide) (by decide), hown H.fls (by decide) (by decide), hown H.lg (by decide) (by decide), hoth, by simpa using h2, ?_, H.num, fun j u hu => ?_, fun b hb => ?_, Nat.le_trans H.low h4, fun u hu => Nat.lt_of_lt_of_le (H.abl u hu) h4⟩, ?_⟩
  · obtain ⟨es, cl, hmb, hx⟩ := H.map
    exact ⟨es, cl, keep _ _ hmb (by simp) (by simp), hx⟩
  · obtain ⟨h1, h2, ⟨k3, h3⟩, ⟨k4, h4⟩, ⟨vv, a, h5, h6⟩, h7⟩ := H.thr j u hu
    exact ⟨keep _ _ h1 (by simp) (by simp), keep _ _ h2 (by simp) (by simp), ⟨k3, keep _ _ h3 (by simp) (by simp)⟩, ⟨k4, keep _ _ h4 (by simp) (by simp)⟩, ⟨vv, a, keep _ _ h5 (by simp) (by simp), h6⟩, fun e r k e2 => keep _ _ (h7 e r k e2) (by simp) (by simp)⟩
  · obtain ⟨b1, b2⟩ := H.kept b hb
    obtain ⟨k1, k2, k3, k4, k5, k6, k7, k8⟩ := hap.kept b hb
    exact ⟨Nat.lt_of_lt_of_le b1 h4, (h5 b b1 k1 k6).trans b2⟩
  · obtain ⟨p1, p2, p3, p4, p5, p6, p7, p8⟩ := hap
    refine ⟨fun b e e2 => ?_, p2, p3, p4, p5, p6, p7, fun b hb => ?_⟩
    · rcases hnew b e2 with h | h
      · exact p1 b e h
      · have := own_lt H.wn e; omega
    · obtain ⟨k1, k2, k3, k4, k5, k6, k7, k8⟩ := p8 b hb
      have hb1 := (H.kept b hb).1
      refine ⟨k1, k2, k3, k4, k5, fun e => ?_, k7, k8⟩
      all_goals (
        rcases hnew b e.symm with h | h
        · exact k6 h.symm
        · omega)
/-- A thread has ended. -/
theorem GateAt.ended {z : World} {i kk : Nat} {t : Th} {vv : Value} {a : Entry} (H : GateAt g P (some i) stops x) (hap : g.Apart) (hi : g.thr[i]? = some t) (hp : (P.progs i).ended = true) (h4 : z.heap[t.tb]? = some (.cells (thrObj g.rb i t.wk t.st vv a true) 184 (2, 4)))
    (h6 : ∀ q, q ≠ t.tb → q ≠ t.st → z.heap[q]? = x.heap[q]?) (h7 : z.heap[t.st]? = some (.chan 0 #[] false kk kk false)) (h8 : z.heap.size = x.heap.size) : GateAt g P none stops z := by
  have hT := H.thr i t hi
  obtain ⟨k0, hst⟩ := hT.sto
  obtain ⟨v0, a0, htb, _⟩ := hT.tbo
  have hmem : t ∈ g.thr := List.mem_of_getElem? hi
  have keep : ∀ (b : Nat) (o : Obj), x.heap[b]? = some o → (∀ kk, o ≠ .chan 0 #[] false kk kk false) → b ≠ t.tb → z.heap[b]? = some o := fun b o hb hc hne => by
    rw [h6 b hne (blk_ne hb hst (hc _))]; exact hb
  have hbt : ∀ (b : Nat) (o : Obj), x.heap[b]? = some o → (∀ cur f, o ≠ .cells cur 184 f) → b ≠ t.tb := fun b o hb hn => blk_ne hb htb (hn _ _)
  have hown : ∀ {e : TypeId} {size : Nat} {v : Value} {n : Nat} {xs : List Value}, x.ownsRow g.N e size v n xs → e ≠ 184 → z.ownsRow g.N e size v n xs := fun hv he => own_heap hv fun b hb => by
    obtain ⟨cur, hc⟩ := own_obj hv hb
    rw [keep b _ hc (by simp) (hbt b _ hc (fun c f e => by injection e with _ e2; exact he e2)), hc]
  refine ⟨keep _ _ H.obj (by simp) (hbt _ _ H.obj (by simp)), hown H.ths (by decide), hown H.fls (by decide), hown H.lg (by decide), hown H.wn (by decide), hown H.rd (by decide), ?_, H.num, fun j u hu => ?_, fun b hb => ?_, by rw [h8]; exact H.low, fun u hu => by rw [h8]; exact H.abl u hu⟩
  · obtain ⟨es, cl, hmb, hx⟩ := H.map
    exact ⟨es, cl, keep _ _ hmb (by simp) (hbt _ _ hmb (by simp)), hx⟩
  · have hch : ∀ (b kq : Nat), x.heap[b]? = some (Obj.chan 0 #[] false kq kq false) → ∃ kq, z.heap[b]? = some (Obj.chan 0 #[] false kq kq false) := fun b kq hb => by
      by_cases e : b = t.st
      · exact ⟨kk, by rw [e]; exact h7⟩
      · exact ⟨kq, by rw [h6 _ (blk_ne hb htb (by simp)) e]; exact hb⟩
    by_cases hji : j = i
    · subst hji
      obtain rfl : t = u := Option.some.inj (hi.symm.trans hu)
      obtain ⟨e1, e2, ⟨k3, e3⟩, ⟨k4, e4⟩, _, _⟩ := hT
      refine ⟨keep _ _ e1 (by simp) (hbt _ _ e1 (by simp)), keep _ _ e2 (by simp) (hbt _ _ e2 (by simp)), hch _ _ e3, hch _ _ e4, ⟨vv, a, by rw [hp]; exact h4, fun _ q k' e => ?_⟩, fun _ q k' e => ?_⟩
      · rw [e] at hp; cases hp
      · rw [e] at hp; cases hp
    · have e0 : (some i == some j) = false := by simp; exact fun e => hji e.symm
      have hu2 := H.thr j u hu
      rw [e0] at hu2
      obtain ⟨e1, e2, ⟨k3, e3⟩, ⟨k4, e4⟩, ⟨vv, a, e5, e6⟩, e7⟩ := hu2
      exact ⟨keep _ _ e1 (by simp) (hbt _ _ e1 (by simp)), keep _ _ e2 (by simp) (hbt _ _ e2 (by simp)), hch _ _ e3, hch _ _ e4, ⟨vv, a, keep _ _ e5 (by simp) (fun e => hji (hap.tb j i u t hu hi e)), e6⟩, fun q r' k' e => by
        have e8 := e7 q r' k' e
        exact keep _ _ e8 (by simp) (hbt _ _ e8 (by simp))⟩
  · obtain ⟨b1, b2⟩ := H.kept b hb
    obtain ⟨_, _, _, _, _, _, _, k8⟩ := hap.kept b hb
    obtain ⟨k9, _, k10, _⟩ := k8 t hmem
    exact ⟨by rw [h8]; omega, by rw [h6 b k9 k10]; exact b2⟩
end
end Go.Proofs.Ytecmobjiepgfjaa
/- What is asked of a thread's body: a judgement by the turns that are left. -/
namespace Go.Proofs.Ytecmobjiepgfjaa
open Go.Conc Go.RowKit
open Go.ConcN (upd upd_same upd_ne)
set_option linter.unusedSimpArgs false
set_option linter.unusedVariables false
set_option maxRecDepth 100000
/-- The bodies' side of the memory: where the cells lie; what stands in the bodies' own blocks (none of col). -/
structure Side (Sh : Type) where
  A : Nat → Nat
  nc : Nat
  I : Sh → (Nat → Int) → (Nat → Prop) → World → Prop
  inj : ∀ a b, a < nc → b < nc → A a = A b → a = b
  cell : ∀ {sh cells col x}, I sh cells col x → ∀ i, i < nc → RowAt x (A i) ∧ x.cell? (th (A i) 0) = some (.int .i64 (cells i)) ∧ ¬ col (A i)
  frame : ∀ {sh cells col x}, I sh cells col x → ∀ (col' : Nat → Prop) (y : World), x.heap.size ≤ y.heap.size → (∀ r, r < x.heap.size → ¬ col r → y.heap[r]? = x.heap[r]?) → (∀ r, r < x.heap.size → (col' r → col r)) → I sh cells col' y
  set : ∀ {sh cells col x}, I sh cells col x → ∀ (i : Nat) (v : Int) (col' : Nat → Prop) (y : World), i < nc → x.heap.size ≤ y.heap.size → (∀ r, r < x.heap.size → ¬ col r → r ≠ A i → y.heap[r]? = x.heap[r]?) → y.heap[A i]? = (x.setCell (th (A i) 0) (.int .i64 v)).heap[A i]? → (∀ r, r < x.heap.size → (col' r → col r)) → I sh (upd cells i v) col' y
/-- The thread lives. -/
def Lives (x : World) (tb rb : Nat) : Prop := x.cell? (th tb 0) = some (P0 rb) ∧ x.cell? (th tb 13) = some (.bool false) ∧ rb ≠ tb
section
variable {Sh : Type}
/-- Where a body may come to: its next access, or its end; what is asked there (A: behind the access). -/
def Reach (Post : Value → World → Prop) (S : Side Sh) (tb : Nat) (cb : Frame) (Aft : (Told → Prog Sh Unit) → Frame → List Frame → Prop) (C : Ctx) (col : Nat → Prop) (cells : Nat → Int) (x : World) (sh : Sh) (p : Prog Sh Unit) : Prop :=
  ∀ y, x.heap.size ≤ y.heap.size → (∀ r, col r → y.heap[r]? = x.heap[r]?) → S.I sh cells col y →
    match p with
    | .acc r k => ∀ c cs, r.Good → r.cell < S.nc → Aft k c cs → JG Try.prog Post C (G (Frame.enter Try.prog 101 #[P0 tb, P0 (S.A r.cell), .int .i8 r.op, .int .i64 r.arg, .int .i64 r.new] .normal) (c :: cs)) y
    | .ret _ => ∀ v, JG Try.prog Post C (G (cb.finish v) [rootF Try.prog]) y
    | _ => True
/-- A thread that is stopped where Step returns to c comes to its end. -/
def StopOK (Post : Value → World → Prop) (cb c : Frame) (cs : List Frame) : Prop := ∀ (C : Ctx) (x : World),
  (∀ y, x.heap.size ≤ y.heap.size → (∀ r, r < x.heap.size → y.heap[r]? = x.heap[r]?) → JG Try.prog Post C (G (cb.raise [{ v := stopV, recovered := false }]) [rootF Try.prog]) y) → JG Try.prog Post C (G (c.raise [{ v := stopV, recovered := false }]) cs) x
/-- Behind an access, with m turns left: k says what the body does, f what c is told. -/
def AfterV (Post : Value → World → Prop) (S : Side Sh) (tb rb : Nat) (cb : Frame) : Nat → (Told → Value) → (Told → Prog Sh Unit) → Frame → List Frame → Prop
  | 0, _, _, c, cs => StopOK Post cb c cs
  | m + 1, f, k, c, cs => StopOK Post cb c cs ∧ ∀ (C : Ctx) (x : World) (col : Nat → Prop) (sh : Sh) (cells : Nat → Int) (a : Told), C.d = 0 → Lives x tb rb → col tb → (∀ r, col r → r < x.heap.size) → S.I sh cells col x →
      Reach Post S tb cb (AfterV Post S tb rb cb m fun a => .tuple #[.int .i64 a.was, .int .i64 a.now, .bool a.ok]) C col cells x ((k a).pass sh).1 ((k a).pass sh).2 → JG Try.prog Post C (G (c.finish (f a)) cs) x
/-- What Step tells. -/
def stepV (a : Told) : Value := .tuple #[.int .i64 a.was, .int .i64 a.now, .bool a.ok]
/-- A thread's body, with m turns left. -/
structure BodyOK (Post : Value → World → Prop) (S : Side Sh) (m : Nat) (fb : FuncId) (cap : Array Value) (body : Prog Sh Unit) : Prop where
  has : HasBody fb
  go : ∀ (C : Ctx) (x : World) (col : Nat → Prop) (sh : Sh) (cells : Nat → Int) (tb rb : Nat) (cb : Frame), C.d = 0 → Lives x tb rb → col tb → (∀ r, col r → r < x.heap.size) → S.I sh cells col x →
    Reach Post S tb cb (AfterV Post S tb rb cb m stepV) C col cells x (body.pass sh).1 (body.pass sh).2 → JG Try.prog Post C (G (Frame.enter Try.prog fb (#[P0 tb] ++ cap) .normal) [cb, rootF Try.prog]) x
end
end Go.Proofs.Ytecmobjiepgfjaa
/- The gate's memory, as able and the picks read it. -/
namespace Go.Proofs.Ytecmobjiepgfjaa
open Go.Conc Go.RowKit
open Go.ConcN (upd upd_same upd_ne)
set_option linter.unusedSimpArgs false
set_option linter.unusedVariables false
set_option maxRecDepth 100000
section
variable {Sh : Type} {g : Gs} {P : Play Sh} {stops : Bool} {x : World}
/-- The threads as able sees them. -/
theorem GateAt.threads (H : GateAt g P none stops x) (hc : ∀ (j : Nat) (r : Ask) (k : Told → Prog Sh Unit), j < P.n → P.progs j = .acc r k → x.cell? (th (g.A r.cell) 0) = some (.int .i64 (P.st.cells r.cell))) (hout : ∀ j, j < P.n → (P.progs j).ended = true ∨ ∃ r k, P.progs j = .acc r k) :
    ∃ all : List Thr, all.length = P.n ∧ (∀ (j : Nat) (t : Thr), all[j]? = some t → t.At x j) ∧ (all.map fun t => P0 t.tb) = (g.thr.map fun t => P0 t.tb) ∧ (∀ (j : Nat) (t : Thr), all[j]? = some t → t.may = P.can j ∧ t.e = (P.progs j).ended) := by
  have hex : ∀ j, j < P.n → ∃ t : Thr, t.At x j ∧ (∀ u, g.thr[j]? = some u → t.tb = u.tb) ∧ t.may = P.can j ∧ t.e = (P.progs j).ended := fun j hj => by
    obtain ⟨u, hu⟩ : ∃ u, g.thr[j]? = some u := ⟨_, List.getElem?_eq_getElem (by rw [H.num]; exact hj)⟩
    obtain ⟨h1, h2, _, _, ⟨vv, a, h5, h6⟩, h7⟩ := H.thr j u hu
    rcases hout j hj with he | ⟨r, k, hp⟩
    · refine ⟨⟨u.tb, g.rb, u.wk, u.st, vv, a, true, 0, 0⟩, ⟨?_, fun e => by cases e⟩, fun u' e => by rw [hu] at e; rw [Option.some.inj e], ?_, he.symm⟩
      · have := h5; rw [he] at this; exact this
      · have hr : (P.progs j).req = none := by
          cases hq : P.progs j <;> rw [hq] at he <;> first | rfl | cases he
        simp [Thr.may, mayGo, Play.can, hr]
    · obtain ⟨e1, e2⟩ := h6 rfl r k hp
      have hne : (P.progs j).ended = false := by rw [hp]; rfl
      refine ⟨⟨u.tb, g.rb, u.wk, u.st, vv, a, false, g.A r.cell, P.st.cells r.cell⟩, ⟨?_, fun _ _ => ⟨e1, hc j r k hj hp⟩⟩, fun u' e => by rw [hu] at e; rw [Option.some.inj e], ?_, hne.symm⟩
      · have := h5; rw [hne] at this; exact this
      · simp only [Thr.may, mayGo, Play.can, hp, Prog.req, e2, Ask.at', Bool.not_false, Bool.true_and]
        by_cases q1 : r.op = 6 <;> by_cases q2 : P.st.cells r.cell = r.arg <;> simp [q1, q2]
  have hall : ∀ n, n ≤ P.n → ∃ all : List Thr, all.length = n ∧ ∀ (j : Nat) (t : Thr), all[j]? = some t → t.At x j ∧ (∀ u, g.thr[j]? = some u → t.tb = u.tb) ∧ t.may = P.can j ∧ t.e = (P.progs j).ended := fun n => by
    induction n with
    | zero => exact fun _ => ⟨[], rfl, fun j t e => by simp at e⟩
    | succ n ih =>
      intro hn
      obtain ⟨all, h1, h2⟩ := ih (by omega)
      obtain ⟨t, ht⟩ := hex n (by omega)
      refine ⟨all ++ [t], by simp [h1], fun j u hu => ?_⟩
      rcases Nat.lt_or_ge j all.length with h | h
      · rw [List.getElem?_append_left h] at hu; exact h2 j u hu
      · rw [List.getElem?_append_right h] at hu
        have hj : j - all.length = 0 := by
          rcases Nat.eq_zero_or_pos (j - all.length) with h0 | h0
          · exact h0
          · rw [List.getElem?_eq_none (by simp; omega)] at hu; cases hu
        rw [hj] at hu
        obtain rfl : t = u := by simpa using hu
        obtain rfl : j = n := by omega
        exact ht
  obtain ⟨all, h1, h2⟩ := hall P.n (Nat.le_refl _)
  refine ⟨all, h1, fun j t e => (h2 j t e).1, ?_, fun j t e => (h2 j t e).2.2⟩
  apply List.ext_getElem?
  intro j
  rw [List.getElem?_map, List.getElem?_map]
  rcases Nat.lt_or_ge j P.n with h | h
  · obtain ⟨t, ht⟩ : ∃ t, all[j]? = some t := ⟨_, List.getElem?_eq_getElem (by omega)⟩
    obtain ⟨u, hu⟩ : ∃ u, g.thr[j]? = some u := ⟨_, List.getElem?_eq_getElem (by rw [H.num]; exact h)⟩
    rw [ht, hu]
    simp [(h2 j t ht).2.1 u hu]
  · rw [List.getElem?_eq_none (l := all) (by omega), List.getElem?_eq_none (l := g.thr) (by rw [H.num]; exact h)]; rfl
end
end Go.Proofs.Ytecmobjiepgfjaa
/- The gate's memory at a thread's being let go. -/
namespace Go.Proofs.Ytecmobjiepgfjaa
open Go.Conc Go.RowKit
open Go.ConcN (upd upd_same upd_ne)
set_option linter.unusedSimpArgs false
set_option linter.unusedVariables false
set_option maxRecDepth 100000
section
variable {Sh : Type} {S : Side Sh} {g : Gs} {P : Play Sh} {stops : Bool} {x : World}
theorem GateAt.atStep {i : Nat} {t : Th} {r : Ask} {k : Told → Prog Sh Unit} {sh : Sh} {h : Option Nat} (H : GateAt g P h false x) (hh : h ≠ some i) (hap : g.Apart) (hA : g.A = S.A) (hi : g.thr[i]? = some t) (hp : P.progs i = .acc r k) (hI : S.I sh P.st.cells g.col x) (hr : r.cell < S.nc) (hn : ∀ c ∈ P.st.names, c < S.nc) (hlen : P.st.log.length < 70000) :
    AtStep x t.tb g.rb t.ab g.mb g.N i g.vT g.vL g.vW g.vR g.vF g.A P.st.names P.st.log r (P.st.cells r.cell) := by
  have hT := H.thr i t hi
  have e0 : (h == some i) = false := by
    cases h with
    | none => rfl
    | some q => simp; exact fun e => hh (by rw [e])
  rw [e0] at hT
  obtain ⟨vv, a, htb, _⟩ := hT.tbo
  have hab := hT.abo rfl r k hp
  have hmem : t ∈ g.thr := List.mem_of_getElem? hi
  obtain ⟨es, cl, hmb, _⟩ := id H.map
  have hcol : ∀ b, b = t.tv ∨ b = t.tb ∨ b = t.rv ∨ b = t.wk ∨ b = t.st ∨ b = t.ab → g.col b := fun b hb => .inr (.inr (.inr (.inr (.inr (.inr (.inr (.inr ⟨t, hmem, hb⟩)))))))
  have hc := fun c hc => S.cell hI c hc
  rw [← hA] at hc
  exact {
    run := cell_obj htb 0
    obj := H.obj
    rowL := H.lg
    box := hab
    la := hap.la t hmem
    lt := own_ne H.lg fun cur => by rw [htb]; simp
    lr := own_ne H.lg fun cur => by rw [H.obj]; simp
    lm := own_ne H.lg fun cur => by rw [hmb]; simp
    li := fun e => (hc _ hr).2.2 (by simp [Gs.col, e])
    low := H.low
    len := hlen
    map := H.map
    row := (hc _ hr).1
    rows := fun c hcn => ⟨(hc c (hn c hcn)).1, fun e => S.inj c r.cell (hn c hcn) hr (by rw [← hA]; exact e)⟩
    offs := fun c hcn e => (hc c (hn c hcn)).2.2 (hcol _ (by simp [e]))
    ia := fun e => (hc _ hr).2.2 (hcol _ (by simp [e]))
    it := fun e => (hc _ hr).2.2 (hcol _ (by simp [e]))
    ir := fun e => (hc _ hr).2.2 (by simp [Gs.col, e])
    was := (hc _ hr).2.1 }
/-- A channel's counters moved. -/
theorem GateAt.chan {h : Option Nat} {c kk : Nat} (H : GateAt g P h stops x) (hap : g.Apart) (hc : ∃ t ∈ g.thr, c = t.wk ∨ c = t.st) : GateAt g P h stops (x.setChan c 0 #[] false kk kk false) := by
  obtain ⟨t, ht, hct⟩ := hc
  obtain ⟨i, hi⟩ := List.getElem?_of_mem ht
  obtain ⟨k0, hc0⟩ : ∃ k, x.heap[c]? = some (.chan 0 #[] false k k false) := by
    rcases hct with rfl | rfl
    · exact (H.thr i t hi).wko
    · exact (H.thr i t hi).sto
  have hlt := (Array.getElem?_eq_some_iff.1 hc0).1
  have hself : (x.setChan c 0 #[] false kk kk false).heap[c]? = some (.chan 0 #[] false kk kk false) := by simp [World.setChan, hlt]
  have keep : ∀ (b : Nat) (o : Obj), x.heap[b]? = some o → (∀ kk, o ≠ .chan 0 #[] false kk kk false) → (x.setChan c 0 #[] false kk kk false).heap[b]? = some o := fun b o hb hn => by rw [heap_chan_ne (blk_ne hb hc0 (hn _))]; exact hb
  have hch : ∀ (b kq : Nat), x.heap[b]? = some (Obj.chan 0 #[] false kq kq false) → ∃ kq, (x.setChan c 0 #[] false kk kk false).heap[b]? = some (Obj.chan 0 #[] false kq kq false) := fun b kq hb => by
    by_cases e : b = c
    · exact ⟨kk, by rw [e]; exact hself⟩
    · exact ⟨kq, by rw [heap_chan_ne e]; exact hb⟩
  have hown : ∀ {e : TypeId} {size : Nat} {v : Value} {n : Nat} {xs : List Value}, x.ownsRow g.N e size v n xs → (x.setChan c 0 #[] false kk kk false).ownsRow g.N e size v n xs := fun hv => own_heap hv fun b hb => by
    obtain ⟨cur, hcur⟩ := own_obj hv hb
    rw [keep b _ hcur (by simp), hcur]
  refine ⟨keep _ _ H.obj (by simp), hown H.ths, hown H.fls, hown H.lg, hown H.wn, hown H.rd, ?_, H.num, fun j u hu => ?_, fun b hb => ?_, by rw [size_chan]; exact H.low, fun u hu => by rw [size_chan]; exact H.abl u hu⟩
  · obtain ⟨es, cl, hmb, hx⟩ := H.map
    exact ⟨es, cl, keep _ _ hmb (by simp), hx⟩
  · obtain ⟨e1, e2, ⟨k3, e3⟩, ⟨k4, e4⟩, ⟨vv, a, e5, e6⟩, e7⟩ := H.thr j u hu
    exact ⟨keep _ _ e1 (by simp), keep _ _ e2 (by simp), hch _ _ e3, hch _ _ e4, ⟨vv, a, keep _ _ e5 (by simp), e6⟩, fun q r' k' e => keep _ _ (e7 q r' k' e) (by simp)⟩
  · obtain ⟨b1, b2⟩ := H.kept b hb
    obtain ⟨_, _, _, _, _, _, _, k8⟩ := hap.kept b hb
    obtain ⟨_, k9, k10, _⟩ := k8 t ht
    refine ⟨by rw [size_chan]; exact b1, ?_⟩
    rw [heap_chan_ne (by rcases hct with rfl | rfl <;> assumption)]; exact b2
end
end Go.Proofs.Ytecmobjiepgfjaa
/- Between turns: what stands; how whoever has the token gives it back; a thread's turn. -/
namespace Go.Proofs.Ytecmobjiepgfjaa
open Go.Conc Go.RowKit
open Go.ConcN (upd upd_same upd_ne)
set_option linter.unusedSimpArgs false
set_option linter.unusedVariables false
set_option maxRecDepth 100000
/-- What a run keeps from its beginning to its end. -/
structure Fix where
  rb : Nat
  mb : Nat
  N : Nat
  kept : Nat → Prop
  x0 : World
  n0 : Nat
  hm : Nat
  lo : Nat
  io : Os × Array (Nat × ByteArray)
section
variable {Sh : Type}
/-- The chairs of those threads that stand, but of whoever has the token. -/
structure Chairs (Post : Value → World → Prop) (S : Side Sh) (F : Fix) (g : Gs) (P : Play Sh) (m : Nat) (h : Option Nat) (Ch : Nat → Option Chair) : Prop where
  oth : ∀ (i : Nat) (s : Chair), i ≠ F.hm → Ch i = some s → (∀ j, h = some j → i ≠ F.n0 + j) → ∃ (j : Nat) (t : Th), i = F.n0 + j ∧ g.thr[j]? = some t ∧ s.c = t.wk ∧ (P.progs j).ended = false
  chair : ∀ (j : Nat) (t : Th) (r : Ask) (k : Told → Prog Sh Unit), g.thr[j]? = some t → h ≠ some j → P.progs j = .acc r k → ∃ (W : Chair) (cb cf : Frame) (csf : List Frame), Ch (F.n0 + j) = some W ∧ W.c = t.wk ∧ (∀ a v, W.kn a v ↔ a = th t.tb 2 ∧ v = .chan (some t.wk)) ∧ (∀ gg, W.home gg → StepHome Post t.tb t.ab j (g.A r.cell) r cf csf gg) ∧ AfterV Post S t.tb g.rb cb m stepV k cf csf ∧ r.Good ∧ r.cell < S.nc ∧ AfterBody Post t.rv t.tv t.tb t.st cb ∧ AfterStop Post t.rv t.tv t.tb t.st cb
/-- What stands, with m turns left; h: the thread that has the token (none: main has it). -/
structure Stood (Post : Value → World → Prop) (S : Side Sh) (F : Fix) (g : Gs) (P : Play Sh) (m : Nat) (h : Option Nat) (C : Ctx) (x : World) : Prop where
  gate : GateAt g P h false x
  apart : g.Apart
  rb : g.rb = F.rb
  mb : g.mb = F.mb
  N : g.N = F.N
  kept : g.kept = F.kept
  x0 : g.x0 = F.x0
  addr : g.A = S.A
  names : ∀ c ∈ P.st.names, c < S.nc
  len : P.st.log.length + m ≤ 65536
  d : C.d = 0
  n : C.n = F.n0 + P.n
  main : F.hm < F.n0
  lo : C.lo = F.lo
  low : F.lo ≤ F.N
  io : C.io = F.io
  holds : C.h = h.elim F.hm fun i => F.n0 + i
  live : ∀ j, j < P.n → h ≠ some j → (∃ r k, P.progs j = .acc r k) ∨ (∃ v, P.progs j = .ret v)
  chairs : Chairs Post S F g P m h C.Ch
theorem StopOK.of {Post : Value → World → Prop} {S : Side Sh} {tb rb : Nat} {cb : Frame} {f : Told → Value} {k : Told → Prog Sh Unit} {c : Frame} {cs : List Frame} : ∀ {m : Nat}, AfterV Post S tb rb cb m f k c cs → StopOK Post cb c cs
  | 0, h => h
  | _ + 1, h => h.1
theorem AfterV.less {Post : Value → World → Prop} {S : Side Sh} {tb rb : Nat} {cb : Frame} : ∀ (m : Nat) (f : Told → Value) (k : Told → Prog Sh Unit) (c : Frame) (cs : List Frame), AfterV Post S tb rb cb (m + 1) f k c cs → AfterV Post S tb rb cb m f k c cs
  | 0, _, _, _, _, h => h.1
  | m + 1, f, k, c, cs, h => by
    refine ⟨h.1, fun C x col sh cells a h1 h2 h3 h4 h5 h6 => h.2 C x col sh cells a h1 h2 h3 h4 h5 fun y e1 e2 e3 => ?_⟩
    have := h6 y e1 e2 e3
    revert this
    generalize ((k a).pass sh).2 = p
    cases p with
    | acc r k' => exact fun q c' cs' e4 e5 e6 => q c' cs' e4 e5 (AfterV.less m _ k' c' cs' e6)
    | ret v => exact id
    | fall => exact id
    | out => exact id
    | act f k' => exact id
theorem Chairs.less {Post : Value → World → Prop} {S : Side Sh} {F : Fix} {g : Gs} {P : Play Sh} {m : Nat} {h : Option Nat} {Ch : Nat → Option Chair} (H : Chairs Post S F g P (m + 1) h Ch) : Chairs Post S F g P m h Ch := by
  refine ⟨H.oth, fun j t r k e1 e2 e3 => ?_⟩
  obtain ⟨W, cb, cf, csf, a1, a2, a3, a4, a5, a6⟩ := H.chair j t r k e1 e2 e3
  exact ⟨W, cb, cf, csf, a1, a2, a3, a4, AfterV.less _ _ _ _ _ a5, a6⟩
section
variable {g : Gs} {P : Play Sh} {stops : Bool} {x : World}
/-- A thread is let go. -/
theorem GateAt.let {i : Nat} (H : GateAt g P none stops x) (he : (P.progs i).ended = false) : GateAt g P (some i) stops x := by
  refine ⟨H.obj, H.ths, H.fls, H.lg, H.wn, H.rd, H.map, H.num, fun j t hj => ?_, H.kept, H.low, H.abl⟩
  by_cases e : i = j
  · subst e
    obtain ⟨h1, h2, h3, h4, ⟨vv, a, h5, h6⟩, h7⟩ := H.thr i t hj
    have e0 : (some i == some i) = true := by simp
    rw [e0]
    refine ⟨h1, h2, h3, h4, ⟨vv, a, ?_, fun q => by cases q⟩, fun q => by cases q⟩
    have e1 : ((none : Option Nat) == some i) = false := rfl
    rw [e1, he] at h5
    simpa using h5
  · have e0 : (some i == some j) = false := by simp; exact e
    rw [e0]; exact H.thr j t hj
/-- Whoever has the token goes on by itself. -/
theorem GateAt.settled {i : Nat} {sh : Sh} {p : Prog Sh Unit} (H : GateAt g P (some i) stops x) : GateAt g { P with progs := upd P.progs i p, st := { P.st with sh := sh } } (some i) stops x := by
  refine ⟨H.obj, H.ths, H.fls, H.lg, H.wn, H.rd, H.map, H.num, fun j t hj => ?_, H.kept, H.low, H.abl⟩
  by_cases e : i = j
  · subst e
    have e0 : (some i == some i) = true := by simp
    have hT := H.thr i t hj
    rw [e0] at hT ⊢
    obtain ⟨h1, h2, h3, h4, ⟨vv, a, h5, h6⟩, h7⟩ := hT
    exact ⟨h1, h2, h3, h4, ⟨vv, a, by simpa using h5, fun q => by cases q⟩, fun q => by cases q⟩
  · have e0 : (some i == some j) = false := by simp; exact e
    have hT := H.thr j t hj
    rw [e0] at hT ⊢
    rw [show ({ P with progs := upd P.progs i p, st := { P.st with sh := sh } } : Play Sh).progs j = P.progs j from upd_ne _ _ (fun q => e q.symm)]
    exact hT
end
theorem chan_self {w : World} {c k : Nat} (h : c < w.heap.size) : (w.setChan c 0 #[] false k k false).heap[c]? = some (.chan 0 #[] false k k false) := by simp [World.setChan, h]
theorem set_get {l : List Th} {i : Nat} {t : Th} {v : Th} (hi : l[i]? = some t) {j : Nat} {u : Th} (hu : (l.set i v)[j]? = some u) : (j = i ∧ u = v) ∨ (j ≠ i ∧ l[j]? = some u) := by
  rw [List.getElem?_set] at hu
  by_cases e : i = j
  · subst e
    rw [if_pos rfl, if_pos (List.getElem?_eq_some_iff.1 hi).1] at hu
    exact .inl ⟨rfl, (Option.some.inj hu).symm⟩
  · rw [if_neg e] at hu
    exact .inr ⟨fun e2 => e e2.symm, hu⟩
section
variable {Post : Value → World → Prop} {S : Side Sh} {F : Fix} {g : Gs} {P : Play Sh} {m : Nat} {C : Ctx} {x : World}
/-- HOW THE TOKEN COMES BACK: at its next Step, or at its end, a thread gives it back to main. -/
theorem reach_J {i : Nat} {t : Th} {sp : Chair} {cb c : Frame} {cs : List Frame} {va : Value} {sh : Sh} {p : Prog Sh Unit} (H : Stood Post S F g P m (some i) C x) (hi : g.thr[i]? = some t) (hsp : C.Ch F.hm = some sp) (hc : sp.c = t.st)
    (hcb : AfterBody Post t.rv t.tv t.tb t.st cb) (hcs : AfterStop Post t.rv t.tv t.tb t.st cb)
    (hback : ∀ g₂, sp.home g₂ → ∀ (C2 : Ctx) (z2 : World) (v : Value), z2.cell? (th t.tv 0) = some (P0 t.tb) → JG Try.prog Post C2 (G (c.finish va) cs) z2 → JG Try.prog Post C2 (Go.Conc.served g₂ v) z2)
    (hnext : ∀ (g' : Gs) (C' : Ctx) (z : World), g'.thr.length = g.thr.length → Stood Post S F g' { P with progs := upd P.progs i p, st := { P.st with sh := sh } } m none C' z → S.I sh P.st.cells g'.col z → JG Try.prog Post C' (G (c.finish va) cs) z) :
    Reach Post S t.tb cb (AfterV Post S t.tb g.rb cb m stepV) C g.col P.st.cells x sh p := by
  intro y hsz hcol hI
  have H1 : GateAt g { P with progs := upd P.progs i p, st := { P.st with sh := sh } } (some i) false y := (H.gate.frame hcol hsz).settled
  have hT := H1.thr i t hi
  have e0 : (some i == some i) = true := by simp
  rw [e0] at hT
  obtain ⟨htv, hrv, ⟨kw, hwk⟩, ⟨ks, hst⟩, ⟨vv, ao, htb, _⟩, _⟩ := hT
  replace htb : y.heap[t.tb]? = some (.cells (thrObj g.rb i t.wk t.st vv ao false) 184 (2, 4)) := by simpa using htb
  have hhold : C.h = F.n0 + i := H.holds
  have hmain := H.main
  have hne : F.hm ≠ C.h := by omega
  have hmem : t ∈ g.thr := List.mem_of_getElem? hi
  have hin : i < P.n := by rw [← H.gate.num]; exact (List.getElem?_eq_some_iff.1 hi).1
  have hcolT : ∀ r, r = t.tv ∨ r = t.tb ∨ r = t.rv ∨ r = t.wk ∨ r = t.st ∨ r = t.ab → g.col r := fun r h => .inr (.inr (.inr (.inr (.inr (.inr (.inr (.inr ⟨t, hmem, h⟩)))))))
  have hown : ∀ (i' : Nat) (s' : Chair), i' ≠ C.h → C.Ch i' = some s' → s'.c ≠ t.wk := fun i' s' h1 h2 => by
    by_cases e : i' = F.hm
    · subst e
      rw [hsp] at h2; obtain rfl := Option.some.inj h2
      rw [hc]; exact fun e => H.apart.ws i i t t hi hi e.symm
    · obtain ⟨j, u, e1, e2, e3, _⟩ := H.chairs.oth i' s' e h2 (fun j q => by obtain rfl := Option.some.inj q; omega)
      rw [e3]
      intro e4
      have := H.apart.wk j i u t e2 hi e4
      omega
  cases p with
  | fall => trivial
  | out => trivial
  | act f k => trivial
  | ret v0 =>
    intro v
    have htv0 : y.cell? (th t.tv 0) = some (P0 t.tb) := cell_obj htv 0
    refine hcb _ _ _ ⟨⟨F.hm, sp, false, H.d, by omega, hne, hsp, hc, htv0, cell_obj htb 3, cell_obj htb 13, by simp [World.frozen?, htb], fun g₂ kk e1 e2 => ?_⟩⟩
    have hsb : t.st ≠ t.tb := blk_ne hst htb (by simp)
    have hvb : t.tv ≠ t.tb := blk_ne htv htb (by simp)
    have hvs : t.tv ≠ t.st := blk_ne htv hst (by simp)
    have hlt : t.st < (y.setCell (th t.tb 13) (.bool true)).heap.size := by rw [size_set]; exact (Array.getElem?_eq_some_iff.1 hst).1
    have hz6 : ∀ q, q ≠ t.tb → q ≠ t.st → ((y.setCell (th t.tb 13) (.bool true)).setChan t.st 0 #[] false (kk + 1) (kk + 1) false).heap[q]? = y.heap[q]? := fun q h1 h2 => by rw [heap_chan_ne h2, heap_set_ne h1]
    have HG := H1.ended (z := (y.setCell (th t.tb 13) (.bool true)).setChan t.st 0 #[] false (kk + 1) (kk + 1) false) (kk := kk + 1) (vv := vv) (a := ao) H.apart hi (by show (upd P.progs i (Prog.ret v0) i).ended = true; rw [upd_same]; rfl)
      (by rw [heap_chan_ne (fun e => hsb e.symm), heap_set_self htb]; rfl) hz6 (chan_self hlt) (by rw [size_chan, size_set])
    refine hback g₂ e1 _ _ _ (by rw [show ((y.setCell (th t.tb 13) (.bool true)).setChan t.st 0 #[] false (kk + 1) (kk + 1) false).cell? (th t.tv 0) = y.cell? (th t.tv 0) from by simp only [World.cell?]; rw [hz6 _ hvb hvs]]; exact htv0) ?_
    refine hnext g _ _ rfl ⟨HG, H.apart, H.rb, H.mb, H.N, H.kept, H.x0, H.addr, H.names, H.len, rfl, H.n, hmain, H.lo, H.low, H.io, rfl, fun j hj _ => ?_, ⟨fun i' s' h1 h2 _ => ?_, fun j u r k h1 _ h3 => ?_⟩⟩ ?_
    · by_cases e : j = i
      · subst e; exact .inr ⟨_, upd_same _ _ _⟩
      · rcases H.live j hj (by simp; exact fun q => e q.symm) with ⟨r, k, q⟩ | ⟨v', q⟩
        · exact .inl ⟨r, k, (upd_ne _ _ e).trans q⟩
        · exact .inr ⟨v', (upd_ne _ _ e).trans q⟩
    · replace h2 : upd C.Ch C.h none i' = some s' := h2
      by_cases e : i' = C.h
      · subst e; rw [upd_same] at h2; cases h2
      · rw [upd_ne _ _ e] at h2
        obtain ⟨j, u, e1, e2, e3, e4⟩ := H.chairs.oth i' s' h1 h2 (fun j q => by obtain rfl := Option.some.inj q; omega)
        exact ⟨j, u, e1, e2, e3, by show (upd P.progs i (Prog.ret v0) j).ended = false; rw [upd_ne _ _ (by rintro rfl; omega)]; exact e4⟩
    · replace h3 : upd P.progs i (Prog.ret v0) j = Prog.acc r k := h3
      have hji : j ≠ i := by rintro rfl; rw [upd_same] at h3; cases h3
      rw [upd_ne _ _ hji] at h3
      obtain ⟨W, cb', cf, csf, a1, a2⟩ := H.chairs.chair j u r k h1 (by simp; exact fun e => hji e.symm) h3
      exact ⟨W, cb', cf, csf, by show upd C.Ch C.h none (F.n0 + j) = _; rw [upd_ne _ _ (by omega)]; exact a1, a2⟩
    · exact S.frame hI _ _ (by rw [size_chan, size_set]; exact Nat.le_refl _) (fun r _ hr => hz6 r (fun e => hr (hcolT r (by simp [e]))) fun e => hr (hcolT r (by simp [e]))) fun r _ h => h
  | acc r k =>
    intro cf csf hr hrc haf
    refine step_J (b := S.A r.cell) (rb := g.rb) (num := i) (wk := t.wk) (st := t.st) (vv := vv) (ao := ao) hr H.d hne hsp hc htb (cell_obj H1.obj 6) (fun e => by have := H1.obj; rw [e, htb] at this; simp at this) (Array.getElem?_eq_some_iff.1 hwk).1 ⟨kw, hwk⟩ hown
      (fun y2 g₂ kk W ab w1 w2 w3 w4 w5 w6 w7 w8 w9 w10 => ?_)
    have hlt : t.st < y2.heap.size := (Array.getElem?_eq_some_iff.1 w5).1
    have hz6 : ∀ q, q ≠ t.st → (y2.setChan t.st 0 #[] false (kk + 1) (kk + 1) false).heap[q]? = y2.heap[q]? := fun q h => heap_chan_ne h
    have hupd : upd P.progs i (Prog.acc r k) i = .acc r k := upd_same _ _ _
    obtain ⟨HG, hap⟩ := H1.stand (z := y2.setChan t.st 0 #[] false (kk + 1) (kk + 1) false) (y := y2) (kk := kk + 1) (r := r) (k := k) H.apart hi hupd w6 w7 w8 (by rw [H.addr]; exact w9) w10 hz6 (by simp [World.setChan, hlt]) (size_chan _ _ _)
    have hvb : t.tv ≠ t.tb := blk_ne htv htb (by simp)
    have hvs : t.tv ≠ t.st := blk_ne htv hst (by simp)
    have hg' : ∀ (j : Nat) (u : Th), (g.thr.set i { t with ab := ab })[j]? = some u → (j = i ∧ u = { t with ab := ab }) ∨ (j ≠ i ∧ g.thr[j]? = some u) := fun j u hu => set_get hi hu
    refine hback g₂ w4 _ _ _ (by
      simp only [World.cell?]; rw [hz6 _ hvs, w10 _ hvb (Array.getElem?_eq_some_iff.1 htv).1]; exact cell_obj htv 0) ?_
    refine hnext _ _ _ (by simp) ⟨HG, hap, H.rb, H.mb, H.N, H.kept, H.x0, H.addr, H.names, H.len, rfl, H.n, hmain, H.lo, H.low, H.io, rfl, fun j hj _ => ?_, ⟨fun i' s' h1 h2 _ => ?_, fun j u r' k' h1 _ h3 => ?_⟩⟩ ?_
    · by_cases e : j = i
      · subst e; exact .inl ⟨_, _, upd_same _ _ _⟩
      · rcases H.live j hj (by simp; exact fun q => e q.symm) with ⟨r', k', q⟩ | ⟨v', q⟩
        · exact .inl ⟨r', k', (upd_ne _ _ e).trans q⟩
        · exact .inr ⟨v', (upd_ne _ _ e).trans q⟩
    · replace h2 : upd C.Ch C.h (some W) i' = some s' := h2
      by_cases e : i' = C.h
      · subst e
        rw [upd_same] at h2
        obtain rfl := Option.some.inj h2
        refine ⟨i, { t with ab := ab }, hhold, ?_, w1, ?_⟩
        · show (g.thr.set i { t with ab := ab })[i]? = _
          rw [List.getElem?_set, if_pos rfl, if_pos (List.getElem?_eq_some_iff.1 hi).1]
        · show (upd P.progs i (Prog.acc r k) i).ended = false
          rw [hupd]; rfl
      · rw [upd_ne _ _ e] at h2
        obtain ⟨j, u, e1, e2, e3, e4⟩ := H.chairs.oth i' s' h1 h2 (fun j q => by obtain rfl := Option.some.inj q; omega)
        have hji : j ≠ i := by rintro rfl; omega
        refine ⟨j, u, e1, ?_, e3, ?_⟩
        · show (g.thr.set i { t with ab := ab })[j]? = _
          rw [List.getElem?_set, if_neg (fun e => hji e.symm)]; exact e2
        · show (upd P.progs i (Prog.acc r k) j).ended = false
          rw [upd_ne _ _ hji]; exact e4
    · rcases hg' j u h1 with ⟨rfl, rfl⟩ | ⟨hji, h1'⟩
      · replace h3 : upd P.progs j (Prog.acc r k) j = Prog.acc r' k' := h3
        rw [hupd] at h3
        injection h3 with e1 e2
        subst e1; subst e2
        refine ⟨W, cb, cf, csf, ?_, w1, w2, ?_, haf, hr, hrc, hcb, hcs⟩
        · show upd C.Ch C.h (some W) (F.n0 + j) = _
          rw [← hhold]; exact upd_same _ _ _
        · show ∀ gg, W.home gg → StepHome Post t.tb ab j (g.A r.cell) r cf csf gg
          rw [H.addr]; exact w3
      · replace h3 : upd P.progs i (Prog.acc r k) j = Prog.acc r' k' := h3
        rw [upd_ne _ _ hji] at h3
        obtain ⟨W', cb', cf', csf', a1, a2⟩ := H.chairs.chair j u r' k' h1' (by simp; exact fun e => hji e.symm) h3
        refine ⟨W', cb', cf', csf', ?_, a2⟩
        show upd C.Ch C.h (some W) (F.n0 + j) = _
        rw [upd_ne _ _ (by omega)]; exact a1
    · refine S.frame hI _ _ (by rw [size_chan]; omega) (fun q hq hr => ?_) fun q hq h => ?_
      · rw [hz6 q fun e => hr (hcolT q (by simp [e])), w10 q (fun e => hr (hcolT q (by simp [e]))) hq]
      · rcases h with h | h | h | h | h | h | h | h | ⟨u, hu, h⟩
        · exact .inl h
        · exact .inr (.inl h)
        · exact .inr (.inr (.inl h))
        · exact .inr (.inr (.inr (.inl h)))
        · exact .inr (.inr (.inr (.inr (.inl h))))
        · exact .inr (.inr (.inr (.inr (.inr (.inl h)))))
        · exact .inr (.inr (.inr (.inr (.inr (.inr (.inl h))))))
        · exact .inr (.inr (.inr (.inr (.inr (.inr (.inr (.inl h)))))))
        · obtain ⟨j, hj⟩ := List.getElem?_of_mem hu
          rcases hg' j u hj with ⟨rfl, rfl⟩ | ⟨_, hj'⟩
          · refine hcolT q ?_
            rcases h with h | h | h | h | h | h
            · exact .inl h
            · exact .inr (.inl h)
            · exact .inr (.inr (.inl h))
            · exact .inr (.inr (.inr (.inl h)))
            · exact .inr (.inr (.inr (.inr (.inl h))))
            · have : q = ab := h
              omega
          · exact .inr (.inr (.inr (.inr (.inr (.inr (.inr (.inr ⟨u, List.mem_of_getElem? hj', h⟩)))))))
end
end
end Go.Proofs.Ytecmobjiepgfjaa
/- A thread's turn, and a thread's beginning: from main's call of goes or begin to where it has come back. -/
namespace Go.Proofs.Ytecmobjiepgfjaa
open Go.Conc Go.RowKit
open Go.ConcN (upd upd_same upd_ne)
set_option linter.unusedSimpArgs false
set_option linter.unusedVariables false
set_option maxRecDepth 100000
theorem upd_upd {α : Type} (f : Nat → α) (i : Nat) (a b : α) : upd (upd f i a) i b = upd f i b := by
  funext j
  by_cases e : j = i
  · subst e; rw [upd_same, upd_same]
  · rw [upd_ne _ _ e, upd_ne _ _ e, upd_ne _ _ e]
section
variable {Sh : Type} {g : Gs} {P : Play Sh} {stops : Bool} {x : World} {h : Option Nat}
theorem GateAt.colLt (H : GateAt g P h stops x) {r : Nat} (hr : g.col r) : r < x.heap.size := by
  rcases hr with q | rfl | rfl | q | q | q | q | q | ⟨t, ht, q⟩
  · exact (H.kept r q).1
  · exact (Array.getElem?_eq_some_iff.1 H.obj).1
  · obtain ⟨es, cl, hmb, _⟩ := H.map
    exact (Array.getElem?_eq_some_iff.1 hmb).1
  · exact own_lt H.ths q.symm
  · exact own_lt H.lg q.symm
  · exact own_lt H.wn q.symm
  · exact own_lt H.rd q.symm
  · exact own_lt H.fls q.symm
  · obtain ⟨j, hj⟩ := List.getElem?_of_mem ht
    obtain ⟨e1, e2, ⟨k3, e3⟩, ⟨k4, e4⟩, ⟨vv, a, e5, e6⟩, e7⟩ := H.thr j t hj
    rcases q with rfl | rfl | rfl | rfl | rfl | rfl
    · exact (Array.getElem?_eq_some_iff.1 e1).1
    · exact (Array.getElem?_eq_some_iff.1 e5).1
    · exact (Array.getElem?_eq_some_iff.1 e2).1
    · exact (Array.getElem?_eq_some_iff.1 e3).1
    · exact (Array.getElem?_eq_some_iff.1 e4).1
    · exact H.abl t ht
theorem colThr {t : Th} (ht : t ∈ g.thr) {r : Nat} (hr : r = t.tv ∨ r = t.tb ∨ r = t.rv ∨ r = t.wk ∨ r = t.st ∨ r = t.ab) : g.col r := .inr (.inr (.inr (.inr (.inr (.inr (.inr (.inr ⟨t, ht, hr⟩)))))))
end
section
variable {Sh : Type} {Post : Value → World → Prop} {S : Side Sh} {F : Fix} {g : Gs} {P : Play Sh} {m : Nat} {C : Ctx} {x : World}
/-- A THREAD'S TURN. -/
theorem serve_J {i : Nat} {t : Th} {r : Ask} {k : Told → Prog Sh Unit} {c : Frame} {cs : List Frame} (H : Stood Post S F g P (m + 1) none C x) (hI : S.I P.st.sh P.st.cells g.col x) (hi : g.thr[i]? = some t) (hp : P.progs i = .acc r k)
    (hnext : ∀ (g' : Gs) (C' : Ctx) (z : World), g'.thr.length = g.thr.length → Stood Post S F g' (P.goes i) m none C' z → S.I (P.goes i).st.sh (P.goes i).st.cells g'.col z → JG Try.prog Post C' (G (c.finish (.tuple #[])) cs) z) :
    JG Try.prog Post C (G (Frame.enter Try.prog 132 #[P0 t.tb] .normal) (c :: cs)) x := by
  obtain ⟨W, cb, cf, csf, a1, a2, a3, a4, a5, hr, hrc, hcb, hcs⟩ := H.chairs.chair i t r k hi (by simp) hp
  have he : (P.progs i).ended = false := by rw [hp]; rfl
  have hh : C.h = F.hm := H.holds
  have hmain := H.main
  have hmem : t ∈ g.thr := List.mem_of_getElem? hi
  have hin : i < P.n := by rw [← H.gate.num]; exact (List.getElem?_eq_some_iff.1 hi).1
  have hT := H.gate.thr i t hi
  have e0 : ((none : Option Nat) == some i) = false := rfl
  rw [e0] at hT
  obtain ⟨htv, hrv, ⟨kw, hwk⟩, ⟨ks, hst⟩, ⟨vv, ao, htb, _⟩, _⟩ := hT
  replace htb : x.heap[t.tb]? = some (.cells (thrObj g.rb i t.wk t.st vv ao false) 184 (2, 4)) := by simpa [he] using htb
  refine goes_J (j := F.n0 + i) (sj := W) (st := t.st) H.d (by omega) a1 (by rw [a2]; exact cell_obj htb 2) (cell_obj htb 3) ⟨(Array.getElem?_eq_some_iff.1 hst).1, ⟨ks, hst⟩, fun i' s' h1 h2 => ?_, fun a v hv => by obtain ⟨rfl, rfl⟩ := hv; exact cell_obj htb 3⟩ (by simp [World.frozen?, htb]) (fun g₂ kk hg hck => ?_)
  · obtain ⟨j, u, e1, e2, e3, _⟩ := H.chairs.oth i' s' (by rw [← hh]; exact h1) h2 (fun j q => by cases q)
    rw [e3]; exact H.apart.ws j i u t e2 hi
  · rw [a2]
    obtain ⟨x1, hx1⟩ : ∃ x1, x1 = x.setChan t.wk 0 #[] false (kk + 1) (kk + 1) false := ⟨_, rfl⟩
    rw [← hx1]
    have H1 : GateAt g P none false x1 := by rw [hx1]; exact H.gate.chan H.apart ⟨t, hmem, .inl rfl⟩
    have hs1 : x1.heap.size = x.heap.size := by rw [hx1]; exact size_chan _ _ _
    have hI1 : S.I P.st.sh P.st.cells g.col x1 := S.frame hI _ _ (by omega) (fun q _ hq => by rw [hx1]; exact heap_chan_ne fun e => hq (colThr hmem (by simp [e]))) fun _ _ h => h
    have hAt := H1.atStep (S := S) (h := none) (by simp) H.apart H.addr hi hp hI1 hrc H.names (by have := H.len; omega)
    refine (a4 g₂ hg).go _ _ _ g.rb g.mb g.N g.vT g.vL g.vW g.vR g.vF g.A P.st.names P.st.log _ rfl hAt (fun y vL' hacc => ?_)
    have hnc : ¬ g.col (g.A r.cell) := by rw [H.addr]; exact (S.cell hI1 _ hrc).2.2
    obtain ⟨HA, hapA⟩ := (H1.let he).access H.apart hi ⟨_, hAt.box⟩ hnc hacc
    have hcol : ∀ q, q < x1.heap.size → ({ g with vL := vL' } : Gs).col q → g.col q := fun q hq h => by
      rcases h with h | h | h | h | h | h | h | h | h
      · exact .inl h
      · exact .inr (.inl h)
      · exact .inr (.inr (.inl h))
      · exact .inr (.inr (.inr (.inl h)))
      · rcases hacc.lnew with e | ⟨b, e, e2⟩
        · exact .inr (.inr (.inr (.inr (.inl (h.trans e)))))
        · have h : some q = vL'.ownBlock := h
          rw [e] at h; have := Option.some.inj h; omega
      · exact .inr (.inr (.inr (.inr (.inr (.inl h)))))
      · exact .inr (.inr (.inr (.inr (.inr (.inr (.inl h))))))
      · exact .inr (.inr (.inr (.inr (.inr (.inr (.inr (.inl h)))))))
      · exact .inr (.inr (.inr (.inr (.inr (.inr (.inr (.inr h)))))))
    have hI2 : S.I P.st.sh (upd P.st.cells r.cell (P.st.ans r).now) ({ g with vL := vL' } : Gs).col y := by
      refine S.set hI1 _ _ _ _ hrc hacc.size (fun q hq h1 h2 => hacc.old q hq (fun e => h1 (by simp [Gs.col, e])) (fun e => h1 (colThr hmem (by simp [e]))) (fun e => h1 (by simp [Gs.col, e])) (by rw [H.addr]; exact h2) (fun e => h1 (by simp [Gs.col, e]))) ?_ hcol
      have := hacc.cell
      rw [H.addr] at this
      exact this
    have hT2 := HA.thr i t hi
    have e1 : (some i == some i) = true := by simp
    rw [e1] at hT2
    obtain ⟨vv2, ao2, htb2, _⟩ := hT2.tbo
    replace htb2 : y.heap[t.tb]? = some (.cells (thrObj g.rb i t.wk t.st vv2 ao2 false) 184 (2, 4)) := by simpa using htb2
    have hgo : P.goes i = { ({ P with st := P.st.access i r } : Play Sh) with progs := upd P.progs i ((k (P.st.ans r)).pass P.st.sh).2, st := { (P.st.access i r) with sh := ((k (P.st.ans r)).pass P.st.sh).1 } } := by
      simp only [Play.goes, hp, Play.settle]; rfl
    rw [hgo] at hnext
    refine a5.2 _ y ({ g with vL := vL' } : Gs).col P.st.sh (upd P.st.cells r.cell (P.st.ans r).now) (P.st.ans r) rfl ⟨cell_obj htb2 0, cell_obj htb2 13, fun e => by have := HA.obj; rw [show ({ g with vL := vL' } : Gs).rb = g.rb from rfl, e, htb2] at this; simp at this⟩ (colThr (g := { g with vL := vL' }) hmem (by simp)) (fun q hq => HA.colLt hq) hI2 ?_
    have hnm := H.names
    have hln := H.len
    refine reach_J (g := { g with vL := vL' }) (P := { P with st := P.st.access i r }) (F := F) (c := c) (cs := cs) (va := .tuple #[]) (sp := goesChair Post t.tb t.st c cs) ⟨HA, hapA, H.rb, H.mb, H.N, H.kept, H.x0, H.addr, fun q hq => ?_, ?_, rfl, H.n, hmain, H.lo, H.low, H.io, rfl, fun j hj _ => H.live j hj (by simp), ⟨fun i' s' h1 h2 h3 => ?_, fun j u r' k' h1 h2 h3 => ?_⟩⟩ hi ?_ rfl hcb hcs (fun g₃ h3 C2 z2 v _ h => h3 C2 z2 v h) hnext
    · simp only [Rst.access] at hq
      split at hq
      · exact hnm q hq
      · rcases List.mem_append.1 hq with h | h
        · exact hnm q h
        · rw [List.mem_singleton.1 h]; exact hrc
    · simp only [Rst.access, List.length_append, List.length_singleton]; omega
    · replace h2 : upd C.Ch C.h (some (goesChair Post t.tb t.st c cs)) i' = some s' := h2
      rw [upd_ne _ _ (by omega)] at h2
      exact H.chairs.oth i' s' h1 h2 (fun j q => by cases q)
    · obtain ⟨W', cb', cf', csf', q1, q2⟩ := H.chairs.less.chair j u r' k' h1 (by simp) h3
      refine ⟨W', cb', cf', csf', ?_, q2⟩
      show upd C.Ch C.h (some (goesChair Post t.tb t.st c cs)) (F.n0 + j) = _
      rw [upd_ne _ _ (by omega)]; exact q1
    · show upd C.Ch C.h (some (goesChair Post t.tb t.st c cs)) F.hm = _
      rw [hh]; exact upd_same _ _ _
/-- A THREAD'S BEGINNING. -/
theorem begun_J {fb : FuncId} {cap : Array Value} {body : Prog Sh Unit} {vf : Value} {c : Frame} {cs : List Frame} (H : Stood Post S F g P m none C x) (hI : S.I P.st.sh P.st.cells g.col x) (hP : P.n < 64) (hB : BodyOK Post S m fb cap body) (hvf : vf = .func (.func fb) #[] cap)
    (hnext : ∀ (g' : Gs) (C' : Ctx) (z : World) (tb : Nat), Stood Post S F g' (({ P with n := P.n + 1 } : Play Sh).settle P.n body) m none C' z → S.I (body.pass P.st.sh).1 P.st.cells g'.col z → JG Try.prog Post C' (G (c.finish (P0 tb)) cs) z) :
    JG Try.prog Post C (G (Frame.enter Try.prog 130 #[P0 g.rb, vf] .normal) (c :: cs)) x := by
  have hh : C.h = F.hm := H.holds
  have hmain := H.main
  have hn := H.n
  have hlenT : (g.thr.map fun t => P0 t.tb).length = g.thr.length := List.length_map _
  have hlenF : (List.replicate g.thr.length (Value.bool false)).length = g.thr.length := List.length_replicate
  have hnum := H.gate.num
  refine begin_R (N := g.N) (rb := g.rb) (fb := fb) (cap := cap) (vT := g.vT) (vF := g.vF) (ths := g.thr.map fun t => P0 t.tb) (fls := List.replicate g.thr.length (.bool false)) H.d (by omega) (by rw [H.lo, H.N]; exact H.low) hB.has hvf H.gate.obj (by rw [hlenT]; exact H.gate.ths) (by rw [hlenF]; exact H.gate.fls) H.gate.low
    (own_ne H.gate.ths fun cur => by rw [H.gate.obj]; simp) (own_ne H.gate.fls fun cur => by rw [H.gate.obj]; simp) (fun q e => own_ne H.gate.fls fun cur e2 => by obtain ⟨c2, e3⟩ := own_obj H.gate.ths e; rw [e3] at e2; simp at e2) (by omega) (by omega) (fun i s h1 h2 => ?_) ?_
    (fun z0 cb sp sb vT' vF' tv tb wk st hsc hback hcb hcs B => ?_)
  · obtain ⟨j, u, e1, e2, e3, _⟩ := H.chairs.oth i s (by omega) h2 (fun j q => by cases q)
    obtain ⟨_, _, ⟨k, e4⟩, _⟩ := H.gate.thr j u e2
    rw [e3]; exact (Array.getElem?_eq_some_iff.1 e4).1
  · cases e : C.Ch C.n with
    | none => rfl
    | some s =>
      obtain ⟨j, u, e1, e2, e3, _⟩ := H.chairs.oth _ s (by omega) e (fun j q => by cases q)
      have := (List.getElem?_eq_some_iff.1 e2).1
      omega
  · obtain ⟨HG, hap⟩ := H.gate.begun (p := (body.pass P.st.sh).2) H.apart (by simp) B
    have hi : (g.thr ++ [(⟨tv, tb, x.heap.size, wk, st, tb⟩ : Th)])[P.n]? = some ⟨tv, tb, x.heap.size, wk, st, tb⟩ := by rw [← hnum]; simp
    have hmem : (⟨tv, tb, x.heap.size, wk, st, tb⟩ : Th) ∈ g.thr ++ [(⟨tv, tb, x.heap.size, wk, st, tb⟩ : Th)] := by simp
    have hcol : ∀ q, q < x.heap.size → ({ g with vT := vT', vF := vF', thr := g.thr ++ [⟨tv, tb, x.heap.size, wk, st, tb⟩] } : Gs).col q → g.col q := fun q hq h => by
      have t1 := B.tvn.1; have t2 := B.tbn.1; have t3 := B.wkn.1; have t4 := B.stn.1
      rcases h with h | h | h | h | h | h | h | h | ⟨u, hu, h⟩
      · exact .inl h
      · exact .inr (.inl h)
      · exact .inr (.inr (.inl h))
      · rcases B.tnew with e | ⟨b, e, e2⟩
        · exact .inr (.inr (.inr (.inl (h.trans e))))
        · have h : some q = vT'.ownBlock := h
          rw [e] at h; have := Option.some.inj h; omega
      · exact .inr (.inr (.inr (.inr (.inl h))))
      · exact .inr (.inr (.inr (.inr (.inr (.inl h)))))
      · exact .inr (.inr (.inr (.inr (.inr (.inr (.inl h))))))
      · rcases B.fnew with e | ⟨b, e, e2⟩
        · exact .inr (.inr (.inr (.inr (.inr (.inr (.inr (.inl (h.trans e))))))))
        · have h : some q = vF'.ownBlock := h
          rw [e] at h; have := Option.some.inj h; omega
      · rcases List.mem_append.1 hu with hu | hu
        · exact colThr hu h
        · rw [List.mem_singleton.1 hu] at h
          simp only at h
          omega
    have hI1 : S.I P.st.sh P.st.cells ({ g with vT := vT', vF := vF', thr := g.thr ++ [⟨tv, tb, x.heap.size, wk, st, tb⟩] } : Gs).col z0 :=
      S.frame hI _ _ B.size (fun q hq h1 => B.old q hq (fun e => h1 (by simp [Gs.col, e])) (fun e => h1 (by simp [Gs.col, e])) (fun e => h1 (by simp [Gs.col, e]))) hcol
    have hT2 := HG.thr P.n _ hi
    have e1 : (some P.n == some P.n) = true := by simp
    rw [e1] at hT2
    obtain ⟨vv2, ao2, htb2, _⟩ := hT2.tbo
    replace htb2 : z0.heap[tb]? = some (.cells (thrObj g.rb P.n wk st vv2 ao2 false) 184 (2, 4)) := by simpa using htb2
    have hgo : ({ P with n := P.n + 1 } : Play Sh).settle P.n body = { ({ P with n := P.n + 1, progs := upd P.progs P.n (body.pass P.st.sh).2 } : Play Sh) with progs := upd (upd P.progs P.n (body.pass P.st.sh).2) P.n (body.pass P.st.sh).2, st := { P.st with sh := (body.pass P.st.sh).1 } } := by
      simp only [Play.settle, upd_upd]
    rw [hgo] at hnext
    refine hB.go _ z0 _ P.st.sh P.st.cells tb g.rb cb rfl ⟨cell_obj htb2 0, cell_obj htb2 13, fun e => by have := HG.obj; rw [show ({ g with vT := vT', vF := vF', thr := g.thr ++ [⟨tv, tb, x.heap.size, wk, st, tb⟩] } : Gs).rb = g.rb from rfl, e, htb2] at this; simp at this⟩ (colThr (g := { g with vT := vT', vF := vF', thr := g.thr ++ [⟨tv, tb, x.heap.size, wk, st, tb⟩] }) hmem (by simp)) (fun q hq => HG.colLt hq) hI1 ?_
    have hln := H.len
    refine reach_J (F := F) (t := ⟨tv, tb, x.heap.size, wk, st, tb⟩) (g := { g with vT := vT', vF := vF', thr := g.thr ++ [⟨tv, tb, x.heap.size, wk, st, tb⟩] }) (P := { P with n := P.n + 1, progs := upd P.progs P.n (body.pass P.st.sh).2 }) (c := c) (cs := cs) (va := P0 tb) (sp := sp)
      ⟨HG, hap, H.rb, H.mb, H.N, H.kept, H.x0, H.addr, H.names, hln, rfl, by show C.n + 1 = F.n0 + (P.n + 1); omega, hmain, H.lo, H.low, H.io, by show C.n = F.n0 + P.n; omega, fun j hj hj2 => ?_, ⟨fun i' s' h1 h2 h3 => ?_, fun j u r' k' h1 h2 h3 => ?_⟩⟩ hi ?_ hsc hcb hcs hback (fun g' C' z _ => hnext g' C' z tb)
    · have hjn : j ≠ P.n := fun e => hj2 (by rw [e])
      replace hj : j < P.n + 1 := hj
      rcases H.live j (by omega) (by simp) with ⟨r, k, q⟩ | ⟨v', q⟩
      · exact .inl ⟨r, k, (upd_ne _ _ hjn).trans q⟩
      · exact .inr ⟨v', (upd_ne _ _ hjn).trans q⟩
    · replace h2 : upd (upd C.Ch C.n (some sb)) C.h (some sp) i' = some s' := h2
      have h4 := h3 P.n rfl
      rw [upd_ne _ _ (by omega), upd_ne _ _ (by omega)] at h2
      obtain ⟨j, u, e1, e2, e3, e4⟩ := H.chairs.oth i' s' h1 h2 (fun j q => by cases q)
      have hj := (List.getElem?_eq_some_iff.1 e2).1
      refine ⟨j, u, e1, ?_, e3, ?_⟩
      · show (g.thr ++ [_])[j]? = _
        rw [List.getElem?_append_left hj]; exact e2
      · show (upd P.progs P.n (body.pass P.st.sh).2 j).ended = false
        rw [upd_ne _ _ (by omega)]; exact e4
    · replace h1 : (g.thr ++ [_])[j]? = some u := h1
      have hjn : j ≠ P.n := fun e => h2 (by rw [e])
      have hj : j < g.thr.length := by
        have := (List.getElem?_eq_some_iff.1 h1).1
        simp at this; omega
      rw [List.getElem?_append_left hj] at h1
      replace h3 : upd P.progs P.n (body.pass P.st.sh).2 j = .acc r' k' := h3
      rw [upd_ne _ _ hjn] at h3
      obtain ⟨W', cb', cf', csf', q1, q2⟩ := H.chairs.chair j u r' k' h1 (by simp) h3
      refine ⟨W', cb', cf', csf', ?_, q2⟩
      show upd (upd C.Ch C.n (some sb)) C.h (some sp) (F.n0 + j) = _
      rw [upd_ne _ _ (by omega), upd_ne _ _ (by omega)]; exact q1
    · show upd (upd C.Ch C.n (some sb)) C.h (some sp) F.hm = _
      rw [hh]; exact upd_same _ _ _
end
end Go.Proofs.Ytecmobjiepgfjaa
/- Which threads are ready, as the plain run says it. -/
namespace Go.Proofs.Ytecmobjiepgfjaa
open Go.Conc Go.RowKit
open Go.ConcN (upd upd_same upd_ne)
set_option linter.unusedSimpArgs false
set_option linter.unusedVariables false
set_option maxRecDepth 100000
theorem ableOf_map : ∀ (all : List Thr) (can : Nat → Bool) (f : Nat → Nat) (off : Nat), (∀ (j : Nat) (t : Thr), all[j]? = some t → t.may = can (off + j) ∧ t.tb = f (off + j)) → ableOf all = ((List.range' off all.length).filter can).map fun i => P0 (f i) := by
  intro all
  induction all with
  | nil => intros; rfl
  | cons t l ih =>
    intro can f off h
    obtain ⟨h1, h2⟩ := h 0 t rfl
    have hi := ih can f (off + 1) (fun j u e => by
      have := h (j + 1) u (by simpa using e)
      rw [show off + (j + 1) = off + 1 + j by omega] at this
      exact this)
    unfold ableOf at hi ⊢
    rw [List.length_cons, List.range'_succ, List.filter_cons, List.filter_cons]
    rw [Nat.add_zero] at h1 h2
    rw [← h1]
    cases hm : t.may <;> simp [hi, h2]
theorem all_map : ∀ (all : List Thr) (e : Nat → Bool) (off : Nat), (∀ (j : Nat) (t : Thr), all[j]? = some t → t.e = e (off + j)) → (all.all fun t => t.e) = (List.range' off all.length).all e := by
  intro all
  induction all with
  | nil => intros; rfl
  | cons t l ih =>
    intro e off h
    have h1 := h 0 t rfl
    have hi := ih e (off + 1) (fun j u q => by
      have := h (j + 1) u (by simpa using q)
      rw [show off + (j + 1) = off + 1 + j by omega] at this
      exact this)
    rw [List.length_cons, List.range'_succ, List.all_cons, List.all_cons, hi, h1, Nat.add_zero]
section
variable {Sh : Type} {Post : Value → World → Prop} {S : Side Sh} {F : Fix} {g : Gs} {P : Play Sh} {m : Nat} {C : Ctx} {x : World}
/-- A thread's block. -/
def Gs.tbOf (g : Gs) (i : Nat) : Nat := (g.thr[i]?.map fun t => t.tb).getD 0
/-- Where main stands, able's list is the plain run's. -/
theorem Stood.threads (H : Stood Post S F g P m none C x) (hI : S.I P.st.sh P.st.cells g.col x) :
    ∃ all : List Thr, all.length = P.n ∧ (∀ (j : Nat) (t : Thr), all[j]? = some t → t.At x j) ∧ (all.map fun t => P0 t.tb) = (g.thr.map fun t => P0 t.tb) ∧ ableOf all = P.able.map (fun i => P0 (g.tbOf i)) ∧ (all.all fun t => t.e) = P.over := by
  have hcell : ∀ (j : Nat) (r : Ask) (k : Told → Prog Sh Unit), j < P.n → P.progs j = .acc r k → x.cell? (th (g.A r.cell) 0) = some (.int .i64 (P.st.cells r.cell)) := fun j r k hj hp => by
    obtain ⟨t, ht⟩ : ∃ t, g.thr[j]? = some t := ⟨_, List.getElem?_eq_getElem (by rw [H.gate.num]; exact hj)⟩
    obtain ⟨_, _, _, _, _, _, _, _, _, _, hrc, _⟩ := H.chairs.chair j t r k ht (by simp) hp
    rw [H.addr]; exact (S.cell hI _ hrc).2.1
  obtain ⟨all, h1, h2, h3, h4⟩ := H.gate.threads hcell (fun j hj => by
    rcases H.live j hj (by simp) with ⟨r, k, q⟩ | ⟨v, q⟩
    · exact .inr ⟨r, k, q⟩
    · exact .inl (by rw [q]; rfl))
  have htb : ∀ (j : Nat) (t : Thr), all[j]? = some t → t.tb = g.tbOf j := fun j t e => by
    have : (all.map fun t => P0 t.tb)[j]? = some (P0 t.tb) := by rw [List.getElem?_map, e]; rfl
    rw [h3, List.getElem?_map] at this
    unfold Gs.tbOf
    cases hu : g.thr[j]? with
    | none => rw [hu] at this; cases this
    | some u =>
      rw [hu] at this
      simp at this
      simp [this]
  refine ⟨all, h1, h2, h3, ?_, ?_⟩
  · rw [ableOf_map all P.can g.tbOf 0 (fun j t e => by rw [Nat.zero_add]; exact ⟨(h4 j t e).1, htb j t e⟩), h1, Play.able, List.range_eq_range']
  · rw [all_map all (fun i => (P.progs i).ended) 0 (fun j t e => by rw [Nat.zero_add]; exact (h4 j t e).2), h1, Play.over, List.range_eq_range']
theorem Stood.less (H : Stood Post S F g P (m + 1) none C x) : Stood Post S F g P m none C x :=
  ⟨H.gate, H.apart, H.rb, H.mb, H.N, H.kept, H.x0, H.addr, H.names, by have := H.len; omega, H.d, H.n, H.main, H.lo, H.low, H.io, H.holds, H.live, H.chairs.less⟩
theorem Stood.zero : ∀ {m : Nat}, Stood Post S F g P m none C x → Stood Post S F g P 0 none C x
  | 0, H => H
  | _ + 1, H => H.less.zero
/-- One who may go. -/
theorem Stood.mayAcc (H : Stood Post S F g P m none C x) {i : Nat} (hi : i ∈ P.able) : i < P.n ∧ ∃ r k, P.progs i = .acc r k := by
  obtain ⟨h1, h2⟩ := List.mem_filter.1 hi
  have hn := List.mem_range.1 h1
  refine ⟨hn, ?_⟩
  rcases H.live i hn (by simp) with h | ⟨v, q⟩
  · exact h
  · simp [Play.can, q, Prog.req] at h2
/-- A world in which only what is none of the run's has changed, and what is new. -/
theorem Stood.frame {y : World} {h : Option Nat} (H : Stood Post S F g P m h C x) (hy : ∀ r, g.col r → y.heap[r]? = x.heap[r]?) (hs : x.heap.size ≤ y.heap.size) : Stood Post S F g P m h C y :=
  ⟨H.gate.frame hy hs, H.apart, H.rb, H.mb, H.N, H.kept, H.x0, H.addr, H.names, H.len, H.d, H.n, H.main, H.lo, H.low, H.io, H.holds, H.live, H.chairs⟩
end
end Go.Proofs.Ytecmobjiepgfjaa

/- GATE.RUN, WHOLE: any bodies, any picks: what comes back is the plain run. -/
import Derived.Test.YtecmobjiepgfjaaNRoB
import Derived.Carry
namespace Go.Proofs.Ytecmobjiepgfjaa
open Go.Conc Go.RowKit
open Go.ConcN (upd upd_same upd_ne)
set_option linter.unusedSimpArgs false
set_option linter.unusedVariables false
set_option maxRecDepth 100000
namespace Play
variable {Sh : Type}
/-- Where a run begins. -/
def init (sh : Sh) (cells : Nat → Int) : Play Sh := ⟨0, fun _ => .ret (), ⟨sh, cells, [], [], [], []⟩⟩
theorem turn_st (P : Play Sh) (q : Nat) : (P.turn q).n = P.n ∧ (P.turn q).st.went = P.st.went ++ [q] ∧ (P.turn q).st.ready = P.st.ready ++ [P.able.length] := by
  obtain ⟨n1, n2, n3⟩ := goes_n (P := { P with st := { P.st with went := P.st.went ++ [q], ready := P.st.ready ++ [P.able.length] } }) q
  exact ⟨n1, n2, n3⟩
theorem runs_st (sched : List Nat → List Nat → Nat) : ∀ (m : Nat) (P : Play Sh), (P.runs sched m).2.n = P.n ∧ (P.runs sched m).2.st.went.length ≤ P.st.went.length + m
  | m, P => by
    by_cases h1 : P.over = true
    · rw [runs_over h1]; exact ⟨rfl, by simp⟩
    · replace h1 : P.over = false := by simpa using h1
      by_cases h2 : P.able = []
      · rw [runs_dead h1 h2]; exact ⟨rfl, by simp⟩
      · match m with
        | 0 => rw [runs_cut h1 h2]; exact ⟨rfl, by simp⟩
        | m + 1 =>
          rw [runs_turn h1 h2]
          obtain ⟨e1, e2⟩ := runs_st sched m (P.turn (sched P.st.went P.able))
          obtain ⟨n1, n2, _⟩ := P.turn_st (sched P.st.went P.able)
          rw [n2, List.length_append, List.length_singleton] at e2
          exact ⟨e1.trans n1, by omega⟩
end Play
abbrev nil0 : Value := .slice none 0 0
theorem runObj_get (a b c d e f : Value) (s : Bool) : (runObj a b c d e f s)[3]? = some d := rfl
set_option maxHeartbeats 8000000 in
theorem run_R {Sh : Type} {Post : Value → World → Prop} {C : Ctx} {x : World} {c : Frame} {cs : List Frame} {S : Side Sh} {Kp : Nat → Prop} {picks : List Int} {most : Int} {m : Nat} {bodies : List (Body Sh)} {ab po : Option Addr} {bc pc : Nat} {sh : Sh} {cells : Nat → Int}
    (hm : (if 65536 < if most < 0 then 0 else most then 65536 else if most < 0 then 0 else most) = (m : Int)) (hd : C.d = 0) (hh : C.h < C.n) (hlo : C.lo ≤ x.heap.size) (hnone : ∀ i, i ≠ C.h → C.Ch i = none)
    (hpo : picks ≠ [] → ∃ gp, po = some ⟨gp, 0, none⟩ ∧ Kp gp ∧ ∀ (j : Nat) (q : Int), picks[j]? = some q → x.cell? (th gp j) = some (.int .i64 q))
    (hbs : ∀ (j : Nat) (b : Body Sh), bodies[j]? = some b → ∃ bb, ab = some ⟨bb, 0, none⟩ ∧ Kp bb ∧ x.cell? (th bb j) = some (.func (.func b.fb) #[] b.cap)) (hlen : bodies.length ≤ 64) (hKp : ∀ r, Kp r → r < x.heap.size)
    (hok : ∀ b ∈ bodies, BodyOK Post S m b.fb b.cap b.prog) (hI : S.I sh cells Kp x)
    (h : ∀ (Q : Play Sh) (e : Int) (C' : Ctx) (z : World) (M : Nat) (vL vW vR vl : Value), ((Play.init sh cells).start (bodies.map fun b => b.prog)).runs (picked picks) m = (e, Q) → C'.d = 0 → C'.h = C.h → C'.n = C.n + bodies.length → C'.lo = C.lo → C'.io = C.io → (∀ i, i ≠ C.h → C'.Ch i = none) →
      (∀ r, Kp r → z.heap[r]? = x.heap[r]?) → x.heap.size ≤ z.heap.size → x.heap.size ≤ M → z.ownsRow M 172 8 vL Q.st.log.length (Q.st.log.flatMap accV) → z.ownsRow M 3 1 vW Q.st.went.length (Q.st.went.map fun i => .int .i64 (i : Nat)) → z.ownsRow M 3 1 vR Q.st.ready.length (Q.st.ready.map fun i => .int .i64 (i : Nat)) → z.ownsRow M 172 8 vl Q.left.length (Q.left.flatMap accV) →
      S.I Q.st.sh Q.st.cells Kp z → Q.n = bodies.length → (∀ j, j < Q.n → (∃ r k, Q.progs j = .acc r k) ∨ (∃ v, Q.progs j = .ret v)) → (∀ q ∈ Q.st.names, q < S.nc) → JG Try.prog Post C' (G (c.finish (.agg #[.int .i8 e, .int .i64 Q.st.went.length, vL, vW, vR, vl, .slice none 0 0])) cs) z) :
    JG Try.prog Post C (G (Frame.enter Try.prog 18 #[.slice po picks.length pc, .int .i64 most, .slice ab bodies.length bc] .normal) (c :: cs)) x := by
  have d64 : decide (64 < bodies.length) = false := by simp; omega
  have d64i : decide ((64 : Int) < bodies.length) = false := by simp; omega
  replace hpo := Lib.hid hpo
  replace hbs := Lib.hid hbs
  replace hKp := Lib.hid hKp
  replace hok := Lib.hid hok
  replace hI := Lib.hid hI
  replace h := Lib.hid h
  replace hnone := Lib.hid hnone
  replace hd := Lib.hid hd
  replace hm := Lib.hid hm
  refine enterN Try.func18 (by rfl) (by rfl) ?_
  simp only [Try.f18, Option.getD_some]
  walk_nrm
  refine JG.seq ?_
  refine JG.code (closedG _) (by kernel_rfl) rfl (.inr (by kernel_rfl)) rfl (fun K R hK hR τ => ?_)
  replace hK := Lib.hid hK
  clear hR
  go_wp2
  refine hK.out _ _ (JG.tap (x := (x.alloc (.cells #[.slice po picks.length pc] 24)).alloc (.cells #[.int .i8 0, .int .i64 0, .slice none 0 0, .slice none 0 0, .slice none 0 0, .slice none 0 0, .slice none 0 0] 43)) ?_)
  simp only [under_size]
  clear hK K R τ
  obtain ⟨w, hw⟩ : ∃ w, w = (x.alloc (.cells #[.slice po picks.length pc] 24)).alloc (.cells #[.int .i8 0, .int .i64 0, .slice none 0 0, .slice none 0 0, .slice none 0 0, .slice none 0 0, .slice none 0 0] 43) := ⟨_, rfl⟩
  rw [← hw]
  have ws : w.heap.size = x.heap.size + 2 := by rw [hw]; simp
  have wn : w.heap[x.heap.size + 1]? = some (.cells #[.int .i8 0, .int .i64 0, .slice none 0 0, .slice none 0 0, .slice none 0 0, .slice none 0 0, .slice none 0 0] 43 (0, 0)) := by
    rw [hw, heap_alloc', heap_alloc', Array.getElem?_push, Array.size_push, if_pos rfl]
  have wpk : w.heap[x.heap.size]? = some (.cells #[.slice po picks.length pc] 24 (0, 0)) := by
    rw [hw, heap_alloc', heap_alloc', Array.getElem?_push, Array.size_push, if_neg (by omega), Array.getElem?_push, if_pos rfl]
  have wo : ∀ r, r < x.heap.size → w.heap[r]? = x.heap[r]? := fun r h => by
    rw [hw, heap_alloc', heap_alloc', Array.getElem?_push, Array.size_push, if_neg (by omega), Array.getElem?_push, if_neg (by omega)]
  clear hw
  generalize hrp : x.heap.size + 1 = rp at wn ⊢
  refine JG.seq ?_
  refine JG.seq ?_
  refine JG.code (closedG _) (by kernel_rfl) rfl (.inr (by kernel_rfl)) rfl (fun K R hK hR τ => ?_)
  replace hK := Lib.hid hK
  clear hR
  go_wp2
  refine hK.out _ _ (JG.tap (x := w) (τ := τ) (d := 0) ?_)
  clear hK K R τ
  refine JG.condF rfl ?_
  refine JG.skip ?_
  refine JG.seq ?_
  refine JG.code (closedG _) (by kernel_rfl) rfl (.inr (by kernel_rfl)) rfl (fun K R hK hR τ => ?_)
  replace hK := Lib.hid hK
  clear hR
  have hmm := fun w => run_makeMap (P := Try.prog) 176 w
  go_wp2
  refine hK.out _ _ (JG.tap (x := ((w.alloc (.map #[] 0)).alloc (.cells (runObj nil0 (.map (some w.heap.size)) nil0 nil0 nil0 nil0 false) 179)).alloc (.cells #[P0 (w.heap.size + 1)] 175)) ?_)
  simp only [under_size]
  clear hK K R τ hmm
  obtain ⟨y, hy⟩ : ∃ y, y = ((w.alloc (.map #[] 0)).alloc (.cells (runObj nil0 (.map (some w.heap.size)) nil0 nil0 nil0 nil0 false) 179)).alloc (.cells #[P0 (w.heap.size + 1)] 175) := ⟨_, rfl⟩
  rw [← hy]
  have ys : y.heap.size = w.heap.size + 3 := by rw [hy]; simp
  have ymp : y.heap[w.heap.size]? = some (.map #[] 0) := by
    rw [hy, heap_alloc', heap_alloc', heap_alloc', Array.getElem?_push, Array.size_push, Array.size_push, if_neg (by omega), Array.getElem?_push, Array.size_push, if_neg (by omega), Array.getElem?_push, if_pos rfl]
  have yr : y.heap[w.heap.size + 1]? = some (.cells (runObj nil0 (.map (some w.heap.size)) nil0 nil0 nil0 nil0 false) 179 (0, 0)) := by
    rw [hy, heap_alloc', heap_alloc', heap_alloc', Array.getElem?_push, Array.size_push, Array.size_push, if_neg (by omega), Array.getElem?_push, Array.size_push, if_pos rfl]
  have yp' : y.heap[w.heap.size + 1 + 1]? = some (.cells #[P0 (w.heap.size + 1)] 175 (0, 0)) := by
    rw [hy, heap_alloc', heap_alloc', heap_alloc', Array.getElem?_push, Array.size_push, Array.size_push, if_pos rfl]
  have yo : ∀ r, r < w.heap.size → y.heap[r]? = w.heap[r]? := fun r h => by
    rw [hy, heap_alloc', heap_alloc', heap_alloc', Array.getElem?_push, Array.size_push, Array.size_push, if_neg (by omega), Array.getElem?_push, Array.size_push, if_neg (by omega), Array.getElem?_push, if_neg (by omega)]
  have yp : y.cell? (th (w.heap.size + 1 + 1) 0) = some (P0 (w.heap.size + 1)) := by rw [cell_obj yp']; rfl
  clear hy
  generalize hmb : w.heap.size = mb at ymp yr yp yp' yo ys ⊢
  generalize hpv : mb + 1 + 1 = pv at yp yp' ⊢
  generalize hrb : mb + 1 = rb at yr yp yp' ⊢
  have yx : ∀ r, r < x.heap.size → y.heap[r]? = x.heap[r]? := fun r h => (yo r (by omega)).trans (wo r h)
  repeat first | refine JG.seq ?_ | refine JG.skip ?_ | refine JG.inBlock ?_ | refine JG.block ?_ | refine JG.done ?_ | refine JG.label ?_ | refine JG.condT rfl ?_ | refine JG.condF rfl ?_ | (refine JG.region ?_; simp only [List.size_toArray, List.length_cons, List.length_nil, Nat.reduceAdd, Nat.zero_add, List.range, List.range.loop]) | (refine JG.unwanted rfl (by rfl) ?_; try walk_nrm) | (refine jgo rfl rfl (by rfl) (by decide) (fun K E hK hE τ d => ?_); go_simp; refine hK _ _ (JG.tap ?_); clear hK hE K E τ d; try walk_nrm) | (refine jgo rfl rfl (by rfl) (by decide) (fun K E hK hE τ d => ?_); have hfact := (under_cell _ τ d _).trans (yp); go_simp; refine hK _ _ (JG.tap ?_); clear hfact hK hE K E τ d; try walk_nrm)
  refine JG.call (f := 82) (args := #[P0 rb, .int .i64 (if 65536 < if most < 0 then 0 else most then 65536 else if most < 0 then 0 else most), .slice ab bodies.length bc, .func (.func 83) #[] #[P0 x.heap.size, P0 pv]]) rfl (by rfl) (by decide) (fun w => ?_) (fun w => ?_) ?_
  iterate 2 (focus obtain ⟨fn, h1, h2, h3⟩ : HasBody 82 := ⟨_, Try.func82, by kernel_rfl, by kernel_rfl⟩; have h4 : ¬ fn.name = "runtime.NumGoroutine" := (by simpa using h2); have h5 : ¬ fn.body = none := (by intro e; rw [e] at h3; cases h3); simp [go_sem, execOp, Act.eval, resolve, Deferred.ofValue, invoke, callFunc, h1, h4, h5])
  rw [hm.out]
  obtain ⟨F, hF⟩ : ∃ F : Fix, F = { rb := rb, mb := mb, N := x.heap.size, kept := fun r => Kp r ∨ r = x.heap.size ∨ r = rp ∨ r = pv, x0 := y, n0 := C.n, hm := C.h, lo := C.lo, io := C.io } := ⟨_, rfl⟩
  have Frb : F.rb = rb := by rw [hF]
  have FN : F.N = x.heap.size := by rw [hF]
  have Fk : ∀ r, F.kept r ↔ (Kp r ∨ r = x.heap.size ∨ r = rp ∨ r = pv) := fun r => by rw [hF]
  have Fx : F.x0 = y := by rw [hF]
  have Fn : F.n0 = C.n := by rw [hF]
  have Fh : F.hm = C.h := by rw [hF]
  have Flo : F.lo = C.lo := by rw [hF]
  have Fio : F.io = C.io := by rw [hF]
  obtain ⟨g0, hg0⟩ : ∃ g0 : Gs, g0 = { rb := rb, mb := mb, N := x.heap.size, vT := .slice none 0 0, vL := .slice none 0 0, vW := .slice none 0 0, vR := .slice none 0 0, vF := .slice none 0 0, thr := [], kept := F.kept, x0 := y, A := S.A } := ⟨_, rfl⟩
  have hkept : ∀ r, F.kept r → r < y.heap.size ∧ r ≠ rb ∧ r ≠ mb := fun r hr => by
    rcases (Fk r).1 hr with h | h | h | h
    · have := hKp.out r h; omega
    · omega
    · omega
    · omega
  have hG : GateAt g0 (Play.init sh cells) none false y := by
    rw [hg0]
    exact ⟨yr, own_nil0, own_nil0, own_nil0, own_nil0, own_nil0, ⟨#[], 0, ymp, rfl⟩, rfl, fun i t e => by simp at e, fun r hr => ⟨(hkept r hr).1, rfl⟩, by show x.heap.size ≤ _; omega, fun t ht => by simp at ht⟩
  have hap : g0.Apart := by
    rw [hg0]
    refine ⟨fun b e => by simp [Value.ownBlock] at e, fun t ht => by simp at ht, fun t ht => by simp at ht, fun i j t u e => by simp at e, fun i j t u e => by simp at e, fun i j t u e => by simp at e, fun i j t u e => by simp at e, fun r hr => ?_⟩
    obtain ⟨_, k1, k2⟩ := hkept r hr
    exact ⟨k1, k2, by simp [Value.ownBlock], by simp [Value.ownBlock], by simp [Value.ownBlock], by simp [Value.ownBlock], by simp [Value.ownBlock], fun t ht => by simp at ht⟩
  have hSt : Stood Post S F g0 (Play.init sh cells) m none C y := by
    have hm65 : m ≤ 65536 := by
      have := hm.out
      have h2 : (m : Int) ≤ 65536 := by rw [← this]; split <;> omega
      omega
    refine ⟨hG, hap, by rw [hg0, hF], by rw [hg0, hF], by rw [hg0, hF], by rw [hg0], by rw [hg0, hF], by rw [hg0], fun c hc => by simp [Play.init] at hc, by simpa [Play.init] using hm65, hd.out, by rw [Fn]; rfl, by rw [Fh, Fn]; exact hh, Flo.symm, by rw [Flo, FN]; exact hlo, Fio.symm, Fh.symm, fun j hj => by simp [Play.init] at hj, ⟨fun i s h1 h2 => ?_, fun j t r k e => by rw [hg0] at e; simp at e⟩⟩
    rw [hnone.out i (by rw [← Fh]; exact h1)] at h2; cases h2
  have hI0 : S.I sh cells g0.col y := S.frame hI.out _ _ (by omega) (fun r hr _ => yx r hr) (fun r hr hc => by
    rw [hg0] at hc
    simp only [Gs.col, Value.ownBlock] at hc
    rcases hc with h | h | h | h | h | h | h | h | ⟨t, ht, _⟩
    · rcases (Fk r).1 h with h | h | h | h
      · exact h
      · omega
      · omega
      · omega
    · omega
    · omega
    · cases h
    · cases h
    · cases h
    · cases h
    · cases h
    · simp at ht)
  have hS : SchedOK Post S F 83 #[P0 x.heap.size, P0 pv] (picked picks) := by
    refine run_sched ((Fk _).2 (.inr (.inl rfl))) ((Fk _).2 (.inr (.inr (.inr rfl)))) (po := po) (pc := pc) ?_ ?_ ?_
    · rw [Fx]; exact (cell_obj ((yo _ (by omega)).trans wpk) 0).trans rfl
    · rw [Fx, Frb]; exact yp
    · intro hne
      obtain ⟨gp, q1, q2, q3⟩ := hpo.out hne
      refine ⟨gp, q1, (Fk _).2 (.inl q2), fun j q hq => ?_⟩
      have := q3 j q hq
      rw [Fx]
      simp only [World.cell?] at this ⊢
      rw [yx gp (hKp.out gp q2)]; exact this
  have hbs' : ∀ (j : Nat) (b : Body Sh), bodies[j]? = some b → ∃ bb, ab = some ⟨bb, 0, none⟩ ∧ F.kept bb ∧ F.x0.cell? (th bb j) = some (.func (.func b.fb) #[] b.cap) := fun j b e => by
    obtain ⟨bb, q1, q2, q3⟩ := hbs.out j b e
    refine ⟨bb, q1, (Fk _).2 (.inl q2), ?_⟩
    rw [Fx]
    simp only [World.cell?] at q3 ⊢
    rw [yx bb (hKp.out bb q2)]; exact q3
  have hm65 : m ≤ 65536 := by
    have := hm.out
    have h2 : (m : Int) ≤ 65536 := by rw [← this]; split <;> omega
    omega
  rw [← Frb]
  refine until_J hS hm65 hbs' hok.out hlen hSt hI0 rfl rfl rfl (fun g' C' z H2 hI2 => ?_)
  rw [Frame.finish_at]
  walk_nrm
  obtain ⟨Q, hQ⟩ : ∃ Q, Q = (((Play.init sh cells).start (bodies.map fun b => b.prog)).runs (picked picks) m).2 := ⟨_, rfl⟩
  obtain ⟨e, he⟩ : ∃ e, e = (((Play.init sh cells).start (bodies.map fun b => b.prog)).runs (picked picks) m).1 := ⟨_, rfl⟩
  have hQe : ((Play.init sh cells).start (bodies.map fun b => b.prog)).runs (picked picks) m = (e, Q) := by rw [he, hQ]
  obtain ⟨st1, st2, st3⟩ := Play.start_st (bodies.map fun b => b.prog) (Play.init sh cells)
  obtain ⟨rs1, rs2⟩ := Play.runs_st (picked picks) m ((Play.init sh cells).start (bodies.map fun b => b.prog))
  rw [← hQ] at H2 hI2 rs1 rs2
  rw [← he]
  rw [st1, List.length_map] at rs1
  rw [st2] at rs2
  have hQn : Q.n = bodies.length := by rw [rs1]; simp [Play.init]
  have hQw : Q.st.went.length ≤ 65536 := by have : (Play.init sh cells).st.went.length = 0 := rfl; omega
  replace h := Lib.hid (h.out Q e)
  clear hS hbs' hI0 hSt hG hap hQ he st1 st2 st3 rs1 rs2
  have zp : z.cell? (th pv 0) = some (P0 F.rb) := by rw [H2.keptCell ((Fk _).2 (.inr (.inr (.inr rfl)))), Fx, yp, Frb]
  have HH := Lib.hid H2
  have HI := Lib.hid hI2
  clear H2 hI2
  repeat first | refine JG.seq ?_ | refine JG.skip ?_ | refine JG.inBlock ?_ | refine JG.block ?_ | refine JG.done ?_ | refine JG.label ?_ | refine JG.condT rfl ?_ | refine JG.condF rfl ?_ | (refine JG.region ?_; simp only [List.size_toArray, List.length_cons, List.length_nil, Nat.reduceAdd, Nat.zero_add, List.range, List.range.loop]) | (refine JG.unwanted rfl (by rfl) ?_; try walk_nrm) | (refine jgo rfl rfl (by rfl) (by decide) (fun K E hK hE τ d => ?_); go_simp; refine hK _ _ (JG.tap ?_); clear hK hE K E τ d; try walk_nrm) | (refine jgo rfl rfl (by rfl) (by decide) (fun K E hK hE τ d => ?_); have hfact := (under_cell _ τ d _).trans (zp); go_simp; refine hK _ _ (JG.tap ?_); clear hfact hK hE K E τ d; try walk_nrm)
  refine JG.call (f := 84) (args := #[P0 F.rb, .int .i8 e]) rfl (by rfl) (by decide) (fun w => ?_) (fun w => ?_) ?_
  iterate 2 (focus obtain ⟨fn, h1, h2, h3⟩ : HasBody 84 := ⟨_, Try.func84, by kernel_rfl, by kernel_rfl⟩; have h4 : ¬ fn.name = "runtime.NumGoroutine" := (by simpa using h2); have h5 : ¬ fn.body = none := (by intro e; rw [e] at h3; cases h3); simp [go_sem, execOp, Act.eval, resolve, Deferred.ofValue, invoke, callFunc, h1, h4, h5])
  refine report_R HH.out HI.out (by omega) hQw (fun P' C2 u vl M HE n' s' en' hzM hown hsz hold => ?_)
  rw [Frame.finish_at]
  walk_nrm
  have hrpk : g'.kept rp := by rw [HH.out.kept]; exact (Fk _).2 (.inr (.inr (.inl rfl)))
  have un : u.heap[rp]? = some (.cells #[.int .i8 0, .int .i64 0, .slice none 0 0, .slice none 0 0, .slice none 0 0, .slice none 0 0, .slice none 0 0] 43 (0, 0)) := by
    rw [(HE.gate.kept rp hrpk).2, HE.x0, Fx, yo rp (by omega)]; exact wn
  have hlg := HE.gate.lg
  have hwn := HE.gate.wn
  have hrd := HE.gate.rd
  rw [s', HE.N, FN] at hlg hwn hrd
  have hxz : x.heap.size ≤ z.heap.size := by have := HH.out.gate.low; rw [HH.out.N, FN] at this; exact this
  have hkz : ∀ r, Kp r → u.heap[r]? = x.heap[r]? := fun r hr => by
    rw [(HE.gate.kept r (by rw [HE.kept]; exact (Fk _).2 (.inl hr))).2, HE.x0, Fx]; exact yx r (hKp.out r hr)
  obtain ⟨aL, cL, evL⟩ := own_slice hlg
  obtain ⟨aW, cW, evW⟩ := own_slice hwn
  obtain ⟨aR, cR, evR⟩ := own_slice hrd
  obtain ⟨al, cl, evl⟩ := own_slice hown
  have hrpz : rp < z.heap.size := by rw [← hrp]; exact HH.out.gate.colLt (.inl (hrp ▸ hrpk))
  have hch : ∀ i, i ≠ C.h → C2.Ch i = none := fun i hi => by
    cases hc : C2.Ch i with
    | none => rfl
    | some s =>
      obtain ⟨j, t, q1, q2, q3, q4⟩ := HE.chairs.oth i s (by rw [Fh]; exact hi) hc (fun j q => by cases q)
      rw [en' j (by have := (List.getElem?_eq_some_iff.1 q2).1; rw [HE.gate.num, n'] at this; exact this)] at q4
      cases q4
  have c2d := HE.d
  have c2h : C2.h = C.h := HE.holds.trans Fh
  have c2n : C2.n = C.n + bodies.length := by rw [HE.n, Fn, n', hQn]
  have c2lo : C2.lo = C.lo := HE.lo.trans Flo
  have c2io : C2.io = C.io := HE.io.trans Fio
  have hIu : ∀ v : World, v.heap.size = u.heap.size → (∀ r, r ≠ rp → v.heap[r]? = u.heap[r]?) → S.I Q.st.sh Q.st.cells Kp v := fun v hs ho => S.frame HI.out _ _ (by omega) (fun r hr hc => by
    rw [ho r (fun e => hc (.inl (e ▸ hrpk))), hold r hr hc]) fun r hr hk => .inl (by rw [HH.out.kept]; exact (Fk _).2 (.inl hk))
  rw [evL] at hlg ⊢
  rw [evW] at hwn ⊢
  rw [evR] at hrd ⊢
  rw [evl] at hown ⊢
  have m0 : u.cell? (th rp 0) = some (.int .i8 0) := cell_obj un 0
  have n0 : u.frozen? (th rp 0) = false := frozen_obj un 0
  have m1 : u.cell? (th rp 1) = some (.int .i64 0) := cell_obj un 1
  have n1 : u.frozen? (th rp 1) = false := frozen_obj un 1
  have m2 : u.cell? (th rp 2) = some (.slice none 0 0) := cell_obj un 2
  have n2 : u.frozen? (th rp 2) = false := frozen_obj un 2
  have m3 : u.cell? (th rp 3) = some (.slice none 0 0) := cell_obj un 3
  have n3 : u.frozen? (th rp 3) = false := frozen_obj un 3
  have m4 : u.cell? (th rp 4) = some (.slice none 0 0) := cell_obj un 4
  have n4 : u.frozen? (th rp 4) = false := frozen_obj un 4
  have m5 : u.cell? (th rp 5) = some (.slice none 0 0) := cell_obj un 5
  have n5 : u.frozen? (th rp 5) = false := frozen_obj un 5
  have m6 : u.cell? (th rp 6) = some (.slice none 0 0) := cell_obj un 6
  have n6 : u.frozen? (th rp 6) = false := frozen_obj un 6
  replace hlg := Lib.hid hlg
  replace hwn := Lib.hid hwn
  replace hrd := Lib.hid hrd
  replace hown := Lib.hid hown
  replace hIu := Lib.hid hIu
  replace hkz := Lib.hid hkz
  replace hch := Lib.hid hch
  replace hold := Lib.hid hold
  replace HE := Lib.hid HE
  clear evL evW evR evl
  refine jgo rfl rfl (by rfl) (by decide) (fun K E hK hE τ d => ?_)
  have m0' := (under_cell u τ d _).trans m0
  have n0' := (under_frozen u τ d _).trans n0
  have m1' := (under_cell u τ d _).trans m1
  have n1' := (under_frozen u τ d _).trans n1
  have m2' := (under_cell u τ d _).trans m2
  have n2' := (under_frozen u τ d _).trans n2
  have m3' := (under_cell u τ d _).trans m3
  have n3' := (under_frozen u τ d _).trans n3
  have m4' := (under_cell u τ d _).trans m4
  have n4' := (under_frozen u τ d _).trans n4
  have m5' := (under_cell u τ d _).trans m5
  have n5' := (under_frozen u τ d _).trans n5
  have m6' := (under_cell u τ d _).trans m6
  have n6' := (under_frozen u τ d _).trans n6
  go_simp
  refine hK _ _ ?_
  rw [under_setCell, under_setCell, under_setCell, under_setCell, under_setCell, under_setCell, under_setCell]
  refine JG.tap ?_
  clear m0 n0 m0' n0' m1 n1 m1' n1' m2 n2 m2' n2' m3 n3 m3' n3' m4 n4 m4' n4' m5 n5 m5' n5' m6 n6 m6' n6' hK hE K E τ d
  obtain ⟨v, hv⟩ : ∃ v, v = (((((((u.setCell (th rp 0) (.int .i8 e)).setCell (th rp 1) (.int .i64 Q.st.went.length)).setCell (th rp 2) (.slice aL Q.st.log.length cL)).setCell (th rp 3) (.slice aW Q.st.went.length cW)).setCell (th rp 4) (.slice aR Q.st.ready.length cR)).setCell (th rp 5) (.slice al Q.left.length cl)).setCell (th rp 6) (.slice none 0 0)) := ⟨_, rfl⟩
  rw [← hv]
  try walk_nrm
  have hsv : v.heap.size = u.heap.size := by rw [hv, size_set, size_set, size_set, size_set, size_set, size_set, size_set]
  have hvo : ∀ r, r ≠ rp → v.heap[r]? = u.heap[r]? := fun r h => by
    rw [hv, heap_set_ne h, heap_set_ne h, heap_set_ne h, heap_set_ne h, heap_set_ne h, heap_set_ne h, heap_set_ne h]
  have hvn : v.heap[rp]? = some (.cells #[.int .i8 e, .int .i64 Q.st.went.length, .slice aL Q.st.log.length cL, .slice aW Q.st.went.length cW, .slice aR Q.st.ready.length cR, .slice al Q.left.length cl, .slice none 0 0] 43 (0, 0)) := by
    rw [hv]
    exact heap_set_self (heap_set_self (heap_set_self (heap_set_self (heap_set_self (heap_set_self (heap_set_self un))))))
  clear hv
  replace hvo := Lib.hid hvo
  repeat first | refine JG.seq ?_ | refine JG.skip ?_ | refine JG.inBlock ?_ | refine JG.block ?_ | refine JG.done ?_ | refine JG.label ?_ | refine JG.condT rfl ?_ | refine JG.condF rfl ?_ | (refine JG.region ?_; simp only [List.size_toArray, List.length_cons, List.length_nil, Nat.reduceAdd, Nat.zero_add, List.range, List.range.loop]) | (refine JG.unwanted rfl (by rfl) ?_; try walk_nrm) | (refine jgo rfl rfl (by rfl) (by decide) (fun K E hK hE τ d => ?_); go_simp; refine hK _ _ (JG.tap ?_); clear hK hE K E τ d; try walk_nrm)
  refine JG.ret ?_
  refine JG.leave rfl rfl Try.func18 (fun τ d => results_cell_row (p := 6) rfl _ _ rp _ _ _ _ rfl hvn Try.underlying43 rfl (by kernel_rfl)) (h.out C2 v x.heap.size _ _ _ _ hQe c2d c2h c2n c2lo c2io hch.out (fun r hr => ?_) (by omega) (Nat.le_refl _) ?_ ?_ ?_ ?_ (hIu.out v hsv hvo.out) hQn (fun j hj => HH.out.live j hj (by simp)) HH.out.names)
  · rw [hvo.out r (by have := hKp.out r hr; omega)]; exact hkz.out r hr
  · exact own_heap hlg.out fun b hb => hvo.out b fun e => own_ne hlg.out (fun cur => by rw [un]; simp) (by rw [← e]; exact hb)
  · exact own_heap hwn.out fun b hb => hvo.out b fun e => own_ne hwn.out (fun cur => by rw [un]; simp) (by rw [← e]; exact hb)
  · exact own_heap hrd.out fun b hb => hvo.out b fun e => own_ne hrd.out (fun cur => by rw [un]; simp) (by rw [← e]; exact hb)
  · have hw := own_heap (w' := v) hown.out fun b hb => hvo.out b fun e => own_ne hown.out (fun cur => by rw [un]; simp) (by rw [← e]; exact hb)
    exact ⟨hw.1, hw.2.imp id fun ⟨g, cap, cur, q1, q2, q3⟩ => ⟨g, cap, cur, q1, by omega, q3⟩⟩
end Go.Proofs.Ytecmobjiepgfjaa

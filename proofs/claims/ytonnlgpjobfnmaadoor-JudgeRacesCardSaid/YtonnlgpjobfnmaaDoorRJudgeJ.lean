/- judge's kind.does: what a thing holds behind a call. Conditions: what the slice's cells hold. -/
import Derived.Test.YtonnlgpjobfnmaaDoorRJudgeI
import Derived.ArgAppend
import Derived.Deep.RegionLawGrows
import Derived.Deep.AppendLies
import Derived.StillTailTactics
namespace Go.Proofs.YtonnlgpjobfnmaaDoor
open Go.RowKit
set_option maxRecDepth 100000

theorem clip_any (a : Option Addr) (n cap : Nat) (hc : n ≤ cap) (w : World) :
    Calls Tryd.prog 75 #[.slice a n cap] w fun e w' => e = .returned (.slice a n n) ∧ w' = w := by
  have h1 : (0 : Int) ≤ n := by omega
  have h2 : (n : Int) ≤ cap := by omega
  go_enter Tryd.func75, Tryd.ntmps75
  go_wp2_with fail
  go_ret
  refine ⟨?_, rfl⟩
  cases a <;> simp

/-- What a thing of the kind k, which holds hs, holds behind a call, and the call with what it answers. -/
def doesF (k : Int) (hs : List Int) (c : Cal) : List Int × Cal :=
  if k ≤ 2 then
    if c.op = 1 then (hs ++ [c.arg], { c with ans := 0, ok := false })
    else match hs with
      | [] => ([], { c with ans := 0, ok := false })
      | x :: r => if k = 1 then (r, { c with ans := x, ok := true }) else ((x :: r).dropLast, { c with ans := (x :: r).getLast (by simp), ok := true })
  else
    let x := hs.headD 0
    if c.op = 3 then ([wrap64 (x + c.arg)], { c with ans := wrap64 (x + c.arg), ok := false })
    else if c.op = 4 then ([x], { c with ans := x, ok := false })
    else if c.op = 1 then ([c.arg], { c with ans := 0, ok := false })
    else if c.op = 5 then (if x = c.arg then ([c.new], { c with ans := 0, ok := true }) else ([x], { c with ans := 0, ok := false }))
    else ([x], { c with ans := 0, ok := false })
/-- The value reads as a list of numbers. -/
def ThingAt (w : World) (v : Value) (hs : List Int) : Prop :=
  ∃ a cap, v = .slice a hs.length cap ∧ hs.length ≤ cap ∧ (a = none → cap = 0) ∧ NumsAt w w.heap.size a hs
def DoesPost (k : Int) (hs : List Int) (c : Cal) (w : World) (e : Ending) (w' : World) : Prop :=
  ∃ v, e = .returned (.tuple #[v, .agg (calA (doesF k hs c).2)]) ∧ ThingAt w' v (doesF k hs c).1 ∧ Below w.heap.size w w'
theorem results_tmp_cell_row {P : Program} {fn : Func} {p u : Tmp} {ty : TypeId} (h : fn.results = #[.tmp u, .cell p ty]) (tmps : Array Value) (w : World) (g : Nat) (t : TypeId) (cs : Array Value) (fr : Nat × Nat) (d : TypeDesc)
    (hp : tmps.getD p undef = .pointer (some ⟨g, 0, none⟩)) (hg : w.heap[g]? = some (.cells cs t fr))
    (hu : P.underlying ty = some d) (hd : (match d with | .struct _ | .array _ _ => true | _ => false) = true) (hi : (P.info? ty).map (·.size) = some cs.size) :
    (results fn tmps).run P w = .ok (.tuple #[tmps.getD u undef, .agg cs]) w := by
  have hp' : tmps[p]?.getD undef = .pointer (some ⟨g, 0, none⟩) := by simpa using hp
  simp [results, h, hp', asAddr, run_loadVar_row w g t ty cs fr d hg hu hd hi]
theorem infoCall : (Tryd.prog.info? 58).map (·.size) = some 7 := by kernel_rfl
theorem does_end {k : Int} {hs : List Int} {c : Cal} {w0 w : World} {act : Act} (v : Value) (r : List Int) (c' : Cal) (fr : Nat × Nat) (h6 : act.tmps.getD 6 undef = v) (h7 : act.tmps.getD 7 undef = .pointer (some ⟨w0.heap.size + 1, 0, none⟩)) (hd : act.defers = [])
    (hb : w.heap[w0.heap.size + 1]? = some (.cells (calA c') 58 fr)) (hc : doesF k hs c = (r, c')) (ht : ThingAt w v r) (hk : Below w0.heap.size w0 w) :
    bodyPost Tryd.prog Tryd.f45 (DoesPost k hs c w0) .ret act w := by
  refine bodyPost_ret (results_tmp_cell_row rfl act.tmps w (w0.heap.size + 1) 58 (calA c') fr _ h7 hb Tryd.underlying58 rfl infoCall) hd ?_
  rw [h6]
  exact ⟨v, by rw [hc], by rw [hc]; exact ht, hk⟩
theorem two_below {w : World} (o1 o2 : Obj) : Below w.heap.size w ((w.alloc o1).alloc o2) := ((Below.refl _ w).alloc (Nat.le_refl _) o1).alloc (by simp) o2
theorem NumsAt.of2 {w : World} {b : Option Addr} {hs : List Int} (h : NumsAt w w.heap.size b hs) (o1 o2 : Obj) : NumsAt ((w.alloc o1).alloc o2).drew ((w.alloc o1).alloc o2).drew.heap.size b hs :=
  (h.of (two_below o1 o2).drew).mono (two_below o1 o2).drew.size
theorem NumsAt.nil {w : World} {B : Nat} {b b' : Option Addr} {x : Int} {r : List Int} (h : NumsAt w B b (x :: r)) (hr : r.length ≤ 0) : NumsAt w B b' r :=
  ⟨fun y hy => h.wf y (by simp [hy]), fun i y hy => by have := (List.getElem?_eq_some_iff.1 hy).1; omega⟩
theorem NumsAt.tail {w : World} {B g off : Nat} {x : Int} {r : List Int} (h : NumsAt w B (some ⟨g, off, none⟩) (x :: r)) : NumsAt w B (some ⟨g, off + 1, none⟩) r :=
  ⟨fun y hy => h.wf y (by simp [hy]), fun i y hy => by
    obtain ⟨g', off', e, hg, ht, hc⟩ := h.at_ (i + 1) y (by simpa using hy)
    injection e with e
    injection e with e1 e2
    subst e1 e2
    exact ⟨g, off + 1, rfl, hg, ht, by rw [← hc]; congr 2; omega⟩⟩
theorem NumsAt.init {w : World} {B : Nat} {b : Option Addr} {x : Int} {r : List Int} (h : NumsAt w B b (r ++ [x])) : NumsAt w B b r :=
  ⟨fun y hy => h.wf y (by simp [hy]), fun i y hy => h.at_ i y (by rw [List.getElem?_append_left (List.getElem?_eq_some_iff.1 hy).1]; exact hy)⟩
theorem doesF_last {r : List Int} {x : Int} {c : Cal} (ho : c.op ≠ 1) : doesF 2 (r ++ [x]) c = (r, { c with ans := x, ok := true }) := by
  unfold doesF
  rw [if_pos (by omega), if_neg ho]
  split
  · rename_i h
    simp at h
  · rename_i y t h
    simp only [← h]
    simp
set_option maxHeartbeats 4000000 in
theorem does_none (k : Int) (hk : k = 1 ∨ k = 2) (a : Option Addr) (cap : Nat) (c : Cal) (ho : c.op ≠ 1) (hn : a = none → cap = 0) (w : World) :
    Calls Tryd.prog 45 #[.int .i64 k, .slice a 0 cap, .agg (calA c)] w (DoesPost k [] c w) := by
  have hk2 : decide (k ≤ 2) = true := by simp; omega
  have HK := Lib.hid hk
  clear hk
  unfold calA
  go_enter Tryd.func45, Tryd.ntmps45
  go_wp2_with fail
  go_region
  go_wp2_with fail
  (try simp only [Exit.inBlock, Exit.then])
  refine does_end (.slice a 0 cap) [] { c with ans := 0, ok := false } _ rfl rfl rfl (heap_alloc2_new _ _ _) ?_ ⟨a, cap, rfl, Nat.zero_le _, hn, by simp, by simp⟩ (two_below _ _).drew
  have := HK.out
  unfold doesF
  rw [if_pos (by omega), if_neg ho]
set_option maxHeartbeats 4000000 in
theorem does_first (a : Option Addr) (cap : Nat) (x : Int) (r : List Int) (hc : r.length + 1 ≤ cap) (c : Cal) (ho : c.op ≠ 1) (w : World) (hl : r.length ≤ 1000000) (h : NumsAt w w.heap.size a (x :: r)) :
    Calls Tryd.prog 45 #[.int .i64 1, .slice a (r.length + 1) cap, .agg (calA c)] w (DoesPost 1 (x :: r) c w) := by
  obtain ⟨g, off, rfl, hg, _, hA⟩ := h.at_ 0 x rfl
  have H := Lib.hid h
  clear h
  rw [Nat.add_zero] at hA
  unfold calA
  go_enter Tryd.func45, Tryd.ntmps45
  go_wp2_with fail
  go_region
  go_wp2_with fail
  (try simp only [Exit.inBlock, Exit.then])
  all_goals (try simp only [Exit.inBlock, Exit.then])
  all_goals refine does_end _ r { c with ans := x, ok := true } _ rfl rfl rfl (heap_alloc2_new _ _ _) ?_ ?_ (two_below _ _).drew
  · simp [doesF, ho]
  · exact ⟨_, _, rfl, by omega, by simp, (H.out.nil (by omega)).of2 _ _⟩
  · simp [doesF, ho]
  · exact ⟨_, _, rfl, by omega, by simp, H.out.tail.of2 _ _⟩
set_option maxHeartbeats 4000000 in
theorem does_last (a : Option Addr) (cap : Nat) (x : Int) (r : List Int) (hc : r.length + 1 ≤ cap) (c : Cal) (ho : c.op ≠ 1) (w : World) (hl : r.length ≤ 1000000) (h : NumsAt w w.heap.size a (r ++ [x])) :
    Calls Tryd.prog 45 #[.int .i64 2, .slice a (r.length + 1) cap, .agg (calA c)] w (DoesPost 2 (r ++ [x]) c w) := by
  obtain ⟨g, off, rfl, hg, _, hA⟩ := h.at_ r.length x (by simp)
  have H := Lib.hid h
  clear h
  unfold calA
  go_enter Tryd.func45, Tryd.ntmps45
  go_wp2_with fail
  go_region
  go_wp2_with fail
  (try simp only [Exit.inBlock, Exit.then])
  refine does_end _ r { c with ans := x, ok := true } _ rfl rfl rfl (heap_alloc2_new _ _ _) ?_ ?_ (two_below _ _).drew
  · exact doesF_last ho
  · exact ⟨_, _, rfl, Nat.le_refl _, by simp, H.out.init.of2 _ _⟩
theorem step_clip {ops : Array Oper} {o : Oper} {a : Act} {w : World} {K : Act → World → Prop} {Q : Exit → Act → World → Prop} {E : Prop}
    (hg : o.guard = none) (x : Operand) (hop : o.op = Op.call { callee := Callee.value (Operand.func 75), args := #[x], argTypes := #[54] }) (ao : Option Addr) (n cap : Nat) (hx : a.eval x = .slice ao n cap) (hc : n ≤ cap)
    (hK : K (a.put o.dst (.slice ao n n)) w) :
    if Region.wanted o (yielded ops a.tmps) = true then Oper.wp Tryd.prog o a w K Q else E := by
  have hw : Region.wanted o (yielded ops a.tmps) = true := by simp [Region.wanted, hg]
  rw [if_pos hw]
  have hr : (execOp a.eval o).run Tryd.prog w = .ok (.enter 75 #[.slice ao n cap]) w := by
    have e75 : ∀ args w, (callFunc 75 args).run Tryd.prog w = .ok (.enter 75 args) w := enters_of Tryd.func75 (by kernel_rfl) rfl
    simp only [execOp, hop, resolve]
    rw [show a.eval (Operand.func 75) = .func (.func 75) #[] #[] from rfl]
    simp [hx, Deferred.ofValue, invoke, e75]
  unfold Oper.wp
  rw [hr, Oper.upon_enter]
  exact (clip_any ao n cap hc w).mono (by rintro e w' ⟨rfl, rfl⟩; exact hK)
theorem heap_alloc3_new (w : World) (A B C : Obj) : (((w.alloc A).alloc B).alloc C).drew.heap[w.heap.size + 2]? = some C := by
  have h := heap_alloc_new ((w.alloc A).alloc B) C
  have e : ((w.alloc A).alloc B).heap.size = w.heap.size + 2 := by simp
  rw [e] at h
  exact h
theorem grown3_a {w w' : World} {A B C : Obj} (h : (((w.alloc A).alloc B).alloc C).drew.grownBy w' none) : w'.heap[w.heap.size]? = some A := by
  rw [h.block w.heap.size (by show _ < (((w.alloc A).alloc B).alloc C).heap.size; simp; omega) (by simp)]
  show (((w.alloc A).alloc B).alloc C).heap[w.heap.size]? = _
  rw [heap_alloc_old _ _ (by simp; omega), heap_alloc_old _ _ (by simp), heap_alloc_new]
theorem grown3_b {w w' : World} {A B C : Obj} (h : (((w.alloc A).alloc B).alloc C).drew.grownBy w' none) : w'.heap[w.heap.size + 1]? = some B := by
  rw [h.block (w.heap.size + 1) (by show _ < (((w.alloc A).alloc B).alloc C).heap.size; simp) (by simp)]
  show (((w.alloc A).alloc B).alloc C).heap[w.heap.size + 1]? = _
  rw [heap_alloc_old _ _ (by simp), heap_alloc2_new]
def put7 (w : World) (g : Nat) (b0 b1 b2 b3 b4 b5 b6 : Value) : World :=
  ((((((w.setCell ⟨g, 0, none⟩ b0).setCell ⟨g, 1, none⟩ b1).setCell ⟨g, 2, none⟩ b2).setCell ⟨g, 3, none⟩ b3).setCell ⟨g, 4, none⟩ b4).setCell ⟨g, 5, none⟩ b5).setCell ⟨g, 6, none⟩ b6
theorem put7_blk {w : World} {g : Nat} {t : TypeId} {z0 z1 z2 z3 z4 z5 z6 : Value} (h : Blk w g t #[z0, z1, z2, z3, z4, z5, z6]) (b0 b1 b2 b3 b4 b5 b6 : Value) : Blk (put7 w g b0 b1 b2 b3 b4 b5 b6) g t #[b0, b1, b2, b3, b4, b5, b6] := by
  have k := ((((((h.set_ 0 b0).set_ 1 b1).set_ 2 b2).set_ 3 b3).set_ 4 b4).set_ 5 b5).set_ 6 b6
  have e : ((((((#[z0, z1, z2, z3, z4, z5, z6].setIfInBounds 0 b0).setIfInBounds 1 b1).setIfInBounds 2 b2).setIfInBounds 3 b3).setIfInBounds 4 b4).setIfInBounds 5 b5).setIfInBounds 6 b6 = #[b0, b1, b2, b3, b4, b5, b6] := by kernel_rfl
  rw [e] at k
  exact k
theorem put7_below {w0 w : World} {B g : Nat} (h : Below B w0 w) (hg : B ≤ g) (b0 b1 b2 b3 b4 b5 b6 : Value) : Below B w0 (put7 w g b0 b1 b2 b3 b4 b5 b6) :=
  ((((((h.setCell (p := ⟨g, 0, none⟩) hg b0).setCell (p := ⟨g, 1, none⟩) hg b1).setCell (p := ⟨g, 2, none⟩) hg b2).setCell (p := ⟨g, 3, none⟩) hg b3).setCell (p := ⟨g, 4, none⟩) hg b4).setCell (p := ⟨g, 5, none⟩) hg b5).setCell (p := ⟨g, 6, none⟩) hg b6
theorem put7_far {w : World} {g q : Nat} (hq : q ≠ g) (b0 b1 b2 b3 b4 b5 b6 : Value) : (put7 w g b0 b1 b2 b3 b4 b5 b6).heap[q]? = w.heap[q]? := by
  unfold put7
  repeat rw [Below.heap_setCell _ _ _ _ hq]
theorem put7_size {w : World} {g : Nat} (b0 b1 b2 b3 b4 b5 b6 : Value) : (put7 w g b0 b1 b2 b3 b4 b5 b6).heap.size = w.heap.size := by simp [put7]
theorem put_end {w w' : World} {A C : Obj} {z0 z1 z2 z3 z4 z5 z6 : Value} {hs : List Int} {arg : Int} {g' n cap' : Nat} (hn : n = hs.length + 1)
    (hgrow : (((w.alloc A).alloc (.cells #[z0, z1, z2, z3, z4, z5, z6] 58)).alloc C).drew.grownBy w' none)
    (hown : w'.ownsRow (((w.alloc A).alloc (.cells #[z0, z1, z2, z3, z4, z5, z6] 58)).alloc C).drew.heap.size 2 1 (.slice (some ⟨g', 0, none⟩) n cap') n (hs.map (Value.int .i64) ++ [.int .i64 arg]))
    (hw : ∀ x, x ∈ hs → i64of x) (hwa : i64of arg) (b0 b1 b2 b3 b4 b5 b6 : Value) :
    (put7 w' (w.heap.size + 1) b0 b1 b2 b3 b4 b5 b6).heap[w.heap.size + 1]? = some (.cells #[b0, b1, b2, b3, b4, b5, b6] 58 (0, 0)) ∧
    ThingAt (put7 w' (w.heap.size + 1) b0 b1 b2 b3 b4 b5 b6) (.slice (some ⟨g', 0, none⟩) n cap') (hs ++ [arg]) ∧ Below w.heap.size w (put7 w' (w.heap.size + 1) b0 b1 b2 b3 b4 b5 b6) := by
  have hsz : (((w.alloc A).alloc (.cells #[z0, z1, z2, z3, z4, z5, z6] 58)).alloc C).drew.heap.size = w.heap.size + 3 := by
    show (((w.alloc A).alloc (.cells #[z0, z1, z2, z3, z4, z5, z6] 58)).alloc C).heap.size = _
    simp
  have hlt := hown.lt g' rfl
  rw [hsz] at hlt
  refine ⟨put7_blk (grown3_b hgrow) _ _ _ _ _ _ _, ⟨some ⟨g', 0, none⟩, cap', ?_, ?_, by simp, ?_, ?_⟩, put7_below ?_ (Nat.le_succ _) _ _ _ _ _ _ _⟩
  · simp [hn]
  · rcases hown.2 with ⟨hv, _⟩ | ⟨g, cap, cur, hv, _, _, hc, _⟩
    · cases hv
    · injection hv with _ _ hv
      simp
      omega
  · intro x hx
    rcases List.mem_append.1 hx with hx | hx
    · exact hw x hx
    · rw [List.mem_singleton.1 hx]; exact hwa
  · intro i x hx
    refine ⟨g', 0, rfl, by rw [put7_size]; exact hlt.2, ?_, ?_⟩
    · rcases hown.2 with ⟨hv, _⟩ | ⟨g, cap, cur, hv, _, hg, _⟩
      · cases hv
      · injection hv with hv
        injection hv with hv
        injection hv with hv
        subst hv
        exact ⟨cur, (0, 0), (put7_far (by omega) _ _ _ _ _ _ _).trans hg⟩
    rw [World.cell?_of_block (put7_far (by show g' ≠ _; omega) _ _ _ _ _ _ _)]
    have := hown.cells (g := g') rfl i (.int .i64 x) (by
      rw [show hs.map (Value.int .i64) ++ [.int .i64 arg] = (hs ++ [arg]).map (Value.int .i64) by simp, List.getElem?_map, hx]; rfl)
    rw [Addr.add_lit] at this
    exact this
  · exact ((two_below _ _).alloc (two_below _ _).size _).drew.grown hgrow ((two_below _ _).alloc (two_below _ _).size _).drew.size (by simp)
theorem infoNum : (Tryd.prog.info? 2).map (fun i => (i.zero, i.size, i.bytes)) = some (some (.int .i64 0), 1, 8) := by kernel_rfl
set_option maxHeartbeats 4000000 in
theorem does_put (k : Int) (hk : k = 1 ∨ k = 2) (a : Option Addr) (cap : Nat) (hs : List Int) (hc : hs.length ≤ cap) (hn : a = none → cap = 0) (c : Cal) (ho : c.op = 1) (hwf : i64of c.arg) (w : World) (hl : hs.length ≤ 1000000) (h : NumsAt w w.heap.size a hs) :
    Calls Tryd.prog 45 #[.int .i64 k, .slice a hs.length cap, .agg (calA c)] w (DoesPost k hs c w) := by
  have hk2 : decide (k ≤ 2) = true := by simp; omega
  have HK := Lib.hid hk
  have H := Lib.hid h
  clear hk h
  obtain ⟨op, arg, new, ans, ok, beg, fin⟩ := c
  simp only at ho
  subst ho
  obtain ⟨i0, hi, hz0, hz1, hz2⟩ := info_parts infoNum
  unfold calA
  go_enter Tryd.func45, Tryd.ntmps45
  go_wp2_with fail
  have hcl : ∀ (o1 o2 o3 : Obj) (b : Addr), a = some b → ∀ j u, (hs.map (Value.int .i64))[j]? = some u → (((w.alloc o1).alloc o2).alloc o3).drew.cell? (b.add j) = some u := by
    intro o1 o2 o3 b hb j u hu
    rw [List.getElem?_map] at hu
    cases hx : hs[j]? with
    | none => rw [hx] at hu; cases hu
    | some x =>
      rw [hx] at hu
      injection hu with hu
      subst hu
      obtain ⟨g, off, e, hg, _, hcx⟩ := H.out.at_ j x hx
      rw [hb] at e
      injection e with e
      subst e
      rw [Addr.add_lit]
      exact (((two_below o1 o2).alloc (two_below o1 o2).size o3).drew.cell (p := ⟨g, off + j, none⟩) hg).trans hcx
  go_region_law (first
    | (refine step_clip rfl (.tmp 17) rfl a hs.length cap (by simp [Act.eval, Act.put]) hc ?_)
    | (refine step_append_grows rfl (.tmp 18) (.tmp 21) 54 rfl 2 i0 (.int .i64 0) 1 8 Tryd.underlying54 hi hz0 hz1 hz2 rfl (by decide) a hs.length hs.length (hs.map (Value.int .i64)) (by simp [Act.eval]) (fun e => by have := hn e; omega) (by simp) (hcl _ _ _) ⟨w.heap.size + 2, 0, none⟩ 1 1 [.int .i64 arg] (by simp [Act.eval]) rfl (World.news_of_block (heap_alloc3_new _ _ _ _)) (by simp [Value.oneCell']) (by omega) (by unfold maxLen; omega) (by omega) ?_
       intro v' w' hown hgrow
       have q0 := grown3_a hgrow
       have q1 := grown3_b hgrow
       obtain ⟨g', cap', hv, hbig⟩ := hown.form (by omega)
       subst hv
       have r00 : w'.cell? ⟨w.heap.size, 0, none⟩ = some (.int .i8 1) := by rw [Lib.cell_of_heap q0]; rfl
       have r01 : w'.cell? ⟨w.heap.size, 1, none⟩ = some (.int .i64 arg) := by rw [Lib.cell_of_heap q0]; rfl
       have r02 : w'.cell? ⟨w.heap.size, 2, none⟩ = some (.int .i64 new) := by rw [Lib.cell_of_heap q0]; rfl
       have r03 : w'.cell? ⟨w.heap.size, 3, none⟩ = some (.int .i64 0) := by rw [Lib.cell_of_heap q0]; rfl
       have r04 : w'.cell? ⟨w.heap.size, 4, none⟩ = some (.bool false) := by rw [Lib.cell_of_heap q0]; rfl
       have r05 : w'.cell? ⟨w.heap.size, 5, none⟩ = some (.int .i64 beg) := by rw [Lib.cell_of_heap q0]; rfl
       have r06 : w'.cell? ⟨w.heap.size, 6, none⟩ = some (.int .i64 fin) := by rw [Lib.cell_of_heap q0]; rfl
       have r10 : w'.cell? ⟨w.heap.size + 1, 0, none⟩ = some (.int .i8 0) := by rw [Lib.cell_of_heap q1]; rfl
       have r11 : w'.cell? ⟨w.heap.size + 1, 1, none⟩ = some (.int .i64 0) := by rw [Lib.cell_of_heap q1]; rfl
       have r12 : w'.cell? ⟨w.heap.size + 1, 2, none⟩ = some (.int .i64 0) := by rw [Lib.cell_of_heap q1]; rfl
       have r13 : w'.cell? ⟨w.heap.size + 1, 3, none⟩ = some (.int .i64 0) := by rw [Lib.cell_of_heap q1]; rfl
       have r14 : w'.cell? ⟨w.heap.size + 1, 4, none⟩ = some (.bool false) := by rw [Lib.cell_of_heap q1]; rfl
       have r15 : w'.cell? ⟨w.heap.size + 1, 5, none⟩ = some (.int .i64 0) := by rw [Lib.cell_of_heap q1]; rfl
       have r16 : w'.cell? ⟨w.heap.size + 1, 6, none⟩ = some (.int .i64 0) := by rw [Lib.cell_of_heap q1]; rfl
       have f1 : ∀ j, w'.frozen? ⟨w.heap.size + 1, j, none⟩ = false := fun j => Lib.frozen_of_heap q1 j
       have f10 := f1 0; have f11 := f1 1; have f12 := f1 2; have f13 := f1 3; have f14 := f1 4; have f15 := f1 5; have f16 := f1 6))
  all_goals go_wp2_with fail
  all_goals (try simp only [Exit.inBlock, Exit.then])
  all_goals
    have HE := put_end rfl hgrow hown H.out.wf hwf (.int .i8 1) (.int .i64 arg) (.int .i64 new) (.int .i64 0) (.bool false) (.int .i64 beg) (.int .i64 fin)
    refine does_end _ (hs ++ [arg]) ⟨1, arg, new, 0, false, beg, fin⟩ _ rfl rfl rfl HE.1 ?_ HE.2.1 HE.2.2
    have := HK.out
    unfold doesF
    rw [if_pos (by omega), if_pos rfl]
end Go.Proofs.YtonnlgpjobfnmaaDoor

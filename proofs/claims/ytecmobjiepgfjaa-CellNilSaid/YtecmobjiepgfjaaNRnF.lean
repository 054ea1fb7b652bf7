/- An access, from where the thread is let go on. -/
import Derived.Test.YtecmobjiepgfjaaNRnE
namespace Go.Proofs.Ytecmobjiepgfjaa
open Go.Conc Go.RowKit
open Go.ConcN (upd upd_same upd_ne)
set_option linter.unusedSimpArgs false
set_option linter.unusedVariables false
set_option maxRecDepth 100000
/-- Behind an access of a thread, its cell too. -/
structure Accessed (x y : World) (rb ab mb N : Nat) (vT vL vL' vW vR vF : Value) (stops : Bool) (A : Nat → Nat) (names : List Nat) (id : Nat) (log : List Entry) (a : Entry) : Prop where
  obj : y.heap[rb]? = some (.cells (runObj vT (.map (some mb)) vL' vW vR vF stops) 179 (0, 0))
  log : y.ownsRow N 172 8 vL' (log.length + 1) ((log ++ [{ a with cell := (names.idxOf id : Nat) }]).flatMap accV)
  lnew : vL'.ownBlock = vL.ownBlock ∨ ∃ g, vL'.ownBlock = some g ∧ x.heap.size ≤ g
  map : MapAt y mb A (if id ∈ names then names else names ++ [id])
  size : x.heap.size ≤ y.heap.size
  old : ∀ r, r < x.heap.size → r ≠ rb → r ≠ ab → r ≠ mb → r ≠ A id → some r ≠ vL.ownBlock → y.heap[r]? = x.heap[r]?
  cell : y.heap[A id]? = (x.setCell (th (A id) 0) (.int .i64 a.now)).heap[A id]?
theorem set_same {w : World} {b : Nat} {ca : Array Value} {ta : TypeId} {v : Value} (h : w.heap[b]? = some (.cells ca ta (0, 0))) (hv : w.cell? (th b 0) = some v) : (w.setCell (th b 0) v).heap[b]? = w.heap[b]? := by
  rw [heap_set_self h, h]
  rw [cell_obj h] at hv
  have : ca.setIfInBounds 0 v = ca := by
    apply Array.ext_getElem?
    intro i
    by_cases e : 0 = i
    · subst e
      obtain ⟨h1, h2⟩ := Array.getElem?_eq_some_iff.1 hv
      rw [Array.getElem?_setIfInBounds_self_of_lt h1]; exact hv.symm
    · rw [Array.getElem?_setIfInBounds_ne e]
  rw [this]
section
variable {Post : Value → World → Prop} {C : Ctx} {x : World} {c : Frame} {cs : List Frame} {tb rb ab mb N : Nat} {vT vL vW vR vF : Value} {stops : Bool} {num : Nat} {A : Nat → Nat} {names : List Nat} {id : Nat} {was arg new : Int} {log : List Entry}
theorem heap_cell_ne {w : World} {b r k i : Nat} {v : Value} (h : r ≠ b) : (w.setCell (th b k) v).cell? (th r i) = w.cell? (th r i) := by
  simp only [World.cell?]; rw [heap_set_ne h]
set_option maxHeartbeats 2000000 in
theorem doLoad_J {u5 u6 u7 u8 u9 u10 u11 u12 u14 u15 u16 u17 u18 u19 u20 u21 u22 u23 u24 u25 u26 u27 u28 u29 u30 u31 u32 u33 u34 u35 u36 u37 u38 u39 u40 u41 u42 u43 u44 u45 u46 u47 u48 u49 u50 u51 u52 u53 u54 u55 u56 u57 u58 u59 u60 u61 u62 u63 u64 u65 u66 u67 u68 u69 u70 u71 u72 u73 u74 u75 u76 u77 u78 u79 u80 u81 u82 u83 u84 u85 u86 u87 u88 u89 u90 u91 u92 u93 u94 u95 u96 u97 u98 u99 u100 u101 u102 u103 u104 u105 u106 u107 u108 u109 u110 u111 u112 u113 u114 u115 u116 u117 u118 u119 u120 u121 u122 u123 u124 u125 u126 : Value} (h0 : x.cell? (th tb 0) = some (P0 rb)) (hr : x.heap[rb]? = some (.cells (runObj vT (.map (some mb)) vL vW vR vF stops) 179 (0, 0))) (hL : x.ownsRow N 172 8 vL log.length (log.flatMap accV))
    (hab : x.heap[ab]? = some (.cells (accV ⟨num, 1, -1, 0, 0, 0, 0, false⟩).toArray 172 (0, 0))) (hLa : vL.ownBlock ≠ some ab) (hLt : vL.ownBlock ≠ some tb) (hLr : vL.ownBlock ≠ some rb) (hLm : vL.ownBlock ≠ some mb) (hLi : vL.ownBlock ≠ some (A id)) (hN : N ≤ x.heap.size) (hlen : log.length < 70000)
    (hM : MapAt x mb A names) (hid : RowAt x (A id)) (hnm : ∀ c ∈ names, RowAt x (A c) ∧ (A c = A id → c = id)) (hab' : ∀ c ∈ names, A c ≠ ab) (hia : A id ≠ ab) (hit : A id ≠ tb) (hir : A id ≠ rb) (hv : x.cell? (th (A id) 0) = some (.int .i64 was))
    (h : ∀ y vL', Accessed x y rb ab mb N vT vL vL' vW vR vF stops A names id log ⟨num, 1, -1, 0, 0, was, was, false⟩ → JG Try.prog Post C (G (c.finish (.tuple #[.int .i64 was, .int .i64 (was), .bool (false)])) cs) y) :
    JG Try.prog Post C (G ((base 101).at ⟨List.toArray ((P0 tb) :: (P0 (A id)) :: (.int .i8 1) :: (.int .i64 0) :: (.int .i64 0) :: u5 :: u6 :: u7 :: u8 :: u9 :: u10 :: u11 :: u12 :: (P0 ab) :: u14 :: u15 :: u16 :: u17 :: u18 :: u19 :: u20 :: u21 :: u22 :: u23 :: u24 :: u25 :: u26 :: u27 :: u28 :: u29 :: u30 :: u31 :: u32 :: u33 :: u34 :: u35 :: u36 :: u37 :: u38 :: u39 :: u40 :: u41 :: u42 :: u43 :: u44 :: u45 :: u46 :: u47 :: u48 :: u49 :: u50 :: u51 :: u52 :: u53 :: u54 :: u55 :: u56 :: u57 :: u58 :: u59 :: u60 :: u61 :: u62 :: u63 :: u64 :: u65 :: u66 :: u67 :: u68 :: u69 :: u70 :: u71 :: u72 :: u73 :: u74 :: u75 :: u76 :: u77 :: u78 :: u79 :: u80 :: u81 :: u82 :: u83 :: u84 :: u85 :: u86 :: u87 :: u88 :: u89 :: u90 :: u91 :: u92 :: u93 :: u94 :: u95 :: u96 :: u97 :: u98 :: u99 :: u100 :: u101 :: u102 :: u103 :: u104 :: u105 :: u106 :: u107 :: u108 :: u109 :: u110 :: u111 :: u112 :: u113 :: u114 :: u115 :: u116 :: u117 :: u118 :: u119 :: u120 :: u121 :: u122 :: u123 :: u124 :: u125 :: u126 :: []), []⟩ [.code (Code.from (Try.f101.body.getD .skip) 6)]) (c :: cs)) x := by
  have hend := @stepEnd_J Post C
  simp only [Try.f101, Option.getD_some, Code.from, Code.opsOf] at hend ⊢
  obtain ⟨ca, ta, hca⟩ := hid
  have gra : rb ≠ ab := by rintro rfl; rw [hr] at hab; simp at hab
  have gma : mb ≠ ab := by
    obtain ⟨es, cl, e, _⟩ := hM
    rintro rfl; rw [e] at hab; simp at hab
  have gim : A id ≠ mb := by
    obtain ⟨es, cl, e, _⟩ := hM
    intro z; rw [z, e] at hca; simp at hca
  repeat first | refine JG.seq ?_ | refine JG.skip ?_ | refine JG.inBlock ?_ | refine JG.block ?_ | refine JG.done ?_ | refine JG.label ?_ | refine JG.condT rfl ?_ | refine JG.condF rfl ?_ | (refine JG.region ?_; simp only [List.size_toArray, List.length_cons, List.length_nil, Nat.reduceAdd, Nat.zero_add, List.range, List.range.loop]) | (refine JG.unwanted rfl (by rfl) ?_; try walk_nrm) | (refine jgo rfl rfl (by rfl) (by decide) (fun K E hK hE τ d => ?_); go_simp; refine hK _ _ (JG.tap ?_); clear hK hE K E τ d; try walk_nrm)
  refine JG.call (f := 102) (args := #[P0 (A id)]) rfl (by rfl) (by decide) (fun w => ?_) (fun w => ?_) ?_
  iterate 2 (focus obtain ⟨fn, h1, h2, h3⟩ : HasBody 102 := ⟨_, Try.func102, by kernel_rfl, by kernel_rfl⟩; have h4 : ¬ fn.name = "runtime.NumGoroutine" := (by simpa using h2); have h5 : ¬ fn.body = none := (by intro e; rw [e] at h3; cases h3); simp [go_sem, execOp, Act.eval, resolve, Deferred.ofValue, invoke, callFunc, h1, h4, h5])
  refine iload_J hv ?_
  rw [Frame.finish_at]
  walk_nrm
  have a5 : x.cell? (th ab 5) = some (.int .i64 0) := cell_obj hab 5
  have f5 : x.frozen? (th ab 5) = false := frozen_obj hab 5
  repeat first | refine JG.seq ?_ | refine JG.skip ?_ | refine JG.inBlock ?_ | refine JG.block ?_ | refine JG.done ?_ | refine JG.label ?_ | refine JG.condT rfl ?_ | refine JG.condF rfl ?_ | (refine JG.region ?_; simp only [List.size_toArray, List.length_cons, List.length_nil, Nat.reduceAdd, Nat.zero_add, List.range, List.range.loop]) | (refine JG.unwanted rfl (by rfl) ?_; try walk_nrm) | (refine jgo rfl rfl (by rfl) (by decide) (fun K E hK hE τ d => ?_); go_simp; refine hK _ _ (JG.tap ?_); clear hK hE K E τ d; try walk_nrm)
  refine jgo rfl rfl (by rfl) (by decide) (fun K E hK hE τ d => ?_)
  obtain ⟨hfact, hfact2⟩ := And.intro a5 f5
  replace hfact := (under_cell _ τ d _).trans hfact
  replace hfact2 := (under_frozen _ τ d _).trans hfact2
  go_simp
  refine hK _ _ ?_
  rw [under_setCell]
  refine JG.tap ?_
  clear hfact hfact2 hK hE K E τ d
  try walk_nrm
  clear a5 f5
  have z0 : (x.setCell (th ab 5) (.int .i64 was)).cell? (th tb 0) = some (P0 rb) := cell_setCell_ne (by simp [th]) h0
  have zr := (heap_set_ne (w := x) (k := 5) (v := .int .i64 was) gra).trans hr
  have za : (x.setCell (th ab 5) (.int .i64 was)).heap[ab]? = some (.cells (accV ⟨num, 1, -1, 0, 0, was, 0, false⟩).toArray 172 (0, 0)) := by
    rw [heap_set_self hab]; rfl
  have zL := own_heap (w' := x.setCell (th ab 5) (.int .i64 was)) hL (fun g e => heap_set_ne (fun z => hLa (z ▸ e)))
  have zs := size_set x (th ab 5) (.int .i64 was)
  have zo : ∀ r, r ≠ ab → (x.setCell (th ab 5) (.int .i64 was)).heap[r]? = x.heap[r]? := fun r h => heap_set_ne h
  have zM := hM.heap (zo mb gma)
  have zca := (zo _ hia).trans hca
  have zv : (x.setCell (th ab 5) (.int .i64 was)).cell? (th (A id) 0) = some (.int .i64 was) := cell_setCell_ne (by simp [th]) hv
  have znm : ∀ c ∈ names, RowAt (x.setCell (th ab 5) (.int .i64 was)) (A c) ∧ (A c = A id → c = id) := fun c hc => by
    obtain ⟨⟨ca, ta, e⟩, h2⟩ := hnm c hc
    exact ⟨⟨ca, ta, (zo _ (hab' c hc)).trans e⟩, h2⟩
  generalize x.setCell (th ab 5) (.int .i64 was) = z at z0 zr za zL zs zo zM zca zv znm ⊢
  clear hr hab hL hM h0
  have zf : z.frozen? (th (A id) 0) = false := frozen_obj zca 0
  replace zo := Lib.hid zo
  replace zs := Lib.hid zs
  replace znm := Lib.hid znm
  replace hnm := Lib.hid hnm
  replace hab' := Lib.hid hab'
  repeat first | refine JG.seq ?_ | refine JG.skip ?_ | refine JG.inBlock ?_ | refine JG.block ?_ | refine JG.done ?_ | refine JG.label ?_ | refine JG.condT rfl ?_ | refine JG.condF rfl ?_ | (refine JG.region ?_; simp only [List.size_toArray, List.length_cons, List.length_nil, Nat.reduceAdd, Nat.zero_add, List.range, List.range.loop]) | (refine JG.unwanted rfl (by rfl) ?_; try walk_nrm) | (refine jgo rfl rfl (by rfl) (by decide) (fun K E hK hE τ d => ?_); go_simp; refine hK _ _ (JG.tap ?_); clear hK hE K E τ d; try walk_nrm)
  refine hend (x := z) (a := ⟨num, 1, -1, 0, 0, was, was, false⟩) z0 zr zL za hLa hLt hLr hLm (by rw [zs.out]; exact hN) hlen zM ⟨ca, ta, zca⟩ znm.out hab'.out hia zv fun y vL' hS => ?_
  refine h y vL' ⟨hS.obj, hS.log, ?_, hS.map, by rw [← zs.out]; exact hS.size, fun r e1 e2 e3 e4 e5 e6 => by rw [hS.old r (by rw [zs.out]; exact e1) e2 e3 e4 e6, zo.out r e3], ?_⟩
  · rcases hS.lnew with h | ⟨g, h, h'⟩
    · exact .inl h
    · exact .inr ⟨g, h, by rw [← zs.out]; exact h'⟩
  · rw [set_same hca hv]
    rw [hS.old _ (by rw [zs.out]; exact (Array.getElem?_eq_some_iff.1 hca).1) hir hia gim fun e => hLi e.symm, zo.out _ hia]
set_option maxHeartbeats 2000000 in
theorem doPark_J {u5 u6 u7 u8 u9 u10 u11 u12 u14 u15 u16 u17 u18 u19 u20 u21 u22 u23 u24 u25 u26 u27 u28 u29 u30 u31 u32 u33 u34 u35 u36 u37 u38 u39 u40 u41 u42 u43 u44 u45 u46 u47 u48 u49 u50 u51 u52 u53 u54 u55 u56 u57 u58 u59 u60 u61 u62 u63 u64 u65 u66 u67 u68 u69 u70 u71 u72 u73 u74 u75 u76 u77 u78 u79 u80 u81 u82 u83 u84 u85 u86 u87 u88 u89 u90 u91 u92 u93 u94 u95 u96 u97 u98 u99 u100 u101 u102 u103 u104 u105 u106 u107 u108 u109 u110 u111 u112 u113 u114 u115 u116 u117 u118 u119 u120 u121 u122 u123 u124 u125 u126 : Value} (h0 : x.cell? (th tb 0) = some (P0 rb)) (hr : x.heap[rb]? = some (.cells (runObj vT (.map (some mb)) vL vW vR vF stops) 179 (0, 0))) (hL : x.ownsRow N 172 8 vL log.length (log.flatMap accV))
    (hab : x.heap[ab]? = some (.cells (accV ⟨num, 6, -1, arg, 0, 0, 0, false⟩).toArray 172 (0, 0))) (hLa : vL.ownBlock ≠ some ab) (hLt : vL.ownBlock ≠ some tb) (hLr : vL.ownBlock ≠ some rb) (hLm : vL.ownBlock ≠ some mb) (hLi : vL.ownBlock ≠ some (A id)) (hN : N ≤ x.heap.size) (hlen : log.length < 70000)
    (hM : MapAt x mb A names) (hid : RowAt x (A id)) (hnm : ∀ c ∈ names, RowAt x (A c) ∧ (A c = A id → c = id)) (hab' : ∀ c ∈ names, A c ≠ ab) (hia : A id ≠ ab) (hit : A id ≠ tb) (hir : A id ≠ rb) (hv : x.cell? (th (A id) 0) = some (.int .i64 was))
    (h : ∀ y vL', Accessed x y rb ab mb N vT vL vL' vW vR vF stops A names id log ⟨num, 6, -1, arg, 0, was, was, false⟩ → JG Try.prog Post C (G (c.finish (.tuple #[.int .i64 was, .int .i64 (was), .bool (false)])) cs) y) :
    JG Try.prog Post C (G ((base 101).at ⟨List.toArray ((P0 tb) :: (P0 (A id)) :: (.int .i8 6) :: (.int .i64 arg) :: (.int .i64 0) :: u5 :: u6 :: u7 :: u8 :: u9 :: u10 :: u11 :: u12 :: (P0 ab) :: u14 :: u15 :: u16 :: u17 :: u18 :: u19 :: u20 :: u21 :: u22 :: u23 :: u24 :: u25 :: u26 :: u27 :: u28 :: u29 :: u30 :: u31 :: u32 :: u33 :: u34 :: u35 :: u36 :: u37 :: u38 :: u39 :: u40 :: u41 :: u42 :: u43 :: u44 :: u45 :: u46 :: u47 :: u48 :: u49 :: u50 :: u51 :: u52 :: u53 :: u54 :: u55 :: u56 :: u57 :: u58 :: u59 :: u60 :: u61 :: u62 :: u63 :: u64 :: u65 :: u66 :: u67 :: u68 :: u69 :: u70 :: u71 :: u72 :: u73 :: u74 :: u75 :: u76 :: u77 :: u78 :: u79 :: u80 :: u81 :: u82 :: u83 :: u84 :: u85 :: u86 :: u87 :: u88 :: u89 :: u90 :: u91 :: u92 :: u93 :: u94 :: u95 :: u96 :: u97 :: u98 :: u99 :: u100 :: u101 :: u102 :: u103 :: u104 :: u105 :: u106 :: u107 :: u108 :: u109 :: u110 :: u111 :: u112 :: u113 :: u114 :: u115 :: u116 :: u117 :: u118 :: u119 :: u120 :: u121 :: u122 :: u123 :: u124 :: u125 :: u126 :: []), []⟩ [.code (Code.from (Try.f101.body.getD .skip) 6)]) (c :: cs)) x := by
  have hend := @stepEnd_J Post C
  simp only [Try.f101, Option.getD_some, Code.from, Code.opsOf] at hend ⊢
  obtain ⟨ca, ta, hca⟩ := hid
  have gra : rb ≠ ab := by rintro rfl; rw [hr] at hab; simp at hab
  have gma : mb ≠ ab := by
    obtain ⟨es, cl, e, _⟩ := hM
    rintro rfl; rw [e] at hab; simp at hab
  have gim : A id ≠ mb := by
    obtain ⟨es, cl, e, _⟩ := hM
    intro z; rw [z, e] at hca; simp at hca
  repeat first | refine JG.seq ?_ | refine JG.skip ?_ | refine JG.inBlock ?_ | refine JG.block ?_ | refine JG.done ?_ | refine JG.label ?_ | refine JG.condT rfl ?_ | refine JG.condF rfl ?_ | (refine JG.region ?_; simp only [List.size_toArray, List.length_cons, List.length_nil, Nat.reduceAdd, Nat.zero_add, List.range, List.range.loop]) | (refine JG.unwanted rfl (by rfl) ?_; try walk_nrm) | (refine jgo rfl rfl (by rfl) (by decide) (fun K E hK hE τ d => ?_); go_simp; refine hK _ _ (JG.tap ?_); clear hK hE K E τ d; try walk_nrm)
  refine JG.call (f := 102) (args := #[P0 (A id)]) rfl (by rfl) (by decide) (fun w => ?_) (fun w => ?_) ?_
  iterate 2 (focus obtain ⟨fn, h1, h2, h3⟩ : HasBody 102 := ⟨_, Try.func102, by kernel_rfl, by kernel_rfl⟩; have h4 : ¬ fn.name = "runtime.NumGoroutine" := (by simpa using h2); have h5 : ¬ fn.body = none := (by intro e; rw [e] at h3; cases h3); simp [go_sem, execOp, Act.eval, resolve, Deferred.ofValue, invoke, callFunc, h1, h4, h5])
  refine iload_J hv ?_
  rw [Frame.finish_at]
  walk_nrm
  have a5 : x.cell? (th ab 5) = some (.int .i64 0) := cell_obj hab 5
  have f5 : x.frozen? (th ab 5) = false := frozen_obj hab 5
  repeat first | refine JG.seq ?_ | refine JG.skip ?_ | refine JG.inBlock ?_ | refine JG.block ?_ | refine JG.done ?_ | refine JG.label ?_ | refine JG.condT rfl ?_ | refine JG.condF rfl ?_ | (refine JG.region ?_; simp only [List.size_toArray, List.length_cons, List.length_nil, Nat.reduceAdd, Nat.zero_add, List.range, List.range.loop]) | (refine JG.unwanted rfl (by rfl) ?_; try walk_nrm) | (refine jgo rfl rfl (by rfl) (by decide) (fun K E hK hE τ d => ?_); go_simp; refine hK _ _ (JG.tap ?_); clear hK hE K E τ d; try walk_nrm)
  refine jgo rfl rfl (by rfl) (by decide) (fun K E hK hE τ d => ?_)
  obtain ⟨hfact, hfact2⟩ := And.intro a5 f5
  replace hfact := (under_cell _ τ d _).trans hfact
  replace hfact2 := (under_frozen _ τ d _).trans hfact2
  go_simp
  refine hK _ _ ?_
  rw [under_setCell]
  refine JG.tap ?_
  clear hfact hfact2 hK hE K E τ d
  try walk_nrm
  clear a5 f5
  have z0 : (x.setCell (th ab 5) (.int .i64 was)).cell? (th tb 0) = some (P0 rb) := cell_setCell_ne (by simp [th]) h0
  have zr := (heap_set_ne (w := x) (k := 5) (v := .int .i64 was) gra).trans hr
  have za : (x.setCell (th ab 5) (.int .i64 was)).heap[ab]? = some (.cells (accV ⟨num, 6, -1, arg, 0, was, 0, false⟩).toArray 172 (0, 0)) := by
    rw [heap_set_self hab]; rfl
  have zL := own_heap (w' := x.setCell (th ab 5) (.int .i64 was)) hL (fun g e => heap_set_ne (fun z => hLa (z ▸ e)))
  have zs := size_set x (th ab 5) (.int .i64 was)
  have zo : ∀ r, r ≠ ab → (x.setCell (th ab 5) (.int .i64 was)).heap[r]? = x.heap[r]? := fun r h => heap_set_ne h
  have zM := hM.heap (zo mb gma)
  have zca := (zo _ hia).trans hca
  have zv : (x.setCell (th ab 5) (.int .i64 was)).cell? (th (A id) 0) = some (.int .i64 was) := cell_setCell_ne (by simp [th]) hv
  have znm : ∀ c ∈ names, RowAt (x.setCell (th ab 5) (.int .i64 was)) (A c) ∧ (A c = A id → c = id) := fun c hc => by
    obtain ⟨⟨ca, ta, e⟩, h2⟩ := hnm c hc
    exact ⟨⟨ca, ta, (zo _ (hab' c hc)).trans e⟩, h2⟩
  generalize x.setCell (th ab 5) (.int .i64 was) = z at z0 zr za zL zs zo zM zca zv znm ⊢
  clear hr hab hL hM h0
  have zf : z.frozen? (th (A id) 0) = false := frozen_obj zca 0
  replace zo := Lib.hid zo
  replace zs := Lib.hid zs
  replace znm := Lib.hid znm
  replace hnm := Lib.hid hnm
  replace hab' := Lib.hid hab'
  repeat first | refine JG.seq ?_ | refine JG.skip ?_ | refine JG.inBlock ?_ | refine JG.block ?_ | refine JG.done ?_ | refine JG.label ?_ | refine JG.condT rfl ?_ | refine JG.condF rfl ?_ | (refine JG.region ?_; simp only [List.size_toArray, List.length_cons, List.length_nil, Nat.reduceAdd, Nat.zero_add, List.range, List.range.loop]) | (refine JG.unwanted rfl (by rfl) ?_; try walk_nrm) | (refine jgo rfl rfl (by rfl) (by decide) (fun K E hK hE τ d => ?_); go_simp; refine hK _ _ (JG.tap ?_); clear hK hE K E τ d; try walk_nrm)
  refine hend (x := z) (a := ⟨num, 6, -1, arg, 0, was, was, false⟩) z0 zr zL za hLa hLt hLr hLm (by rw [zs.out]; exact hN) hlen zM ⟨ca, ta, zca⟩ znm.out hab'.out hia zv fun y vL' hS => ?_
  refine h y vL' ⟨hS.obj, hS.log, ?_, hS.map, by rw [← zs.out]; exact hS.size, fun r e1 e2 e3 e4 e5 e6 => by rw [hS.old r (by rw [zs.out]; exact e1) e2 e3 e4 e6, zo.out r e3], ?_⟩
  · rcases hS.lnew with h | ⟨g, h, h'⟩
    · exact .inl h
    · exact .inr ⟨g, h, by rw [← zs.out]; exact h'⟩
  · rw [set_same hca hv]
    rw [hS.old _ (by rw [zs.out]; exact (Array.getElem?_eq_some_iff.1 hca).1) hir hia gim fun e => hLi e.symm, zo.out _ hia]
set_option maxHeartbeats 2000000 in
theorem doStore_J {u5 u6 u7 u8 u9 u10 u11 u12 u14 u15 u16 u17 u18 u19 u20 u21 u22 u23 u24 u25 u26 u27 u28 u29 u30 u31 u32 u33 u34 u35 u36 u37 u38 u39 u40 u41 u42 u43 u44 u45 u46 u47 u48 u49 u50 u51 u52 u53 u54 u55 u56 u57 u58 u59 u60 u61 u62 u63 u64 u65 u66 u67 u68 u69 u70 u71 u72 u73 u74 u75 u76 u77 u78 u79 u80 u81 u82 u83 u84 u85 u86 u87 u88 u89 u90 u91 u92 u93 u94 u95 u96 u97 u98 u99 u100 u101 u102 u103 u104 u105 u106 u107 u108 u109 u110 u111 u112 u113 u114 u115 u116 u117 u118 u119 u120 u121 u122 u123 u124 u125 u126 : Value} (h0 : x.cell? (th tb 0) = some (P0 rb)) (hr : x.heap[rb]? = some (.cells (runObj vT (.map (some mb)) vL vW vR vF stops) 179 (0, 0))) (hL : x.ownsRow N 172 8 vL log.length (log.flatMap accV))
    (hab : x.heap[ab]? = some (.cells (accV ⟨num, 2, -1, arg, 0, 0, 0, false⟩).toArray 172 (0, 0))) (hLa : vL.ownBlock ≠ some ab) (hLt : vL.ownBlock ≠ some tb) (hLr : vL.ownBlock ≠ some rb) (hLm : vL.ownBlock ≠ some mb) (hLi : vL.ownBlock ≠ some (A id)) (hN : N ≤ x.heap.size) (hlen : log.length < 70000)
    (hM : MapAt x mb A names) (hid : RowAt x (A id)) (hnm : ∀ c ∈ names, RowAt x (A c) ∧ (A c = A id → c = id)) (hab' : ∀ c ∈ names, A c ≠ ab) (hia : A id ≠ ab) (hit : A id ≠ tb) (hir : A id ≠ rb) (hv : x.cell? (th (A id) 0) = some (.int .i64 was))
    (h : ∀ y vL', Accessed x y rb ab mb N vT vL vL' vW vR vF stops A names id log ⟨num, 2, -1, arg, 0, was, arg, false⟩ → JG Try.prog Post C (G (c.finish (.tuple #[.int .i64 was, .int .i64 (arg), .bool (false)])) cs) y) :
    JG Try.prog Post C (G ((base 101).at ⟨List.toArray ((P0 tb) :: (P0 (A id)) :: (.int .i8 2) :: (.int .i64 arg) :: (.int .i64 0) :: u5 :: u6 :: u7 :: u8 :: u9 :: u10 :: u11 :: u12 :: (P0 ab) :: u14 :: u15 :: u16 :: u17 :: u18 :: u19 :: u20 :: u21 :: u22 :: u23 :: u24 :: u25 :: u26 :: u27 :: u28 :: u29 :: u30 :: u31 :: u32 :: u33 :: u34 :: u35 :: u36 :: u37 :: u38 :: u39 :: u40 :: u41 :: u42 :: u43 :: u44 :: u45 :: u46 :: u47 :: u48 :: u49 :: u50 :: u51 :: u52 :: u53 :: u54 :: u55 :: u56 :: u57 :: u58 :: u59 :: u60 :: u61 :: u62 :: u63 :: u64 :: u65 :: u66 :: u67 :: u68 :: u69 :: u70 :: u71 :: u72 :: u73 :: u74 :: u75 :: u76 :: u77 :: u78 :: u79 :: u80 :: u81 :: u82 :: u83 :: u84 :: u85 :: u86 :: u87 :: u88 :: u89 :: u90 :: u91 :: u92 :: u93 :: u94 :: u95 :: u96 :: u97 :: u98 :: u99 :: u100 :: u101 :: u102 :: u103 :: u104 :: u105 :: u106 :: u107 :: u108 :: u109 :: u110 :: u111 :: u112 :: u113 :: u114 :: u115 :: u116 :: u117 :: u118 :: u119 :: u120 :: u121 :: u122 :: u123 :: u124 :: u125 :: u126 :: []), []⟩ [.code (Code.from (Try.f101.body.getD .skip) 6)]) (c :: cs)) x := by
  have hend := @stepEnd_J Post C
  simp only [Try.f101, Option.getD_some, Code.from, Code.opsOf] at hend ⊢
  obtain ⟨ca, ta, hca⟩ := hid
  have gra : rb ≠ ab := by rintro rfl; rw [hr] at hab; simp at hab
  have gma : mb ≠ ab := by
    obtain ⟨es, cl, e, _⟩ := hM
    rintro rfl; rw [e] at hab; simp at hab
  have gim : A id ≠ mb := by
    obtain ⟨es, cl, e, _⟩ := hM
    intro z; rw [z, e] at hca; simp at hca
  repeat first | refine JG.seq ?_ | refine JG.skip ?_ | refine JG.inBlock ?_ | refine JG.block ?_ | refine JG.done ?_ | refine JG.label ?_ | refine JG.condT rfl ?_ | refine JG.condF rfl ?_ | (refine JG.region ?_; simp only [List.size_toArray, List.length_cons, List.length_nil, Nat.reduceAdd, Nat.zero_add, List.range, List.range.loop]) | (refine JG.unwanted rfl (by rfl) ?_; try walk_nrm) | (refine jgo rfl rfl (by rfl) (by decide) (fun K E hK hE τ d => ?_); go_simp; refine hK _ _ (JG.tap ?_); clear hK hE K E τ d; try walk_nrm)
  refine JG.call (f := 102) (args := #[P0 (A id)]) rfl (by rfl) (by decide) (fun w => ?_) (fun w => ?_) ?_
  iterate 2 (focus obtain ⟨fn, h1, h2, h3⟩ : HasBody 102 := ⟨_, Try.func102, by kernel_rfl, by kernel_rfl⟩; have h4 : ¬ fn.name = "runtime.NumGoroutine" := (by simpa using h2); have h5 : ¬ fn.body = none := (by intro e; rw [e] at h3; cases h3); simp [go_sem, execOp, Act.eval, resolve, Deferred.ofValue, invoke, callFunc, h1, h4, h5])
  refine iload_J hv ?_
  rw [Frame.finish_at]
  walk_nrm
  have a5 : x.cell? (th ab 5) = some (.int .i64 0) := cell_obj hab 5
  have f5 : x.frozen? (th ab 5) = false := frozen_obj hab 5
  repeat first | refine JG.seq ?_ | refine JG.skip ?_ | refine JG.inBlock ?_ | refine JG.block ?_ | refine JG.done ?_ | refine JG.label ?_ | refine JG.condT rfl ?_ | refine JG.condF rfl ?_ | (refine JG.region ?_; simp only [List.size_toArray, List.length_cons, List.length_nil, Nat.reduceAdd, Nat.zero_add, List.range, List.range.loop]) | (refine JG.unwanted rfl (by rfl) ?_; try walk_nrm) | (refine jgo rfl rfl (by rfl) (by decide) (fun K E hK hE τ d => ?_); go_simp; refine hK _ _ (JG.tap ?_); clear hK hE K E τ d; try walk_nrm)
  refine jgo rfl rfl (by rfl) (by decide) (fun K E hK hE τ d => ?_)
  obtain ⟨hfact, hfact2⟩ := And.intro a5 f5
  replace hfact := (under_cell _ τ d _).trans hfact
  replace hfact2 := (under_frozen _ τ d _).trans hfact2
  go_simp
  refine hK _ _ ?_
  rw [under_setCell]
  refine JG.tap ?_
  clear hfact hfact2 hK hE K E τ d
  try walk_nrm
  clear a5 f5
  have z0 : (x.setCell (th ab 5) (.int .i64 was)).cell? (th tb 0) = some (P0 rb) := cell_setCell_ne (by simp [th]) h0
  have zr := (heap_set_ne (w := x) (k := 5) (v := .int .i64 was) gra).trans hr
  have za : (x.setCell (th ab 5) (.int .i64 was)).heap[ab]? = some (.cells (accV ⟨num, 2, -1, arg, 0, was, 0, false⟩).toArray 172 (0, 0)) := by
    rw [heap_set_self hab]; rfl
  have zL := own_heap (w' := x.setCell (th ab 5) (.int .i64 was)) hL (fun g e => heap_set_ne (fun z => hLa (z ▸ e)))
  have zs := size_set x (th ab 5) (.int .i64 was)
  have zo : ∀ r, r ≠ ab → (x.setCell (th ab 5) (.int .i64 was)).heap[r]? = x.heap[r]? := fun r h => heap_set_ne h
  have zM := hM.heap (zo mb gma)
  have zca := (zo _ hia).trans hca
  have zv : (x.setCell (th ab 5) (.int .i64 was)).cell? (th (A id) 0) = some (.int .i64 was) := cell_setCell_ne (by simp [th]) hv
  have znm : ∀ c ∈ names, RowAt (x.setCell (th ab 5) (.int .i64 was)) (A c) ∧ (A c = A id → c = id) := fun c hc => by
    obtain ⟨⟨ca, ta, e⟩, h2⟩ := hnm c hc
    exact ⟨⟨ca, ta, (zo _ (hab' c hc)).trans e⟩, h2⟩
  generalize x.setCell (th ab 5) (.int .i64 was) = z at z0 zr za zL zs zo zM zca zv znm ⊢
  clear hr hab hL hM h0
  have zf : z.frozen? (th (A id) 0) = false := frozen_obj zca 0
  replace zo := Lib.hid zo
  replace zs := Lib.hid zs
  replace znm := Lib.hid znm
  replace hnm := Lib.hid hnm
  replace hab' := Lib.hid hab'
  repeat first | refine JG.seq ?_ | refine JG.skip ?_ | refine JG.inBlock ?_ | refine JG.block ?_ | refine JG.done ?_ | refine JG.label ?_ | refine JG.condT rfl ?_ | refine JG.condF rfl ?_ | (refine JG.region ?_; simp only [List.size_toArray, List.length_cons, List.length_nil, Nat.reduceAdd, Nat.zero_add, List.range, List.range.loop]) | (refine JG.unwanted rfl (by rfl) ?_; try walk_nrm) | (refine jgo rfl rfl (by rfl) (by decide) (fun K E hK hE τ d => ?_); go_simp; refine hK _ _ (JG.tap ?_); clear hK hE K E τ d; try walk_nrm)
  refine JG.call (f := 80) (args := #[P0 (A id), .int .i64 arg]) rfl (by rfl) (by decide) (fun w => ?_) (fun w => ?_) ?_
  iterate 2 (focus obtain ⟨fn, h1, h2, h3⟩ : HasBody 80 := ⟨_, Try.func80, by kernel_rfl, by kernel_rfl⟩; have h4 : ¬ fn.name = "runtime.NumGoroutine" := (by simpa using h2); have h5 : ¬ fn.body = none := (by intro e; rw [e] at h3; cases h3); simp [go_sem, execOp, Act.eval, resolve, Deferred.ofValue, invoke, callFunc, h1, h4, h5])
  refine istore_J zv zf ?_
  rw [Frame.finish_at]
  walk_nrm
  have wr := (heap_set_ne (w := z) (k := 0) (v := .int .i64 (arg)) (fun e => hir e.symm)).trans zr
  have wa := (heap_set_ne (w := z) (k := 0) (v := .int .i64 (arg)) (fun e => hia e.symm)).trans za
  have wL := own_heap (w' := z.setCell (th (A id) 0) (.int .i64 (arg))) zL (fun g e => heap_set_ne (fun z => hLi (z ▸ e)))
  have ws := size_set z (th (A id) 0) (.int .i64 (arg))
  have wo : ∀ r, r ≠ A id → (z.setCell (th (A id) 0) (.int .i64 (arg))).heap[r]? = z.heap[r]? := fun r h => heap_set_ne h
  have wM := zM.heap (wo mb gim.symm)
  have wc : (z.setCell (th (A id) 0) (.int .i64 (arg))).heap[A id]? = some (.cells (ca.setIfInBounds 0 (.int .i64 (arg))) ta (0, 0)) := heap_set_self zca
  have wx : (z.setCell (th (A id) 0) (.int .i64 (arg))).heap[A id]? = (x.setCell (th (A id) 0) (.int .i64 (arg))).heap[A id]? := by rw [wc, heap_set_self hca]
  have w0 : (z.setCell (th (A id) 0) (.int .i64 (arg))).cell? (th tb 0) = some (P0 rb) := (heap_cell_ne (fun e => hit e.symm)).trans z0
  have wv : (z.setCell (th (A id) 0) (.int .i64 (arg))).cell? (th (A id) 0) = some (.int .i64 (arg)) := by
    obtain ⟨h1, _⟩ := Array.getElem?_eq_some_iff.1 ((cell_obj zca 0).symm.trans zv)
    rw [cell_obj wc, Array.getElem?_setIfInBounds_self_of_lt h1]
  have wnm : ∀ c ∈ names, RowAt (z.setCell (th (A id) 0) (.int .i64 (arg))) (A c) ∧ (A c = A id → c = id) := fun c hc => by
    obtain ⟨⟨ca', ta', e⟩, h2⟩ := znm.out c hc
    by_cases e2 : A c = A id
    · exact ⟨⟨_, _, by rw [e2]; exact wc⟩, h2⟩
    · exact ⟨⟨ca', ta', (wo _ e2).trans e⟩, h2⟩
  generalize z.setCell (th (A id) 0) (.int .i64 (arg)) = w at wr wa wL ws wo wM wc wx w0 wv wnm ⊢
  replace wo := Lib.hid wo
  replace ws := Lib.hid ws
  replace wnm := Lib.hid wnm
  replace wx := Lib.hid wx
  repeat first | refine JG.seq ?_ | refine JG.skip ?_ | refine JG.inBlock ?_ | refine JG.block ?_ | refine JG.done ?_ | refine JG.label ?_ | refine JG.condT rfl ?_ | refine JG.condF rfl ?_ | (refine JG.region ?_; simp only [List.size_toArray, List.length_cons, List.length_nil, Nat.reduceAdd, Nat.zero_add, List.range, List.range.loop]) | (refine JG.unwanted rfl (by rfl) ?_; try walk_nrm) | (refine jgo rfl rfl (by rfl) (by decide) (fun K E hK hE τ d => ?_); go_simp; refine hK _ _ (JG.tap ?_); clear hK hE K E τ d; try walk_nrm)
  refine hend (x := w) (a := ⟨num, 2, -1, arg, 0, was, arg, false⟩) w0 wr wL wa hLa hLt hLr hLm (by rw [ws.out, zs.out]; exact hN) hlen wM ⟨_, ta, wc⟩ wnm.out hab'.out hia wv fun y vL' hS => ?_
  refine h y vL' ⟨hS.obj, hS.log, ?_, hS.map, by rw [← zs.out, ← ws.out]; exact hS.size, fun r e1 e2 e3 e4 e5 e6 => by rw [hS.old r (by rw [ws.out, zs.out]; exact e1) e2 e3 e4 e6, wo.out r e5, zo.out r e3], ?_⟩
  · rcases hS.lnew with h | ⟨g, h, h'⟩
    · exact .inl h
    · exact .inr ⟨g, h, by rw [← zs.out, ← ws.out]; exact h'⟩
  · rw [hS.old _ (by rw [ws.out, zs.out]; exact (Array.getElem?_eq_some_iff.1 hca).1) hir hia gim fun e => hLi e.symm]; exact wx.out
set_option maxHeartbeats 2000000 in
theorem doSwap_J {u5 u6 u7 u8 u9 u10 u11 u12 u14 u15 u16 u17 u18 u19 u20 u21 u22 u23 u24 u25 u26 u27 u28 u29 u30 u31 u32 u33 u34 u35 u36 u37 u38 u39 u40 u41 u42 u43 u44 u45 u46 u47 u48 u49 u50 u51 u52 u53 u54 u55 u56 u57 u58 u59 u60 u61 u62 u63 u64 u65 u66 u67 u68 u69 u70 u71 u72 u73 u74 u75 u76 u77 u78 u79 u80 u81 u82 u83 u84 u85 u86 u87 u88 u89 u90 u91 u92 u93 u94 u95 u96 u97 u98 u99 u100 u101 u102 u103 u104 u105 u106 u107 u108 u109 u110 u111 u112 u113 u114 u115 u116 u117 u118 u119 u120 u121 u122 u123 u124 u125 u126 : Value} (h0 : x.cell? (th tb 0) = some (P0 rb)) (hr : x.heap[rb]? = some (.cells (runObj vT (.map (some mb)) vL vW vR vF stops) 179 (0, 0))) (hL : x.ownsRow N 172 8 vL log.length (log.flatMap accV))
    (hab : x.heap[ab]? = some (.cells (accV ⟨num, 5, -1, arg, 0, 0, 0, false⟩).toArray 172 (0, 0))) (hLa : vL.ownBlock ≠ some ab) (hLt : vL.ownBlock ≠ some tb) (hLr : vL.ownBlock ≠ some rb) (hLm : vL.ownBlock ≠ some mb) (hLi : vL.ownBlock ≠ some (A id)) (hN : N ≤ x.heap.size) (hlen : log.length < 70000)
    (hM : MapAt x mb A names) (hid : RowAt x (A id)) (hnm : ∀ c ∈ names, RowAt x (A c) ∧ (A c = A id → c = id)) (hab' : ∀ c ∈ names, A c ≠ ab) (hia : A id ≠ ab) (hit : A id ≠ tb) (hir : A id ≠ rb) (hv : x.cell? (th (A id) 0) = some (.int .i64 was))
    (h : ∀ y vL', Accessed x y rb ab mb N vT vL vL' vW vR vF stops A names id log ⟨num, 5, -1, arg, 0, was, arg, false⟩ → JG Try.prog Post C (G (c.finish (.tuple #[.int .i64 was, .int .i64 (arg), .bool (false)])) cs) y) :
    JG Try.prog Post C (G ((base 101).at ⟨List.toArray ((P0 tb) :: (P0 (A id)) :: (.int .i8 5) :: (.int .i64 arg) :: (.int .i64 0) :: u5 :: u6 :: u7 :: u8 :: u9 :: u10 :: u11 :: u12 :: (P0 ab) :: u14 :: u15 :: u16 :: u17 :: u18 :: u19 :: u20 :: u21 :: u22 :: u23 :: u24 :: u25 :: u26 :: u27 :: u28 :: u29 :: u30 :: u31 :: u32 :: u33 :: u34 :: u35 :: u36 :: u37 :: u38 :: u39 :: u40 :: u41 :: u42 :: u43 :: u44 :: u45 :: u46 :: u47 :: u48 :: u49 :: u50 :: u51 :: u52 :: u53 :: u54 :: u55 :: u56 :: u57 :: u58 :: u59 :: u60 :: u61 :: u62 :: u63 :: u64 :: u65 :: u66 :: u67 :: u68 :: u69 :: u70 :: u71 :: u72 :: u73 :: u74 :: u75 :: u76 :: u77 :: u78 :: u79 :: u80 :: u81 :: u82 :: u83 :: u84 :: u85 :: u86 :: u87 :: u88 :: u89 :: u90 :: u91 :: u92 :: u93 :: u94 :: u95 :: u96 :: u97 :: u98 :: u99 :: u100 :: u101 :: u102 :: u103 :: u104 :: u105 :: u106 :: u107 :: u108 :: u109 :: u110 :: u111 :: u112 :: u113 :: u114 :: u115 :: u116 :: u117 :: u118 :: u119 :: u120 :: u121 :: u122 :: u123 :: u124 :: u125 :: u126 :: []), []⟩ [.code (Code.from (Try.f101.body.getD .skip) 6)]) (c :: cs)) x := by
  have hend := @stepEnd_J Post C
  simp only [Try.f101, Option.getD_some, Code.from, Code.opsOf] at hend ⊢
  obtain ⟨ca, ta, hca⟩ := hid
  have gra : rb ≠ ab := by rintro rfl; rw [hr] at hab; simp at hab
  have gma : mb ≠ ab := by
    obtain ⟨es, cl, e, _⟩ := hM
    rintro rfl; rw [e] at hab; simp at hab
  have gim : A id ≠ mb := by
    obtain ⟨es, cl, e, _⟩ := hM
    intro z; rw [z, e] at hca; simp at hca
  repeat first | refine JG.seq ?_ | refine JG.skip ?_ | refine JG.inBlock ?_ | refine JG.block ?_ | refine JG.done ?_ | refine JG.label ?_ | refine JG.condT rfl ?_ | refine JG.condF rfl ?_ | (refine JG.region ?_; simp only [List.size_toArray, List.length_cons, List.length_nil, Nat.reduceAdd, Nat.zero_add, List.range, List.range.loop]) | (refine JG.unwanted rfl (by rfl) ?_; try walk_nrm) | (refine jgo rfl rfl (by rfl) (by decide) (fun K E hK hE τ d => ?_); go_simp; refine hK _ _ (JG.tap ?_); clear hK hE K E τ d; try walk_nrm)
  refine JG.call (f := 102) (args := #[P0 (A id)]) rfl (by rfl) (by decide) (fun w => ?_) (fun w => ?_) ?_
  iterate 2 (focus obtain ⟨fn, h1, h2, h3⟩ : HasBody 102 := ⟨_, Try.func102, by kernel_rfl, by kernel_rfl⟩; have h4 : ¬ fn.name = "runtime.NumGoroutine" := (by simpa using h2); have h5 : ¬ fn.body = none := (by intro e; rw [e] at h3; cases h3); simp [go_sem, execOp, Act.eval, resolve, Deferred.ofValue, invoke, callFunc, h1, h4, h5])
  refine iload_J hv ?_
  rw [Frame.finish_at]
  walk_nrm
  have a5 : x.cell? (th ab 5) = some (.int .i64 0) := cell_obj hab 5
  have f5 : x.frozen? (th ab 5) = false := frozen_obj hab 5
  repeat first | refine JG.seq ?_ | refine JG.skip ?_ | refine JG.inBlock ?_ | refine JG.block ?_ | refine JG.done ?_ | refine JG.label ?_ | refine JG.condT rfl ?_ | refine JG.condF rfl ?_ | (refine JG.region ?_; simp only [List.size_toArray, List.length_cons, List.length_nil, Nat.reduceAdd, Nat.zero_add, List.range, List.range.loop]) | (refine JG.unwanted rfl (by rfl) ?_; try walk_nrm) | (refine jgo rfl rfl (by rfl) (by decide) (fun K E hK hE τ d => ?_); go_simp; refine hK _ _ (JG.tap ?_); clear hK hE K E τ d; try walk_nrm)
  refine jgo rfl rfl (by rfl) (by decide) (fun K E hK hE τ d => ?_)
  obtain ⟨hfact, hfact2⟩ := And.intro a5 f5
  replace hfact := (under_cell _ τ d _).trans hfact
  replace hfact2 := (under_frozen _ τ d _).trans hfact2
  go_simp
  refine hK _ _ ?_
  rw [under_setCell]
  refine JG.tap ?_
  clear hfact hfact2 hK hE K E τ d
  try walk_nrm
  clear a5 f5
  have z0 : (x.setCell (th ab 5) (.int .i64 was)).cell? (th tb 0) = some (P0 rb) := cell_setCell_ne (by simp [th]) h0
  have zr := (heap_set_ne (w := x) (k := 5) (v := .int .i64 was) gra).trans hr
  have za : (x.setCell (th ab 5) (.int .i64 was)).heap[ab]? = some (.cells (accV ⟨num, 5, -1, arg, 0, was, 0, false⟩).toArray 172 (0, 0)) := by
    rw [heap_set_self hab]; rfl
  have zL := own_heap (w' := x.setCell (th ab 5) (.int .i64 was)) hL (fun g e => heap_set_ne (fun z => hLa (z ▸ e)))
  have zs := size_set x (th ab 5) (.int .i64 was)
  have zo : ∀ r, r ≠ ab → (x.setCell (th ab 5) (.int .i64 was)).heap[r]? = x.heap[r]? := fun r h => heap_set_ne h
  have zM := hM.heap (zo mb gma)
  have zca := (zo _ hia).trans hca
  have zv : (x.setCell (th ab 5) (.int .i64 was)).cell? (th (A id) 0) = some (.int .i64 was) := cell_setCell_ne (by simp [th]) hv
  have znm : ∀ c ∈ names, RowAt (x.setCell (th ab 5) (.int .i64 was)) (A c) ∧ (A c = A id → c = id) := fun c hc => by
    obtain ⟨⟨ca, ta, e⟩, h2⟩ := hnm c hc
    exact ⟨⟨ca, ta, (zo _ (hab' c hc)).trans e⟩, h2⟩
  generalize x.setCell (th ab 5) (.int .i64 was) = z at z0 zr za zL zs zo zM zca zv znm ⊢
  clear hr hab hL hM h0
  have zf : z.frozen? (th (A id) 0) = false := frozen_obj zca 0
  replace zo := Lib.hid zo
  replace zs := Lib.hid zs
  replace znm := Lib.hid znm
  replace hnm := Lib.hid hnm
  replace hab' := Lib.hid hab'
  repeat first | refine JG.seq ?_ | refine JG.skip ?_ | refine JG.inBlock ?_ | refine JG.block ?_ | refine JG.done ?_ | refine JG.label ?_ | refine JG.condT rfl ?_ | refine JG.condF rfl ?_ | (refine JG.region ?_; simp only [List.size_toArray, List.length_cons, List.length_nil, Nat.reduceAdd, Nat.zero_add, List.range, List.range.loop]) | (refine JG.unwanted rfl (by rfl) ?_; try walk_nrm) | (refine jgo rfl rfl (by rfl) (by decide) (fun K E hK hE τ d => ?_); go_simp; refine hK _ _ (JG.tap ?_); clear hK hE K E τ d; try walk_nrm)
  refine JG.call (f := 80) (args := #[P0 (A id), .int .i64 arg]) rfl (by rfl) (by decide) (fun w => ?_) (fun w => ?_) ?_
  iterate 2 (focus obtain ⟨fn, h1, h2, h3⟩ : HasBody 80 := ⟨_, Try.func80, by kernel_rfl, by kernel_rfl⟩; have h4 : ¬ fn.name = "runtime.NumGoroutine" := (by simpa using h2); have h5 : ¬ fn.body = none := (by intro e; rw [e] at h3; cases h3); simp [go_sem, execOp, Act.eval, resolve, Deferred.ofValue, invoke, callFunc, h1, h4, h5])
  refine istore_J zv zf ?_
  rw [Frame.finish_at]
  walk_nrm
  have wr := (heap_set_ne (w := z) (k := 0) (v := .int .i64 (arg)) (fun e => hir e.symm)).trans zr
  have wa := (heap_set_ne (w := z) (k := 0) (v := .int .i64 (arg)) (fun e => hia e.symm)).trans za
  have wL := own_heap (w' := z.setCell (th (A id) 0) (.int .i64 (arg))) zL (fun g e => heap_set_ne (fun z => hLi (z ▸ e)))
  have ws := size_set z (th (A id) 0) (.int .i64 (arg))
  have wo : ∀ r, r ≠ A id → (z.setCell (th (A id) 0) (.int .i64 (arg))).heap[r]? = z.heap[r]? := fun r h => heap_set_ne h
  have wM := zM.heap (wo mb gim.symm)
  have wc : (z.setCell (th (A id) 0) (.int .i64 (arg))).heap[A id]? = some (.cells (ca.setIfInBounds 0 (.int .i64 (arg))) ta (0, 0)) := heap_set_self zca
  have wx : (z.setCell (th (A id) 0) (.int .i64 (arg))).heap[A id]? = (x.setCell (th (A id) 0) (.int .i64 (arg))).heap[A id]? := by rw [wc, heap_set_self hca]
  have w0 : (z.setCell (th (A id) 0) (.int .i64 (arg))).cell? (th tb 0) = some (P0 rb) := (heap_cell_ne (fun e => hit e.symm)).trans z0
  have wv : (z.setCell (th (A id) 0) (.int .i64 (arg))).cell? (th (A id) 0) = some (.int .i64 (arg)) := by
    obtain ⟨h1, _⟩ := Array.getElem?_eq_some_iff.1 ((cell_obj zca 0).symm.trans zv)
    rw [cell_obj wc, Array.getElem?_setIfInBounds_self_of_lt h1]
  have wnm : ∀ c ∈ names, RowAt (z.setCell (th (A id) 0) (.int .i64 (arg))) (A c) ∧ (A c = A id → c = id) := fun c hc => by
    obtain ⟨⟨ca', ta', e⟩, h2⟩ := znm.out c hc
    by_cases e2 : A c = A id
    · exact ⟨⟨_, _, by rw [e2]; exact wc⟩, h2⟩
    · exact ⟨⟨ca', ta', (wo _ e2).trans e⟩, h2⟩
  generalize z.setCell (th (A id) 0) (.int .i64 (arg)) = w at wr wa wL ws wo wM wc wx w0 wv wnm ⊢
  replace wo := Lib.hid wo
  replace ws := Lib.hid ws
  replace wnm := Lib.hid wnm
  replace wx := Lib.hid wx
  repeat first | refine JG.seq ?_ | refine JG.skip ?_ | refine JG.inBlock ?_ | refine JG.block ?_ | refine JG.done ?_ | refine JG.label ?_ | refine JG.condT rfl ?_ | refine JG.condF rfl ?_ | (refine JG.region ?_; simp only [List.size_toArray, List.length_cons, List.length_nil, Nat.reduceAdd, Nat.zero_add, List.range, List.range.loop]) | (refine JG.unwanted rfl (by rfl) ?_; try walk_nrm) | (refine jgo rfl rfl (by rfl) (by decide) (fun K E hK hE τ d => ?_); go_simp; refine hK _ _ (JG.tap ?_); clear hK hE K E τ d; try walk_nrm)
  refine hend (x := w) (a := ⟨num, 5, -1, arg, 0, was, arg, false⟩) w0 wr wL wa hLa hLt hLr hLm (by rw [ws.out, zs.out]; exact hN) hlen wM ⟨_, ta, wc⟩ wnm.out hab'.out hia wv fun y vL' hS => ?_
  refine h y vL' ⟨hS.obj, hS.log, ?_, hS.map, by rw [← zs.out, ← ws.out]; exact hS.size, fun r e1 e2 e3 e4 e5 e6 => by rw [hS.old r (by rw [ws.out, zs.out]; exact e1) e2 e3 e4 e6, wo.out r e5, zo.out r e3], ?_⟩
  · rcases hS.lnew with h | ⟨g, h, h'⟩
    · exact .inl h
    · exact .inr ⟨g, h, by rw [← zs.out, ← ws.out]; exact h'⟩
  · rw [hS.old _ (by rw [ws.out, zs.out]; exact (Array.getElem?_eq_some_iff.1 hca).1) hir hia gim fun e => hLi e.symm]; exact wx.out
set_option maxHeartbeats 2000000 in
theorem doAdd_J {u5 u6 u7 u8 u9 u10 u11 u12 u14 u15 u16 u17 u18 u19 u20 u21 u22 u23 u24 u25 u26 u27 u28 u29 u30 u31 u32 u33 u34 u35 u36 u37 u38 u39 u40 u41 u42 u43 u44 u45 u46 u47 u48 u49 u50 u51 u52 u53 u54 u55 u56 u57 u58 u59 u60 u61 u62 u63 u64 u65 u66 u67 u68 u69 u70 u71 u72 u73 u74 u75 u76 u77 u78 u79 u80 u81 u82 u83 u84 u85 u86 u87 u88 u89 u90 u91 u92 u93 u94 u95 u96 u97 u98 u99 u100 u101 u102 u103 u104 u105 u106 u107 u108 u109 u110 u111 u112 u113 u114 u115 u116 u117 u118 u119 u120 u121 u122 u123 u124 u125 u126 : Value} (h0 : x.cell? (th tb 0) = some (P0 rb)) (hr : x.heap[rb]? = some (.cells (runObj vT (.map (some mb)) vL vW vR vF stops) 179 (0, 0))) (hL : x.ownsRow N 172 8 vL log.length (log.flatMap accV))
    (hab : x.heap[ab]? = some (.cells (accV ⟨num, 4, -1, arg, 0, 0, 0, false⟩).toArray 172 (0, 0))) (hLa : vL.ownBlock ≠ some ab) (hLt : vL.ownBlock ≠ some tb) (hLr : vL.ownBlock ≠ some rb) (hLm : vL.ownBlock ≠ some mb) (hLi : vL.ownBlock ≠ some (A id)) (hN : N ≤ x.heap.size) (hlen : log.length < 70000)
    (hM : MapAt x mb A names) (hid : RowAt x (A id)) (hnm : ∀ c ∈ names, RowAt x (A c) ∧ (A c = A id → c = id)) (hab' : ∀ c ∈ names, A c ≠ ab) (hia : A id ≠ ab) (hit : A id ≠ tb) (hir : A id ≠ rb) (hv : x.cell? (th (A id) 0) = some (.int .i64 was))
    (h : ∀ y vL', Accessed x y rb ab mb N vT vL vL' vW vR vF stops A names id log ⟨num, 4, -1, arg, 0, was, wrap64 (was + arg), false⟩ → JG Try.prog Post C (G (c.finish (.tuple #[.int .i64 was, .int .i64 (wrap64 (was + arg)), .bool (false)])) cs) y) :
    JG Try.prog Post C (G ((base 101).at ⟨List.toArray ((P0 tb) :: (P0 (A id)) :: (.int .i8 4) :: (.int .i64 arg) :: (.int .i64 0) :: u5 :: u6 :: u7 :: u8 :: u9 :: u10 :: u11 :: u12 :: (P0 ab) :: u14 :: u15 :: u16 :: u17 :: u18 :: u19 :: u20 :: u21 :: u22 :: u23 :: u24 :: u25 :: u26 :: u27 :: u28 :: u29 :: u30 :: u31 :: u32 :: u33 :: u34 :: u35 :: u36 :: u37 :: u38 :: u39 :: u40 :: u41 :: u42 :: u43 :: u44 :: u45 :: u46 :: u47 :: u48 :: u49 :: u50 :: u51 :: u52 :: u53 :: u54 :: u55 :: u56 :: u57 :: u58 :: u59 :: u60 :: u61 :: u62 :: u63 :: u64 :: u65 :: u66 :: u67 :: u68 :: u69 :: u70 :: u71 :: u72 :: u73 :: u74 :: u75 :: u76 :: u77 :: u78 :: u79 :: u80 :: u81 :: u82 :: u83 :: u84 :: u85 :: u86 :: u87 :: u88 :: u89 :: u90 :: u91 :: u92 :: u93 :: u94 :: u95 :: u96 :: u97 :: u98 :: u99 :: u100 :: u101 :: u102 :: u103 :: u104 :: u105 :: u106 :: u107 :: u108 :: u109 :: u110 :: u111 :: u112 :: u113 :: u114 :: u115 :: u116 :: u117 :: u118 :: u119 :: u120 :: u121 :: u122 :: u123 :: u124 :: u125 :: u126 :: []), []⟩ [.code (Code.from (Try.f101.body.getD .skip) 6)]) (c :: cs)) x := by
  have hend := @stepEnd_J Post C
  simp only [Try.f101, Option.getD_some, Code.from, Code.opsOf] at hend ⊢
  obtain ⟨ca, ta, hca⟩ := hid
  have gra : rb ≠ ab := by rintro rfl; rw [hr] at hab; simp at hab
  have gma : mb ≠ ab := by
    obtain ⟨es, cl, e, _⟩ := hM
    rintro rfl; rw [e] at hab; simp at hab
  have gim : A id ≠ mb := by
    obtain ⟨es, cl, e, _⟩ := hM
    intro z; rw [z, e] at hca; simp at hca
  repeat first | refine JG.seq ?_ | refine JG.skip ?_ | refine JG.inBlock ?_ | refine JG.block ?_ | refine JG.done ?_ | refine JG.label ?_ | refine JG.condT rfl ?_ | refine JG.condF rfl ?_ | (refine JG.region ?_; simp only [List.size_toArray, List.length_cons, List.length_nil, Nat.reduceAdd, Nat.zero_add, List.range, List.range.loop]) | (refine JG.unwanted rfl (by rfl) ?_; try walk_nrm) | (refine jgo rfl rfl (by rfl) (by decide) (fun K E hK hE τ d => ?_); go_simp; refine hK _ _ (JG.tap ?_); clear hK hE K E τ d; try walk_nrm)
  refine JG.call (f := 102) (args := #[P0 (A id)]) rfl (by rfl) (by decide) (fun w => ?_) (fun w => ?_) ?_
  iterate 2 (focus obtain ⟨fn, h1, h2, h3⟩ : HasBody 102 := ⟨_, Try.func102, by kernel_rfl, by kernel_rfl⟩; have h4 : ¬ fn.name = "runtime.NumGoroutine" := (by simpa using h2); have h5 : ¬ fn.body = none := (by intro e; rw [e] at h3; cases h3); simp [go_sem, execOp, Act.eval, resolve, Deferred.ofValue, invoke, callFunc, h1, h4, h5])
  refine iload_J hv ?_
  rw [Frame.finish_at]
  walk_nrm
  have a5 : x.cell? (th ab 5) = some (.int .i64 0) := cell_obj hab 5
  have f5 : x.frozen? (th ab 5) = false := frozen_obj hab 5
  repeat first | refine JG.seq ?_ | refine JG.skip ?_ | refine JG.inBlock ?_ | refine JG.block ?_ | refine JG.done ?_ | refine JG.label ?_ | refine JG.condT rfl ?_ | refine JG.condF rfl ?_ | (refine JG.region ?_; simp only [List.size_toArray, List.length_cons, List.length_nil, Nat.reduceAdd, Nat.zero_add, List.range, List.range.loop]) | (refine JG.unwanted rfl (by rfl) ?_; try walk_nrm) | (refine jgo rfl rfl (by rfl) (by decide) (fun K E hK hE τ d => ?_); go_simp; refine hK _ _ (JG.tap ?_); clear hK hE K E τ d; try walk_nrm)
  refine jgo rfl rfl (by rfl) (by decide) (fun K E hK hE τ d => ?_)
  obtain ⟨hfact, hfact2⟩ := And.intro a5 f5
  replace hfact := (under_cell _ τ d _).trans hfact
  replace hfact2 := (under_frozen _ τ d _).trans hfact2
  go_simp
  refine hK _ _ ?_
  rw [under_setCell]
  refine JG.tap ?_
  clear hfact hfact2 hK hE K E τ d
  try walk_nrm
  clear a5 f5
  have z0 : (x.setCell (th ab 5) (.int .i64 was)).cell? (th tb 0) = some (P0 rb) := cell_setCell_ne (by simp [th]) h0
  have zr := (heap_set_ne (w := x) (k := 5) (v := .int .i64 was) gra).trans hr
  have za : (x.setCell (th ab 5) (.int .i64 was)).heap[ab]? = some (.cells (accV ⟨num, 4, -1, arg, 0, was, 0, false⟩).toArray 172 (0, 0)) := by
    rw [heap_set_self hab]; rfl
  have zL := own_heap (w' := x.setCell (th ab 5) (.int .i64 was)) hL (fun g e => heap_set_ne (fun z => hLa (z ▸ e)))
  have zs := size_set x (th ab 5) (.int .i64 was)
  have zo : ∀ r, r ≠ ab → (x.setCell (th ab 5) (.int .i64 was)).heap[r]? = x.heap[r]? := fun r h => heap_set_ne h
  have zM := hM.heap (zo mb gma)
  have zca := (zo _ hia).trans hca
  have zv : (x.setCell (th ab 5) (.int .i64 was)).cell? (th (A id) 0) = some (.int .i64 was) := cell_setCell_ne (by simp [th]) hv
  have znm : ∀ c ∈ names, RowAt (x.setCell (th ab 5) (.int .i64 was)) (A c) ∧ (A c = A id → c = id) := fun c hc => by
    obtain ⟨⟨ca, ta, e⟩, h2⟩ := hnm c hc
    exact ⟨⟨ca, ta, (zo _ (hab' c hc)).trans e⟩, h2⟩
  generalize x.setCell (th ab 5) (.int .i64 was) = z at z0 zr za zL zs zo zM zca zv znm ⊢
  clear hr hab hL hM h0
  have zf : z.frozen? (th (A id) 0) = false := frozen_obj zca 0
  replace zo := Lib.hid zo
  replace zs := Lib.hid zs
  replace znm := Lib.hid znm
  replace hnm := Lib.hid hnm
  replace hab' := Lib.hid hab'
  repeat first | refine JG.seq ?_ | refine JG.skip ?_ | refine JG.inBlock ?_ | refine JG.block ?_ | refine JG.done ?_ | refine JG.label ?_ | refine JG.condT rfl ?_ | refine JG.condF rfl ?_ | (refine JG.region ?_; simp only [List.size_toArray, List.length_cons, List.length_nil, Nat.reduceAdd, Nat.zero_add, List.range, List.range.loop]) | (refine JG.unwanted rfl (by rfl) ?_; try walk_nrm) | (refine jgo rfl rfl (by rfl) (by decide) (fun K E hK hE τ d => ?_); go_simp; refine hK _ _ (JG.tap ?_); clear hK hE K E τ d; try walk_nrm)
  refine JG.call (f := 124) (args := #[P0 (A id), .int .i64 arg]) rfl (by rfl) (by decide) (fun w => ?_) (fun w => ?_) ?_
  iterate 2 (focus obtain ⟨fn, h1, h2, h3⟩ : HasBody 124 := ⟨_, Try.func124, by kernel_rfl, by kernel_rfl⟩; have h4 : ¬ fn.name = "runtime.NumGoroutine" := (by simpa using h2); have h5 : ¬ fn.body = none := (by intro e; rw [e] at h3; cases h3); simp [go_sem, execOp, Act.eval, resolve, Deferred.ofValue, invoke, callFunc, h1, h4, h5])
  refine iadd_J zv zf ?_
  rw [Frame.finish_at]
  walk_nrm
  have wr := (heap_set_ne (w := z) (k := 0) (v := .int .i64 (wrap64 (was + arg))) (fun e => hir e.symm)).trans zr
  have wa := (heap_set_ne (w := z) (k := 0) (v := .int .i64 (wrap64 (was + arg))) (fun e => hia e.symm)).trans za
  have wL := own_heap (w' := z.setCell (th (A id) 0) (.int .i64 (wrap64 (was + arg)))) zL (fun g e => heap_set_ne (fun z => hLi (z ▸ e)))
  have ws := size_set z (th (A id) 0) (.int .i64 (wrap64 (was + arg)))
  have wo : ∀ r, r ≠ A id → (z.setCell (th (A id) 0) (.int .i64 (wrap64 (was + arg)))).heap[r]? = z.heap[r]? := fun r h => heap_set_ne h
  have wM := zM.heap (wo mb gim.symm)
  have wc : (z.setCell (th (A id) 0) (.int .i64 (wrap64 (was + arg)))).heap[A id]? = some (.cells (ca.setIfInBounds 0 (.int .i64 (wrap64 (was + arg)))) ta (0, 0)) := heap_set_self zca
  have wx : (z.setCell (th (A id) 0) (.int .i64 (wrap64 (was + arg)))).heap[A id]? = (x.setCell (th (A id) 0) (.int .i64 (wrap64 (was + arg)))).heap[A id]? := by rw [wc, heap_set_self hca]
  have w0 : (z.setCell (th (A id) 0) (.int .i64 (wrap64 (was + arg)))).cell? (th tb 0) = some (P0 rb) := (heap_cell_ne (fun e => hit e.symm)).trans z0
  have wv : (z.setCell (th (A id) 0) (.int .i64 (wrap64 (was + arg)))).cell? (th (A id) 0) = some (.int .i64 (wrap64 (was + arg))) := by
    obtain ⟨h1, _⟩ := Array.getElem?_eq_some_iff.1 ((cell_obj zca 0).symm.trans zv)
    rw [cell_obj wc, Array.getElem?_setIfInBounds_self_of_lt h1]
  have wnm : ∀ c ∈ names, RowAt (z.setCell (th (A id) 0) (.int .i64 (wrap64 (was + arg)))) (A c) ∧ (A c = A id → c = id) := fun c hc => by
    obtain ⟨⟨ca', ta', e⟩, h2⟩ := znm.out c hc
    by_cases e2 : A c = A id
    · exact ⟨⟨_, _, by rw [e2]; exact wc⟩, h2⟩
    · exact ⟨⟨ca', ta', (wo _ e2).trans e⟩, h2⟩
  generalize z.setCell (th (A id) 0) (.int .i64 (wrap64 (was + arg))) = w at wr wa wL ws wo wM wc wx w0 wv wnm ⊢
  replace wo := Lib.hid wo
  replace ws := Lib.hid ws
  replace wnm := Lib.hid wnm
  replace wx := Lib.hid wx
  repeat first | refine JG.seq ?_ | refine JG.skip ?_ | refine JG.inBlock ?_ | refine JG.block ?_ | refine JG.done ?_ | refine JG.label ?_ | refine JG.condT rfl ?_ | refine JG.condF rfl ?_ | (refine JG.region ?_; simp only [List.size_toArray, List.length_cons, List.length_nil, Nat.reduceAdd, Nat.zero_add, List.range, List.range.loop]) | (refine JG.unwanted rfl (by rfl) ?_; try walk_nrm) | (refine jgo rfl rfl (by rfl) (by decide) (fun K E hK hE τ d => ?_); go_simp; refine hK _ _ (JG.tap ?_); clear hK hE K E τ d; try walk_nrm)
  refine hend (x := w) (a := ⟨num, 4, -1, arg, 0, was, wrap64 (was + arg), false⟩) w0 wr wL wa hLa hLt hLr hLm (by rw [ws.out, zs.out]; exact hN) hlen wM ⟨_, ta, wc⟩ wnm.out hab'.out hia wv fun y vL' hS => ?_
  refine h y vL' ⟨hS.obj, hS.log, ?_, hS.map, by rw [← zs.out, ← ws.out]; exact hS.size, fun r e1 e2 e3 e4 e5 e6 => by rw [hS.old r (by rw [ws.out, zs.out]; exact e1) e2 e3 e4 e6, wo.out r e5, zo.out r e3], ?_⟩
  · rcases hS.lnew with h | ⟨g, h, h'⟩
    · exact .inl h
    · exact .inr ⟨g, h, by rw [← zs.out, ← ws.out]; exact h'⟩
  · rw [hS.old _ (by rw [ws.out, zs.out]; exact (Array.getElem?_eq_some_iff.1 hca).1) hir hia gim fun e => hLi e.symm]; exact wx.out
set_option maxHeartbeats 2000000 in
theorem doCasT_J {u5 u6 u7 u8 u9 u10 u11 u12 u14 u15 u16 u17 u18 u19 u20 u21 u22 u23 u24 u25 u26 u27 u28 u29 u30 u31 u32 u33 u34 u35 u36 u37 u38 u39 u40 u41 u42 u43 u44 u45 u46 u47 u48 u49 u50 u51 u52 u53 u54 u55 u56 u57 u58 u59 u60 u61 u62 u63 u64 u65 u66 u67 u68 u69 u70 u71 u72 u73 u74 u75 u76 u77 u78 u79 u80 u81 u82 u83 u84 u85 u86 u87 u88 u89 u90 u91 u92 u93 u94 u95 u96 u97 u98 u99 u100 u101 u102 u103 u104 u105 u106 u107 u108 u109 u110 u111 u112 u113 u114 u115 u116 u117 u118 u119 u120 u121 u122 u123 u124 u125 u126 : Value} (h0 : x.cell? (th tb 0) = some (P0 rb)) (hr : x.heap[rb]? = some (.cells (runObj vT (.map (some mb)) vL vW vR vF stops) 179 (0, 0))) (hL : x.ownsRow N 172 8 vL log.length (log.flatMap accV))
    (hab : x.heap[ab]? = some (.cells (accV ⟨num, 3, -1, arg, new, 0, 0, false⟩).toArray 172 (0, 0))) (hLa : vL.ownBlock ≠ some ab) (hLt : vL.ownBlock ≠ some tb) (hLr : vL.ownBlock ≠ some rb) (hLm : vL.ownBlock ≠ some mb) (hLi : vL.ownBlock ≠ some (A id)) (hN : N ≤ x.heap.size) (hlen : log.length < 70000)
    (hM : MapAt x mb A names) (hid : RowAt x (A id)) (hnm : ∀ c ∈ names, RowAt x (A c) ∧ (A c = A id → c = id)) (hab' : ∀ c ∈ names, A c ≠ ab) (hia : A id ≠ ab) (hit : A id ≠ tb) (hir : A id ≠ rb) (hv : x.cell? (th (A id) 0) = some (.int .i64 was)) (he : was = arg)
    (h : ∀ y vL', Accessed x y rb ab mb N vT vL vL' vW vR vF stops A names id log ⟨num, 3, -1, arg, new, was, new, true⟩ → JG Try.prog Post C (G (c.finish (.tuple #[.int .i64 was, .int .i64 (new), .bool (true)])) cs) y) :
    JG Try.prog Post C (G ((base 101).at ⟨List.toArray ((P0 tb) :: (P0 (A id)) :: (.int .i8 3) :: (.int .i64 arg) :: (.int .i64 new) :: u5 :: u6 :: u7 :: u8 :: u9 :: u10 :: u11 :: u12 :: (P0 ab) :: u14 :: u15 :: u16 :: u17 :: u18 :: u19 :: u20 :: u21 :: u22 :: u23 :: u24 :: u25 :: u26 :: u27 :: u28 :: u29 :: u30 :: u31 :: u32 :: u33 :: u34 :: u35 :: u36 :: u37 :: u38 :: u39 :: u40 :: u41 :: u42 :: u43 :: u44 :: u45 :: u46 :: u47 :: u48 :: u49 :: u50 :: u51 :: u52 :: u53 :: u54 :: u55 :: u56 :: u57 :: u58 :: u59 :: u60 :: u61 :: u62 :: u63 :: u64 :: u65 :: u66 :: u67 :: u68 :: u69 :: u70 :: u71 :: u72 :: u73 :: u74 :: u75 :: u76 :: u77 :: u78 :: u79 :: u80 :: u81 :: u82 :: u83 :: u84 :: u85 :: u86 :: u87 :: u88 :: u89 :: u90 :: u91 :: u92 :: u93 :: u94 :: u95 :: u96 :: u97 :: u98 :: u99 :: u100 :: u101 :: u102 :: u103 :: u104 :: u105 :: u106 :: u107 :: u108 :: u109 :: u110 :: u111 :: u112 :: u113 :: u114 :: u115 :: u116 :: u117 :: u118 :: u119 :: u120 :: u121 :: u122 :: u123 :: u124 :: u125 :: u126 :: []), []⟩ [.code (Code.from (Try.f101.body.getD .skip) 6)]) (c :: cs)) x := by
  replace he := Lib.hid he
  have hend := @stepEnd_J Post C
  simp only [Try.f101, Option.getD_some, Code.from, Code.opsOf] at hend ⊢
  obtain ⟨ca, ta, hca⟩ := hid
  have gra : rb ≠ ab := by rintro rfl; rw [hr] at hab; simp at hab
  have gma : mb ≠ ab := by
    obtain ⟨es, cl, e, _⟩ := hM
    rintro rfl; rw [e] at hab; simp at hab
  have gim : A id ≠ mb := by
    obtain ⟨es, cl, e, _⟩ := hM
    intro z; rw [z, e] at hca; simp at hca
  repeat first | refine JG.seq ?_ | refine JG.skip ?_ | refine JG.inBlock ?_ | refine JG.block ?_ | refine JG.done ?_ | refine JG.label ?_ | refine JG.condT rfl ?_ | refine JG.condF rfl ?_ | (refine JG.region ?_; simp only [List.size_toArray, List.length_cons, List.length_nil, Nat.reduceAdd, Nat.zero_add, List.range, List.range.loop]) | (refine JG.unwanted rfl (by rfl) ?_; try walk_nrm) | (refine jgo rfl rfl (by rfl) (by decide) (fun K E hK hE τ d => ?_); go_simp; refine hK _ _ (JG.tap ?_); clear hK hE K E τ d; try walk_nrm)
  refine JG.call (f := 102) (args := #[P0 (A id)]) rfl (by rfl) (by decide) (fun w => ?_) (fun w => ?_) ?_
  iterate 2 (focus obtain ⟨fn, h1, h2, h3⟩ : HasBody 102 := ⟨_, Try.func102, by kernel_rfl, by kernel_rfl⟩; have h4 : ¬ fn.name = "runtime.NumGoroutine" := (by simpa using h2); have h5 : ¬ fn.body = none := (by intro e; rw [e] at h3; cases h3); simp [go_sem, execOp, Act.eval, resolve, Deferred.ofValue, invoke, callFunc, h1, h4, h5])
  refine iload_J hv ?_
  rw [Frame.finish_at]
  walk_nrm
  have a5 : x.cell? (th ab 5) = some (.int .i64 0) := cell_obj hab 5
  have f5 : x.frozen? (th ab 5) = false := frozen_obj hab 5
  repeat first | refine JG.seq ?_ | refine JG.skip ?_ | refine JG.inBlock ?_ | refine JG.block ?_ | refine JG.done ?_ | refine JG.label ?_ | refine JG.condT rfl ?_ | refine JG.condF rfl ?_ | (refine JG.region ?_; simp only [List.size_toArray, List.length_cons, List.length_nil, Nat.reduceAdd, Nat.zero_add, List.range, List.range.loop]) | (refine JG.unwanted rfl (by rfl) ?_; try walk_nrm) | (refine jgo rfl rfl (by rfl) (by decide) (fun K E hK hE τ d => ?_); go_simp; refine hK _ _ (JG.tap ?_); clear hK hE K E τ d; try walk_nrm)
  refine jgo rfl rfl (by rfl) (by decide) (fun K E hK hE τ d => ?_)
  obtain ⟨hfact, hfact2⟩ := And.intro a5 f5
  replace hfact := (under_cell _ τ d _).trans hfact
  replace hfact2 := (under_frozen _ τ d _).trans hfact2
  go_simp
  refine hK _ _ ?_
  rw [under_setCell]
  refine JG.tap ?_
  clear hfact hfact2 hK hE K E τ d
  try walk_nrm
  clear a5 f5
  have z0 : (x.setCell (th ab 5) (.int .i64 was)).cell? (th tb 0) = some (P0 rb) := cell_setCell_ne (by simp [th]) h0
  have zr := (heap_set_ne (w := x) (k := 5) (v := .int .i64 was) gra).trans hr
  have za : (x.setCell (th ab 5) (.int .i64 was)).heap[ab]? = some (.cells (accV ⟨num, 3, -1, arg, new, was, 0, false⟩).toArray 172 (0, 0)) := by
    rw [heap_set_self hab]; rfl
  have zL := own_heap (w' := x.setCell (th ab 5) (.int .i64 was)) hL (fun g e => heap_set_ne (fun z => hLa (z ▸ e)))
  have zs := size_set x (th ab 5) (.int .i64 was)
  have zo : ∀ r, r ≠ ab → (x.setCell (th ab 5) (.int .i64 was)).heap[r]? = x.heap[r]? := fun r h => heap_set_ne h
  have zM := hM.heap (zo mb gma)
  have zca := (zo _ hia).trans hca
  have zv : (x.setCell (th ab 5) (.int .i64 was)).cell? (th (A id) 0) = some (.int .i64 was) := cell_setCell_ne (by simp [th]) hv
  have znm : ∀ c ∈ names, RowAt (x.setCell (th ab 5) (.int .i64 was)) (A c) ∧ (A c = A id → c = id) := fun c hc => by
    obtain ⟨⟨ca, ta, e⟩, h2⟩ := hnm c hc
    exact ⟨⟨ca, ta, (zo _ (hab' c hc)).trans e⟩, h2⟩
  generalize x.setCell (th ab 5) (.int .i64 was) = z at z0 zr za zL zs zo zM zca zv znm ⊢
  clear hr hab hL hM h0
  have zf : z.frozen? (th (A id) 0) = false := frozen_obj zca 0
  replace zo := Lib.hid zo
  replace zs := Lib.hid zs
  replace znm := Lib.hid znm
  replace hnm := Lib.hid hnm
  replace hab' := Lib.hid hab'
  repeat first | refine JG.seq ?_ | refine JG.skip ?_ | refine JG.inBlock ?_ | refine JG.block ?_ | refine JG.done ?_ | refine JG.label ?_ | refine JG.condT rfl ?_ | refine JG.condF rfl ?_ | (refine JG.region ?_; simp only [List.size_toArray, List.length_cons, List.length_nil, Nat.reduceAdd, Nat.zero_add, List.range, List.range.loop]) | (refine JG.unwanted rfl (by rfl) ?_; try walk_nrm) | (refine jgo rfl rfl (by rfl) (by decide) (fun K E hK hE τ d => ?_); go_simp; refine hK _ _ (JG.tap ?_); clear hK hE K E τ d; try walk_nrm)
  refine JG.call (f := 126) (args := #[P0 (A id), .int .i64 arg, .int .i64 new]) rfl (by rfl) (by decide) (fun w => ?_) (fun w => ?_) ?_
  iterate 2 (focus obtain ⟨fn, h1, h2, h3⟩ : HasBody 126 := ⟨_, Try.func126, by kernel_rfl, by kernel_rfl⟩; have h4 : ¬ fn.name = "runtime.NumGoroutine" := (by simpa using h2); have h5 : ¬ fn.body = none := (by intro e; rw [e] at h3; cases h3); simp [go_sem, execOp, Act.eval, resolve, Deferred.ofValue, invoke, callFunc, h1, h4, h5])
  refine icas_J zv zf ?_
  rw [Frame.finish_at]
  walk_nrm
  rw [if_pos he.out, decide_eq_true he.out]
  have wr := (heap_set_ne (w := z) (k := 0) (v := .int .i64 (new)) (fun e => hir e.symm)).trans zr
  have wa := (heap_set_ne (w := z) (k := 0) (v := .int .i64 (new)) (fun e => hia e.symm)).trans za
  have wL := own_heap (w' := z.setCell (th (A id) 0) (.int .i64 (new))) zL (fun g e => heap_set_ne (fun z => hLi (z ▸ e)))
  have ws := size_set z (th (A id) 0) (.int .i64 (new))
  have wo : ∀ r, r ≠ A id → (z.setCell (th (A id) 0) (.int .i64 (new))).heap[r]? = z.heap[r]? := fun r h => heap_set_ne h
  have wM := zM.heap (wo mb gim.symm)
  have wc : (z.setCell (th (A id) 0) (.int .i64 (new))).heap[A id]? = some (.cells (ca.setIfInBounds 0 (.int .i64 (new))) ta (0, 0)) := heap_set_self zca
  have wx : (z.setCell (th (A id) 0) (.int .i64 (new))).heap[A id]? = (x.setCell (th (A id) 0) (.int .i64 (new))).heap[A id]? := by rw [wc, heap_set_self hca]
  have w0 : (z.setCell (th (A id) 0) (.int .i64 (new))).cell? (th tb 0) = some (P0 rb) := (heap_cell_ne (fun e => hit e.symm)).trans z0
  have wv : (z.setCell (th (A id) 0) (.int .i64 (new))).cell? (th (A id) 0) = some (.int .i64 (new)) := by
    obtain ⟨h1, _⟩ := Array.getElem?_eq_some_iff.1 ((cell_obj zca 0).symm.trans zv)
    rw [cell_obj wc, Array.getElem?_setIfInBounds_self_of_lt h1]
  have wnm : ∀ c ∈ names, RowAt (z.setCell (th (A id) 0) (.int .i64 (new))) (A c) ∧ (A c = A id → c = id) := fun c hc => by
    obtain ⟨⟨ca', ta', e⟩, h2⟩ := znm.out c hc
    by_cases e2 : A c = A id
    · exact ⟨⟨_, _, by rw [e2]; exact wc⟩, h2⟩
    · exact ⟨⟨ca', ta', (wo _ e2).trans e⟩, h2⟩
  generalize z.setCell (th (A id) 0) (.int .i64 (new)) = w at wr wa wL ws wo wM wc wx w0 wv wnm ⊢
  replace wo := Lib.hid wo
  replace ws := Lib.hid ws
  replace wnm := Lib.hid wnm
  replace wx := Lib.hid wx
  have b7 : w.cell? (th ab 7) = some (.bool false) := cell_obj wa 7
  have f7 : w.frozen? (th ab 7) = false := frozen_obj wa 7
  repeat first | refine JG.seq ?_ | refine JG.skip ?_ | refine JG.inBlock ?_ | refine JG.block ?_ | refine JG.done ?_ | refine JG.label ?_ | refine JG.condT rfl ?_ | refine JG.condF rfl ?_ | (refine JG.region ?_; simp only [List.size_toArray, List.length_cons, List.length_nil, Nat.reduceAdd, Nat.zero_add, List.range, List.range.loop]) | (refine JG.unwanted rfl (by rfl) ?_; try walk_nrm) | (refine jgo rfl rfl (by rfl) (by decide) (fun K E hK hE τ d => ?_); go_simp; refine hK _ _ (JG.tap ?_); clear hK hE K E τ d; try walk_nrm)
  refine jgo rfl rfl (by rfl) (by decide) (fun K E hK hE τ d => ?_)
  obtain ⟨hfact, hfact2⟩ := And.intro b7 f7
  replace hfact := (under_cell _ τ d _).trans hfact
  replace hfact2 := (under_frozen _ τ d _).trans hfact2
  go_simp
  refine hK _ _ ?_
  rw [under_setCell]
  refine JG.tap ?_
  clear hfact hfact2 hK hE K E τ d
  try walk_nrm
  clear b7 f7
  have vr := (heap_set_ne (w := w) (k := 7) (v := .bool true) gra).trans wr
  have va : (w.setCell (th ab 7) (.bool true)).heap[ab]? = some (.cells (accV ⟨num, 3, -1, arg, new, was, 0, true⟩).toArray 172 (0, 0)) := by
    rw [heap_set_self wa]; rfl
  have vL' := own_heap (w' := w.setCell (th ab 7) (.bool true)) wL (fun g e => heap_set_ne (fun z => hLa (z ▸ e)))
  have vs := size_set w (th ab 7) (.bool true)
  have vo : ∀ r, r ≠ ab → (w.setCell (th ab 7) (.bool true)).heap[r]? = w.heap[r]? := fun r h => heap_set_ne h
  have v0 : (w.setCell (th ab 7) (.bool true)).cell? (th tb 0) = some (P0 rb) := cell_setCell_ne (by simp [th]) w0
  have vv : (w.setCell (th ab 7) (.bool true)).cell? (th (A id) 0) = some (.int .i64 (new)) := cell_setCell_ne (by simp [th]) wv
  generalize w.setCell (th ab 7) (.bool true) = v at vr va vL' vs vo v0 vv ⊢
  replace vo := Lib.hid vo
  have wM' := wM.heap (vo.out mb gma)
  have wc' := (vo.out _ hia).trans wc
  have wnm' : ∀ c ∈ names, RowAt v (A c) ∧ (A c = A id → c = id) := fun c hc => by
    obtain ⟨⟨ca', ta', e⟩, h2⟩ := wnm.out c hc
    exact ⟨⟨ca', ta', (vo.out _ (hab'.out c hc)).trans e⟩, h2⟩
  have wx' := (vo.out _ hia).trans wx.out
  replace wnm' := Lib.hid wnm'
  replace vs := Lib.hid vs
  repeat first | refine JG.seq ?_ | refine JG.skip ?_ | refine JG.inBlock ?_ | refine JG.block ?_ | refine JG.done ?_ | refine JG.label ?_ | refine JG.condT rfl ?_ | refine JG.condF rfl ?_ | (refine JG.region ?_; simp only [List.size_toArray, List.length_cons, List.length_nil, Nat.reduceAdd, Nat.zero_add, List.range, List.range.loop]) | (refine JG.unwanted rfl (by rfl) ?_; try walk_nrm) | (refine jgo rfl rfl (by rfl) (by decide) (fun K E hK hE τ d => ?_); go_simp; refine hK _ _ (JG.tap ?_); clear hK hE K E τ d; try walk_nrm)
  refine hend (x := v) (a := ⟨num, 3, -1, arg, new, was, new, true⟩) v0 vr vL' va hLa hLt hLr hLm (by rw [vs.out, ws.out, zs.out]; exact hN) hlen wM' ⟨_, ta, wc'⟩ wnm'.out hab'.out hia vv fun y vL' hS => ?_
  refine h y vL' ⟨hS.obj, hS.log, ?_, hS.map, by rw [← zs.out, ← ws.out, ← vs.out]; exact hS.size, fun r e1 e2 e3 e4 e5 e6 => by rw [hS.old r (by rw [vs.out, ws.out, zs.out]; exact e1) e2 e3 e4 e6, vo.out r e3, wo.out r e5, zo.out r e3], ?_⟩
  · rcases hS.lnew with h | ⟨g, h, h'⟩
    · exact .inl h
    · exact .inr ⟨g, h, by rw [← zs.out, ← ws.out, ← vs.out]; exact h'⟩
  · rw [hS.old _ (by rw [vs.out, ws.out, zs.out]; exact (Array.getElem?_eq_some_iff.1 hca).1) hir hia gim fun e => hLi e.symm]; exact wx'
set_option maxHeartbeats 2000000 in
theorem doCasF_J {u5 u6 u7 u8 u9 u10 u11 u12 u14 u15 u16 u17 u18 u19 u20 u21 u22 u23 u24 u25 u26 u27 u28 u29 u30 u31 u32 u33 u34 u35 u36 u37 u38 u39 u40 u41 u42 u43 u44 u45 u46 u47 u48 u49 u50 u51 u52 u53 u54 u55 u56 u57 u58 u59 u60 u61 u62 u63 u64 u65 u66 u67 u68 u69 u70 u71 u72 u73 u74 u75 u76 u77 u78 u79 u80 u81 u82 u83 u84 u85 u86 u87 u88 u89 u90 u91 u92 u93 u94 u95 u96 u97 u98 u99 u100 u101 u102 u103 u104 u105 u106 u107 u108 u109 u110 u111 u112 u113 u114 u115 u116 u117 u118 u119 u120 u121 u122 u123 u124 u125 u126 : Value} (h0 : x.cell? (th tb 0) = some (P0 rb)) (hr : x.heap[rb]? = some (.cells (runObj vT (.map (some mb)) vL vW vR vF stops) 179 (0, 0))) (hL : x.ownsRow N 172 8 vL log.length (log.flatMap accV))
    (hab : x.heap[ab]? = some (.cells (accV ⟨num, 3, -1, arg, new, 0, 0, false⟩).toArray 172 (0, 0))) (hLa : vL.ownBlock ≠ some ab) (hLt : vL.ownBlock ≠ some tb) (hLr : vL.ownBlock ≠ some rb) (hLm : vL.ownBlock ≠ some mb) (hLi : vL.ownBlock ≠ some (A id)) (hN : N ≤ x.heap.size) (hlen : log.length < 70000)
    (hM : MapAt x mb A names) (hid : RowAt x (A id)) (hnm : ∀ c ∈ names, RowAt x (A c) ∧ (A c = A id → c = id)) (hab' : ∀ c ∈ names, A c ≠ ab) (hia : A id ≠ ab) (hit : A id ≠ tb) (hir : A id ≠ rb) (hv : x.cell? (th (A id) 0) = some (.int .i64 was)) (he : was ≠ arg)
    (h : ∀ y vL', Accessed x y rb ab mb N vT vL vL' vW vR vF stops A names id log ⟨num, 3, -1, arg, new, was, was, false⟩ → JG Try.prog Post C (G (c.finish (.tuple #[.int .i64 was, .int .i64 (was), .bool (false)])) cs) y) :
    JG Try.prog Post C (G ((base 101).at ⟨List.toArray ((P0 tb) :: (P0 (A id)) :: (.int .i8 3) :: (.int .i64 arg) :: (.int .i64 new) :: u5 :: u6 :: u7 :: u8 :: u9 :: u10 :: u11 :: u12 :: (P0 ab) :: u14 :: u15 :: u16 :: u17 :: u18 :: u19 :: u20 :: u21 :: u22 :: u23 :: u24 :: u25 :: u26 :: u27 :: u28 :: u29 :: u30 :: u31 :: u32 :: u33 :: u34 :: u35 :: u36 :: u37 :: u38 :: u39 :: u40 :: u41 :: u42 :: u43 :: u44 :: u45 :: u46 :: u47 :: u48 :: u49 :: u50 :: u51 :: u52 :: u53 :: u54 :: u55 :: u56 :: u57 :: u58 :: u59 :: u60 :: u61 :: u62 :: u63 :: u64 :: u65 :: u66 :: u67 :: u68 :: u69 :: u70 :: u71 :: u72 :: u73 :: u74 :: u75 :: u76 :: u77 :: u78 :: u79 :: u80 :: u81 :: u82 :: u83 :: u84 :: u85 :: u86 :: u87 :: u88 :: u89 :: u90 :: u91 :: u92 :: u93 :: u94 :: u95 :: u96 :: u97 :: u98 :: u99 :: u100 :: u101 :: u102 :: u103 :: u104 :: u105 :: u106 :: u107 :: u108 :: u109 :: u110 :: u111 :: u112 :: u113 :: u114 :: u115 :: u116 :: u117 :: u118 :: u119 :: u120 :: u121 :: u122 :: u123 :: u124 :: u125 :: u126 :: []), []⟩ [.code (Code.from (Try.f101.body.getD .skip) 6)]) (c :: cs)) x := by
  replace he := Lib.hid he
  have hend := @stepEnd_J Post C
  simp only [Try.f101, Option.getD_some, Code.from, Code.opsOf] at hend ⊢
  obtain ⟨ca, ta, hca⟩ := hid
  have gra : rb ≠ ab := by rintro rfl; rw [hr] at hab; simp at hab
  have gma : mb ≠ ab := by
    obtain ⟨es, cl, e, _⟩ := hM
    rintro rfl; rw [e] at hab; simp at hab
  have gim : A id ≠ mb := by
    obtain ⟨es, cl, e, _⟩ := hM
    intro z; rw [z, e] at hca; simp at hca
  repeat first | refine JG.seq ?_ | refine JG.skip ?_ | refine JG.inBlock ?_ | refine JG.block ?_ | refine JG.done ?_ | refine JG.label ?_ | refine JG.condT rfl ?_ | refine JG.condF rfl ?_ | (refine JG.region ?_; simp only [List.size_toArray, List.length_cons, List.length_nil, Nat.reduceAdd, Nat.zero_add, List.range, List.range.loop]) | (refine JG.unwanted rfl (by rfl) ?_; try walk_nrm) | (refine jgo rfl rfl (by rfl) (by decide) (fun K E hK hE τ d => ?_); go_simp; refine hK _ _ (JG.tap ?_); clear hK hE K E τ d; try walk_nrm)
  refine JG.call (f := 102) (args := #[P0 (A id)]) rfl (by rfl) (by decide) (fun w => ?_) (fun w => ?_) ?_
  iterate 2 (focus obtain ⟨fn, h1, h2, h3⟩ : HasBody 102 := ⟨_, Try.func102, by kernel_rfl, by kernel_rfl⟩; have h4 : ¬ fn.name = "runtime.NumGoroutine" := (by simpa using h2); have h5 : ¬ fn.body = none := (by intro e; rw [e] at h3; cases h3); simp [go_sem, execOp, Act.eval, resolve, Deferred.ofValue, invoke, callFunc, h1, h4, h5])
  refine iload_J hv ?_
  rw [Frame.finish_at]
  walk_nrm
  have a5 : x.cell? (th ab 5) = some (.int .i64 0) := cell_obj hab 5
  have f5 : x.frozen? (th ab 5) = false := frozen_obj hab 5
  repeat first | refine JG.seq ?_ | refine JG.skip ?_ | refine JG.inBlock ?_ | refine JG.block ?_ | refine JG.done ?_ | refine JG.label ?_ | refine JG.condT rfl ?_ | refine JG.condF rfl ?_ | (refine JG.region ?_; simp only [List.size_toArray, List.length_cons, List.length_nil, Nat.reduceAdd, Nat.zero_add, List.range, List.range.loop]) | (refine JG.unwanted rfl (by rfl) ?_; try walk_nrm) | (refine jgo rfl rfl (by rfl) (by decide) (fun K E hK hE τ d => ?_); go_simp; refine hK _ _ (JG.tap ?_); clear hK hE K E τ d; try walk_nrm)
  refine jgo rfl rfl (by rfl) (by decide) (fun K E hK hE τ d => ?_)
  obtain ⟨hfact, hfact2⟩ := And.intro a5 f5
  replace hfact := (under_cell _ τ d _).trans hfact
  replace hfact2 := (under_frozen _ τ d _).trans hfact2
  go_simp
  refine hK _ _ ?_
  rw [under_setCell]
  refine JG.tap ?_
  clear hfact hfact2 hK hE K E τ d
  try walk_nrm
  clear a5 f5
  have z0 : (x.setCell (th ab 5) (.int .i64 was)).cell? (th tb 0) = some (P0 rb) := cell_setCell_ne (by simp [th]) h0
  have zr := (heap_set_ne (w := x) (k := 5) (v := .int .i64 was) gra).trans hr
  have za : (x.setCell (th ab 5) (.int .i64 was)).heap[ab]? = some (.cells (accV ⟨num, 3, -1, arg, new, was, 0, false⟩).toArray 172 (0, 0)) := by
    rw [heap_set_self hab]; rfl
  have zL := own_heap (w' := x.setCell (th ab 5) (.int .i64 was)) hL (fun g e => heap_set_ne (fun z => hLa (z ▸ e)))
  have zs := size_set x (th ab 5) (.int .i64 was)
  have zo : ∀ r, r ≠ ab → (x.setCell (th ab 5) (.int .i64 was)).heap[r]? = x.heap[r]? := fun r h => heap_set_ne h
  have zM := hM.heap (zo mb gma)
  have zca := (zo _ hia).trans hca
  have zv : (x.setCell (th ab 5) (.int .i64 was)).cell? (th (A id) 0) = some (.int .i64 was) := cell_setCell_ne (by simp [th]) hv
  have znm : ∀ c ∈ names, RowAt (x.setCell (th ab 5) (.int .i64 was)) (A c) ∧ (A c = A id → c = id) := fun c hc => by
    obtain ⟨⟨ca, ta, e⟩, h2⟩ := hnm c hc
    exact ⟨⟨ca, ta, (zo _ (hab' c hc)).trans e⟩, h2⟩
  generalize x.setCell (th ab 5) (.int .i64 was) = z at z0 zr za zL zs zo zM zca zv znm ⊢
  clear hr hab hL hM h0
  have zf : z.frozen? (th (A id) 0) = false := frozen_obj zca 0
  replace zo := Lib.hid zo
  replace zs := Lib.hid zs
  replace znm := Lib.hid znm
  replace hnm := Lib.hid hnm
  replace hab' := Lib.hid hab'
  repeat first | refine JG.seq ?_ | refine JG.skip ?_ | refine JG.inBlock ?_ | refine JG.block ?_ | refine JG.done ?_ | refine JG.label ?_ | refine JG.condT rfl ?_ | refine JG.condF rfl ?_ | (refine JG.region ?_; simp only [List.size_toArray, List.length_cons, List.length_nil, Nat.reduceAdd, Nat.zero_add, List.range, List.range.loop]) | (refine JG.unwanted rfl (by rfl) ?_; try walk_nrm) | (refine jgo rfl rfl (by rfl) (by decide) (fun K E hK hE τ d => ?_); go_simp; refine hK _ _ (JG.tap ?_); clear hK hE K E τ d; try walk_nrm)
  refine JG.call (f := 126) (args := #[P0 (A id), .int .i64 arg, .int .i64 new]) rfl (by rfl) (by decide) (fun w => ?_) (fun w => ?_) ?_
  iterate 2 (focus obtain ⟨fn, h1, h2, h3⟩ : HasBody 126 := ⟨_, Try.func126, by kernel_rfl, by kernel_rfl⟩; have h4 : ¬ fn.name = "runtime.NumGoroutine" := (by simpa using h2); have h5 : ¬ fn.body = none := (by intro e; rw [e] at h3; cases h3); simp [go_sem, execOp, Act.eval, resolve, Deferred.ofValue, invoke, callFunc, h1, h4, h5])
  refine icas_J zv zf ?_
  rw [Frame.finish_at]
  walk_nrm
  rw [if_neg he.out, decide_eq_false he.out]
  have b7 : z.cell? (th ab 7) = some (.bool false) := cell_obj za 7
  have f7 : z.frozen? (th ab 7) = false := frozen_obj za 7
  repeat first | refine JG.seq ?_ | refine JG.skip ?_ | refine JG.inBlock ?_ | refine JG.block ?_ | refine JG.done ?_ | refine JG.label ?_ | refine JG.condT rfl ?_ | refine JG.condF rfl ?_ | (refine JG.region ?_; simp only [List.size_toArray, List.length_cons, List.length_nil, Nat.reduceAdd, Nat.zero_add, List.range, List.range.loop]) | (refine JG.unwanted rfl (by rfl) ?_; try walk_nrm) | (refine jgo rfl rfl (by rfl) (by decide) (fun K E hK hE τ d => ?_); go_simp; refine hK _ _ (JG.tap ?_); clear hK hE K E τ d; try walk_nrm)
  refine jgo rfl rfl (by rfl) (by decide) (fun K E hK hE τ d => ?_)
  obtain ⟨hfact, hfact2⟩ := And.intro b7 f7
  replace hfact := (under_cell _ τ d _).trans hfact
  replace hfact2 := (under_frozen _ τ d _).trans hfact2
  go_simp
  refine hK _ _ ?_
  rw [under_setCell]
  refine JG.tap ?_
  clear hfact hfact2 hK hE K E τ d
  try walk_nrm
  clear b7 f7
  have vr := (heap_set_ne (w := z) (k := 7) (v := .bool false) gra).trans zr
  have va : (z.setCell (th ab 7) (.bool false)).heap[ab]? = some (.cells (accV ⟨num, 3, -1, arg, new, was, 0, false⟩).toArray 172 (0, 0)) := by
    rw [heap_set_self za]; rfl
  have vL' := own_heap (w' := z.setCell (th ab 7) (.bool false)) zL (fun g e => heap_set_ne (fun z => hLa (z ▸ e)))
  have vs := size_set z (th ab 7) (.bool false)
  have vo : ∀ r, r ≠ ab → (z.setCell (th ab 7) (.bool false)).heap[r]? = z.heap[r]? := fun r h => heap_set_ne h
  have v0 : (z.setCell (th ab 7) (.bool false)).cell? (th tb 0) = some (P0 rb) := cell_setCell_ne (by simp [th]) z0
  have vv : (z.setCell (th ab 7) (.bool false)).cell? (th (A id) 0) = some (.int .i64 was) := cell_setCell_ne (by simp [th]) zv
  generalize z.setCell (th ab 7) (.bool false) = v at vr va vL' vs vo v0 vv ⊢
  replace vo := Lib.hid vo
  have wM' := zM.heap (vo.out mb gma)
  have wc' := (vo.out _ hia).trans zca
  have wnm' : ∀ c ∈ names, RowAt v (A c) ∧ (A c = A id → c = id) := fun c hc => by
    obtain ⟨⟨ca', ta', e⟩, h2⟩ := znm.out c hc
    exact ⟨⟨ca', ta', (vo.out _ (hab'.out c hc)).trans e⟩, h2⟩
  replace wnm' := Lib.hid wnm'
  replace vs := Lib.hid vs
  repeat first | refine JG.seq ?_ | refine JG.skip ?_ | refine JG.inBlock ?_ | refine JG.block ?_ | refine JG.done ?_ | refine JG.label ?_ | refine JG.condT rfl ?_ | refine JG.condF rfl ?_ | (refine JG.region ?_; simp only [List.size_toArray, List.length_cons, List.length_nil, Nat.reduceAdd, Nat.zero_add, List.range, List.range.loop]) | (refine JG.unwanted rfl (by rfl) ?_; try walk_nrm) | (refine jgo rfl rfl (by rfl) (by decide) (fun K E hK hE τ d => ?_); go_simp; refine hK _ _ (JG.tap ?_); clear hK hE K E τ d; try walk_nrm)
  refine hend (x := v) (a := ⟨num, 3, -1, arg, new, was, was, false⟩) v0 vr vL' va hLa hLt hLr hLm (by rw [vs.out, zs.out]; exact hN) hlen wM' ⟨_, ta, wc'⟩ wnm'.out hab'.out hia vv fun y vL' hS => ?_
  refine h y vL' ⟨hS.obj, hS.log, ?_, hS.map, by rw [← zs.out, ← vs.out]; exact hS.size, fun r e1 e2 e3 e4 e5 e6 => by rw [hS.old r (by rw [vs.out, zs.out]; exact e1) e2 e3 e4 e6, vo.out r e3, zo.out r e3], ?_⟩
  · rcases hS.lnew with h | ⟨g, h, h'⟩
    · exact .inl h
    · exact .inr ⟨g, h, by rw [← zs.out, ← vs.out]; exact h'⟩
  · rw [set_same hca hv]
    rw [hS.old _ (by rw [vs.out, zs.out]; exact (Array.getElem?_eq_some_iff.1 hca).1) hir hia gim fun e => hLi e.symm, vo.out _ hia, zo.out _ hia]
end
end Go.Proofs.Ytecmobjiepgfjaa

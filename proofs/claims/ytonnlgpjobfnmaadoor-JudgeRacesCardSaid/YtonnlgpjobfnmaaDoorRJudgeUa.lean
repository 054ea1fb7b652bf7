/- judge.Races: the plain law of a log's races; the map of the touches' places. No conditions. -/
import Derived.Test.YtonnlgpjobfnmaaDoorRJudgeG
import Derived.Maps.OwnRows
import Derived.Maps.AppendAt
namespace Go.Proofs.YtonnlgpjobfnmaaDoor
open Go.RowKit
set_option maxRecDepth 100000

def accAt (L : List Acc) (i : Nat) : Acc := (L[i]?).getD default
theorem accAt_of {L : List Acc} {i : Nat} {a : Acc} (h : L[i]? = some a) : accAt L i = a := by unfold accAt; rw [h]; rfl
/-- Is an access a touch? -/
def touchB (x : Acc) : Bool := decide (x.op = 8) && (decide (x.new = 0) || decide (x.new = 1))
/-- The touches of y ahead of place k. -/
def slotsTo (L : List Acc) (k : Nat) (y : Int) : List Nat := (List.range k).filter fun b => touchB (accAt L b) && decide ((accAt L b).arg = y)
/-- Do the touches a and b race? -/
def hitB (L : List Acc) (a b : Nat) : Bool := (decide ((accAt L b).new = 1) || decide ((accAt L a).new = 1)) && !decide (clkAt L a (thAt L a) ≤ clkAt L b (thAt L a))
def raceAt (L : List Acc) (b : Nat) : Option (Nat × Nat) := if touchB (accAt L b) then ((slotsTo L b (accAt L b).arg).find? fun a => hitB L a b).map fun a => (a, b) else none
def racesTo (L : List Acc) (k : Nat) : List (Nat × Nat) := (List.range k).filterMap (raceAt L)
def flatR (l : List (Nat × Nat)) : List Value := l.flatMap fun p => [.int .i64 (p.1 : Nat), .int .i64 (p.2 : Nat)]
theorem flatR_len (l : List (Nat × Nat)) : (flatR l).length = l.length * 2 := by
  induction l with
  | nil => rfl
  | cons x l ih =>
    unfold flatR at ih ⊢
    simp only [List.flatMap_cons, List.length_append, ih, List.length_cons, List.length_nil]
    omega
theorem flatR_snoc (l : List (Nat × Nat)) (p : Nat × Nat) : flatR (l ++ [p]) = flatR l ++ [.int .i64 (p.1 : Nat), .int .i64 (p.2 : Nat)] := by simp [flatR]
theorem slotsTo_succ (L : List Acc) (k : Nat) (y : Int) : slotsTo L (k + 1) y = if touchB (accAt L k) && decide ((accAt L k).arg = y) then slotsTo L k y ++ [k] else slotsTo L k y := by
  unfold slotsTo
  rw [List.range_succ, List.filter_append, List.filter_cons, List.filter_nil]
  split
  · rfl
  · simp
theorem racesTo_succ (L : List Acc) (k : Nat) : racesTo L (k + 1) = racesTo L k ++ (raceAt L k).toList := by
  unfold racesTo
  rw [List.range_succ, List.filterMap_append]
  cases h : raceAt L k <;> simp [h]
theorem slotsTo_lt {L : List Acc} {k : Nat} {y : Int} {a : Nat} (h : a ∈ slotsTo L k y) : a < k := by
  unfold slotsTo at h
  simpa using (List.mem_filter.1 h).1
theorem slotsTo_len (L : List Acc) (k : Nat) (y : Int) : (slotsTo L k y).length ≤ k := by
  unfold slotsTo
  have := List.length_filter_le (fun b => touchB (accAt L b) && decide ((accAt L b).arg = y)) (List.range k)
  simpa using this
theorem racesTo_len (L : List Acc) (k : Nat) : (racesTo L k).length ≤ k := by
  unfold racesTo
  have := List.length_filterMap_le (raceAt L) (List.range k)
  simpa using this
/-- How a list of places reads in the map. -/
def rowD (l : List Nat) : DataW Unit := if l = [] then .nil else .slice (ChangeShapes.lits .i64 (l.map (fun n : Nat => (n : Int)))) []
theorem rowD_inv {v : Value} {zs : List Int} {l : List Nat} {w : World} {base : Nat} {e : TypeId} (h : w.ownsInts base e .i64 v zs) (hd : rowDatum (H := Unit) .i64 v zs = rowD l) : zs = l.map (fun n : Nat => (n : Int)) := by
  unfold rowD at hd
  rcases h.datum (H := Unit) with ⟨h1, h2⟩ | h1
  · rw [h1] at hd
    split at hd
    · rename_i hl
      rw [h2, hl]; rfl
    · cases hd
  · rw [h1] at hd
    split at hd
    · cases hd
    · injection hd with hd
      unfold ChangeShapes.lits at hd
      exact (List.map_inj_right (fun a b hab => by injection hab with hab; injection hab)).1 hd
/-- Block M is the map of the places: so many entries at most. -/
def GrpIn (w : World) (M n : Nat) (f : Int → List Nat) : Prop :=
  ∃ D : DataW Unit, w.ownsGroups Tryd.prog 2 (M + 1) 3 .i64 M n D ∧ Maps.IsMap D ∧ ∀ x, i64in x → D.atKey (.int .i64 x) .nil = rowD (f x)
theorem GrpIn.made (w : World) : GrpIn (w.alloc (.map #[] 0)) w.heap.size 0 (fun _ => []) := ⟨_, World.ownsGroups_made _ _ _ _ _, Maps.isMap_empty, fun _ _ => rfl⟩
theorem zeroRow (w : World) : (zeroValue 27).run Tryd.prog w = .ok (.slice none 0 0) w := by kernel_rfl
theorem key_uniq : ∀ (l : List MapEntry), l.Pairwise (fun x y => x.key ≠ y.key) → ∀ x, x ∈ l → ∀ y, y ∈ l → x.key = y.key → x = y
  | [], _, x, hx, _, _, _ => by cases hx
  | a :: l, hp, x, hx, y, hy, e => by
    obtain ⟨h1, h2⟩ := List.pairwise_cons.1 hp
    rcases List.mem_cons.1 hx with hx' | hx'
    · rcases List.mem_cons.1 hy with hy' | hy'
      · rw [hx', hy']
      · exact absurd e (hx' ▸ h1 y hy')
    · rcases List.mem_cons.1 hy with hy' | hy'
      · exact absurd e.symm (hy' ▸ h1 x hx')
      · exact key_uniq l h2 x hx' y hy' e
/-- A look-up hangs on the map's block alone. -/
theorem GrpIn.same {w w' : World} {M n : Nat} {f : Int → List Nat} (h : GrpIn w M n f) (x : Int) (hx : i64in x) (hb' : w'.heap[M]? = w.heap[M]?) {v : Value} (hr : (Instr.lookup 112 (.map (some M)) (.int .i64 x) false).run Tryd.prog w = .ok v w) :
    (Instr.lookup 112 (.map (some M)) (.int .i64 x) false).run Tryd.prog w' = .ok v w' := by
  obtain ⟨D, ⟨es, clock, hb, F, _⟩, _⟩ := h
  have hp := ((MapKept.stamped_iff es clock).1 F.stamped).2.2
  have hk := Maps.keyOf_int_mk Tryd.underlying2 (a := x) (wf_i64 hx)
  have K := Maps.int_keyed Tryd.underlying2
  rcases Maps.fit_look false K Tryd.underlying112 (zeroRow w) hb F hk with ⟨h1, h2, _⟩ | ⟨e0, y0, h1, h2, h3, _⟩
  · rw [h1] at hr
    injection hr with hr
    subst hr
    rcases Maps.fit_look false K Tryd.underlying112 (zeroRow w') (hb'.trans hb) F hk with ⟨k1, k2, _⟩ | ⟨e1, y1, k1, k2, k3, _⟩
    · exact k1
    · exact absurd k2 (h2 e1 k1)
  · rw [h3] at hr
    injection hr with hr
    subst hr
    rcases Maps.fit_look false K Tryd.underlying112 (zeroRow w') (hb'.trans hb) F hk with ⟨k1, k2, _⟩ | ⟨e1, y1, k1, k2, k3, _⟩
    · exact absurd h2 (k2 e0 h1)
    · rw [k3, key_uniq _ hp e1 k1 e0 h1 (k2.trans h2.symm)]
theorem GrpIn.look {w : World} {M n : Nat} {f : Int → List Nat} (h : GrpIn w M n f) (hn : n < maxLen) (x : Int) (hx : i64in x) :
    ∃ v, (Instr.lookup 112 (.map (some M)) (.int .i64 x) false).run Tryd.prog w = .ok v w ∧ w.ownsRow (M + 1) 3 1 v (f x).length ((f x).map fun i => .int .i64 (i : Nat)) ∧ (f x).length ≤ n ∧
      ∀ (w1 : World) (v' : Value) (m : Nat), w.grownBy w1 v.ownBlock → m < 9223372036854775808 → w1.ownsRow (M + 1) 3 1 v' ((f x).length + 1) (((f x).map fun i => (.int .i64 (i : Nat) : Value)) ++ [.int .i64 (m : Nat)]) → (v'.ownBlock = v.ownBlock ∨ v'.ownBlock = some w.heap.size ∨ v'.ownBlock = some (w.heap.size + 1)) →
        ∃ w2, (Instr.mapUpdate 112 (.map (some M)) (.int .i64 x) v').run Tryd.prog w1 = .ok () w2 ∧ GrpIn w2 M (n + 1) (fun y => if y = x then f x ++ [m] else f y) ∧ w1.grownBy w2 (some M) := by
  obtain ⟨D, h1, h2, h3⟩ := h
  obtain ⟨v, zs, hr, hat, hoi, hzl, hback⟩ := h1.at (Maps.int_keyed Tryd.underlying2) Tryd.underlying112 (zeroRow w) hn (Maps.keyOf_int_mk Tryd.underlying2 (a := x) (wf_i64 hx))
  have hz := rowD_inv hoi (hat.symm.trans (h3 x hx))
  subst hz
  have e1 : (List.map (fun n : Nat => (n : Int)) (f x)).map (Value.int .i64) = (f x).map fun i => (.int .i64 (i : Nat) : Value) := by rw [List.map_map]; rfl
  refine ⟨v, hr, ?_, by simpa using hzl, fun w1 v' m hg hm hown hloc => ?_⟩
  · have := hoi.1
    rw [e1] at this
    simpa using this
  · have hown' := hoi.appended (x := (m : Int)) (v' := v') (w1 := w1) (by rw [e1]; simpa using hown) (wf_i64 ⟨by omega, by omega⟩)
    obtain ⟨w2, hr2, ho2, hg2⟩ := hback w1 v' _ hg hown' (by simp at hzl ⊢; omega) (by
      rcases hloc with h | h | h
      · exact .inl h
      · exact .inr ⟨_, h, Nat.le_refl _⟩
      · exact .inr ⟨_, h, Nat.le_succ _⟩)
    refine ⟨w2, hr2, ⟨_, ho2, ?_, fun y hy => ?_⟩, hg2⟩
    · obtain ⟨es, rfl⟩ := h2; exact ⟨_, rfl⟩
    · by_cases e : y = x
      · subst e
        show _ = rowD (if y = y then f y ++ [m] else f y)
        rw [if_pos rfl, Maps.atKey_put_same h2 (show WideAt.IsKeyLit (.int .i64 y) from trivial), hown'.datum_pos (by simp)]
        unfold rowD
        rw [if_neg (by simp)]
        simp
      · show _ = rowD (if y = x then f x ++ [m] else f y)
        rw [if_neg e, Maps.atKey_put_other (by intro h; injection h with _ h; exact e h), h3 y hy]
/-- Whatever turns no row of ints and not the map. -/
theorem GrpIn.kept {w w' : World} {M n : Nat} {f : Int → List Nat} {S : Nat → Prop} (h : GrpIn w M n f) (kk : Kept S w w') (hM : ¬ S M) (ht : ∀ q cs fr, w.heap[q]? = some (.cells cs 3 fr) → ¬ S q) : GrpIn w' M n f := by
  obtain ⟨D, h1, h2, h3⟩ := h
  refine ⟨D, ?_, h2, h3⟩
  have okept : ∀ {v : Value} {zs : List Int}, w.ownsInts (M + 1) 3 .i64 v zs → w'.ownsInts (M + 1) 3 .i64 v zs := fun {v zs} ho => by
    refine ⟨?_, ho.2⟩
    obtain ⟨hl, h2 | ⟨g, cap, cur, h3, h4, h5, h6⟩⟩ := ho.1
    · exact ⟨hl, .inl h2⟩
    · exact ⟨hl, .inr ⟨g, cap, cur, h3, h4, (kk.block g (Array.getElem?_eq_some_iff.1 h5).1 (ht g cur _ h5)).trans h5, h6⟩⟩
  obtain ⟨es, clock, hb, F, hs, rfl, hbb, hlen, hap⟩ := h1
  have hst : ∀ x ∈ es.toList, ∀ z, rowElem (H := Unit) w (M + 1) 3 .i64 x.val = some z → rowElem w' (M + 1) 3 .i64 x.val = some z := fun x _ z hz => by
    obtain ⟨zs, ho, rfl⟩ := rowElem_inv hz
    exact rowElem_mk (okept ho)
  obtain ⟨F1, hmap, _⟩ := F.stay hst
  refine ⟨es, clock, (kk.block M (Array.getElem?_eq_some_iff.1 hb).1 hM).trans hb, F1, hs, by rw [hmap], hbb, fun x hx zs ho => ?_, hap⟩
  obtain ⟨y, hy⟩ := F.reads x hx
  obtain ⟨z, hz, _⟩ := WideElems.rd_val hy
  obtain ⟨zs0, ho0, _⟩ := rowElem_inv hz
  rw [ho.unique (okept ho0)]
  exact hlen x hx zs0 ho0
theorem GrpIn.mono {w : World} {M n m : Nat} {f : Int → List Nat} (h : GrpIn w M n f) (hm : n ≤ m) : GrpIn w M m f := by
  obtain ⟨D, ⟨es, clock, hb, F, hs, h4, hbb, hlen, hap⟩, h2, h3⟩ := h
  exact ⟨D, ⟨es, clock, hb, F, Nat.le_trans hs hm, h4, hbb, fun x hx zs ho => Nat.le_trans (hlen x hx zs ho) hm, hap⟩, h2, h3⟩
theorem GrpIn.lt {w : World} {M n : Nat} {f : Int → List Nat} (h : GrpIn w M n f) : M < w.heap.size := by
  obtain ⟨D, ⟨es, clock, hb, _⟩, _⟩ := h
  exact (Array.getElem?_eq_some_iff.1 hb).1
end Go.Proofs.YtonnlgpjobfnmaaDoor

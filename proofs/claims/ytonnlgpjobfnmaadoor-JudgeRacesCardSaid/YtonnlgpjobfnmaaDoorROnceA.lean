/- Whether each task began and ended once: the answer; the map of the tasks' lives. No conditions. -/
import Derived.Test.YtonnlgpjobfnmaaDoorRRefA
import Derived.Test.YtonnlgpjobfnmaaDoorRJudgeUa
import Derived.Test.YtonnlgpjobfnmaaDoorRJudgePc
namespace Go.Proofs.YtonnlgpjobfnmaaDoor
open Go.RowKit
set_option maxRecDepth 100000
/-- Entry j is a mark of kind v of task y. -/
def mkB (L : List Acc) (y v : Int) (j : Nat) : Bool := decide ((accAt L j).op = 8) && decide ((accAt L j).arg = y) && decide ((accAt L j).new = v)
/-- The first mark of kind v of task y ahead of place k. -/
def befN (L : List Acc) (k : Nat) (y v : Int) : Option Nat := (List.range k).find? (mkB L y v)
def befV : Option Nat → Int
  | some j => j
  | none => -1
/-- Does entry i say what cannot be? -/
def errB (L : List Acc) (i : Nat) : Bool :=
  decide ((accAt L i).op = 8) &&
    ((decide ((accAt L i).new = 2) || decide ((accAt L i).new = 4)) && ((befN L i (accAt L i).arg 2).isSome || (befN L i (accAt L i).arg 4).isSome) ||
      decide ((accAt L i).new = 3) && (match befN L i (accAt L i).arg 2 with
        | none => true
        | some j => decide ((accAt L j).th ≠ (accAt L i).th) || (befN L i (accAt L i).arg 3).isSome))
def onceAns (L : List Acc) : Value :=
  if mayLog L then (match (List.range L.length).find? (errB L) with
    | some i => .tuple #[.int .i64 32, .int .i64 (i : Nat)]
    | none => .tuple #[.int .i64 0, .int .i64 0]) else .tuple #[.int .i64 31, .int .i64 0]
def OncePost (L : List Acc) (w : World) (e : Ending) (w' : World) : Prop := e = .returned (onceAns L) ∧ Below w.heap.size w w'
theorem once_no {L : List Acc} (h : mayLog L = false) : onceAns L = .tuple #[.int .i64 31, .int .i64 0] := by unfold onceAns; rw [if_neg (by rw [h]; simp)]
theorem once_hit {L : List Acc} {i : Nat} (h : mayLog L = true) (hi : i < L.length) (hn : ∀ j, j < i → errB L j = false) (he : errB L i = true) : onceAns L = .tuple #[.int .i64 32, .int .i64 (i : Nat)] := by
  unfold onceAns
  have : (List.range L.length).find? (errB L) = some i := by
    rw [List.find?_range_eq_some]
    exact ⟨he, by simpa using hi, fun a ha => by rw [hn a ha]; rfl⟩
  rw [if_pos h, this]
theorem once_miss {L : List Acc} (h : mayLog L = true) (hn : ∀ j, j < L.length → errB L j = false) : onceAns L = .tuple #[.int .i64 0, .int .i64 0] := by
  unfold onceAns
  have : (List.range L.length).find? (errB L) = none := by
    rw [List.find?_eq_none]
    intro a ha
    rw [hn a (by simpa using ha)]
    simp
  rw [if_pos h, this]
theorem befN_succ (L : List Acc) (k : Nat) (y v : Int) : befN L (k + 1) y v = (befN L k y v).or (if mkB L y v k then some k else none) := by
  unfold befN
  rw [List.range_succ, List.find?_append]
  congr 1
  rw [List.find?_cons, List.find?_nil]
  cases mkB L y v k <;> rfl
theorem befN_some {L : List Acc} {k : Nat} {y v : Int} {j : Nat} (h : befN L k y v = some j) : j < k ∧ mkB L y v j = true := by
  have h1 := List.mem_of_find?_eq_some h
  exact ⟨by simpa using h1, List.find?_some h⟩
/-- What is known of a task: who began it, whether it is over, whether it was lost. -/
structure Life where
  th : Int
  ended : Bool
  lost : Bool
def lifeN (L : List Acc) (k : Nat) (y : Int) : Option Life :=
  match befN L k y 2 with
  | some j => some ⟨(accAt L j).th, (befN L k y 3).isSome, false⟩
  | none => match befN L k y 4 with
    | some j => some ⟨(accAt L j).th, (befN L k y 3).isSome, true⟩
    | none => none
/-- Nothing ahead of place k is wrong. -/
structure OkTo (L : List Acc) (k : Nat) : Prop where
  no : ∀ j, j < k → errB L j = false
  one : ∀ y, (befN L k y 2).isSome = true → befN L k y 4 = none
  end_ : ∀ y, (befN L k y 3).isSome = true → (befN L k y 2).isSome = true
theorem OkTo.zero (L : List Acc) : OkTo L 0 := ⟨fun j h => by omega, fun y h => by simp [befN] at h, fun y h => by simp [befN] at h⟩
theorem errB_eq {L : List Acc} {k : Nat} (I : OkTo L k) (h8 : (accAt L k).op = 8) : errB L k =
    if (accAt L k).new = 2 ∨ (accAt L k).new = 4 then (lifeN L k (accAt L k).arg).isSome
    else if (accAt L k).new = 3 then (match lifeN L k (accAt L k).arg with
      | none => true
      | some l => l.lost || l.ended || decide (l.th ≠ (accAt L k).th))
    else false := by
  unfold errB lifeN
  have h1 := I.one (accAt L k).arg
  have h3 := I.end_ (accAt L k).arg
  by_cases h2 : (accAt L k).new = 2
  · rw [if_pos (.inl h2)]
    cases e2 : befN L k (accAt L k).arg 2 <;> cases e4 : befN L k (accAt L k).arg 4 <;> simp [h8, h2]
  · by_cases h4 : (accAt L k).new = 4
    · rw [if_pos (.inr h4)]
      cases e2 : befN L k (accAt L k).arg 2 <;> cases e4 : befN L k (accAt L k).arg 4 <;> simp [h8, h4]
    · rw [if_neg (by simp [h2, h4])]
      by_cases hn3 : (accAt L k).new = 3
      · rw [if_pos hn3]
        cases e2 : befN L k (accAt L k).arg 2 with
        | none => cases e4 : befN L k (accAt L k).arg 4 <;> simp [h8, hn3]
        | some j => simp [h8, hn3, Bool.or_comm]
      · rw [if_neg hn3]
        simp [h2, h4, hn3]
theorem OkTo.succ {L : List Acc} {k : Nat} (I : OkTo L k) (he : errB L k = false) : OkTo L (k + 1) := by
  refine ⟨fun j hj => ?_, fun y h => ?_, fun y h => ?_⟩
  · by_cases e : j = k
    · subst e; exact he
    · exact I.no j (by omega)
  · rw [befN_succ] at h ⊢
    by_cases hm : mkB L y 2 k = true ∨ mkB L y 4 k = true
    · have h8 : (accAt L k).op = 8 ∧ (accAt L k).arg = y ∧ ((accAt L k).new = 2 ∨ (accAt L k).new = 4) := by
        rcases hm with hm | hm <;> simp [mkB] at hm <;> simp [hm]
      rw [errB_eq I h8.1, if_pos h8.2.2, h8.2.1] at he
      unfold lifeN at he
      cases e2 : befN L k y 2 with
      | some j => rw [e2] at he; simp at he
      | none =>
        rw [e2] at he
        cases e4 : befN L k y 4 with
        | some j => rw [e4] at he; simp at he
        | none =>
          rw [e2] at h
          rcases h8.2.2 with hn | hn
          · simp [mkB, hn]
          · simp [mkB, hn] at h
    · have hm2 : mkB L y 2 k = false := by rw [← Bool.not_eq_true]; exact fun h => hm (.inl h)
      have hm4 : mkB L y 4 k = false := by rw [← Bool.not_eq_true]; exact fun h => hm (.inr h)
      rw [hm2] at h
      rw [hm4]
      simp at h
      simp [I.one y (by simpa using h)]
  · rw [befN_succ] at h ⊢
    by_cases h3 : (befN L k y 3).isSome = true
    · have := I.end_ y h3
      simp [this]
    · cases e3 : befN L k y 3 with
      | some j => rw [e3] at h3; simp at h3
      | none =>
        rw [e3] at h
        have hm : mkB L y 3 k = true := by
          rw [← Bool.not_eq_false]
          intro h'
          rw [h'] at h
          simp at h
        have h8 : (accAt L k).op = 8 ∧ (accAt L k).arg = y ∧ (accAt L k).new = 3 := by simp [mkB] at hm; simp [hm]
        rw [errB_eq I h8.1, if_neg (by rw [h8.2.2]; omega), if_pos h8.2.2, h8.2.1] at he
        unfold lifeN at he
        cases e2 : befN L k y 2 with
        | some j => simp
        | none =>
          rw [e2] at he
          cases e4 : befN L k y 4 <;> rw [e4] at he <;> simp at he
/-- How the lives change at an entry that is well. -/
theorem lifeN_succ {L : List Acc} {k : Nat} (I : OkTo L k) (he : errB L k = false) (y : Int) : lifeN L (k + 1) y =
    if (accAt L k).op = 8 ∧ (accAt L k).arg = y then
      if (accAt L k).new = 2 ∨ (accAt L k).new = 4 then some ⟨(accAt L k).th, false, decide ((accAt L k).new = 4)⟩
      else if (accAt L k).new = 3 then (lifeN L k y).map fun l => ⟨l.th, true, l.lost⟩
      else lifeN L k y
    else lifeN L k y := by
  by_cases h8 : (accAt L k).op = 8 ∧ (accAt L k).arg = y
  · rw [if_pos h8]
    have he' := he
    rw [errB_eq I h8.1, h8.2] at he'
    by_cases h24 : (accAt L k).new = 2 ∨ (accAt L k).new = 4
    · rw [if_pos h24]
      rw [if_pos h24] at he'
      have h3 := I.end_ y
      unfold lifeN at he' ⊢
      rw [befN_succ, befN_succ, befN_succ]
      cases e2 : befN L k y 2 with
      | some j => rw [e2] at he'; simp at he'
      | none =>
        rw [e2] at he' h3
        cases e4 : befN L k y 4 with
        | some j => rw [e4] at he'; simp at he'
        | none =>
          have e3 : befN L k y 3 = none := by
            cases e3 : befN L k y 3 with
            | none => rfl
            | some j => rw [e3] at h3; simp at h3
          rcases h24 with hn | hn <;> simp [e3, mkB, h8, hn]
    · rw [if_neg h24]
      rw [if_neg h24] at he'
      have h2 : mkB L y 2 k = false := by simp [mkB]; intro _ _ h; exact h24 (.inl h)
      have h4 : mkB L y 4 k = false := by simp [mkB]; intro _ _ h; exact h24 (.inr h)
      by_cases hn3 : (accAt L k).new = 3
      · rw [if_pos hn3]
        unfold lifeN
        rw [befN_succ, befN_succ, befN_succ, h2, h4]
        have hm3 : mkB L y 3 k = true := by simp [mkB, h8, hn3]
        rw [hm3]
        cases befN L k y 2 <;> cases befN L k y 4 <;> cases befN L k y 3 <;> simp
      · rw [if_neg hn3]
        have hm3 : mkB L y 3 k = false := by simp [mkB]; intro _ _ h; exact hn3 h
        unfold lifeN
        rw [befN_succ, befN_succ, befN_succ, h2, h4, hm3]
        simp
  · rw [if_neg h8]
    have hm : ∀ v, mkB L y v k = false := fun v => by
      simp [mkB]
      intro h1 h2
      exact absurd ⟨h1, h2⟩ h8
    unfold lifeN
    rw [befN_succ, befN_succ, befN_succ, hm, hm, hm]
    simp
/-! The map of the lives. -/
def lifeD (l : Life) : DataW Unit := .agg [.lit (.int .i64 l.th), .lit (.bool l.ended), .lit (.bool l.lost)]
def valL : Value → DataW Unit
  | .int k n => .lit (.int k n)
  | .bool b => .lit (.bool b)
  | _ => .nil
theorem valL_int {v : Value} {n : Int} (h : valL v = .lit (.int .i64 n)) : v = .int .i64 n := by
  cases v <;> simp [valL] at h
  obtain ⟨rfl, rfl⟩ := h
  rfl
theorem valL_bool {v : Value} {b : Bool} (h : valL v = .lit (.bool b)) : v = .bool b := by
  cases v <;> simp [valL] at h
  rw [h]
def lifeR : Value → Option (DataW Unit × List MemPlace)
  | .agg xs => some (.agg (xs.toList.map valL), [])
  | _ => none
def lifeV (l : Life) : Value := .agg #[.int .i64 l.th, .bool l.ended, .bool l.lost]
theorem lifeR_inv {v : Value} {l : Life} {ps : List MemPlace} (h : lifeR v = some (lifeD l, ps)) : v = lifeV l := by
  cases v <;> simp [lifeR] at h
  rename_i xs
  obtain ⟨h, _⟩ := h
  unfold lifeD at h
  injection h with h
  unfold lifeV
  congr 1
  apply Array.toList_inj.1
  rcases hx : xs.toList with _ | ⟨a, _ | ⟨b, _ | ⟨c, _ | ⟨d, r⟩⟩⟩⟩ <;> rw [hx] at h <;> simp at h
  obtain ⟨h1, h2, h3⟩ := h
  rw [valL_int h1, valL_bool h2, valL_bool h3]
/-- Block M is the map of the lives: so many entries at most. -/
def LifeIn (w : World) (M n : Nat) (f : Int → Option Life) : Prop :=
  ∃ D, w.ownsMap Tryd.prog 2 lifeR M n D ∧ Maps.IsMap D ∧ ∀ x zd, D.atKey (.int .i64 x) zd = match f x with | none => zd | some l => lifeD l
theorem zeroLife (w : World) : (zeroValue 116).run Tryd.prog w = .ok (lifeV ⟨0, false, false⟩) w := by kernel_rfl
theorem LifeIn.look {w : World} {M n : Nat} {f : Int → Option Life} (h : LifeIn w M n f) (x : Int) (hx : i64in x) : (Instr.lookup 114 (.map (some M)) (.int .i64 x) true).run Tryd.prog w = .ok (.tuple #[lifeV ((f x).getD ⟨0, false, false⟩), .bool (f x).isSome]) w := by
  obtain ⟨D, ⟨es, clock, hb, F, _, hD⟩, h2, h3⟩ := h
  subst hD
  rcases Maps.fit_look true (Maps.int_keyed Tryd.underlying2) Tryd.underlying114 (zeroLife w) hb F (Maps.keyOf_int_mk Tryd.underlying2 (a := x) (wf_i64 hx)) with ⟨hrun, _, hat⟩ | ⟨e0, y, _, _, hrun, hRv, hat, _⟩
  · cases e : f x with
    | none => rw [hrun]; rfl
    | some l =>
      have h4 := h3 x .nil
      rw [hat .nil, e] at h4
      cases h4
  · cases e : f x with
    | none =>
      have h4 := h3 x .nil
      have h5 := h3 x (.map [])
      rw [hat .nil, e] at h4
      rw [hat (.map []), e] at h5
      rw [h4] at h5
      cases h5
    | some l =>
      have h4 : y.1 = lifeD l := by
        have h4 := h3 x .nil
        rw [hat .nil, e] at h4
        exact h4
      have h6 : lifeR e0.val = some (lifeD l, y.2) := by rw [hRv, ← h4]
      rw [hrun, lifeR_inv h6]
      rfl
theorem LifeIn.kept {w w' : World} {M n : Nat} {f : Int → Option Life} {S : Nat → Prop} (h : LifeIn w M n f) (k : Kept S w w') (hs : ¬ S M) : LifeIn w' M n f := by
  obtain ⟨D, h1, h2, h3⟩ := h
  refine ⟨D, ?_, h2, h3⟩
  obtain ⟨es, clock, hb, rest⟩ := h1
  exact ⟨es, clock, (k.block M (Array.getElem?_eq_some_iff.1 hb).1 hs).trans hb, rest⟩
theorem LifeIn.made (w : World) : LifeIn (w.alloc (.map #[] 0)) w.heap.size 0 (fun _ => none) := ⟨_, World.ownsMap_made _ _ _ _, Maps.isMap_empty, fun _ _ => rfl⟩
theorem LifeIn.lt {w : World} {M n : Nat} {f : Int → Option Life} (h : LifeIn w M n f) : M < w.heap.size := by
  obtain ⟨D, ⟨es, clock, hb, rest⟩, _⟩ := h
  exact (Array.getElem?_eq_some_iff.1 hb).1
theorem LifeIn.mono {w : World} {M n m : Nat} {f : Int → Option Life} (h : LifeIn w M n f) (hm : n ≤ m) : LifeIn w M m f := by
  obtain ⟨D, h1, h2, h3⟩ := h
  exact ⟨D, h1.mono hm, h2, h3⟩
theorem LifeIn.put {w : World} {M n : Nat} {f : Int → Option Life} (h : LifeIn w M n f) (hn : n < maxLen) (x : Int) (hx : i64in x) (l : Life) :
    ∃ w', (Instr.mapUpdate 114 (.map (some M)) (.int .i64 x) (lifeV l)).run Tryd.prog w = .ok () w' ∧ LifeIn w' M (n + 1) (fun y => if y = x then some l else f y) ∧ w.grownBy w' (some M) := by
  obtain ⟨D, h1, h2, h3⟩ := h
  obtain ⟨w', hrun, ho, hg⟩ := h1.update (Maps.int_keyed Tryd.underlying2) Tryd.underlying114 hn (Maps.keyOf_int_mk Tryd.underlying2 (a := x) (wf_i64 hx)) (d := lifeD l) (ps := []) (val := lifeV l) rfl
  refine ⟨w', hrun, ⟨_, ho, ?_, fun y zd => ?_⟩, hg⟩
  · obtain ⟨es, rfl⟩ := h2; exact ⟨_, rfl⟩
  · by_cases e : y = x
    · subst e
      show _ = match (if y = y then some l else f y) with | none => zd | some l => lifeD l
      rw [if_pos rfl, Maps.atKey_put_same h2 (show WideAt.IsKeyLit (.int .i64 y) from trivial)]
    · show _ = match (if y = x then some l else f y) with | none => zd | some l => lifeD l
      rw [if_neg e, Maps.atKey_put_other (by intro h; injection h with _ h; exact e h), h3]
end Go.Proofs.YtonnlgpjobfnmaaDoor

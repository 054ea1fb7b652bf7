/- The order of a log's entries: plain law. No conditions. -/
import Derived.Test.YtonnlgpjobfnmaaDoorRJudgeG
namespace Go.Proofs.YtonnlgpjobfnmaaDoor
open Go.RowKit
/-- A clock of a thread or a cell. -/
def Cks.Has (s : Cks) (X : Clk) : Prop := (∃ i, X = s.th i) ∨ ∃ x, X = s.cell x
/-- Whoever has seen the entry's own count has seen all that it had seen. -/
def Dom (t : Nat) (e X : Clk) : Prop := e t ≤ X t → ∀ j, e j ≤ X j
theorem Dom.max {t : Nat} {e X Y : Clk} (h1 : Dom t e X) (h2 : Dom t e Y) : Dom t e (cmax X Y) := fun h j => by
  have h : e t ≤ Max.max (X t) (Y t) := h
  show e j ≤ Max.max (X j) (Y j)
  by_cases hx : e t ≤ X t
  · have := h1 hx j
    omega
  · have := h2 (by omega) j
    omega
theorem clkAt_own {L : List Acc} {k : Nat} {a : Acc} (h : L[k]? = some a) : clkAt L k = (cksAt (L.take k)).own a := by
  have hk : k < L.length := (List.getElem?_eq_some_iff.1 h).1
  have h1 := clocksOf_take h
  have h2 : (clocksOf L)[k]? = (clocksOf (L.take (k + 1)))[k]? := by
    have key : ∀ (l : List Acc) (s : Cks) (k n : Nat), k < n → (cksAll s l)[k]? = (cksAll s (l.take n))[k]? := by
      intro l
      induction l with
      | nil => intro s k n _; simp [cksAll]
      | cons b l ih =>
        intro s k n hn
        obtain ⟨n, rfl⟩ : ∃ m, n = m + 1 := ⟨n - 1, by omega⟩
        cases k with
        | zero => simp [cksAll]
        | succ k =>
          simp only [List.take_succ_cons, cksAll, List.getElem?_cons_succ]
          exact ih _ _ _ (by omega)
    exact key L cks0 k (k + 1) (by omega)
  have h3 : (clocksOf (L.take k)).length = k := by rw [clocksOf_len, List.length_take]; omega
  unfold clkAt
  rw [h2, h1, List.getElem?_append_right (by omega), h3, Nat.sub_self]
  rfl
structure OInv (L : List Acc) (k : Nat) : Prop where
  top : ∀ X, (cksAt (L.take k)).Has X → ∀ t, X t ≤ (cksAt (L.take k)).th t t
  ent : ∀ i, i < k → ∀ t, clkAt L i t ≤ (cksAt (L.take k)).th t t
  dom : ∀ i, i < k → ∀ X, (cksAt (L.take k)).Has X → Dom (thAt L i) (clkAt L i) X
  dome : ∀ i m, i < k → m < k → Dom (thAt L i) (clkAt L i) (clkAt L m)
  up : ∀ i m, i < m → m < k → clkAt L i (thAt L m) < clkAt L m (thAt L m)
theorem OInv.zero (L : List Acc) : OInv L 0 := by
  refine ⟨fun X hX t => ?_, fun i hi => by omega, fun i hi => by omega, fun i m hi => by omega, fun i m _ hm => by omega⟩
  rcases hX with ⟨i, rfl⟩ | ⟨x, rfl⟩ <;> exact Int.le_refl _
theorem thAt_of {L : List Acc} {k : Nat} {a : Acc} (h : L[k]? = some a) : thAt L k = a.th.toNat := by unfold thAt; rw [h]; rfl
theorem OInv.succ {L : List Acc} {k : Nat} (hk : k < L.length) (I : OInv L k) : OInv L (k + 1) := by
  obtain ⟨a, ha⟩ : ∃ a, L[k]? = some a := ⟨L[k], List.getElem?_eq_getElem hk⟩
  obtain ⟨s, hs⟩ : ∃ s, s = cksAt (L.take k) := ⟨_, rfl⟩
  obtain ⟨t, ht⟩ : ∃ t, t = a.th.toNat := ⟨_, rfl⟩
  have hN := clkAt_own ha
  have hT := thAt_of ha
  have hS := cksAt_take ha
  rw [← hs] at hN hS
  rw [← ht] at hT
  have top := I.top
  have ent := I.ent
  have dom := I.dom
  rw [← hs] at top ent dom
  obtain ⟨N, hNN⟩ : ∃ N, N = s.own a := ⟨_, rfl⟩
  rw [← hNN] at hN
  have hth : s.Has (s.th t) := .inl ⟨_, rfl⟩
  have hce : s.Has (s.cell a.cell) := .inr ⟨_, rfl⟩
  have own_le : ∀ j, s.th t j ≤ s.own0 a j ∧ s.own0 a j ≤ s.th j j ∧ (a.takes = true → s.cell a.cell j ≤ s.own0 a j) := fun j => by
    have h1 := top _ hth j
    have h2 := top _ hce j
    unfold Cks.own0 cmax
    rw [← ht]
    split
    · dsimp only
      exact ⟨by omega, by omega, fun _ => by omega⟩
    · rename_i hh
      exact ⟨Int.le_refl _, h1, fun h => absurd h hh⟩
  have own_t : s.own0 a t = s.th t t := by
    have := own_le t
    omega
  have Nt : N t = s.th t t + 1 := by
    rw [hNN]
    unfold Cks.own
    rw [← ht, if_pos rfl, own_t]
  have Nj : ∀ j, j ≠ t → N j = s.own0 a j := fun j hj => by
    rw [hNN]
    unfold Cks.own
    rw [← ht, if_neg hj]
  have N0 : ∀ j, s.own0 a j ≤ N j := fun j => by
    by_cases e : j = t
    · subst e
      rw [Nt, own_t]
      omega
    · rw [Nj j e]
      exact Int.le_refl _
  have Nle : ∀ j, j ≠ t → N j ≤ s.th j j := fun j hj => by
    rw [Nj j hj]
    exact (own_le j).2.1
  have domN : ∀ i, i < k → Dom (thAt L i) (clkAt L i) N := fun i hi h j => by
    have hle : clkAt L i j ≤ s.own0 a j := by
      by_cases e : thAt L i = t
      · have h1 := dom i hi _ hth (by rw [e]; exact ent i hi t) j
        have := (own_le j).1
        omega
      · rw [Nj _ e] at h
        have h0 := h
        unfold Cks.own0 at h
        split at h
        · rename_i htk
          have h1 := Dom.max (dom i hi _ hth) (dom i hi _ hce) (by rw [ht]; exact h) j
          unfold Cks.own0
          rw [if_pos htk, ← ht]
          exact h1
        · have h1 := dom i hi _ hth (by rw [ht]; exact h) j
          have := (own_le j).1
          omega
    have := N0 j
    omega
  have th' : ∀ i, (s.next a).th i = N ∨ (s.next a).th i = s.th i ∧ i ≠ t ∨ (s.next a).th i = cmax N N ∨ (s.next a).th i = cmax (s.th i) N ∧ i ≠ t := fun i => by
    simp only [Cks.next, ← hNN, ← ht]
    split
    · split
      · exact .inr (.inr (.inl rfl))
      · rename_i h
        exact .inr (.inr (.inr ⟨rfl, h⟩))
    · split
      · exact .inl rfl
      · rename_i h
        exact .inr (.inl ⟨rfl, h⟩)
  have has' : ∀ X, (s.next a).Has X → X = N ∨ s.Has X ∨ ∃ Y, (Y = N ∨ s.Has Y) ∧ X = cmax Y N := fun X hX => by
    rcases hX with ⟨i, rfl⟩ | ⟨x, rfl⟩
    · rcases th' i with h | ⟨h, _⟩ | h | ⟨h, _⟩
      · exact .inl h
      · exact .inr (.inl (.inl ⟨i, h⟩))
      · exact .inr (.inr ⟨N, .inl rfl, h⟩)
      · exact .inr (.inr ⟨s.th i, .inr (.inl ⟨i, rfl⟩), h⟩)
    · simp only [Cks.next, ← hNN]
      split
      · exact .inl rfl
      · exact .inr (.inl (.inr ⟨x, rfl⟩))
  have thd : ∀ u, s.th u u ≤ (s.next a).th u u ∧ N u ≤ (s.next a).th u u := fun u => by
    rcases th' u with h | ⟨h, hu⟩ | h | ⟨h, hu⟩
    · rw [h]
      refine ⟨?_, Int.le_refl _⟩
      by_cases e : u = t
      · rw [e, Nt]; omega
      · have hh : (s.next a).th u = N := h
        simp only [Cks.next, ← hNN, ← ht, if_neg e] at hh
        split at hh
        · have h2 := congrFun hh u
          have h2 : Max.max (s.th u u) (N u) = N u := h2
          omega
        · rw [hh]
          exact Int.le_refl _
    · rw [h]
      exact ⟨Int.le_refl _, Nle u hu⟩
    · rw [h]
      show s.th u u ≤ Max.max (N u) (N u) ∧ N u ≤ Max.max (N u) (N u)
      by_cases e : u = t
      · rw [e, Nt]; omega
      · refine ⟨?_, by omega⟩
        have hh : (s.next a).th u = cmax N N := h
        simp only [Cks.next, ← hNN, ← ht, if_neg e] at hh
        split at hh
        · have h2 := congrFun hh u
          have h2 : Max.max (s.th u u) (N u) = Max.max (N u) (N u) := h2
          omega
        · have h2 := congrFun hh u
          have h2 : s.th u u = Max.max (N u) (N u) := h2
          omega
    · rw [h]
      show s.th u u ≤ Max.max (s.th u u) (N u) ∧ N u ≤ Max.max (s.th u u) (N u)
      omega
  have top' : ∀ X, (s.next a).Has X → ∀ u, X u ≤ (s.next a).th u u := fun X hX u => by
    have hd := thd u
    rcases has' X hX with rfl | h | ⟨Y, hY, rfl⟩
    · exact hd.2
    · have := top X h u
      omega
    · show Max.max (Y u) (N u) ≤ _
      rcases hY with rfl | hY
      · omega
      · have := top Y hY u
        omega
  have lt_k : ∀ i, i < k + 1 → ¬ i = k → i < k := fun i h1 h2 => by omega
  refine ⟨by rw [hS]; exact top', fun i hi u => ?_, fun i hi X hX => ?_, fun i m hi hm => ?_, fun i m him hm => ?_⟩
  · rw [hS]
    have hd := thd u
    by_cases e : i = k
    · rw [e, hN]
      exact hd.2
    · have := ent i (lt_k i hi e) u
      omega
  · rw [hS] at hX
    by_cases e : i = k
    · rw [e, hN, hT]
      intro h j
      rcases has' X hX with rfl | hX' | ⟨Y, _, rfl⟩
      · exact Int.le_refl _
      · have := top X hX' t
        omega
      · show N j ≤ Max.max (Y j) (N j)
        omega
    · have hi' := lt_k i hi e
      rcases has' X hX with rfl | hX' | ⟨Y, hY, rfl⟩
      · exact domN i hi'
      · exact dom i hi' X hX'
      · refine Dom.max ?_ (domN i hi')
        rcases hY with rfl | hY
        · exact domN i hi'
        · exact dom i hi' Y hY
  · by_cases e : i = k
    · rw [e, hN, hT]
      by_cases e2 : m = k
      · rw [e2, hN]
        exact fun _ j => Int.le_refl _
      · intro h
        have := ent m (lt_k m hm e2) t
        omega
    · by_cases e2 : m = k
      · rw [e2, hN]
        exact domN i (lt_k i hi e)
      · exact I.dome i m (lt_k i hi e) (lt_k m hm e2)
  · by_cases e2 : m = k
    · rw [e2, hN, hT, Nt]
      have := ent i (by omega) t
      omega
    · exact I.up i m him (lt_k m hm e2)
theorem OInv.all (L : List Acc) : ∀ k, k ≤ L.length → OInv L k
  | 0, _ => OInv.zero L
  | k + 1, h => (OInv.all L k (by omega)).succ (by omega)
theorem aheadB_iff {L : List Acc} {i j : Nat} : aheadB L i j = true ↔ i ≠ j ∧ clkAt L i (thAt L i) ≤ clkAt L j (thAt L i) := by simp [aheadB]
theorem ahead_lt {L : List Acc} {i j : Nat} (hi : i < L.length) (_hj : j < L.length) (h : aheadB L i j = true) : i < j := by
  obtain ⟨h1, h2⟩ := aheadB_iff.1 h
  rcases Nat.lt_or_ge i j with h3 | h3
  · exact h3
  · have := (OInv.all L L.length (Nat.le_refl _)).up j i (by omega) hi
    omega
theorem ahead_same {L : List Acc} {i j : Nat} (hj : j < L.length) (hij : i < j) (ht : thAt L i = thAt L j) : aheadB L i j = true := by
  have := (OInv.all L L.length (Nat.le_refl _)).up i j hij hj
  exact aheadB_iff.2 ⟨by omega, by rw [ht]; omega⟩
theorem ahead_trans {L : List Acc} {i j k : Nat} (hi : i < L.length) (hj : j < L.length) (hk : k < L.length) (h1 : aheadB L i j = true) (h2 : aheadB L j k = true) : aheadB L i k = true := by
  have l1 := ahead_lt hi hj h1
  have l2 := ahead_lt hj hk h2
  obtain ⟨_, a1⟩ := aheadB_iff.1 h1
  obtain ⟨_, a2⟩ := aheadB_iff.1 h2
  have I := OInv.all L L.length (Nat.le_refl _)
  refine aheadB_iff.2 ⟨by omega, ?_⟩
  have := I.dome j k hj hk a2 (thAt L i)
  omega
/-- A Store is ahead of a Load of its cell that comes next. -/
theorem ahead_next {L : List Acc} {i : Nat} {a b : Acc} (ha : L[i]? = some a) (hb : L[i + 1]? = some b) (h2 : a.op = 2) (h1 : b.op = 1) (hc : a.cell = b.cell) : aheadB L i (i + 1) = true := by
  refine aheadB_iff.2 ⟨by omega, ?_⟩
  have hN := clkAt_own ha
  have hM := clkAt_own hb
  have hS := cksAt_take ha
  have hcell : (cksAt (L.take (i + 1))).cell b.cell = clkAt L i := by
    rw [hS, hN]
    simp only [Cks.next]
    rw [if_pos ⟨by simp [Acc.gives, h2], hc.symm⟩]
  rw [hM]
  have h0 : clkAt L i (thAt L i) ≤ (cksAt (L.take (i + 1))).own0 b (thAt L i) := by
    unfold Cks.own0
    rw [if_pos (by simp [Acc.takes, h1]), hcell]
    exact Int.le_max_right _ _
  unfold Cks.own
  split <;> omega
end Go.Proofs.YtonnlgpjobfnmaaDoor

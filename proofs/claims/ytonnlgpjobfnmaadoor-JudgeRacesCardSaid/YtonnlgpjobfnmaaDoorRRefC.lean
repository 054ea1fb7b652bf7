/- ref26's book: of, set. Conditions: what the book's cells hold. -/
import Derived.Test.YtonnlgpjobfnmaaDoorRRefB
namespace Go.Proofs.YtonnlgpjobfnmaaDoor
open Go.RowKit
set_option maxRecDepth 100000
/-- A list of ints that is written no more; its block is not ex. -/
def Gd (w : World) (ex : Option Nat) (x : Value) (X : List Int) : Prop :=
  ∃ a cap, x = .slice a X.length cap ∧ ∀ (i : Nat) (y : Int), X[i]? = some y → ∃ g, a = some ⟨g, 0, none⟩ ∧ ex ≠ some g ∧ (∃ cs, Blk w g 3 cs) ∧ w.cell? ⟨g, i, none⟩ = some (.int .i64 y)
theorem Gd.ints {w : World} {ex : Option Nat} {a : Option Addr} {n cap : Nat} {X : List Int} (h : Gd w ex (.slice a n cap) X) : n = X.length ∧ IntsAt w a X := by
  obtain ⟨a', cap', e, h⟩ := h
  injection e with e1 e2 e3
  subst e1
  refine ⟨e2, fun i y hy => ?_⟩
  obtain ⟨g, e, _, _, hc⟩ := h i y hy
  exact ⟨g, 0, e, by rw [Nat.zero_add]; exact hc⟩
theorem Gd.kept {S : Nat → Prop} {w w' : World} {ex ex' : Option Nat} {x : Value} {X : List Int} (h : Gd w ex x X) (k : Kept S w w') (hS : ∀ q cs, S q → Blk w q 3 cs → ex = some q) (hex : ∀ q, ex' = some q → ex = some q ∨ w.heap.size ≤ q) : Gd w' ex' x X := by
  obtain ⟨a, cap, e, h⟩ := h
  refine ⟨a, cap, e, fun i y hy => ?_⟩
  obtain ⟨g, e1, e2, ⟨cs, hB⟩, hc⟩ := h i y hy
  have hs : ¬ S g := fun hh => e2 (hS g cs hh hB)
  have hB' := k.blk hB hs
  refine ⟨g, e1, fun e3 => ?_, ⟨cs, hB'⟩, ?_⟩
  · rcases hex g e3 with he | he
    · exact e2 he
    · have := hB.lt
      omega
  · rw [hB'.cell, ← hB.cell]
    exact hc
theorem Gd.nil (w : World) (ex : Option Nat) : Gd w ex (.slice none 0 0) [] := ⟨none, 0, rfl, fun i y hy => by simp at hy⟩
theorem Gd.of_row {w : World} {base n : Nat} {ex : Option Nat} {v : Value} {X : List Int} (h : w.ownsRow base 3 1 v n (X.map fun x => .int .i64 x)) (hex : ∀ q, ex = some q → q < base) : Gd w ex v X := by
  have h0 := h
  have hl : X.length = n := by simpa using h.1
  obtain ⟨_, ⟨rfl, h2⟩ | ⟨g, cap, cur, rfl, hb, hg, _⟩⟩ := h
  · subst hl
    exact ⟨none, 0, by rw [h2], fun i y hy => by have := (List.getElem?_eq_some_iff.1 hy).1; omega⟩
  · subst hl
    refine ⟨_, cap, rfl, fun i y hy => ⟨g, rfl, fun e => ?_, ⟨cur, hg⟩, ?_⟩⟩
    · have := hex g e
      omega
    · have hi := (List.getElem?_eq_some_iff.1 hy).1
      rw [h0.cellAt i (by omega), List.getElem?_map, hy]
      rfl
def bookF (M : List (Int × List Int)) (c : Int) : List Int := ((M.find? fun p => decide (p.1 = c)).map (·.2)).getD []
def setF (M : List (Int × List Int)) (c : Int) (X : List Int) : List (Int × List Int) :=
  match M with
  | [] => [(c, X)]
  | p :: M => if p.1 = c then (p.1, X) :: M else p :: setF M c X
theorem bookF_set (M : List (Int × List Int)) (c : Int) (X : List Int) (y : Int) : bookF (setF M c X) y = if y = c then X else bookF M y := by
  induction M with
  | nil =>
    by_cases e : y = c
    · subst e; simp [setF, bookF]
    · have : ¬ c = y := fun h => e h.symm
      simp [setF, bookF, e, this]
  | cons p M ih =>
    unfold setF
    by_cases e : p.1 = c
    · rw [if_pos e]
      by_cases e2 : y = c
      · subst e2; simp [bookF, e]
      · have : ¬ p.1 = y := fun h => e2 (h ▸ e)
        simp [bookF, this, e2]
    · rw [if_neg e]
      by_cases e2 : p.1 = y
      · have : ¬ y = c := fun h => e (e2.trans h)
        simp [bookF, e2, this]
      · unfold bookF at ih ⊢
        simp only [List.find?_cons, e2, decide_false]
        exact ih
theorem setF_len (M : List (Int × List Int)) (c : Int) (X : List Int) : (setF M c X).length ≤ M.length + 1 := by
  induction M with
  | nil => simp [setF]
  | cons p M ih =>
    unfold setF
    split
    · simp
    · simpa using ih
theorem setF_at {M : List (Int × List Int)} {c : Int} (X : List Int) : ∀ (i : Nat) (p : Int × List Int), M[i]? = some p → p.1 = c → (∀ j p', j < i → M[j]? = some p' → p'.1 ≠ c) → setF M c X = M.set i (c, X) := by
  induction M with
  | nil => intro i p h; simp at h
  | cons q M ih =>
    intro i p h hc hlt
    cases i with
    | zero =>
      obtain rfl : q = p := by simpa using h
      unfold setF
      rw [if_pos hc, hc]
      rfl
    | succ i =>
      have hq := hlt 0 q (by omega) rfl
      unfold setF
      rw [if_neg hq, ih i p (by simpa using h) hc (fun j p' hj hp => hlt (j + 1) p' (by omega) (by simpa using hp))]
      rfl
theorem setF_none {M : List (Int × List Int)} {c : Int} (X : List Int) (h : ∀ (j : Nat) p', M[j]? = some p' → p'.1 ≠ c) : setF M c X = M ++ [(c, X)] := by
  induction M with
  | nil => rfl
  | cons q M ih =>
    have hq := h 0 q rfl
    unfold setF
    rw [if_neg hq, ih (fun j p' hp => h (j + 1) p' (by simpa using hp))]
    rfl
theorem bookF_at {M : List (Int × List Int)} {c : Int} {i : Nat} {p : Int × List Int} (h : M[i]? = some p) (hc : p.1 = c) (hlt : ∀ j p', j < i → M[j]? = some p' → p'.1 ≠ c) : bookF M c = p.2 := by
  have e : setF M c p.2 = M := by
    rw [setF_at p.2 i p h hc hlt, ← hc]
    apply List.ext_getElem?
    intro j
    by_cases ej : i = j
    · subst ej
      rw [List.getElem?_set_self (List.getElem?_eq_some_iff.1 h).1, h]
    · rw [List.getElem?_set_ne ej]
  have h2 := bookF_set M c p.2 c
  rw [e, if_pos rfl] at h2
  exact h2
theorem bookF_none {M : List (Int × List Int)} {c : Int} (h : ∀ (j : Nat) p', M[j]? = some p' → p'.1 ≠ c) : bookF M c = [] := by
  unfold bookF
  rw [List.find?_eq_none.2]
  · rfl
  · intro p hp
    obtain ⟨j, hj⟩ := List.getElem?_of_mem hp
    simpa using h j p hj
structure BookAt (w : World) (base bk : Nat) (vc vk : Value) (M : List (Int × List Int)) : Prop where
  blk : Blk w bk 154 #[vc, vk]
  cells : w.ownsRow base 3 1 vc M.length (M.map fun p => .int .i64 p.1)
  rows : ∃ xs, w.ownsRow base 27 1 vk M.length xs ∧ ∀ (i : Nat) p x, M[i]? = some p → xs[i]? = some x → Gd w vc.ownBlock x p.2
def OfPost (M : List (Int × List Int)) (c : Int) (ex : Option Nat) (w : World) (e : Ending) (w' : World) : Prop := ∃ x, e = .returned x ∧ Gd w ex x (bookF M c) ∧ ∃ n, w' = w.drewN n
def OfRel (M : List (Int × List Int)) (c : Int) (w0 : World) (i : Value) (wr : World) : Prop := ∃ k nd : Nat, k ≤ M.length ∧ i = .int .i64 k ∧ wr = w0.drewN nd ∧ ∀ j p', j < k → M[j]? = some p' → p'.1 ≠ c
set_option maxHeartbeats 4000000 in
theorem of_any (base bk : Nat) (vc vk : Value) (M : List (Int × List Int)) (c : Int) (hM : M.length ≤ 1000000) (w : World) (h : BookAt w base bk vc vk M) :
    Calls Tryd.prog 83 #[.pointer (some ⟨bk, 0, none⟩), .int .i64 c] w (OfPost M c vc.ownBlock w) := by
  obtain ⟨hb, hc, xs, hr, hg⟩ := h
  obtain ⟨ac, cc, rfl⟩ := row_shp hc
  obtain ⟨ak, ck, rfl⟩ := row_shp hr
  have c0 : w.cell? ⟨bk, 0, none⟩ = some (.slice ac M.length cc) := hb.cell 0
  have c1 : w.cell? ⟨bk, 1, none⟩ = some (.slice ak M.length ck) := hb.cell 1
  have HC := Lib.hid hc
  have HR := Lib.hid hr
  have HG := Lib.hid hg
  clear hb hc hr hg
  go_enter Tryd.func83, Tryd.ntmps83
  go_wp2_with fail
  go_loopw [5] (fun i wr => OfRel M c w i wr) (fun i _ => M.length - (intOf i).toNat)
  case atStart => exact ⟨0, 0, Nat.zero_le _, rfl, rfl, fun j p' hj => by omega⟩
  case round =>
    obtain ⟨k, nd, hk, rfl, rfl, hno⟩ := hrel
    have HN := Lib.hid hno
    clear hno
    by_cases hlt : k < M.length
    · have hx : decide (k < M.length) = true := by simpa using hlt
      have hxi : decide ((k : Int) < (M.length : Int)) = true := by simp; omega
      obtain ⟨p, hp⟩ : ∃ p, M[k]? = some p := ⟨M[k], List.getElem?_eq_getElem hlt⟩
      obtain ⟨gc, _, e1, _, hcc⟩ := HC.out.form (by omega)
      obtain ⟨gk, _, e2, _, hkk⟩ := HR.out.form (by omega)
      injection e1 with e1 _ e3
      injection e2 with e2 _ e4
      subst e1 e2 e3 e4
      obtain ⟨x, hx1⟩ : ∃ x, xs[k]? = some x := ⟨xs[k]'(by have := HR.out.1; omega), List.getElem?_eq_getElem _⟩
      have d0 : w.cell? ⟨gc, k, none⟩ = some (.int .i64 p.1) := by rw [HC.out.cellAt k (by omega), List.getElem?_map, hp]; rfl
      have d1 : w.cell? ⟨gk, k, none⟩ = some x := (HR.out.cellAt k (by omega)).trans hx1
      have HX := Lib.hid (HG.out k p x hp hx1)
      have HP := Lib.hid hp
      clear hp hx1
      by_cases hpc : p.1 = c
      · have hz : decide (p.1 = c) = true := by simpa using hpc
        have hz2 : (p.1 == c) = true := by simpa using hpc
        have HE := Lib.hid hpc
        clear hpc
        go_wp2_with fail
        refine bodyPost_ret (v := x) (by simp [results, Tryd.results83, go_sem]) rfl ⟨x, rfl, ?_, nd, rfl⟩
        rw [bookF_at HP.out HE.out HN.out]
        exact HX.out
      · have hz : decide (p.1 = c) = false := by simpa using hpc
        have hz2 : (p.1 == c) = false := by simpa using hpc
        have HE := Lib.hid hpc
        clear hpc
        go_wp2_with fail
        refine ⟨⟨k + 1, nd, hlt, by rw [Int.natCast_add]; rfl, rfl, fun j p' hj hp' => ?_⟩, by simp [intOf]; omega⟩
        by_cases ej : j = k
        · subst ej
          obtain rfl : p = p' := Option.some.inj (HP.out.symm.trans hp')
          exact HE.out
        · exact HN.out j p' (by omega) hp'
    · obtain rfl : k = M.length := by omega
      have hx : decide (M.length < M.length) = false := by simp
      have hxi : decide ((M.length : Int) < (M.length : Int)) = false := by simp
      go_wp2_with fail
      refine bodyPost_ret (v := .slice none 0 0) (by simp [results, Tryd.results83, go_sem]) rfl ⟨_, rfl, ?_, nd, rfl⟩
      rw [bookF_none fun j p' hp' => HN.out j p' (List.getElem?_eq_some_iff.1 hp').1 hp']
      exact Gd.nil _ _
structure SetPost (base bk : Nat) (vc vk : Value) (M : List (Int × List Int)) (c : Int) (X : List Int) (w : World) (vc' vk' : Value) (w' : World) : Prop where
  book : BookAt w' base bk vc' vk' (setF M c X)
  kept : Kept (fun q => q = bk ∨ vc.ownBlock = some q ∨ vk.ownBlock = some q) w w'
  cells : ∀ q, vc'.ownBlock = some q → vc.ownBlock = some q ∨ w.heap.size ≤ q
  rows : ∀ q, vk'.ownBlock = some q → vk.ownBlock = some q ∨ w.heap.size ≤ q
theorem BookAt.same {w w' : World} {base bk : Nat} {vc vk : Value} {M : List (Int × List Int)} (h : BookAt w base bk vc vk M) (k : Kept (fun _ => False) w w') : BookAt w' base bk vc vk M := by
  obtain ⟨h1, h2, xs, h3, h4⟩ := h
  exact ⟨k.blk h1 id, row_same h2 fun q cs _ hB => k.block q hB.lt id, xs, row_same h3 fun q cs _ hB => k.block q hB.lt id, fun i p x hp hx => (h4 i p x hp hx).kept k (fun _ _ h _ => h.elim) (fun q hq => .inl hq)⟩
/-- One place of the book's rows is laid anew. -/
theorem set_found {w : World} {base bk gk n ck i : Nat} {vc x : Value} {M : List (Int × List Int)} {c : Int} {X : List Int} {p : Int × List Int} (h : BookAt w base bk vc (.slice (some ⟨gk, 0, none⟩) n ck) M) (hg : Gd w vc.ownBlock x X) (hp : M[i]? = some p) (hc : p.1 = c) (hlt : ∀ j p', j < i → M[j]? = some p' → p'.1 ≠ c) :
    SetPost base bk vc (.slice (some ⟨gk, 0, none⟩) n ck) M c X w vc (.slice (some ⟨gk, 0, none⟩) n ck) (w.setCell ⟨gk, i, none⟩ x) := by
  obtain ⟨h1, h2, xs, h3, h4⟩ := h
  obtain ⟨_, cur, hgk⟩ := row_ty h3 gk rfl
  have kk : Kept (fun q => q = gk) w (w.setCell ⟨gk, i, none⟩ x) := Kept.set (S := fun q => q = gk) (p := ⟨gk, i, none⟩) (Kept.refl _ w) rfl x
  have hS : ∀ q cs, q = gk → Blk w q 3 cs → vc.ownBlock = some q := fun q cs e hB => by subst e; exact absurd rfl (Blk.ne_ hB hgk (by decide))
  have hn : n = M.length := by
    rcases h3.2 with ⟨e, _⟩ | ⟨g, cap, cur, e, _⟩
    · cases e
    · injection e
  subst hn
  refine ⟨?_, kk.mono fun q e => .inr (.inr (by rw [e]; rfl)), fun q hq => .inl hq, fun q hq => .inl hq⟩
  rw [setF_at X i p hp hc hlt]
  refine ⟨kk.blk h1 (Blk.ne_ h1 hgk (by decide)), ?_, xs.set i x, ?_, fun j p' y hp' hy => ?_⟩
  · have e : (M.set i (c, X)).map (fun p => Value.int .i64 p.1) = M.map fun p => Value.int .i64 p.1 := by
      rw [List.map_set]
      apply List.ext_getElem?
      intro j
      by_cases ej : i = j
      · subst ej
        rw [List.getElem?_set_self (by rw [List.length_map]; exact (List.getElem?_eq_some_iff.1 hp).1), List.getElem?_map, hp, ← hc]
        rfl
      · rw [List.getElem?_set_ne ej]
    rw [e, List.length_set]
    exact row_same h2 fun q cs _ hB => kk.block q hB.lt (Blk.ne_ hB hgk (by decide))
  · rw [List.length_set]
    exact (h3.stored i x).1
  · by_cases ej : i = j
    · subst ej
      have hl := h3.1
      have hi := (List.getElem?_eq_some_iff.1 hp).1
      rw [List.getElem?_set_self hi] at hp'
      rw [List.getElem?_set_self (by omega)] at hy
      injection hp' with hp'
      injection hy with hy
      subst hp' hy
      exact hg.kept kk hS (fun q hq => .inl hq)
    · rw [List.getElem?_set_ne ej] at hp' hy
      exact (h4 j p' y hp' hy).kept kk hS (fun q hq => .inl hq)
/-- A cell more. -/
theorem set_new {w w2 w5 : World} {o1 o2 : Obj} {base bk : Nat} {vc vk vc' vk' x : Value} {M : List (Int × List Int)} {c : Int} {X : List Int} {xs : List Value} (h1 : Blk w bk 154 #[vc, vk]) (h2 : w.ownsRow base 3 1 vc M.length (M.map fun p => .int .i64 p.1)) (h3 : w.ownsRow base 27 1 vk M.length xs)
    (h4 : ∀ (i : Nat) p x, M[i]? = some p → xs[i]? = some x → Gd w vc.ownBlock x p.2) (hg : Gd w vc.ownBlock x X) (hno : ∀ (j : Nat) p', M[j]? = some p' → p'.1 ≠ c)
    (r1 : w2.ownsRow base 3 1 vc' (M.length + 1) ((M.map fun p => .int .i64 p.1) ++ [.int .i64 c])) (r2 : (w.alloc o1).grownBy w2 vc.ownBlock) (r4 : ∀ q, vc'.ownBlock = some q → vc.ownBlock = some q ∨ (w.alloc o1).heap.size ≤ q)
    (s1 : w5.ownsRow base 27 1 vk' (M.length + 1) (xs ++ [x])) (s2 : ((w2.setCell ⟨bk, 0, none⟩ vc').alloc o2).grownBy w5 vk.ownBlock) (s4 : ∀ q, vk'.ownBlock = some q → vk.ownBlock = some q ∨ ((w2.setCell ⟨bk, 0, none⟩ vc').alloc o2).heap.size ≤ q) :
    SetPost base bk vc vk M c X w vc' vk' (w5.setCell ⟨bk, 1, none⟩ vk') := by
  have hz1 : (w.alloc o1).heap.size = w.heap.size + 1 := by simp
  have k2 : Kept (fun q => vc.ownBlock = some q) w w2 := ((Kept.refl _ w).alloc o1).trans ⟨r2.os, r2.tape, r2.output, r2.size, fun q hq hs => r2.block q hq fun e => hs e.symm⟩
  have hz2 := k2.size
  have k3 : Kept (fun q => q = bk) w2 (w2.setCell ⟨bk, 0, none⟩ vc') := Kept.set (S := fun q => q = bk) (p := ⟨bk, 0, none⟩) (Kept.refl _ w2) rfl vc'
  have hz3 : (w2.setCell ⟨bk, 0, none⟩ vc').heap.size = w2.heap.size := by simp
  have hz4 : ((w2.setCell ⟨bk, 0, none⟩ vc').alloc o2).heap.size = w2.heap.size + 1 := by simp
  have k5 : Kept (fun q => vk.ownBlock = some q) (w2.setCell ⟨bk, 0, none⟩ vc') w5 := ((Kept.refl _ _).alloc o2).trans ⟨s2.os, s2.tape, s2.output, s2.size, fun q hq hs => s2.block q hq fun e => hs e.symm⟩
  have k6 : Kept (fun q => q = bk) w5 (w5.setCell ⟨bk, 1, none⟩ vk') := Kept.set (S := fun q => q = bk) (p := ⟨bk, 1, none⟩) (Kept.refl _ w5) rfl vk'
  have kk : Kept (fun q => q = bk ∨ vc.ownBlock = some q ∨ vk.ownBlock = some q) w (w5.setCell ⟨bk, 1, none⟩ vk') :=
    (((k2.mono fun q h => .inr (.inl h)).trans (k3.mono fun q h => .inl h)).trans (k5.mono fun q h => .inr (.inr h))).trans (k6.mono fun q h => .inl h)
  have hvc := row_ty h2
  have hvk := row_ty h3
  have nbc : ∀ q, vc.ownBlock = some q → q ≠ bk := fun q hq e => by
    obtain ⟨_, cs, hB⟩ := hvc q hq
    subst e
    exact Blk.ne_ hB h1 (by decide) rfl
  have nbk : ∀ q, vk.ownBlock = some q → q ≠ bk := fun q hq e => by
    obtain ⟨_, cs, hB⟩ := hvk q hq
    subst e
    exact Blk.ne_ hB h1 (by decide) rfl
  have b2 : Blk w2 bk 154 #[vc, vk] := k2.blk h1 fun e => nbc bk e rfl
  have b3 : Blk (w2.setCell ⟨bk, 0, none⟩ vc') bk 154 #[vc', vk] := b2.set_ 0 vc'
  have b5 : Blk w5 bk 154 #[vc', vk] := k5.blk b3 fun e => nbk bk e rfl
  have b6 : Blk (w5.setCell ⟨bk, 1, none⟩ vk') bk 154 #[vc', vk'] := b5.set_ 1 vk'
  have hS : ∀ q cs, (q = bk ∨ vc.ownBlock = some q ∨ vk.ownBlock = some q) → Blk w q 3 cs → vc.ownBlock = some q := fun q cs hq hB => by
    rcases hq with e | e | e
    · subst e; exact absurd rfl (Blk.ne_ hB h1 (by decide))
    · exact e
    · obtain ⟨_, cs', hB'⟩ := hvk q e
      exact absurd rfl (Blk.ne_ hB hB' (by decide))
  have hex : ∀ q, vc'.ownBlock = some q → vc.ownBlock = some q ∨ w.heap.size ≤ q := fun q hq => by
    rcases r4 q hq with h | h
    · exact .inl h
    · exact .inr (by omega)
  refine ⟨?_, kk, hex, fun q hq => by
    rcases s4 q hq with h | h
    · exact .inl h
    · exact .inr (by omega)⟩
  rw [setF_none X hno]
  refine ⟨b6, ?_, xs ++ [x], ?_, fun j p' y hp' hy => ?_⟩
  · rw [List.length_append, List.map_append]
    refine row_same r1 fun q cs hq hB => ?_
    have hqb : q ≠ bk := Blk.ne_ hB b2 (by decide)
    have hB3 := k3.blk hB hqb
    have e1 := k3.block q hB.lt hqb
    have e2 := k5.block q hB3.lt fun e => by
      obtain ⟨_, cs', hB'⟩ := hvk q e
      have := k2.blk hB' fun e3 => by
        obtain ⟨_, cs2, hB2⟩ := hvc q e3
        exact Blk.ne_ hB' hB2 (by decide) rfl
      exact Blk.ne_ hB this (by decide) rfl
    have e3 := k6.block q (by have := hB3.lt; have := k5.size; omega) hqb
    exact e3.trans (e2.trans e1)
  · rw [List.length_append]
    exact row_same s1 fun q cs hq hB => k6.block q hB.lt (Blk.ne_ hB b5 (by decide))
  · have hl : xs.length = M.length := by have := h3.1; omega
    rcases getElem_snoc rfl hp' with ⟨hj, hp'⟩ | ⟨hj, rfl⟩
    · rw [List.getElem?_append_left (by omega)] at hy
      exact (h4 j p' y hp' hy).kept kk hS hex
    · rw [List.getElem?_append_right (by omega), hj, hl] at hy
      simp at hy
      subst hy
      exact hg.kept kk hS hex
theorem grown_blk {w w9 : World} {bg b2 n : Nat} {t e : TypeId} {cs : Array Value} {v0 : Value} {xs : List Value} {o : Obj} (hb : Blk w bg t cs) (hr : w.ownsRow b2 e 1 v0 n xs) (r2 : (w.alloc o).grownBy w9 v0.ownBlock) (hne : t ≠ e) : Blk w9 bg t cs :=
  ((r2.block bg (by simp; have := hb.lt; omega) fun ee => by
    obtain ⟨_, cs', hB'⟩ := row_ty hr bg ee.symm
    exact Blk.ne_ hb hB' hne rfl).trans (Below.heap_alloc w o bg hb.lt)).trans hb
set_option maxHeartbeats 4000000 in
theorem set_any (base bk : Nat) (vc vk x : Value) (M : List (Int × List Int)) (c : Int) (X : List Int) (hM : M.length < 1000000) (w : World) (hbase : base ≤ w.heap.size) (h : BookAt w base bk vc vk M) (hg : Gd w vc.ownBlock x X) :
    Calls Tryd.prog 84 #[.pointer (some ⟨bk, 0, none⟩), .int .i64 c, x] w (fun e w' => e = .returned (.tuple #[]) ∧ ∃ vc' vk', SetPost base bk vc vk M c X w vc' vk' w') := by
  obtain ⟨ax, cx, rfl, _⟩ := id hg
  have HBK := Lib.hid h
  have HGX := Lib.hid hg
  obtain ⟨hb, hc, xs, hr, hgs⟩ := h
  obtain ⟨ac, cc, hvc⟩ := row_shp hc
  obtain ⟨ak, ck, hvk⟩ := row_shp hr
  have c0 : w.cell? ⟨bk, 0, none⟩ = some (.slice ac M.length cc) := (hb.cell 0).trans (by rw [← hvc]; rfl)
  have c1 : w.cell? ⟨bk, 1, none⟩ = some (.slice ak M.length ck) := (hb.cell 1).trans (by rw [← hvk]; rfl)
  have f0 := hb.frozen 0
  have f1 := hb.frozen 1
  have hbl := hb.lt
  have HB := Lib.hid hb
  have HC := Lib.hid hc
  have HR := Lib.hid hr
  have HG := Lib.hid hgs
  have HVC := Lib.hid hvc
  have HVK := Lib.hid hvk
  clear hb hc hr hgs hg hvc hvk
  go_enter Tryd.func84, Tryd.ntmps84
  go_wp2_with fail
  go_loopw [6] (fun i wr => OfRel M c w i wr) (fun i _ => M.length - (intOf i).toNat)
  case atStart => exact ⟨0, 0, Nat.zero_le _, rfl, rfl, fun j p' hj => by omega⟩
  case round =>
    obtain ⟨k, nd, hk, rfl, rfl, hno⟩ := hrel
    have HN := Lib.hid hno
    clear hno
    by_cases hlt : k < M.length
    · have hx : decide (k < M.length) = true := by simpa using hlt
      have hxi : decide ((k : Int) < (M.length : Int)) = true := by simp; omega
      obtain ⟨p, hp⟩ : ∃ p, M[k]? = some p := ⟨M[k], List.getElem?_eq_getElem hlt⟩
      obtain ⟨gc, _, e1, _, hcc⟩ := HC.out.form (by omega)
      obtain ⟨gk, _, e2, _, hkk⟩ := HR.out.form (by omega)
      have e1' := HVC.out.symm.trans e1
      have e2' := HVK.out.symm.trans e2
      injection e1' with e1' _ e3
      injection e2' with e2' _ e4
      subst e1' e2'
      have HVC := Lib.hid e1
      have HVK := Lib.hid e2
      obtain ⟨y, hx1⟩ : ∃ x, xs[k]? = some x := ⟨xs[k]'(by have := HR.out.1; omega), List.getElem?_eq_getElem _⟩
      have d0 : w.cell? ⟨gc, k, none⟩ = some (.int .i64 p.1) := by have h := HC.out; rw [e1] at h; rw [h.cellAt k (by omega), List.getElem?_map, hp]; rfl
      have d1 : w.cell? ⟨gk, k, none⟩ = some y := by have h := HR.out; rw [e2] at h; exact (h.cellAt k (by omega)).trans hx1
      have f2 : w.frozen? ⟨gk, k, none⟩ = false := by have h := HR.out; rw [e2] at h; exact h.frozenAt k
      obtain ⟨ay, cy, rfl, _⟩ := HG.out k p y hp hx1
      have HP := Lib.hid hp
      clear hp hx1 e1 e2 e3 e4
      by_cases hpc : p.1 = c
      · have hz : decide (p.1 = c) = true := by simpa using hpc
        have hz2 : (p.1 == c) = true := by simpa using hpc
        have HE := Lib.hid hpc
        clear hpc
        go_wp2_with fail
        have hpost := set_found (by have h := HBK.out.same ((Kept.refl (fun _ => False) w).drewN nd); rw [HVK.out] at h; exact h) (HGX.out.kept ((Kept.refl (fun _ => False) w).drewN nd) (fun _ _ h _ => h.elim) (fun q hq => .inl hq)) HP.out HE.out HN.out
        rw [← HVK.out] at hpost
        exact bodyPost_ret (v := .tuple #[]) (results_none rfl _ _ _) rfl ⟨rfl, vc, vk, hpost.book, (((Kept.refl (fun _ => False) w).drewN nd).mono (fun _ h => h.elim)).trans hpost.kept, hpost.cells, hpost.rows⟩
      · have hz : decide (p.1 = c) = false := by simpa using hpc
        have hz2 : (p.1 == c) = false := by simpa using hpc
        have HE := Lib.hid hpc
        clear hpc
        go_wp2_with fail
        refine ⟨⟨k + 1, nd, hlt, by rw [Int.natCast_add]; rfl, rfl, fun j p' hj hp' => ?_⟩, by simp [intOf]; omega⟩
        by_cases ej : j = k
        · subst ej
          obtain rfl : p = p' := Option.some.inj (HP.out.symm.trans hp')
          exact HE.out
        · exact HN.out j p' (by omega) hp'
    · obtain rfl : k = M.length := by omega
      have hx : decide (M.length < M.length) = false := by simp
      have hxi : decide ((M.length : Int) < (M.length : Int)) = false := by simp
      obtain ⟨ji, hji, hjiz, hjis, hjib⟩ := info_parts infoMi
      obtain ⟨js, hjs, hjsz, hjss, hjsb⟩ := info_parts infoMs
      obtain rfl := HVC.out
      obtain rfl := HVK.out
      obtain ⟨w1, hw1⟩ : ∃ w1, w1 = w.drewN nd := ⟨_, rfl⟩
      rw [← hw1]
      have k1 : Kept (fun _ => False) w w1 := by rw [hw1]; exact (Kept.refl _ w).drewN nd
      have hz1 : w1.heap.size = w.heap.size := by rw [hw1]; simp
      have HC1 := Lib.hid (row_same HC.out fun q cs _ hB => k1.block q hB.lt id)
      have HR1 := Lib.hid (row_same HR.out fun q cs _ hB => k1.block q hB.lt id)
      have HB1 := Lib.hid (k1.blk HB.out id)
      have HG1 : Hid (∀ (i : Nat) p x, M[i]? = some p → xs[i]? = some x → Gd w1 (Value.slice ac M.length cc).ownBlock x p.2) := Lib.hid fun i p x hp hx => (HG.out i p x hp hx).kept k1 (fun _ _ h _ => h.elim) (fun q hq => .inl hq)
      have HGX1 := Lib.hid (HGX.out.kept k1 (fun _ _ h _ => h.elim) (fun q hq => .inl hq) (ex' := (Value.slice ac M.length cc).ownBlock))
      have K1 := Lib.hid k1
      have p0 : w1.cell? ⟨bk, 0, none⟩ = some (.slice ac M.length cc) := HB1.out.cell 0
      have p1 : w1.cell? ⟨bk, 1, none⟩ = some (.slice ak M.length ck) := HB1.out.cell 1
      have g0 := HB1.out.frozen 0
      have g1 := HB1.out.frozen 1
      have hbl1 : bk < w1.heap.size := by omega
      have hbase1 : base ≤ w1.heap.size := by omega
      have HRA := Lib.hid (HC1.out.alloc (.cells #[.int .i64 c] 3))
      clear hw1 c0 c1 f0 f1 k1 hz1
      go_upto_region 6 with (at_builtin; refine wpList_append_keep rfl _ _ 27 rfl base 3 ji _ 1 8 Tryd.underlying27 hji hjiz hjis hjib rfl (by decide) _ M.length _ rfl HRA.out ⟨w1.heap.size, 0, none⟩ 1 1 [.int .i64 c] rfl rfl (World.news_of_block (heap_alloc_new _ _)) (by simp [Value.oneCell']) (by unfold maxLen; omega) (by omega) (by simp; omega) ?_; intro vc' w2 r1 r2 r3 r4 r5; obtain ⟨gv, capv, rfl, _, _⟩ := r1.form (by omega); have S1 := Lib.hid r1; have S2 := Lib.hid r2; have S4 := Lib.hid r4; have hB2 := grown_blk HB1.out HC1.out r2 (by decide); have HB2 := Lib.hid hB2; have q0 : w2.cell? ⟨bk, 0, none⟩ = some (.slice ac M.length cc) := HB2.out.cell 0; have q1 : w2.cell? ⟨bk, 1, none⟩ = some (.slice ak M.length ck) := HB2.out.cell 1; have e0 := HB2.out.frozen 0; have e1 := HB2.out.frozen 1; have hbl2 := HB2.out.lt; clear r1 r2 r3 r4 r5 hB2)
      clear p0 p1 g0 g1
      obtain ⟨w3, hw3⟩ : ∃ w3, w3 = w2.setCell ⟨bk, 0, none⟩ (.slice (some ⟨gv, 0, none⟩) (M.length + 1) capv) := ⟨_, rfl⟩
      have HB3 : Hid (Blk w3 bk 154 #[.slice (some ⟨gv, 0, none⟩) (M.length + 1) capv, .slice ak M.length ck]) := Lib.hid (by rw [hw3]; exact HB2.out.set_ 0 _)
      have HR3 : Hid (w3.ownsRow base 27 1 (.slice ak M.length ck) M.length xs) := Lib.hid (row_same HR1.out fun q cs _ hB => by
        have e1 := grown_blk hB HC1.out S2.out (by decide)
        rw [hw3]
        exact ((Below.heap_setCell w2 ⟨bk, 0, none⟩ _ q (Blk.ne_ e1 HB2.out (by decide))).trans e1).trans hB.symm)
      have hz3 : w3.heap.size = w2.heap.size := by rw [hw3]; simp
      have hz2 : w1.heap.size ≤ w2.heap.size := by have := S2.out.size; simp at this; omega
      have hbase3 : base ≤ w3.heap.size := by omega
      rw [← hw3]
      have HW3 := Lib.hid hw3
      clear hw3 hz3 q0 q1 e0 e1
      have p0 : w3.cell? ⟨bk, 0, none⟩ = some (.slice (some ⟨gv, 0, none⟩) (M.length + 1) capv) := HB3.out.cell 0
      have p1 : w3.cell? ⟨bk, 1, none⟩ = some (.slice ak M.length ck) := HB3.out.cell 1
      have g1 := HB3.out.frozen 1
      have hbl3 := HB3.out.lt
      have HRB := Lib.hid (HR3.out.alloc (.cells #[.slice ax X.length cx] 27))
      go_wp2_with (at_builtin; refine wpList_append_keep rfl _ _ 36 rfl base 27 js _ 1 24 Tryd.underlying36 hjs hjsz hjss hjsb rfl (by decide) _ M.length _ rfl HRB.out ⟨w3.heap.size, 0, none⟩ 1 1 [.slice ax X.length cx] rfl rfl (World.news_of_block (heap_alloc_new _ _)) (by simp [Value.oneCell']) (by unfold maxLen; omega) (by omega) (by simp; omega) ?_; intro vk' w5 r1 r2 r3 r4 r5; obtain ⟨gw, capw, rfl, _, _⟩ := r1.form (by omega); have T1 := Lib.hid r1; have T2 := Lib.hid r2; have T4 := Lib.hid r4; have hB5 := grown_blk HB3.out HR3.out r2 (by decide); have HB5 := Lib.hid hB5; have q1 : w5.cell? ⟨bk, 1, none⟩ = some (.slice ak M.length ck) := HB5.out.cell 1; have e1 := HB5.out.frozen 1; have hbl5 := HB5.out.lt; clear r1 r2 r3 r4 r5 hB5)
      have t2 := T2.out
      have t4 := T4.out
      rw [HW3.out] at t2 t4
      have hpost := set_new (x := .slice ax X.length cx) (X := X) (c := c) HB1.out HC1.out HR1.out HG1.out HGX1.out (fun j p' hp' => HN.out j p' (List.getElem?_eq_some_iff.1 hp').1 hp') S1.out S2.out S4.out T1.out t2 t4
      exact bodyPost_end (results_none rfl _ _ _) rfl ⟨rfl, _, _, hpost.book, (K1.out.mono (fun _ h => h.elim)).trans hpost.kept, fun q hq => (hpost.cells q hq).imp id (fun h => Nat.le_trans K1.out.size h), fun q hq => (hpost.rows q hq).imp id (fun h => Nat.le_trans K1.out.size h)⟩
end Go.Proofs.YtonnlgpjobfnmaaDoor

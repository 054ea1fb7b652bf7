/- The law JudgeFinds' begin, tidy and CopyCalls. Conditions: what the slice's cells hold. -/
import Derived.Test.YtonnlgpjobfnmaaDoorRFindA
import Derived.Test.YtonnlgpjobfnmaaDoorRJudgeY
namespace Go.Proofs.YtonnlgpjobfnmaaDoor
open Go.RowKit
set_option maxRecDepth 100000
/-- A list of numbers in a block of the call's own, at any place in it. -/
def OwnTh (w : World) (base : Nat) (v : Value) (hs : List Int) : Prop :=
  (∀ x, x ∈ hs → i64of x) ∧ ((v = .slice none 0 0 ∧ hs = []) ∨ ∃ g off cap cs, v = .slice (some ⟨g, off, none⟩) hs.length cap ∧ base ≤ g ∧ w.heap[g]? = some (.cells cs 2 (0, 0)) ∧ hs.length ≤ cap ∧ cap ≤ maxLen ∧ off + cap ≤ cs.size ∧ ∀ i x, hs[i]? = some x → cs[off + i]? = some (.int .i64 x))
theorem OwnTh.kept {w w' : World} {base : Nat} {v : Value} {hs : List Int} {S : Nat → Prop} (h : OwnTh w base v hs) (k : Kept S w w') (hS : ∀ g cs, w.heap[g]? = some (.cells cs 2 (0, 0)) → base ≤ g → ¬ S g) : OwnTh w' base v hs := by
  obtain ⟨h1, h2 | ⟨g, off, cap, cs, hv, hb, hc, h3, h4, h5, h6⟩⟩ := h
  · exact ⟨h1, .inl h2⟩
  · exact ⟨h1, .inr ⟨g, off, cap, cs, hv, hb, (k.block g (Array.getElem?_eq_some_iff.1 hc).1 (hS g cs hc hb)).trans hc, h3, h4, h5, h6⟩⟩
def BeginPost (k : Int) (w : World) (e : Ending) (w' : World) : Prop := ∃ v, e = .returned v ∧ OwnTh w' w.heap.size v (begins k) ∧ Below w.heap.size w w'
set_option maxHeartbeats 400000 in
theorem begin_any (k : Int) (hk : 1 ≤ k ∧ k ≤ 4) (w : World) : Calls Tryd.prog 19 #[.int .i64 k] w (BeginPost k w) := by
  have HK := Lib.hid hk
  have hcase : (k = 1 ∨ k = 2) ∨ ((k == 1) = false ∧ (k == 2) = false) := by simp; omega
  clear hk
  rcases hcase with hc | ⟨h1, h2⟩
  · have hb : begins k = [] := by unfold begins; rw [if_pos (by omega)]
    rcases hc with rfl | rfl
    all_goals
      go_enter Tryd.func19, Tryd.ntmps19
      go_wp2_with fail
      go_ret
      exact ⟨_, rfl, by rw [hb]; exact ⟨by simp, .inl ⟨rfl, rfl⟩⟩, Below.refl _ _⟩
  · have hb : begins k = [0] := by
      have := HK.out
      simp only [beq_eq_false_iff_ne, ne_eq] at h1 h2
      unfold begins; rw [if_neg (by omega)]
    go_enter Tryd.func19, Tryd.ntmps19
    go_wp2_with fail
    go_ret
    refine ⟨_, rfl, ?_, one_below' _⟩
    rw [hb]
    refine ⟨by simp [i64of], .inr ⟨w.heap.size, 0, 1, #[.int .i64 0], rfl, Nat.le_refl _, heap_alloc_new w _, Nat.le_refl _, by unfold maxLen; omega, Nat.le_refl _, fun i x hx => ?_⟩⟩
    cases i with
    | zero =>
      simp only [List.getElem?_cons_zero, Option.some.injEq] at hx
      subst hx
      rfl
    | succ i => simp at hx
theorem call_cells {w : World} {B : Nat} {ad : Addr} {L : List Cal} (h : CallsAt w B (some ad) L) (j : Nat) (u : Value) (hu : (L.flatMap calL)[j]? = some u) : w.cell? (ad.add j) = some u := by
  have hj : j < L.length * 7 := by rw [← flatMap_len calL_len]; exact (List.getElem?_eq_some_iff.1 hu).1
  obtain ⟨i, k, rfl, hk⟩ : ∃ i k, j = i * 7 + k ∧ k < 7 := ⟨j / 7, j % 7, by omega, by omega⟩
  obtain ⟨a, ha⟩ : ∃ a, L[i]? = some a := ⟨L[i]'(by omega), List.getElem?_eq_getElem (by omega)⟩
  rw [flatMap_at calL_len L i k a ha hk] at hu
  obtain ⟨g, off, e, _, hA⟩ := h.at_ i a ha
  injection e with e
  subst e
  have hadd : (⟨g, off, none⟩ : Addr).add (i * 7 + k) = ⟨g, off + i * 7 + k, none⟩ := by simp [Addr.add, Nat.add_assoc]
  rw [hadd]
  obtain ⟨h0, h1, h2, h3, h4, h5, h6⟩ := hA
  match k, hk, hu with
  | 0, _, hu => rw [← hu]; exact h0
  | 1, _, hu => rw [← hu]; exact h1
  | 2, _, hu => rw [← hu]; exact h2
  | 3, _, hu => rw [← hu]; exact h3
  | 4, _, hu => rw [← hu]; exact h4
  | 5, _, hu => rw [← hu]; exact h5
  | 6, _, hu => rw [← hu]; exact h6
theorem infoCal : (Tryd.prog.info? 58).map (fun i => (i.zero, i.size, i.bytes)) = some (some (.agg #[.int .i8 0, .int .i64 0, .int .i64 0, .int .i64 0, .bool false, .int .i64 0, .int .i64 0]), 7, 56) := by kernel_rfl
theorem cals_own {w : World} {base n : Nat} {v : Value} {L : List Cal} (h : w.ownsRow base 58 7 v n (L.flatMap calL)) (hn : n = L.length) (hwf : ∀ a, a ∈ L → a.wf) : ∃ b cap, v = .slice b L.length cap ∧ L.length ≤ cap ∧ CallsAt w w.heap.size b L ∧ ∀ g off, b = some ⟨g, off, none⟩ → base ≤ g ∧ g < w.heap.size := by
  subst hn
  have h0 := h
  obtain ⟨_, ⟨rfl, h2⟩ | ⟨g, cap, cur, rfl, hb, hc, hk, _⟩⟩ := h
  · refine ⟨none, 0, by rw [h2], by omega, ⟨hwf, fun i a ha => ?_⟩, fun g off e => by cases e⟩
    have : L = [] := List.eq_nil_of_length_eq_zero h2
    subst this
    simp at ha
  · refine ⟨_, cap, rfl, hk, callsAt_row (fun j u hu => by rw [h0.cellAt j (by rw [← flatMap_len calL_len]; exact (List.getElem?_eq_some_iff.1 hu).1), hu]) (Array.getElem?_eq_some_iff.1 hc).1 hwf, fun g' off' e => ?_⟩
    injection e with e
    injection e with e
    subst e
    exact ⟨hb, (Array.getElem?_eq_some_iff.1 hc).1⟩
theorem cal_one (L : List Cal) : ∀ u ∈ L.flatMap calL, u.oneCell' = true := by
  intro u hu
  obtain ⟨a, _, hu⟩ := List.mem_flatMap.1 hu
  simp only [calL, List.mem_cons, List.not_mem_nil, or_false] at hu
  rcases hu with rfl | rfl | rfl | rfl | rfl | rfl | rfl <;> rfl
def CopyCPost (L : List Cal) (w : World) (e : Ending) (w' : World) : Prop := ∃ b cap, e = .returned (.slice b L.length cap) ∧ L.length ≤ cap ∧ CallsAt w' w'.heap.size b L ∧ (∀ g off, b = some ⟨g, off, none⟩ → w.heap.size ≤ g ∧ g < w'.heap.size) ∧ Below w.heap.size w w'
set_option maxHeartbeats 1000000 in
theorem copyC_any (b : Option Addr) (cap : Nat) (L : List Cal) (hl : L.length ≤ 1000000) (w : World) (h : CallsAt w w.heap.size b L) : Calls Tryd.prog 22 #[.slice b L.length cap] w (CopyCPost L w) := by
  obtain ⟨j0, hj0, hjz0, hjz1, hjz2⟩ := info_parts infoCal
  have H := Lib.hid h
  have hwf := Lib.hid h.wf
  clear h
  cases b with
  | some ad =>
    go_enter Tryd.func22, Tryd.ntmps22
    go_wp2_with (at_builtin; refine wpList_append_own _ rfl _ _ 22 rfl w.heap.size 58 j0 _ 7 56 Tryd.underlying22 hj0 hjz0 hjz1 hjz2 rfl (by decide) (.slice none 0 0) 0 [] rfl (World.ownsRow_nil _ _ _ _) ad L.length cap (L.flatMap calL) rfl (flatMap_len calL_len L) (call_cells H.out) (cal_one L) (by unfold maxLen; omega) (by omega) (Nat.le_refl _) ?_; intro v1 w1 hown1 hgrow1 _; have HO := Lib.hid hown1; have HG := Lib.hid hgrow1; clear hown1 hgrow1)
    go_ret
    obtain ⟨b', cap', e, hc, hL, hb⟩ := cals_own (L := L) (by have h := HO.out; simpa using h) rfl hwf.out
    exact ⟨b', cap', by rw [e]; rfl, hc, hL, hb, HG.out.os, HG.out.tape, HG.out.output, HG.out.size, fun q hq => HG.out.block q hq (by simp [Value.ownBlock])⟩
  | none =>
    have hL : L = [] := by
      cases L with
      | nil => rfl
      | cons a L =>
        obtain ⟨g, off, e, _⟩ := H.out.at_ 0 a rfl
        cases e
    subst hL
    go_enter Tryd.func22, Tryd.ntmps22
    go_wp2_with fail
    go_ret
    exact ⟨none, 0, rfl, Nat.le_refl _, ⟨(fun a ha => by cases ha), (fun i a ha => by simp at ha)⟩, (fun g off e => by cases e), Below.refl _ _⟩
end Go.Proofs.YtonnlgpjobfnmaaDoor

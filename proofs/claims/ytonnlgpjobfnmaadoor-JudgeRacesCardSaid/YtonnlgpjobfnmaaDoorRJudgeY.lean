/- treadleref00.CopyAccesses. Conditions: what the slice's cells hold. -/
import Derived.Test.YtonnlgpjobfnmaaDoorRJudgeW
import Derived.Test.YtonnlgpjobfnmaaDoorRJudgeX
namespace Go.Proofs.YtonnlgpjobfnmaaDoor
open Go.RowKit
set_option maxRecDepth 100000
theorem log_cells {w : World} {B : Nat} {ad : Addr} {L : List Acc} (h : LogAt w B (some ad) L) (j : Nat) (u : Value) (hu : (L.flatMap accL)[j]? = some u) : w.cell? (ad.add j) = some u := by
  have hj : j < L.length * 8 := by rw [← flatMap_len accL_len]; exact (List.getElem?_eq_some_iff.1 hu).1
  obtain ⟨i, k, rfl, hk⟩ : ∃ i k, j = i * 8 + k ∧ k < 8 := ⟨j / 8, j % 8, by omega, by omega⟩
  obtain ⟨a, ha⟩ : ∃ a, L[i]? = some a := ⟨L[i]'(by omega), List.getElem?_eq_getElem (by omega)⟩
  rw [flatMap_at accL_len L i k a ha hk] at hu
  obtain ⟨g, off, e, _, hA⟩ := h.at_ i a ha
  injection e with e
  subst e
  have hadd : (⟨g, off, none⟩ : Addr).add (i * 8 + k) = ⟨g, off + i * 8 + k, none⟩ := by simp [Addr.add, Nat.add_assoc]
  rw [hadd]
  obtain ⟨h0, h1, h2, h3, h4, h5, h6, h7⟩ := hA
  match k, hk, hu with
  | 0, _, hu => rw [← hu]; exact h0
  | 1, _, hu => rw [← hu]; exact h1
  | 2, _, hu => rw [← hu]; exact h2
  | 3, _, hu => rw [← hu]; exact h3
  | 4, _, hu => rw [← hu]; exact h4
  | 5, _, hu => rw [← hu]; exact h5
  | 6, _, hu => rw [← hu]; exact h6
  | 7, _, hu => rw [← hu]; exact h7
theorem infoAcc : (Tryd.prog.info? 71).map (fun i => (i.zero, i.size, i.bytes)) = some (some (.agg #[.int .i64 0, .int .i8 0, .int .i64 0, .int .i64 0, .int .i64 0, .int .i64 0, .int .i64 0, .bool false]), 8, 64) := by kernel_rfl
theorem log_own {w : World} {base n : Nat} {v : Value} {L : List Acc} (h : w.ownsRow base 71 8 v n (L.flatMap accL)) (hn : n = L.length) (hwf : ∀ a, a ∈ L → a.wf) (hs : L.length ≤ 9223372036854775807) : ∃ b cap, v = .slice b L.length cap ∧ L.length ≤ cap ∧ LogAt w w.heap.size b L := by
  subst hn
  have h0 := h
  obtain ⟨_, ⟨rfl, h2⟩ | ⟨g, cap, cur, rfl, hb, hc, hk, _⟩⟩ := h
  · refine ⟨none, 0, by rw [h2], by omega, hs, hwf, fun i a ha => ?_⟩
    have : L = [] := List.eq_nil_of_length_eq_zero h2
    subst this
    simp at ha
  · exact ⟨_, cap, rfl, hk, logAt_row (fun j u hu => by rw [h0.cellAt j (by rw [← flatMap_len accL_len]; exact (List.getElem?_eq_some_iff.1 hu).1), hu]) (Array.getElem?_eq_some_iff.1 hc).1 hwf hs⟩
theorem acc_one (L : List Acc) : ∀ u ∈ L.flatMap accL, u.oneCell' = true := by
  intro u hu
  obtain ⟨a, _, hu⟩ := List.mem_flatMap.1 hu
  simp only [accL, List.mem_cons, List.not_mem_nil, or_false] at hu
  rcases hu with rfl | rfl | rfl | rfl | rfl | rfl | rfl | rfl <;> rfl
def CopyPost (L : List Acc) (w : World) (e : Ending) (w' : World) : Prop := ∃ b cap, e = .returned (.slice b L.length cap) ∧ L.length ≤ cap ∧ LogAt w' w'.heap.size b L ∧ Below w.heap.size w w'
set_option maxHeartbeats 1000000 in
theorem copy_any (b : Option Addr) (cap : Nat) (L : List Acc) (hl : L.length ≤ 1000000) (w : World) (h : LogAt w w.heap.size b L) : Calls Tryd.prog 24 #[.slice b L.length cap] w (CopyPost L w) := by
  obtain ⟨j0, hj0, hjz0, hjz1, hjz2⟩ := info_parts infoAcc
  have H := Lib.hid h
  have hwf := Lib.hid h.wf
  clear h
  cases b with
  | some ad =>
    go_enter Tryd.func24, Tryd.ntmps24
    go_wp2_with (at_builtin; refine wpList_append_own _ rfl _ _ 64 rfl w.heap.size 71 j0 _ 8 64 Tryd.underlying64 hj0 hjz0 hjz1 hjz2 rfl (by decide) (.slice none 0 0) 0 [] rfl (World.ownsRow_nil _ _ _ _) ad L.length cap (L.flatMap accL) rfl (flatMap_len accL_len L) (log_cells H.out) (acc_one L) (by unfold maxLen; omega) (by omega) (Nat.le_refl _) ?_; intro v1 w1 hown1 hgrow1 _; have HO := Lib.hid hown1; have HG := Lib.hid hgrow1; clear hown1 hgrow1)
    go_ret
    obtain ⟨b', cap', e, hc, hL⟩ := log_own (L := L) (by have h := HO.out; simpa using h) rfl hwf.out (by omega)
    exact ⟨b', cap', by rw [e]; rfl, hc, hL, HG.out.os, HG.out.tape, HG.out.output, HG.out.size, fun q hq => HG.out.block q hq (by simp [Value.ownBlock])⟩
  | none =>
    have hL : L = [] := by
      cases L with
      | nil => rfl
      | cons a L =>
        obtain ⟨g, off, e, _⟩ := H.out.at_ 0 a rfl
        cases e
    subst hL
    go_enter Tryd.func24, Tryd.ntmps24
    go_wp2_with fail
    go_ret
    exact ⟨none, 0, rfl, Nat.le_refl _, ⟨by simp, (fun a ha => by cases ha), (fun i a ha => by simp at ha)⟩, Below.refl _ _⟩
end Go.Proofs.YtonnlgpjobfnmaaDoor

/- judge.may: what it answers. Conditions: what the slice's cells hold. -/
import Derived.Test.YtonnlgpjobfnmaaDoorRJudgeA
import Derived.Test.YtonnlgpjobfnmaaDoorProg
import Derived.Deep.Light
namespace Go.Proofs.YtonnlgpjobfnmaaDoor
open Go.RowKit
set_option maxRecDepth 100000

/-- What may answers: the threads and true, or nought and false. -/
def mayAns (L : List Acc) : Value := if mayLog L then .tuple #[.int .i64 (threads L), .bool true] else .tuple #[.int .i64 0, .bool false]
def MayPost (L : List Acc) (w : World) (e : Ending) (w' : World) : Prop := e = .returned (mayAns L) ∧ Below w.heap.size w w'
theorem mayAns_no {L : List Acc} {k : Nat} {a : Acc} (ha : L[k]? = some a) (h : a.may = false) : mayAns L = .tuple #[.int .i64 0, .bool false] := by
  unfold mayAns mayLog
  rw [if_neg]
  intro hall
  have := List.all_eq_true.1 hall a (List.mem_of_getElem? ha)
  rw [h] at this
  cases this
theorem ret_no {L : List Acc} {k : Nat} {a : Acc} (ha : L[k]? = some a) (h : a.may = false) : Ending.returned (.tuple #[.int .i64 0, .bool false]) = .returned (mayAns L) := by rw [mayAns_no ha h]
/-- Entries up to k are well: so many threads so far. -/
def MayRel (L : List Acc) (B : Nat) (w0 : World) (t i : Value) (wr : World) : Prop := ∃ k : Nat, k ≤ L.length ∧ i = .int .i64 k ∧ t = .int .i64 (threads (L.take k)) ∧ mayLog (L.take k) = true ∧ Below B w0 wr
theorem thr_bd (n : Int) (a : Acc) (h : a.may = true) (h0 : 0 ≤ n) (h1 : n ≤ 64) : 0 ≤ a.thr n ∧ a.thr n ≤ 64 := by
  unfold Acc.may at h
  unfold Acc.thr
  simp only [Bool.and_eq_true, decide_eq_true_eq] at h
  obtain ⟨⟨a1, a2, a3, a4⟩, h⟩ := h
  split
  · rename_i h7
    rw [if_pos h7] at h
    simp only [decide_eq_true_eq] at h
    omega
  · omega
theorem threads_take {L : List Acc} {k : Nat} {a : Acc} (ha : L[k]? = some a) : threads (L.take (k + 1)) = a.thr (threads (L.take k)) := by
  rw [getElem_take ha]; simp [threads]
theorem mayLog_take {L : List Acc} {k : Nat} {a : Acc} (ha : L[k]? = some a) : mayLog (L.take (k + 1)) = (mayLog (L.take k) && a.may) := by
  rw [getElem_take ha]; simp [mayLog]
theorem threads_bd (L : List Acc) (h : mayLog L = true) : 0 ≤ threads L ∧ threads L ≤ 64 := by
  have : ∀ (L : List Acc) (n : Int), 0 ≤ n → n ≤ 64 → mayLog L = true → 0 ≤ L.foldl Acc.thr n ∧ L.foldl Acc.thr n ≤ 64 := by
    intro L
    induction L with
    | nil => intro n h0 h1 _; exact ⟨h0, h1⟩
    | cons a L ih =>
      intro n h0 h1 h
      simp only [mayLog, List.all_cons, Bool.and_eq_true] at h
      have := thr_bd n a h.1 h0 h1
      exact ih _ this.1 this.2 h.2
  exact this L 0 (by omega) (by omega) h
theorem may_cases {a : Acc} (h : a.may = true) : (0 ≤ a.th ∧ a.th < 64 ∧ 1 ≤ a.op ∧ a.op ≤ 8) ∧ ((a.op = 7 ∧ a.cell = -1 ∧ -1 ≤ a.now ∧ a.now < 64) ∨ (a.op = 8 ∧ a.cell = -1) ∨ (a.op ≠ 7 ∧ a.op ≠ 8 ∧ 0 ≤ a.cell ∧ a.cell < 1048576)) := by
  unfold Acc.may at h
  simp only [Bool.and_eq_true, decide_eq_true_eq] at h
  refine ⟨h.1, ?_⟩
  have h2 := h.2
  split at h2
  · simp at h2; omega
  · split at h2
    · simp at h2; omega
    · simp at h2; omega
theorem MayRel.more {L : List Acc} {B k : Nat} {w0 wr : World} {a : Acc} {n : Int} (ha : L[k]? = some a) (hm : a.may = true) (hl : mayLog (L.take k) = true) (hn : a.thr (threads (L.take k)) = n) (hb : Below B w0 wr) : MayRel L B w0 (.int .i64 n) (.int .i64 ((k : Int) + 1)) wr :=
  ⟨k + 1, by have := (List.getElem?_eq_some_iff.1 ha).1; omega, by rw [Int.natCast_add]; rfl, by rw [threads_take ha, hn], by rw [mayLog_take ha, hl, hm]; rfl, hb⟩
set_option maxHeartbeats 4000000 in
theorem may_any (b : Option Addr) (cap : Nat) (L : List Acc) (w : World) (h : LogAt w w.heap.size b L) :
    Calls Tryd.prog 63 #[.slice b L.length cap] w (MayPost L w) := by
  have H := Lib.hid h
  have hsm := h.small
  clear h
  go_enter Tryd.func63, Tryd.ntmps63
  go_wp2_with fail
  go_loopw [2, 8] (fun t i wr => MayRel L w.heap.size w t i wr) (fun _ i _ => L.length - (intOf i).toNat)
  case atStart => exact ⟨0, Nat.zero_le _, rfl, rfl, rfl, Below.refl _ _⟩
  case round =>
    obtain ⟨k, hk, rfl, rfl, hl, hb⟩ := hrel
    have HB := Lib.hid hb
    have HL := Lib.hid hl
    have hbd := threads_bd _ hl
    clear hb hl
    by_cases hlt : k < L.length
    · obtain ⟨a, ha⟩ : ∃ a, L[k]? = some a := ⟨L[k], List.getElem?_eq_getElem hlt⟩
      obtain ⟨g, off, rfl, hg, hA⟩ := (H.out.of HB.out).at_ k a ha
      obtain ⟨h0, h1, h2, h3, h4, h5, h6, h7⟩ := hA
      have hwf := H.out.wf a (List.mem_of_getElem? ha)
      obtain ⟨⟨t1, t2⟩, ⟨o1, o2⟩, ⟨c1, c2⟩, _, _, _, ⟨n1, n2⟩⟩ := hwf
      have HA := Lib.hid ha
      clear ha
      have hx : decide (k < L.length) = true := by simpa using hlt
      obtain ⟨n, hn⟩ : ∃ n, n = threads (L.take k) := ⟨_, rfl⟩
      rw [← hn] at hbd ⊢
      have HN := Lib.hid hn
      clear hn
      go_wp2_with fail
      all_goals first
        | (go_ret2
           refine ⟨ret_no HA.out ?_, HB.out.alloc HB.out.size _⟩
           rw [← Bool.not_eq_true]
           intro hm
           have hmc := may_cases hm
           go_light
           simp_all
           try omega)
        | (refine ⟨MayRel.more HA.out ?_ HL.out ?_ (HB.out.alloc HB.out.size _), by simp [intOf]; omega⟩
           · go_light
             unfold Acc.may
             simp_all
             try omega
           · rw [← HN.out]
             go_light
             unfold Acc.thr
             simp_all
             try omega)
    · have hx : decide (k < L.length) = false := by simpa using hlt
      have hke : k = L.length := by omega
      have HE := Lib.hid hke
      clear hke hk
      go_wp2_with fail
      go_ret2
      refine ⟨?_, HB.out⟩
      have hl := HL.out
      rw [HE.out, List.take_length] at hl ⊢
      simp [mayAns, hl]
end Go.Proofs.YtonnlgpjobfnmaaDoor

/- ref26.May, ref26.Threads: what they answer. Conditions: what the slice's cells hold. -/
import Derived.Test.YtonnlgpjobfnmaaDoorRAccA
namespace Go.Proofs.YtonnlgpjobfnmaaDoor
open Go.RowKit
set_option maxRecDepth 100000
def RMayPost (L : List Acc) (w : World) (e : Ending) (w' : World) : Prop := e = .returned (.bool (mayLog L)) ∧ Below w.heap.size w w'
theorem rmay_no {L : List Acc} {k : Nat} {a : Acc} (ha : L[k]? = some a) (h : a.may = false) : Ending.returned (.bool false) = .returned (.bool (mayLog L)) := by
  have : mayLog L = false := by
    rw [← Bool.not_eq_true]
    intro hall
    unfold mayLog at hall
    have := List.all_eq_true.1 hall a (List.mem_of_getElem? ha)
    rw [h] at this
    cases this
  rw [this]
/-- Entries up to k are well. -/
def RMayRel (L : List Acc) (w0 : World) (i : Value) (wr : World) : Prop := ∃ k : Nat, k ≤ L.length ∧ i = .int .i64 k ∧ mayLog (L.take k) = true ∧ Below w0.heap.size w0 wr
theorem RMayRel.more {L : List Acc} {k : Nat} {w0 wr : World} {a : Acc} (ha : L[k]? = some a) (hm : a.may = true) (hl : mayLog (L.take k) = true) (hb : Below w0.heap.size w0 wr) : RMayRel L w0 (.int .i64 ((k : Int) + 1)) wr :=
  ⟨k + 1, by have := (List.getElem?_eq_some_iff.1 ha).1; omega, by rw [Int.natCast_add]; rfl, by rw [mayLog_take ha, hl, hm]; rfl, hb⟩
set_option maxHeartbeats 4000000 in
theorem rmay_any (b : Option Addr) (cap : Nat) (L : List Acc) (w : World) (h : LogAt w w.heap.size b L) :
    Calls Tryd.prog 66 #[.slice b L.length cap] w (RMayPost L w) := by
  have H := Lib.hid h
  have hsm := h.small
  clear h
  go_enter Tryd.func66, Tryd.ntmps66
  go_wp2_with fail
  go_loopw [3] (fun i wr => RMayRel L w i wr) (fun i _ => L.length - (intOf i).toNat)
  case atStart => exact ⟨0, Nat.zero_le _, rfl, rfl, Below.refl _ _⟩
  case round =>
    obtain ⟨k, hk, rfl, hl, hb⟩ := hrel
    have HB := Lib.hid hb
    have HL := Lib.hid hl
    clear hb hl
    by_cases hlt : k < L.length
    · obtain ⟨a, ha⟩ : ∃ a, L[k]? = some a := ⟨L[k], List.getElem?_eq_getElem hlt⟩
      obtain ⟨g, off, rfl, hg, hA⟩ := (H.out.of HB.out).at_ k a ha
      obtain ⟨h0, h1, h2, h3, h4, h5, h6, h7⟩ := hA
      have hwf := H.out.wf a (List.mem_of_getElem? ha)
      obtain ⟨⟨t1, t2⟩, ⟨o1, o2⟩, ⟨c1, c2⟩, _, _, _, ⟨n1, n2⟩⟩ := hwf
      have HA := Lib.hid ha
      clear ha
      have hx : decide (k < L.length) = true := by simpa using hlt
      have hxi : decide ((k : Int) < (L.length : Int)) = true := by simp; omega
      go_wp2_with fail
      all_goals first
        | (go_ret
           refine ⟨rmay_no HA.out ?_, HB.out.alloc HB.out.size _⟩
           rw [← Bool.not_eq_true]
           intro hm
           have hmc := may_cases hm
           go_light
           simp_all
           try omega)
        | (refine ⟨RMayRel.more HA.out ?_ HL.out (HB.out.alloc HB.out.size _), by simp [intOf]; omega⟩
           go_light
           unfold Acc.may
           simp_all
           try omega)
    · have hx : decide (k < L.length) = false := by simpa using hlt
      have hxi : decide ((k : Int) < (L.length : Int)) = false := by simp; omega
      obtain rfl : k = L.length := by omega
      clear hk hlt
      go_wp2_with fail
      refine bodyPost_ret (v := .bool true) (by simp [results, Tryd.results66, go_sem]) rfl ⟨?_, HB.out⟩
      have hl := HL.out
      rw [List.take_length] at hl
      rw [hl]
def RThrPost (L : List Acc) (w : World) (e : Ending) (w' : World) : Prop := e = .returned (.int .i64 (threads L)) ∧ ∃ n, w' = w.drewN n
def RThrRel (L : List Acc) (w0 : World) (n i : Value) (wr : World) : Prop := ∃ k nd : Nat, k ≤ L.length ∧ i = .int .i64 k ∧ n = .int .i64 (threads (L.take k)) ∧ wr = w0.drewN nd
theorem mayLog_lo {L : List Acc} (h : mayLog L = true) (k : Nat) : mayLog (L.take k) = true := by
  unfold mayLog at h ⊢
  exact List.all_eq_true.2 fun a ha => List.all_eq_true.1 h a (List.mem_of_mem_take ha)
set_option maxHeartbeats 4000000 in
theorem rthreads_any (b : Option Addr) (cap : Nat) (L : List Acc) (w : World) (B : Nat) (h : LogAt w B b L) (hm : mayLog L = true) :
    Calls Tryd.prog 81 #[.slice b L.length cap] w (RThrPost L w) := by
  have H := Lib.hid h
  have HM := Lib.hid hm
  have hsm := h.small
  clear h hm
  go_enter Tryd.func81, Tryd.ntmps81
  go_wp2_with fail
  go_loopw [3, 4] (fun n i wr => RThrRel L w n i wr) (fun _ i _ => L.length - (intOf i).toNat)
  case atStart => exact ⟨0, 0, Nat.zero_le _, rfl, rfl, rfl⟩
  case round =>
    obtain ⟨k, nd, hk, rfl, rfl, rfl⟩ := hrel
    by_cases hlt : k < L.length
    · obtain ⟨a, ha⟩ : ∃ a, L[k]? = some a := ⟨L[k], List.getElem?_eq_getElem hlt⟩
      obtain ⟨g, off, rfl, hg, hA⟩ := H.out.at_ k a ha
      obtain ⟨h0, h1, h2, h3, h4, h5, h6, h7⟩ := hA
      have hbd := threads_bd _ (mayLog_lo HM.out k)
      have hma : a.may = true := List.all_eq_true.1 HM.out a (List.mem_of_getElem? ha)
      have hmc := may_cases hma
      obtain ⟨n, hn⟩ : ∃ n, n = threads (L.take k) := ⟨_, rfl⟩
      rw [← hn] at hbd ⊢
      have htk := threads_take ha
      rw [← hn] at htk
      have HN := Lib.hid htk
      clear ha hn htk hma h2 h3 h4 h5 h7
      have hx : decide (k < L.length) = true := by simpa using hlt
      have hxi : decide ((k : Int) < (L.length : Int)) = true := by simp; omega
      by_cases h7 : a.op = 7
      · have hnb : -1 ≤ a.now ∧ a.now < 64 := by omega
        obtain ⟨nb1, nb2⟩ := hnb
        obtain ⟨⟨tb1, tb2, _, _⟩, _⟩ := hmc
        rw [h7] at h1
        go_wp2_with fail
        refine ⟨⟨k + 1, nd, hlt, by rw [Int.natCast_add]; rfl, ?_, rfl⟩, by simp [intOf]; omega⟩
        rw [HN.out]
        unfold Acc.thr
        rw [if_pos h7]
        congr 1
        omega
      · obtain ⟨⟨tb1, tb2, _, _⟩, _⟩ := hmc
        have h7b : decide (a.op = 7) = false := by simpa using h7
        go_wp2_with fail
        refine ⟨⟨k + 1, nd, hlt, by rw [Int.natCast_add]; rfl, ?_, rfl⟩, by simp [intOf]; omega⟩
        rw [HN.out]
        unfold Acc.thr
        rw [if_neg h7]
    · have hx : decide (k < L.length) = false := by simpa using hlt
      have hxi : decide ((k : Int) < (L.length : Int)) = false := by simp; omega
      obtain rfl : k = L.length := by omega
      rw [List.take_length]
      go_wp2_with fail
      exact bodyPost_ret (v := .int .i64 (threads L)) (by simp [results, Tryd.results81, go_sem]) rfl ⟨rfl, nd, rfl⟩
end Go.Proofs.YtonnlgpjobfnmaaDoor

/- judge.Once: what it answers. Conditions: a log of 2048 entries at most. -/
import Derived.Test.YtonnlgpjobfnmaaDoorROnceA
import Derived.Test.YtonnlgpjobfnmaaDoorRLinB
namespace Go.Proofs.YtonnlgpjobfnmaaDoor
open Go.RowKit
set_option maxRecDepth 100000
def JOnceRel (L : List Acc) (w0 : World) (M : Nat) (i : Value) (wr : World) : Prop :=
  ∃ k : Nat, k ≤ L.length ∧ i = .int .i64 k ∧ Below w0.heap.size w0 wr ∧ LifeIn wr M k (lifeN L k) ∧ OkTo L k
theorem LifeIn.next {L : List Acc} {k M n : Nat} {w : World} (h : LifeIn w M n (lifeN L k)) (hn : n ≤ k) (I : OkTo L k) (he : errB L k = false) (hs : ¬ ((accAt L k).op = 8 ∧ ((accAt L k).new = 2 ∨ (accAt L k).new = 4 ∨ (accAt L k).new = 3))) : LifeIn w M (k + 1) (lifeN L (k + 1)) := by
  have e : lifeN L (k + 1) = lifeN L k := by
    funext y
    rw [lifeN_succ I he]
    by_cases h8 : (accAt L k).op = 8 ∧ (accAt L k).arg = y
    · rw [if_pos h8, if_neg (fun h => hs ⟨h8.1, by omega⟩), if_neg (fun h => hs ⟨h8.1, by omega⟩)]
    · rw [if_neg h8]
  rw [e]
  exact h.mono (by omega)
theorem errB_other {L : List Acc} {k : Nat} (h : ¬ ((accAt L k).op = 8 ∧ ((accAt L k).new = 2 ∨ (accAt L k).new = 4 ∨ (accAt L k).new = 3))) : errB L k = false := by
  unfold errB
  by_cases h8 : (accAt L k).op = 8
  · have h2 : ¬ (accAt L k).new = 2 := fun e => h ⟨h8, .inl e⟩
    have h4 : ¬ (accAt L k).new = 4 := fun e => h ⟨h8, .inr (.inl e)⟩
    have h3 : ¬ (accAt L k).new = 3 := fun e => h ⟨h8, .inr (.inr e)⟩
    simp [h2, h4, h3]
  · simp [h8]
theorem life_begun {L : List Acc} {k : Nat} (I : OkTo L k) (he : errB L k = false) (h8 : (accAt L k).op = 8) (h : (accAt L k).new = 2 ∨ (accAt L k).new = 4) : (fun y => if y = (accAt L k).arg then some ⟨(accAt L k).th, false, decide ((accAt L k).new = 4)⟩ else lifeN L k y) = lifeN L (k + 1) := by
  funext y
  rw [lifeN_succ I he]
  by_cases e : y = (accAt L k).arg
  · rw [if_pos e, if_pos ⟨h8, e.symm⟩, if_pos h]
  · rw [if_neg e, if_neg (fun hh => e hh.2.symm)]
theorem life_ended {L : List Acc} {k : Nat} {l : Life} (I : OkTo L k) (he : errB L k = false) (h8 : (accAt L k).op = 8) (h : (accAt L k).new = 3) (hl : lifeN L k (accAt L k).arg = some l) : (fun y => if y = (accAt L k).arg then some ⟨l.th, true, l.lost⟩ else lifeN L k y) = lifeN L (k + 1) := by
  funext y
  rw [lifeN_succ I he]
  by_cases e : y = (accAt L k).arg
  · subst e
    rw [if_pos rfl, if_pos ⟨h8, rfl⟩, if_neg (by omega), if_pos h, hl]
    rfl
  · rw [if_neg e, if_neg (fun hh => e hh.2.symm)]
set_option maxHeartbeats 4000000 in
theorem jonce_yes (b : Option Addr) (cap : Nat) (L : List Acc) (w : World) (h : LogAt w w.heap.size b L) (hl : L.length ≤ 2048) (hm : mayLog L = true) :
    Calls Tryd.prog 36 #[.slice b L.length cap] w (OncePost L w) := by
  have H := Lib.hid h
  have HM := Lib.hid hm
  have hmm := @run_makeMap Tryd.prog
  clear h hm
  go_enter Tryd.func36, Tryd.ntmps36
  go_upto_region 6 with (go_at_call 63; refine (may_any b cap L _ H.out).mono ?_; rintro e w1 ⟨he, hb1⟩; unfold mayAns at he; rw [if_pos HM.out] at he; subst he; have HB1 := Lib.hid hb1; clear hb1)
  have HB1W : Hid (Below w.heap.size w (w1.alloc (.map #[] 0))) := Lib.hid (HB1.out.alloc HB1.out.size _)
  have hs1 := HB1.out.size
  clear hmm
  go_loopw [21] (fun i wr => JOnceRel L w w1.heap.size i wr) (fun i _ => L.length - (intOf i).toNat)
  case atStart => exact ⟨0, Nat.zero_le _, rfl, HB1W.out, LifeIn.made w1, OkTo.zero L⟩
  case round =>
    obtain ⟨k, hk, rfl, hbe, hli, hok⟩ := hrel
    have HBE := Lib.hid hbe
    have HLI := Lib.hid hli
    have HOK := Lib.hid hok
    have hMl := hli.lt
    have hbs := hbe.size
    clear hbe hli hok
    by_cases hlt : k < L.length
    · have hx : decide (k < L.length) = true := by simpa using hlt
      have hxi : decide ((k : Int) < (L.length : Int)) = true := by simp; omega
      obtain ⟨x, hxk⟩ : ∃ x, L[k]? = some x := ⟨L[k], List.getElem?_eq_getElem hlt⟩
      have hax : accAt L k = x := by unfold accAt; rw [hxk]; rfl
      have hwf := H.out.wf x (List.mem_of_getElem? hxk)
      have HWF := Lib.hid hwf
      obtain ⟨g, off, rfl, hg, p0, p1, p2, p3, p4, p5, p6, p7⟩ := (H.out.of HBE.out).at_ k x hxk
      have HAX := Lib.hid hax
      clear hxk hax hwf
      by_cases h8 : x.op = 8
      · have h8b : (x.op == 8) = true := by simpa using h8
        have h8c : decide (x.op = 8) = true := by simpa using h8
        have h8d : (x.op != 8) = false := by simp [h8]
        have H8 := Lib.hid h8
        clear h8
        go_upto_region 9 with fail
        obtain ⟨w5, hw5⟩ : ∃ w5, w5 = wr.alloc (.cells #[.int .i64 x.th, .int .i8 x.op, .int .i64 x.cell, .int .i64 x.arg, .int .i64 x.new, .int .i64 x.was, .int .i64 x.now, .bool x.ok] 71) := ⟨_, rfl⟩
        have HB5 : Hid (Below wr.heap.size wr w5) := Lib.hid (by rw [hw5]; exact (Below.refl _ _).alloc (Nat.le_refl _) _)
        have HX5 : Hid (Blk w5 wr.heap.size 71 #[.int .i64 x.th, .int .i8 x.op, .int .i64 x.cell, .int .i64 x.arg, .int .i64 x.new, .int .i64 x.was, .int .i64 x.now, .bool x.ok]) := Lib.hid (by rw [hw5]; exact Blk.new _ _ _)
        have hz5 : w5.heap.size = wr.heap.size + 1 := by rw [hw5]; simp
        have HZ5 := Lib.hid hz5
        rw [← hw5]
        have HL5 := Lib.hid (HLI.out.kept (S := fun _ => False) (Kept.of_below HB5.out) id)
        clear hw5 hz5 p0 p1 p2 p3 p4 p5 p6 p7
        have p0 : w5.cell? ⟨wr.heap.size, 0, none⟩ = some (.int .i64 x.th) := HX5.out.cell 0
        have p3 : w5.cell? ⟨wr.heap.size, 3, none⟩ = some (.int .i64 x.arg) := HX5.out.cell 3
        have p4 : w5.cell? ⟨wr.heap.size, 4, none⟩ = some (.int .i64 x.new) := HX5.out.cell 4
        have hz5l : wr.heap.size < w5.heap.size := HX5.out.lt
        have hlk := HL5.out.look x.arg HWF.out.2.2.2.1
        obtain ⟨lf, hlf⟩ : ∃ lf, lf = lifeN L k x.arg := ⟨_, rfl⟩
        rw [← hlf] at hlk
        obtain ⟨l0, hl0⟩ : ∃ l0 : Life, l0 = lf.getD ⟨0, false, false⟩ := ⟨_, rfl⟩
        obtain ⟨is, his⟩ : ∃ is, is = lf.isSome := ⟨_, rfl⟩
        rw [← hl0, ← his] at hlk
        unfold lifeV at hlk
        have HLF := Lib.hid hlf
        have HL0 := Lib.hid hl0
        have HIS := Lib.hid his
        clear hlf hl0 his
        go_upto_region 10 with fail
        obtain ⟨w6, hw6⟩ : ∃ w6, w6 = w5.alloc (.cells #[.int .i64 l0.th, .bool l0.ended, .bool l0.lost] 116) := ⟨_, rfl⟩
        have HY6 : Hid (Blk w6 w5.heap.size 116 #[.int .i64 l0.th, .bool l0.ended, .bool l0.lost]) := Lib.hid (by rw [hw6]; exact Blk.new _ _ _)
        have HX6 : Hid (Blk w6 wr.heap.size 71 #[.int .i64 x.th, .int .i8 x.op, .int .i64 x.cell, .int .i64 x.arg, .int .i64 x.new, .int .i64 x.was, .int .i64 x.now, .bool x.ok]) := Lib.hid (by rw [hw6]; exact HX5.out.alloc _)
        have HB56 : Hid (Below w5.heap.size w5 w6) := Lib.hid (by rw [hw6]; exact (Below.refl _ _).alloc (Nat.le_refl _) _)
        have HB6W : Hid (Below w.heap.size w w6) := Lib.hid ((HBE.out.trans (HB5.out.mono hbs)).trans (HB56.out.mono (by omega)))
        have HL6 := Lib.hid (HL5.out.kept (S := fun _ => False) (Kept.of_below HB56.out) id)
        have HMW : Hid (w1.heap.size < w5.heap.size) := Lib.hid (by omega)
        rw [← hw6]
        clear hw6 hlk p0 p3 p4
        have p0 : w6.cell? ⟨wr.heap.size, 0, none⟩ = some (.int .i64 x.th) := HX6.out.cell 0
        have p3 : w6.cell? ⟨wr.heap.size, 3, none⟩ = some (.int .i64 x.arg) := HX6.out.cell 3
        have p4 : w6.cell? ⟨wr.heap.size, 4, none⟩ = some (.int .i64 x.new) := HX6.out.cell 4
        have c0 : w6.cell? ⟨w5.heap.size, 0, none⟩ = some (.int .i64 l0.th) := HY6.out.cell 0
        have c1 : w6.cell? ⟨w5.heap.size, 1, none⟩ = some (.bool l0.ended) := HY6.out.cell 1
        have c2 : w6.cell? ⟨w5.heap.size, 2, none⟩ = some (.bool l0.lost) := HY6.out.cell 2
        by_cases hn : x.new = 2
        · rw [hn] at p4
          have HN := Lib.hid hn
          clear hn
          cases is with
          | true =>
            have HE : Hid (errB L k = true) := Lib.hid (by rw [errB_eq HOK.out (by rw [HAX.out]; exact H8.out), if_pos (by rw [HAX.out, HN.out]; omega), HAX.out, ← HLF.out, ← HIS.out])
            go_wp2_with fail
            refine bodyPost_ret (v := .tuple #[.int .i64 32, .int .i64 (k : Nat)]) (by simp [results, Tryd.results36, go_sem]) rfl ⟨?_, HB6W.out⟩
            rw [once_hit HM.out hlt HOK.out.no HE.out]
          | false =>
            have HE : Hid (errB L k = false) := Lib.hid (by rw [errB_eq HOK.out (by rw [HAX.out]; exact H8.out), if_pos (by rw [HAX.out, HN.out]; omega), HAX.out, ← HLF.out, ← HIS.out])
            obtain ⟨w7, hup, hl7, hg7⟩ := HL6.out.put (by unfold maxLen; omega) x.arg HWF.out.2.2.2.1 ⟨x.th, false, false⟩
            unfold lifeV at hup
            have HL7 : Hid (LifeIn w7 w1.heap.size (k + 1) (lifeN L (k + 1))) := Lib.hid (by
              rw [← life_begun HOK.out HE.out (by rw [HAX.out]; exact H8.out) (by rw [HAX.out, HN.out]; omega), HAX.out, HN.out]
              exact hl7)
            have HG7 : Hid (Below w.heap.size w w7) := Lib.hid (HB6W.out.trans ((Kept.grown (S := fun q => q = w1.heap.size) (Kept.refl _ _) hg7 rfl).below HB6W.out.size fun q e => by subst e; exact hs1))
            clear hl7 hg7
            go_wp2_with fail
            exact ⟨⟨k + 1, hlt, by rw [Int.natCast_add]; rfl, HG7.out, HL7.out, HOK.out.succ HE.out⟩, by simp [intOf]; omega⟩
        · by_cases hn' : x.new = 4
          · have hn := hn'
            clear hn'
            rw [hn] at p4
            have HN := Lib.hid hn
            clear hn
            cases is with
            | true =>
              have HE : Hid (errB L k = true) := Lib.hid (by rw [errB_eq HOK.out (by rw [HAX.out]; exact H8.out), if_pos (by rw [HAX.out, HN.out]; omega), HAX.out, ← HLF.out, ← HIS.out])
              go_wp2_with fail
              refine bodyPost_ret (v := .tuple #[.int .i64 32, .int .i64 (k : Nat)]) (by simp [results, Tryd.results36, go_sem]) rfl ⟨?_, HB6W.out⟩
              rw [once_hit HM.out hlt HOK.out.no HE.out]
            | false =>
              have HE : Hid (errB L k = false) := Lib.hid (by rw [errB_eq HOK.out (by rw [HAX.out]; exact H8.out), if_pos (by rw [HAX.out, HN.out]; omega), HAX.out, ← HLF.out, ← HIS.out])
              obtain ⟨w7, hup, hl7, hg7⟩ := HL6.out.put (by unfold maxLen; omega) x.arg HWF.out.2.2.2.1 ⟨x.th, false, true⟩
              unfold lifeV at hup
              have HL7 : Hid (LifeIn w7 w1.heap.size (k + 1) (lifeN L (k + 1))) := Lib.hid (by
                rw [← life_begun HOK.out HE.out (by rw [HAX.out]; exact H8.out) (by rw [HAX.out, HN.out]; omega), HAX.out, HN.out]
                exact hl7)
              have HG7 : Hid (Below w.heap.size w w7) := Lib.hid (HB6W.out.trans ((Kept.grown (S := fun q => q = w1.heap.size) (Kept.refl _ _) hg7 rfl).below HB6W.out.size fun q e => by subst e; exact hs1))
              clear hl7 hg7
              go_wp2_with fail
              exact ⟨⟨k + 1, hlt, by rw [Int.natCast_add]; rfl, HG7.out, HL7.out, HOK.out.succ HE.out⟩, by simp [intOf]; omega⟩
          · by_cases hn3 : x.new = 3
            · have hn := hn3
              clear hn' hn3
              rw [hn] at p4
              have HN := Lib.hid hn
              clear hn
              have HEQ : Hid (errB L k = match lifeN L k x.arg with | none => true | some l => l.lost || l.ended || decide (l.th ≠ x.th)) := Lib.hid (by rw [errB_eq HOK.out (by rw [HAX.out]; exact H8.out), if_neg (by rw [HAX.out, HN.out]; omega), if_pos (by rw [HAX.out, HN.out]), HAX.out]; cases lifeN L k x.arg <;> rfl)
              cases lf with
              | none =>
                obtain rfl : is = false := HIS.out
                have HE : Hid (errB L k = true) := Lib.hid (by rw [HEQ.out, ← HLF.out])
                go_wp2_with fail
                refine bodyPost_ret (v := .tuple #[.int .i64 32, .int .i64 (k : Nat)]) (by simp [results, Tryd.results36, go_sem]) rfl ⟨?_, HB6W.out⟩
                rw [once_hit HM.out hlt HOK.out.no HE.out]
              | some lv =>
                obtain rfl : is = true := HIS.out
                obtain rfl : l0 = lv := HL0.out
                by_cases hbad : l0.lost = true ∨ l0.ended = true ∨ l0.th ≠ x.th
                · have HE : Hid (errB L k = true) := Lib.hid (by
                    rw [HEQ.out, ← HLF.out]
                    rcases hbad with h | h | h <;> simp [h])
                  cases hlost : l0.lost with
                  | true =>
                    rw [hlost] at c2
                    clear hbad
                    go_wp2_with fail
                    refine bodyPost_ret (v := .tuple #[.int .i64 32, .int .i64 (k : Nat)]) (by simp [results, Tryd.results36, go_sem]) rfl ⟨?_, HB6W.out⟩
                    rw [once_hit HM.out hlt HOK.out.no HE.out]
                  | false =>
                    rw [hlost] at c2 hbad
                    cases hend : l0.ended with
                    | true =>
                      rw [hend] at c1
                      clear hbad
                      go_wp2_with fail
                      refine bodyPost_ret (v := .tuple #[.int .i64 32, .int .i64 (k : Nat)]) (by simp [results, Tryd.results36, go_sem]) rfl ⟨?_, HB6W.out⟩
                      rw [once_hit HM.out hlt HOK.out.no HE.out]
                    | false =>
                      rw [hend] at c1 hbad
                      have hne : l0.th ≠ x.th := by simpa using hbad
                      have n1 : (l0.th == x.th) = false := by simpa using hne
                      have n2 : (l0.th != x.th) = true := by simpa using hne
                      have n3 : decide (l0.th = x.th) = false := by simpa using hne
                      clear hbad hne hlost hend
                      go_wp2_with fail
                      refine bodyPost_ret (v := .tuple #[.int .i64 32, .int .i64 (k : Nat)]) (by simp [results, Tryd.results36, go_sem]) rfl ⟨?_, HB6W.out⟩
                      rw [once_hit HM.out hlt HOK.out.no HE.out]
                · have g1 : l0.lost = false := by cases h : l0.lost <;> simp_all
                  have g2 : l0.ended = false := by cases h : l0.ended <;> simp_all
                  have g3 : l0.th = x.th := by
                    by_cases h : l0.th = x.th
                    · exact h
                    · exact absurd (.inr (.inr h)) hbad
                  have HE : Hid (errB L k = false) := Lib.hid (by rw [HEQ.out, ← HLF.out]; simp [g1, g2, g3])
                  have HT3 := Lib.hid g3
                  rw [g1] at c2
                  rw [g2] at c1
                  rw [g3] at c0
                  have HG1 := Lib.hid g1
                  clear g1 g2 g3 hbad
                  obtain ⟨w7, hw7⟩ : ∃ w7, w7 = w6.setCell ⟨w5.heap.size, 1, none⟩ (.bool true) := ⟨_, rfl⟩
                  have HL7 : Hid (LifeIn w7 w1.heap.size k (lifeN L k)) := Lib.hid (by rw [hw7]; exact HL6.out.kept (S := fun q => q = w5.heap.size) (Kept.set (S := fun q => q = w5.heap.size) (p := ⟨w5.heap.size, 1, none⟩) (Kept.refl _ _) rfl _) (fun e => by have := HMW.out; omega))
                  have HB7 : Hid (Below w.heap.size w w7) := Lib.hid (by rw [hw7]; exact HB6W.out.setCell (p := ⟨w5.heap.size, 1, none⟩) (by show w.heap.size ≤ w5.heap.size; omega) _)
                  have HX7 : Hid (Blk w7 w5.heap.size 116 #[.int .i64 x.th, .bool true, .bool false]) := Lib.hid (by rw [hw7]; have h := HY6.out.set_ 1 (.bool true); simp only [HT3.out, HG1.out] at h; simpa using h)
                  have HXA : Hid (Blk w7 wr.heap.size 71 #[.int .i64 x.th, .int .i8 x.op, .int .i64 x.cell, .int .i64 x.arg, .int .i64 x.new, .int .i64 x.was, .int .i64 x.now, .bool x.ok]) := Lib.hid (by rw [hw7]; exact HX6.out.far (p := ⟨w5.heap.size, 1, none⟩) (by show ¬ wr.heap.size = w5.heap.size; omega) _)
                  obtain ⟨w8, hup, hl8, hg8⟩ := HL7.out.put (by unfold maxLen; omega) x.arg HWF.out.2.2.2.1 ⟨x.th, true, false⟩
                  unfold lifeV at hup
                  have HL8 : Hid (LifeIn w8 w1.heap.size (k + 1) (lifeN L (k + 1))) := Lib.hid (by
                    rw [← life_ended HOK.out HE.out (by rw [HAX.out]; exact H8.out) (by rw [HAX.out, HN.out]) (by rw [HAX.out]; exact HLF.out.symm), HAX.out, HT3.out, HG1.out]
                    exact hl8)
                  have HG8 : Hid (Below w.heap.size w w8) := Lib.hid (HB7.out.trans ((Kept.grown (S := fun q => q = w1.heap.size) (Kept.refl _ _) hg8 rfl).below HB7.out.size fun q e => by subst e; exact hs1))
                  clear hl8 hg8
                  have f1 := HY6.out.frozen 1
                  go_upto_region 20 with fail
                  rw [← hw7]
                  have r0 : w7.cell? ⟨w5.heap.size, 0, none⟩ = some (.int .i64 x.th) := HX7.out.cell 0
                  have r1 : w7.cell? ⟨w5.heap.size, 1, none⟩ = some (.bool true) := HX7.out.cell 1
                  have r2 : w7.cell? ⟨w5.heap.size, 2, none⟩ = some (.bool false) := HX7.out.cell 2
                  have r3 : w7.cell? ⟨wr.heap.size, 3, none⟩ = some (.int .i64 x.arg) := HXA.out.cell 3
                  clear hw7 f1 c0 c1 c2 p0 p3 p4
                  go_wp2_with fail
                  exact ⟨⟨k + 1, hlt, by rw [Int.natCast_add]; rfl, HG8.out, HL8.out, HOK.out.succ HE.out⟩, by simp [intOf]; omega⟩
            · have d2 : decide (x.new = 2) = false := by simpa using hn
              have d3 : decide (x.new = 3) = false := by simpa using hn3
              have d4 : decide (x.new = 4) = false := by simpa using hn'
              have hno : ¬ ((accAt L k).op = 8 ∧ ((accAt L k).new = 2 ∨ (accAt L k).new = 4 ∨ (accAt L k).new = 3)) := by rw [HAX.out]; rintro ⟨_, h | h | h⟩ <;> simp_all
              have HNE := Lib.hid (errB_other hno)
              have HNX := Lib.hid (LifeIn.next HL6.out (Nat.le_refl _) HOK.out HNE.out hno)
              have e2 : (x.new == 2) = false := by simpa using hn
              have e3 : (x.new == 3) = false := by simpa using hn3
              have e4 : (x.new == 4) = false := by simpa using hn'
              clear hn hn' hn3 hno
              go_wp2_with fail
              exact ⟨⟨k + 1, hlt, by rw [Int.natCast_add]; rfl, HB6W.out, HNX.out, HOK.out.succ HNE.out⟩, by simp [intOf]; omega⟩
      · have h8b : (x.op == 8) = false := by simpa using h8
        have h8c : decide (x.op = 8) = false := by simpa using h8
        have h8d : (x.op != 8) = true := by simp [h8]
        have HNE := Lib.hid (errB_other (L := L) (k := k) (by rw [HAX.out]; exact fun h => h8 h.1))
        have HNX := Lib.hid (LifeIn.next HLI.out (Nat.le_refl _) HOK.out HNE.out (by rw [HAX.out]; exact fun h => h8 h.1))
        clear h8
        go_wp2_with fail
        exact ⟨⟨k + 1, hlt, by rw [Int.natCast_add]; rfl, HBE.out.alloc hbs _, HNX.out.kept (Kept.of_below ((Below.refl _ _).alloc (Nat.le_refl _) _) (S := fun _ => False)) id, HOK.out.succ HNE.out⟩, by simp [intOf]; omega⟩
    · obtain rfl : k = L.length := by omega
      have hx : decide (L.length < L.length) = false := by simp
      have hxi : decide ((L.length : Int) < (L.length : Int)) = false := by simp
      go_wp2_with fail
      refine bodyPost_ret (v := .tuple #[.int .i64 0, .int .i64 0]) (by simp [results, Tryd.results36, go_sem]) rfl ⟨?_, HBE.out⟩
      rw [once_miss HM.out HOK.out.no]
set_option maxHeartbeats 1600000 in
theorem jonce_any (b : Option Addr) (cap : Nat) (L : List Acc) (w : World) (h : LogAt w w.heap.size b L) (hl : L.length ≤ 2048) :
    Calls Tryd.prog 36 #[.slice b L.length cap] w (OncePost L w) := by
  cases hm : mayLog L with
  | false =>
    have H := Lib.hid h
    have HM := Lib.hid hm
    clear h hm
    go_enter Tryd.func36, Tryd.ntmps36
    go_wp2_with (go_at_call 63; refine (may_any b cap L _ H.out).mono ?_; rintro e w1 ⟨he, hb1⟩; unfold mayAns at he; rw [if_neg (by rw [HM.out]; simp)] at he; subst he; have HB1 := Lib.hid hb1; clear hb1)
    refine bodyPost_ret (v := .tuple #[.int .i64 31, .int .i64 0]) (by simp [results, Tryd.results36, go_sem]) rfl ⟨?_, HB1.out⟩
    rw [once_no HM.out]
  | true => exact jonce_yes b cap L w h hl hm
end Go.Proofs.YtonnlgpjobfnmaaDoor

/- TokenDeep's walk. No condition. -/
import Derived.Test.YtkgdpcmbbelipaaTokNA
import Derived.Test.YtkgdpcmbbelipaaWrap
import Derived.Laws.OwnMore
namespace Go.Proofs.Ytkgdpcmbbelipaa
open Go.RowKit Go.MuLone
set_option maxRecDepth 100000

theorem row1_start {w w1 : World} {k : Tk} {cs : Array Value} (h1 : k.lo = w.heap.size) (h2 : k.hi = w1.heap.size) (h3 : Below w.heap.size w w1) (h4 : k.At w1 0 0 0 0 cs) :
    Row1 w (w1.alloc (.cells #[.pointer (some ⟨k.T, 0, none⟩)] 39)) 0 (.slice (some ⟨w1.heap.size, 0, none⟩) 1 1) (fun _ => k) (fun _ => cs) := by
  refine ⟨h3.alloc h3.size _, ?_, fun g hg a ha hh => ?_, fun a ha => by omega, h4.alloc _, fun a ha => by omega, fun a b hab hb => by omega, fun a ha => ?_⟩
  · have h := World.ownsRow_lit (base := w.heap.size) (e := 39) (size := 1) w1 #[.pointer (some ⟨k.T, 0, none⟩)] 1 h3.size (by unfold maxLen; omega) rfl
    exact h
  · have : g = w1.heap.size := by simpa [Value.ownBlock] using hg.symm
    have := hh.2
    omega
  · have := h3.size
    simp
    omega
theorem infoInt : (Try.prog.info? 3).map (fun i => (i.zero, i.size, i.bytes)) = some (some (.int .i64 0), 1, 8) := by kernel_rfl
theorem neq_bool11 (a b : Bool) (w : World) : (binOp .neq 4 (.bool a) (.bool b)).run Try.prog w = .ok (.bool (a != b)) w := by cases a <;> cases b <;> kernel_rfl
set_option maxHeartbeats 4000000 in
theorem tokenDeep_walk (many wher reason : Int) (_h0 : (Lit.int .i64 many).wf = true) (_h1 : (Lit.int .i64 wher).wf = true) (_h2 : (Lit.int .i64 reason).wf = true) (w : World) :
    Calls Try.prog 4 #[.int .i64 many, .int .i64 wher, .int .i64 reason] w fun e w' => e = .returned (.bool true) ∧ Below w.heap.size w w' := by
  obtain ⟨i0, hi0, hz0, hz1, hz2⟩ := info_parts infoTokPtr
  clear _h0 _h1 _h2
  have hnb := neq_bool11
  obtain ⟨j0, hj0, hjz0, hjz1, hjz2⟩ := info_parts infoInt
  go_enter Try.func4, Try.ntmps4
  go_wp2_with (first | (go_at_call 11; refine (at_in11 many 80 (by omega) (by omega) _).mono ?_; rintro e w' ⟨⟨m, hm80, rfl⟩, rfl⟩))
  refine (tok_new w).mono ?_
  rintro e w1 ⟨k0, cs0, rfl, a1, a2, a3, a4⟩
  have R0 := Lib.hid (row1_start a1 a2 a3 a4)
  clear a1 a2 a3 a4
  go_wp2_with fail
  go_loopw [7, 8] (fun v k wr => ∃ i : Nat, i ≤ m ∧ i ≤ 64 ∧ k = .int .i64 i ∧ ∃ tk css, Hid (Row1 w wr i v tk css)) (fun _ k _ => m + 1 - (intOf k).toNat)
  case atStart => exact ⟨0, by omega, by omega, rfl, _, _, R0⟩
  case round =>
    obtain ⟨i, him, hi64, rfl, tk, css, HR⟩ := hrel
    obtain ⟨g, cap, rfl, hgb, hglt⟩ := HR.out.own.form (by omega)
    have hcell : wr.cell? ⟨g, i, none⟩ = some (.pointer (some ⟨(tk i).T, 0, none⟩)) := (HR.out.own.cellAt i (by omega)).trans (by simp [tokRow])
    rcases (show (i < m ∧ i < 64) ∨ ((i < m ∧ i = 64) ∨ i = m) by omega) with ⟨hlt, h64⟩ | hend
    · have hx : decide ((i : Int) < m) = true := by simp; omega
      · have hx64 : decide ((i : Int) < 64) = true := by simp; omega
        go_wp2_with fail
        refine (child_ok (d := i) (l := 0) (head := 0) HR.out.last h64 (by omega) (HR.out.lo i (Nat.le_refl _)).2).mono ?_
        rintro e w2 ⟨k2, cs2, rfl, b1, b2, b3, b4, b5⟩
        have B1 := Lib.hid b1
        have B2 := Lib.hid b2
        have B3 := Lib.hid b3
        have B4 := Lib.hid b4
        have B5 := Lib.hid b5
        clear b1 b2 b3 b4 b5
        have HCH := Lib.hid (HR.out.child B1.out B5.out)
        have HO := Lib.hid (HCH.out.2.1.alloc (.cells #[.pointer (some ⟨k2.T, 0, none⟩)] 39))
        have NB := Lib.hid (Blk.new w2 39 #[.pointer (some ⟨k2.T, 0, none⟩)])
        have N2 : Hid (i + 1 + 1 ≤ maxLen) := Lib.hid (by unfold maxLen; omega)
        have N3 : Hid ((i + 1 + 1) * 8 ≤ 140737488355328) := Lib.hid (by omega)
        have N4 : Hid (w.heap.size ≤ (w2.alloc (.cells #[.pointer (some ⟨k2.T, 0, none⟩)] 39)).heap.size) := Lib.hid (by have := HCH.out.2.2.1.size; simp; omega)
        go_wp2_with (first | (at_builtin; refine wpList_append_lies _ rfl _ _ 41 rfl w.heap.size 39 i0 _ 1 8 Try.underlying41 hi0 hz0 hz1 hz2 rfl (by decide) _ (i + 1) (tokRow tk (i + 1)) rfl HO.out ⟨w2.heap.size, 0, none⟩ 1 1 [.pointer (some ⟨k2.T, 0, none⟩)] rfl rfl (World.news_of_block NB.out) (by simp [Value.oneCell']) (by omega) N2.out N3.out N4.out _ rfl ?_; intro gg cap2 w3 hown hgrow hat hlt3; have HOWN := Lib.hid hown; have HGROW := Lib.hid hgrow; have HAT := Lib.hid hat; clear hown hgrow hat hlt3))
        go_roundw
        case rel => exact ⟨i + 1, by omega, by omega, by go_num, _, _, Lib.hid (Row1.more HR.out B1.out B2.out B3.out B4.out B5.out HOWN.out HGROW.out HAT.out)⟩
        case measure => simp [intOf]; omega
    · rcases hend with ⟨hlt, h64⟩ | hend
      case' inl =>
        have hx : decide ((i : Int) < m) = true := by simp; omega
        have hx64 : decide ((i : Int) < 64) = false := by simp; omega
        have HL64 : Hid ((tk i).At wr 64 0 (0 : Nat) (0 : Nat) (css i)) := Lib.hid (by have h := HR.out.last; rw [show ((i : Nat) : Int) = 64 by omega] at h; exact h)
        have H64 := Lib.hid h64
        clear h64
        go_wp2_with fail
        refine (child_deep HL64.out).mono ?_
        rintro e w' ⟨rfl, rfl⟩
        go_wp2_with fail
      case' inr =>
        have hx : decide ((i : Int) < m) = false := by simp; omega
        have hnlt : ¬ i < m := by omega
        have H64 := Lib.hid hend
        clear hend
        go_wp2_with fail
      all_goals
        obtain ⟨wz, hwz⟩ : ∃ wz, wz = wr := ⟨_, rfl⟩
        subst hwz
        rw [show ((i : Int) + 1) = ((i + 1 : Nat) : Int) by omega]
        refine (at_in11 wher (i + 1) (by omega) (by omega) _).mono ?_
        rintro e w' ⟨⟨j, hj, rfl⟩, rfl⟩
        have hmk : ∀ W : World, (Instr.makeSlice 44 (.int .i64 ((i : Int) + 1)) (.int .i64 ((i : Int) + 1))).run Try.prog W = .ok (.slice (some ⟨W.heap.size, 0, none⟩) (i + 1) (i + 1)) (W.alloc (.cells (madeCells #[.int .i64 0] (i + 1)) 3)) := fun W => by
          have h := run_make_rowN (P := Try.prog) 44 3 j0 _ Try.underlying44 hj0 hjz0 .i64 .i64 (i + 1) (i + 1) (Nat.le_refl _) (by rw [hjz2]; omega) (by omega) W
          rw [hjz1, Nat.mul_one] at h
          exact h
        have S0 := Lib.hid (Row2.start HR.out)
        go_wp2_with fail
        go_loopw [13] (fun bv wq => ∃ (q : Nat) (D : Deep) (bi : Nat), q ≤ i + 1 ∧ bv = .pointer (some ⟨bi, 0, none⟩) ∧ D.tk = tk ∧ D.o = wz.heap.size ∧ D.c = wz.heap.size + 1 + 1 ∧ D.g = wz.heap.size + 1 ∧ D.d = i ∧ Hid (Row2 w wq D q (.slice (some ⟨g, 0, none⟩) (i + 1) cap) bi wz.heap.size (madeCells #[.int .i64 0] (i + 1)))) (fun bv wq => i + 2 - boxInt wq bv)
        case atStart => exact ⟨0, _, _, by omega, rfl, rfl, rfl, rfl, rfl, rfl, S0⟩
        case round =>
          obtain ⟨q, D, bi, hq, rfl, rfl, eo, ec, eg, ed, HQ⟩ := hrel
          have hbx := HQ.out.cur.cell 0
          have hbz := HQ.out.cur.frozen 0
          have hbl := HQ.out.cur.lt
          simp at hbx
          by_cases hqi : q ≤ i
          · have hx : decide ((q : Int) < (i : Int) + 1) = true := by simp; omega
            have hqc : wr.cell? ⟨g, q, none⟩ = some (.pointer (some ⟨(D.tk q).T, 0, none⟩)) := by
              have ho := HQ.out.own
              rw [ed] at ho
              have hq2 : q < i + 1 := by omega
              exact (ho.cellAt q (by omega)).trans (by simp [tokRow, hq2])
            have hl : ∃ l : Nat, l = (if q < D.d then 1 else 0) ∧ (D.tk q).At wr q 0 l l (D.css q) := by
              by_cases hqd : q < D.d
              · exact ⟨1, by rw [if_pos hqd], (HQ.out.left q (Nat.le_refl _) hqd).1⟩
              · have hqd2 : q = D.d := by omega
                refine ⟨0, by rw [if_neg hqd], ?_⟩
                have h := HQ.out.last (by omega)
                rw [← hqd2] at h
                exact h
            obtain ⟨l, hl1, hl2⟩ := hl
            have HL1 := Lib.hid hl1
            have HL2 := Lib.hid hl2
            have hl64 : l < 64 := by rw [hl1]; split <;> omega
            clear hl1 hl2
            go_wp2_with fail
            refine (on_ok _ _ HL2.out hl64).mono ?_
            rintro e w4 ⟨rfl, hat4, hk4⟩
            have K4 := Lib.hid hk4
            have HAT4 : Hid ((D.tk q).At w4 q 0 ((l : Int) + 1) ((l : Int) + 1) ((laid D q bi l).css q)) := Lib.hid (by simp only [laid, putAt_same]; rw [eo, ec]; exact hat4)
            have hb4 := (hk4.blk HQ.out.cur (fun hh => by have := hh.2; have := (HQ.out.lo q (by omega)).2; have := HQ.out.mm.2.2.2.2.1; omega)).cell 0
            simp at hb4
            clear hk4 hat4
            have HM := Lib.hid (Row2.more HQ.out (by omega) HL1.out HAT4.out K4.out)
            go_wp2_with fail
            go_roundw
            case rel => exact ⟨q + 1, laid D q bi l, w4.heap.size, by omega, rfl, rfl, eo, ec, eg, ed, by simpa using HM⟩
            case measure =>
              have m1 := boxInt_of HQ.out.cur
              have m2 := boxInt_of HM.out.cur
              simp at m2
              simp [m1, m2]
              omega
          · have hx : decide ((q : Int) < (i : Int) + 1) = false := by simp; omega
            have hqe : q = i + 1 := by omega
            have hjc : wr.cell? ⟨g, j, none⟩ = some (.pointer (some ⟨(D.tk j).T, 0, none⟩)) := by
              have ho := HQ.out.own
              rw [ed] at ho
              exact (ho.cellAt j (by omega)).trans (by simp [tokRow, hj])
            have hji : (j : Int) < (i : Int) + 1 := by omega
            have HQE := Lib.hid hqe
            clear hqe
            have HC := Lib.hid (show Row2 w wr D (D.d + 1) (.slice (some ⟨g, 0, none⟩) (D.d + 1) cap) bi wz.heap.size (madeCells #[.int .i64 0] (D.d + 1)) by have h := HQ.out; rw [ed, ← HQE.out]; rw [← HQE.out] at h; exact h)
            have HJ : Hid (j ≤ D.d) := Lib.hid (by omega)
            have HD : Hid (D.d ≤ 64) := Lib.hid (by omega)
            go_wp2_with fail
            refine (cancel_any reason j HC.out HJ.out HD.out).mono ?_
            rintro e w5 ⟨rfl, ac, h3⟩
            have H3 := Lib.hid h3
            clear h3
            go_wp2_with fail
            have ED := Lib.hid ed
            have EC := Lib.hid ec
            have HJI : Hid (j ≤ i) := Lib.hid (by omega)
            clear ed ec eo eg hqi hx hjc hji hbx hbz hbl
            generalize decide (1 ≤ reason) = bb
            go_loop [15] (fun k => Upto (i + 1) k) (fun k => i + 2 - (intOf k).toNat)
            case atStart => exact Upto.mk' (Nat.zero_le _)
            case round =>
              obtain ⟨p, hp, rfl⟩ := hrel
              by_cases hpi : p ≤ i
              · have hx : decide ((p : Int) < (i : Int) + 1) = true := by simp; omega
                have hpc : w5.cell? ⟨g, p, none⟩ = some (.pointer (some ⟨(D.tk p).T, 0, none⟩)) := by
                  have ho := H3.out.own
                  rw [ED.out] at ho
                  have hp2 : p < i + 1 := by omega
                  exact (ho.cellAt p (by omega)).trans (by simp [tokRow, hp2])
                obtain ⟨last, head, cs, ht⟩ := H3.out.tok p (by have := ED.out; omega)
                have HT := Lib.hid ht
                clear ht
                have HPI : Hid (p + 1 ≤ i + 1) := Lib.hid (by omega)
                obtain ⟨ord, b1, b2, b3, b4⟩ := H3.out.book
                have hbc := b2.cell 0
                simp only [EC.out, ED.out] at hbc
                have hba : w5.cell? ⟨D.g, p, none⟩ = some (.int .i64 (turnOf reason j i p)) := by
                  have h := H3.out.at_ p (by have := ED.out; omega)
                  rw [ED.out] at h
                  exact (b3.cell p).trans h
                clear b1 b2 b3 b4
                simp at hbc
                have e1 : ((i + 1 - p : Nat) : Int) = (i : Int) + 1 - p := by omega
                unfold turnOf at hba
                unfold reaOf at HT
                by_cases hy : 1 ≤ reason
                · by_cases hjp : j ≤ p
                  · rw [if_pos ⟨hy, hjp⟩] at HT hba
                    rw [e1] at hba
                    have hx2 : decide ((j : Int) ≤ p) = true := by simp; omega
                    go_wp2_with fail
                    refine (tok_reason HT.out).mono ?_
                    rintro e w' ⟨rfl, rfl⟩
                    go_wp2_with fail
                    go_round
                    case rel => exact Upto.mk1 HPI.out
                    case measure => simp [intOf]; omega
                  · rw [if_neg (by omega)] at HT hba
                    have hx2 : decide ((j : Int) ≤ p) = false := by simp; omega
                    go_wp2_with fail
                    refine (tok_reason HT.out).mono ?_
                    rintro e w' ⟨rfl, rfl⟩
                    go_wp2_with fail
                    go_round
                    case rel => exact Upto.mk1 HPI.out
                    case measure => simp [intOf]; omega
                · rw [if_neg (by omega)] at HT hba
                  have hx2 : decide (1 ≤ reason) = false := by simp; omega
                  go_wp2_with fail
                  refine (tok_reason HT.out).mono ?_
                  rintro e w' ⟨rfl, rfl⟩
                  go_wp2_with fail
                  go_round
                  case rel => exact Upto.mk1 HPI.out
                  case measure => simp [intOf]; omega
              · have hx : decide ((p : Int) < (i : Int) + 1) = false := by simp; omega
                go_wp2_with fail
                have HB6 : Hid ((w5.alloc (.cells #[.pointer none, .pointer none, .int .i64 0] 52)).cell? ⟨w5.heap.size, 0, none⟩ = some (.pointer none)) := Lib.hid (by rw [(Blk.new w5 _ _).cell]; rfl)
                have h0c : (w5.alloc (.cells #[.pointer none, .pointer none, .int .i64 0] 52)).cell? ⟨g, 0, none⟩ = some (.pointer (some ⟨(D.tk 0).T, 0, none⟩)) := by
                  have ho := H3.out.own.alloc (.cells #[.pointer none, .pointer none, .int .i64 0] 52)
                  rw [ED.out] at ho
                  exact (ho.cellAt 0 (by omega)).trans (by simp [tokRow])
                obtain ⟨last, head, cs, ht⟩ := H3.out.tok 0 (by omega)
                have HT := Lib.hid (ht.alloc (.cells #[.pointer none, .pointer none, .int .i64 0] 52)).made0
                have HLOW := Lib.hid (H3.out.low.alloc H3.out.low.size (.cells #[.pointer none, .pointer none, .int .i64 0] 52))
                clear ht
                refine (child_nil _).mono ?_
                rintro e w' ⟨rfl, rfl⟩
                go_wp2_with fail
                refine (child_bare _ _ HB6.out).mono ?_
                rintro e w' ⟨rfl, rfl⟩
                go_wp2_with fail
                refine (cancel_nil 1 _).mono ?_
                rintro e w' ⟨rfl, rfl⟩
                go_wp2_with fail
                refine (cancel_bare _ 1 _ HB6.out).mono ?_
                rintro e w' ⟨rfl, rfl⟩
                go_wp2_with fail
                refine (reason_nil _).mono ?_
                rintro e w' ⟨rfl, rfl⟩
                go_wp2_with fail
                refine (reason_bare _ _ HB6.out).mono ?_
                rintro e w' ⟨rfl, rfl⟩
                go_wp2_with fail
                refine (wait_nil _).mono ?_
                rintro e w' ⟨rfl, rfl⟩
                go_wp2_with fail
                refine (wait_bare _ _ HB6.out).mono ?_
                rintro e w' ⟨rfl, rfl⟩
                go_wp2_with fail
                refine (on_nil _).mono ?_
                rintro e w' ⟨rfl, rfl⟩
                go_wp2_with fail
                refine (on_bare _ _ HB6.out).mono ?_
                rintro e w' ⟨rfl, rfl⟩
                go_wp2_with fail
                refine (on_none _ _ _ HT.out).mono ?_
                rintro e w' ⟨rfl, rfl⟩
                go_wp2_with fail
                refine (works_token _).mono ?_
                rintro e w7 ⟨rfl, hb7⟩
                have HB7 := Lib.hid hb7
                clear hb7
                go_wp2_with fail
                go_ret
                exact ⟨rfl, HLOW.out.trans (HB7.out.mono HLOW.out.size)⟩
end Go.Proofs.Ytkgdpcmbbelipaa

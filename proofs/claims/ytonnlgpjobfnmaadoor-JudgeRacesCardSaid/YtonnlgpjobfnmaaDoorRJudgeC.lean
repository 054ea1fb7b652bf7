/- judge's clocks: (*clock).take. Conditions: what the block holds. -/
import Derived.Test.YtonnlgpjobfnmaaDoorProg
import Derived.Test.YtonnlgpjobfnmaaDoorRJudgeA
import Derived.Deep.MidRow
import Derived.Deep.RegionHeld3
import Derived.Deep.QuietTactic
import Derived.BigQuiet
import Derived.ChangeKeysEq
import Derived.StillTailTactics
namespace Go.Proofs.YtonnlgpjobfnmaaDoor
open Go.RowKit
set_option maxRecDepth 100000

/-- A clock: a number for each thread. -/
abbrev Clk := Nat → Int
def clkL (c : Clk) : List Value := (List.range 64).map fun j => .int .i64 (c j)
theorem clkL_len (c : Clk) : (clkL c).length = 64 := by simp [clkL]
theorem clkL_at (c : Clk) (j : Nat) (h : j < 64) : (clkL c)[j]? = some (.int .i64 (c j)) := by simp [clkL, h]
theorem clkL_cells {c : Clk} {w : World} {b o : Nat} (h : ∀ j, j < 64 → w.cell? ⟨b, o + j, none⟩ = some (.int .i64 (c j))) : w.rangeAt b o (clkL c) := fun j v hv => by
  have hj : j < 64 := by have := (List.getElem?_eq_some_iff.1 hv).1; rw [clkL_len] at this; exact this
  rw [clkL_at c j hj] at hv
  exact (h j hj).trans hv
def clkV (c : Clk) : Value := .agg (clkL c).toArray
theorem info109 : (Tryd.prog.info? 109).map (·.size) = some 64 := by kernel_rfl
theorem infoI3 : (Tryd.prog.info? 3).map (·.size) = some 1 := by kernel_rfl
theorem plainInt : Tryd.prog.plainKey 3 = true := by kernel_rfl
theorem cellsInt : Tryd.prog.cellsOf 3 = 1 := by kernel_rfl
theorem clkA_at (c : Clk) (j : Nat) (h : j < 64) : (clkL c).toArray[j]? = some (.int .i64 (c j)) := by simpa using clkL_at c j h
theorem eqItems64 (c d : Clk) (D : Nat) : ∀ is : List Nat, (∀ i ∈ is, i < 64) → ∃ r : Bool, (∀ w : World, (Op.eqItems (D + 1) 3 (Tryd.prog.cellsOf 3) (clkL c).toArray (clkL d).toArray is).run Tryd.prog w = .ok r w) ∧ (r = true → ∀ i ∈ is, c i = d i)
  | [], _ => ⟨true, fun w => by simp [Op.eqItems], by simp⟩
  | i :: is, h => by
    obtain ⟨r', hr', hi'⟩ := eqItems64 c d D is (fun j hj => h j (by simp [hj]))
    have hi : i < 64 := h i (by simp)
    have p1 := fun w => run_part_plain (P := Tryd.prog) w plainInt (off := i) (clkA_at c i hi)
    have p2 := fun w => run_part_plain (P := Tryd.prog) w plainInt (off := i) (clkA_at d i hi)
    have p3 := fun w => run_equalIn_int (P := Tryd.prog) w D 3 .i64 .i64 (c i) (d i) Tryd.underlying3
    rw [cellsInt] at hr' ⊢
    simp only [Op.eqItems, Nat.mul_one, Sem.run_bind, p1, p2, p3, Result.andThen_ok]
    by_cases e : c i = d i
    · refine ⟨r', fun w => by simpa [e] using hr' w, fun hr j hj => ?_⟩
      rcases List.mem_cons.1 hj with rfl | hj
      · exact e
      · exact hi' hr j hj
    · refine ⟨false, fun w => ?_, by simp⟩
      have : (c i == d i) = false := by simpa using e
      simp [this]
/-- Two clocks, compared. -/
theorem eq64 (c d : Clk) : ∃ r : Bool, (∀ w : World, (binOp .eql 109 (.agg (clkL c).toArray) (.agg (clkL d).toArray)).run Tryd.prog w = .ok (.bool r) w) ∧ (r = true → ∀ j, j < 64 → c j = d j) := by
  obtain ⟨i, hi, _⟩ := Option.map_eq_some_iff.1 infoI3
  obtain ⟨r, hr, hrr⟩ := eqItems64 c d 9998 (List.range 64) (fun i hi => by simpa using hi)
  refine ⟨r, fun w => ?_, fun h j hj => hrr h j (by simpa using hj)⟩
  rw [run_eql_struct, run_equalIn_array (P := Tryd.prog) w 9999 (clkL c).toArray (clkL d).toArray Tryd.underlying109 hi, hr]
  rfl
theorem eqG109 : Tryd.prog.eqGuardType Tryd.prog.depth 109 = false := by kernel_rfl

def cmax (c d : Clk) : Clk := fun j => max (c j) (d j)
/-- What take leaves: the clock at off is the greater of both. -/
def TakePost (T off : Nat) (ty : TypeId) (cs : Array Value) (c d : Clk) (w : World) (e : Ending) (w' : World) : Prop :=
  e = .returned (.tuple #[]) ∧ Kept (· = T) w w' ∧ ∃ cs', Blk w' T ty cs' ∧ cs'.size = cs.size ∧ (∀ j, j < 64 → cs'[off + j]? = some (.int .i64 (cmax c d j))) ∧ ∀ i, (i < off ∨ off + 64 ≤ i) → cs'[i]? = cs[i]?
/-- take's loop: k numbers are done. -/
def TakeRel (T off : Nat) (ty : TypeId) (cs : Array Value) (c d : Clk) (w : World) (i : Value) (wr : World) : Prop :=
  ∃ k : Nat, k ≤ 64 ∧ i = .int .i64 k ∧ Kept (· = T) w wr ∧ Blk wr w.heap.size 109 (clkL d).toArray ∧ ∃ cs', Blk wr T ty cs' ∧ cs'.size = cs.size ∧ (∀ j, j < 64 → cs'[off + j]? = some (.int .i64 (if j < k then cmax c d j else c j))) ∧ ∀ i, (i < off ∨ off + 64 ≤ i) → cs'[i]? = cs[i]?
theorem TakeRel.more {T off : Nat} {ty : TypeId} {cs cs' : Array Value} {c d : Clk} {w wr : World} {k : Nat} {x : Int} (hx : x = cmax c d k) (hlt : k < 64) (hne : T ≠ w.heap.size) (h1 : Kept (· = T) w wr) (h2 : Blk wr w.heap.size 109 (clkL d).toArray) (h3 : Blk wr T ty cs') (h4 : cs'.size = cs.size)
    (h5 : ∀ j, j < 64 → cs'[off + j]? = some (.int .i64 (if j < k then cmax c d j else c j))) (h6 : ∀ i, (i < off ∨ off + 64 ≤ i) → cs'[i]? = cs[i]?) :
    TakeRel T off ty cs c d w (.int .i64 ((k : Int) + 1)) (wr.setCell ⟨T, off + k, none⟩ (.int .i64 x)).drew := by
  refine ⟨k + 1, by omega, by rw [Int.natCast_add]; rfl, (h1.set rfl _).drew, h2.far (fun e => hne e.symm) _, _, h3.set_ _ _, by simpa using h4, fun j hj => ?_, fun i hi => ?_⟩
  · by_cases e : j = k
    · subst e
      have hin : off + j < cs'.size := (Array.getElem?_eq_some_iff.1 (h5 j hj)).1
      rw [Array.getElem?_setIfInBounds_self_of_lt hin, if_pos (Nat.lt_succ_self _), hx]
    · rw [Array.getElem?_setIfInBounds_ne (by omega), h5 j hj]
      congr 2
      by_cases hjk : j < k
      · rw [if_pos hjk, if_pos (Nat.lt_succ_of_lt hjk)]
      · rw [if_neg hjk, if_neg (by omega)]
  · rw [Array.getElem?_setIfInBounds_ne (by omega), h6 i hi]
set_option maxHeartbeats 4000000 in
theorem take_any (T off : Nat) (ty : TypeId) (cs : Array Value) (c d : Clk) (w : World) (hb : Blk w T ty cs) (hc : ∀ j, j < 64 → cs[off + j]? = some (.int .i64 (c j))) :
    Calls Tryd.prog 80 #[.pointer (some ⟨T, off, none⟩), .agg (clkL d).toArray] w (TakePost T off ty cs c d w) := by
  obtain ⟨r, hr, hrr⟩ := eq64 c d
  have hg := eqG109
  have HR := Lib.hid hrr
  clear hrr
  have HB := Lib.hid hb
  have HC := Lib.hid hc
  clear hb hc
  have hu : Tryd.prog.underlying 109 = some (.array 64 3) := Tryd.underlying109
  have hi1 : (Tryd.prog.info? 109).map (·.size) = some (clkL c).length := by rw [clkL_len]; exact info109
  have hi2 : (Tryd.prog.info? 109).map (·.size) = some (clkL d).length := by rw [clkL_len]; exact info109
  have HS : Hid ((w.alloc (.cells (clkL d).toArray 109)).rangeAt T off (clkL c) ∧ (w.alloc (.cells (clkL d).toArray 109)).rangeAt w.heap.size 0 (clkL d)) := Lib.hid
    ⟨clkL_cells (fun j hj => ((HB.out.alloc _).cell _).trans (HC.out j hj)), clkL_cells (fun j hj => by rw [Nat.zero_add, (Blk.new w _ _).cell, clkA_at d j hj])⟩
  go_enter Tryd.func80, Tryd.ntmps80
  go_wp2_with fail
  refine wp_region_held (S := fun W : World => W.rangeAt T off (clkL c) ∧ W.rangeAt w.heap.size 0 (clkL d)) (by kernel_rfl) ?_
  change wpAnyH _ _ _ _ _ _ _ _ (World.drew _)
  refine wpAnyH_take (i := 0) (v := .pointer (some ⟨T, off, none⟩)) rfl (by kernel_rfl) (by kernel_rfl) (by kernel_rfl) (fun _ _ _ h => h) (.inl ⟨by rfl, fun _ _ => rfl⟩) HS.out ?_
  simp only [List.getElem_toArray, List.getElem_cons_zero, Act.put, List.setIfInBounds_toArray, List.set_cons_zero, List.set_cons_succ]
  refine wpAnyH_take (i := 1) (v := .pointer (some ⟨T, off, none⟩)) rfl (by kernel_rfl) (by kernel_rfl) (by kernel_rfl) (fun _ _ _ h => h) (.inl ⟨by rfl, fun _ _ => rfl⟩) HS.out ?_
  simp only [List.getElem_toArray, List.getElem_cons_zero, List.getElem_cons_succ, Act.put, List.setIfInBounds_toArray, List.set_cons_zero, List.set_cons_succ]
  refine wpAnyH_take (i := 2) (v := .agg (clkL c).toArray) rfl (by kernel_rfl) (by kernel_rfl) (by kernel_rfl) (fun _ _ _ h => h) (yieldsIf_load_mid (by rfl) _ _ rfl T off rfl (clkL c) _ (fun _ h => h.1) hu rfl hi1) HS.out ?_
  simp only [List.getElem_toArray, List.getElem_cons_zero, List.getElem_cons_succ, Act.put, List.setIfInBounds_toArray, List.set_cons_zero, List.set_cons_succ]
  refine wpAnyH_take (i := 3) (v := .agg (clkL d).toArray) rfl (by kernel_rfl) (by kernel_rfl) (by kernel_rfl) (fun _ _ _ h => h) (yieldsIf_load_mid (by rfl) _ _ rfl w.heap.size 0 rfl (clkL d) _ (fun _ h => h.2) hu rfl hi2) HS.out ?_
  simp only [List.getElem_toArray, List.getElem_cons_zero, List.getElem_cons_succ, Act.put, List.setIfInBounds_toArray, List.set_cons_zero, List.set_cons_succ]
  refine wpAnyH_take (i := 4) (v := .bool r) rfl (by kernel_rfl) (by kernel_rfl) (by kernel_rfl) (fun _ _ _ h => h) (.inl ⟨by rfl, fun W _ => ?_⟩) HS.out ?_
  · simp only [List.getElem_toArray, List.getElem_cons_zero, List.getElem_cons_succ]
    go_simp
  simp only [List.getElem_toArray, List.getElem_cons_zero, List.getElem_cons_succ, Act.put, List.setIfInBounds_toArray, List.set_cons_zero, List.set_cons_succ]
  refine wpAnyH_done (by kernel_rfl) ?_ _
  go_wp2_with fail
  · refine bodyPost_ret (results_none rfl _ _ _) rfl ⟨rfl, ?_, cs, ?_, rfl, ?_, fun _ _ => rfl⟩
    · exact ((Kept.refl _ _).alloc _).drew
    · exact HB.out.alloc _
    · intro j hj
      have e := HR.out (by assumption) j hj
      rw [HC.out j hj]
      unfold cmax
      rw [← e, Int.max_self]
  have hne : T ≠ w.heap.size := by have := HB.out.lt; omega
  go_loopw [10] (fun i wr => TakeRel T off ty cs c d w i wr) (fun i _ => 64 - (intOf i).toNat)
  case atStart => exact ⟨0, by omega, rfl, ((Kept.refl _ _).alloc _).drew, Blk.new _ _ _, cs, HB.out.alloc _, rfl, fun j hj => by simpa using HC.out j hj, fun _ _ => rfl⟩
  case round =>
    obtain ⟨k, hk, rfl, hkp, hbx, cs', hb', hsz, hat, hoff⟩ := hrel
    by_cases hlt : k < 64
    · have hx : decide ((k : Int) < 64) = true := by simp; omega
      have hk64 : (k : Int) < 64 := by omega
      have c1 : wr.cell? ⟨T, off + k, none⟩ = some (.int .i64 (c k)) := by rw [hb'.cell, hat k hlt, if_neg (by omega)]
      have c2 : wr.cell? ⟨w.heap.size, k, none⟩ = some (.int .i64 (d k)) := by rw [hbx.cell, clkA_at d k hlt]
      have f1 := hb'.frozen (off + k)
      have HKP := Lib.hid hkp
      have HBX := Lib.hid hbx
      have HB' := Lib.hid hb'
      have HSZ := Lib.hid hsz
      have HAT := Lib.hid hat
      have HOFF := Lib.hid hoff
      clear hkp hbx hb' hsz hat hoff
      go_wp2_with fail
      go_still_tail 13, (by kernel_rfl)
      change wpList _ _ _ _ _ wr.drew
      go_wp2_with fail
      all_goals
        refine ⟨TakeRel.more ?_ hlt hne HKP.out HBX.out HB'.out HSZ.out HAT.out HOFF.out, by simp [intOf]; omega⟩
        unfold cmax
        first | rw [Int.max_eq_right (by omega)] | rw [Int.max_eq_left (by omega)]
    · have hx : decide ((k : Int) < 64) = false := by simp; omega
      have hke : k = 64 := by omega
      subst hke
      have HKP := Lib.hid hkp
      have HAT := Lib.hid hat
      clear hkp hat hbx
      go_wp2_with fail
      refine bodyPost_end (results_none rfl _ _ _) rfl ⟨rfl, HKP.out, cs', hb', hsz, fun j hj => by rw [HAT.out j hj, if_pos hj], hoff⟩
end Go.Proofs.YtonnlgpjobfnmaaDoor

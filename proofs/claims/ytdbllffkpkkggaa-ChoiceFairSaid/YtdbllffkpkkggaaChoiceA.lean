/- The contract of (*Choice).refused. Conditions: what the blocks hold. -/
import Derived.Test.YtdbllffkpkkggaaPipeD
import Derived.LaidEqlPtr
import Derived.Lib.Builder
import Derived.Deep.QuietTactic
import Derived.BigQuiet
namespace Go.Proofs.Ytdbllffkpkkggaa
open Go.RowKit Go.MuLone
set_option maxRecDepth 100000

/-- What the method Bell gives of a pipe's pointer. -/
def BellIs (w : World) (pv : Value) (r : Option Addr) : Prop :=
  (pv = .pointer none ∧ r = none) ∨ (∃ p, pv = .pointer (some ⟨p, 0, none⟩) ∧ w.cell? ⟨p, 0, none⟩ = some (.pointer none) ∧ r = none) ∨
  (∃ p i b, pv = .pointer (some ⟨p, 0, none⟩) ∧ w.cell? ⟨p, 0, none⟩ = some (.pointer (some ⟨i, 0, none⟩)) ∧ w.cell? ⟨p, 2, none⟩ = some (.pointer (some ⟨b, 0, none⟩)) ∧ r = some ⟨b, 0, none⟩)
theorem bell_any {w : World} {pv : Value} {r : Option Addr} (h : BellIs w pv r) : Calls Try.prog 30 #[pv] w fun e w' => e = .returned (.pointer r) ∧ w = w' := by
  rcases h with ⟨rfl, rfl⟩ | ⟨p, rfl, h, rfl⟩ | ⟨p, i, b, rfl, h1, h2, rfl⟩
  · exact bell_nil w
  · exact bell_bare p w h
  · exact bell_of p i b w h1 h2
theorem BellIs.below {w w' : World} {B : Nat} {pv : Value} {r : Option Addr} (h : BellIs w pv r) (hb : Below B w w') (hp : ∀ p, pv = .pointer (some ⟨p, 0, none⟩) → p < B) : BellIs w' pv r := by
  rcases h with ⟨rfl, rfl⟩ | ⟨p, rfl, h, rfl⟩ | ⟨p, i, b, rfl, h1, h2, rfl⟩
  · exact .inl ⟨rfl, rfl⟩
  · exact .inr (.inl ⟨p, rfl, (hb.cell (p := ⟨p, 0, none⟩) (hp p rfl)).trans h, rfl⟩)
  · exact .inr (.inr ⟨p, i, b, rfl, (hb.cell (p := ⟨p, 0, none⟩) (hp p rfl)).trans h1, (hb.cell (p := ⟨p, 2, none⟩) (hp p rfl)).trans h2, rfl⟩)
theorem BellIs.lt {w : World} {pv : Value} {r : Option Addr} (h : BellIs w pv r) : ∀ p, pv = .pointer (some ⟨p, 0, none⟩) → p < w.heap.size := by
  intro p hp
  rcases h with ⟨rfl, rfl⟩ | ⟨q, rfl, h, rfl⟩ | ⟨q, i, b, rfl, h1, h2, rfl⟩
  · cases hp
  · cases hp; exact World.block_lt_of_cell? w _ h
  · cases hp; exact World.block_lt_of_cell? w _ h1

theorem run_neq_ptr_other {P : Program} (w : World) {tp te : TypeId} {j : TypeInfo} {a b : Addr} {ca cb : Array Value} {ta tb : TypeId} (hp : P.underlying tp = some (.pointer te)) (hte : P.info? te = some j) (hsz : j.size ≠ 0)
    (hne : a ≠ b) (ha : w.heap[a.block]? = some (.cells ca ta (0, 0))) (hb : w.heap[b.block]? = some (.cells cb tb (0, 0))) :
    (binOp .neq tp (.pointer (some a)) (.pointer (some b))).run P w = .ok (.bool true) w := by
  have h : ∀ d : Nat, (Op.equalIn (d + 1) tp (.pointer (some a)) (.pointer (some b))).run P w = .ok false w := fun d => by
    simp [Op.equalIn, run_underlying hp, sizeOf, typeInfo, hte, hsz, run_sameAddr_other w hne ha hb]
  simp only [binOp]
  simp [Op.equal, Op.maxDepth, h 9999]

/-- The cases of a slice of m: cell 3 j is the pipe, then the two others. -/
def CasesAt (w : World) (g m : Nat) (ps : Nat → Option Addr) : Prop := ∃ cs, Blk w g 36 cs ∧ ∀ j, j < m → ∃ (s : Bool) (v : Int), cs[j * 3]? = some (.pointer (ps j)) ∧ cs[j * 3 + 1]? = some (.bool s) ∧ cs[j * 3 + 2]? = some (.int .i64 v)
theorem CasesAt.below {w w' : World} {g m B : Nat} {ps : Nat → Option Addr} (h : CasesAt w g m ps) (hb : Below B w w') (hg : g < B) : CasesAt w' g m ps := by
  obtain ⟨cs, h1, h2⟩ := h
  exact ⟨cs, h1.below hb hg, h2⟩
theorem CasesAt.lt {w : World} {g m : Nat} {ps : Nat → Option Addr} (h : CasesAt w g m ps) : g < w.heap.size := by
  obtain ⟨cs, h1, _⟩ := h
  exact h1.lt
/-- What refused answers. -/
def refusal (bell : Option Addr) (m : Nat) (rs : Nat → Option Addr) : Int :=
  if bell = none ∨ (∃ j, j < m ∧ rs j = none) then 2 else if m = 0 then 25 else if ∃ j, j < m ∧ rs j ≠ bell then 1 else 0

theorem refused_nil (a : Option Addr) (m c : Nat) (w : World) :
    Calls Try.prog 19 #[.pointer none, .slice a m c] w fun e w' => e = .returned (.int .i64 2) ∧ w = w' := by
  go_enter Try.func19, Try.ntmps19
  go_wp2_with fail
  go_ret
  exact ⟨rfl, rfl⟩
theorem refused_bare (c0 : Nat) (a : Option Addr) (m c : Nat) (w : World) (h : w.cell? ⟨c0, 0, none⟩ = some (.pointer none)) :
    Calls Try.prog 19 #[.pointer (some ⟨c0, 0, none⟩), .slice a m c] w fun e w' => e = .returned (.int .i64 2) ∧ w = w' := by
  go_enter Try.func19, Try.ntmps19
  go_wp2_with fail
  go_ret
  exact ⟨rfl, rfl⟩
theorem refused_empty (c0 b : Nat) (a : Option Addr) (c : Nat) (w : World) (h : w.cell? ⟨c0, 0, none⟩ = some (.pointer (some ⟨b, 0, none⟩))) :
    Calls Try.prog 19 #[.pointer (some ⟨c0, 0, none⟩), .slice a 0 c] w fun e w' => e = .returned (.int .i64 25) ∧ w = w' := by
  go_enter Try.func19, Try.ntmps19
  go_wp2_with fail
  refine wp_loop_rounds 1 ?_
  rw [rounds_succ]
  go_wp2_with fail
  go_ret
  exact ⟨rfl, rfl⟩
def Refused (w : World) (k : Int) (e : Ending) (w' : World) : Prop := e = .returned (.int .i64 k) ∧ Below w.heap.size w w'
/-- Some case's pipe is none. -/
theorem refused_none (c0 b g m c f : Nat) (ps : Nat → Option Addr) (rs : Nat → Option Addr) (w : World) (h : w.cell? ⟨c0, 0, none⟩ = some (.pointer (some ⟨b, 0, none⟩))) (hc : CasesAt w g m ps) (hr : ∀ j, j < m → BellIs w (.pointer (ps j)) (rs j))
    (hm : m ≤ 1000) (hf : f < m) (hn : rs f = none) (hfirst : ∀ j, j < f → rs j ≠ none) :
    Calls Try.prog 19 #[.pointer (some ⟨c0, 0, none⟩), .slice (some ⟨g, 0, none⟩) m c] w (Refused w 2) := by
  have HC := Lib.hid hc
  have HR := Lib.hid hr
  have HF := Lib.hid hfirst
  have HN := Lib.hid hn
  clear hc hr hfirst hn
  go_enter Try.func19, Try.ntmps19
  go_wp2_with fail
  go_loopw [20, 6] (fun k u wr => ∃ j : Nat, j ≤ f ∧ k = .int .i64 j ∧ Hid (Below w.heap.size w wr)) (fun k _ _ => m + 1 - (intOf k).toNat)
  case atStart => exact ⟨0, by omega, rfl, Lib.hid (Below.refl _ _)⟩
  case round =>
    obtain ⟨j, hj, rfl, HB⟩ := hrel
    have hx : decide ((j : Int) < m) = true := by simp; omega
    obtain ⟨cs, hcs, hel⟩ := HC.out.below HB.out HC.out.lt
    obtain ⟨s, v, e0, e1, e2⟩ := hel j (by omega)
    have q0 := (hcs.cell (j * 3)).trans e0
    have q1 := (hcs.cell (j * 3 + 1)).trans e1
    have q2 := (hcs.cell (j * 3 + 2)).trans e2
    have hb1 : (j : Int) < m := by omega
    clear hcs hel e0 e1 e2
    go_wp2_with fail
    refine (bell_any (r := rs j) ?_).mono ?_
    · exact ((HR.out j (by omega)).below HB.out (HR.out j (by omega)).lt).below (B := wr.heap.size) (by exact ((Below.refl _ _).alloc (Nat.le_refl _) _)) (fun p hp => by have := (HR.out j (by omega)).lt p hp; have := HB.out.size; omega)
    rintro e w' ⟨rfl, rfl⟩
    by_cases hjf : j = f
    · subst hjf
      rw [HN.out]
      go_wp2
      go_ret
      exact ⟨rfl, HB.out.alloc HB.out.size _⟩
    · obtain ⟨ad, had⟩ := Option.ne_none_iff_exists'.1 (HF.out j (by omega))
      rw [had]
      have HAD := Lib.hid had
      clear had
      go_wp2
      go_roundw
      case rel => exact ⟨j + 1, by omega, by go_num, Lib.hid (HB.out.alloc HB.out.size _)⟩
      case measure => simp [intOf]; omega

theorem quiet_left {P : Program} {f : FuncId} {args : Array Value} {w : World} {n : Nat} {v : Value}
    (h : Calls P f args (w.drewN n) fun e w' => e = .returned v ∧ w.drewN n = w') : Calls P f args (w.drewN n) fun e w'' => e = .returned v ∧ ∃ m, w'' = w.drewN m :=
  h.mono fun _ _ ⟨he, hm⟩ => ⟨he, n, hm.symm⟩
theorem infoCell : (Try.prog.info? 56).map (fun i => (i.zero, i.size, i.bytes)) = some (some (.agg #[.int .i64 0, .bool false, .int .i32 0, .int .u32 0, .chan none]), 5, 32) := by kernel_rfl
theorem cell_neq {w : World} {a b : Nat} {x y : Int} (ha : IsCell w a x) (hb : IsCell w b y) (hne : a ≠ b) :
    (binOp .neq 24 (.pointer (some ⟨a, 0, none⟩)) (.pointer (some ⟨b, 0, none⟩))).run Try.prog w = .ok (.bool true) w := by
  obtain ⟨i0, hi0, hz0, hz1, hz2⟩ := info_parts infoCell
  exact run_neq_ptr_other w Try.underlying24 hi0 (by omega) (by intro h; cases h; exact hne rfl) ha hb
theorem cell_eq (w : World) (a : Addr) : (binOp .neq 24 (.pointer (some a)) (.pointer (some a))).run Try.prog w = .ok (.bool false) w := by
  obtain ⟨i0, hi0, hz0, hz1, hz2⟩ := info_parts infoCell
  exact Lib.run_neq_ptr_same w a Try.underlying24 hi0

theorem below_drewN {B : Nat} {w w' : World} (h : Below B w w') (n : Nat) : Below B w (w'.drewN n) := ⟨h.os, h.tape, h.output, h.size, h.block⟩
def apartNo (f m : Nat) : Int := if f < m then 1 else 0
set_option maxHeartbeats 2000000 in
/-- Every case's pipe has a bell; f: the first one of another bell (f = m: none). -/
theorem refused_bells (c0 b g m c f : Nat) (ps : Nat → Option Addr) (rs : Nat → Nat) (x : Int) (w : World) (h : w.cell? ⟨c0, 0, none⟩ = some (.pointer (some ⟨b, 0, none⟩))) (hc : CasesAt w g m ps) (hr : ∀ j, j < m → BellIs w (.pointer (ps j)) (some ⟨rs j, 0, none⟩))
    (hm : m ≤ 1000) (h0 : 0 < m) (hf : f ≤ m) (hb : IsCell w b x) (hfirst : ∀ j, j < f → rs j = b) (hother : f < m → rs f ≠ b ∧ ∃ y, IsCell w (rs f) y) :
    Calls Try.prog 19 #[.pointer (some ⟨c0, 0, none⟩), .slice (some ⟨g, 0, none⟩) m c] w (Refused w (apartNo f m)) := by
  have HC := Lib.hid hc
  have HR := Lib.hid hr
  have HF := Lib.hid hfirst
  have HN := Lib.hid hother
  have HBE := Lib.hid hb
  have HCH := Lib.hid h
  have hclt := World.block_lt_of_cell? w _ h
  clear hc hr hfirst hother hb
  go_enter Try.func19, Try.ntmps19
  go_wp2_with fail
  go_loopw [20, 6] (fun k u wr => ∃ j : Nat, j ≤ m ∧ k = .int .i64 j ∧ Hid (Below w.heap.size w wr)) (fun k _ _ => m + 1 - (intOf k).toNat)
  case atStart => exact ⟨0, by omega, rfl, Lib.hid (Below.refl _ _)⟩
  case round =>
    obtain ⟨j, hj, rfl, HB⟩ := hrel
    by_cases hjm : j < m
    · have hx : decide ((j : Int) < m) = true := by simp; omega
      obtain ⟨cs, hcs, hel⟩ := HC.out.below HB.out HC.out.lt
      obtain ⟨s, v, e0, e1, e2⟩ := hel j (by omega)
      have q0 := (hcs.cell (j * 3)).trans e0
      have q1 := (hcs.cell (j * 3 + 1)).trans e1
      have q2 := (hcs.cell (j * 3 + 2)).trans e2
      have hb1 : (j : Int) < m := by omega
      clear hcs hel e0 e1 e2
      go_wp2_with fail
      refine (bell_any (r := some ⟨rs j, 0, none⟩) ?_).mono ?_
      · exact ((HR.out j (by omega)).below HB.out (HR.out j (by omega)).lt).below (B := wr.heap.size) (by exact ((Below.refl _ _).alloc (Nat.le_refl _) _)) (fun p hp => by have := (HR.out j (by omega)).lt p hp; have := HB.out.size; omega)
      rintro e w' ⟨rfl, rfl⟩
      go_wp2
      go_roundw
      case rel => exact ⟨j + 1, by omega, by go_num, Lib.hid (HB.out.alloc HB.out.size _)⟩
      case measure => simp [intOf]; omega
    · have hx : decide ((j : Int) < m) = false := by simp; omega
      have hm0 : ((m : Int) == 0) = false := by rw [beq_eq_false_iff_ne]; omega
      go_wp2_with fail
      go_loopw [34, 8] (fun k u wr => ∃ j : Nat, j ≤ f ∧ k = .int .i64 j ∧ Hid (Below w.heap.size w wr)) (fun k _ _ => m + 1 - (intOf k).toNat)
      case atStart => exact ⟨0, by omega, rfl, HB⟩
      case round =>
        obtain ⟨j2, hj2, rfl, HB2⟩ := hrel
        by_cases hjm2 : j2 < m
        · have hx2 : decide ((j2 : Int) < m) = true := by simp; omega
          obtain ⟨cs, hcs, hel⟩ := HC.out.below HB2.out HC.out.lt
          obtain ⟨s, v, e0, e1, e2⟩ := hel j2 (by omega)
          have q0 := (hcs.cell (j2 * 3)).trans e0
          have q1 := (hcs.cell (j2 * 3 + 1)).trans e1
          have q2 := (hcs.cell (j2 * 3 + 2)).trans e2
          have hb1 : (j2 : Int) < m := by omega
          have hcc := (HB2.out.cell (p := ⟨c0, 0, none⟩) hclt).trans h
          have hclt2 : c0 < wr.heap.size := by have := HB2.out.size; omega
          have HBELL : Hid (∀ n, BellIs ((wr.alloc (.cells #[.pointer (ps j2), .bool s, .int .i64 v] 36)).drewN n) (.pointer (ps j2)) (some ⟨rs j2, 0, none⟩)) := Lib.hid fun n =>
            ((HR.out j2 (by omega)).below HB2.out (HR.out j2 (by omega)).lt).below (B := wr.heap.size) (below_drewN ((Below.refl _ _).alloc (Nat.le_refl _) _) n) (fun p hp => by have := (HR.out j2 (by omega)).lt p hp; have := HB2.out.size; omega)
          have HCB : Hid (∀ n, IsCell ((wr.alloc (.cells #[.pointer (ps j2), .bool s, .int .i64 v] 36)).drewN n) b x) := Lib.hid fun n => Blk.alloc (Blk.below HBE.out HB2.out (Blk.lt HBE.out)) _
          clear hcs hel e0 e1 e2
          by_cases hjf : j2 = f
          · subst hjf
            obtain ⟨hne, y, hy⟩ := HN.out hjm2
            have HCO : Hid (∀ n, IsCell ((wr.alloc (.cells #[.pointer (ps j2), .bool s, .int .i64 v] 36)).drewN n) (rs j2) y) := Lib.hid fun n => Blk.alloc (Blk.below hy HB2.out (Blk.lt hy)) _
            have hneq := fun n => cell_neq (HCO.out n) (HCB.out n) hne
            have HNE := Lib.hid hne
            clear hne hy
            go_wp2_with fail
            go_quiet ((go_at_call 30; exact quiet_left (bell_any (HBELL.out _))))
            go_wp2
            go_ret
            refine ⟨?_, below_drewN (HB2.out.alloc HB2.out.size _) _⟩
            unfold apartNo
            rw [if_pos hjm2]
            rfl
          · have hrb := HF.out j2 (by omega)
            rw [hrb] at HBELL
            have hneq := fun n => cell_eq ((wr.alloc (.cells #[.pointer (ps j2), .bool s, .int .i64 v] 36)).drewN n) ⟨b, 0, none⟩
            have HRB := Lib.hid hrb
            clear hrb
            go_wp2_with fail
            go_quiet ((go_at_call 30; exact quiet_left (bell_any (HBELL.out _))))
            go_wp2
            go_roundw
            case rel => exact ⟨j2 + 1, by omega, by go_num, Lib.hid (below_drewN (HB2.out.alloc HB2.out.size _) _)⟩
            case measure => simp [intOf]; omega
        · have hx2 : decide ((j2 : Int) < m) = false := by simp; omega
          go_wp2
          go_ret
          refine ⟨?_, HB2.out⟩
          unfold apartNo
          rw [if_neg (by omega)]
          rfl
end Go.Proofs.Ytdbllffkpkkggaa

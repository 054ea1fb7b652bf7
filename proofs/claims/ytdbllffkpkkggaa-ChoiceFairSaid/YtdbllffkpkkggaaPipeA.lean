/- The contracts of package pipe, called free (by a thread that is nil), on pipes of two places. Conditions: what the blocks hold (PipeAt). -/
import Derived.Test.YtdbllffkpkkggaaCell
import Derived.Test.YtdbllffkpkkggaaMem
import Derived.Deep.QuietTactic
import Derived.BigQuiet
import Derived.ChangeAlike
import Derived.IntWalk
namespace Go.Proofs.Ytdbllffkpkkggaa
open Go.RowKit Go.MuLone
set_option maxRecDepth 100000

/-- Block p is a pipe of two places: cells i (in), o (out), b (bell); its places lie in block g. -/
def PipeAt (w : World) (p i o b g c : Nat) (t0 s0 t1 s1 : Nat) : Prop :=
  Blk w p 62 #[.pointer (some ⟨i, 0, none⟩), .pointer (some ⟨o, 0, none⟩), .pointer (some ⟨b, 0, none⟩), .slice (some ⟨g, 0, none⟩) 2 c] ∧
  ∃ cs, Blk w g 64 cs ∧ cs[0]? = some (.pointer (some ⟨t0, 0, none⟩)) ∧ cs[1]? = some (.pointer (some ⟨s0, 0, none⟩)) ∧ cs[2]? = some (.pointer (some ⟨t1, 0, none⟩)) ∧ cs[3]? = some (.pointer (some ⟨s1, 0, none⟩))

theorem pnone_no (p i : Nat) (w : World) (h : w.cell? ⟨p, 0, none⟩ = some (.pointer (some ⟨i, 0, none⟩))) :
    Calls Try.prog 13 #[.pointer (some ⟨p, 0, none⟩)] w fun e w' => e = .returned (.bool false) ∧ w = w' := by
  go_enter Try.func13, Try.ntmps13
  go_wp2
  go_ret
  exact ⟨rfl, rfl⟩
theorem pnone_bare (p : Nat) (w : World) (h : w.cell? ⟨p, 0, none⟩ = some (.pointer none)) :
    Calls Try.prog 13 #[.pointer (some ⟨p, 0, none⟩)] w fun e w' => e = .returned (.bool true) ∧ w = w' := by
  go_enter Try.func13, Try.ntmps13
  go_wp2
  go_ret
  exact ⟨rfl, rfl⟩
theorem pnone_nil (w : World) :
    Calls Try.prog 13 #[.pointer none] w fun e w' => e = .returned (.bool true) ∧ w = w' := by
  go_enter Try.func13, Try.ntmps13
  go_wp2
  go_ret
  exact ⟨rfl, rfl⟩
theorem bell_of (p i b : Nat) (w : World) (h : w.cell? ⟨p, 0, none⟩ = some (.pointer (some ⟨i, 0, none⟩))) (h2 : w.cell? ⟨p, 2, none⟩ = some (.pointer (some ⟨b, 0, none⟩))) :
    Calls Try.prog 30 #[.pointer (some ⟨p, 0, none⟩)] w fun e w' => e = .returned (.pointer (some ⟨b, 0, none⟩)) ∧ w = w' := by
  have H := Lib.hid h
  clear h
  go_enter Try.func30, Try.ntmps30
  go_wp2_with (go_at_call 13; refine (pnone_no p i _ H.out).mono ?_; rintro e w' ⟨rfl, rfl⟩)
  go_ret
  exact ⟨rfl, rfl⟩
theorem bell_nil (w : World) :
    Calls Try.prog 30 #[.pointer none] w fun e w' => e = .returned (.pointer none) ∧ w = w' := by
  go_enter Try.func30, Try.ntmps30
  go_wp2_with (go_at_call 13; refine (pnone_nil _).mono ?_; rintro e w' ⟨rfl, rfl⟩)
  go_ret
  exact ⟨rfl, rfl⟩
theorem bell_bare (p : Nat) (w : World) (h : w.cell? ⟨p, 0, none⟩ = some (.pointer none)) :
    Calls Try.prog 30 #[.pointer (some ⟨p, 0, none⟩)] w fun e w' => e = .returned (.pointer none) ∧ w = w' := by
  have H := Lib.hid h
  clear h
  go_enter Try.func30, Try.ntmps30
  go_wp2_with (go_at_call 13; refine (pnone_bare p _ H.out).mono ?_; rintro e w' ⟨rfl, rfl⟩)
  go_ret
  exact ⟨rfl, rfl⟩
/-- The place of k, k being below two. -/
theorem at_of (p g c : Nat) (k : Nat) (hk : k < 2) (w : World) (h : w.cell? ⟨p, 3, none⟩ = some (.slice (some ⟨g, 0, none⟩) 2 c)) :
    Calls Try.prog 15 #[.pointer (some ⟨p, 0, none⟩), .int .i64 k] w fun e w' => e = .returned (.pointer (some ⟨g, k * 2, none⟩)) ∧ ∃ n, w.drewN n = w' := by
  rcases k with _ | _ | k
  · have hx : bits BinOp.and IntKind.i64 0 (IntKind.i64.wrap 1) = 0 := by decide +kernel
    go_enter Try.func15, Try.ntmps15
    go_wp2
    go_quiet (fail)
    go_wp2
    go_ret
    exact ⟨rfl, _, rfl⟩
  · have hx : bits BinOp.and IntKind.i64 1 (IntKind.i64.wrap 1) = 1 := by decide +kernel
    go_enter Try.func15, Try.ntmps15
    go_wp2
    go_quiet (fail)
    go_wp2
    go_ret
    exact ⟨rfl, _, rfl⟩
  · omega
end Go.Proofs.Ytdbllffkpkkggaa

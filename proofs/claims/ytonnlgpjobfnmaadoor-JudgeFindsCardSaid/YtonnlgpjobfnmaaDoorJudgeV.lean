/- The law's own 'lives'. Condition: Go's table of the powers of ten. -/
import Derived.Test.YtonnlgpjobfnmaaDoorJudgeUb
import Derived.KernelRfl
import Derived.Test.YtonnlgpjobfnmaaDoorJudgeT
namespace Go.Proofs.YtonnlgpjobfnmaaDoor
open Go.RowKit
set_option maxRecDepth 100000
def liveL : List Acc := [⟨0, 8, -1, 5, 1, 0, 0, false⟩, ⟨1, 1, 0, 0, 0, 0, 0, false⟩, ⟨1, 8, -1, 5, 0, 0, 0, false⟩]
def liveM : List Acc := [⟨0, 8, -1, 5, 1, 0, 0, false⟩, ⟨0, 2, 0, 0, 0, 0, 0, false⟩, ⟨1, 1, 0, 0, 0, 0, 0, false⟩, ⟨1, 8, -1, 5, 0, 0, 0, false⟩]
def liveH (x : Int) : List Cal := [⟨1, 7, 0, 0, false, 0, 1⟩, ⟨2, 0, 0, x, true, 2, 3⟩]
theorem live_L : mayLog liveL = true ∧ racesOf liveL = [(0, 2)] := by decide
theorem live_M : mayLog liveM = true ∧ racesOf liveM = [] := by decide
theorem live_H : linOf 1 (liveH 7) = (some [0, 1], 0) := by kernel_rfl
theorem live_H8 : linOf 1 (liveH 8) = (none, 0) := by kernel_rfl
end Go.Proofs.YtonnlgpjobfnmaaDoor

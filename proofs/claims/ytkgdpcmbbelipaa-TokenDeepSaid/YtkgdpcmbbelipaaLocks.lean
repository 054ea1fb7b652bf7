/- The numbers under which this translation holds package sync's Mutex, and the closed facts that the library's contracts of Lock and Unlock ask. No conditions. -/
import Derived.Test.YtkgdpcmbbelipaaProg
import Derived.Conc.MuLone
import Derived.KernelRfl
namespace Go.Proofs.Ytkgdpcmbbelipaa
abbrev muLink : Go.Conc.Locks.MuLink := { lock := 63, unlock := 64, ilock := 68, iunlock := 69, lockSlow := 74, unlockSlow := 77, disable := 70, enable := 72, acquire := 73, relMerge := 75, cas32 := 71, add32 := 76, tMutex := 93, tIMutex := 91, tPMutex := 147, tPIMutex := 148, tPI32 := 150, tUP := 152, tNoCopy := 88, tU32 := 89 }
theorem muLib : Go.Conc.Locks.MuLib Try.prog muLink :=
  ⟨Try.func63, Try.func64, Try.func68, Try.func69, Try.func70, Try.func72, Try.func73, Try.func75, Try.func71, Try.func76, Try.underlying91, Try.runUnderlying91, Try.sizeOf91, Try.isAgg91, Try.zeroValue91, Try.underlying93, Try.runUnderlying93, Try.sizeOf93, Try.isAgg93, Try.zeroValue93, Try.underlying147, Try.runUnderlying147, Try.sizeOf147, Try.isAgg147, Try.zeroValue147, Try.underlying148, Try.runUnderlying148, Try.sizeOf148, Try.isAgg148, Try.zeroValue148, Try.underlying150, Try.runUnderlying150, Try.sizeOf150, Try.isAgg150, Try.zeroValue150, Try.underlying152, Try.runUnderlying152, Try.sizeOf152, Try.isAgg152, Try.zeroValue152, Try.underlying88, Try.runUnderlying88, Try.sizeOf88, Try.isAgg88, Try.zeroValue88, Try.underlying21, Try.runUnderlying21, Try.sizeOf21, Try.isAgg21, Try.zeroValue21, (by kernel_rfl)⟩
end Go.Proofs.Ytkgdpcmbbelipaa

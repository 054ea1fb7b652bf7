/- The numbers under which this translation holds package sync's Mutex, and the closed facts that the library's contracts of Lock and Unlock ask. No conditions. -/
import Derived.Test.YtdbllffkpkkggaaProg
import Derived.Conc.MuLone
import Derived.KernelRfl
namespace Go.Proofs.Ytdbllffkpkkggaa
abbrev muLink : Go.Conc.Locks.MuLink := { lock := 36, unlock := 37, ilock := 39, iunlock := 40, lockSlow := 45, unlockSlow := 48, disable := 41, enable := 43, acquire := 44, relMerge := 46, cas32 := 42, add32 := 47, tMutex := 53, tIMutex := 51, tPMutex := 106, tPIMutex := 107, tPI32 := 109, tUP := 111, tNoCopy := 48, tU32 := 49 }
theorem muLib : Go.Conc.Locks.MuLib Try.prog muLink :=
  ⟨Try.func36, Try.func37, Try.func39, Try.func40, Try.func41, Try.func43, Try.func44, Try.func46, Try.func42, Try.func47, Try.underlying51, Try.runUnderlying51, Try.sizeOf51, Try.isAgg51, Try.zeroValue51, Try.underlying53, Try.runUnderlying53, Try.sizeOf53, Try.isAgg53, Try.zeroValue53, Try.underlying106, Try.runUnderlying106, Try.sizeOf106, Try.isAgg106, Try.zeroValue106, Try.underlying107, Try.runUnderlying107, Try.sizeOf107, Try.isAgg107, Try.zeroValue107, Try.underlying109, Try.runUnderlying109, Try.sizeOf109, Try.isAgg109, Try.zeroValue109, Try.underlying111, Try.runUnderlying111, Try.sizeOf111, Try.isAgg111, Try.zeroValue111, Try.underlying48, Try.runUnderlying48, Try.sizeOf48, Try.isAgg48, Try.zeroValue48, Try.underlying21, Try.runUnderlying21, Try.sizeOf21, Try.isAgg21, Try.zeroValue21, (by kernel_rfl)⟩
end Go.Proofs.Ytdbllffkpkkggaa

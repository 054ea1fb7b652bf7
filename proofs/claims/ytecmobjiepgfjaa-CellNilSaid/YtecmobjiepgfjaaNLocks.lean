/- The numbers under which this translation holds package sync's Mutex, and the closed facts that the library's contracts of Lock and Unlock ask. No conditions. -/
import Derived.Test.YtecmobjiepgfjaaProg
import Derived.Conc.MuLone
import Derived.KernelRfl
namespace Go.Proofs.Ytecmobjiepgfjaa
abbrev muLink : Go.Conc.Locks.MuLink := { lock := 147, unlock := 148, ilock := 161, iunlock := 162, lockSlow := 169, unlockSlow := 172, disable := 165, enable := 167, acquire := 168, relMerge := 170, cas32 := 166, add32 := 171, tMutex := 78, tIMutex := 76, tPMutex := 246, tPIMutex := 249, tPI32 := 251, tUP := 253, tNoCopy := 73, tU32 := 74 }
theorem muLib : Go.Conc.Locks.MuLib Try.prog muLink :=
  ⟨Try.func147, Try.func148, Try.func161, Try.func162, Try.func165, Try.func167, Try.func168, Try.func170, Try.func166, Try.func171, Try.underlying76, Try.runUnderlying76, Try.sizeOf76, Try.isAgg76, Try.zeroValue76, Try.underlying78, Try.runUnderlying78, Try.sizeOf78, Try.isAgg78, Try.zeroValue78, Try.underlying246, Try.runUnderlying246, Try.sizeOf246, Try.isAgg246, Try.zeroValue246, Try.underlying249, Try.runUnderlying249, Try.sizeOf249, Try.isAgg249, Try.zeroValue249, Try.underlying251, Try.runUnderlying251, Try.sizeOf251, Try.isAgg251, Try.zeroValue251, Try.underlying253, Try.runUnderlying253, Try.sizeOf253, Try.isAgg253, Try.zeroValue253, Try.underlying73, Try.runUnderlying73, Try.sizeOf73, Try.isAgg73, Try.zeroValue73, Try.underlying21, Try.runUnderlying21, Try.sizeOf21, Try.isAgg21, Try.zeroValue21, (by kernel_rfl)⟩
end Go.Proofs.Ytecmobjiepgfjaa

/- The numbers under which this translation holds package sync's Mutex, and the closed facts that the library's contracts of Lock and Unlock ask. No conditions. -/
import Derived.Test.YtdgfekplfipekaaProg
import Derived.Conc.MuLone
import Derived.KernelRfl
set_option linter.all false
set_option maxRecDepth 100000
set_option maxHeartbeats 16000000
namespace Go.Proofs.Ytdgfekplfipekaa

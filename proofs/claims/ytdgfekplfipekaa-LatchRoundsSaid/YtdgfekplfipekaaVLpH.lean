/- LatchOpens, whole. -/
import Derived.Test.YtdgfekplfipekaaVLrD
import Derived.Test.YtdgfekplfipekaaVLpF
import Derived.Test.YtdgfekplfipekaaVLrH
import Derived.Test.YtdgfekplfipekaaVLbF
set_option linter.all false
set_option maxRecDepth 100000
set_option maxHeartbeats 16000000
namespace Go.Proofs.Ytdgfekplfipekaa
open Go.Conc Go.RowKit
open Go.ConcN (upd upd_same upd_ne)
theorem boxedL (y:World) (v0 v:Value) (t:TypeId):((y.alloc (.cells #[v0] t)).setCell (th y.heap.size 0) v).heap[y.heap.size]? = some (.cells #[v] t (0,0))∧Xg y ((y.alloc (.cells #[v0] t)).setCell (th y.heap.size 0) v)∧((y.alloc (.cells #[v0] t)).setCell (th y.heap.size 0) v).heap.size=y.heap.size + 1:=by
 have h1:(y.alloc (.cells #[v0] t)).heap[y.heap.size]? = some (.cells #[v0] t (0,0)):=heap_alloc_new y _;have h2:=(Xg.refl y).alloc (.cells #[v0] t);exact ⟨by rw [Xd h1];rfl,⟨by rw [Xh];exact h2.1,fun r hr=>by rw [Xb (by omega)];exact h2.2 r hr⟩,by rw [Xh];simp⟩
section
variable {Post:Value→World→Prop} {C:Ctx} {x:World}

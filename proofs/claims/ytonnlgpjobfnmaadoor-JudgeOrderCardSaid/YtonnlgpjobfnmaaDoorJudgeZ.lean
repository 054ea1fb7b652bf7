/- JudgeOrder's walk. Conditions: what the slice's cells hold; Go's table of the powers of ten. -/
import Derived.Test.YtonnlgpjobfnmaaDoorJudgeZa
import Derived.Test.YtonnlgpjobfnmaaDoorJudgeZb
namespace Go.Proofs.YtonnlgpjobfnmaaDoor
open Go.RowKit
set_option maxRecDepth 100000
theorem order_any (b : Option Addr) (cap : Nat) (L : List Acc) (hcap : L.length ≤ cap) (hsz : L.length ≤ 9223372036854775807) (w : World) (h : LogAt w w.heap.size b L) (hT : Tens w) :
    Calls Tryd.prog 5 #[.slice b L.length cap] w (OrderPost w) := by
  by_cases h40 : 40 < L.length
  · exact order_long b cap L hcap hsz h40 w h hT
  · exact order_short b cap L hcap hsz h40 w h hT
end Go.Proofs.YtonnlgpjobfnmaaDoor

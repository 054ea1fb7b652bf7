/- Quiet regions in pieces: the first so many operations; those that a guard strikes. No program in sight. -/
import Derived.WalkKit
import Derived.WalkSpells
import Derived.BigRegion
import Derived.BigQuiet
set_option linter.all false
set_option maxRecDepth 100000
set_option maxHeartbeats 16000000
namespace Go.Proofs.Ytdgfekplfipekaa
open Go.RowKit
def skipsB (ops:Array Oper):List Oper→Act→Bool
 | [],_=>true
 | o::l,a=>!Region.wanted o (yielded ops a.tmps) && skipsB ops l (a.put o.dst undef)
def skipsA:List Oper→Act→Act
 | [],a=>a
 | o::l,a=>skipsA l (a.put o.dst undef)

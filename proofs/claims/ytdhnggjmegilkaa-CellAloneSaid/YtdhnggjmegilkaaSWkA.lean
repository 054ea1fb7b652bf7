/- The document's small functions: Behind, Turns, Place, Behindmost. Conditions: what their arguments are. -/
import Derived.WalkKit
import Derived.WalkSpells
import Derived.WalkLawsBesides
import Derived.Lib.Hide
import Derived.Laws.OwnMore
import Derived.Deep.Draws
import Derived.Laws.Rows
import Derived.IntWalk
import Derived.Test.YtdhnggjmegilkaaSKept
import Derived.Test.YtdhnggjmegilkaaSPlA
import Derived.Test.YtdhnggjmegilkaaProg
set_option linter.all false
set_option maxRecDepth 100000
set_option maxHeartbeats 16000000
namespace Go.Proofs.Ytdhnggjmegilkaa
open Go.RowKit
theorem XbF (op was arg new:Int) (ho:1≤op∧op≤6) (w:World):Calls Try.prog 28 #[.int .i8 op,.int .i64 was,.int .i64 arg,.int .i64 new] w (fun e w'=>e=.returned (.tuple #[.int .i64 (behind op was arg new).1,.bool (behind op was arg new).2])∧w'=w):=by
 have hop:op=1∨op=2∨op=3∨op=4∨op=5∨op=6:=by omega
 clear ho;rcases hop with rfl|rfl|rfl|rfl|rfl|rfl
 ·go_enter Try.func28,Try.ntmps28
  go_wp2_with fail
  go_ret2;exact ⟨rfl,rfl⟩
 ·go_enter Try.func28,Try.ntmps28
  go_wp2_with fail
  go_ret2;exact ⟨rfl,rfl⟩
 ·by_cases he:was=arg
  ·subst he
   have hq:(was == was)=true:=by simp
   go_enter Try.func28,Try.ntmps28
   go_wp2_with fail
   go_ret2;exact ⟨by simp [behind],rfl⟩
  ·have hq:(was == arg)=false:=by simpa using he
   have hq2:decide (was=arg)=false:=by simpa using he
   have HE:=Lib.hid he;clear he
   go_enter Try.func28,Try.ntmps28
   go_wp2_with fail
   go_ret2;exact ⟨by simp [behind,HE.out],rfl⟩
 ·go_enter Try.func28,Try.ntmps28
  go_wp2_with fail
  go_ret2;exact ⟨by simp [behind],rfl⟩
 ·go_enter Try.func28,Try.ntmps28
  go_wp2_with fail
  go_ret2;exact ⟨rfl,rfl⟩
 ·go_enter Try.func28,Try.ntmps28
  go_wp2_with fail
  go_ret2;exact ⟨rfl,rfl⟩

/- Quiet regions in pieces: the first so many operations; those that a guard strikes. No program in sight. -/
import Derived.WalkKit
import Derived.WalkSpells
import Derived.BigRegion
import Derived.BigQuiet
set_option linter.all false
set_option maxRecDepth 100000
set_option maxHeartbeats 16000000
namespace Go.Proofs.Ytdhnggjmegilkaa
open Go.RowKit
def V7 (ops:Array Oper):List Oper→Act→Bool
 | [],_=>true
 | o::l,a=>!Region.wanted o (yielded ops a.tmps) && V7 ops l (a.put o.dst undef)
def Q0:List Oper→Act→Act
 | [],a=>a
 | o::l,a=>Q0 l (a.put o.dst undef)
theorem Qp {P:Program} {ops:Array Oper} {C:World→Prop} {Q:Act→Prop}:∀ (l rest:List Oper) (a:Act),V7 ops l a=true→wpQuiet P ops C Q rest (Q0 l a)→wpQuiet P ops C Q (l ++ rest) a
 | [],_,_,_,h=>h
 | o::l,rest,a,hs,h=>by
  simp only [V7,Bool.and_eq_true,Bool.not_eq_true'] at hs;show if Region.wanted o (yielded ops a.tmps) then _ else wpQuiet P ops C Q (l ++ rest) (a.put o.dst undef)
  rw [if_neg (by rw [hs.1];simp)];exact Qp l rest _ hs.2 h
theorem ZM {P:Program} {ops:Array Oper} {C:World→Prop} {Q Q':Act→Prop} (h:∀ a,Q a→Q' a):∀ (l:List Oper) (a:Act),wpQuiet P ops C Q l a→wpQuiet P ops C Q' l a
 | [],a,hq=>h a hq
 | o::l,a,hq=>by
  unfold wpQuiet at hq ⊢
  split at hq
  ·rename_i hw
   rw [if_pos hw];exact Oper.quiet_mono (fun a=>ZM h l a) hq
  ·rename_i hw
   rw [if_neg hw];exact ZM h l _ hq
theorem Qq {P:Program} {ops:Array Oper} {C:World→Prop} {Q:Act→Prop} {a:Act} {op:Oper} {rest:List Oper} (n:Nat) (hw:Region.wanted op (yielded ops a.tmps)=true) (x:Operand) (ho:op.op=.move x) (hs:V7 ops (rest.take n) (a.put op.dst (a.eval x))=true)
 (h:wpQuiet P ops C Q (rest.drop n) (Q0 (rest.take n) (a.put op.dst (a.eval x)))):wpQuiet P ops C Q (op::rest) a:=by
 have h2:=Qp (rest.take n) (rest.drop n) _ hs h;rw [List.take_append_drop] at h2;exact BigFrame.wpQuiet_want hw fun K hK=>BigFrame.quiet_move x ho (hK _ h2)
theorem Xz {P:Program} {ops:Array Oper} {C:World→Prop} {Q:Act→Prop}:∀ (n:Nat) (l:List Oper) (a:Act),(∀ K:Act→Prop,(∀ a',wpQuiet P ops C Q (l.drop n) a'→K a')→wpQuiet P ops C K (l.take n) a)→wpQuiet P ops C Q l a
 | 0,_,_,h=>h _ fun _ h=>h
 | _ + 1,[],_,h=>h _ fun _ h=>h
 | n + 1,o::l,a,h=>by
  have h1:=h (fun a'=>wpQuiet P ops C Q (l.drop n) a') fun _ h=>h;rw [List.take_succ_cons] at h1;unfold wpQuiet at h1 ⊢;have key:∀ a,wpQuiet P ops C (fun a'=>wpQuiet P ops C Q (l.drop n) a') (l.take n) a→wpQuiet P ops C Q l a:=fun a ha=>Xz n l a fun K hK=>ZM (fun a'=>hK a') (l.take n) a ha
  split at h1
  ·rename_i hw
   rw [if_pos hw];exact Oper.quiet_mono key h1
  ·rename_i hw
   rw [if_neg hw];exact key _ h1
theorem YQ {P:Program} {ops:Array Oper} {C:World→Prop} {Q:Act→Prop} {a:Act} {l:List Oper} {op:Oper} {rest:List Oper} (n:Nat) (hl:l=op::rest) (hw:Region.wanted op (yielded ops a.tmps)=true) (x:Operand) (ho:op.op=.move x) (hs:V7 ops (rest.take n) (a.put op.dst (a.eval x))=true)
 (h:wpQuiet P ops C Q (rest.drop n) (Q0 (rest.take n) (a.put op.dst (a.eval x)))):wpQuiet P ops C Q l a:=by
 subst hl;exact Qq n hw x ho hs h

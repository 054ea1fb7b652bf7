/- LatchAlone in plain words: how the run begins, what it comes to. -/
import Derived.Test.YtdgfekplfipekaaURnL
import Derived.Test.YtdgfekplfipekaaULbA
import Derived.Deep.AppendLies
import Derived.Test.YtdgfekplfipekaaULuB
import Derived.Test.YtdgfekplfipekaaULpB
set_option linter.all false
set_option maxRecDepth 100000
set_option maxHeartbeats 16000000
namespace Go.Proofs.Ytdgfekplfipekaa
open Go.Conc Go.RowKit
open Go.ConcN (upd upd_same upd_ne)
set_option maxRecDepth 100000
theorem infoFL:(Try.prog.info? 39).map (fun i=>(i.zero,i.size,i.bytes))=some (some .nilFunc,1,8):=by kernel_rfl
theorem run_append_opL {P:Program} {a:Act} {o:Oper} {s x:Operand} {t:TypeId} {v v2 u:Value} {w w':World} (ho:o.op=.call { callee:=.builtin .append,args:=#[s,x],argTypes:=#[t,t] }) (hs:a.eval s=v) (hx:a.eval x=v2) (hr:(Builtin.append_ #[t,t] o.type #[v,v2]).run P w=.ok u w'):(execOp a.eval o).run P w=.ok (.value u) w':=by
 unfold execOp;simp only [ho,resolve,invoke,builtin,Sem.run_bind,Sem.run_pure,Result.andThen_ok,List.map_toArray,List.map_cons,List.map_nil,hs,hx,hr]
def fl {α:Type} (F1 F2:α):Nat→List α
 | 0=>[]
 | k + 1=>fl F1 F2 k ++ [F1,F2]
structure LB (x0:World) (F1 F2:Value) (k:Nat) (vB:Value) (x:World):Prop where
 old:Xg x0 x
 row:x.ownsRow x0.heap.size 39 1 vB (2 * k) (fl F1 F2 k)
theorem LB.up {x0 x y:World} {F1 F2:Value} {k:Nat} {vB:Value} (h:LB x0 F1 F2 k vB x) (ho:Xg x y):LB x0 F1 F2 k vB y:=⟨h.old.trans ho,Xj h.row fun g hg=>ho.2 g (own_lt h.row hg)⟩
theorem LB.more {x0 y:World} {f1 f2:FuncId} {c1 c2:Array Value} {k:Nat} {vB:Value} (h:LB x0 (.func (.func f1) #[] c1) (.func (.func f2) #[] c2) k vB y) (hk:k < 1000) {B:Nat} (hB:y.heap[B]? = some (.cells #[.func (.func f1) #[] c1,.func (.func f2) #[] c2] 39 (0,0))) (τ:Nat→Question→Nat) (d:Nat) :
 ∃ g cap y',(Builtin.append_ #[32,32] 32 #[vB,.slice (some ⟨B,0,none⟩) 2 2]).run Try.prog (under y τ d)=.ok (.slice (some ⟨g,0,none⟩) (2 * k + 2) cap) y'∧LB x0 (.func (.func f1) #[] c1) (.func (.func f2) #[] c2) (k + 1) (.slice (some ⟨g,0,none⟩) (2 * k + 2) cap) y':=by
 obtain ⟨i0,hi0,hz0,hz1,hz2⟩:=XM infoFL;obtain ⟨g,cap,y',e1,e2,e3,e4,e5⟩:=run_append_lies (P:=Try.prog) (under y τ d) 32 32 x0.heap.size 39 i0 _ 1 8 Try.underlying32 hi0 hz0 hz1 hz2 rfl (by omega) vB _ _ h.row ⟨B,0,none⟩ 2 2 [.func (.func f1) #[] c1,.func (.func f2) #[] c2] rfl (World.news_of_block (cs:=#[.func (.func f1) #[] c1,.func (.func f2) #[] c2]) (t:=39) (fr:=(0,0)) hB) (by simp [Value.oneCell']) (by omega) (by unfold maxLen;omega) (by omega) h.old.1 _ rfl;have hlow:∀ r,r < x0.heap.size→y'.heap[r]? = y.heap[r]?:=fun r h1=>e3.block r (Nat.lt_of_lt_of_le h1 h.old.1) fun e=>by have:=XE h.row e.symm;omega
 exact ⟨g,cap,y',e1,⟨Nat.le_trans h.old.1 e3.size,fun r h1=>(hlow r h1).trans (h.old.2 r h1)⟩,e2⟩
section
variable {Post:Value→World→Prop} {C:Ctx} {cs:List Frame} {x0:World} {bm ba bo bl bd be bw:Nat}
end
theorem AInv.run {N F tot:Nat} {tr:Nat→Bool} (hb:tot < 1000) (hN:N < 1000) {sched:List Nat→List Nat→Nat} (hs:Xp.Picks sched):∀ (m:Nat) (ph:Nat→PhA) (P:Xp ASh),AInv N F tot tr ph P→muA N (2 * N + 8) ph (P.st.cells 0)≤m→∃ ph',AInv N F tot tr ph' (P.runs sched m).2∧((P.runs sched m).1=1∧(P.runs sched m).2.over=true∨(P.runs sched m).1=3∧(P.runs sched m).2.over=false∧(P.runs sched m).2.able = [])
 | m,ph,P,h,hm=>by
  by_cases h1:P.over=true
  ·have:P.runs sched m=(1,P):=by unfold Xp.runs;rw [if_pos h1]
   rw [this];exact ⟨ph,h,.inl ⟨rfl,h1⟩⟩
  ·replace h1:P.over=false:=by simpa using h1
   by_cases h2:P.able = []
   ·have:P.runs sched m=(3,P):=by unfold Xp.runs;rw [if_neg (by simp [h1]),if_pos h2]
    rw [this];exact ⟨ph,h,.inr ⟨rfl,h1,h2⟩⟩
   ·obtain ⟨ph',i1,i2⟩:=h.turn hb hN (hs P.st.went P.able h2)
    match m with
    | 0=>omega
    | m + 1 =>
     have:P.runs sched (m + 1)=(P.turn (sched P.st.went P.able)).runs sched m:=by
      conv=>lhs;unfold Xp.runs
      rw [if_neg (by simp [h1]),if_neg h2]
     rw [this];exact AInv.run hb hN hs m ph' _ i1 (by omega)
theorem AInv.atEnd {N F tot:Nat} {tr:Nat→Bool} {ph:Nat→PhA} {P:Xp ASh} (h:AInv N F tot tr ph P) (he:P.over=true∨P.able = []):∀ i,i < N→ph i=.E:=by
 have key:∀ i,i < N→P.can i=false:=fun i hi=>by
  have hin:i∈List.range P.n:=List.mem_range.2 (by rw [h.n];exact hi);rcases he with he|he
  ·have:=List.all_eq_true.1 he i hin
   unfold Xp.can;cases hp:P.progs i with
   | acc r k=>rw [hp] at this;cases this
   | _=>rfl
  ·cases hc:P.can i with
   | false=>rfl
   | true =>
    have:i∈P.able:=List.mem_filter.2 ⟨hin,hc⟩
    rw [he] at this;cases this
 have can:∀ i r k,i < N→P.progs i=.acc r k→r.op=6∧P.st.cells r.cell=r.arg:=fun i r k hi hp=>by
  have:=key i hi
  unfold Xp.can at this;rw [hp] at this;simpa [Xx.req] using this
 have hEZ:∀ i,i < N→ph i=.E∨(∃ f k,ph i=.Z f k):=fun i hi=>by
  have hpr:=h.pr i hi;cases hph:ph i with
  | E=>exact .inl rfl
  | Z f k=>exact .inr ⟨f,k,rfl⟩
  | S k =>
   rw [hph] at hpr;obtain ⟨kk,e1,_⟩:=s_next (F:=F + 1) (k:=k) (tr:=tr i);exact absurd (can i _ _ hi (hpr.trans e1)).1 (by decide)
  | W f k =>
   rw [hph] at hpr;obtain ⟨kk,e1,_⟩:=w_next (F:=F + 1) (f:=f) (k:=k) (tr:=tr i);exact absurd (can i _ _ hi (hpr.trans e1)).1 (by decide)
  | C k =>
   rw [hph] at hpr;exact absurd (can i _ _ hi hpr).1 (by decide)
  | D k v =>
   rw [hph] at hpr;exact absurd (can i _ _ hi hpr).1 (show ¬ ((2:Int)=6) by decide)
  | U k =>
   rw [hph] at hpr;obtain ⟨kk,e1,_⟩:=u_next (F:=F + 1) (k:=k) (tr:=tr i);exact absurd (can i _ _ hi (hpr.trans e1)).1 (by decide)
 have hz:sumTo (fun i=>(ph i).holds) N=0:=sumTo_zero fun i hi=>by
  rcases hEZ i hi with e|⟨f,k,e⟩<;>rw [e]<;>rfl
 have hc0:=h.zero.2 hz;intro i hi;rcases hEZ i hi with e|⟨f,k,e⟩
 ·exact e
 ·have hpr:=h.pr i hi
  rw [e] at hpr
  have:=(can i _ _ hi hpr).2
  exact absurd (hc0.symm.trans this) (by decide)
def luBodies (F m:Nat) (tr:Nat→Bool):Nat→List (Xx ASh Unit)
 | 0=>[]
 | i + 1=>luBodies F m tr i ++ [rounds F (tr i) m]
theorem lu_start {F m:Nat} {tr:Nat→Bool}:∀ i,∃ pr,(Xp.init (⟨0,false,0⟩:ASh) fun _=>0).start (luBodies F (m + 1) tr i)=⟨i,pr,⟨⟨0,false,0⟩,fun _=>0,[],[],[],[]⟩⟩∧∀ j,j < i→pr j=(PhA.S m).prog F (tr j)
 | 0=>⟨_,rfl,fun j hj=>absurd hj (by omega)⟩
 | i + 1=>by
  obtain ⟨pr,h1,h2⟩:=lu_start (F:=F) (m:=m) (tr:=tr) i;have hp:=rounds_pass (F:=F) (k:=m + 1) (tr:=tr i) (s:=⟨0,false,0⟩) rfl;refine ⟨upd pr i ((PhA.S m).prog F (tr i)),?_,fun j hj=>?_⟩
  ·simp only [luBodies]
   rw [Xp.start_append,h1];show Xp.settle _ i (rounds F (tr i) (m + 1))=_;unfold Xp.settle;rw [hp]
   rfl
  ·by_cases e:j=i
   ·subst e;rw [upd_same]
   ·rw [upd_ne _ _ e];exact h2 j (by omega)
theorem sumTo_const {c:Nat}:∀ n,sumTo (fun _=>c) n=n * c
 | 0=>by simp [sumTo]
 | n + 1=>by simp only [sumTo,sumTo_const n,Nat.succ_mul]
theorem latch_alone {n m:Nat} (hn:n≤6) (hm:m + 1≤8) (tr:Nat→Bool) (picks:List Int) {e:Int} {Q:Xp ASh}
 (hQ:((Xp.init (⟨0,false,0⟩:ASh) fun _=>0).start (luBodies 16385 (m + 1) tr n)).runs (picked picks) 16384=(e,Q)) :
 e=1∧Q.st.sh.wrong=false∧Q.st.sh.inside=0∧Q.st.cells 0=0∧Q.st.sh.held=Q.st.cells 1∧((∀ i,i < n→tr i=false)→Q.st.sh.held=(n * (m + 1):Nat)):=by
 have hnm:n * (m + 1)≤6 * 8:=Nat.mul_le_mul hn hm;obtain ⟨pr,e1,e2⟩:=lu_start (F:=16385) (m:=m) (tr:=tr) n;have hmu:muA n (2 * n + 8) (fun _=>.S m) 0≤16384:=by
  unfold muA;show sumTo (fun _=>7 + (2 * n + 8) * (m + 1)) n≤_;rw [sumTo_const];have h1:(2 * n + 8) * (m + 1)≤20 * 8:=Nat.mul_le_mul (by omega) hm;have h2:n * (7 + (2 * n + 8) * (m + 1))≤6 * 167:=Nat.mul_le_mul hn (by omega)
  omega
 have z1:sumTo (fun _=>(PhA.S m).holds) n=0:=sumTo_zero fun _ _=>rfl;have z2:sumTo (fun _=>(PhA.S m).ins) n=0:=sumTo_zero fun _ _=>rfl;have z3:sumTo (fun _=>(PhA.S m).rem) n=n * (m + 1):=sumTo_const n;have i1:AInv n 16384 (n * (m + 1)) tr (fun _=>.S m) ⟨n,pr,⟨⟨0,false,0⟩,fun _=>0,[],[],[],[]⟩⟩ :=
  ⟨rfl,e2,by rw [z1];omega,by rw [z1];simp,by rw [z2];rfl,rfl,rfl,Int.le_refl _,by rw [z3];show (0:Int) + _≤_;omega,fun _=>by rw [z3];show (0:Int) + _=_;omega,fun _ _=>trivial,fun _ _=>trivial,hmu⟩
 rw [e1] at hQ;obtain ⟨ph,h,hend⟩:=AInv.run (by omega) (by omega) (picks_any picks) 16384 _ _ i1 hmu;rw [hQ] at h hend;have hst:=h.atEnd (by rcases hend with h|h;exact .inl h.2;exact .inr h.2.2);have y1:sumTo (fun i=>(ph i).holds) n=0:=sumTo_zero fun i hi=>by rw [hst i hi];rfl
 have y2:sumTo (fun i=>(ph i).ins) n=0:=sumTo_zero fun i hi=>by rw [hst i hi];rfl
 have y3:sumTo (fun i=>(ph i).rem) n=0:=sumTo_zero fun i hi=>by rw [hst i hi];rfl
 have hov:Q.over=true:=List.all_eq_true.2 fun i hi=>by
  have hi:=List.mem_range.1 hi;rw [h.n] at hi;rw [h.pr i hi,hst i hi];rfl
 refine ⟨?_,h.wrong,by rw [h.inside,y2];rfl,h.zero.2 y1,h.held,fun ht=>?_⟩
 ·rcases hend with hh|hh
  ·exact hh.1
  ·rw [hov] at hh;exact absurd hh.2.1 (by simp)
 ·have:=h.all ht
  rw [y3] at this;rw [h.held]
  omega
theorem lkP_fuel {Sh:Type}:∀ (m f:Nat),m < f→Fuel m (lkP f:Xx Sh Unit)
 | 0,f + 1,_=>.acc0
 | m + 1,f + 1,h=>.acc fun a=>by
  show Fuel m (if a.was=0 then _ else _)
  split
  ·exact .ret ..
  ·match m with
   | 0=>exact .acc0
   | m + 1=>exact .acc fun b=>lkP_fuel m f (by omega)
theorem crit_fuel {rest:Xx ASh Unit} {m:Nat} (h:∀ j,j≤m→Fuel j rest):Fuel m (crit rest):=.act fun s=>by
 match m with
 | 0=>exact .acc0
 | m + 1 =>
  refine .acc fun a=>.act fun s=>?_
  match m with
  | 0=>exact .acc0
  | m + 1 =>
   refine .acc fun b=>.act fun s=>?_;show Fuel m (if s.wrong=true then _ else _)
   split
   ·exact h m (by omega)
   ·exact Fuel.bind (p:=unP) (by match m with|0=>exact .acc0|m + 1=>exact .acc fun a=>.ret ..) fun j a hj=>.act fun s=>h j (by omega)
theorem rounds_fuel {F:Nat} {tr:Bool}:∀ (k m:Nat),m < F→Fuel m (rounds F tr k)
 | 0,m,_=>.ret ..
 | k + 1,m,h=>by
  have hr:∀ j,j≤m→Fuel j (rounds F tr k):=fun j hj=>rounds_fuel k j (by omega);cases tr with
  | true =>
   refine Fuel.bind (p:=tryP) (by match m with|0=>exact .acc0|m + 1=>exact .acc fun a=>.ret ..) fun j a hj=>?_;show Fuel j (if a=true then _ else _)
   split
   ·exact crit_fuel fun i hi=>hr i (by omega)
   ·exact hr j hj
  | false =>
   refine .act fun s=>?_;show Fuel m (if s.wrong=true then _ else _)
   split
   ·exact crit_fuel hr
   ·refine Fuel.bind (p:=lockP F) ?_ fun j a hj=>.act fun s=>crit_fuel fun i hi=>hr i (by omega)
    match m with
    | 0=>exact .acc0
    | m + 1 =>
     refine .acc fun a=>?_;show Fuel m (if a.ok=true then _ else _)
     split
     ·exact .ret ..
     ·exact lkP_fuel m F (by omega)

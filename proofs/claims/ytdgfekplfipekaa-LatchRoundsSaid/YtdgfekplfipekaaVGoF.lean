/- Are two addresses one? And equality of values. -/
import Derived.Test.YtdgfekplfipekaaVGoC
set_option linter.all false
set_option maxRecDepth 100000
set_option maxHeartbeats 16000000
namespace Go.Proofs.Ytdgfekplfipekaa
open Go.Conc
section
variable {P:Program} {S:YK} {α β:Type} {N:α→Prop}
theorem Vn (w:World) (a:Addr) (s:String):Halt.bad (w.noCell a s):=by
 unfold World.noCell
 split<;>trivial
theorem Xao {w:World} {a:Addr} {b:Bool} {h:Halt} (e:w.farLoad P a b=.error h):Halt.bad h:=by
 unfold World.farLoad at e
 split at e
 ·split at e
  ·cases e
  ·injection e with e;subst e;trivial
 ·injection e with e;subst e;exact Vn _ _ _
theorem WB {w:World} {a:Addr} {v:Value} {b:Bool} {h:Halt} (e:w.farStore P a v b=.error h):Halt.bad h:=by
 unfold World.farStore at e
 split at e
 ·split at e
  ·cases e
  ·injection e with e;subst e;trivial
 ·injection e with e;subst e;exact Vn _ _ _
theorem Xt {w:World} {a:Addr} {v:Value} (h:w.cell? a=some v):a.block < w.heap.size:=by
 rcases Nat.lt_or_ge a.block w.heap.size with l|l
 ·exact l
 ·unfold World.cell? at h
  rw [Array.getElem?_eq_none l] at h;cases h
theorem Xcg {h:Halt} (hb:Halt.bad h):Sim P S N (Sem.halt h):=fun x _ _=>⟨0,fun _=>0,.inl fun τ d _=>⟨h,under x τ d,rfl,hb⟩⟩
theorem Xv {s:String}:Sim P S N (stuck s):=Xcg trivial
theorem XB {u:Unsupported}:Sim P S N (unsupported u):=Xcg trivial
theorem YV {v:Value}:Sim P S N (goPanic v):=fun x _ hT=>⟨0,fun _=>0,.inr ⟨.halt (.panic v) x,.panic hT rfl (Nat.le_refl _),fun τ d _=>rfl,#[],fun es=>by simp [goPanic,Sem.events,Sem.runT],by simp⟩⟩
theorem Ud {a:Addr} {m:Mode}:Sim P S (fun _=>True) (load a m):=fun x w hT=>by
 have hcx:∀ τ d,(under x τ d).cell? a=x.cell? a:=fun _ _=>rfl;have hfx:∀ τ d,(under x τ d).farLoad P a (m == .atomic)=x.farLoad P a (m == .atomic):=fun _ _=>rfl;cases hc:w.cell? a with
 | some v =>
  refine ⟨0,fun _=>0,.inr ⟨.ok v x,?_,fun τ d _=>?_,#[⟨.cell a,false,m == .atomic⟩],fun es=>?_,?_⟩⟩
  ·simp only [load,Sem.run,hc];exact .ok ⟨rfl,trivial⟩ hT rfl (Nat.le_refl _)
  ·simp only [load,Sem.run,hcx,hT.cell? a,hc];rfl
  ·simp only [load,Sem.events,Sem.runT,hc];rfl
  ·simp only [load,Sem.run,hc,Result.world]
   intro e he;obtain rfl:=by simpa using he
   exact Uf (by simp) (Xt hc)
 | none =>
  cases hf:x.farLoad P a (m == .atomic) with
  | error h=>exact ⟨0,fun _=>0,.inl fun τ d _=>⟨h,under x τ d,by simp only [load,Sem.run,hcx,hT.cell? a,hc,hfx,hf],Xao hf⟩⟩
  | ok r =>
   obtain ⟨v,l⟩:=r;obtain ⟨hw,hl⟩:=hT.farLoad hf;refine ⟨0,fun _=>0,.inr ⟨.ok v x,?_,fun τ d _=>?_,l.toArray.map (⟨.cell ·,false,m == .atomic⟩),fun es=>?_,?_⟩⟩
   ·simp only [load,Sem.run,hc,hw];exact .ok ⟨rfl,trivial⟩ hT rfl (Nat.le_refl _)
   ·simp only [load,Sem.run,hcx,hT.cell? a,hc,hfx,hf];rfl
   ·simp only [load,Sem.events,Sem.runT,hc,hw]
   ·simp only [load,Sem.run,hc,hw,Result.world]
    intro e he;simp only [List.map_toArray,List.mem_toArray,List.mem_map] at he;obtain ⟨b,hb,rfl⟩:=he;exact Uf (by simp) (hT.size ▸ hl b hb)
theorem Zn {a:Addr} {v:Value} {m:Mode}:Sim P S (fun _=>True) (store a v m):=fun x w hT=>by
 have hcx:∀ τ d,(under x τ d).cell? a=x.cell? a:=fun _ _=>rfl;have hzx:∀ τ d,(under x τ d).frozen? a=x.frozen? a:=fun _ _=>rfl
 by_cases hag:(∃ c,v=.agg c)∨∃ c,v=.tuple c
 ·refine ⟨0,fun _=>0,.inl fun τ d _=>?_⟩
  rcases hag with ⟨c,rfl⟩|⟨c,rfl⟩<;>exact ⟨_,_,rfl,trivial⟩
 ·have hrun:∀ w:World,(store a v m).run P w=match w.cell? a with
   | some _ => if w.frozen? a then .halt (.unsupported (.unsafePointer "a write to bytes that a string shares")) w else .ok () (w.setCell a v)
   | none=>match w.farStore P a v (m == .atomic) with
    | .ok (w,_)=>.ok () w
    | .error h=>.halt h w:=by
   intro w;cases v<;>first|(exfalso;exact hag (.inl ⟨_,rfl⟩))|(exfalso;exact hag (.inr ⟨_,rfl⟩))|rfl
  have hevs:∀ (w:World) es,(store a v m).events P w es=match w.cell? a with
   | some _=>if w.frozen? a then es else es.push ⟨.cell a,true,m == .atomic⟩
   | none=>match w.farStore P a v (m == .atomic) with
    | .ok (_,l)=>es ++ l.toArray.map (⟨.cell ·,true,m == .atomic⟩)
    | .error _=>es:=by
   intro w es;unfold Sem.events;cases v<;>first|(exfalso;exact hag (.inl ⟨_,rfl⟩))|(exfalso;exact hag (.inr ⟨_,rfl⟩))|(simp only [store,Sem.runT];(repeat' split)<;>first|rfl|simp_all)
  cases hc:w.cell? a with
  | some v₀ =>
   cases hz:x.frozen? a with
   | true => exact ⟨0, fun _ => 0, .inl fun τ d _ => ⟨.unsupported (.unsafePointer "a write to bytes that a string shares"), under x τ d, by rw [hrun]; simp only [hcx, hT.cell? a, hc, hzx, hz, if_true], trivial⟩⟩
   | false =>
    have hz':=hT.thawed a hz;refine ⟨0,fun _=>0,.inr ⟨.ok () (x.setCell a v),?_,fun τ d _=>?_,#[⟨.cell a,true,m == .atomic⟩],fun es=>?_,?_⟩⟩
    ·rw [hrun];simp only [hc,hz',Bool.false_eq_true,if_false];exact .ok ⟨rfl,trivial⟩ (hT.setCell a v) rfl (by simp [World.setCell])
    ·rw [hrun];simp only [hcx,hT.cell? a,hc,hzx,hz,Bool.false_eq_true,if_false];rfl
    ·rw [hevs];simp only [hc,hz',Bool.false_eq_true,if_false];rfl
    ·rw [hrun];simp only [hc,hz',Bool.false_eq_true,if_false,Result.world]
     intro e he;obtain rfl:=by simpa using he
     exact Uf (fun _=>hT.free hz) (by simpa [World.setCell] using Xt hc)
  | none =>
   cases hf:x.farStore P a v (m == .atomic) with
   | error h =>
    refine ⟨0,fun _=>0,.inl fun τ d _=>⟨h,under x τ d,?_,WB hf⟩⟩;have hfe:(under x τ d).farStore P a v (m == .atomic)=.error h:=WA hf τ d;rw [hrun];simp only [hcx,hT.cell? a,hc,hfe]
   | ok r =>
    obtain ⟨x',l⟩:=r;obtain ⟨⟨w',hw,hT',ht,_⟩,hl,hsz,hu⟩:=hT.farStore hf;refine ⟨0,fun _=>0,.inr ⟨.ok () x',?_,fun τ d _=>?_,l.toArray.map (⟨.cell ·,true,m == .atomic⟩),fun es=>?_,?_⟩⟩
    ·rw [hrun];simp only [hc,hw];exact .ok ⟨rfl,trivial⟩ hT' ht (Nat.le_of_eq (by rw [← hT'.size,hsz,hT.size]))
    ·rw [hrun];simp only [hcx,hT.cell? a,hc,hu τ d];rfl
    ·rw [hevs];simp only [hc,hw]
    ·rw [hrun];simp only [hc,hw,Result.world]
     intro e he;simp only [List.map_toArray,List.mem_toArray,List.mem_map] at he;obtain ⟨b,hb,rfl⟩:=he;exact Uf (fun _=>hT.free (hl b hb).2) (by rw [← hT'.size,hsz];exact (hl b hb).1)
theorem VF {o:Obj}:Sim P S (fun _=>True) (newObj o):=fun x w hT=>⟨0,fun _=>0,.inr ⟨.ok x.heap.size { x with heap:=x.heap.push o },by
 simp only [newObj,Sem.run];rw [← hT.size];exact .ok ⟨rfl,trivial⟩ (hT.push o) rfl (by simp),fun τ d _=>rfl,#[],fun es=>by simp [newObj,Sem.events,Sem.runT],by simp⟩⟩
theorem Zc {r:Nat}:Sim P S (fun _=>True) (shape r):=fun x w hT=>⟨0,fun _=>0,.inr ⟨.ok (x.shape? r) x,by
 simp only [shape,Sem.run];rw [← hT.shape? r];exact .ok ⟨rfl,trivial⟩ hT rfl (Nat.le_refl _),fun τ d _=>rfl,#[],fun es=>by simp [shape,Sem.events,Sem.runT],by simp⟩⟩
theorem YL:Sim P S (fun p=>p=P) program:=fun x w hT=>⟨0,fun _=>0,.inr ⟨.ok P x,.ok ⟨rfl,rfl⟩ hT rfl (Nat.le_refl _),fun τ d _=>rfl,#[],fun es=>by simp [program,Sem.events,Sem.runT],by simp⟩⟩
theorem QQ {q:Question}:Sim P S (fun _=>True) (choose q):=fun x w hT=>by
 cases hq:q.forced with
 | true=>exact ⟨0,fun _=>0,.inr ⟨.ok 0 x,by simp only [choose,Sem.run,hq,if_true];exact .ok ⟨rfl,trivial⟩ hT rfl (Nat.le_refl _),fun τ d _=>by simp only [choose,Sem.run,hq,if_true];rfl,#[],fun es=>by simp [choose,Sem.events,Sem.runT,hq],by simp⟩⟩
 | false =>
  refine ⟨1,fun _=>w.tape w.drawn q,.inr ⟨.ok (q.cut (w.tape w.drawn q)) x,?_,fun τ d hA=>?_,#[],fun es=>by simp [choose,Sem.events,Sem.runT,hq],by simp⟩⟩
  ·simp only [choose,Sem.run,hq,Bool.false_eq_true,if_false]
   exact .ok ⟨rfl,trivial⟩ (hT.mvr w.tape (w.drawn + 1)) rfl (Nat.le_refl _)
  ·have:=hA 0 (by omega) q
   simp only [choose,Sem.run,hq,Bool.false_eq_true,if_false];show Result.ok (q.cut (τ d q)) _=_;rw [Nat.add_zero] at this;rw [this];rfl
end
section
variable {P:Program} {S:YK} {α β:Type} {N:α→Prop}
theorem XaL {w:World} {r:Nat} {o:Obj} (h:w.heap[r]? = some o):r < w.heap.size:=by
 rcases Nat.lt_or_ge r w.heap.size with l|l
 ·exact l
 ·rw [Array.getElem?_eq_none l] at h;cases h
theorem Z0 {r:Nat}:Sim P S (fun o=>∀ c t f,o≠.cells c t f) (getObj r):=fun x w hT=>by
 have hux:∀ τ d,(under x τ d).heap[r]? = x.heap[r]?:=fun _ _=>rfl;rcases hT.cases r with ⟨h1,h2⟩|⟨o',o,h1,h2,rfl|⟨c,t,f',f,rfl,rfl,_⟩⟩
 ·exact ⟨0, fun _ => 0, .inl fun τ d _ => ⟨.stuck "getObj: no such block", under x τ d, by simp only [getObj, Sem.run, hux, h1], trivial⟩⟩
 ·by_cases hc:∃ c t f,o'=.cells c t f
  ·obtain ⟨c,t,f,rfl⟩:=hc
   exact ⟨0, fun _ => 0, .inl fun τ d _ => ⟨.stuck "getObj: a row of cells", under x τ d, by simp only [getObj, Sem.run, hux, h1], trivial⟩⟩
  ·have hne:∀ c t f,o'≠.cells c t f:=fun c t f e=>hc ⟨c,t,f,e⟩
   have hrun:∀ w:World,w.heap[r]? = some o'→(getObj r).run P w=.ok o' w:=by
    intro w hw;simp only [getObj,Sem.run,hw]
   have hevs:∀ (w:World) es,w.heap[r]? = some o'→(getObj r).events P w es=es.push ⟨.obj r,false,o'.isChan⟩:=by
    intro w es hw;simp only [getObj,Sem.events,Sem.runT,hw]
   refine ⟨0,fun _=>0,.inr ⟨.ok o' x,?_,fun τ d _=>?_,#[⟨.obj r,false,o'.isChan⟩],fun es=>?_,?_⟩⟩
   ·rw [hrun w h2];exact .ok ⟨rfl,hne⟩ hT rfl (Nat.le_refl _)
   ·rw [hrun _ (by rw [hux];exact h1)];rfl
   ·rw [hevs w es h2];rfl
   ·rw [hrun w h2]
    intro e he;obtain rfl:=by simpa using he
    exact Xc7 (by simp) (XaL h2)
 ·exact ⟨0, fun _ => 0, .inl fun τ d _ => ⟨.stuck "getObj: a row of cells", under x τ d, by simp only [getObj, Sem.run, hux, h1], trivial⟩⟩
theorem YE {r:Nat} {o:Obj} (hr:¬ S.objs r):Sim P S (fun _=>True) (setObj r o):=fun x w hT=>by
 have hux:∀ τ d,(under x τ d).heap[r]? = x.heap[r]?:=fun _ _=>rfl;rcases hT.cases r with ⟨h1,h2⟩|⟨o',o₂,h1,h2,rfl|⟨c,t,f',f,rfl,rfl,_⟩⟩
 ·exact ⟨0, fun _ => 0, .inl fun τ d _ => ⟨.stuck "setObj: no such block", under x τ d, by simp only [setObj, Sem.run, hux, h1], trivial⟩⟩
 ·by_cases hc:∃ c t f,o'=.cells c t f
  ·obtain ⟨c,t,f,rfl⟩:=hc
   exact ⟨0, fun _ => 0, .inl fun τ d _ => ⟨.stuck "setObj: a row of cells", under x τ d, by simp only [setObj, Sem.run, hux, h1], trivial⟩⟩
  ·have hne:∀ c t f,o'≠.cells c t f:=fun c t f e=>hc ⟨c,t,f,e⟩
   have hrun:∀ w:World,w.heap[r]? = some o'→(setObj r o).run P w=.ok () { w with heap:=w.heap.setIfInBounds r o }:=by
    intro w hw;simp only [setObj,Sem.run,hw]
   have hevs:∀ (w:World) es,w.heap[r]? = some o'→(setObj r o).events P w es=es.push ⟨.obj r,true,o.isChan⟩:=by
    intro w es hw;simp only [setObj,Sem.events,Sem.runT,hw]
   refine ⟨0,fun _=>0,.inr ⟨.ok () { x with heap:=x.heap.setIfInBounds r o },?_,fun τ d _=>?_,#[⟨.obj r,true,o.isChan⟩],fun es=>?_,?_⟩⟩
   ·rw [hrun w h2];exact .ok ⟨rfl,trivial⟩ (hT.set h1 hne o) rfl (by simp)
   ·rw [hrun _ (by rw [hux];exact h1)];rfl
   ·rw [hevs w es h2];rfl
   ·rw [hrun w h2]
    intro e he;obtain rfl:=by simpa using he
    exact Xc7 (fun _=>hr) (by simpa [Result.world] using XaL h2)
 ·exact ⟨0, fun _ => 0, .inl fun τ d _ => ⟨.stuck "setObj: a row of cells", under x τ d, by simp only [setObj, Sem.run, hux, h1], trivial⟩⟩
theorem XaG {m:Mark} (h1:∀ a,m≠.acquire a∧m≠.release a∧m≠.releaseMerge a∧m≠.read a∧m≠.write a) (h2:m≠.disable) (h3:m≠.enable):Sim P S (fun _=>True) (mark m):=fun x w hT =>
 ⟨0,fun _=>0,.inr ⟨.ok () x,.ok ⟨rfl,trivial⟩ hT rfl (Nat.le_refl _),fun τ d _=>rfl,#[⟨.mark m,false,true⟩],fun es=>rfl,fun e he=>by
  obtain rfl:=by simpa using he
  refine ⟨fun h=>(by cases h),fun h=>(by cases h),fun m' e=>?_,?_⟩
  ·injection e with e;subst e
   exact ⟨h2,h3,fun a=>⟨(h1 a).2.2.2.1,(h1 a).2.2.2.2⟩⟩
  ·cases m<;>first|trivial|exact absurd rfl (h1 _).1|exact absurd rfl (h1 _).2.1|exact absurd rfl (h1 _).2.2.1|exact absurd rfl (h1 _).2.2.2.1|exact absurd rfl (h1 _).2.2.2.2⟩⟩
theorem W6 {n:Nat}:Sim P S (fun _=>True) (askRoom n):=by
 unfold askRoom
 split
 ·exact XaG (by simp) (by simp) (by simp)
 ·exact Sim.pure trivial
theorem YD {t:TypeId}:Sim P S (fun _=>True) (typeInfo t):=by
 unfold typeInfo;refine YL.bind fun p hp=>?_
 split
 ·exact Sim.pure trivial
 ·exact Xv
theorem X1 {t:TypeId}:Sim P S (fun _=>True) (underlying t):=by
 unfold underlying;refine YL.bind fun p hp=>?_
 split
 ·exact Sim.pure trivial
 ·exact Xv
theorem VC {t:TypeId}:Sim P S (fun _=>True) (zeroValue t):=by
 unfold zeroValue;refine YD.bind fun p hp=>?_
 split
 ·exact Sim.pure trivial
 ·exact XB
theorem ZZ {t:TypeId}:Sim P S (fun _=>True) (sizeOf t):=by
 unfold sizeOf;exact YD.bind fun p hp=>Sim.pure trivial
theorem Uz {t:TypeId}:Sim P S (fun _=>True) (isAgg t):=by
 unfold isAgg;refine X1.bind fun p hp=>?_
 split<;>exact Sim.pure trivial
theorem Zo {a:Addr}:∀ (n i:Nat) (acc:Array Value),Sim P S (fun _=>True) (loadCellsFrom a i n acc)
 | 0,_,_=>Sim.pure trivial
 | n + 1,i,_=>Ud.bind fun _ _=>Zo n (i + 1) _
theorem Qv {a:Addr} {n:Nat}:Sim P S (fun _=>True) (loadCells a n):=Zo n 0 _
theorem YR {a:Addr}:∀ (vs:List Value) (i:Nat),Sim P S (fun _=>True) (storeCells a vs i)
 | [],_=>Sim.pure trivial
 | _::vs,i=>Zn.bind fun _ _=>YR vs (i + 1)
theorem Uy {t:TypeId} {a:Addr}:Sim P S (fun _=>True) (loadVar t a):=by
 unfold loadVar;refine Uz.bind fun b _=>?_
 split
 ·exact ZZ.bind fun n _=>Qv.bind fun _ _=>Sim.pure trivial
 ·exact Ud
theorem V9 {t:TypeId} {a:Addr} {v:Value}:Sim P S (fun _=>True) (storeVar t a v):=by
 unfold storeVar;refine ZZ.bind fun n _=>?_
 split
 ·exact Xv.bind fun _ (_:True)=>YR _ _
 ·exact (Sim.pure trivial).bind fun _ (_:True)=>YR _ _
theorem Vg {t:TypeId} {c:Array Value}:Sim P S (fun _=>True) (newRow t c):=VF.bind fun _ _=>Sim.pure trivial
theorem QM {t:TypeId} {v:Value}:Sim P S (fun _=>True) (newVar t v):=Vg
theorem QP {t:TypeId}:Sim P S (fun _=>True) (elemOf t):=by
 unfold elemOf;refine X1.bind fun b _=>?_
 split
 ·exact Sim.pure trivial
 ·exact Xv
theorem XaF {t:TypeId} {c:Array Value} {n:Nat}:Sim P S (fun _=>True) (part t c n):=by
 unfold part;refine Uz.bind fun b _=>?_
 split
 ·exact ZZ.bind fun n _=>Sim.pure trivial
 ·split
  ·exact Sim.pure trivial
  ·exact Xv
theorem QJ {r:Nat}:Sim P S (fun _=>True) (viewAt r):=by
 unfold viewAt;refine Zc.bind fun b _=>?_
 split
 ·exact Sim.pure trivial
 ·refine Z0.bind fun o _=>?_
  split<;>exact Sim.pure trivial
theorem Wb {r:Nat}:Sim P S (fun _=>True) (numberAt r):=by
 unfold numberAt;refine Zc.bind fun b _=>?_
 split
 ·exact Sim.pure trivial
 ·refine Z0.bind fun o _=>?_
  split<;>exact Sim.pure trivial
theorem W4 {r:Nat}:Sim P S (fun _=>True) (cellsIn r):=by
 unfold cellsIn;refine Zc.bind fun b _=>?_
 split
 ·exact Sim.pure trivial
 ·refine Z0.bind fun o _=>?_
  split<;>exact Sim.pure trivial
theorem QL {a:Addr}:Sim P S (fun _=>True) (noView a):=by
 unfold noView;refine QJ.bind fun b _=>?_
 split
 ·exact XB
 ·exact Sim.pure trivial
theorem Vi {v:Value}:Sim P S (fun _=>True) (asBool v):=by
 unfold asBool
 split
 ·exact Sim.pure trivial
 ·exact Xv
theorem Wh {v:Value}:Sim P S (fun _=>True) (asString v):=by
 unfold asString
 split
 ·exact Sim.pure trivial
 ·exact Xv
theorem Xch {v:Value}:Sim P S (fun _=>True) (asAgg v):=by
 unfold asAgg
 split
 ·exact Sim.pure trivial
 ·exact Xv
theorem UC {v:Value}:Sim P S (fun _=>True) (asIntOf v):=by
 unfold asIntOf
 split
 ·exact Sim.pure trivial
 ·exact XB
 ·exact Xv
theorem ZS {v:Value}:Sim P S (fun _=>True) (asInt v):=UC.bind fun _ _=>Sim.pure trivial
theorem Yy {e:RuntimeError}:Sim P S N (runtimePanic e):=by
 unfold runtimePanic;refine YL.bind fun p _=>?_
 split
 ·exact YV
 ·exact YV
 ·exact YV
 ·exact YV
 ·exact QP.bind fun t _=>QM.bind fun r _=>YV
 ·exact QP.bind fun t _=>QM.bind fun r _=>YV
 ·exact YV
theorem YM {v:Value}:Sim P S (fun _=>True) (asAddr v):=by
 unfold asAddr
 split
 ·exact Sim.pure trivial
 ·exact Yy
 ·exact Xv
end
section
variable {P:Program} {S:YK} {α β:Type} {N:α→Prop}
def Over (a b:Bool):Prop:=b=true→a=true
theorem Xbg {M:α→β→Prop} {a:α} {s:Sem β} (h:∀ w,∃ b,s.run P w=.ok b w∧M a b∧∀ es,s.events P w es=es):Zg P S M (pure a) s:=fun x w hT=>by
 obtain ⟨b,h1,h2,h3⟩:=h w;exact ⟨0,fun _=>0,.inr ⟨.ok a x,by rw [h1];exact .ok h2 hT rfl (Nat.le_refl _),fun τ d _=>rfl,#[],fun es=>by rw [h3];simp,by simp⟩⟩
theorem Xb6 {M:α→β→Prop} {q:Question} {k:Nat→Sem α} {s:Sem β} (hq:q.forced=false) (h:Zg P S M (k (q.cut 0)) s):Zg P S M (choose q >>= k) s:=fun x w hT=>by
 obtain ⟨n,f,hh⟩:=h x w hT;have hrun:∀ τ d,Agree τ d (n + 1) (fun j=>if j=0 then 0 else f (j - 1))→(choose q >>= k).run P (under x τ d)=(k (q.cut 0)).run P (under x τ (d + 1))∧Agree τ (d + 1) n f:=by
  intro τ d hA;have h0:=hA 0 (by omega) q;simp only [Nat.add_zero,if_true] at h0;refine ⟨?_,fun j hj q'=>?_⟩
  ·rw [Sem.run_bind]
   simp only [choose,Sem.run,hq,Bool.false_eq_true,if_false];show (k (q.cut (τ d q))).run P _=_;rw [h0];rfl
  ·have:=hA (j + 1) (by omega) q'
   simp only [Nat.add_sub_cancel,Nat.succ_ne_zero,if_false] at this;rw [Nat.add_assoc,Nat.add_comm 1 j];exact this
 rcases hh with hb|⟨r,h1,h2,h3⟩
 ·refine ⟨n + 1,fun j=>if j=0 then 0 else f (j - 1),.inl fun τ d hA=>?_⟩
  obtain ⟨e1,e2⟩:=hrun τ d hA;rw [e1];exact hb τ (d + 1) e2
 ·refine ⟨n + 1,fun j=>if j=0 then 0 else f (j - 1),.inr ⟨r,h1,fun τ d hA=>?_,h3⟩⟩
  obtain ⟨e1,e2⟩:=hrun τ d hA;rw [e1,h2 τ (d + 1) e2,Nat.add_assoc,Nat.add_comm 1 n]
theorem Z8 {a:Addr}:Zg P S Over (stringish a) (stringish a):=by
 have hz:∀ k,Zg P S Over (frozen k) (frozen k):=fun k=>by
  have:=YB (P:=P) (S:=S) (M:=Over) (a:=k) (k':=pure) (k:=pure) (Zg.pure id) (Zg.pure id) (Zg.pure fun _=>rfl)
  simpa using this
 have hrest:Zg P S Over (shape a.block >>= fun x=>match x with|some (_,n)=>frozen { block:=a.block,off:=n }|none=>pure false) (shape a.block >>= fun x=>match x with|some (_,n)=>frozen { block:=a.block,off:=n }|none=>pure false):=by
  refine Zg.bind Zc fun x y hxy=>?_;obtain ⟨rfl,_⟩:=hxy
  split
  ·exact hz _
  ·exact Zg.pure id
 unfold stringish;refine YB (Zg.pure id) hrest (Xbg fun w=>?_);have e1:∀ es,Sem.events P (shape a.block >>= fun x=>match x with|some (_,n)=>frozen { block:=a.block,off:=n }|none=>pure false) w es=Sem.events P (match w.shape? a.block with|some (_,n)=>frozen { block:=a.block,off:=n }|none=>pure false) w es:=fun _=>rfl;have e2:Sem.run P (shape a.block >>= fun x=>match x with|some (_,n)=>frozen { block:=a.block,off:=n }|none=>pure false) w=Sem.run P (match w.shape? a.block with|some (_,n)=>frozen { block:=a.block,off:=n }|none=>pure false) w:=rfl;show ∃ b,Sem.run P (shape a.block >>= fun x=>match x with|some (_,n)=>frozen { block:=a.block,off:=n }|none=>pure false) w=.ok b w∧Over true b∧∀ es,Sem.events P (shape a.block >>= fun x=>match x with|some (_,n)=>frozen { block:=a.block,off:=n }|none=>pure false) w es=es;rw [e2];simp only [e1];cases w.shape? a.block with
 | none=>exact ⟨false,rfl,fun _=>rfl,fun _=>rfl⟩
 | some v=>exact ⟨w.frozen? { block:=a.block,off:=v.2 },rfl,fun _=>rfl,fun _=>rfl⟩
theorem VA {a b:Addr}:Zg P S Over (mayBeOne a b) (mayBeOne a b):=by
 unfold mayBeOne;dsimp only;refine Z8.bind fun x1 y1 h1=>Z8.bind fun x2 y2 h2=>?_;refine Zg.bind (Sim.bind (N:=fun _=>True) (M:=fun _=>True) Zc fun _ _=>Sim.pure trivial) fun u u' hu=>?_;obtain ⟨rfl,_⟩:=hu;refine Zg.bind (Sim.bind (N:=fun _=>True) (M:=fun _=>True) Zc fun _ _=>Sim.pure trivial) fun v v' hv=>?_;obtain ⟨rfl,_⟩:=hv;refine Zg.pure fun h=>?_;cases y1<;>cases y2<;>cases u<;>cases v<;>simp_all [Over]
theorem Wa {a b:Addr}:Sim P S (fun _=>True) (sameAddr a b):=by
 have hend:Sim P S (fun _=>True) (do
  noView a
  noView b
  if ← mayBeOne a b then return (← choose (.extern "sameAddr.stringBytes" 2)) == 1
  pure false:Sem Bool):=by
  refine QL.bind fun _ _=>QL.bind fun _ _=>VA.bind fun x y h=>?_;cases y with
  | true=>obtain rfl:=h rfl;exact QQ.bind fun n _=>Sim.pure trivial
  | false =>
   cases x with
   | false=>exact Sim.pure trivial
   | true =>
    simp only [if_true,Bool.false_eq_true,if_false];exact Xb6 rfl (Zg.pure ⟨rfl,trivial⟩)
 unfold sameAddr
 split
 ·exact Sim.pure trivial
 ·dsimp only
  have hd:∀ {t:Sem Bool},Zg P S (Eqs fun _=>True) (unsupported Unsupported.addressObserved >>= fun (_:Unit)=>(do
   noView a
   noView b
   if ← mayBeOne a b then return (← choose (.extern "sameAddr.stringBytes" 2)) == 1
   pure false:Sem Bool)) t:=Qu fun w=>⟨_,w,rfl,trivial⟩
  refine YB (YB hd hend ?_) (YB hend hend hend) (YB ?_ hend ?_)
  ·exact hd
  ·exact hd
  ·exact hd

/- The gate's memory at a thread's being let go. -/
import Derived.Test.YtdgfekplfipekaaVRnO
set_option linter.all false
set_option maxRecDepth 100000
set_option maxHeartbeats 16000000
namespace Go.Proofs.Ytdgfekplfipekaa
open Go.Conc Go.RowKit
open Go.ConcN (upd upd_same upd_ne)
set_option maxRecDepth 100000
inductive NoOut {Sh α:Type}:Xx Sh α→Prop
 | ret (a:α):NoOut (.ret a)
 | fall:NoOut .fall
 | acc {r:Ask} {k:Told→Xx Sh α} (hk:∀ a,NoOut (k a)):NoOut (.acc r k)
 | act {f:Sh→Sh} {k:Sh→Xx Sh α} (hk:∀ s,NoOut (k s)):NoOut (.act f k)
theorem NoOut.pass {Sh α:Type}:∀ {p:Xx Sh α},NoOut p→∀ s,NoOut (p.pass s).2
 | .ret a,h,s=>h
 | .fall,h,s=>h
 | .out,h,s=>h
 | .acc r k,h,s=>h
 | .act f k,h,s=>by
  cases h with
  | act hk=>simp only [Xx.pass];exact NoOut.pass (hk s) (f s)
structure XV (Sh:Type) where
 f:Nat→Xp Sh→Prop
 out:∀ {m P},f m P→∀ j,j < P.n→P.progs j≠.out
 less:∀ {m P},f (m + 1) P→f m P
 st:∀ {m P} (w r:List Nat),f m P→f m { P with st:={ P.st with went:=w,ready:=r } }
 turn:∀ {m P q},f (m + 1) P→q∈P.able→f m (P.turn q)
def XV.no (Sh:Type):XV Sh where
 f:=fun _ P=>∀ j,j < P.n→NoOut (P.progs j)
 out:=fun h j hj e=>by have:=h j hj;rw [e] at this;cases this
 less:=fun h=>h
 st:=fun _ _ h=>h
 turn:=fun {m P q} h hq j hj=>by
  obtain ⟨h1,h2⟩:=List.mem_filter.1 hq;have hqn:=List.mem_range.1 h1;cases hp:P.progs q with
  | acc r k =>
   have ht:P.turn q = { ({ P with st:=({ P.st with went:=P.st.went ++ [q],ready:=P.st.ready ++ [P.able.length] }:Rst Sh).access q r }:Xp Sh) with progs:=upd P.progs q ((k (P.st.ans r)).pass P.st.sh).2,st:={ (({ P.st with went:=P.st.went ++ [q],ready:=P.st.ready ++ [P.able.length] }:Rst Sh).access q r) with sh:=((k (P.st.ans r)).pass P.st.sh).1 } }:=by
    simp only [Xp.turn,Xp.goes,hp,Xp.settle];rfl
   rw [ht] at hj ⊢;show NoOut (upd P.progs q _ j)
   by_cases e:j=q
   ·subst e
    rw [upd_same]
    have:=h j hj
    rw [hp] at this;cases this with
    | acc hk=>exact (hk _).pass _
   ·rw [upd_ne _ _ e];exact h j hj
  | ret a=>unfold Xp.can at h2;rw [hp] at h2;simp [Xx.req] at h2
  | fall=>unfold Xp.can at h2;rw [hp] at h2;simp [Xx.req] at h2
  | out=>unfold Xp.can at h2;rw [hp] at h2;simp [Xx.req] at h2
  | act f k=>unfold Xp.can at h2;rw [hp] at h2;simp [Xx.req] at h2
structure Zv (Sh:Type) where
 A:Nat→Nat
 nc:Nat
 I:Sh→(Nat→Int)→(Nat→Prop)→World→Prop
 inj:∀ a b,a < nc→b < nc→A a=A b→a=b
 cell:∀ {sh cells col x},I sh cells col x→∀ i,i < nc→XZ x (A i)∧x.cell? (th (A i) 0)=some (.int .i64 (cells i))∧¬ col (A i)
 frame:∀ {sh cells col x},I sh cells col x→∀ (col':Nat→Prop) (y:World),x.heap.size≤y.heap.size→(∀ r,r < x.heap.size→¬ col r→y.heap[r]? = x.heap[r]?)→(∀ r,r < x.heap.size→(col' r→col r))→I sh cells col' y
 set:∀ {sh cells col x},I sh cells col x→∀ (i:Nat) (v:Int) (col':Nat→Prop) (y:World),i < nc→x.heap.size≤y.heap.size→(∀ r,r < x.heap.size→¬ col r→r≠A i→y.heap[r]? = x.heap[r]?)→y.heap[A i]? = (x.setCell (th (A i) 0) (.int .i64 v)).heap[A i]?→(∀ r,r < x.heap.size→(col' r→col r))→I sh (upd cells i v) col' y
 fin:XV Sh
 keep:Nat→Addr→Prop
 keepI:∀ {sh cells col x},I sh cells col x→∀ i a,keep i a→a.block < x.heap.size∧¬ col a.block∧∀ c,c < nc→a.block≠A c
def Qn (x:World) (tb rb:Nat):Prop:=x.cell? (th tb 0)=some (P0 rb)∧x.cell? (th tb 13)=some (.bool false)∧rb≠tb
section
variable {Sh:Type}
def Reach (Post:Value→World→Prop) (S:Zv Sh) (num tb:Nat) (cb:Frame) (Aft:(Nat→Prop)→World→(Told→Xx Sh Unit)→Frame→List Frame→Prop) (C:Ctx) (col:Nat→Prop) (cells:Nat→Int) (x:World) (sh:Sh) (p:Xx Sh Unit):Prop :=
 ∀ (y:World) (Pv:Nat→Prop),x.heap.size≤y.heap.size→(∀ r,col r→y.heap[r]? = x.heap[r]?)→(∀ r,Pv r→r < y.heap.size∧¬ col r)→S.I sh cells (fun r=>col r∨Pv r) y→(∀ i a,i≠num→S.keep i a→y.cell? a=x.cell? a) →
  match p with
  | .acc r k=>∀ c cs,r.Good→r.cell < S.nc→Aft Pv y k c cs→JG Try.prog Post C (G (Frame.enter Try.prog 33 #[P0 tb,P0 (S.A r.cell),.int .i8 r.op,.int .i64 r.arg,.int .i64 r.new] .normal) (c::cs)) y
  | .ret _=>∀ v,JG Try.prog Post C (G (cb.finish v) [YX Try.prog]) y
  | .out=>False
  | _=>True
def Yq (Post:Value→World→Prop) (cb c:Frame) (cs:List Frame):Prop:=∀ (C:Ctx) (x:World),
 (∀ y,x.heap.size≤y.heap.size→(∀ r,r < x.heap.size→y.heap[r]? = x.heap[r]?)→JG Try.prog Post C (G (cb.raise [{ v:=YI,recovered:=false }]) [YX Try.prog]) y)→JG Try.prog Post C (G (c.raise [{ v:=YI,recovered:=false }]) cs) x
def XR (Post:Value→World→Prop) (S:Zv Sh) (num tb rb:Nat) (cb:Frame):Nat→(Nat→Prop)→World→(Told→Value)→(Told→Xx Sh Unit)→Frame→List Frame→Prop
 | 0,_,_,_,_,c,cs=>Yq Post cb c cs
 | m + 1,Pv,x0,f,k,c,cs=>Yq Post cb c cs∧∀ (C:Ctx) (x:World) (col:Nat→Prop) (sh:Sh) (cells:Nat→Int) (a:Told),C.d=0→Qn x tb rb→col tb→(∀ r,col r→r < x.heap.size)→(∀ r,Pv r→¬ col r∧x.heap[r]? = x0.heap[r]?)→(∀ b,S.keep num b→x.cell? b=x0.cell? b)→S.I sh cells (fun r=>col r∨Pv r) x →
  Reach Post S num tb cb (fun Pv y=>XR Post S num tb rb cb m Pv y fun a=>.tuple #[.int .i64 a.was,.int .i64 a.now,.bool a.ok]) C col cells x ((k a).pass sh).1 ((k a).pass sh).2→JG Try.prog Post C (G (c.finish (f a)) cs) x
def QG (a:Told):Value:=.tuple #[.int .i64 a.was,.int .i64 a.now,.bool a.ok]
structure Vu (Post:Value→World→Prop) (S:Zv Sh) (num m:Nat) (fb:FuncId) (cap:Array Value) (body:Xx Sh Unit):Prop where
 has:Yb fb
 go:∀ (C:Ctx) (x:World) (col:Nat→Prop) (sh:Sh) (cells:Nat→Int) (tb rb:Nat) (cb:Frame),C.d=0→Qn x tb rb→col tb→(∀ r,col r→r < x.heap.size)→S.I sh cells col x →
  Reach Post S num tb cb (fun Pv y=>XR Post S num tb rb cb m Pv y QG) C col cells x (body.pass sh).1 (body.pass sh).2→JG Try.prog Post C (G (Frame.enter Try.prog fb (#[P0 tb] ++ cap) .normal) [cb,YX Try.prog]) x
end
section
variable {Sh:Type} {g:Gs} {P:Xp Sh} {stops:Bool} {x:World}
theorem Xy.threads (H:Xy g P none stops x) (hc:∀ (j:Nat) (r:Ask) (k:Told→Xx Sh Unit),j < P.n→P.progs j=.acc r k→x.cell? (th (g.A r.cell) 0)=some (.int .i64 (P.st.cells r.cell))) (hout:∀ j,j < P.n→(P.progs j).ended=true∨∃ r k,P.progs j=.acc r k) :
 ∃ all:List Thr,all.length=P.n∧(∀ (j:Nat) (t:Thr),all[j]? = some t→t.At x j)∧(all.map fun t=>P0 t.tb)=(g.thr.map fun t=>P0 t.tb)∧(∀ (j:Nat) (t:Thr),all[j]? = some t→t.may=P.can j∧t.e=(P.progs j).ended):=by
 have hex:∀ j,j < P.n→∃ t:Thr,t.At x j∧(∀ u,g.thr[j]? = some u→t.tb=u.tb)∧t.may=P.can j∧t.e=(P.progs j).ended:=fun j hj=>by
  obtain ⟨u,hu⟩:∃ u,g.thr[j]? = some u:=⟨_,List.getElem?_eq_getElem (by rw [H.num];exact hj)⟩
  obtain ⟨h1,h2,_,_,⟨vv,a,h5,h6⟩,h7⟩:=H.thr j u hu;rcases hout j hj with he|⟨r,k,hp⟩
  ·refine ⟨⟨u.tb,g.rb,u.wk,u.st,vv,a,true,0,0⟩,⟨?_,fun e=>by cases e⟩,fun u' e=>by rw [hu] at e;rw [OI e],?_,he.symm⟩
   ·have:=h5;rw [he] at this;exact this
   ·have hr:(P.progs j).req=none:=by
     cases hq:P.progs j<;>rw [hq] at he<;>first|rfl|cases he
    simp [Thr.may,VO,Xp.can,hr]
  ·obtain ⟨e1,e2⟩:=h6 rfl r k hp
   have hne:(P.progs j).ended=false:=by rw [hp];rfl
   refine ⟨⟨u.tb,g.rb,u.wk,u.st,vv,a,false,g.A r.cell,P.st.cells r.cell⟩,⟨?_,fun _ _=>⟨e1,hc j r k hj hp⟩⟩,fun u' e=>by rw [hu] at e;rw [OI e],?_,hne.symm⟩
   ·have:=h5;rw [hne] at this;exact this
   ·simp only [Thr.may,VO,Xp.can,hp,Xx.req,e2,Ask.at',Bool.not_false,Bool.true_and]
    by_cases q1:r.op=6<;>by_cases q2:P.st.cells r.cell=r.arg<;>simp [q1,q2]
 have hall:∀ n,n≤P.n→∃ all:List Thr,all.length=n∧∀ (j:Nat) (t:Thr),all[j]? = some t→t.At x j∧(∀ u,g.thr[j]? = some u→t.tb=u.tb)∧t.may=P.can j∧t.e=(P.progs j).ended:=fun n=>by
  induction n with
  | zero=>exact fun _=>⟨[],rfl,fun j t e=>by simp at e⟩
  | succ n ih =>
   intro hn;obtain ⟨all,h1,h2⟩:=ih (by omega);obtain ⟨t,ht⟩:=hex n (by omega);refine ⟨all ++ [t],by simp [h1],fun j u hu=>?_⟩;rcases Nat.lt_or_ge j all.length with h|h
   ·rw [List.getElem?_append_left h] at hu;exact h2 j u hu
   ·rw [List.getElem?_append_right h] at hu
    have hj:j - all.length=0:=by
     rcases Nat.eq_zero_or_pos (j - all.length) with h0|h0
     ·exact h0
     ·rw [List.getElem?_eq_none (by simp;omega)] at hu;cases hu
    rw [hj] at hu;obtain rfl:t=u:=by simpa using hu
    obtain rfl:j=n:=by omega
    exact ht
 obtain ⟨all,h1,h2⟩:=hall P.n (Nat.le_refl _);refine ⟨all,h1,fun j t e=>(h2 j t e).1,?_,fun j t e=>(h2 j t e).2.2⟩;apply List.ext_getElem?;intro j;rw [List.getElem?_map,List.getElem?_map];rcases Nat.lt_or_ge j P.n with h|h
 ·obtain ⟨t,ht⟩:∃ t,all[j]? = some t:=⟨_,List.getElem?_eq_getElem (by omega)⟩
  obtain ⟨u,hu⟩:∃ u,g.thr[j]? = some u:=⟨_,List.getElem?_eq_getElem (by rw [H.num];exact h)⟩
  rw [ht,hu];simp [(h2 j t ht).2.1 u hu]
 ·rw [List.getElem?_eq_none (l:=all) (by omega),List.getElem?_eq_none (l:=g.thr) (by rw [H.num];exact h)];rfl
end
section
variable {Sh:Type} {S:Zv Sh} {g:Gs} {P:Xp Sh} {stops:Bool} {x:World}
theorem Xy.atStep {i:Nat} {t:Th} {r:Ask} {k:Told→Xx Sh Unit} {sh:Sh} {h:Option Nat} (H:Xy g P h false x) (hh:h≠some i) (hap:g.Apart) (hA:g.A=S.A) (hi:g.thr[i]? = some t) (hp:P.progs i=.acc r k) (hI:S.I sh P.st.cells g.col x) (hr:r.cell < S.nc) (hn:∀ c∈P.st.names,c < S.nc) (hlen:P.st.log.length < 70000) :
 Xdx x t.tb g.rb t.ab g.mb g.N i g.vT g.vL g.vW g.vR g.vF g.A P.st.names P.st.log r (P.st.cells r.cell):=by
 have hT:=H.thr i t hi;have e0:(h == some i)=false:=by
  cases h with
  | none=>rfl
  | some q=>simp;exact fun e=>hh (by rw [e])
 rw [e0] at hT;obtain ⟨vv,a,htb,_⟩:=hT.tbo;have hab:=hT.abo rfl r k hp;have hmem:t∈g.thr:=List.mem_of_getElem? hi;obtain ⟨es,cl,hmb,_⟩:=id H.map;have hcol:∀ b,b=t.tv∨b=t.tb∨b=t.rv∨b=t.wk∨b=t.st∨b=t.ab→g.col b:=fun b hb=>.inr (.inr (.inr (.inr (.inr (.inr (.inr (.inr ⟨t,hmem,hb⟩)))))));have hc:=fun c hc=>S.cell hI c hc;rw [← hA] at hc;exact {
  run:=Xa htb 0
  obj:=H.obj
  rowL:=H.lg
  box:=hab
  la:=hap.la t hmem
  lt:=Zp H.lg fun cur=>by rw [htb];simp
  lr:=Zp H.lg fun cur=>by rw [H.obj];simp
  lm:=Zp H.lg fun cur=>by rw [hmb];simp
  li:=fun e=>(hc _ hr).2.2 (by simp [Gs.col,e])
  low:=H.low
  len:=hlen
  map:=H.map
  row:=(hc _ hr).1
  rows:=fun c hcn=>⟨(hc c (hn c hcn)).1,fun e=>S.inj c r.cell (hn c hcn) hr (by rw [← hA];exact e)⟩
  offs:=fun c hcn e=>(hc c (hn c hcn)).2.2 (hcol _ (by simp [e]))
  ia:=fun e=>(hc _ hr).2.2 (hcol _ (by simp [e]))
  it:=fun e=>(hc _ hr).2.2 (hcol _ (by simp [e]))
  ir:=fun e=>(hc _ hr).2.2 (by simp [Gs.col,e])
  was:=(hc _ hr).2.1 }
theorem Xy.chan {h:Option Nat} {c kk:Nat} (H:Xy g P h stops x) (hap:g.Apart) (hc:∃ t∈g.thr,c=t.wk∨c=t.st):Xy g P h stops (x.setChan c 0 #[] false kk kk false):=by
 obtain ⟨t,ht,hct⟩:=hc;obtain ⟨i,hi⟩:=List.getElem?_of_mem ht;obtain ⟨k0,hc0⟩:∃ k,x.heap[c]? = some (.chan 0 #[] false k k false):=by
  rcases hct with rfl|rfl
  ·exact (H.thr i t hi).wko
  ·exact (H.thr i t hi).sto
 have hlt:=(GE hc0).1;have hself:(x.setChan c 0 #[] false kk kk false).heap[c]? = some (.chan 0 #[] false kk kk false):=by simp [World.setChan,hlt]
 have keep:∀ (b:Nat) (o:Obj),x.heap[b]? = some o→(∀ kk,o≠.chan 0 #[] false kk kk false)→(x.setChan c 0 #[] false kk kk false).heap[b]? = some o:=fun b o hb hn=>by rw [XK (Yf hb hc0 (hn _))];exact hb
 have hch:∀ (b kq:Nat),x.heap[b]? = some (Obj.chan 0 #[] false kq kq false)→∃ kq,(x.setChan c 0 #[] false kk kk false).heap[b]? = some (Obj.chan 0 #[] false kq kq false):=fun b kq hb=>by
  by_cases e:b=c
  ·exact ⟨kk,by rw [e];exact hself⟩
  ·exact ⟨kq,by rw [XK e];exact hb⟩
 have hown:∀ {e:TypeId} {size:Nat} {v:Value} {n:Nat} {xs:List Value},x.ownsRow g.N e size v n xs→(x.setChan c 0 #[] false kk kk false).ownsRow g.N e size v n xs:=fun hv=>Xj hv fun b hb=>by
  obtain ⟨cur,hcur⟩:=X9 hv hb;rw [keep b _ hcur (by simp),hcur]
 refine ⟨keep _ _ H.obj (by simp),hown H.ths,hown H.fls,hown H.lg,hown H.wn,hown H.rd,?_,H.num,fun j u hu=>?_,fun b hb=>?_,by rw [X8];exact H.low,fun u hu=>by rw [X8];exact H.abl u hu⟩
 ·obtain ⟨es,cl,hmb,hx⟩:=H.map
  exact ⟨es,cl,keep _ _ hmb (by simp),hx⟩
 ·obtain ⟨e1,e2,⟨k3,e3⟩,⟨k4,e4⟩,⟨vv,a,e5,e6⟩,e7⟩:=H.thr j u hu
  exact ⟨keep _ _ e1 (by simp),keep _ _ e2 (by simp),hch _ _ e3,hch _ _ e4,⟨vv,a,keep _ _ e5 (by simp),e6⟩,fun q r' k' e=>keep _ _ (e7 q r' k' e) (by simp)⟩
 ·obtain ⟨b1,b2⟩:=H.kept b hb
  obtain ⟨_,_,_,_,_,_,_,k8⟩:=hap.kept b hb;obtain ⟨_,k9,k10,_⟩:=k8 t ht;refine ⟨by rw [X8];exact b1,?_⟩;rw [XK (by rcases hct with rfl|rfl<;>assumption)];exact b2

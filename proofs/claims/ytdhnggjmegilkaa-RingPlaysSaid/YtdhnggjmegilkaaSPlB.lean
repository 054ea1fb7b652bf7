/- What a thread's own calls come to in a run, as the record tells it: where each call's accesses stand, what is told. No program in sight. -/
import Derived.Test.YtdhnggjmegilkaaSTkC
set_option linter.all false
set_option maxRecDepth 100000
set_option maxHeartbeats 16000000
namespace Go.Proofs.Ytdhnggjmegilkaa
open Go.Conc
open Go.ConcN (sumTo upd sumTo_upd upd_ne upd_same)
section
variable {P:Program} {B:Nat} {Ch:Nat→Option XL} {h d:Nat} {T:Trace} {gs:Array Goroutine} {w:World} {q:Nat→Nat}
theorem Tk.hire {a a' child:Goroutine} {es:Array Event} {sl:Option (Nat × Nat)} (C:Tk P B Ch h 0 T gs w q) (ha:gs[h]? = some a) (hrun:a.status=.running)
 (hgo:∀ n,stepG P (h == 0) a (w.at n)=.spawn a' child (w.at n) es) (hes:∀ e∈es,EvG (UE Ch h) B e) {s:XL} (hs:XbN B Ch h w s) {nc:Nat} (hchild:XbK P B gs.size s nc child) :
 ∃ (N:Nat) (gs':Array Goroutine) (n:Nat) (sl':Option (Nat × Nat)) (T':Trace) (q':Nat→Nat),runNT P N (crowd gs w sl) T=(.next (crowd gs' (w.at n) sl'),T')∧gs'.size=gs.size + 1∧gs'[h]? = some a' ∧
  Tk P B (upd Ch gs.size (some s)) h 0 T' gs' (w.at n) q':=by
 obtain ⟨N,gs₁,n,n',sl₁,sl₂,T₁,q₁,hr,hst,hsz,ha₁,C₁⟩:=Tk.picked (sl:=sl) ha hrun C;have hlt:h < gs₁.size:=(Array.getElem?_eq_some_iff.1 ha₁).1;have hops:∀ op∈MemOp.ofEvents h a.frame.fn a.frame.place es,op.g=h:=fun op hop=>by obtain ⟨e,_,rfl⟩:=Go.Conc.mem_ofEvents hop;rfl
 have hrt:=runT_crowd_spawn (P:=P) (sl:=sl₂) ha₁ (hgo n');have hpush:((MemOp.ofEvents h a.frame.fn a.frame.place es).push { g:=h,fn:=a.frame.fn,pos:=a.frame.place,act:=.go gs₁.size } |>.push { g:=gs₁.size,fn:=child.frame.fn,pos:=a.frame.place,act:=.start }) =
  MemOp.ofEvents h a.frame.fn a.frame.place es ++ #[{ g:=h,fn:=a.frame.fn,pos:=a.frame.place,act:=.go gs₁.size },{ g:=gs₁.size,fn:=child.frame.fn,pos:=a.frame.place,act:=.start }]:=by
  apply Array.ext';simp
 rw [hpush] at hrt;have p1:=(C₁.setH (fn:=a.frame.fn) (pos:=a.frame.place) a hlt hes).hist;have hD1:∀ x,Deaf (T₁ ++ MemOp.ofEvents h a.frame.fn a.frame.place es) x=Deaf T₁ x:=fun x=>by
  by_cases ex:x=h
  ·subst ex;rw [Deaf_own,EvG.still hes]
  ·exact Deaf_other T₁ (fun z=>ex z.symm) _ hops
 have hnone:∀ i s',i≠h→Ch i=some s'→i < gs₁.size:=fun i s' hi e=>(C₁.chan i s' hi e).1;have hnl:¬ Ze Ch h gs₁.size:=fun ⟨z,e⟩=>by
  cases e':Ch gs₁.size with
  | none=>rw [e'] at e;cases e
  | some s'=>have:=hnone _ s' z e';omega
 have hup:∀ x,x≠gs₁.size→upd Ch gs₁.size (some s) x=Ch x:=fun x hx=>upd_ne Ch _ hx;have p2:=p1.hire (c:=gs₁.size) (Sl':=XdJ (upd Ch gs₁.size (some s))) (Loose':=Ze (upd Ch gs₁.size (some s)) h) (by rw [hD1];exact C₁.deaf) (by rw [hD1];exact C₁.above _ (Nat.le_refl _)) hnl
  (fun g hg=>by funext l;simp only [XdJ,hup g hg]) (fun l hl=>by obtain ⟨s',_,hs'⟩:=hl;exact hs'.mem) (fun g hg=>by simp only [Ze,hup g hg]) a.frame.fn a.frame.place child.frame.fn
 rw [Array.append_assoc] at p2;have hD2:∀ x,Deaf (T₁ ++ (MemOp.ofEvents h a.frame.fn a.frame.place es ++ #[{ g:=h,fn:=a.frame.fn,pos:=a.frame.place,act:=.go gs₁.size },{ g:=gs₁.size,fn:=child.frame.fn,pos:=a.frame.place,act:=.start }])) x=Deaf T₁ x:=fun x=>by
  rw [← Array.append_assoc,Deaf_quiet (fun op hop d=>by
   simp only [List.mem_toArray,List.mem_cons,List.not_mem_nil,or_false] at hop;rcases hop with rfl|rfl<;>rfl),hD1]
 refine ⟨N + 1,_,n',sl₂,_,upd q₁ gs₁.size nc,runNT_succ_of hr (hst.trans hrt),by simp [hsz],(by rw [Array.getElem?_push,if_neg (by simp;omega)];exact Array.getElem?_setIfInBounds_self_of_lt hlt),?_⟩;rw [← hsz] at hchild ⊢;refine ⟨fun x y hx hy=>?_,fun i s' hi e=>?_,fun i i' s₁ s₂ hi hi' e₁ e₂ hcc=>?_,fun i s' hi e=>?_,fun x hx=>?_,?_,p2⟩
 ·by_cases ex:x=gs₁.size
  ·subst ex
   rw [Array.getElem?_push,if_pos (by simp)] at hy;obtain rfl:=Option.some.inj hy;rw [upd_same,upd_same];exact hchild
  ·have hxl:x < gs₁.size:=by
    have:=(Array.getElem?_eq_some_iff.1 hy).1
    simp at this;omega
   rw [Array.getElem?_push,if_neg (by simp;omega),Array.getElem?_setIfInBounds_ne (fun z=>hx z.symm)] at hy;rw [upd_ne q₁ nc ex,hup x ex];have hi:=C₁.rest x y hx hy;cases e:Ch x with
   | none=>rw [e] at hi;exact ⟨hi.1,by rw [hD2];exact hi.2⟩
   | some s=>rw [e] at hi;exact hi
 ·by_cases ei:i=gs₁.size
  ·subst ei
   rw [upd_same] at e;obtain rfl:=Option.some.inj e;exact ⟨by simp,hs.low,hs.open_⟩
  ·rw [hup i ei] at e
   obtain ⟨a1,a2,a3⟩:=C₁.chan i s' hi e;exact ⟨by simp;omega,a2,a3⟩
 ·by_cases e1:i=gs₁.size<;>by_cases e2:i'=gs₁.size
  ·rw [e1,e2]
  ·subst e1
   rw [upd_same] at e₁;rw [hup i' e2] at e₂;obtain rfl:=Option.some.inj e₁;exact absurd hcc.symm (hs.own i' s₂ hi' e₂)
  ·subst e2
   rw [upd_same] at e₂;rw [hup i e1] at e₁;obtain rfl:=Option.some.inj e₂;exact absurd hcc (hs.own i s₁ hi e₁)
  ·rw [hup i e1] at e₁;rw [hup i' e2] at e₂
   exact C₁.inj i i' s₁ s₂ hi hi' e₁ e₂ hcc
 ·by_cases ei:i=gs₁.size
  ·subst ei
   rw [upd_same] at e;obtain rfl:=Option.some.inj e;exact hs.keep
  ·rw [hup i ei] at e
   exact C₁.keep i s' hi e
 ·rw [hD2]
  exact C₁.above x (by simp at hx;omega)
 ·rw [hD2];exact C₁.deaf
end
structure Ctx where
 Ch:Nat→Option XL
 h:Nat
 d:Nat
 n:Nat
 lo:Nat
 io:Os × Array (Nat × ByteArray)
def Ctx.prot (C:Ctx):YK:={ UE C.Ch C.h with lo:=C.lo }
def Fin (P:Program) (Post:Value→World→Prop) (m:Machine) (T:Trace):Prop :=
 ∃ N last o w' t',runNT P (N + 1) m T=(.ended o w',t')∧runN P N m=.next last∧step P last=.ended o w'∧Good P Post last o w' t'
def XcR (w:World):=(w.os,w.output)
theorem Xby {w w':World} (h:Y7 w'=Y7 w):XcR w'=XcR w:=by
 simp only [Y7,Prod.mk.injEq] at h;simp only [XcR,h.2.1,h.2.2]
def J (P:Program) (Post:Value→World→Prop) (C:Ctx) (g:Goroutine) (w:World):Prop :=
 ∀ (k B:Nat) (T:Trace) (gs:Array Goroutine) (sl:Option (Nat × Nat)) (q:Nat→Nat),XcR w=C.io→B≤w.heap.size→gs.size=C.n→gs[C.h]? = some g→Tk P B C.Ch C.h C.d T gs (w.at k) q→Fin P Post (crowd gs (w.at k) sl) T
section
variable {P:Program} {Post:Value→World→Prop} {C:Ctx} {g:Goroutine} {w:World}
theorem Fin.of_run {N:Nat} {m m':Machine} {T T':Trace} (h:runNT P N m T=(.next m',T')) (hf:Fin P Post m' T'):Fin P Post m T:=by
 obtain ⟨M,last,o,w',t',e1,e2,e3,e4⟩:=hf;refine ⟨N + M,last,o,w',t',?_,?_,e3,e4⟩
 ·rw [Nat.add_assoc,runNT_add,h];exact e1
 ·rw [runN_add,← runNT_fst P _ _ T,h];exact e2
theorem J.at (h:J P Post C g w) (n:Nat):J P Post C g (w.at n):=fun k B T gs sl q hio hB hn hg hT=>h k B T gs sl q hio hB hn hg hT
theorem J.step (hrun:g.status=.running) (h:∀ k,∃ g' w' es,stepG P (C.h == 0) g (w.at k)=.go g' w' es∧(∀ e∈es,EvT C.prot w'.heap.size e)∧w.heap.size≤w'.heap.size∧UU C.prot w w'∧Y7 w'=Y7 w∧J P Post { C with d:=deafBehind C.d es } g' w'):J P Post C g w:=by
 intro k B T gs sl q hio hB hn hg hT;obtain ⟨N,gs₁,n,n',sl₁,sl₂,T₁,q₁,hr,hst,hsz,ha₁,C₁⟩:=Tk.picked (sl:=sl) hg hrun hT;rw [at_at'] at hr hst C₁
 try rw [at_at'] at hst
 obtain ⟨g',w',es,h1,h2,h3,h4,hout,h5⟩:=h n';have hrt:=runT_crowd_go (sl:=sl₂) ha₁ h1;have hst':UU (UE C.Ch C.h) (w.at n') w':=⟨fun a z h1 h2=>h4.cells a z h1 h2,fun r o h1 h2=>h4.objs r o h1 h2⟩
 obtain ⟨C₂,hg'⟩:=(C₁.mono (Nat.le_trans hB h3)).own (a':=g') ha₁ h2 hst';refine Fin.of_run (runNT_succ_of hr (hst.trans hrt)) ?_
 have:=h5 w'.drawn w'.heap.size _ _ sl₂ q₁ ((Xby hout).trans hio) (Nat.le_refl _) (by simp [hsz,hn]) hg' C₂
 exact this
theorem J.give {a₂:Goroutine} {j:Nat} {s:XL} {v z':Value} {es:Array Event} (hd:C.d=0) (hjh:j≠C.h) (hj:C.Ch j=some s) (hrun:g.status=.running)
 (hsend:∀ k,stepG P (C.h == 0) g (w.at k)=.comm a₂ #[scase s.c v z'] true .send (w.at k) es) (hes:∀ e∈es,EvG C.prot w.heap.size e) (new:Option XL) (hnew:∀ s',new=some s'→XbN w.heap.size C.Ch C.h w s')
 (hafter:∃ nh,∀ T',Deaf T' C.h=0→Rest P w.heap.size T' C.h nh (Go.Conc.served a₂ undef) new)
 (hnext:∀ g₂ k,s.home g₂→w.heap[s.c]? = some (.chan 0 #[] false k k false)→J P Post { Ch:=upd C.Ch C.h new,h:=j,d:=0,n:=C.n,lo:=C.lo,io:=C.io } (Go.Conc.served g₂ v) (w.setChan s.c 0 #[] false (k + 1) (k + 1) false)):J P Post C g w:=by
 intro k B T gs sl q hio hB hn hg hT;obtain ⟨nh,hafter⟩:=hafter;rw [hd] at hT;obtain ⟨N,gs',g₂,n,kk,sl',T',q',hr,hsz,hJ,hhome,hc,C'⟩:=Tk.give (sl:=sl) (v:=v) (z':=z') (hT.mono hB) hjh hj hg hrun (fun n=>by rw [at_at'];exact hsend n) hes (new:=new) (fun s' e=>⟨(hnew s' e).low,(hnew s' e).open_,(hnew s' e).own,(hnew s' e).keep⟩) hafter;refine Fin.of_run hr ?_;have hb:w.heap.size≤(w.setChan s.c 0 #[] false (kk + 1) (kk + 1) false).heap.size:=by simp [World.setChan]
 exact hnext g₂ kk hhome hc n w.heap.size T' gs' sl' q' hio hb (hsz.trans hn) hJ C'
theorem J.hire {a' child:Goroutine} {es:Array Event} (hd:C.d=0) (hrun:g.status=.running) (hgo:∀ k,stepG P (C.h == 0) g (w.at k)=.spawn a' child (w.at k) es) (hes:∀ e∈es,EvG C.prot w.heap.size e)
 (s:XL) (hs:XbN w.heap.size C.Ch C.h w s) (hchild:∃ nc,XbK P w.heap.size C.n s nc child) (hnext:J P Post { Ch:=upd C.Ch C.n (some s),h:=C.h,d:=0,n:=C.n + 1,lo:=C.lo,io:=C.io } a' w):J P Post C g w:=by
 intro k B T gs sl q hio hB hn hg hT;obtain ⟨nc,hchild⟩:=hchild;rw [hd] at hT;obtain ⟨N,gs',n,sl',T',q',hr,hsz,hg',C'⟩:=Tk.hire (sl:=sl) (hT.mono hB) hg hrun (fun n=>by rw [at_at'];exact hgo n) hes (s:=s) ⟨hs.low,hs.open_,hs.own,hs.keep⟩ (nc:=nc) (by rw [hn];exact hchild);refine Fin.of_run hr ?_;rw [at_at'] at C' ⊢;rw [hn] at C';exact hnext n w.heap.size T' gs' sl' q' hio (Nat.le_refl _) (by rw [hsz,hn]) hg' C'
theorem J.end (h0:C.h=0) (hd:C.d=0) (hI:∀ i,i≠0→C.Ch i=none) (hrun:g.status=.running)
 (h:∀ k,∃ v es,stepG P true g (w.at k)=.ended (.done v) (w.at k) es∧(∀ e∈es,EvG C.prot w.heap.size e)∧(XcR w=C.io→Post v (w.at k))):J P Post C g w:=by
 intro k B T gs sl q hio hB hn hg hT;rw [hd,h0] at hT;rw [h0] at hg;have hL:Leavers P T gs q:=⟨fun i g hi hg=>by have:=hT.rest i g (by omega) hg;rw [hI i (by omega)] at this;exact this.2,hT.above⟩
 have hP:Past (fun _=>False) w.heap.size T:=((hT.mono hB).hist.past hT.deaf fun g ⟨hg,hs⟩=>by rw [hI g hg] at hs;cases hs)
 exact beside_ends (P:=P) (Post:=Post) (D:=fun _ _ _=>False) (n:=0) (fun _ _ _ z=>z.elim) hg hL hP (fun w₁ h₁=>by
  obtain ⟨dd,rfl⟩:=h₁;rw [at_at'];obtain ⟨v,es,e1,e2,e3⟩:=h dd;exact ⟨hrun,v,es,e1,fun e he=>⟨fun x _ z=>z.elim,fun z=>((e2 e he).2.2.1 _ z).1 rfl,fun z=>((e2 e he).2.2.1 _ z).2.1 rfl,(e2 e he).2.2.2⟩,e3 hio⟩)
theorem J.begin {lo:Nat} (h:J P Post { Ch:=fun _=>none,h:=0,d:=0,n:=1,lo:=lo,io:=XcR w } g w):Fin P Post (solo g w) #[]:=by
 rw [solo_eq_crowd];have hi1:∀ (i:Nat) (g':Goroutine),i≠0→(#[g]:Array Goroutine)[i]? = some g'→False:=fun i g' hi hg=>by
  have:i < 1:=by simpa using (Array.getElem?_eq_some_iff.1 hg).1
  omega
 exact h w.drawn 0 #[] #[g] none (fun _=>0) rfl (Nat.zero_le _) rfl rfl
  { rest:=fun i g' hi hg=>(hi1 i g' hi hg).elim
    chan:=fun _ _ _ e=>nomatch e
    inj:=fun _ _ _ _ _ _ e=>nomatch e
    keep:=fun _ _ _ e=>nomatch e
    above:=fun _ _=>rfl
    deaf:=rfl
    hist:=Xd4 _ _ _ }
end
end Go.Proofs.Ytdhnggjmegilkaa
namespace Go.Proofs.Ytdhnggjmegilkaa
open Go.Conc Go.RowKit
open Go.ConcN (upd upd_same upd_ne)
inductive Xx.Ok {Sh α:Type} (nc:Nat):Xx Sh α→Prop
 | ret (a:α):Xx.Ok nc (.ret a)
 | fall:Xx.Ok nc .fall
 | out:Xx.Ok nc .out
 | acc {r:Ask} {k:Told→Xx Sh α} (hr:r.Good) (hc:r.cell < nc) (hk:∀ a,Xx.Ok nc (k a)):Xx.Ok nc (.acc r k)
 | act {f:Sh→Sh} {k:Sh→Xx Sh α} (hk:∀ s,Xx.Ok nc (k s)):Xx.Ok nc (.act f k)
theorem Xx.Ok.pass {Sh α:Type} {nc:Nat}:∀ {p:Xx Sh α},Xx.Ok nc p→∀ s,Xx.Ok nc (p.pass s).2
 | .ret a,h,s=>h
 | .fall,h,s=>h
 | .out,h,s=>h
 | .acc r k,h,s=>h
 | .act f k,h,s=>by
  cases h with
  | act hk=>simp only [Xx.pass];exact Xx.Ok.pass (hk s) (f s)
namespace Xp
variable {Sh:Type} {P Q:Xp Sh} {sched:List Nat→List Nat→Nat}
def Live (P:Xp Sh):Prop:=∀ j,j < P.n→(∃ r k,P.progs j=.acc r k)∨(∃ v,P.progs j=.ret v)
theorem turn_acc {q:Nat} {r:Ask} {k:Told→Xx Sh Unit} (h:P.progs q=.acc r k) :
 P.turn q=⟨P.n,upd P.progs q ((k (P.st.ans r)).pass P.st.sh).2,⟨((k (P.st.ans r)).pass P.st.sh).1,upd P.st.cells r.cell (P.st.ans r).now,if r.cell∈P.st.names then P.st.names else P.st.names ++ [r.cell],P.st.log ++ [P.st.entry q r],P.st.went ++ [q],P.st.ready ++ [P.able.length]⟩⟩:=by
 simp only [turn,goes,h,settle];rfl
theorem Uj {q:Nat} (h:q∈P.able):q < P.n∧∃ r k,P.progs q=.acc r k∧(r.op=6→P.st.cells r.cell≠r.arg):=by
 obtain ⟨h1,h2⟩:=List.mem_filter.1 h;refine ⟨List.mem_range.1 h1,?_⟩;unfold can at h2;cases hp:P.progs q with
 | acc r k =>
  rw [hp] at h2;refine ⟨r,k,rfl,fun e=>?_⟩;simpa [Xx.req,e] using h2
 | ret a=>rw [hp] at h2;simp [Xx.req] at h2
 | fall=>rw [hp] at h2;simp [Xx.req] at h2
 | out=>rw [hp] at h2;simp [Xx.req] at h2
 | act f k=>rw [hp] at h2;simp [Xx.req] at h2
def Zs (sched:List Nat→List Nat→Nat):Prop:=∀ went l,l≠[]→sched went l∈l
inductive Goes (sched:List Nat→List Nat→Nat):Xp Sh→Xp Sh→Prop
 | refl (P:Xp Sh):Goes sched P P
 | turn {P Q:Xp Sh} (h1:P.over=false) (h2:P.able≠[]) (h3:Goes sched (P.turn (sched P.st.went P.able)) Q):Goes sched P Q
theorem Wj:∀ (m:Nat) (P:Xp Sh),Goes sched P (P.runs sched m).2∧((P.runs sched m).1=1∧(P.runs sched m).2.over=true∨(P.runs sched m).1=3∧(P.runs sched m).2.over=false∧(P.runs sched m).2.able = []∨(P.runs sched m).1=2∧(P.runs sched m).2.over=false∧(P.runs sched m).2.able≠[]∧(P.runs sched m).2.st.went.length=P.st.went.length + m)
 | m,P=>by
  by_cases h1:P.over=true
  ·have:P.runs sched m=(1,P):=by unfold runs;rw [if_pos h1]
   rw [this];exact ⟨.refl P,.inl ⟨rfl,h1⟩⟩
  ·replace h1:P.over=false:=by simpa using h1
   by_cases h2:P.able = []
   ·have:P.runs sched m=(3,P):=by unfold runs;rw [if_neg (by simp [h1]),if_pos h2]
    rw [this];exact ⟨.refl P,.inr (.inl ⟨rfl,h1,h2⟩)⟩
   ·match m with
    | 0 =>
     have:P.runs sched 0=(2,P):=by unfold runs;rw [if_neg (by simp [h1]),if_neg h2]
     rw [this];exact ⟨.refl P,.inr (.inr ⟨rfl,h1,h2,rfl⟩)⟩
    | m + 1 =>
     have:P.runs sched (m + 1)=(P.turn (sched P.st.went P.able)).runs sched m:=by
      conv=>lhs;unfold runs
      rw [if_neg (by simp [h1]),if_neg h2]
     rw [this];obtain ⟨e1,e2⟩:=Wj m (P.turn (sched P.st.went P.able));refine ⟨.turn h1 h2 e1,e2.imp id (Or.imp id fun h=>⟨h.1,h.2.1,h.2.2.1,?_⟩)⟩;rw [h.2.2.2]
     have:(P.turn (sched P.st.went P.able)).st.went=P.st.went ++ [sched P.st.went P.able]:=by
      unfold turn goes;split<;>rfl
     rw [this,List.length_append,List.length_singleton];omega
theorem Goes.keeps {I:Xp Sh→Prop} (hs:Zs sched) (hI:∀ (P:Xp Sh) (q:Nat) (r:Ask) (k:Told→Xx Sh Unit),I P→q∈P.able→q < P.n→P.progs q=.acc r k→(r.op=6→P.st.cells r.cell≠r.arg)→I (P.turn q)) (h:Goes sched P Q):I P→I Q:=by
 induction h with
 | refl P=>exact id
 | @turn P Q h1 h2 h3 ih =>
  intro hp;have hq:=hs P.st.went P.able h2;obtain ⟨hn,r,k,hpr,h6⟩:=Uj hq;exact ih (hI _ _ r k hp hq hn hpr h6)
theorem Goes.log (hs:Zs sched) (h:Goes sched P Q):∃ l,Q.st.log=P.st.log ++ l:=by
 refine Goes.keeps (I:=fun R=>∃ l,R.st.log=P.st.log ++ l) hs (fun R q r k ⟨l,hl⟩ _ _ hp _=>?_) h ⟨[],by simp⟩;rw [turn_acc hp];exact ⟨l ++ [R.st.entry q r],by simp [hl]⟩
theorem Goes.names (hs:Zs sched) (h:Goes sched P Q):∃ l,Q.st.names=P.st.names ++ l:=by
 refine Goes.keeps (I:=fun R=>∃ l,R.st.names=P.st.names ++ l) hs (fun R q r k ⟨l,hl⟩ _ _ hp _=>?_) h ⟨[],by simp⟩;rw [turn_acc hp]
 by_cases e:r.cell∈R.st.names
 ·exact ⟨l,by simp only [if_pos e];exact hl⟩
 ·exact ⟨l ++ [r.cell],by simp only [if_neg e];rw [hl];simp⟩
theorem Goes.num (hs:Zs sched) (h:Goes sched P Q):Q.n=P.n :=
 Goes.keeps (I:=fun R=>R.n=P.n) hs (fun R q r k hl _ _ hp _=>by rw [turn_acc hp];exact hl) h rfl
theorem Xaj {l l':List Nat} {c:Nat} (h:c∈l):(l ++ l').idxOf c=l.idxOf c:=by
 rw [List.idxOf_append,if_pos h]
theorem Goes.still (hs:Zs sched) (h:Goes sched P Q) {j:Nat} (hj:∀ r k,P.progs j≠.acc r k):Q.progs j=P.progs j:=by
 refine Goes.keeps (I:=fun R=>R.progs j=P.progs j) hs (fun R q r k hl _ _ hp _=>?_) h rfl;rw [turn_acc hp];show upd R.progs q _ j=_
 by_cases e:j=q
 ·subst e;rw [hl] at hp;exact absurd hp (hj r k)
 ·rw [upd_ne _ _ e];exact hl
theorem Goes.live (hs:Zs sched) (h:Goes sched P Q) (hQ:Q.Live):P.Live:=fun j hj=>by
 by_cases e:∃ r k,P.progs j=.acc r k
 ·exact .inl e
 ·have h2:=h.still hs (j:=j) fun r k q=>e ⟨r,k,q⟩
  rw [← h.num hs] at hj;rcases hQ j hj with ⟨r,k,q⟩|q
  ·exact absurd ⟨r,k,h2 ▸ q⟩ e
  ·rw [h2] at q;exact .inr q
theorem Goes.nodup (hs:Zs sched) (h:Goes sched P Q) (hP:P.st.names.Nodup):Q.st.names.Nodup:=by
 refine Goes.keeps (I:=fun R=>R.st.names.Nodup) hs (fun R q r k hl _ _ hp _=>?_) h hP;rw [turn_acc hp]
 by_cases e:r.cell∈R.st.names
 ·simpa [e] using hl
 ·simp only [if_neg e]
  exact List.nodup_append.2 ⟨hl,by simp,fun a ha b hb e2=>by rw [List.mem_singleton.1 hb] at e2;exact e (e2 ▸ ha)⟩
def nextF (L left:List Xo) (j i:Nat):Option Xo :=
 match (L.drop i).find? fun a=>a.thread == j with
 | some a=>some a
 | none=>left.find? fun a=>a.thread == j
theorem UH (hn:∀ j,j < Q.n→True) {j:Nat} (hj:j < Q.n):Q.left.find? (fun a=>a.thread == j)=Q.stands j:=by
 have key:∀ (l:List Nat),l.Nodup→(l.filterMap Q.stands).find? (fun a=>a.thread == j)=if j∈l then Q.stands j else none:=by
  intro l hl
  induction l with
  | nil=>rfl
  | cons i l ih =>
   obtain ⟨h1,h2⟩:=List.nodup_cons.1 hl;have hi:=ih h2;have hth:∀ a,Q.stands i=some a→a.thread=i:=fun a ha=>by
    unfold stands at ha;cases hr:(Q.progs i).req with
    | none=>rw [hr] at ha;cases ha
    | some r=>rw [hr] at ha;rw [← Option.some.inj ha]
   rw [List.filterMap_cons];cases hs:Q.stands i with
   | none =>
    simp only;rw [hi]
    by_cases e:j=i
    ·subst e;simp [h1,hs]
    ·simp [e]
   | some a =>
    simp only;rw [List.find?_cons]
    have:=hth a hs
    by_cases e:j=i
    ·subst e;simp [this,hs]
    ·have e2:(a.thread == j)=false:=by simp;omega
     rw [e2];simp only;rw [hi];simp [e]
 unfold left;rw [key _ List.nodup_range];simp [List.mem_range,hj]
theorem Xff (hs:Zs sched) (h:Goes sched P Q) (hQ:Q.Live) {j:Nat} (hj:j < P.n) :
 (∀ r k,P.progs j=.acc r k→∃ a,nextF Q.st.log Q.left j P.st.log.length=some a∧a.thread=j∧a.op=r.op∧a.arg=r.arg∧a.new=r.new∧a.cell=(if r.cell∈Q.st.names then ((Q.st.names.idxOf r.cell:Nat):Int) else -1)∧(r.cell ∉ Q.st.names→a.was=P.st.cells r.cell)) ∧
 (∀ v,P.progs j=.ret v→nextF Q.st.log Q.left j P.st.log.length=none):=by
 induction h with
 | refl P =>
  have hd:nextF P.st.log P.left j P.st.log.length=P.stands j:=by
   unfold nextF;rw [List.drop_length];exact UH (fun _ _=>trivial) hj
  rw [hd];refine ⟨fun r k hp=>?_,fun v hp=>by simp [stands,hp,Xx.req]⟩;exact ⟨⟨j,r.op,if r.cell∈P.st.names then P.st.num r.cell else -1,r.arg,r.new,P.st.cells r.cell,P.st.cells r.cell,false⟩,by simp only [stands,hp,Xx.req,Option.map_some],rfl,rfl,rfl,rfl,rfl,fun _=>rfl⟩
 | @turn P Q h1 h2 h3 ih =>
  have hq:=hs P.st.went P.able h2;obtain ⟨hn,r0,k0,hp0,h6⟩:=Uj hq;generalize sched P.st.went P.able=q at hq hn hp0 h3 ih;have ht:=turn_acc hp0;obtain ⟨l,hl⟩:=h3.log hs;obtain ⟨l2,hl2⟩:=h3.names hs;have hlen:(P.turn q).st.log=P.st.log ++ [P.st.entry q r0]:=by rw [ht]
  rw [hlen] at hl;have hdrop:Q.st.log.drop P.st.log.length=P.st.entry q r0::l:=by rw [hl];simp
  have hdrop2:Q.st.log.drop (P.turn q).st.log.length=l:=by rw [hlen,hl];simp
  obtain ⟨i1,i2⟩:=ih hQ (by rw [ht];exact hj)
  by_cases e:j=q
  ·subst e
   refine ⟨fun r k hp=>?_,fun v hp=>by rw [hp0] at hp;cases hp⟩;rw [hp0] at hp;injection hp with hp _
   subst hp;have hmem:r0.cell∈(P.turn j).st.names:=by
    rw [ht];show r0.cell∈(if r0.cell∈P.st.names then P.st.names else P.st.names ++ [r0.cell])
    split<;>simp [*]
   have hmemQ:r0.cell∈Q.st.names:=by rw [hl2];exact List.mem_append_left _ hmem
   refine ⟨P.st.entry j r0,?_,rfl,rfl,rfl,rfl,?_,fun q=>absurd hmemQ q⟩
   ·unfold nextF
    rw [hdrop,List.find?_cons];simp [Rst.entry]
   ·rw [if_pos hmemQ,hl2,Xaj hmem]
    show P.st.num r0.cell=_;unfold Rst.num;rw [ht];show _=(((if r0.cell∈P.st.names then P.st.names else P.st.names ++ [r0.cell]).idxOf r0.cell:Nat):Int)
    split
    ·rfl
    ·rename_i hni
     rw [List.idxOf_append,if_neg hni,List.idxOf_eq_length hni];simp
  ·have hpj:(P.turn q).progs j=P.progs j:=by rw [ht];exact upd_ne _ _ e
   have hnx:nextF Q.st.log Q.left j P.st.log.length=nextF Q.st.log Q.left j (P.turn q).st.log.length:=by
    unfold nextF;rw [hdrop,hdrop2,List.find?_cons]
    have:((P.st.entry q r0).thread == j)=false:=by simp [Rst.entry];exact fun z=>e z.symm
    rw [this]
   rw [hnx,← hpj];refine ⟨fun r k hp=>?_,i2⟩;obtain ⟨a,a1,a2,a3,a4,a5,a6,a7⟩:=i1 r k hp;refine ⟨a,a1,a2,a3,a4,a5,a6,fun hni=>?_⟩;rw [a7 hni,ht];show upd P.st.cells r0.cell _ r.cell=_;refine upd_ne _ _ fun e2=>hni ?_;rw [hl2,e2];refine List.mem_append_left _ ?_;rw [ht];show r0.cell∈(if r0.cell∈P.st.names then P.st.names else P.st.names ++ [r0.cell])
   split<;>simp [*]
theorem Goes.first (hs:Zs sched) (h:Goes sched P Q):∀ c,c ∉ Q.st.names→Q.st.cells c=P.st.cells c:=by
 refine Goes.keeps (I:=fun R=>∀ c,c ∉ R.st.names→R.st.cells c=P.st.cells c) hs (fun R q r k hl _ _ hp _=>?_) h (fun c _=>rfl);rw [turn_acc hp];intro c hc;replace hc:c ∉ (if r.cell∈R.st.names then R.st.names else R.st.names ++ [r.cell]):=hc;show upd R.st.cells r.cell _ c=_;have h1:c ∉ R.st.names:=fun e=>hc (by split<;>simp [e]);have h2:c≠r.cell:=fun e=>hc (by rw [e];split<;>simp [*]);rw [upd_ne _ _ h2];exact hl c h1
end Xp
inductive Xm (α:Type) where
 | ret (a:α)
 | out
 | acc (r:Ask) (k:Told→Xm α)
namespace Xm
variable {Sh α β:Type}
def bind (g:α→Xm β):Xm α→Xm β
 | .ret a=>g a
 | .out=>.out
 | .acc r k=>.acc r fun a=>(k a).bind g
def into (g:α→Xx Sh Unit):Xm α→Xx Sh Unit
 | .ret a=>g a
 | .out=>.out
 | .acc r k=>.acc r fun a=>(k a).into g
inductive Ok (nc:Nat):Xm α→Prop
 | ret (a:α):Ok nc (.ret a)
 | out:Ok nc .out
 | acc {r:Ask} {k:Told→Xm α} (hr:r.Good) (hc:r.cell < nc) (hk:∀ a,Ok nc (k a)):Ok nc (.acc r k)
theorem Ok.into {nc:Nat} {g:α→Xx Sh Unit} (hg:∀ a,Xx.Ok nc (g a)):∀ {c:Xm α},Ok nc c→Xx.Ok nc (c.into g)
 | .ret a,_=>hg a
 | .out,_=>.out
 | .acc r k,h=>by
  cases h with
  | acc h1 h2 h3=>exact .acc h1 h2 fun a=>(h3 a).into hg
end Xm
section
variable {α:Type}
def Zw (j:Nat) (a:α) (s:Nat→List α):Nat→List α:=upd s j (s j ++ [a])
def Yp (j:Nat):List (Xm α)→Xx (Nat→List α) Unit
 | []=>.ret ()
 | c::l=>c.into fun a=>.act (Zw j a) fun _=>Yp j l
def Q9 (j:Nat) (c:Xm α) (l:List (Xm α)):Xx (Nat→List α) Unit:=c.into fun a=>.act (Zw j a) fun _=>Yp j l
inductive Nx (α:Type) where
 | ended
 | out
 | at (r:Ask) (k:Told→Xm α) (l:List (Xm α))
def Nx.prog (j:Nat):Nx α→Xx (Nat→List α) Unit
 | .ended=>.ret ()
 | .out=>.out
 | .at r k l=>Q9 j (.acc r k) l
def norm:List (Xm α)→Xm α→List α × Nx α
 | [],.ret a=>([a],.ended)
 | c::l,.ret a=>(a::(norm l c).1,(norm l c).2)
 | _,.out=>([],.out)
 | l,.acc r k=>([],.at r k l)
def QS:List (Xm α)→List α × Nx α
 | []=>([],.ended)
 | c::l=>norm l c
theorem XaO (l:List (Xm α)) (r:Ask) (k:Told→Xm α):norm l (.acc r k)=([],.at r k l):=by cases l<;>rfl
theorem XaN (l:List (Xm α)):norm l .out=([],.out):=by cases l<;>rfl
theorem Qf (s:Nat→List α) (j:Nat):upd s j (s j ++ [])=s:=by
 funext i
 by_cases e:i=j
 ·subst e;simp [upd_same]
 ·rw [upd_ne _ _ e]
theorem XeJ {β:Type} (s:Nat→β) (j:Nat) (a b:β):upd (upd s j a) j b=upd s j b:=by
 funext i
 by_cases e:i=j
 ·subst e;rw [upd_same,upd_same]
 ·rw [upd_ne _ _ e,upd_ne _ _ e,upd_ne _ _ e]
theorem Z1 (j:Nat):∀ (l:List (Xm α)) (c:Xm α) (s:Nat→List α),(Q9 j c l).pass s=(upd s j (s j ++ (norm l c).1),(norm l c).2.prog j)
 | l,.acc r k,s=>by rw [XaO,Qf];rfl
 | l,.out,s=>by rw [XaN,Qf];rfl
 | [],.ret a,s=>rfl
 | c::l,.ret a,s=>by
  show (Q9 j c l).pass (Zw j a s)=_;rw [Z1 j l c];unfold Zw;rw [upd_same,XeJ];show _=(upd s j (s j ++ a::(norm l c).1),_);rw [List.append_assoc];rfl
theorem Qh (j:Nat) (l:List (Xm α)) (s:Nat→List α):(Yp j l).pass s=(upd s j (s j ++ (QS l).1),(QS l).2.prog j):=by
 cases l with
 | nil=>show (s,_)=(upd s j (s j ++ []),_);rw [Qf];rfl
 | cons c l=>exact Z1 j l c s
inductive ZL (L left:List Xo) (names:List Nat) (cells:Nat→Int) (j:Nat):Nat→Nx α→List α→Prop
 | ended {i:Nat} (h1:∀ q a,i≤q→L[q]? = some a→a.thread≠j) (h2:∀ a,a∈left→a.thread≠j):ZL L left names cells j i .ended []
 | acc {i q:Nat} {a:Xo} {r:Ask} {k:Told→Xm α} {l:List (Xm α)} {T:List α} (h1:i≤q) (h2:L[q]? = some a) (h3:a.thread=j) (h4:∀ x b,i≤x→x < q→L[x]? = some b→b.thread≠j) (h5:a.op=r.op∧a.arg=r.arg∧a.new=r.new) (h6:r.cell∈names∧a.cell=(names.idxOf r.cell:Nat)) (h7:ZL L left names cells j (q + 1) (norm l (k ⟨a.was,a.now,a.ok⟩)).2 T):ZL L left names cells j i (.at r k l) ((norm l (k ⟨a.was,a.now,a.ok⟩)).1 ++ T)
 | left {i:Nat} {a:Xo} {r:Ask} {k:Told→Xm α} {l:List (Xm α)} (h1:∀ q a,i≤q→L[q]? = some a→a.thread≠j) (h2:left.find? (fun a=>a.thread == j)=some a) (h5:a.op=r.op∧a.arg=r.arg∧a.new=r.new) (h6:a.cell=if r.cell∈names then ((names.idxOf r.cell:Nat):Int) else -1) (h7:r.cell ∉ names→a.was=cells r.cell):ZL L left names cells j i (.at r k l) []
def ZV (L left:List Xo) (names:List Nat) (cells:Nat→Int) (j i:Nat) (c:Xm α) (l:List (Xm α)) (T:List α):Prop:=∃ T',T=(norm l c).1 ++ T'∧ZL L left names cells j i (norm l c).2 T'
section
variable {L left:List Xo} {names:List Nat} {cells:Nat→Int} {j i:Nat} {c:Xm α} {l:List (Xm α)} {T:List α} {a:α}
theorem ZV.out_ (h:ZV L left names cells j i .out l T):False:=by
 obtain ⟨T',_,h⟩:=h;rw [XaN] at h;cases h
theorem ZV.next (h:ZV L left names cells j i (.ret a) (c::l) T):∃ T',T=a::T'∧ZV L left names cells j i c l T':=by
 obtain ⟨T',e,h⟩:=h;exact ⟨(norm l c).1 ++ T',e,T',rfl,h⟩
theorem ZV.last (h:ZV L left names cells j i (.ret a) [] T):T = [a]∧ZL L left names cells j i (.ended:Nx α) []:=by
 obtain ⟨T',e,h⟩:=h;have h':ZL L left names cells j i (.ended:Nx α) T':=h;cases h' with
 | ended h1 h2=>exact ⟨e,.ended h1 h2⟩
theorem ZV.acc_ {r:Ask} {k:Told→Xm α} (h:ZV L left names cells j i (.acc r k) l T) :
 (∃ q a,i≤q∧L[q]? = some a∧a.thread=j∧(∀ x b,i≤x→x < q→L[x]? = some b→b.thread≠j)∧(a.op=r.op∧a.arg=r.arg∧a.new=r.new)∧(r.cell∈names∧a.cell=(names.idxOf r.cell:Nat))∧ZV L left names cells j (q + 1) (k ⟨a.was,a.now,a.ok⟩) l T) ∨
 (∃ a,(∀ q a,i≤q→L[q]? = some a→a.thread≠j)∧left.find? (fun a=>a.thread == j)=some a∧(a.op=r.op∧a.arg=r.arg∧a.new=r.new)∧(a.cell=if r.cell∈names then ((names.idxOf r.cell:Nat):Int) else -1)∧(r.cell ∉ names→a.was=cells r.cell)∧T = []):=by
 obtain ⟨T',e,h⟩:=h;rw [XaO] at h e;replace e:T=T':=e;subst e;replace h:ZL L left names cells j i (.at r k l) T:=h;cases h with
 | acc h1 h2 h3 h4 h5 h6 h7=>exact .inl ⟨_,_,h1,h2,h3,h4,h5,h6,_,rfl,h7⟩
 | left h1 h2 h5 h6 h7=>exact .inr ⟨_,h1,h2,h5,h6,h7,rfl⟩
end
namespace Xp
variable {P Q:Xp (Nat→List α)} {sched:List Nat→List Nat→Nat}
def Wf (P:Xp (Nat→List α)):Prop:=∀ j,j < P.n→∃ nx:Nx α,P.progs j=nx.prog j
theorem Xer {j:Nat} {nx:Nx α} {r:Ask} {k:Told→Xx (Nat→List α) Unit} (h:nx.prog j=.acc r k):∃ k' l,nx=.at r k' l∧k=fun a=>Q9 j (k' a) l:=by
 cases nx with
 | ended=>cases h
 | out=>cases h
 | «at» r' k' l =>
  replace h:Xx.acc r' (fun a=>Q9 j (k' a) l)=.acc r k:=h;injection h with h1 h2
  subst h1;exact ⟨k',l,rfl,h2.symm⟩
theorem Xc0 {l:List Xo} {j:Nat} (h:l.find? (fun a=>a.thread == j)=none):∀ a,a∈l→a.thread≠j:=fun a ha e=>by
 have:=List.find?_eq_none.1 h a ha
 simp [e] at this
theorem Xe0 (hs:Zs sched) (h:Goes sched P Q) (hQ:Q.Live) (cells:Nat→Int) (hW:P.Wf) (hc:∀ c,c ∉ P.st.names→P.st.cells c=cells c) {j:Nat} (hj:j < P.n) (nx:Nx α) (hp:P.progs j=nx.prog j) :
 ∃ T,Q.st.sh j=P.st.sh j ++ T∧ZL Q.st.log Q.left Q.st.names cells j P.st.log.length nx T:=by
 induction h generalizing nx with
 | refl P =>
  have hno:∀ q (a:Xo),P.st.log.length≤q→P.st.log[q]? = some a→a.thread≠j:=fun q a h1 h2=>by
   rw [List.getElem?_eq_none h1] at h2;cases h2
  have hf:=UH (Q:=P) (fun _ _=>trivial) hj;refine ⟨[],by simp,?_⟩;cases nx with
  | ended =>
   refine .ended hno (Xc0 ?_);rw [hf];simp [stands,hp,Nx.prog,Xx.req]
  | out =>
   rcases hQ j hj with ⟨r,k,e⟩|⟨v,e⟩
   ·rw [hp] at e;cases e
   ·rw [hp] at e;cases e
  | «at» r k l =>
   have hp':P.progs j=.acc r fun a=>Q9 j (k a) l:=hp;exact .left (a:=⟨j,r.op,if r.cell∈P.st.names then P.st.num r.cell else -1,r.arg,r.new,P.st.cells r.cell,P.st.cells r.cell,false⟩) hno (by rw [hf];simp only [stands,hp',Xx.req,Option.map_some]) ⟨rfl,rfl,rfl⟩ rfl fun hn=>hc _ hn
 | @turn P Q h1 h2 h3 ih =>
  have hq:=hs P.st.went P.able h2;obtain ⟨hn,r0,k0,hp0,h6⟩:=Uj hq;generalize sched P.st.went P.able=q at hq hn hp0 h3 ih;obtain ⟨nq,hnq⟩:=hW q hn;obtain ⟨k',l',rfl,rfl⟩:=Xer (hnq.symm.trans hp0);have ht:=turn_acc hp0;have hpass:=Z1 q l' (k' (P.st.ans r0)) P.st.sh;have hsh:(P.turn q).st.sh=upd P.st.sh q (P.st.sh q ++ (norm l' (k' (P.st.ans r0))).1):=by rw [ht];exact congrArg Prod.fst hpass
  have hpr:(P.turn q).progs=upd P.progs q ((norm l' (k' (P.st.ans r0))).2.prog q):=by rw [ht];exact congrArg (upd P.progs q) (congrArg Prod.snd hpass)
  have hW':(P.turn q).Wf:=fun i hi=>by
   rw [hpr]
   by_cases e:i=q
   ·subst e;rw [upd_same];exact ⟨_,rfl⟩
   ·rw [upd_ne _ _ e];exact hW i (by rw [ht] at hi;exact hi)
  have hnm:(P.turn q).st.names=if r0.cell∈P.st.names then P.st.names else P.st.names ++ [r0.cell]:=by rw [ht]
  have hc':∀ c,c ∉ (P.turn q).st.names→(P.turn q).st.cells c=cells c:=fun c hcn=>by
   rw [hnm] at hcn;rw [ht];show upd P.st.cells r0.cell _ c=_;have e1:c ∉ P.st.names:=fun e=>hcn (by split<;>simp [e]);have e2:c≠r0.cell:=fun e=>hcn (by rw [e];split<;>simp [*]);rw [upd_ne _ _ e2];exact hc c e1
  have hjt:j < (P.turn q).n:=by rw [ht];exact hj
  obtain ⟨l,hl⟩:=h3.log hs;obtain ⟨l2,hl2⟩:=h3.names hs;have hlen:(P.turn q).st.log=P.st.log ++ [P.st.entry q r0]:=by rw [ht]
  have hlen':(P.turn q).st.log.length=P.st.log.length + 1:=by rw [hlen];simp
  have hat:Q.st.log[P.st.log.length]? = some (P.st.entry q r0):=by
   rw [hl,hlen,List.append_assoc,List.getElem?_append_right (Nat.le_refl _)];simp
  by_cases e:j=q
  ·subst e
   obtain ⟨k2,l3,rfl,e2⟩:=Xer (hp.symm.trans hp0);have e3:Q9 j (k2 (P.st.ans r0)) l3=Q9 j (k' (P.st.ans r0)) l':=congrFun e2.symm (P.st.ans r0);have hpass2:=Z1 j l3 (k2 (P.st.ans r0)) P.st.sh;rw [e3,hpass] at hpass2;injection hpass2 with e4 e5
   have e6:=congrFun e4 j;rw [upd_same,upd_same] at e6;have e7:=List.append_cancel_left e6;obtain ⟨T,t1,t2⟩:=ih hQ hW' hc' hjt (norm l3 (k2 (P.st.ans r0))).2 (by rw [hpr,upd_same];exact e5);rw [hsh,upd_same,e7] at t1;refine ⟨_,by rw [t1,List.append_assoc],?_⟩;have hmem:r0.cell∈(P.turn j).st.names:=by rw [hnm];split<;>simp [*]
   rw [hlen'] at t2;refine .acc (a:=P.st.entry j r0) (Nat.le_refl _) hat rfl (fun x b h1 h2=>by omega) ⟨rfl,rfl,rfl⟩ ⟨by rw [hl2];exact List.mem_append_left _ hmem,?_⟩ t2;rw [hl2,Xaj hmem];show P.st.num r0.cell=_;unfold Rst.num;rw [hnm]
   split
   ·rfl
   ·rename_i hni
    rw [List.idxOf_append,if_neg hni,List.idxOf_eq_length hni];simp
  ·obtain ⟨T,t1,t2⟩:=ih hQ hW' hc' hjt nx (by rw [hpr,upd_ne _ _ e];exact hp)
   rw [hsh,upd_ne _ _ e] at t1;refine ⟨T,t1,?_⟩;rw [hlen'] at t2;have hskip:∀ b,Q.st.log[P.st.log.length]? = some b→b.thread≠j:=fun b hb=>by
    rw [hat] at hb;rw [← Option.some.inj hb];exact fun z=>e z.symm
   cases t2 with
   | ended g1 g2 =>
    refine .ended (fun x a q1 q2=>?_) g2;rcases Nat.eq_or_lt_of_le q1 with z|z
    ·subst z;exact hskip a q2
    ·exact g1 x a z q2
   | acc g1 g2 g3 g4 g5 g6 g7 =>
    refine .acc (by omega) g2 g3 (fun x b q1 q2 q3=>?_) g5 g6 g7;rcases Nat.eq_or_lt_of_le q1 with z|z
    ·subst z;exact hskip b q3
    ·exact g4 x b z q2 q3
   | left g1 g2 g5 g6 g7 =>
    refine .left (fun x a q1 q2=>?_) g2 g5 g6 g7;rcases Nat.eq_or_lt_of_le q1 with z|z
    ·subst z;exact hskip a q2
    ·exact g1 x a z q2
def bodiesOf (b:Nat):List (List (Xm α))→List (Xx (Nat→List α) Unit)
 | []=>[]
 | cs::l=>Yp b cs::bodiesOf (b + 1) l
theorem ZN:∀ (css:List (List (Xm α))) (P:Xp (Nat→List α)),(∀ j,P.n≤j→P.st.sh j = []) →
 (P.start (bodiesOf P.n css)).n=P.n + css.length∧(P.start (bodiesOf P.n css)).st = { P.st with sh:=(P.start (bodiesOf P.n css)).st.sh }∧(∀ j,j < P.n→(P.start (bodiesOf P.n css)).progs j=P.progs j∧(P.start (bodiesOf P.n css)).st.sh j=P.st.sh j) ∧
  ∀ j cs,css[j]? = some cs→(P.start (bodiesOf P.n css)).progs (P.n + j)=(QS cs).2.prog (P.n + j)∧(P.start (bodiesOf P.n css)).st.sh (P.n + j)=(QS cs).1
 | [],P,h=>⟨by simp [bodiesOf,start],rfl,fun j hj=>⟨rfl,rfl⟩,fun j cs hc=>by simp at hc⟩
 | cs::l,P,h=>by
  obtain ⟨S,hS⟩:∃ S,S=settle { P with n:=P.n + 1 } P.n (Yp P.n cs):=⟨_,rfl⟩
  have h0:P.start (bodiesOf P.n (cs::l))=S.start (bodiesOf S.n l):=by rw [hS];rfl
  have hn:S.n=P.n + 1:=by rw [hS];rfl
  have hp:=Qh P.n cs P.st.sh;have hsh:S.st.sh=upd P.st.sh P.n (P.st.sh P.n ++ (QS cs).1):=by rw [hS];exact congrArg Prod.fst hp
  have hpr:S.progs=upd P.progs P.n ((QS cs).2.prog P.n):=by rw [hS];exact congrArg (upd P.progs P.n) (congrArg Prod.snd hp)
  have hst:S.st = { P.st with sh:=S.st.sh }:=by rw [hS];rfl
  obtain ⟨i1,i2,i3,i4⟩:=ZN l S (fun j hj=>by
   rw [hsh,upd_ne _ _ (by omega)];exact h j (by omega))
  rw [h0];refine ⟨by rw [i1,hn,List.length_cons];omega,by rw [i2,hst],fun j hj=>?_,fun j cs' hc=>?_⟩
  ·obtain ⟨a1,a2⟩:=i3 j (by omega)
   rw [a1,a2,hpr,hsh,upd_ne _ _ (by omega),upd_ne _ _ (by omega)];exact ⟨rfl,rfl⟩
  ·cases j with
   | zero =>
    obtain rfl:cs=cs':=by simpa using hc
    obtain ⟨a1,a2⟩:=i3 P.n (by omega);rw [Nat.add_zero,a1,a2,hpr,hsh,upd_same,upd_same,h P.n (Nat.le_refl _)];exact ⟨rfl,rfl⟩
   | succ j =>
    rw [show P.n + (j + 1)=S.n + j by omega];exact i4 j cs' (by simpa using hc)
theorem XdO (hs:Zs sched) {css:List (List (Xm α))} {cells:Nat→Int} {n:Nat} {sh0:Nat→List α} (h0:∀ j,sh0 j = []) (h:Goes sched ((⟨0,fun _=>.ret (),⟨sh0,cells,[],[],[],[]⟩⟩:Xp (Nat→List α)).start (bodiesOf 0 css)) Q) (hQ:Q.Live) :
 Q.n=css.length∧∀ j cs,css[j]? = some cs→∃ T,Q.st.sh j=(QS cs).1 ++ T∧ZL Q.st.log Q.left Q.st.names cells j 0 (QS cs).2 T:=by
 obtain ⟨P0,hP0⟩:∃ P0:Xp (Nat→List α),P0=⟨0,fun _=>.ret (),⟨sh0,cells,[],[],[],[]⟩⟩:=⟨_,rfl⟩
 rw [← hP0] at h;have hb:P0.n=0:=by rw [hP0]
 obtain ⟨i1,i2,_,i4⟩:=ZN css P0 (fun j _=>by rw [hP0];exact h0 j);rw [hb] at i1 i2 i4;generalize P0.start (bodiesOf 0 css)=S at h i1 i2 i4;rw [Nat.zero_add] at i1;have hlog:S.st.log = []:=by rw [i2,hP0]
 have hnm:S.st.names = []:=by rw [i2,hP0]
 have hcl:S.st.cells=cells:=by rw [i2,hP0]
 refine ⟨(h.num hs).trans i1,fun j cs hc=>?_⟩;have hj:=(List.getElem?_eq_some_iff.1 hc).1;obtain ⟨a1,a2⟩:=i4 j cs hc;rw [Nat.zero_add] at a1 a2;obtain ⟨T,t1,t2⟩:=Xe0 hs h hQ cells (fun i hi=>by
  obtain ⟨b1,_⟩:=i4 i _ (List.getElem?_eq_getElem (by omega:i < css.length));rw [Nat.zero_add] at b1;exact ⟨_,b1⟩) (fun c _=>by rw [hcl]) (by omega:j < S.n) _ a1
 rw [hlog] at t2;exact ⟨T,by rw [t1,a2],t2⟩

/- What a run's record tells, in plain words: what comes of a turn; where each thread stands next. No program in sight. -/
import Derived.Test.YtdgfekplfipekaaVTkC
import Derived.Test.YtdgfekplfipekaaVTkB
set_option linter.all false
set_option maxRecDepth 100000
set_option maxHeartbeats 16000000
namespace Go.Proofs.Ytdgfekplfipekaa
open Go.Conc
open Go.ConcN (sumTo upd sumTo_upd upd_ne upd_same)
section
variable {P:Program} {B:Nat} {Ch:Nat→Option XL} {h d:Nat} {T:Trace} {gs:Array Goroutine} {w:World} {q:Nat→Nat}
theorem Tk.hire {a a' child:Goroutine} {es:Array Event} {sl:Option (Nat × Nat)} (C:Tk P B Ch h 0 T gs w q) (ha:gs[h]? = some a) (hrun:a.status=.running)
 (hgo:∀ n,stepG P (h == 0) a (w.at n)=.spawn a' child (w.at n) es) (hes:∀ e∈es,EvG (UE Ch h) B e) {s:XL} (hs:XbN B Ch h w s) {nc:Nat} (hchild:XbK P B gs.size s nc child) :
 ∃ (N:Nat) (gs':Array Goroutine) (n:Nat) (sl':Option (Nat × Nat)) (T':Trace) (q':Nat→Nat),runNT P N (crowd gs w sl) T=(.next (crowd gs' (w.at n) sl'),T')∧gs'.size=gs.size + 1∧gs'[h]? = some a' ∧
  Tk P B (upd Ch gs.size (some s)) h 0 T' gs' (w.at n) q':=by
 obtain ⟨N,gs₁,n,n',sl₁,sl₂,T₁,q₁,hr,hst,hsz,ha₁,C₁⟩:=Tk.picked (sl:=sl) ha hrun C;have hlt:h < gs₁.size:=(Array.getElem?_eq_some_iff.1 ha₁).1;have hops:∀ op∈MemOp.ofEvents h a.frame.fn a.frame.place es,op.g=h:=fun op hop=>by obtain ⟨e,_,rfl⟩:=Go.Conc.mem_ofEvents hop;rfl
 have hrt:=runT_crowd_spawn (P:=P) (sl:=sl₂) ha₁ (hgo n');have hpush:((MemOp.ofEvents h a.frame.fn a.frame.place es).push { g:=h,fn:=a.frame.fn,pos:=a.frame.place,act:=.go gs₁.size } |>.push { g:=gs₁.size,fn:=child.frame.fn,pos:=a.frame.place,act:=.start }) =
  MemOp.ofEvents h a.frame.fn a.frame.place es ++ #[{ g:=h,fn:=a.frame.fn,pos:=a.frame.place,act:=.go gs₁.size },{ g:=gs₁.size,fn:=child.frame.fn,pos:=a.frame.place,act:=.start }]:=by
  apply Array.ext';simp
 rw [hpush] at hrt;have p1:=(C₁.setH (fn:=a.frame.fn) (pos:=a.frame.place) a hlt hes).hist;have hD1:∀ x,Deaf (T₁ ++ MemOp.ofEvents h a.frame.fn a.frame.place es) x=Deaf T₁ x:=fun x=>by
  by_cases ex:x=h
  ·subst ex;rw [Deaf_own,EvG.still hes]
  ·exact Deaf_other T₁ (fun z=>ex z.symm) _ hops
 have hnone:∀ i s',i≠h→Ch i=some s'→i < gs₁.size:=fun i s' hi e=>(C₁.chan i s' hi e).1;have hnl:¬ Ze Ch h gs₁.size:=fun ⟨z,e⟩=>by
  cases e':Ch gs₁.size with
  | none=>rw [e'] at e;cases e
  | some s'=>have:=hnone _ s' z e';omega
 have hup:∀ x,x≠gs₁.size→upd Ch gs₁.size (some s) x=Ch x:=fun x hx=>upd_ne Ch _ hx;have p2:=p1.hire (c:=gs₁.size) (Sl':=XdJ (upd Ch gs₁.size (some s))) (Loose':=Ze (upd Ch gs₁.size (some s)) h) (by rw [hD1];exact C₁.deaf) (by rw [hD1];exact C₁.above _ (Nat.le_refl _)) hnl
  (fun g hg=>by funext l;simp only [XdJ,hup g hg]) (fun l hl=>by obtain ⟨s',_,hs'⟩:=hl;exact hs'.mem) (fun g hg=>by simp only [Ze,hup g hg]) a.frame.fn a.frame.place child.frame.fn
 rw [Array.append_assoc] at p2;have hD2:∀ x,Deaf (T₁ ++ (MemOp.ofEvents h a.frame.fn a.frame.place es ++ #[{ g:=h,fn:=a.frame.fn,pos:=a.frame.place,act:=.go gs₁.size },{ g:=gs₁.size,fn:=child.frame.fn,pos:=a.frame.place,act:=.start }])) x=Deaf T₁ x:=fun x=>by
  rw [← Array.append_assoc,Deaf_quiet (fun op hop d=>by
   simp only [List.mem_toArray,List.mem_cons,List.not_mem_nil,or_false] at hop;rcases hop with rfl|rfl<;>rfl),hD1]
 refine ⟨N + 1,_,n',sl₂,_,upd q₁ gs₁.size nc,runNT_succ_of hr (hst.trans hrt),by simp [hsz],(by rw [Array.getElem?_push,if_neg (by simp;omega)];exact Array.getElem?_setIfInBounds_self_of_lt hlt),?_⟩;rw [← hsz] at hchild ⊢;refine ⟨fun x y hx hy=>?_,fun i s' hi e=>?_,fun i i' s₁ s₂ hi hi' e₁ e₂ hcc=>?_,fun i s' hi e=>?_,fun x hx=>?_,?_,p2⟩
 ·by_cases ex:x=gs₁.size
  ·subst ex
   rw [Array.getElem?_push,if_pos (by simp)] at hy;obtain rfl:=Option.some.inj hy;rw [upd_same,upd_same];exact hchild
  ·have hxl:x < gs₁.size:=by
    have:=(Array.getElem?_eq_some_iff.1 hy).1
    simp at this;omega
   rw [Array.getElem?_push,if_neg (by simp;omega),Array.getElem?_setIfInBounds_ne (fun z=>hx z.symm)] at hy;rw [upd_ne q₁ nc ex,hup x ex];have hi:=C₁.rest x y hx hy;cases e:Ch x with
   | none=>rw [e] at hi;exact ⟨hi.1,by rw [hD2];exact hi.2⟩
   | some s=>rw [e] at hi;exact hi
 ·by_cases ei:i=gs₁.size
  ·subst ei
   rw [upd_same] at e;obtain rfl:=Option.some.inj e;exact ⟨by simp,hs.low,hs.open_⟩
  ·rw [hup i ei] at e
   obtain ⟨a1,a2,a3⟩:=C₁.chan i s' hi e;exact ⟨by simp;omega,a2,a3⟩
 ·by_cases e1:i=gs₁.size<;>by_cases e2:i'=gs₁.size
  ·rw [e1,e2]
  ·subst e1
   rw [upd_same] at e₁;rw [hup i' e2] at e₂;obtain rfl:=Option.some.inj e₁;exact absurd hcc.symm (hs.own i' s₂ hi' e₂)
  ·subst e2
   rw [upd_same] at e₂;rw [hup i e1] at e₁;obtain rfl:=Option.some.inj e₂;exact absurd hcc (hs.own i s₁ hi e₁)
  ·rw [hup i e1] at e₁;rw [hup i' e2] at e₂
   exact C₁.inj i i' s₁ s₂ hi hi' e₁ e₂ hcc
 ·by_cases ei:i=gs₁.size
  ·subst ei
   rw [upd_same] at e;obtain rfl:=Option.some.inj e;exact hs.keep
  ·rw [hup i ei] at e
   exact C₁.keep i s' hi e
 ·rw [hD2]
  exact C₁.above x (by simp at hx;omega)
 ·rw [hD2];exact C₁.deaf
end
structure Ctx where
 Ch:Nat→Option XL
 h:Nat
 d:Nat
 n:Nat
 lo:Nat
 io:Os × Array (Nat × ByteArray)
def Ctx.prot (C:Ctx):YK:={ UE C.Ch C.h with lo:=C.lo }
def Fin (P:Program) (Post:Value→World→Prop) (m:Machine) (T:Trace):Prop :=
 ∃ N last o w' t',runNT P (N + 1) m T=(.ended o w',t')∧runN P N m=.next last∧step P last=.ended o w'∧Good P Post last o w' t'
def XcR (w:World):=(w.os,w.output)
theorem Xby {w w':World} (h:Y7 w'=Y7 w):XcR w'=XcR w:=by
 simp only [Y7,Prod.mk.injEq] at h;simp only [XcR,h.2.1,h.2.2]
def J (P:Program) (Post:Value→World→Prop) (C:Ctx) (g:Goroutine) (w:World):Prop :=
 ∀ (k B:Nat) (T:Trace) (gs:Array Goroutine) (sl:Option (Nat × Nat)) (q:Nat→Nat),XcR w=C.io→B≤w.heap.size→gs.size=C.n→gs[C.h]? = some g→Tk P B C.Ch C.h C.d T gs (w.at k) q→Fin P Post (crowd gs (w.at k) sl) T
section
variable {P:Program} {Post:Value→World→Prop} {C:Ctx} {g:Goroutine} {w:World}
theorem Fin.of_run {N:Nat} {m m':Machine} {T T':Trace} (h:runNT P N m T=(.next m',T')) (hf:Fin P Post m' T'):Fin P Post m T:=by
 obtain ⟨M,last,o,w',t',e1,e2,e3,e4⟩:=hf;refine ⟨N + M,last,o,w',t',?_,?_,e3,e4⟩
 ·rw [Nat.add_assoc,runNT_add,h];exact e1
 ·rw [runN_add,← runNT_fst P _ _ T,h];exact e2
theorem J.at (h:J P Post C g w) (n:Nat):J P Post C g (w.at n):=fun k B T gs sl q hio hB hn hg hT=>h k B T gs sl q hio hB hn hg hT
theorem J.step (hrun:g.status=.running) (h:∀ k,∃ g' w' es,stepG P (C.h == 0) g (w.at k)=.go g' w' es∧(∀ e∈es,EvT C.prot w'.heap.size e)∧w.heap.size≤w'.heap.size∧UU C.prot w w'∧Y7 w'=Y7 w∧J P Post { C with d:=deafBehind C.d es } g' w'):J P Post C g w:=by
 intro k B T gs sl q hio hB hn hg hT;obtain ⟨N,gs₁,n,n',sl₁,sl₂,T₁,q₁,hr,hst,hsz,ha₁,C₁⟩:=Tk.picked (sl:=sl) hg hrun hT;rw [at_at'] at hr hst C₁
 try rw [at_at'] at hst
 obtain ⟨g',w',es,h1,h2,h3,h4,hout,h5⟩:=h n';have hrt:=runT_crowd_go (sl:=sl₂) ha₁ h1;have hst':UU (UE C.Ch C.h) (w.at n') w':=⟨fun a z h1 h2=>h4.cells a z h1 h2,fun r o h1 h2=>h4.objs r o h1 h2⟩
 obtain ⟨C₂,hg'⟩:=(C₁.mono (Nat.le_trans hB h3)).own (a':=g') ha₁ h2 hst';refine Fin.of_run (runNT_succ_of hr (hst.trans hrt)) ?_
 have:=h5 w'.drawn w'.heap.size _ _ sl₂ q₁ ((Xby hout).trans hio) (Nat.le_refl _) (by simp [hsz,hn]) hg' C₂
 exact this
theorem J.give {a₂:Goroutine} {j:Nat} {s:XL} {v z':Value} {es:Array Event} (hd:C.d=0) (hjh:j≠C.h) (hj:C.Ch j=some s) (hrun:g.status=.running)
 (hsend:∀ k,stepG P (C.h == 0) g (w.at k)=.comm a₂ #[scase s.c v z'] true .send (w.at k) es) (hes:∀ e∈es,EvG C.prot w.heap.size e) (new:Option XL) (hnew:∀ s',new=some s'→XbN w.heap.size C.Ch C.h w s')
 (hafter:∃ nh,∀ T',Deaf T' C.h=0→Rest P w.heap.size T' C.h nh (Go.Conc.served a₂ undef) new)
 (hnext:∀ g₂ k,s.home g₂→w.heap[s.c]? = some (.chan 0 #[] false k k false)→J P Post { Ch:=upd C.Ch C.h new,h:=j,d:=0,n:=C.n,lo:=C.lo,io:=C.io } (Go.Conc.served g₂ v) (w.setChan s.c 0 #[] false (k + 1) (k + 1) false)):J P Post C g w:=by
 intro k B T gs sl q hio hB hn hg hT;obtain ⟨nh,hafter⟩:=hafter;rw [hd] at hT;obtain ⟨N,gs',g₂,n,kk,sl',T',q',hr,hsz,hJ,hhome,hc,C'⟩:=Tk.give (sl:=sl) (v:=v) (z':=z') (hT.mono hB) hjh hj hg hrun (fun n=>by rw [at_at'];exact hsend n) hes (new:=new) (fun s' e=>⟨(hnew s' e).low,(hnew s' e).open_,(hnew s' e).own,(hnew s' e).keep⟩) hafter;refine Fin.of_run hr ?_;have hb:w.heap.size≤(w.setChan s.c 0 #[] false (kk + 1) (kk + 1) false).heap.size:=by simp [World.setChan]
 exact hnext g₂ kk hhome hc n w.heap.size T' gs' sl' q' hio hb (hsz.trans hn) hJ C'
theorem J.hire {a' child:Goroutine} {es:Array Event} (hd:C.d=0) (hrun:g.status=.running) (hgo:∀ k,stepG P (C.h == 0) g (w.at k)=.spawn a' child (w.at k) es) (hes:∀ e∈es,EvG C.prot w.heap.size e)
 (s:XL) (hs:XbN w.heap.size C.Ch C.h w s) (hchild:∃ nc,XbK P w.heap.size C.n s nc child) (hnext:J P Post { Ch:=upd C.Ch C.n (some s),h:=C.h,d:=0,n:=C.n + 1,lo:=C.lo,io:=C.io } a' w):J P Post C g w:=by
 intro k B T gs sl q hio hB hn hg hT;obtain ⟨nc,hchild⟩:=hchild;rw [hd] at hT;obtain ⟨N,gs',n,sl',T',q',hr,hsz,hg',C'⟩:=Tk.hire (sl:=sl) (hT.mono hB) hg hrun (fun n=>by rw [at_at'];exact hgo n) hes (s:=s) ⟨hs.low,hs.open_,hs.own,hs.keep⟩ (nc:=nc) (by rw [hn];exact hchild);refine Fin.of_run hr ?_;rw [at_at'] at C' ⊢;rw [hn] at C';exact hnext n w.heap.size T' gs' sl' q' hio (Nat.le_refl _) (by rw [hsz,hn]) hg' C'
theorem J.end (h0:C.h=0) (hd:C.d=0) (hI:∀ i,i≠0→C.Ch i=none) (hrun:g.status=.running)
 (h:∀ k,∃ v es,stepG P true g (w.at k)=.ended (.done v) (w.at k) es∧(∀ e∈es,EvG C.prot w.heap.size e)∧(XcR w=C.io→Post v (w.at k))):J P Post C g w:=by
 intro k B T gs sl q hio hB hn hg hT;rw [hd,h0] at hT;rw [h0] at hg;have hL:Leavers P T gs q:=⟨fun i g hi hg=>by have:=hT.rest i g (by omega) hg;rw [hI i (by omega)] at this;exact this.2,hT.above⟩
 have hP:Past (fun _=>False) w.heap.size T:=((hT.mono hB).hist.past hT.deaf fun g ⟨hg,hs⟩=>by rw [hI g hg] at hs;cases hs)
 exact beside_ends (P:=P) (Post:=Post) (D:=fun _ _ _=>False) (n:=0) (fun _ _ _ z=>z.elim) hg hL hP (fun w₁ h₁=>by
  obtain ⟨dd,rfl⟩:=h₁;rw [at_at'];obtain ⟨v,es,e1,e2,e3⟩:=h dd;exact ⟨hrun,v,es,e1,fun e he=>⟨fun x _ z=>z.elim,fun z=>((e2 e he).2.2.1 _ z).1 rfl,fun z=>((e2 e he).2.2.1 _ z).2.1 rfl,(e2 e he).2.2.2⟩,e3 hio⟩)
theorem J.begin {lo:Nat} (h:J P Post { Ch:=fun _=>none,h:=0,d:=0,n:=1,lo:=lo,io:=XcR w } g w):Fin P Post (solo g w) #[]:=by
 rw [solo_eq_crowd];have hi1:∀ (i:Nat) (g':Goroutine),i≠0→(#[g]:Array Goroutine)[i]? = some g'→False:=fun i g' hi hg=>by
  have:i < 1:=by simpa using (Array.getElem?_eq_some_iff.1 hg).1
  omega
 exact h w.drawn 0 #[] #[g] none (fun _=>0) rfl (Nat.zero_le _) rfl rfl
  { rest:=fun i g' hi hg=>(hi1 i g' hi hg).elim
    chan:=fun _ _ _ e=>nomatch e
    inj:=fun _ _ _ _ _ _ e=>nomatch e
    keep:=fun _ _ _ e=>nomatch e
    above:=fun _ _=>rfl
    deaf:=rfl
    hist:=Xd4 _ _ _ }
end
end Go.Proofs.Ytdgfekplfipekaa
namespace Go.Proofs.Ytdgfekplfipekaa
open Go.Conc Go.RowKit
open Go.ConcN (upd upd_same upd_ne)
inductive Xx.Ok {Sh α:Type} (nc:Nat):Xx Sh α→Prop
 | ret (a:α):Xx.Ok nc (.ret a)
 | fall:Xx.Ok nc .fall
 | out:Xx.Ok nc .out
 | acc {r:Ask} {k:Told→Xx Sh α} (hr:r.Good) (hc:r.cell < nc) (hk:∀ a,Xx.Ok nc (k a)):Xx.Ok nc (.acc r k)
 | act {f:Sh→Sh} {k:Sh→Xx Sh α} (hk:∀ s,Xx.Ok nc (k s)):Xx.Ok nc (.act f k)
theorem Xx.Ok.pass {Sh α:Type} {nc:Nat}:∀ {p:Xx Sh α},Xx.Ok nc p→∀ s,Xx.Ok nc (p.pass s).2
 | .ret a,h,s=>h
 | .fall,h,s=>h
 | .out,h,s=>h
 | .acc r k,h,s=>h
 | .act f k,h,s=>by
  cases h with
  | act hk=>simp only [Xx.pass];exact Xx.Ok.pass (hk s) (f s)
namespace Xp
variable {Sh:Type} {P Q:Xp Sh} {sched:List Nat→List Nat→Nat}
def Live (P:Xp Sh):Prop:=∀ j,j < P.n→(∃ r k,P.progs j=.acc r k)∨(∃ v,P.progs j=.ret v)
theorem turn_acc {q:Nat} {r:Ask} {k:Told→Xx Sh Unit} (h:P.progs q=.acc r k) :
 P.turn q=⟨P.n,upd P.progs q ((k (P.st.ans r)).pass P.st.sh).2,⟨((k (P.st.ans r)).pass P.st.sh).1,upd P.st.cells r.cell (P.st.ans r).now,if r.cell∈P.st.names then P.st.names else P.st.names ++ [r.cell],P.st.log ++ [P.st.entry q r],P.st.went ++ [q],P.st.ready ++ [P.able.length]⟩⟩:=by
 simp only [turn,goes,h,settle];rfl
theorem able_acc {q:Nat} (h:q∈P.able):q < P.n∧∃ r k,P.progs q=.acc r k∧(r.op=6→P.st.cells r.cell≠r.arg):=by
 obtain ⟨h1,h2⟩:=List.mem_filter.1 h;refine ⟨List.mem_range.1 h1,?_⟩;unfold can at h2;cases hp:P.progs q with
 | acc r k =>
  rw [hp] at h2;refine ⟨r,k,rfl,fun e=>?_⟩;simpa [Xx.req,e] using h2
 | ret a=>rw [hp] at h2;simp [Xx.req] at h2
 | fall=>rw [hp] at h2;simp [Xx.req] at h2
 | out=>rw [hp] at h2;simp [Xx.req] at h2
 | act f k=>rw [hp] at h2;simp [Xx.req] at h2
def Picks (sched:List Nat→List Nat→Nat):Prop:=∀ went l,l≠[]→sched went l∈l
inductive Goes (sched:List Nat→List Nat→Nat):Xp Sh→Xp Sh→Prop
 | refl (P:Xp Sh):Goes sched P P
 | turn {P Q:Xp Sh} (h1:P.over=false) (h2:P.able≠[]) (h3:Goes sched (P.turn (sched P.st.went P.able)) Q):Goes sched P Q
theorem Goes.keeps {I:Xp Sh→Prop} (hs:Picks sched) (hI:∀ (P:Xp Sh) (q:Nat) (r:Ask) (k:Told→Xx Sh Unit),I P→q∈P.able→q < P.n→P.progs q=.acc r k→(r.op=6→P.st.cells r.cell≠r.arg)→I (P.turn q)) (h:Goes sched P Q):I P→I Q:=by
 induction h with
 | refl P=>exact id
 | @turn P Q h1 h2 h3 ih =>
  intro hp;have hq:=hs P.st.went P.able h2;obtain ⟨hn,r,k,hpr,h6⟩:=able_acc hq;exact ih (hI _ _ r k hp hq hn hpr h6)
theorem Goes.log (hs:Picks sched) (h:Goes sched P Q):∃ l,Q.st.log=P.st.log ++ l:=by
 refine Goes.keeps (I:=fun R=>∃ l,R.st.log=P.st.log ++ l) hs (fun R q r k ⟨l,hl⟩ _ _ hp _=>?_) h ⟨[],by simp⟩;rw [turn_acc hp];exact ⟨l ++ [R.st.entry q r],by simp [hl]⟩
theorem Goes.names (hs:Picks sched) (h:Goes sched P Q):∃ l,Q.st.names=P.st.names ++ l:=by
 refine Goes.keeps (I:=fun R=>∃ l,R.st.names=P.st.names ++ l) hs (fun R q r k ⟨l,hl⟩ _ _ hp _=>?_) h ⟨[],by simp⟩;rw [turn_acc hp]
 by_cases e:r.cell∈R.st.names
 ·exact ⟨l,by simp only [if_pos e];exact hl⟩
 ·exact ⟨l ++ [r.cell],by simp only [if_neg e];rw [hl];simp⟩
theorem Goes.num (hs:Picks sched) (h:Goes sched P Q):Q.n=P.n :=
 Goes.keeps (I:=fun R=>R.n=P.n) hs (fun R q r k hl _ _ hp _=>by rw [turn_acc hp];exact hl) h rfl
theorem Goes.still (hs:Picks sched) (h:Goes sched P Q) {j:Nat} (hj:∀ r k,P.progs j≠.acc r k):Q.progs j=P.progs j:=by
 refine Goes.keeps (I:=fun R=>R.progs j=P.progs j) hs (fun R q r k hl _ _ hp _=>?_) h rfl;rw [turn_acc hp];show upd R.progs q _ j=_
 by_cases e:j=q
 ·subst e;rw [hl] at hp;exact absurd hp (hj r k)
 ·rw [upd_ne _ _ e];exact hl
theorem Goes.live (hs:Picks sched) (h:Goes sched P Q) (hQ:Q.Live):P.Live:=fun j hj=>by
 by_cases e:∃ r k,P.progs j=.acc r k
 ·exact .inl e
 ·have h2:=h.still hs (j:=j) fun r k q=>e ⟨r,k,q⟩
  rw [← h.num hs] at hj;rcases hQ j hj with ⟨r,k,q⟩|q
  ·exact absurd ⟨r,k,h2 ▸ q⟩ e
  ·rw [h2] at q;exact .inr q

/- A piece of text, carried over: what the lone run makes of it, whatever the tape, the run in company makes of it; behind it stands what is not mild. -/
import Derived.Test.YtdgfekplfipekaaPGoP
set_option linter.all false
set_option maxRecDepth 100000
set_option maxHeartbeats 16000000
namespace Go.Proofs.Ytdgfekplfipekaa
open Go.Conc
def halt : List Item := [.code (.refuse "")]
theorem XcV:Shut halt:=⟨fun _=>rfl,fun _=>rfl⟩
def gor:List Frame→Goroutine
 | []=>default
 | f::fs=>G f fs
section
variable {P:Program} {S:YK} {F:Fns}
structure Sb where
 ps:List Frame
 b:Frame
 w:World
 x:World
 n:Nat
 f:Nat→Nat
structure XeC (P:Program) (S:YK) (F:Fns) (J:Goroutine→World→Prop) (k:List Item) (cs:List Frame) (m₀:(Nat→Question→Nat)→Machine) (i:Nat) (s:Sb):Prop where
 fits:∀ r∈s.ps,Fit F r
 fit:Fit F s.b
 op:s.ps≠[]→Xgh s.b
 thaw:X6 S s.x s.w
 bad:¬ J (gor (s.ps ++ s.b.app k::cs)) s.w
 reach:∀ τ,Agree τ 0 s.n s.f→∃ t ts,s.ps ++ [s.b.app halt,stop P] = t::ts∧runN P i (m₀ τ)=.next (lone t ts (under s.x τ s.n))
theorem Vr {fr:Frame} (h:Xgh fr) (t:List Item) (v:Value):(fr.app t).finish v=(fr.finish v).app t:=by
 obtain ⟨ops,i,rest,k,h⟩:=h;obtain ⟨fn,tmps,todo,defers,mode,kind,roundOf⟩:=fr;obtain rfl:todo=_:=h
 rfl
theorem Wm (fr:Frame) (t:List Item) (ch:List PanicEntry):(fr.app t).raise ch=(fr.raise ch).app t:=by
 obtain ⟨fn,tmps,todo,defers,mode,kind,roundOf⟩:=fr;cases mode<;>rfl
theorem XcW (b:Frame) (a:Act) (cs:List Frame) (w:World):∃ o y,step P (lone (b.at a halt) cs w)=.ended o y :=
 ⟨_,_,Zy (by simp only [G,stepG,stepG.exec,Frame.at,halt];rfl)⟩
def Left (b:Frame) (Q:Exit→Act→World→Prop) (fr:Frame) (w:World):Prop :=
 ∃ a,(Q .normal a w∧fr=b.at a halt)∨(Q .ret a w∧a.defers = []∧∃ todo,fr = { b.at a todo with mode:=.returning })
theorem ZD {i k:Nat} {m m₁ m₂:Machine} {o:Outcome} {y:World} (hi:runN P i m=.next m₁) (he:step P m₁=.ended o y) (hk:runN P k m=.next m₂):k≤i:=by
 refine Nat.le_of_not_lt fun hlt=>?_
 have:=VK hi he (k - (i + 1))
 rw [show i + 1 + (k - (i + 1))=k by omega,hk] at this;cases this
theorem XaJ {fr:Frame} (hm:fr.mode=.returning) (hd:fr.defers = []) (hkd:fr.kind=.normal) (hf:∃ f,P.funcs[fr.fn]? = some f) (w:World):(∃ o y,step P (lone fr [stop P] w)=.ended o y)∨∃ v y,step P (lone fr [stop P] w)=.next (lone ((stop P).finish v) [] y):=by
 obtain ⟨f,hf⟩:=hf;have hst:stepG P true (G fr [stop P]) w=GStep.after (seen P fr.fn ((results f fr.tmps).events P w #[])) (match (results f fr.tmps).run P w with
  | .ok v w=>.go (G ((stop P).finish v) []) w
  | .halt (.stuck s) w=>.ended (.stuck s (fr.pos P)) w
  | .halt _ w => .ended (.stuck "return: the result variables cannot be read" (fr.pos P)) w) := by
  obtain ⟨fn,tmps,todo,defers,mode,kind,roundOf⟩:=fr;obtain rfl:mode=_:=hm;obtain rfl:defers=_:=hd;obtain rfl:kind=_:=hkd;simp only at hf;simp only [G,stepG,unwind,hf,Sem.runT_eq]
  congr 1
 cases hr:(results f fr.tmps).run P w with
 | ok v y=>rw [hr] at hst;exact .inr ⟨v,y,Zr hst⟩
 | halt hh y=>rw [hr] at hst;cases hh<;>exact .inl ⟨_,_,Zy hst⟩
theorem Xbq {fr:Frame} {ch:List PanicEntry} (hm:fr.mode=.panicking ch) (hd:fr.defers = []) (hf:∃ f,P.funcs[fr.fn]? = some f) (w:World):step P (lone fr [stop P] w)=.next (lone ((stop P).raise ch) [] w):=by
 obtain ⟨f,hf⟩:=hf;have hst:stepG P true (G fr [stop P]) w=.go (G ((stop P).raise ch) []) w:=by
  obtain ⟨fn,tmps,todo,defers,mode,kind,roundOf⟩:=fr;obtain rfl:mode=_:=hm;obtain rfl:defers=_:=hd;simp only at hf;simp [G,stepG,unwind,Frame.catches,hf]
 exact Zr hst
theorem Ue {b:Frame} {Q:Exit→Act→World→Prop} {k i:Nat} {m:Machine} {fr t:Frame} {ts:List Frame} {w' z:World} (hb:b.kind=.normal) (hbf:∃ f,P.funcs[b.fn]? = some f) (hl:Left b Q fr w') (hk:runN P k m=.next (lone fr [stop P] w')) (hi:runN P i m=.next (lone t ts z)) (hts:ts≠[]):i≤k:=by
 obtain ⟨a,⟨_,rfl⟩|⟨_,hd,todo,rfl⟩⟩:=hl
 ·obtain ⟨o,y,e⟩:=XcW (P:=P) b a [stop P] w'
  exact ZD hk e hi
 ·rcases XaJ (P:=P) (fr:={ b.at a todo with mode:=.returning }) rfl hd hb hbf w' with ⟨o,y,e⟩|⟨v,y,e⟩
  ·exact ZD hk e hi
  ·have h1:=Zd hk e
   obtain ⟨o,y',h2⟩:=Ua P v y
   have:=ZD h1 h2 hi
   rcases Nat.lt_or_ge i (k + 1) with h3|h3
   ·omega
   ·have e':i=k + 1:=by omega
    rw [e',h1] at hi
    have:=(Zx (Stepped.next.inj hi)).2.1
    exact absurd this.symm hts
theorem XeC.next {J:Goroutine→World→Prop} {main:Bool} {b:Frame} {c:Code} {a:Act} {k:List Item} {cs:List Frame} {x₀:World} {Q:Exit→Act→World→Prop} {i:Nat} {s:Sb}
 (hC:Closed P S F) (hJ:Xgg P S main J) (hb:b.kind=.normal) (hbf:∃ f,P.funcs[b.fn]? = some f)
 (hlone:∀ τ,∃ k fr w',runN P k (lone (b.at a (.code c::halt)) [stop P] (under x₀ τ 0))=.next (lone fr [stop P] w')∧Left b Q fr w')
 (hn:∀ a' x' w',X6 S x' w'→Q .normal a' x'→J (G (b.at a' k) cs) w') (hr:∀ a' x' w' todo,X6 S x' w'→Q .ret a' x'→a'.defers = []→J (G { b.at a' todo with mode:=.returning } cs) w')
 (h:XeC P S F J k cs (fun τ=>lone (b.at a (.code c::halt)) [stop P] (under x₀ τ 0)) i s) :
 ∃ s',XeC P S F J k cs (fun τ=>lone (b.at a (.code c::halt)) [stop P] (under x₀ τ 0)) (i + 1) s'∧s.n≤s'.n∧∀ j,j < s.n→s'.f j=s.f j:=by
 -- where the frame of the piece is on top,and not about to make a step of its own,the lone run has left the piece: so J holds
 have hdone:s.ps = []→(∀ τ,Agree τ 0 s.n s.f→∃ z o y,(step P (lone (s.b.app halt) [stop P] (under s.x τ s.n))=.ended o y∨(step P (lone (s.b.app halt) [stop P] (under s.x τ s.n))=.next z∧(∃ f' y',z=lone f' [] y')∧step P z=.ended o y)))→∃ a',(Q .normal a' (under s.x (fun j _=>s.f j) s.n)∧s.b.app halt=b.at a' halt)∨(Q .ret a' (under s.x (fun j _=>s.f j) s.n)∧a'.defers = []∧∃ todo,s.b.app halt = { b.at a' todo with mode:=.returning }):=by
  intro hps hend;have hA:Agree (fun j _=>s.f j) 0 s.n s.f:=fun j _ _=>by simp
  obtain ⟨z,o,y,hz⟩:=hend _ hA;obtain ⟨t,ts,ht,hr⟩:=h.reach _ hA;rw [hps] at ht;simp only [List.nil_append,List.cons.injEq] at ht;obtain ⟨rfl,rfl⟩:=ht;obtain ⟨k',fr,w',hk',hl⟩:=hlone (fun j _=>s.f j);have h1:=Ue hb hbf hl hk' hr (by simp);have h2:k'=i:=by
   rcases hz with he|⟨he,⟨f',y',rfl⟩,he2⟩
   ·have:=ZD hr he hk';omega
   ·have h3:=Zd hr he
    have h4:=ZD h3 he2 hk';rcases Nat.lt_or_ge k' (i + 1) with h5|h5
    ·omega
    ·have e:k'=i + 1:=by omega
     rw [e,h3] at hk'
     have:=(Zx (Stepped.next.inj hk')).2.1
     cases this
  subst h2;rw [hr] at hk';obtain ⟨rfl,_,rfl⟩:=Zx (Stepped.next.inj hk');exact hl
 have hunder:∀ w',X6 S s.x w'→X6 S (under s.x (fun j _=>s.f j) s.n) w':=fun w' hT=>hT.mvl _ _
 by_cases hspec:s.ps = []∧(s.b.mode≠.run∨s.b.todo = [])
 ·exfalso
  obtain ⟨hps,hsp⟩:=hspec;have hbad:=h.bad;rw [hps] at hbad;have hend:∀ τ,Agree τ 0 s.n s.f→∃ z o y,(step P (lone (s.b.app halt) [stop P] (under s.x τ s.n))=.ended o y∨(step P (lone (s.b.app halt) [stop P] (under s.x τ s.n))=.next z∧(∃ f' y',z=lone f' [] y')∧step P z=.ended o y)):=by
   intro τ _;cases hm:s.b.mode with
   | run =>
    have ht:s.b.todo = []:=hsp.resolve_left (fun e=>e hm);have e:∃ o y es,stepG P true (G (s.b.app halt) [stop P]) (under s.x τ s.n)=.ended o y es:=by
     have hro:=h.fit.round;generalize s.b=fr at hm ht hro;obtain ⟨fn,tmps,todo,defers,mode,kind,roundOf⟩:=fr;obtain rfl:mode=_:=hm;obtain rfl:todo=_:=ht;exact ⟨_,_,_,by simp only [G,stepG,stepG.exec,Frame.app,halt,List.nil_append];rfl⟩
    obtain ⟨o,y,es,e⟩:=e;exact ⟨lone (stop P) [] s.w,o,y,.inl (Zy e)⟩
   | returning =>
    rcases XaJ (P:=P) (fr:=s.b.app halt) hm h.fit.defers h.fit.kind (show ∃ f,P.funcs[s.b.fn]? = some f from hC.there h.fit) (under s.x τ s.n) with ⟨o,y,e⟩|⟨v,y,e⟩
    ·exact ⟨lone (stop P) [] s.w,o,y,.inl e⟩
    ·obtain ⟨o,y',e2⟩:=Ua P v y
     exact ⟨_,o,y',.inr ⟨e,⟨_,_,rfl⟩,e2⟩⟩
   | panicking ch =>
    have e:=Xbq (P:=P) (fr:=s.b.app halt) hm h.fit.defers (show ∃ f,P.funcs[s.b.fn]? = some f from hC.there h.fit) (under s.x τ s.n);obtain ⟨o,y',e2⟩:=Ve P ch (under s.x τ s.n);exact ⟨_,o,y',.inr ⟨e,⟨_,_,rfl⟩,e2⟩⟩
  obtain ⟨a',⟨hQ,he⟩|⟨hQ,hd,todo,he⟩⟩:=hdone hps hend
  ·have hmode:s.b.mode=.run:=by have:=congrArg Frame.mode he;exact this
   have ht:s.b.todo = []:=hsp.resolve_left (fun e=>e hmode);have hk:s.b.app k=b.at a' k:=by
    have h1:s.b.app k = { s.b.app halt with todo:=k }:=by unfold Frame.app;rw [ht];rfl
    rw [h1,he];rfl
   exact hbad (by show J (G (s.b.app k) cs) s.w;rw [hk];exact hn _ _ _ (hunder _ h.thaw) hQ)
  ·have hk:s.b.app k = { b.at a' (s.b.todo ++ k) with mode:=.returning }:=by
    have h1:s.b.app k = { s.b.app halt with todo:=s.b.todo ++ k }:=rfl;rw [h1,he];rfl
   exact hbad (by show J (G (s.b.app k) cs) s.w;rw [hk];exact hr _ _ _ _ (hunder _ h.thaw) hQ hd)
 ·-- a step of the top frame
  have hbad:∃ d,∀ g' w' es,(∃ f fs,s.ps ++ s.b.app k::cs=f::fs∧stepG P main (G f fs) (s.w.at d)=.go g' w' es)→(∀ e∈es,EvG S w'.heap.size e)→s.w.heap.size≤w'.heap.size→Y7 w'=Y7 s.w→UU S s.w w'→¬ J g' w':=by
   refine Classical.byContradiction fun hn=>h.bad ?_;obtain ⟨f,fs,hf⟩:∃ f fs,s.ps ++ s.b.app k::cs=f::fs:=by cases s.ps<;>exact ⟨_,_,rfl⟩
   rw [hf];refine hJ _ _ _ fun d=>?_;refine Classical.byContradiction fun hd=>hn ⟨d,fun g' w' es ⟨f',fs',e',h1⟩ h2 h3 h4 h5 h6=>hd ⟨g',w',es,?_,h2,h3,h4,h5,h6⟩⟩;rw [hf] at e';obtain ⟨rfl,rfl⟩:=List.cons.inj e';exact h1
  obtain ⟨d,hd⟩:=hbad;have hext:∀ (m:Nat) (g:Nat→Nat),∀ j,j < s.n→(fun j=>if j < s.n then s.f j else g (j - s.n)) j=s.f j:=fun m g j hj=>by simp [hj]
  have hAg:∀ (m:Nat) (g:Nat→Nat) τ,Agree τ 0 (s.n + m) (fun j=>if j < s.n then s.f j else g (j - s.n))→Agree τ 0 s.n s.f∧Agree τ s.n m g:=fun m g τ hτ=>⟨hτ.left,by have:=hτ.right;rwa [Nat.zero_add] at this⟩
  cases hps:s.ps with
  | nil =>
   have hrun:s.b.mode=.run:=Classical.byContradiction fun e=>hspec ⟨hps,.inl e⟩;have htodo:s.b.todo≠[]:=fun e=>hspec ⟨hps,.inr e⟩;obtain ⟨m,g,hh⟩:=XaD (P:=P) (S:=S) (T:=fun _=>True) hC h.fit (fun e _=>absurd e htodo) s.x (s.w.at d) (h.thaw.mvr s.w.tape d);rcases hh with he|⟨t,y,w',es,hfit,hfrom,hT,htp,hsz,hsta,hev,hreal,hghost⟩
   ·exfalso
    have hown:Agree (fun j _=>(fun j=>if j < s.n then s.f j else g (j - s.n)) j) 0 (s.n + m) (fun j=>if j < s.n then s.f j else g (j - s.n)):=fun j _ _=>by simp
    obtain ⟨hτ1,hτ2⟩:=hAg m g _ hown;obtain ⟨t,ts,ht,hr'⟩:=h.reach _ hτ1;rw [hps] at ht;simp only [List.nil_append,List.cons.injEq] at ht;obtain ⟨rfl,rfl⟩:=ht;obtain ⟨o,y,es,e⟩:=he _ s.n (stop P) [] true halt XcV hτ2;obtain ⟨k',fr,w',hk',hl⟩:=hlone (fun j _=>(fun j=>if j < s.n then s.f j else g (j - s.n)) j);have h1:=Ue hb hbf hl hk' hr' (by simp);have h2:=ZD hr' (Zy e) hk';have h3:k'=i:=by omega
    subst h3;rw [hr'] at hk';obtain ⟨e1,_,_⟩:=Zx (Stepped.next.inj hk');obtain ⟨a',⟨_,e2⟩|⟨_,_,todo,e2⟩⟩:=hl
    ·rw [e2] at e1
     have:=congrArg (fun f=>f.todo.length) e1
     simp only [Frame.app,Frame.at,halt,List.length_append,List.length_cons,List.length_nil] at this;exact htodo (List.length_eq_zero_iff.1 (by omega))
    ·rw [e2] at e1
     have:=congrArg Frame.mode e1
     simp [Frame.app,hrun] at this
   ·have hnJ:=hd _ _ _ ⟨s.b.app k,cs,by rw [hps];rfl,hreal k cs main trivial (fun _=>hrun)⟩ hev hsz htp ⟨hsta.cells,hsta.objs⟩
    have hgo:∀ τ,Agree τ 0 (s.n + m) (fun j=>if j < s.n then s.f j else g (j - s.n))→∀ g' gs',(t.app halt).gor [stop P] = G g' gs'→runN P (i + 1) (lone (b.at a (.code c::halt)) [stop P] (under x₀ τ 0))=.next (lone g' gs' (under y τ (s.n + m))):=fun τ hτ g' gs' hg=>by
     obtain ⟨a1,a2⟩:=hAg m g τ hτ;obtain ⟨tt,ts,ht,hr'⟩:=h.reach _ a1;rw [hps] at ht;simp only [List.nil_append,List.cons.injEq] at ht;obtain ⟨rfl,rfl⟩:=ht;obtain ⟨es',e⟩:=hghost τ s.n halt (stop P) [] true trivial a2;rw [hg] at e;exact Zd hr' (Zr e)
    cases t with
    | to fr'=>exact ⟨⟨[],fr',w',y,s.n + m,_⟩,⟨by simp,hfit,fun e=>absurd rfl e,hT,hnJ,fun τ hτ=>⟨_,_,rfl,hgo τ hτ _ _ rfl⟩⟩,Nat.le_add_right _ _,hext m g⟩
    | push fr₁ fr' =>
     refine ⟨⟨[fr'],fr₁,w',y,s.n + m,_⟩,⟨fun r hr=>?_,hfit.1,fun _=>?_,hT,hnJ,fun τ hτ=>⟨_,_,rfl,hgo τ hτ _ _ rfl⟩⟩,Nat.le_add_right _ _,hext m g⟩
     ·obtain rfl:=List.mem_singleton.1 hr;exact hfit.2
     ·obtain ⟨rfl,_,h2⟩:=hfrom;exact h2
    | pop v =>
     have h1:s.b.mode=.returning:=hfrom;rw [hrun] at h1;cases h1
    | raise ch =>
     obtain ⟨_,h1⟩:=hfrom;rw [hrun] at h1;cases h1
  | cons p ps =>
   have hp:Fit F p:=h.fits p (by rw [hps];exact List.mem_cons_self ..);have hps':∀ r∈ps,Fit F r:=fun r hr=>h.fits r (by rw [hps];exact List.mem_cons_of_mem _ hr);have hop:Xgh s.b:=h.op (by rw [hps];simp);obtain ⟨m,g,hh⟩:=V4 (P:=P) (S:=S) hC hp s.x (s.w.at d) (h.thaw.mvr s.w.tape d);obtain ⟨c₁,cs₁,hc₁⟩:∃ c₁ cs₁,ps ++ s.b.app k::cs=c₁::cs₁:=by cases ps<;>exact ⟨_,_,rfl⟩
   obtain ⟨c₂,cs₂,hc₂⟩:∃ c₂ cs₂,ps ++ [s.b.app halt,stop P] = c₂::cs₂:=by cases ps<;>exact ⟨_,_,rfl⟩
   have hreach:∀ τ,Agree τ 0 s.n s.f→runN P i (lone (b.at a (.code c::halt)) [stop P] (under x₀ τ 0))=.next (lone p (ps ++ [s.b.app halt,stop P]) (under s.x τ s.n)):=fun τ hτ=>by
    obtain ⟨tt,ts,ht,hr'⟩:=h.reach τ hτ;rw [hps] at ht;simp only [List.cons_append,List.cons.injEq] at ht;obtain ⟨rfl,rfl⟩:=ht;exact hr'
   rcases hh with he|⟨t,y,w',es,hfit,hfrom,hT,htp,hsz,hsta,hev,hreal,hghost⟩
   ·exfalso
    have hown:Agree (fun j _=>(fun j=>if j < s.n then s.f j else g (j - s.n)) j) 0 (s.n + m) (fun j=>if j < s.n then s.f j else g (j - s.n)):=fun j _ _=>by simp
    obtain ⟨hτ1,hτ2⟩:=hAg m g _ hown;have hr':=hreach _ hτ1;obtain ⟨o,y,es,e⟩:=he _ s.n c₂ cs₂ true hτ2;obtain ⟨k',fr,w',hk',hl⟩:=hlone (fun j _=>(fun j=>if j < s.n then s.f j else g (j - s.n)) j);have h1:=Ue hb hbf hl hk' hr' (by simp);rw [hc₂] at hr';have h2:=ZD hr' (Zy e) hk';have h3:k'=i:=by omega
    subst h3;rw [hr'] at hk';obtain ⟨_,e1,_⟩:=Zx (Stepped.next.inj hk');rw [← hc₂] at e1
    have:=congrArg List.length e1
    simp at this
   ·have hnJ:=hd _ _ _ ⟨p,c₁::cs₁,by rw [hps,List.cons_append,hc₁],hreal (c₁::cs₁) main (fun e=>by cases e)⟩ hev hsz htp ⟨hsta.cells,hsta.objs⟩
    rw [← hc₁] at hnJ;have hgo:∀ τ,Agree τ 0 (s.n + m) (fun j=>if j < s.n then s.f j else g (j - s.n))→∀ g' gs',t.gor (ps ++ [s.b.app halt,stop P])=G g' gs'→runN P (i + 1) (lone (b.at a (.code c::halt)) [stop P] (under x₀ τ 0))=.next (lone g' gs' (under y τ (s.n + m))):=fun τ hτ g' gs' hg=>by
     obtain ⟨a1,a2⟩:=hAg m g τ hτ;have hr':=hreach τ a1;obtain ⟨es',e⟩:=hghost τ s.n c₂ cs₂ true a2;rw [← hc₂,hg] at e;rw [hc₂] at hr';rw [hc₂] at e;exact Zd hr' (Zr e)
    cases t with
    | to fr' =>
     exact ⟨⟨fr'::ps,s.b,w',y,s.n + m,_⟩,⟨fun r hr=>(List.mem_cons.1 hr).elim (fun e=>e ▸ hfit) (hps' r),h.fit,fun _=>hop,hT,hnJ,fun τ hτ=>⟨_,_,rfl,hgo τ hτ _ _ rfl⟩⟩,Nat.le_add_right _ _,hext m g⟩
    | push fr₁ fr' =>
     refine ⟨⟨fr'::fr₁::ps,s.b,w',y,s.n + m,_⟩,⟨fun r hr=>?_,h.fit,fun _=>hop,hT,hnJ,fun τ hτ=>⟨_,_,rfl,hgo τ hτ _ _ rfl⟩⟩,Nat.le_add_right _ _,hext m g⟩;rcases List.mem_cons.1 hr with rfl|hr
     ·exact hfit.2
     ·rcases List.mem_cons.1 hr with rfl|hr
      ·exact hfit.1
      ·exact hps' r hr
    | pop v =>
     cases ps with
     | nil =>
      refine ⟨⟨[],s.b.finish v,w',y,s.n + m,_⟩,⟨by simp,h.fit.finish _,fun e=>absurd rfl e,hT,?_,fun τ hτ=>⟨_,_,rfl,?_⟩⟩,Nat.le_add_right _ _,hext m g⟩
      ·rw [← Vr hop];exact hnJ
      ·rw [← Vr hop];exact hgo τ hτ _ _ rfl
     | cons r rs =>
      exact ⟨⟨r.finish v::rs,s.b,w',y,s.n + m,_⟩,⟨fun r' hr=>(List.mem_cons.1 hr).elim (fun e=>e ▸ (hps' r (List.mem_cons_self ..)).finish _) fun e=>hps' r' (List.mem_cons_of_mem _ e),h.fit,fun _=>hop,hT,hnJ,fun τ hτ=>⟨_,_,rfl,hgo τ hτ _ _ rfl⟩⟩,Nat.le_add_right _ _,hext m g⟩
    | raise ch =>
     cases ps with
     | nil =>
      refine ⟨⟨[],s.b.raise ch,w',y,s.n + m,_⟩,⟨by simp,h.fit.raise _,fun e=>absurd rfl e,hT,?_,fun τ hτ=>⟨_,_,rfl,?_⟩⟩,Nat.le_add_right _ _,hext m g⟩
      ·rw [← Wm];exact hnJ
      ·rw [← Wm];exact hgo τ hτ _ _ rfl
     | cons r rs =>
      exact ⟨⟨r.raise ch::rs,s.b,w',y,s.n + m,_⟩,⟨fun r' hr=>(List.mem_cons.1 hr).elim (fun e=>e ▸ (hps' r (List.mem_cons_self ..)).raise _) fun e=>hps' r' (List.mem_cons_of_mem _ e),h.fit,fun _=>hop,hT,hnJ,fun τ hτ=>⟨_,_,rfl,hgo τ hτ _ _ rfl⟩⟩,Nat.le_add_right _ _,hext m g⟩
theorem XcJ {J:Goroutine→World→Prop} {main:Bool} {b:Frame} {c:Code} {a:Act} {k:List Item} {cs:List Frame} {x₀ w₀:World} {Q:Exit→Act→World→Prop}
 (hC:Closed P S F) (hJ:Xgg P S main J) (hc:YY F c=true) (hb:b.kind=.normal) (hf:F.fn b.fn=true∨F.top b.fn=true) (ha:a.defers = []) (hT:X6 S x₀ w₀) (hlone:∀ τ,c.wp P Q a (under x₀ τ 0))
 (hQ:∀ e a' x',Q e a' x'→e=.normal∨(e=.ret∧a'.defers = []))
 (hn:∀ a' x' w',X6 S x' w'→Q .normal a' x'→J (G (b.at a' k) cs) w') (hr:∀ a' x' w' todo,X6 S x' w'→Q .ret a' x'→a'.defers = []→J (G { b.at a' todo with mode:=.returning } cs) w'):J (G (b.at a (.code c::k)) cs) w₀:=by
 classical
 refine Classical.byContradiction fun hbad=>?_;have hbf:∃ f,P.funcs[b.fn]? = some f:=by
  rcases hf with e|e
  ·obtain ⟨fn,c,h1,_⟩:=hC.text _ e;exact ⟨fn,h1⟩
  ·exact hC.tops _ e
 have hlone':∀ τ,∃ k fr w',runN P k (lone (b.at a (.code c::halt)) [stop P] (under x₀ τ 0))=.next (lone fr [stop P] w')∧Left b Q fr w':=fun τ=>by
  obtain ⟨e,a',w',hq,harr⟩:=hlone τ b halt [stop P];rcases hQ e a' w' hq with rfl|⟨rfl,hd⟩
  ·obtain ⟨k,hk⟩:=harr
   exact ⟨k,_,w',hk,a',.inl ⟨hq,rfl⟩⟩
  ·obtain ⟨todo,k,hk⟩:=harr
   exact ⟨k,_,w',hk,a',.inr ⟨hq,hd,todo,rfl⟩⟩
 have h0:XeC P S F J k cs (fun τ=>lone (b.at a (.code c::halt)) [stop P] (under x₀ τ 0)) 0 ⟨[],b.at a [.code c],w₀,x₀,0,fun _=>0⟩ :=
  ⟨by simp,⟨hb,rfl,ha,fun x hx=>by obtain rfl:=List.mem_singleton.1 hx;exact hc,hf⟩,fun e=>absurd rfl e,hT,hbad,fun τ _=>⟨_,_,rfl,rfl⟩⟩
 let St':=fun i=>{ s:Sb // XeC P S F J k cs (fun τ=>lone (b.at a (.code c::halt)) [stop P] (under x₀ τ 0)) i s }
 let nx:∀ i,St' i→St' (i + 1):=fun i s=>⟨(XeC.next hC hJ hb hbf hlone' hn hr s.2).choose,(XeC.next hC hJ hb hbf hlone' hn hr s.2).choose_spec.1⟩
 have hnx:∀ i (s:St' i),s.1.n≤(nx i s).1.n∧∀ j,j < s.1.n→(nx i s).1.f j=s.1.f j:=fun i s=>(XeC.next hC hJ hb hbf hlone' hn hr s.2).choose_spec.2
 let sq:∀ i,St' i:=fun i=>Nat.rec ⟨_,h0⟩ (fun i s=>nx i s) i
 have hsq:∀ i,sq (i + 1)=nx i (sq i):=fun i=>rfl;have hmono:∀ i k,(sq i).1.n≤(sq (i + k)).1.n∧∀ j,j < (sq i).1.n→(sq (i + k)).1.f j=(sq i).1.f j:=by
  intro i k
  induction k with
  | zero=>exact ⟨Nat.le_refl _,fun _ _=>rfl⟩
  | succ k ih =>
   have:=hnx (i + k) (sq (i + k))
   rw [← hsq] at this;exact ⟨Nat.le_trans ih.1 this.1,fun j hj=>(this.2 j (Nat.lt_of_lt_of_le hj ih.1)).trans (ih.2 j hj)⟩
 have hsame:∀ i i' j,j < (sq i).1.n→j < (sq i').1.n→(sq i).1.f j=(sq i').1.f j:=by
  intro i i' j h1 h2;rcases Nat.le_total i i' with h|h
  ·obtain ⟨k,rfl⟩:=Nat.exists_eq_add_of_le h
   exact ((hmono i k).2 j h1).symm
  ·obtain ⟨k,rfl⟩:=Nat.exists_eq_add_of_le h
   exact (hmono i' k).2 j h2
 let g:Nat→Nat:=fun j=>if h:∃ i,j < (sq i).1.n then (sq h.choose).1.f j else 0
 have hg:∀ i,Agree (fun k _=>g k) 0 (sq i).1.n (sq i).1.f:=fun i j hj q=>by
  have hex:∃ i,j < (sq i).1.n:=⟨i,hj⟩
  show g (0 + j)=_;rw [Nat.zero_add];simp only [g,hex,dif_pos];exact hsame _ _ j hex.choose_spec hj
 obtain ⟨k',fr,z,hk,hl⟩:=hlone' (fun j _=>g j);obtain ⟨t,ts,ht,hr'⟩:=(sq (k' + 1)).2.reach _ (hg (k' + 1));have hts:ts≠[]:=fun e=>by
  rw [e] at ht
  have:=congrArg List.length ht
  simp at this
 have:=Ue hb hbf hl hk hr' hts
 omega

/- A piece of text, carried over: what the lone run makes of it, whatever the tape, the run in company makes of it; behind it stands what is not mild. -/
import Derived.Test.YtdgfekplfipekaaVGoL
set_option linter.all false
set_option maxRecDepth 100000
set_option maxHeartbeats 16000000
namespace Go.Proofs.Ytdgfekplfipekaa
open Go.Conc
def stop (P : Program) : Frame := { fn := 0, tmps := #[], todo := [.extern "" #[], .code (.refuse "")], defers := [{ target := .fn (.func P.funcs.size) #[], args := #[] }], mode := .run, kind := .normal }
theorem Ua (P:Program) (v:Value) (w:World):∃ o y,step P (lone ((stop P).finish v) [] w)=.ended o y :=
 ⟨_, _, step_lone_ended (o := .unsupported (.elab "") _) (w' := w) (by simp [stop, Frame.finish, stepG, stepG.exec, GStep.bare]; rfl)⟩
section
variable {P:Program} {S:YK} {F:Fns}
theorem Zr {fr:Frame} {cs:List Frame} {w w':World} {g:Frame} {gs:List Frame} {es:Array Event} (h:stepG P true (G fr cs) w=.go (G g gs) w' es):step P (lone fr cs w)=.next (lone g gs w') :=
 step_lone_go (by show (stepG P true (G fr cs) w).bare=_;rw [h];rfl)
theorem Zy {fr:Frame} {cs:List Frame} {w y:World} {o:Outcome} {es:Array Event} (h:stepG P true (G fr cs) w=.ended o y es):step P (lone fr cs w)=.ended o y :=
 step_lone_ended (by show (stepG P true (G fr cs) w).bare=_;rw [h];rfl)
theorem Ve (P:Program) (ch:List PanicEntry) (w:World):∃ o y,step P (lone ((stop P).raise ch) [] w)=.ended o y:=by
 have h:∃ o y es,stepG P true (G ((stop P).raise ch) []) w=.ended o y es:=by
  simp [G,stop,Frame.raise,stepG,unwind,callDeferred,invoke,callFunc,program,stuck,Sem.run,GStep.after]
 obtain ⟨o,y,es,h⟩:=h;exact ⟨o,y,Zy h⟩
theorem Zd {P:Program} {i:Nat} {m m' m'':Machine} (h:runN P i m=.next m') (h':step P m'=.next m''):runN P (i + 1) m=.next m'':=by
 rw [runN_add,h];simp [runN,h']
theorem VK {P:Program} {i:Nat} {m m':Machine} {o:Outcome} {w:World} (h:runN P i m=.next m') (h':step P m'=.ended o w):∀ k,runN P (i + 1 + k) m=.ended o w:=by
 intro k;rw [Nat.add_assoc,runN_add,h,Nat.add_comm 1 k];simp [runN,h']
structure St where
 top:Frame
 rest:List Frame
 w:World
 x:World
 n:Nat
 f:Nat→Nat
structure Inv (P:Program) (S:YK) (F:Fns) (J:Goroutine→World→Prop) (c:Frame) (cs:List Frame) (m₀:(Nat→Question→Nat)→Machine) (i:Nat) (s:St):Prop where
 fit:Fit F s.top
 fits:∀ r∈s.rest,Fit F r
 thaw:X6 S s.x s.w
 bad:¬ J (G s.top (s.rest ++ c::cs)) s.w
 reach:∀ τ,Agree τ 0 s.n s.f→runN P i (m₀ τ)=.next (lone s.top (s.rest ++ [stop P]) (under s.x τ s.n))
def Xgg (P:Program) (S:YK) (main:Bool) (J:Goroutine→World→Prop):Prop:=∀ fr cs w,(∀ d,∃ g' w' es,stepG P main (G fr cs) (w.at d)=.go g' w' es∧(∀ e∈es,EvG S w'.heap.size e)∧w.heap.size≤w'.heap.size∧Y7 w'=Y7 w∧UU S w w'∧J g' w')→J (G fr cs) w
def VY (P:Program) (f:FuncId) (args:Array Value) (x:World) (Post:Value→World→Prop):Prop :=
 ∃ k fr v w',runN P k (lone (Frame.enter P f args .normal) [stop P] x)=.next (lone fr [stop P] w')∧fr.leaving P w' (.returned v)∧Post v w'
theorem VY.of_calls {f:FuncId} {args:Array Value} {x:World} {Post:Value→World→Prop} (h:Calls P f args x fun e w'=>∃ v,e=.returned v∧Post v w'):VY P f args x Post:=by
 obtain ⟨e,w',fr,⟨v,rfl,hp⟩,⟨k,hk⟩,_,hl⟩:=h [stop P];exact ⟨k,fr,v,w',hk,hl,hp⟩
theorem Wt {k i:Nat} {m:Machine} {fr top:Frame} {v:Value} {w' z:World} {rest:List Frame} (hk:runN P k m=.next (lone fr [stop P] w')) (hl:fr.leaving P w' (.returned v)) (hi:runN P i m=.next (lone top (rest ++ [stop P]) z)):i≤k:=by
 refine Nat.le_of_not_lt fun hlt=>?_;have h1:=Zd hk (step_leave_returned hl);obtain ⟨o,y,h2⟩:=Ua P v w';rcases Nat.lt_or_ge (k + 1) i with h3|h3
 ·have:=VK h1 h2 (i - (k + 1 + 1))
  rw [show k + 1 + 1 + (i - (k + 1 + 1))=i by omega,hi] at this;cases this
 ·have e:i=k + 1:=by omega
  rw [e,h1] at hi;have hi:=Stepped.next.inj hi;simp only [lone,Machine.mk.injEq] at hi;have h4:=congrArg (fun a=>a[0]?) hi.2.1;simp at h4
theorem Ws {k i:Nat} {m m₁:Machine} {fr:Frame} {v:Value} {w' y:World} {o:Outcome} (hk:runN P k m=.next (lone fr [stop P] w')) (hl:fr.leaving P w' (.returned v)) (hik:i≤k) (hi:runN P i m=.next m₁) (he:step P m₁=.ended o y):False:=by
 rcases Nat.lt_or_ge i k with h1|h1
 ·have:=VK hi he (k - (i + 1))
  rw [show i + 1 + (k - (i + 1))=k by omega,hk] at this;cases this
 ·have e:i=k:=by omega
  rw [e,hk] at hi;obtain rfl:=Stepped.next.inj hi;rw [step_leave_returned hl] at he;cases he
theorem Zx {fr fr':Frame} {cs cs':List Frame} {w w':World} (h:lone fr cs w=lone fr' cs' w'):fr=fr'∧cs=cs'∧w=w':=by
 simp only [lone,Machine.mk.injEq] at h;have h4:=congrArg (fun a=>a[0]?) h.2.1;simp at h4;exact ⟨h4.1,h4.2,h.1⟩
theorem XaS {k i:Nat} {m m₁:Machine} {fr g:Frame} {v:Value} {w' z y:World} {o:Outcome} (hk:runN P k m=.next (lone fr [stop P] w')) (hl:fr.leaving P w' (.returned v)) (hik:i≤k) (hi:runN P i m=.next m₁) (h1:step P m₁=.next (lone g [] z)) (he:step P (lone g [] z)=.ended o y) :
 m₁=lone fr [stop P] w'∧g=(stop P).finish v∧z=w':=by
 have h2:=Zd hi h1;rcases Nat.lt_or_ge i k with h3|h3
 ·exfalso
  rcases Nat.lt_or_ge (i + 1) k with h4|h4
  ·exact Ws hk hl (Nat.le_of_lt h4) h2 he
  ·have e:k=i + 1:=by omega
   rw [e,h2] at hk
   have:=(Zx (Stepped.next.inj hk)).2.1
   cases this
 ·have e:i=k:=by omega
  rw [e,hk] at hi;have hm:=Stepped.next.inj hi;rw [← hm,step_leave_returned hl] at h1;obtain ⟨h5,_,h6⟩:=Zx (Stepped.next.inj h1);exact ⟨hm.symm,h5.symm,h6.symm⟩
theorem Inv.next {J:Goroutine→World→Prop} {main:Bool} {c:Frame} {cs:List Frame} {f:FuncId} {args:Array Value} {x₀:World} {Post:Value→World→Prop} {i:Nat} {s:St}
 (hC:Closed P S F) (hJ:Xgg P S main J) (hlone:∀ τ,VY P f args (under x₀ τ 0) Post) (hend:∀ v x' w',X6 S x' w'→Post v x'→J (G (c.finish v) cs) w')
 (h:Inv P S F J c cs (fun τ=>lone (Frame.enter P f args .normal) [stop P] (under x₀ τ 0)) i s) :
 ∃ s',Inv P S F J c cs (fun τ=>lone (Frame.enter P f args .normal) [stop P] (under x₀ τ 0)) (i + 1) s'∧s.n≤s'.n∧∀ j,j < s.n→s'.f j=s.f j:=by
 have hbad:∃ d,∀ g' w' es,stepG P main (G s.top (s.rest ++ c::cs)) (s.w.at d)=.go g' w' es→(∀ e∈es,EvG S w'.heap.size e)→s.w.heap.size≤w'.heap.size→Y7 w'=Y7 s.w→UU S s.w w'→¬ J g' w':=by
  refine Classical.byContradiction fun hn=>h.bad (hJ _ _ _ fun d=>?_);refine Classical.byContradiction fun hd=>hn ⟨d,fun g' w' es h1 h2 h3 h4 h5 h6=>hd ⟨g',w',es,h1,h2,h3,h4,h5,h6⟩⟩
 obtain ⟨d,hd⟩:=hbad;obtain ⟨c₁,cs₁,hc₁⟩:∃ c₁ cs₁,s.rest ++ c::cs=c₁::cs₁:=by cases s.rest<;>exact ⟨_,_,rfl⟩
 obtain ⟨c₂,cs₂,hc₂⟩:∃ c₂ cs₂,s.rest ++ [stop P] = c₂::cs₂:=by cases s.rest<;>exact ⟨_,_,rfl⟩
 obtain ⟨m,g,hh⟩:=V4 (P:=P) (S:=S) hC h.fit s.x (s.w.at d) (h.thaw.mvr s.w.tape d);have hA:∀ τ,Agree τ 0 (s.n + m) (fun j=>if j < s.n then s.f j else g (j - s.n))→Agree τ 0 s.n s.f∧Agree τ s.n m g:=fun τ hτ=>⟨hτ.left,by have:=hτ.right;rwa [Nat.zero_add] at this⟩
 have hext:∀ j,j < s.n→(fun j=>if j < s.n then s.f j else g (j - s.n)) j=s.f j:=fun j hj=>by simp [hj]
 have hown:Agree (fun k _=>(fun j=>if j < s.n then s.f j else g (j - s.n)) k) 0 (s.n + m) (fun j=>if j < s.n then s.f j else g (j - s.n)):=fun j _ _=>by simp
 obtain ⟨hτ1,hτ2⟩:=hA _ hown;have hr:=h.reach _ hτ1;obtain ⟨k,fr,v,z,hk,hl,hp⟩:=hlone (fun k _=>(fun j=>if j < s.n then s.f j else g (j - s.n)) k);have hik:=Wt hk hl hr;rcases hh with he|⟨t,y,w',es,hfit,_,hT,htp,hsz,hsta,hev,hreal,hghost⟩
 ·exfalso
  obtain ⟨o,y,es,e⟩:=he _ s.n c₂ cs₂ true hτ2;rw [hc₂] at hr;exact Ws hk hl hik hr (Zy e)
 ·have hst:=hreal (c₁::cs₁) main (fun e=>by cases e)
  rw [← hc₁] at hst;have hnJ:=hd _ _ _ hst hev hsz htp ⟨hsta.cells,hsta.objs⟩;have hgo:∀ τ,Agree τ 0 (s.n + m) (fun j=>if j < s.n then s.f j else g (j - s.n))→∀ g' gs',t.gor (s.rest ++ [stop P])=G g' gs'→runN P (i + 1) (lone (Frame.enter P f args .normal) [stop P] (under x₀ τ 0))=.next (lone g' gs' (under y τ (s.n + m))):=fun τ hτ g' gs' hg=>by
   obtain ⟨a1,a2⟩:=hA τ hτ;obtain ⟨es',e⟩:=hghost τ s.n c₂ cs₂ true a2;rw [← hc₂,hg] at e;exact Zd (h.reach τ a1) (Zr e)
  have hgo1:∀ g' gs',t.gor (s.rest ++ [stop P])=G g' gs'→step P (lone s.top (s.rest ++ [stop P]) (under s.x (fun k _=>(fun j=>if j < s.n then s.f j else g (j - s.n)) k) s.n))=.next (lone g' gs' (under y (fun k _=>(fun j=>if j < s.n then s.f j else g (j - s.n)) k) (s.n + m))):=fun g' gs' hg=>by
   obtain ⟨es',e⟩:=hghost _ s.n c₂ cs₂ true hτ2;rw [← hc₂,hg] at e;exact Zr e
  cases t with
  | to fr' =>
   exact ⟨⟨fr',s.rest,w',y,s.n + m,_⟩,⟨hfit,h.fits,hT,hnJ,fun τ hτ=>hgo τ hτ _ _ rfl⟩,Nat.le_add_right _ _,hext⟩
  | push fr₁ fr' =>
   refine ⟨⟨fr',fr₁::s.rest,w',y,s.n + m,_⟩,⟨hfit.2,fun r hr=>?_,hT,hnJ,fun τ hτ=>hgo τ hτ _ _ rfl⟩,Nat.le_add_right _ _,hext⟩;rcases List.mem_cons.1 hr with rfl|hr
   ·exact hfit.1
   ·exact h.fits r hr
  | pop v' =>
   cases hrest:s.rest with
   | nil =>
    exfalso
    rw [hrest] at hnJ hr hgo1;obtain ⟨o,y',e⟩:=Ua P v' (under y (fun k _=>(fun j=>if j < s.n then s.f j else g (j - s.n)) k) (s.n + m));obtain ⟨_,e1,e2⟩:=XaS hk hl hik hr (hgo1 _ _ rfl) e;have ev:v'=v:=by
     have:=congrArg Frame.tmps e1
     simpa [stop,Frame.finish] using this
    subst ev;exact hnJ (hend _ _ _ (hT.mvl _ _) (e2 ▸ hp))
   | cons r rs =>
    have hfr:Fit F r:=h.fits r (by rw [hrest];exact List.mem_cons_self ..);rw [hrest] at hnJ hgo;exact ⟨⟨r.finish v',rs,w',y,s.n + m,_⟩,⟨hfr.finish _,fun q hq=>h.fits q (by rw [hrest];exact List.mem_cons_of_mem _ hq),hT,hnJ,fun τ hτ=>hgo τ hτ _ _ rfl⟩,Nat.le_add_right _ _,hext⟩
  | raise ch =>
   cases hrest:s.rest with
   | nil =>
    exfalso
    rw [hrest] at hr hgo1;obtain ⟨o,y',e⟩:=Ve P ch (under y (fun k _=>(fun j=>if j < s.n then s.f j else g (j - s.n)) k) (s.n + m));obtain ⟨_,e1,_⟩:=XaS hk hl hik hr (hgo1 _ _ rfl) e
    have:=congrArg Frame.mode e1
    simp [stop,Frame.finish,Frame.raise] at this
   | cons r rs =>
    have hfr:Fit F r:=h.fits r (by rw [hrest];exact List.mem_cons_self ..);rw [hrest] at hnJ hgo;exact ⟨⟨r.raise ch,rs,w',y,s.n + m,_⟩,⟨hfr.raise _,fun q hq=>h.fits q (by rw [hrest];exact List.mem_cons_of_mem _ hq),hT,hnJ,fun τ hτ=>hgo τ hτ _ _ rfl⟩,Nat.le_add_right _ _,hext⟩
theorem lift {J:Goroutine→World→Prop} {main:Bool} {c:Frame} {cs:List Frame} {f:FuncId} {args:Array Value} {x₀ w₀:World} {Post:Value→World→Prop}
 (hC:Closed P S F) (hJ:Xgg P S main J) (hf:F.fn f=true) (hT:X6 S x₀ w₀) (hlone:∀ τ,VY P f args (under x₀ τ 0) Post) (hend:∀ v x' w',X6 S x' w'→Post v x'→J (G (c.finish v) cs) w') :
 J (G (Frame.enter P f args .normal) (c::cs)) w₀:=by
 classical
 refine Classical.byContradiction fun hn=>?_;have h0:Inv P S F J c cs (fun τ=>lone (Frame.enter P f args .normal) [stop P] (under x₀ τ 0)) 0 ⟨Frame.enter P f args .normal,[],w₀,x₀,0,fun _=>0⟩ :=
  ⟨hC.enter hf args,fun r hr=>(by cases hr),hT,hn,fun τ _=>rfl⟩
 let St':=fun i=>{ s:St // Inv P S F J c cs (fun τ=>lone (Frame.enter P f args .normal) [stop P] (under x₀ τ 0)) i s }
 let nx:∀ i,St' i→St' (i + 1):=fun i s=>⟨(Inv.next hC hJ hlone hend s.2).choose,(Inv.next hC hJ hlone hend s.2).choose_spec.1⟩
 have hnx:∀ i (s:St' i),s.1.n≤(nx i s).1.n∧∀ j,j < s.1.n→(nx i s).1.f j=s.1.f j:=fun i s=>(Inv.next hC hJ hlone hend s.2).choose_spec.2
 let sq:∀ i,St' i:=fun i=>Nat.rec ⟨_,h0⟩ (fun i s=>nx i s) i
 have hsq:∀ i,sq (i + 1)=nx i (sq i):=fun i=>rfl;have hmono:∀ i k,(sq i).1.n≤(sq (i + k)).1.n∧∀ j,j < (sq i).1.n→(sq (i + k)).1.f j=(sq i).1.f j:=by
  intro i k
  induction k with
  | zero=>exact ⟨Nat.le_refl _,fun _ _=>rfl⟩
  | succ k ih =>
   have:=hnx (i + k) (sq (i + k))
   rw [← hsq] at this;exact ⟨Nat.le_trans ih.1 this.1,fun j hj=>(this.2 j (Nat.lt_of_lt_of_le hj ih.1)).trans (ih.2 j hj)⟩
 have hsame:∀ i i' j,j < (sq i).1.n→j < (sq i').1.n→(sq i).1.f j=(sq i').1.f j:=by
  intro i i' j h1 h2;rcases Nat.le_total i i' with h|h
  ·obtain ⟨k,rfl⟩:=Nat.exists_eq_add_of_le h
   exact ((hmono i k).2 j h1).symm
  ·obtain ⟨k,rfl⟩:=Nat.exists_eq_add_of_le h
   exact (hmono i' k).2 j h2
 let g:Nat→Nat:=fun j=>if h:∃ i,j < (sq i).1.n then (sq h.choose).1.f j else 0
 have hg:∀ i,Agree (fun k _=>g k) 0 (sq i).1.n (sq i).1.f:=fun i j hj q=>by
  have hex:∃ i,j < (sq i).1.n:=⟨i,hj⟩
  show g (0 + j)=_;rw [Nat.zero_add];simp only [g,hex,dif_pos];exact hsame _ _ j hex.choose_spec hj
 obtain ⟨k,fr,v,z,hk,hl,_⟩:=hlone (fun k _=>g k)
 have:=Wt hk hl ((sq (k + 1)).2.reach _ (hg (k + 1)))
 omega
end
def Xfd (P:Program):Bool:=P.funcs.toList.all fun f=>match f.body.map readies with|some (_::_)=>false|_=>true
theorem WT {P:Program} (h:Xfd P=true) (g:Nat):P.stepOf g=none:=by
 unfold Program.stepOf;rw [Array.findIdx?_eq_none_iff];intro f hf
 have:=List.all_eq_true.1 h f (Array.mem_toList_iff.2 hf)
 cases e:f.body.map readies with
 | none=>rfl
 | some l =>
  rw [e] at this;cases l with
  | nil=>simp
  | cons a l=>cases this
def halt : List Item := [.code (.refuse "")]
theorem XcV:Shut halt:=⟨fun _=>rfl,fun _=>rfl⟩
def gor:List Frame→Goroutine
 | []=>default
 | f::fs=>G f fs
section
variable {P:Program} {S:YK} {F:Fns}
structure Sb where
 ps:List Frame
 b:Frame
 w:World
 x:World
 n:Nat
 f:Nat→Nat
structure XeC (P:Program) (S:YK) (F:Fns) (J:Goroutine→World→Prop) (k:List Item) (cs:List Frame) (m₀:(Nat→Question→Nat)→Machine) (i:Nat) (s:Sb):Prop where
 fits:∀ r∈s.ps,Fit F r
 fit:Fit F s.b
 op:s.ps≠[]→Xgh s.b
 thaw:X6 S s.x s.w
 bad:¬ J (gor (s.ps ++ s.b.app k::cs)) s.w
 reach:∀ τ,Agree τ 0 s.n s.f→∃ t ts,s.ps ++ [s.b.app halt,stop P] = t::ts∧runN P i (m₀ τ)=.next (lone t ts (under s.x τ s.n))
theorem Vr {fr:Frame} (h:Xgh fr) (t:List Item) (v:Value):(fr.app t).finish v=(fr.finish v).app t:=by
 obtain ⟨ops,i,rest,k,h⟩:=h;obtain ⟨fn,tmps,todo,defers,mode,kind,roundOf⟩:=fr;obtain rfl:todo=_:=h
 rfl
theorem Wm (fr:Frame) (t:List Item) (ch:List PanicEntry):(fr.app t).raise ch=(fr.raise ch).app t:=by
 obtain ⟨fn,tmps,todo,defers,mode,kind,roundOf⟩:=fr;cases mode<;>rfl
theorem XcW (b:Frame) (a:Act) (cs:List Frame) (w:World):∃ o y,step P (lone (b.at a halt) cs w)=.ended o y :=
 ⟨_,_,Zy (by simp only [G,stepG,stepG.exec,Frame.at,halt];rfl)⟩
def Left (b:Frame) (Q:Exit→Act→World→Prop) (fr:Frame) (w:World):Prop :=
 ∃ a,(Q .normal a w∧fr=b.at a halt)∨(Q .ret a w∧a.defers = []∧∃ todo,fr = { b.at a todo with mode:=.returning })
theorem ZD {i k:Nat} {m m₁ m₂:Machine} {o:Outcome} {y:World} (hi:runN P i m=.next m₁) (he:step P m₁=.ended o y) (hk:runN P k m=.next m₂):k≤i:=by
 refine Nat.le_of_not_lt fun hlt=>?_
 have:=VK hi he (k - (i + 1))
 rw [show i + 1 + (k - (i + 1))=k by omega,hk] at this;cases this
theorem XaJ {fr:Frame} (hm:fr.mode=.returning) (hd:fr.defers = []) (hkd:fr.kind=.normal) (hf:∃ f,P.funcs[fr.fn]? = some f) (w:World):(∃ o y,step P (lone fr [stop P] w)=.ended o y)∨∃ v y,step P (lone fr [stop P] w)=.next (lone ((stop P).finish v) [] y):=by
 obtain ⟨f,hf⟩:=hf;have hst:stepG P true (G fr [stop P]) w=GStep.after (seen P fr.fn ((results f fr.tmps).events P w #[])) (match (results f fr.tmps).run P w with
  | .ok v w=>.go (G ((stop P).finish v) []) w
  | .halt (.stuck s) w=>.ended (.stuck s (fr.pos P)) w
  | .halt _ w => .ended (.stuck "return: the result variables cannot be read" (fr.pos P)) w) := by
  obtain ⟨fn,tmps,todo,defers,mode,kind,roundOf⟩:=fr;obtain rfl:mode=_:=hm;obtain rfl:defers=_:=hd;obtain rfl:kind=_:=hkd;simp only at hf;simp only [G,stepG,unwind,hf,Sem.runT_eq]
  congr 1
 cases hr:(results f fr.tmps).run P w with
 | ok v y=>rw [hr] at hst;exact .inr ⟨v,y,Zr hst⟩
 | halt hh y=>rw [hr] at hst;cases hh<;>exact .inl ⟨_,_,Zy hst⟩
theorem Xbq {fr:Frame} {ch:List PanicEntry} (hm:fr.mode=.panicking ch) (hd:fr.defers = []) (hf:∃ f,P.funcs[fr.fn]? = some f) (w:World):step P (lone fr [stop P] w)=.next (lone ((stop P).raise ch) [] w):=by
 obtain ⟨f,hf⟩:=hf;have hst:stepG P true (G fr [stop P]) w=.go (G ((stop P).raise ch) []) w:=by
  obtain ⟨fn,tmps,todo,defers,mode,kind,roundOf⟩:=fr;obtain rfl:mode=_:=hm;obtain rfl:defers=_:=hd;simp only at hf;simp [G,stepG,unwind,Frame.catches,hf]
 exact Zr hst
theorem Ue {b:Frame} {Q:Exit→Act→World→Prop} {k i:Nat} {m:Machine} {fr t:Frame} {ts:List Frame} {w' z:World} (hb:b.kind=.normal) (hbf:∃ f,P.funcs[b.fn]? = some f) (hl:Left b Q fr w') (hk:runN P k m=.next (lone fr [stop P] w')) (hi:runN P i m=.next (lone t ts z)) (hts:ts≠[]):i≤k:=by
 obtain ⟨a,⟨_,rfl⟩|⟨_,hd,todo,rfl⟩⟩:=hl
 ·obtain ⟨o,y,e⟩:=XcW (P:=P) b a [stop P] w'
  exact ZD hk e hi
 ·rcases XaJ (P:=P) (fr:={ b.at a todo with mode:=.returning }) rfl hd hb hbf w' with ⟨o,y,e⟩|⟨v,y,e⟩
  ·exact ZD hk e hi
  ·have h1:=Zd hk e
   obtain ⟨o,y',h2⟩:=Ua P v y
   have:=ZD h1 h2 hi
   rcases Nat.lt_or_ge i (k + 1) with h3|h3
   ·omega
   ·have e':i=k + 1:=by omega
    rw [e',h1] at hi
    have:=(Zx (Stepped.next.inj hi)).2.1
    exact absurd this.symm hts
theorem XeC.next {J:Goroutine→World→Prop} {main:Bool} {b:Frame} {c:Code} {a:Act} {k:List Item} {cs:List Frame} {x₀:World} {Q:Exit→Act→World→Prop} {i:Nat} {s:Sb}
 (hC:Closed P S F) (hJ:Xgg P S main J) (hb:b.kind=.normal) (hbf:∃ f,P.funcs[b.fn]? = some f)
 (hlone:∀ τ,∃ k fr w',runN P k (lone (b.at a (.code c::halt)) [stop P] (under x₀ τ 0))=.next (lone fr [stop P] w')∧Left b Q fr w')
 (hn:∀ a' x' w',X6 S x' w'→Q .normal a' x'→J (G (b.at a' k) cs) w') (hr:∀ a' x' w' todo,X6 S x' w'→Q .ret a' x'→a'.defers = []→J (G { b.at a' todo with mode:=.returning } cs) w')
 (h:XeC P S F J k cs (fun τ=>lone (b.at a (.code c::halt)) [stop P] (under x₀ τ 0)) i s) :
 ∃ s',XeC P S F J k cs (fun τ=>lone (b.at a (.code c::halt)) [stop P] (under x₀ τ 0)) (i + 1) s'∧s.n≤s'.n∧∀ j,j < s.n→s'.f j=s.f j:=by
 -- where the frame of the piece is on top,and not about to make a step of its own,the lone run has left the piece: so J holds
 have hdone:s.ps = []→(∀ τ,Agree τ 0 s.n s.f→∃ z o y,(step P (lone (s.b.app halt) [stop P] (under s.x τ s.n))=.ended o y∨(step P (lone (s.b.app halt) [stop P] (under s.x τ s.n))=.next z∧(∃ f' y',z=lone f' [] y')∧step P z=.ended o y)))→∃ a',(Q .normal a' (under s.x (fun j _=>s.f j) s.n)∧s.b.app halt=b.at a' halt)∨(Q .ret a' (under s.x (fun j _=>s.f j) s.n)∧a'.defers = []∧∃ todo,s.b.app halt = { b.at a' todo with mode:=.returning }):=by
  intro hps hend;have hA:Agree (fun j _=>s.f j) 0 s.n s.f:=fun j _ _=>by simp
  obtain ⟨z,o,y,hz⟩:=hend _ hA;obtain ⟨t,ts,ht,hr⟩:=h.reach _ hA;rw [hps] at ht;simp only [List.nil_append,List.cons.injEq] at ht;obtain ⟨rfl,rfl⟩:=ht;obtain ⟨k',fr,w',hk',hl⟩:=hlone (fun j _=>s.f j);have h1:=Ue hb hbf hl hk' hr (by simp);have h2:k'=i:=by
   rcases hz with he|⟨he,⟨f',y',rfl⟩,he2⟩
   ·have:=ZD hr he hk';omega
   ·have h3:=Zd hr he
    have h4:=ZD h3 he2 hk';rcases Nat.lt_or_ge k' (i + 1) with h5|h5
    ·omega
    ·have e:k'=i + 1:=by omega
     rw [e,h3] at hk'
     have:=(Zx (Stepped.next.inj hk')).2.1
     cases this
  subst h2;rw [hr] at hk';obtain ⟨rfl,_,rfl⟩:=Zx (Stepped.next.inj hk');exact hl
 have hunder:∀ w',X6 S s.x w'→X6 S (under s.x (fun j _=>s.f j) s.n) w':=fun w' hT=>hT.mvl _ _
 by_cases hspec:s.ps = []∧(s.b.mode≠.run∨s.b.todo = [])
 ·exfalso
  obtain ⟨hps,hsp⟩:=hspec;have hbad:=h.bad;rw [hps] at hbad;have hend:∀ τ,Agree τ 0 s.n s.f→∃ z o y,(step P (lone (s.b.app halt) [stop P] (under s.x τ s.n))=.ended o y∨(step P (lone (s.b.app halt) [stop P] (under s.x τ s.n))=.next z∧(∃ f' y',z=lone f' [] y')∧step P z=.ended o y)):=by
   intro τ _;cases hm:s.b.mode with
   | run =>
    have ht:s.b.todo = []:=hsp.resolve_left (fun e=>e hm);have e:∃ o y es,stepG P true (G (s.b.app halt) [stop P]) (under s.x τ s.n)=.ended o y es:=by
     have hro:=h.fit.round;generalize s.b=fr at hm ht hro;obtain ⟨fn,tmps,todo,defers,mode,kind,roundOf⟩:=fr;obtain rfl:mode=_:=hm;obtain rfl:todo=_:=ht;exact ⟨_,_,_,by simp only [G,stepG,stepG.exec,Frame.app,halt,List.nil_append];rfl⟩
    obtain ⟨o,y,es,e⟩:=e;exact ⟨lone (stop P) [] s.w,o,y,.inl (Zy e)⟩
   | returning =>
    rcases XaJ (P:=P) (fr:=s.b.app halt) hm h.fit.defers h.fit.kind (show ∃ f,P.funcs[s.b.fn]? = some f from hC.there h.fit) (under s.x τ s.n) with ⟨o,y,e⟩|⟨v,y,e⟩
    ·exact ⟨lone (stop P) [] s.w,o,y,.inl e⟩
    ·obtain ⟨o,y',e2⟩:=Ua P v y
     exact ⟨_,o,y',.inr ⟨e,⟨_,_,rfl⟩,e2⟩⟩
   | panicking ch =>
    have e:=Xbq (P:=P) (fr:=s.b.app halt) hm h.fit.defers (show ∃ f,P.funcs[s.b.fn]? = some f from hC.there h.fit) (under s.x τ s.n);obtain ⟨o,y',e2⟩:=Ve P ch (under s.x τ s.n);exact ⟨_,o,y',.inr ⟨e,⟨_,_,rfl⟩,e2⟩⟩
  obtain ⟨a',⟨hQ,he⟩|⟨hQ,hd,todo,he⟩⟩:=hdone hps hend
  ·have hmode:s.b.mode=.run:=by have:=congrArg Frame.mode he;exact this
   have ht:s.b.todo = []:=hsp.resolve_left (fun e=>e hmode);have hk:s.b.app k=b.at a' k:=by
    have h1:s.b.app k = { s.b.app halt with todo:=k }:=by unfold Frame.app;rw [ht];rfl
    rw [h1,he];rfl
   exact hbad (by show J (G (s.b.app k) cs) s.w;rw [hk];exact hn _ _ _ (hunder _ h.thaw) hQ)
  ·have hk:s.b.app k = { b.at a' (s.b.todo ++ k) with mode:=.returning }:=by
    have h1:s.b.app k = { s.b.app halt with todo:=s.b.todo ++ k }:=rfl;rw [h1,he];rfl
   exact hbad (by show J (G (s.b.app k) cs) s.w;rw [hk];exact hr _ _ _ _ (hunder _ h.thaw) hQ hd)
 ·-- a step of the top frame
  have hbad:∃ d,∀ g' w' es,(∃ f fs,s.ps ++ s.b.app k::cs=f::fs∧stepG P main (G f fs) (s.w.at d)=.go g' w' es)→(∀ e∈es,EvG S w'.heap.size e)→s.w.heap.size≤w'.heap.size→Y7 w'=Y7 s.w→UU S s.w w'→¬ J g' w':=by
   refine Classical.byContradiction fun hn=>h.bad ?_;obtain ⟨f,fs,hf⟩:∃ f fs,s.ps ++ s.b.app k::cs=f::fs:=by cases s.ps<;>exact ⟨_,_,rfl⟩
   rw [hf];refine hJ _ _ _ fun d=>?_;refine Classical.byContradiction fun hd=>hn ⟨d,fun g' w' es ⟨f',fs',e',h1⟩ h2 h3 h4 h5 h6=>hd ⟨g',w',es,?_,h2,h3,h4,h5,h6⟩⟩;rw [hf] at e';obtain ⟨rfl,rfl⟩:=List.cons.inj e';exact h1
  obtain ⟨d,hd⟩:=hbad;have hext:∀ (m:Nat) (g:Nat→Nat),∀ j,j < s.n→(fun j=>if j < s.n then s.f j else g (j - s.n)) j=s.f j:=fun m g j hj=>by simp [hj]
  have hAg:∀ (m:Nat) (g:Nat→Nat) τ,Agree τ 0 (s.n + m) (fun j=>if j < s.n then s.f j else g (j - s.n))→Agree τ 0 s.n s.f∧Agree τ s.n m g:=fun m g τ hτ=>⟨hτ.left,by have:=hτ.right;rwa [Nat.zero_add] at this⟩
  cases hps:s.ps with
  | nil =>
   have hrun:s.b.mode=.run:=Classical.byContradiction fun e=>hspec ⟨hps,.inl e⟩;have htodo:s.b.todo≠[]:=fun e=>hspec ⟨hps,.inr e⟩;obtain ⟨m,g,hh⟩:=XaD (P:=P) (S:=S) (T:=fun _=>True) hC h.fit (fun e _=>absurd e htodo) s.x (s.w.at d) (h.thaw.mvr s.w.tape d);rcases hh with he|⟨t,y,w',es,hfit,hfrom,hT,htp,hsz,hsta,hev,hreal,hghost⟩
   ·exfalso
    have hown:Agree (fun j _=>(fun j=>if j < s.n then s.f j else g (j - s.n)) j) 0 (s.n + m) (fun j=>if j < s.n then s.f j else g (j - s.n)):=fun j _ _=>by simp
    obtain ⟨hτ1,hτ2⟩:=hAg m g _ hown;obtain ⟨t,ts,ht,hr'⟩:=h.reach _ hτ1;rw [hps] at ht;simp only [List.nil_append,List.cons.injEq] at ht;obtain ⟨rfl,rfl⟩:=ht;obtain ⟨o,y,es,e⟩:=he _ s.n (stop P) [] true halt XcV hτ2;obtain ⟨k',fr,w',hk',hl⟩:=hlone (fun j _=>(fun j=>if j < s.n then s.f j else g (j - s.n)) j);have h1:=Ue hb hbf hl hk' hr' (by simp);have h2:=ZD hr' (Zy e) hk';have h3:k'=i:=by omega
    subst h3;rw [hr'] at hk';obtain ⟨e1,_,_⟩:=Zx (Stepped.next.inj hk');obtain ⟨a',⟨_,e2⟩|⟨_,_,todo,e2⟩⟩:=hl
    ·rw [e2] at e1
     have:=congrArg (fun f=>f.todo.length) e1
     simp only [Frame.app,Frame.at,halt,List.length_append,List.length_cons,List.length_nil] at this;exact htodo (List.length_eq_zero_iff.1 (by omega))
    ·rw [e2] at e1
     have:=congrArg Frame.mode e1
     simp [Frame.app,hrun] at this
   ·have hnJ:=hd _ _ _ ⟨s.b.app k,cs,by rw [hps];rfl,hreal k cs main trivial (fun _=>hrun)⟩ hev hsz htp ⟨hsta.cells,hsta.objs⟩
    have hgo:∀ τ,Agree τ 0 (s.n + m) (fun j=>if j < s.n then s.f j else g (j - s.n))→∀ g' gs',(t.app halt).gor [stop P] = G g' gs'→runN P (i + 1) (lone (b.at a (.code c::halt)) [stop P] (under x₀ τ 0))=.next (lone g' gs' (under y τ (s.n + m))):=fun τ hτ g' gs' hg=>by
     obtain ⟨a1,a2⟩:=hAg m g τ hτ;obtain ⟨tt,ts,ht,hr'⟩:=h.reach _ a1;rw [hps] at ht;simp only [List.nil_append,List.cons.injEq] at ht;obtain ⟨rfl,rfl⟩:=ht;obtain ⟨es',e⟩:=hghost τ s.n halt (stop P) [] true trivial a2;rw [hg] at e;exact Zd hr' (Zr e)
    cases t with
    | to fr'=>exact ⟨⟨[],fr',w',y,s.n + m,_⟩,⟨by simp,hfit,fun e=>absurd rfl e,hT,hnJ,fun τ hτ=>⟨_,_,rfl,hgo τ hτ _ _ rfl⟩⟩,Nat.le_add_right _ _,hext m g⟩
    | push fr₁ fr' =>
     refine ⟨⟨[fr'],fr₁,w',y,s.n + m,_⟩,⟨fun r hr=>?_,hfit.1,fun _=>?_,hT,hnJ,fun τ hτ=>⟨_,_,rfl,hgo τ hτ _ _ rfl⟩⟩,Nat.le_add_right _ _,hext m g⟩
     ·obtain rfl:=List.mem_singleton.1 hr;exact hfit.2
     ·obtain ⟨rfl,_,h2⟩:=hfrom;exact h2
    | pop v =>
     have h1:s.b.mode=.returning:=hfrom;rw [hrun] at h1;cases h1
    | raise ch =>
     obtain ⟨_,h1⟩:=hfrom;rw [hrun] at h1;cases h1
  | cons p ps =>
   have hp:Fit F p:=h.fits p (by rw [hps];exact List.mem_cons_self ..);have hps':∀ r∈ps,Fit F r:=fun r hr=>h.fits r (by rw [hps];exact List.mem_cons_of_mem _ hr);have hop:Xgh s.b:=h.op (by rw [hps];simp);obtain ⟨m,g,hh⟩:=V4 (P:=P) (S:=S) hC hp s.x (s.w.at d) (h.thaw.mvr s.w.tape d);obtain ⟨c₁,cs₁,hc₁⟩:∃ c₁ cs₁,ps ++ s.b.app k::cs=c₁::cs₁:=by cases ps<;>exact ⟨_,_,rfl⟩
   obtain ⟨c₂,cs₂,hc₂⟩:∃ c₂ cs₂,ps ++ [s.b.app halt,stop P] = c₂::cs₂:=by cases ps<;>exact ⟨_,_,rfl⟩
   have hreach:∀ τ,Agree τ 0 s.n s.f→runN P i (lone (b.at a (.code c::halt)) [stop P] (under x₀ τ 0))=.next (lone p (ps ++ [s.b.app halt,stop P]) (under s.x τ s.n)):=fun τ hτ=>by
    obtain ⟨tt,ts,ht,hr'⟩:=h.reach τ hτ;rw [hps] at ht;simp only [List.cons_append,List.cons.injEq] at ht;obtain ⟨rfl,rfl⟩:=ht;exact hr'
   rcases hh with he|⟨t,y,w',es,hfit,hfrom,hT,htp,hsz,hsta,hev,hreal,hghost⟩
   ·exfalso
    have hown:Agree (fun j _=>(fun j=>if j < s.n then s.f j else g (j - s.n)) j) 0 (s.n + m) (fun j=>if j < s.n then s.f j else g (j - s.n)):=fun j _ _=>by simp
    obtain ⟨hτ1,hτ2⟩:=hAg m g _ hown;have hr':=hreach _ hτ1;obtain ⟨o,y,es,e⟩:=he _ s.n c₂ cs₂ true hτ2;obtain ⟨k',fr,w',hk',hl⟩:=hlone (fun j _=>(fun j=>if j < s.n then s.f j else g (j - s.n)) j);have h1:=Ue hb hbf hl hk' hr' (by simp);rw [hc₂] at hr';have h2:=ZD hr' (Zy e) hk';have h3:k'=i:=by omega
    subst h3;rw [hr'] at hk';obtain ⟨_,e1,_⟩:=Zx (Stepped.next.inj hk');rw [← hc₂] at e1
    have:=congrArg List.length e1
    simp at this
   ·have hnJ:=hd _ _ _ ⟨p,c₁::cs₁,by rw [hps,List.cons_append,hc₁],hreal (c₁::cs₁) main (fun e=>by cases e)⟩ hev hsz htp ⟨hsta.cells,hsta.objs⟩
    rw [← hc₁] at hnJ;have hgo:∀ τ,Agree τ 0 (s.n + m) (fun j=>if j < s.n then s.f j else g (j - s.n))→∀ g' gs',t.gor (ps ++ [s.b.app halt,stop P])=G g' gs'→runN P (i + 1) (lone (b.at a (.code c::halt)) [stop P] (under x₀ τ 0))=.next (lone g' gs' (under y τ (s.n + m))):=fun τ hτ g' gs' hg=>by
     obtain ⟨a1,a2⟩:=hAg m g τ hτ;have hr':=hreach τ a1;obtain ⟨es',e⟩:=hghost τ s.n c₂ cs₂ true a2;rw [← hc₂,hg] at e;rw [hc₂] at hr';rw [hc₂] at e;exact Zd hr' (Zr e)
    cases t with
    | to fr' =>
     exact ⟨⟨fr'::ps,s.b,w',y,s.n + m,_⟩,⟨fun r hr=>(List.mem_cons.1 hr).elim (fun e=>e ▸ hfit) (hps' r),h.fit,fun _=>hop,hT,hnJ,fun τ hτ=>⟨_,_,rfl,hgo τ hτ _ _ rfl⟩⟩,Nat.le_add_right _ _,hext m g⟩
    | push fr₁ fr' =>
     refine ⟨⟨fr'::fr₁::ps,s.b,w',y,s.n + m,_⟩,⟨fun r hr=>?_,h.fit,fun _=>hop,hT,hnJ,fun τ hτ=>⟨_,_,rfl,hgo τ hτ _ _ rfl⟩⟩,Nat.le_add_right _ _,hext m g⟩;rcases List.mem_cons.1 hr with rfl|hr
     ·exact hfit.2
     ·rcases List.mem_cons.1 hr with rfl|hr
      ·exact hfit.1
      ·exact hps' r hr
    | pop v =>
     cases ps with
     | nil =>
      refine ⟨⟨[],s.b.finish v,w',y,s.n + m,_⟩,⟨by simp,h.fit.finish _,fun e=>absurd rfl e,hT,?_,fun τ hτ=>⟨_,_,rfl,?_⟩⟩,Nat.le_add_right _ _,hext m g⟩
      ·rw [← Vr hop];exact hnJ
      ·rw [← Vr hop];exact hgo τ hτ _ _ rfl
     | cons r rs =>
      exact ⟨⟨r.finish v::rs,s.b,w',y,s.n + m,_⟩,⟨fun r' hr=>(List.mem_cons.1 hr).elim (fun e=>e ▸ (hps' r (List.mem_cons_self ..)).finish _) fun e=>hps' r' (List.mem_cons_of_mem _ e),h.fit,fun _=>hop,hT,hnJ,fun τ hτ=>⟨_,_,rfl,hgo τ hτ _ _ rfl⟩⟩,Nat.le_add_right _ _,hext m g⟩
    | raise ch =>
     cases ps with
     | nil =>
      refine ⟨⟨[],s.b.raise ch,w',y,s.n + m,_⟩,⟨by simp,h.fit.raise _,fun e=>absurd rfl e,hT,?_,fun τ hτ=>⟨_,_,rfl,?_⟩⟩,Nat.le_add_right _ _,hext m g⟩
      ·rw [← Wm];exact hnJ
      ·rw [← Wm];exact hgo τ hτ _ _ rfl
     | cons r rs =>
      exact ⟨⟨r.raise ch::rs,s.b,w',y,s.n + m,_⟩,⟨fun r' hr=>(List.mem_cons.1 hr).elim (fun e=>e ▸ (hps' r (List.mem_cons_self ..)).raise _) fun e=>hps' r' (List.mem_cons_of_mem _ e),h.fit,fun _=>hop,hT,hnJ,fun τ hτ=>⟨_,_,rfl,hgo τ hτ _ _ rfl⟩⟩,Nat.le_add_right _ _,hext m g⟩
theorem XcJ {J:Goroutine→World→Prop} {main:Bool} {b:Frame} {c:Code} {a:Act} {k:List Item} {cs:List Frame} {x₀ w₀:World} {Q:Exit→Act→World→Prop}
 (hC:Closed P S F) (hJ:Xgg P S main J) (hc:YY F c=true) (hb:b.kind=.normal) (hf:F.fn b.fn=true∨F.top b.fn=true) (ha:a.defers = []) (hT:X6 S x₀ w₀) (hlone:∀ τ,c.wp P Q a (under x₀ τ 0))
 (hQ:∀ e a' x',Q e a' x'→e=.normal∨(e=.ret∧a'.defers = []))
 (hn:∀ a' x' w',X6 S x' w'→Q .normal a' x'→J (G (b.at a' k) cs) w') (hr:∀ a' x' w' todo,X6 S x' w'→Q .ret a' x'→a'.defers = []→J (G { b.at a' todo with mode:=.returning } cs) w'):J (G (b.at a (.code c::k)) cs) w₀:=by
 classical
 refine Classical.byContradiction fun hbad=>?_;have hbf:∃ f,P.funcs[b.fn]? = some f:=by
  rcases hf with e|e
  ·obtain ⟨fn,c,h1,_⟩:=hC.text _ e;exact ⟨fn,h1⟩
  ·exact hC.tops _ e
 have hlone':∀ τ,∃ k fr w',runN P k (lone (b.at a (.code c::halt)) [stop P] (under x₀ τ 0))=.next (lone fr [stop P] w')∧Left b Q fr w':=fun τ=>by
  obtain ⟨e,a',w',hq,harr⟩:=hlone τ b halt [stop P];rcases hQ e a' w' hq with rfl|⟨rfl,hd⟩
  ·obtain ⟨k,hk⟩:=harr
   exact ⟨k,_,w',hk,a',.inl ⟨hq,rfl⟩⟩
  ·obtain ⟨todo,k,hk⟩:=harr
   exact ⟨k,_,w',hk,a',.inr ⟨hq,hd,todo,rfl⟩⟩
 have h0:XeC P S F J k cs (fun τ=>lone (b.at a (.code c::halt)) [stop P] (under x₀ τ 0)) 0 ⟨[],b.at a [.code c],w₀,x₀,0,fun _=>0⟩ :=
  ⟨by simp,⟨hb,rfl,ha,fun x hx=>by obtain rfl:=List.mem_singleton.1 hx;exact hc,hf⟩,fun e=>absurd rfl e,hT,hbad,fun τ _=>⟨_,_,rfl,rfl⟩⟩
 let St':=fun i=>{ s:Sb // XeC P S F J k cs (fun τ=>lone (b.at a (.code c::halt)) [stop P] (under x₀ τ 0)) i s }
 let nx:∀ i,St' i→St' (i + 1):=fun i s=>⟨(XeC.next hC hJ hb hbf hlone' hn hr s.2).choose,(XeC.next hC hJ hb hbf hlone' hn hr s.2).choose_spec.1⟩
 have hnx:∀ i (s:St' i),s.1.n≤(nx i s).1.n∧∀ j,j < s.1.n→(nx i s).1.f j=s.1.f j:=fun i s=>(XeC.next hC hJ hb hbf hlone' hn hr s.2).choose_spec.2
 let sq:∀ i,St' i:=fun i=>Nat.rec ⟨_,h0⟩ (fun i s=>nx i s) i
 have hsq:∀ i,sq (i + 1)=nx i (sq i):=fun i=>rfl;have hmono:∀ i k,(sq i).1.n≤(sq (i + k)).1.n∧∀ j,j < (sq i).1.n→(sq (i + k)).1.f j=(sq i).1.f j:=by
  intro i k
  induction k with
  | zero=>exact ⟨Nat.le_refl _,fun _ _=>rfl⟩
  | succ k ih =>
   have:=hnx (i + k) (sq (i + k))
   rw [← hsq] at this;exact ⟨Nat.le_trans ih.1 this.1,fun j hj=>(this.2 j (Nat.lt_of_lt_of_le hj ih.1)).trans (ih.2 j hj)⟩
 have hsame:∀ i i' j,j < (sq i).1.n→j < (sq i').1.n→(sq i).1.f j=(sq i').1.f j:=by
  intro i i' j h1 h2;rcases Nat.le_total i i' with h|h
  ·obtain ⟨k,rfl⟩:=Nat.exists_eq_add_of_le h
   exact ((hmono i k).2 j h1).symm
  ·obtain ⟨k,rfl⟩:=Nat.exists_eq_add_of_le h
   exact (hmono i' k).2 j h2
 let g:Nat→Nat:=fun j=>if h:∃ i,j < (sq i).1.n then (sq h.choose).1.f j else 0
 have hg:∀ i,Agree (fun k _=>g k) 0 (sq i).1.n (sq i).1.f:=fun i j hj q=>by
  have hex:∃ i,j < (sq i).1.n:=⟨i,hj⟩
  show g (0 + j)=_;rw [Nat.zero_add];simp only [g,hex,dif_pos];exact hsame _ _ j hex.choose_spec hj
 obtain ⟨k',fr,z,hk,hl⟩:=hlone' (fun j _=>g j);obtain ⟨t,ts,ht,hr'⟩:=(sq (k' + 1)).2.reach _ (hg (k' + 1));have hts:ts≠[]:=fun e=>by
  rw [e] at ht
  have:=congrArg List.length ht
  simp at this
 have:=Ue hb hbf hl hk hr' hts
 omega

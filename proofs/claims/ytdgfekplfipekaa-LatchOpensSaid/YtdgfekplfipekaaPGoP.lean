/- A program without initialisers that wait: no step of initialisation is ever made early. -/
import Derived.Test.YtdgfekplfipekaaPGoL
set_option linter.all false
set_option maxRecDepth 100000
set_option maxHeartbeats 16000000
namespace Go.Proofs.Ytdgfekplfipekaa
open Go.Conc
def stop (P : Program) : Frame := { fn := 0, tmps := #[], todo := [.extern "" #[], .code (.refuse "")], defers := [{ target := .fn (.func P.funcs.size) #[], args := #[] }], mode := .run, kind := .normal }
theorem Ua (P:Program) (v:Value) (w:World):∃ o y,step P (lone ((stop P).finish v) [] w)=.ended o y :=
 ⟨_, _, step_lone_ended (o := .unsupported (.elab "") _) (w' := w) (by simp [stop, Frame.finish, stepG, stepG.exec, GStep.bare]; rfl)⟩
section
variable {P:Program} {S:YK} {F:Fns}
theorem Zr {fr:Frame} {cs:List Frame} {w w':World} {g:Frame} {gs:List Frame} {es:Array Event} (h:stepG P true (G fr cs) w=.go (G g gs) w' es):step P (lone fr cs w)=.next (lone g gs w') :=
 step_lone_go (by show (stepG P true (G fr cs) w).bare=_;rw [h];rfl)
theorem Zy {fr:Frame} {cs:List Frame} {w y:World} {o:Outcome} {es:Array Event} (h:stepG P true (G fr cs) w=.ended o y es):step P (lone fr cs w)=.ended o y :=
 step_lone_ended (by show (stepG P true (G fr cs) w).bare=_;rw [h];rfl)
theorem Ve (P:Program) (ch:List PanicEntry) (w:World):∃ o y,step P (lone ((stop P).raise ch) [] w)=.ended o y:=by
 have h:∃ o y es,stepG P true (G ((stop P).raise ch) []) w=.ended o y es:=by
  simp [G,stop,Frame.raise,stepG,unwind,callDeferred,invoke,callFunc,program,stuck,Sem.run,GStep.after]
 obtain ⟨o,y,es,h⟩:=h;exact ⟨o,y,Zy h⟩
theorem Zd {P:Program} {i:Nat} {m m' m'':Machine} (h:runN P i m=.next m') (h':step P m'=.next m''):runN P (i + 1) m=.next m'':=by
 rw [runN_add,h];simp [runN,h']
theorem VK {P:Program} {i:Nat} {m m':Machine} {o:Outcome} {w:World} (h:runN P i m=.next m') (h':step P m'=.ended o w):∀ k,runN P (i + 1 + k) m=.ended o w:=by
 intro k;rw [Nat.add_assoc,runN_add,h,Nat.add_comm 1 k];simp [runN,h']
structure St where
 top:Frame
 rest:List Frame
 w:World
 x:World
 n:Nat
 f:Nat→Nat
structure Inv (P:Program) (S:YK) (F:Fns) (J:Goroutine→World→Prop) (c:Frame) (cs:List Frame) (m₀:(Nat→Question→Nat)→Machine) (i:Nat) (s:St):Prop where
 fit:Fit F s.top
 fits:∀ r∈s.rest,Fit F r
 thaw:X6 S s.x s.w
 bad:¬ J (G s.top (s.rest ++ c::cs)) s.w
 reach:∀ τ,Agree τ 0 s.n s.f→runN P i (m₀ τ)=.next (lone s.top (s.rest ++ [stop P]) (under s.x τ s.n))
def Xgg (P:Program) (S:YK) (main:Bool) (J:Goroutine→World→Prop):Prop:=∀ fr cs w,(∀ d,∃ g' w' es,stepG P main (G fr cs) (w.at d)=.go g' w' es∧(∀ e∈es,EvG S w'.heap.size e)∧w.heap.size≤w'.heap.size∧Y7 w'=Y7 w∧UU S w w'∧J g' w')→J (G fr cs) w
def VY (P:Program) (f:FuncId) (args:Array Value) (x:World) (Post:Value→World→Prop):Prop :=
 ∃ k fr v w',runN P k (lone (Frame.enter P f args .normal) [stop P] x)=.next (lone fr [stop P] w')∧fr.leaving P w' (.returned v)∧Post v w'
theorem VY.of_calls {f:FuncId} {args:Array Value} {x:World} {Post:Value→World→Prop} (h:Calls P f args x fun e w'=>∃ v,e=.returned v∧Post v w'):VY P f args x Post:=by
 obtain ⟨e,w',fr,⟨v,rfl,hp⟩,⟨k,hk⟩,_,hl⟩:=h [stop P];exact ⟨k,fr,v,w',hk,hl,hp⟩
theorem Wt {k i:Nat} {m:Machine} {fr top:Frame} {v:Value} {w' z:World} {rest:List Frame} (hk:runN P k m=.next (lone fr [stop P] w')) (hl:fr.leaving P w' (.returned v)) (hi:runN P i m=.next (lone top (rest ++ [stop P]) z)):i≤k:=by
 refine Nat.le_of_not_lt fun hlt=>?_;have h1:=Zd hk (step_leave_returned hl);obtain ⟨o,y,h2⟩:=Ua P v w';rcases Nat.lt_or_ge (k + 1) i with h3|h3
 ·have:=VK h1 h2 (i - (k + 1 + 1))
  rw [show k + 1 + 1 + (i - (k + 1 + 1))=i by omega,hi] at this;cases this
 ·have e:i=k + 1:=by omega
  rw [e,h1] at hi;have hi:=Stepped.next.inj hi;simp only [lone,Machine.mk.injEq] at hi;have h4:=congrArg (fun a=>a[0]?) hi.2.1;simp at h4
theorem Ws {k i:Nat} {m m₁:Machine} {fr:Frame} {v:Value} {w' y:World} {o:Outcome} (hk:runN P k m=.next (lone fr [stop P] w')) (hl:fr.leaving P w' (.returned v)) (hik:i≤k) (hi:runN P i m=.next m₁) (he:step P m₁=.ended o y):False:=by
 rcases Nat.lt_or_ge i k with h1|h1
 ·have:=VK hi he (k - (i + 1))
  rw [show i + 1 + (k - (i + 1))=k by omega,hk] at this;cases this
 ·have e:i=k:=by omega
  rw [e,hk] at hi;obtain rfl:=Stepped.next.inj hi;rw [step_leave_returned hl] at he;cases he
theorem Zx {fr fr':Frame} {cs cs':List Frame} {w w':World} (h:lone fr cs w=lone fr' cs' w'):fr=fr'∧cs=cs'∧w=w':=by
 simp only [lone,Machine.mk.injEq] at h;have h4:=congrArg (fun a=>a[0]?) h.2.1;simp at h4;exact ⟨h4.1,h4.2,h.1⟩
theorem XaS {k i:Nat} {m m₁:Machine} {fr g:Frame} {v:Value} {w' z y:World} {o:Outcome} (hk:runN P k m=.next (lone fr [stop P] w')) (hl:fr.leaving P w' (.returned v)) (hik:i≤k) (hi:runN P i m=.next m₁) (h1:step P m₁=.next (lone g [] z)) (he:step P (lone g [] z)=.ended o y) :
 m₁=lone fr [stop P] w'∧g=(stop P).finish v∧z=w':=by
 have h2:=Zd hi h1;rcases Nat.lt_or_ge i k with h3|h3
 ·exfalso
  rcases Nat.lt_or_ge (i + 1) k with h4|h4
  ·exact Ws hk hl (Nat.le_of_lt h4) h2 he
  ·have e:k=i + 1:=by omega
   rw [e,h2] at hk
   have:=(Zx (Stepped.next.inj hk)).2.1
   cases this
 ·have e:i=k:=by omega
  rw [e,hk] at hi;have hm:=Stepped.next.inj hi;rw [← hm,step_leave_returned hl] at h1;obtain ⟨h5,_,h6⟩:=Zx (Stepped.next.inj h1);exact ⟨hm.symm,h5.symm,h6.symm⟩
theorem Inv.next {J:Goroutine→World→Prop} {main:Bool} {c:Frame} {cs:List Frame} {f:FuncId} {args:Array Value} {x₀:World} {Post:Value→World→Prop} {i:Nat} {s:St}
 (hC:Closed P S F) (hJ:Xgg P S main J) (hlone:∀ τ,VY P f args (under x₀ τ 0) Post) (hend:∀ v x' w',X6 S x' w'→Post v x'→J (G (c.finish v) cs) w')
 (h:Inv P S F J c cs (fun τ=>lone (Frame.enter P f args .normal) [stop P] (under x₀ τ 0)) i s) :
 ∃ s',Inv P S F J c cs (fun τ=>lone (Frame.enter P f args .normal) [stop P] (under x₀ τ 0)) (i + 1) s'∧s.n≤s'.n∧∀ j,j < s.n→s'.f j=s.f j:=by
 have hbad:∃ d,∀ g' w' es,stepG P main (G s.top (s.rest ++ c::cs)) (s.w.at d)=.go g' w' es→(∀ e∈es,EvG S w'.heap.size e)→s.w.heap.size≤w'.heap.size→Y7 w'=Y7 s.w→UU S s.w w'→¬ J g' w':=by
  refine Classical.byContradiction fun hn=>h.bad (hJ _ _ _ fun d=>?_);refine Classical.byContradiction fun hd=>hn ⟨d,fun g' w' es h1 h2 h3 h4 h5 h6=>hd ⟨g',w',es,h1,h2,h3,h4,h5,h6⟩⟩
 obtain ⟨d,hd⟩:=hbad;obtain ⟨c₁,cs₁,hc₁⟩:∃ c₁ cs₁,s.rest ++ c::cs=c₁::cs₁:=by cases s.rest<;>exact ⟨_,_,rfl⟩
 obtain ⟨c₂,cs₂,hc₂⟩:∃ c₂ cs₂,s.rest ++ [stop P] = c₂::cs₂:=by cases s.rest<;>exact ⟨_,_,rfl⟩
 obtain ⟨m,g,hh⟩:=V4 (P:=P) (S:=S) hC h.fit s.x (s.w.at d) (h.thaw.mvr s.w.tape d);have hA:∀ τ,Agree τ 0 (s.n + m) (fun j=>if j < s.n then s.f j else g (j - s.n))→Agree τ 0 s.n s.f∧Agree τ s.n m g:=fun τ hτ=>⟨hτ.left,by have:=hτ.right;rwa [Nat.zero_add] at this⟩
 have hext:∀ j,j < s.n→(fun j=>if j < s.n then s.f j else g (j - s.n)) j=s.f j:=fun j hj=>by simp [hj]
 have hown:Agree (fun k _=>(fun j=>if j < s.n then s.f j else g (j - s.n)) k) 0 (s.n + m) (fun j=>if j < s.n then s.f j else g (j - s.n)):=fun j _ _=>by simp
 obtain ⟨hτ1,hτ2⟩:=hA _ hown;have hr:=h.reach _ hτ1;obtain ⟨k,fr,v,z,hk,hl,hp⟩:=hlone (fun k _=>(fun j=>if j < s.n then s.f j else g (j - s.n)) k);have hik:=Wt hk hl hr;rcases hh with he|⟨t,y,w',es,hfit,_,hT,htp,hsz,hsta,hev,hreal,hghost⟩
 ·exfalso
  obtain ⟨o,y,es,e⟩:=he _ s.n c₂ cs₂ true hτ2;rw [hc₂] at hr;exact Ws hk hl hik hr (Zy e)
 ·have hst:=hreal (c₁::cs₁) main (fun e=>by cases e)
  rw [← hc₁] at hst;have hnJ:=hd _ _ _ hst hev hsz htp ⟨hsta.cells,hsta.objs⟩;have hgo:∀ τ,Agree τ 0 (s.n + m) (fun j=>if j < s.n then s.f j else g (j - s.n))→∀ g' gs',t.gor (s.rest ++ [stop P])=G g' gs'→runN P (i + 1) (lone (Frame.enter P f args .normal) [stop P] (under x₀ τ 0))=.next (lone g' gs' (under y τ (s.n + m))):=fun τ hτ g' gs' hg=>by
   obtain ⟨a1,a2⟩:=hA τ hτ;obtain ⟨es',e⟩:=hghost τ s.n c₂ cs₂ true a2;rw [← hc₂,hg] at e;exact Zd (h.reach τ a1) (Zr e)
  have hgo1:∀ g' gs',t.gor (s.rest ++ [stop P])=G g' gs'→step P (lone s.top (s.rest ++ [stop P]) (under s.x (fun k _=>(fun j=>if j < s.n then s.f j else g (j - s.n)) k) s.n))=.next (lone g' gs' (under y (fun k _=>(fun j=>if j < s.n then s.f j else g (j - s.n)) k) (s.n + m))):=fun g' gs' hg=>by
   obtain ⟨es',e⟩:=hghost _ s.n c₂ cs₂ true hτ2;rw [← hc₂,hg] at e;exact Zr e
  cases t with
  | to fr' =>
   exact ⟨⟨fr',s.rest,w',y,s.n + m,_⟩,⟨hfit,h.fits,hT,hnJ,fun τ hτ=>hgo τ hτ _ _ rfl⟩,Nat.le_add_right _ _,hext⟩
  | push fr₁ fr' =>
   refine ⟨⟨fr',fr₁::s.rest,w',y,s.n + m,_⟩,⟨hfit.2,fun r hr=>?_,hT,hnJ,fun τ hτ=>hgo τ hτ _ _ rfl⟩,Nat.le_add_right _ _,hext⟩;rcases List.mem_cons.1 hr with rfl|hr
   ·exact hfit.1
   ·exact h.fits r hr
  | pop v' =>
   cases hrest:s.rest with
   | nil =>
    exfalso
    rw [hrest] at hnJ hr hgo1;obtain ⟨o,y',e⟩:=Ua P v' (under y (fun k _=>(fun j=>if j < s.n then s.f j else g (j - s.n)) k) (s.n + m));obtain ⟨_,e1,e2⟩:=XaS hk hl hik hr (hgo1 _ _ rfl) e;have ev:v'=v:=by
     have:=congrArg Frame.tmps e1
     simpa [stop,Frame.finish] using this
    subst ev;exact hnJ (hend _ _ _ (hT.mvl _ _) (e2 ▸ hp))
   | cons r rs =>
    have hfr:Fit F r:=h.fits r (by rw [hrest];exact List.mem_cons_self ..);rw [hrest] at hnJ hgo;exact ⟨⟨r.finish v',rs,w',y,s.n + m,_⟩,⟨hfr.finish _,fun q hq=>h.fits q (by rw [hrest];exact List.mem_cons_of_mem _ hq),hT,hnJ,fun τ hτ=>hgo τ hτ _ _ rfl⟩,Nat.le_add_right _ _,hext⟩
  | raise ch =>
   cases hrest:s.rest with
   | nil =>
    exfalso
    rw [hrest] at hr hgo1;obtain ⟨o,y',e⟩:=Ve P ch (under y (fun k _=>(fun j=>if j < s.n then s.f j else g (j - s.n)) k) (s.n + m));obtain ⟨_,e1,_⟩:=XaS hk hl hik hr (hgo1 _ _ rfl) e
    have:=congrArg Frame.mode e1
    simp [stop,Frame.finish,Frame.raise] at this
   | cons r rs =>
    have hfr:Fit F r:=h.fits r (by rw [hrest];exact List.mem_cons_self ..);rw [hrest] at hnJ hgo;exact ⟨⟨r.raise ch,rs,w',y,s.n + m,_⟩,⟨hfr.raise _,fun q hq=>h.fits q (by rw [hrest];exact List.mem_cons_of_mem _ hq),hT,hnJ,fun τ hτ=>hgo τ hτ _ _ rfl⟩,Nat.le_add_right _ _,hext⟩
theorem lift {J:Goroutine→World→Prop} {main:Bool} {c:Frame} {cs:List Frame} {f:FuncId} {args:Array Value} {x₀ w₀:World} {Post:Value→World→Prop}
 (hC:Closed P S F) (hJ:Xgg P S main J) (hf:F.fn f=true) (hT:X6 S x₀ w₀) (hlone:∀ τ,VY P f args (under x₀ τ 0) Post) (hend:∀ v x' w',X6 S x' w'→Post v x'→J (G (c.finish v) cs) w') :
 J (G (Frame.enter P f args .normal) (c::cs)) w₀:=by
 classical
 refine Classical.byContradiction fun hn=>?_;have h0:Inv P S F J c cs (fun τ=>lone (Frame.enter P f args .normal) [stop P] (under x₀ τ 0)) 0 ⟨Frame.enter P f args .normal,[],w₀,x₀,0,fun _=>0⟩ :=
  ⟨hC.enter hf args,fun r hr=>(by cases hr),hT,hn,fun τ _=>rfl⟩
 let St':=fun i=>{ s:St // Inv P S F J c cs (fun τ=>lone (Frame.enter P f args .normal) [stop P] (under x₀ τ 0)) i s }
 let nx:∀ i,St' i→St' (i + 1):=fun i s=>⟨(Inv.next hC hJ hlone hend s.2).choose,(Inv.next hC hJ hlone hend s.2).choose_spec.1⟩
 have hnx:∀ i (s:St' i),s.1.n≤(nx i s).1.n∧∀ j,j < s.1.n→(nx i s).1.f j=s.1.f j:=fun i s=>(Inv.next hC hJ hlone hend s.2).choose_spec.2
 let sq:∀ i,St' i:=fun i=>Nat.rec ⟨_,h0⟩ (fun i s=>nx i s) i
 have hsq:∀ i,sq (i + 1)=nx i (sq i):=fun i=>rfl;have hmono:∀ i k,(sq i).1.n≤(sq (i + k)).1.n∧∀ j,j < (sq i).1.n→(sq (i + k)).1.f j=(sq i).1.f j:=by
  intro i k
  induction k with
  | zero=>exact ⟨Nat.le_refl _,fun _ _=>rfl⟩
  | succ k ih =>
   have:=hnx (i + k) (sq (i + k))
   rw [← hsq] at this;exact ⟨Nat.le_trans ih.1 this.1,fun j hj=>(this.2 j (Nat.lt_of_lt_of_le hj ih.1)).trans (ih.2 j hj)⟩
 have hsame:∀ i i' j,j < (sq i).1.n→j < (sq i').1.n→(sq i).1.f j=(sq i').1.f j:=by
  intro i i' j h1 h2;rcases Nat.le_total i i' with h|h
  ·obtain ⟨k,rfl⟩:=Nat.exists_eq_add_of_le h
   exact ((hmono i k).2 j h1).symm
  ·obtain ⟨k,rfl⟩:=Nat.exists_eq_add_of_le h
   exact (hmono i' k).2 j h2
 let g:Nat→Nat:=fun j=>if h:∃ i,j < (sq i).1.n then (sq h.choose).1.f j else 0
 have hg:∀ i,Agree (fun k _=>g k) 0 (sq i).1.n (sq i).1.f:=fun i j hj q=>by
  have hex:∃ i,j < (sq i).1.n:=⟨i,hj⟩
  show g (0 + j)=_;rw [Nat.zero_add];simp only [g,hex,dif_pos];exact hsame _ _ j hex.choose_spec hj
 obtain ⟨k,fr,v,z,hk,hl,_⟩:=hlone (fun k _=>g k)
 have:=Wt hk hl ((sq (k + 1)).2.reach _ (hg (k + 1)))
 omega
end
def Xfd (P:Program):Bool:=P.funcs.toList.all fun f=>match f.body.map readies with|some (_::_)=>false|_=>true
theorem WT {P:Program} (h:Xfd P=true) (g:Nat):P.stepOf g=none:=by
 unfold Program.stepOf;rw [Array.findIdx?_eq_none_iff];intro f hf
 have:=List.all_eq_true.1 h f (Array.mem_toList_iff.2 hf)
 cases e:f.body.map readies with
 | none=>rfl
 | some l =>
  rw [e] at this;cases l with
  | nil=>simp
  | cons a l=>cases this

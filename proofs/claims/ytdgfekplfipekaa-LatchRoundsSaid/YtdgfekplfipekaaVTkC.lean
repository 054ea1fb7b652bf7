/- The token's laws, and the judgement 'from here the run ends well', said of the holder: its own steps, a send that gives the token away, a go statement, the end. -/
import Derived.Test.YtdgfekplfipekaaVTkB
import Derived.Test.YtdgfekplfipekaaVGoQ
set_option linter.all false
set_option maxRecDepth 100000
set_option maxHeartbeats 16000000
namespace Go.Proofs.Ytdgfekplfipekaa
open Go.Conc
open Go.ConcN (sumTo upd sumTo_upd upd_ne upd_same)
def UE (Ch:Nat→Option XL) (h:Nat):YK where
 cells:=fun a=>∃ i s v,i≠h∧Ch i=some s∧s.kn a v
 objs:=fun r=>∃ i s,i≠h∧Ch i=some s∧s.c=r
 lo:=0
def EvT (S:YK) (B:Nat) (e:Event):Prop :=
 (e.write=true→∀ a,e.loc=.cell a→¬ S.cells a)∧(e.write=true→∀ r,e.loc=.obj r→¬ S.objs r)∧(∀ m,e.loc=.mark m→∀ a,m≠.read a∧m≠.write a)∧(MemAct.ofEvent e).low B
theorem EvG.evT {S:YK} {B:Nat} {e:Event} (h:EvG S B e):EvT S B e:=⟨h.1,h.2.1,fun m e a=>(h.2.2.1 m e).2.2 a,h.2.2.2⟩
theorem EvG.still {S:YK} {B d:Nat} {es:Array Event} (h:∀ e∈es,EvG S B e):deafBehind d es=d :=
 deafBehind_still (fun e he=>⟨fun x=>((h e he).2.2.1 _ x).1 rfl,fun x=>((h e he).2.2.1 _ x).2.1 rfl⟩) d
section
variable {P:Program} {B:Nat} {Ch:Nat→Option XL} {h d:Nat} {T:Trace} {gs:Array Goroutine} {w:World} {q:Nat→Nat}
theorem V2 {S:YK} {e:Event} (he:EvT S B e) {x:Touch} (hx:(MemAct.ofEvent e).touch? = some x) (hw:x.write=true) {a:Addr} (ha:x.loc=.cell a):¬ S.cells a:=by
 obtain ⟨loc,wr,sy⟩:=e;cases loc with
 | mark m =>
  have:=he.2.2.1 m rfl
  cases m<;>simp [MemAct.ofEvent,MemAct.touch?] at hx
  ·exact absurd rfl (this _).1
  ·exact absurd rfl (this _).2
 | obj r =>
  cases wr<;>cases sy<;>simp [MemAct.ofEvent,MemAct.touch?] at hx<;>(subst hx;cases ha)
 | _ =>
  simp only [MemAct.ofEvent,MemAct.touch?,Option.some.injEq] at hx;subst hx;exact he.1 hw a ha
theorem Tk.own (C:Tk P B Ch h d T gs w q) {a a':Goroutine} {w':World} {es:Array Event} (ha:gs[h]? = some a) (hes:∀ e∈es,EvT (UE Ch h) B e) (hst:UU (UE Ch h) w w') :
 Tk P B Ch h (deafBehind d es) (T ++ MemOp.ofEvents h a.frame.fn a.frame.place es) ((gs.map (woken P a a' w')).setIfInBounds h a') w' q∧((gs.map (woken P a a' w')).setIfInBounds h a')[h]? = some a':=by
 have hlt:h < gs.size:=(Array.getElem?_eq_some_iff.1 ha).1;have hops:∀ op∈MemOp.ofEvents h a.frame.fn a.frame.place es,op.g=h:=fun op hop=>by obtain ⟨e,_,rfl⟩:=Go.Conc.mem_ofEvents hop;rfl
 have C':Tk P B Ch h d T gs w' q:=⟨C.rest,fun i s hi e=>by
  obtain ⟨p1,p2,k,hk⟩:=C.chan i s hi e;exact ⟨p1,p2,k,hst.objs _ _ ⟨i,s,hi,e,rfl⟩ hk (fun _ _ _ z=>by cases z)⟩,C.inj,fun i s hi e a v hv=>hst.cells _ _ ⟨i,s,v,hi,e,hv⟩ (C.keep i s hi e a v hv),C.above,C.deaf,C.hist⟩
 refine ⟨⟨fun x y hx hy=>?_,fun i s hi e=>?_,C.inj,C'.keep,fun j hj=>?_,?_,?_⟩,Array.getElem?_setIfInBounds_self_of_lt (by simpa using hlt)⟩
 ·rw [Array.getElem?_setIfInBounds_ne (fun e=>hx e.symm),Array.getElem?_map] at hy
  obtain ⟨y₀,hy₀,rfl⟩:=Option.map_eq_some_iff.1 hy;have hwk:woken P a a' w' y₀=y₀:=by
   unfold woken
   split
   ·exact C'.fixed hx hy₀
   ·rfl
  rw [hwk];have hr:=C.rest x y₀ hx hy₀;cases es':Ch x with
  | none=>rw [es'] at hr;exact ⟨hr.1,by rw [Deaf_other T (fun z=>hx z.symm) _ hops];exact hr.2⟩
  | some s=>rw [es'] at hr;exact hr
 ·obtain ⟨p1,p2,p3⟩:=C'.chan i s hi e
  exact ⟨by simpa using p1,p2,p3⟩
 ·simp only [Array.size_setIfInBounds,Array.size_map] at hj
  rw [Deaf_other T (g':=h) (by omega) _ hops];exact C.above j hj
 ·rw [Deaf_own,C.deaf]
 ·refine C.hist.own hops (fun op hop b hb hwr g hg hs=>?_) C.notLoose (fun op hop=>by obtain ⟨e,he,rfl⟩:=Go.Conc.mem_ofEvents hop;exact (hes e he).2.2.2)
  obtain ⟨e,he,rfl⟩:=Go.Conc.mem_ofEvents hop;obtain ⟨s,hse,a₁,v₁,hl,hk⟩:=hs;exact V2 (hes e he) hb hwr hl ⟨g,s,v₁,hg.1,hse,hk⟩
theorem Tk.setH (C:Tk P B Ch h d T gs w q) (x:Goroutine) (hlt:h < gs.size) {fn:FuncId} {pos:String} {es:Array Event} (hes:∀ e∈es,EvG (UE Ch h) B e):Tk P B Ch h d (T ++ MemOp.ofEvents h fn pos es) (gs.setIfInBounds h x) w q:=by
 have hops:∀ op∈MemOp.ofEvents h fn pos es,op.g=h:=fun op hop=>by obtain ⟨e,_,rfl⟩:=Go.Conc.mem_ofEvents hop;rfl
 refine ⟨fun y g hy hg=>?_,fun i s hi e=>?_,C.inj,C.keep,fun j hj=>?_,?_,?_⟩
 ·rw [Array.getElem?_setIfInBounds_ne (fun e=>hy e.symm)] at hg
  have hr:=C.rest y g hy hg;cases e:Ch y with
  | none=>rw [e] at hr;exact ⟨hr.1,by rw [Deaf_other T (fun z=>hy z.symm) _ hops];exact hr.2⟩
  | some s=>rw [e] at hr;exact hr
 ·obtain ⟨p1,p2,p3⟩:=C.chan i s hi e
  exact ⟨by simpa using p1,p2,p3⟩
 ·simp only [Array.size_setIfInBounds] at hj
  rw [Deaf_other T (g':=h) (by omega) _ hops];exact C.above j hj
 ·rw [Deaf_own,EvG.still hes,C.deaf]
 ·refine C.hist.own hops (fun op hop b hb hwr g hg hs=>?_) C.notLoose (fun op hop=>by obtain ⟨e,he,rfl⟩:=Go.Conc.mem_ofEvents hop;exact (hes e he).2.2.2)
  obtain ⟨e,he,rfl⟩:=Go.Conc.mem_ofEvents hop;obtain ⟨s,hse,a₁,v₁,hl,hk⟩:=hs;exact V2 (hes e he).evT hb hwr hl ⟨g,s,v₁,hg.1,hse,hk⟩
structure XbN (B:Nat) (Ch:Nat→Option XL) (h:Nat) (w:World) (s:XL):Prop where
 low:s.c < B
 open_:∃ k,w.heap[s.c]? = some (.chan 0 #[] false k k false)
 own:∀ i s',i≠h→Ch i=some s'→s'.c≠s.c
 keep:s.K w
theorem Tk.pass (C:Tk P B Ch h 0 T gs w q) {j k:Nat} {s:XL} (hjh:j≠h) (hj:Ch j=some s) (hc:w.heap[s.c]? = some (.chan 0 #[] false k k false)) {gs':Array Goroutine} {T':Trace} {H':Goroutine} (hsz:gs'.size=gs.size)
 (hlt:h < gs.size) (hoth:∀ x,x≠h→x≠j→gs'[x]? = gs[x]?) (hH:gs'[h]? = some H') (hDeaf:∀ x,Deaf T' x=Deaf T x) {new:Option XL} (hnew:∀ s',new=some s'→XbN B Ch h w s') {nh:Nat} (hafter:Rest P B T' h nh H' new)
 (hhist:QE (XdJ (upd Ch h new)) (Ze (upd Ch h new) j) B j T') :
 Tk P B (upd Ch h new) j 0 T' gs' (w.setChan s.c 0 #[] false (k + 1) (k + 1) false) (upd q h nh):=by
 have hcell:∀ a v,w.cell? a=some v→(w.setChan s.c 0 #[] false (k + 1) (k + 1) false).cell? a=some v:=fun a v hv=>by
  unfold World.cell? at hv ⊢
  by_cases e:s.c=a.block
  ·rw [← e,hc] at hv;cases hv
  ·rw [heap_setChan_ne w _ _ _ _ _ _ e];exact hv
 refine ⟨fun x y hx hy=>?_,fun i s' hi e=>?_,fun i i' s₁ s₂ hi hi' e₁ e₂ hcc=>?_,fun i s' hi e a v hv=>hcell a v ?_,fun x hx=>by rw [hDeaf];exact C.above x (by omega),by rw [hDeaf];exact C.hist.hears j ⟨hjh,by rw [hj];rfl⟩,hhist⟩
 ·by_cases e:x=h
  ·subst e
   rw [hH] at hy;obtain rfl:=Option.some.inj hy;rw [upd_same,upd_same];exact hafter
  ·rw [hoth x e hx] at hy
   rw [upd_ne q nh e,upd_ne Ch new e];have hr:=C.rest x y e hy;cases es:Ch x with
   | none=>rw [es] at hr;exact ⟨hr.1,by rw [hDeaf];exact hr.2⟩
   | some s'=>rw [es] at hr;exact hr
 ·have hop:∀ k',w.heap[s'.c]? = some (.chan 0 #[] false k' k' false)→∃ k',(w.setChan s.c 0 #[] false (k + 1) (k + 1) false).heap[s'.c]? = some (.chan 0 #[] false k' k' false):=fun k' hk'=>by
   by_cases ec:s.c=s'.c
   ·exact ⟨k + 1,by rw [← ec];exact heap_setChan_self w hc _ _ _ _ _ _⟩
   ·exact ⟨k',by rw [heap_setChan_ne w _ _ _ _ _ _ ec];exact hk'⟩
  by_cases ei:i=h
  ·subst ei
   rw [upd_same] at e;obtain ⟨k',hk'⟩:=(hnew s' e).open_;exact ⟨by omega,(hnew s' e).low,hop k' hk'⟩
  ·rw [upd_ne Ch new ei] at e
   obtain ⟨p1,p2,k',hk'⟩:=C.chan i s' ei e;exact ⟨by omega,p2,hop k' hk'⟩
 ·by_cases e1:i=h<;>by_cases e2:i'=h
  ·rw [e1,e2]
  ·subst e1;rw [upd_same] at e₁;rw [upd_ne Ch new e2] at e₂
   exact absurd hcc.symm ((hnew s₁ e₁).own i' s₂ e2 e₂)
  ·subst e2;rw [upd_same] at e₂;rw [upd_ne Ch new e1] at e₁
   exact absurd hcc ((hnew s₂ e₂).own i s₁ e1 e₁)
  ·rw [upd_ne Ch new e1] at e₁;rw [upd_ne Ch new e2] at e₂
   exact C.inj i i' s₁ s₂ e1 e2 e₁ e₂ hcc
 ·by_cases ei:i=h
  ·subst ei;rw [upd_same] at e;exact (hnew s' e).keep a v hv
  ·rw [upd_ne Ch new ei] at e;exact C.keep i s' ei e a v hv
theorem Tk.give {a a₂:Goroutine} {j:Nat} {s:XL} {v z':Value} {es:Array Event} {sl:Option (Nat × Nat)} (C:Tk P B Ch h 0 T gs w q) (hjh:j≠h) (hj:Ch j=some s) (ha:gs[h]? = some a) (hrun:a.status=.running)
 (hsend:∀ n,stepG P (h == 0) a (w.at n)=.comm a₂ #[scase s.c v z'] true .send (w.at n) es) (hes:∀ e∈es,EvG (UE Ch h) B e) {new:Option XL} (hnew:∀ s',new=some s'→XbN B Ch h w s')
 {nh:Nat} (hafter:∀ T',Deaf T' h=0→Rest P B T' h nh (Go.Conc.served a₂ undef) new) :
 ∃ (N:Nat) (gs':Array Goroutine) (g₂:Goroutine) (n k:Nat) (sl':Option (Nat × Nat)) (T':Trace) (q':Nat→Nat),runNT P N (crowd gs w sl) T=(.next (crowd gs' ((w.at n).setChan s.c 0 #[] false (k + 1) (k + 1) false) sl'),T')∧gs'.size=gs.size ∧
  gs'[j]? = some (Go.Conc.served g₂ v)∧s.home g₂∧w.heap[s.c]? = some (.chan 0 #[] false k k false)∧Tk P B (upd Ch h new) j 0 T' gs' ((w.at n).setChan s.c 0 #[] false (k + 1) (k + 1) false) q':=by
 obtain ⟨hjlt,hcB,k,hc⟩:=C.chan j s hjh hj;obtain ⟨N,m',T',hr,gs',g₂,n,sl',q',rfl,hsz,hJ,hhome,C'⟩:=runs_until (P:=P)
  (Inv:=fun μ m t=>(∃ (gs':Array Goroutine) (g₂:Goroutine) (n:Nat) (sl':Option (Nat × Nat)) (q':Nat→Nat),m=crowd gs' ((w.at n).setChan s.c 0 #[] false (k + 1) (k + 1) false) sl'∧gs'.size=gs.size∧gs'[j]? = some (Go.Conc.served g₂ v)∧s.home g₂ ∧
    Tk P B (upd Ch h new) j 0 t gs' ((w.at n).setChan s.c 0 #[] false (k + 1) (k + 1) false) q') ∨
    ∃ gs₁ n sl₁ q₁,∃ pk:Bool,m=crowd gs₁ (w.at n) sl₁∧gs₁.size=gs.size∧gs₁[h]? = some (if pk then parked a₂ #[scase s.c v z'] .send else a) ∧
    Tk P B Ch h 0 t gs₁ (w.at n) q₁∧(pk=true→0 < q₁ j)∧μ=sumTo gs₁.size q₁ + (if pk then 0 else 1))
  (Done:=fun m t=>∃ (gs':Array Goroutine) (g₂:Goroutine) (n:Nat) (sl':Option (Nat × Nat)) (q':Nat→Nat),m=crowd gs' ((w.at n).setChan s.c 0 #[] false (k + 1) (k + 1) false) sl'∧gs'.size=gs.size∧gs'[j]? = some (Go.Conc.served g₂ v)∧s.home g₂ ∧
    Tk P B (upd Ch h new) j 0 t gs' ((w.at n).setChan s.c 0 #[] false (k + 1) (k + 1) false) q')
  (fun μ m t hInv=>by
    rcases hInv with hdone|⟨gs₁,n,sl₁,q₁,pk,rfl,hsz,ha₁,C₁,hpk,hμ⟩
    ·exact .inl hdone
    refine .inr ?_;obtain ⟨gj,hgj⟩:∃ gj,gs₁[j]? = some gj:=⟨gs₁[j]'(by omega),Array.getElem?_eq_getElem (by omega)⟩
    have hlth:h < gs₁.size:=(Array.getElem?_eq_some_iff.1 ha₁).1;have hSj:XbK P B j s (q₁ j) gj:=by have:=C₁.rest j gj hjh hgj;rwa [hj] at this
    have hsome:∃ (i:Nat) (g:Goroutine),gs₁[i]? = some g∧g.status=.running:=by
     cases pk with
     | false=>exact ⟨h,a,ha₁,hrun⟩
     | true=>exact ⟨j,gj,hgj,(XbK.status (C₁.keep j s hjh hj) hSj).elim (·.1) (fun z=>by have:=hpk rfl;omega)⟩
    obtain ⟨i,g,n',sl',hi,hg,hst⟩:=crowd_pick (P:=P) (w:=w.at n) (sl:=sl₁) (C₁.awake ha₁ (by cases pk<;>simp [hrun,parked])) hsome;rw [at_at'] at hst;have Cd:Tk P B Ch h 0 t gs₁ (w.at n') q₁:=C₁.at n';have hcd:(w.at n').heap[s.c]? = some (.chan 0 #[] false k k false):=hc;have fin:∀ (gs':Array Goroutine) (ops₀:Array MemOp) (g₂:Goroutine),gs'.size=gs₁.size→(∀ x,x≠h→x≠j→gs'[x]? = gs₁[x]?)→gs'[h]? = some (Go.Conc.served a₂ undef)→gs'[j]? = some (Go.Conc.served g₂ v)→s.home g₂ →
     QE (XdJ Ch) (Ze Ch h) B h (t ++ ops₀)→(∀ x,Deaf (t ++ ops₀) x=Deaf t x) →
     (∃ (gs'':Array Goroutine) (g₃:Goroutine) (n₁:Nat) (sl'':Option (Nat × Nat)) (q':Nat→Nat),crowd gs' ((w.at n').setChan s.c 0 #[] false (k + 1) (k + 1) false) sl'=crowd gs'' ((w.at n₁).setChan s.c 0 #[] false (k + 1) (k + 1) false) sl''∧gs''.size=gs.size ∧
       gs''[j]? = some (Go.Conc.served g₃ v)∧s.home g₃∧Tk P B (upd Ch h new) j 0 (t ++ (ops₀ ++ met h j a₂.frame.fn a₂.frame.place g₂.frame.fn g₂.frame.place s.c k 0)) gs'' ((w.at n₁).setChan s.c 0 #[] false (k + 1) (k + 1) false) q'):=by
     intro gs' ops₀ g₂ hsz' hoth hH hJ hhome p1 hD0;have hDeaf:∀ x,Deaf (t ++ (ops₀ ++ met h j a₂.frame.fn a₂.frame.place g₂.frame.fn g₂.frame.place s.c k 0)) x=Deaf t x:=fun x=>by rw [← Array.append_assoc,Deaf_quiet (met_quiet _ _ _ _ _ _ _ _ _ x),hD0]
     have p2:=p1.give (j:=j) (Sl':=XdJ (upd Ch h new)) (Loose':=Ze (upd Ch h new) j) (by rw [hD0];exact C₁.deaf) ⟨hjh,by rw [hj];rfl⟩ (fun g hgh _=>by funext l;simp only [XdJ,upd_ne Ch new hgh])
      (fun l hl=>by obtain ⟨s',_,hs'⟩:=hl;exact hs'.mem) C₁.notLoose (fun g hgh=>by simp only [Ze,upd_ne Ch new hgh,hgh,ne_eq,not_false_eq_true,true_and];exact And.comm) a₂.frame.fn a₂.frame.place g₂.frame.fn g₂.frame.place k 0 hcB
     rw [Array.append_assoc] at p2;exact ⟨gs',g₂,n',sl',upd q₁ h nh,rfl,hsz'.trans hsz,hJ,hhome,Tk.pass Cd hjh hj hcd hsz' hlth hoth hH hDeaf (fun s' e=>⟨(hnew s' e).low,(hnew s' e).open_,(hnew s' e).own,(hnew s' e).keep⟩) (hafter _ (by rw [hDeaf];exact C₁.deaf)) p2⟩
    have hμpos:0 < μ:=by
     cases pk with
     | false=>simp at hμ;omega
     | true =>
      have h1:=hpk rfl;have h2:q₁ j≤sumTo gs₁.size q₁:=Go.ConcN.le_sumTo (f:=q₁) (by omega);simp at hμ;omega
    by_cases e:i=h
    ·subst e
     cases pk with
     | true=>rw [ha₁] at hi;obtain rfl:=Option.some.inj hi;cases hg
     | false =>
      obtain rfl:g=a:=by rw [ha₁] at hi;exact (Option.some.inj hi).symm
      have Ch1:=Cd.setH (fn:=g.frame.fn) (pos:=g.frame.place) g hlth hes;have hops:∀ op∈MemOp.ofEvents i g.frame.fn g.frame.place es,op.g=i:=fun op hop=>by obtain ⟨e,_,rfl⟩:=Go.Conc.mem_ofEvents hop;rfl
      have hoff:∀ (x:Nat) (y:Goroutine),x≠j→(gs₁.setIfInBounds i ph)[x]? = some y→offersAt y s.c false = []:=by
       intro x y hxj hy;rcases getElem?_stand gs₁ i x y hy with ⟨_,rfl⟩|⟨hx,hy'⟩
       ·exact offersAt_ph _ _
       ·exact Cd.noRecv hx hy' fun s' hs' hcc=>hxj (C₁.inj x j s' s hx hjh hs' hj hcc)
      obtain ⟨B₀,hB₀,hSj⟩:=hSj;rcases hSj with ⟨kk,w₀,hq,hG⟩|⟨hq0,g₀,g₂,rfl,hat⟩
      ·have hjr:gj.status=.running:=(Sits.status (C₁.keep j s hjh hj) (.inl ⟨kk,w₀,hq,hG⟩)).elim (·.1) (fun z=>by omega)
       have hp:partners (gs₁.setIfInBounds i ph) s.c false = []:=partners_nil fun x y hy=>by
        by_cases hxj:x=j
        ·subst hxj
         rw [stand_get hjh hgj] at hy;obtain rfl:=Option.some.inj hy;exact offersAt_of_not_blocked (by rw [hjr];simp) _ _
        ·exact hoff x y hxj hy
       have hw:∀ cc∈#[scase s.c v z'],NoWays (w.at n') (gs₁.setIfInBounds i ph) cc:=by
        intro cc hcc;simp only [List.mem_toArray,List.mem_cons,List.not_mem_nil,or_false] at hcc;subst hcc;exact ways_send_none hcd (Nat.le_refl _) hp
       exact ⟨_,_,sumTo gs₁.size q₁ + 0,by rw [hst];exact crowd_waits (sl:=sl') hi (hsend n') hw,by simp at hμ;omega,.inr ⟨_,n',sl',q₁,true,rfl,by simpa using hsz,Array.getElem?_setIfInBounds_self_of_lt hlth,Cd.setH _ hlth hes,fun _=>by omega,by simp⟩⟩
      ·have hp:partners (gs₁.setIfInBounds i ph) s.c false = [(j,0)]:=by
        rw [partners_one (stand_get hjh hgj) fun x y hxj hy=>hoff x y hxj hy];show (offersAt (parked g₂ #[rcase s.c s.z] _) s.c false).map _=_;rw [offersAt_parked_recv,if_pos rfl]
        rfl
       refine ⟨_,_,0,by rw [hst];exact crowd_send_meets (sl:=sl') hi (hsend n') hcd hjh hgj hp,hμpos,.inl ?_⟩;exact fin _ _ g₂ (by simp) (fun x hx hxj=>by rw [Array.getElem?_setIfInBounds_ne (fun z=>hx z.symm),Array.getElem?_setIfInBounds_ne (fun z=>hxj z.symm)]) (Array.getElem?_setIfInBounds_self_of_lt (by simpa using hlth))
        (by rw [Array.getElem?_setIfInBounds_ne (fun z=>hjh z.symm),Array.getElem?_setIfInBounds_self_of_lt (by omega)];rfl) hat.2.2.2.2.1 (by have:=Ch1.hist;exact this)
        (fun x=>by
          by_cases ex:x=i
          ·subst ex;rw [Deaf_own,EvG.still hes]
          ·exact Deaf_other t (fun z=>ex z.symm) _ hops)
    ·by_cases ej:i=j∧pk=true∧∃ g₂,AtC P B i s g g₂
     ·obtain ⟨rfl,rfl,g₂,B₀,hB₀,hat⟩:=ej
      obtain ⟨_,_,_,_,hhome,esj,hesj,hstp⟩:=hat;obtain ⟨hops,hrd,hl,hd⟩:=evC_ops (i:=i) (fn:=g.frame.fn) (pos:=g.frame.place) hesj;have hp:partners (gs₁.setIfInBounds i ph) s.c true = [(h,0)]:=by
       rw [partners_one (stand_get (Ne.symm hjh) ha₁) fun x y hxh hy=>by
        rcases getElem?_stand gs₁ i x y hy with ⟨_,rfl⟩|⟨_,hy'⟩
        ·exact offersAt_ph _ _
        ·exact Cd.noSend hxh hy' _]
       simp [offersAt_parked_send]
      refine ⟨_,_,0,by rw [hst];exact crowd_recv_meets (sl:=sl') hi (hstp _ (Cd.keep i s hjh hj)) hcd (Ne.symm hjh) ha₁ hp,hμpos,.inl ?_⟩;exact fin _ _ g₂ (by simp) (fun x hx hxj=>by rw [Array.getElem?_setIfInBounds_ne (fun z=>hxj z.symm),Array.getElem?_setIfInBounds_ne (fun z=>hx z.symm)])
       (by rw [Array.getElem?_setIfInBounds_ne hjh,Array.getElem?_setIfInBounds_self_of_lt hlth,finishComm_send]) (by rw [Array.getElem?_setIfInBounds_self_of_lt (by simp;omega)];rfl) hhome
       (C₁.hist.read ⟨hjh,by rw [hj];rfl⟩ hops (fun op hop b hb=>⟨(hrd op hop b hb).1,s,hj,(hrd op hop b hb).2⟩) (fun _=>hd t) (fun op hop=>MemAct.low_mono hB₀ (hl op hop)))
       (fun x=>by
         by_cases ex:x=i
         ·subst ex;exact hd t
         ·exact Deaf_other t (fun z=>ex z.symm) _ hops)
     ·obtain ⟨gs',ops,q',hrt,hsz',hsp,hqo,hq0,C',hlt⟩:=Cd.by_step (sl:=sl') hi e hg ha₁
       (by cases pk with
         | false=>exact again_of_running (.inl hrun) _
         | true=>exact again_send_open hcd)
       (fun s' g₂ hs' hat=>by
         cases pk with
         | false=>exact offersAt_of_not_blocked (by simp [hrun]) _ _
         | true =>
          simp only [if_true];rw [offersAt_parked_send,if_neg];intro ec;have hij:i=j:=C₁.inj i j s' s e hjh hs' hj ec.symm;subst hij;rw [hj] at hs';obtain rfl:=Option.some.inj hs';exact ej ⟨rfl,rfl,g₂,hat⟩)
      refine ⟨_,_,sumTo gs'.size q' + (if pk then 0 else 1),by rw [hst];exact hrt,by rw [hsz'];omega,.inr ⟨gs',n',sl',q',pk,rfl,hsz'.trans hsz,by rw [hsp];exact ha₁,C',fun hp=>?_,rfl⟩⟩;subst hp
      by_cases hij:j=i
      ·subst hij
       rcases Nat.eq_zero_or_pos (q' j) with h0|h0
       ·obtain ⟨g₂,hat⟩:=hq0 s hj h0
        exact absurd ⟨rfl,rfl,g₂,hat⟩ ej
       ·exact h0
      ·rw [hqo j hij];exact hpk rfl)
  _ _ T (.inr ⟨gs,w.drawn,sl,q,false,rfl,rfl,ha,C,by simp,rfl⟩)
 exact ⟨N,gs',g₂,n,k,sl',T',q',hr,hsz,hJ,hhome,hc,C'⟩

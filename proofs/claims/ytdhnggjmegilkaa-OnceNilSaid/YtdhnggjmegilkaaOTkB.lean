/- A machine of goroutines of which one holds the token; every other only leaves, or has a chair: a channel of its own, without a buffer, at whose receive it is parked or to which it is on its way, reading none but cells that it keeps. -/
import Derived.Test.YtdhnggjmegilkaaOTkA
set_option linter.all false
set_option maxRecDepth 100000
set_option maxHeartbeats 16000000
namespace Go.Proofs.Ytdhnggjmegilkaa
open Go.Conc
open Go.ConcN (sumTo upd sumTo_upd upd_ne upd_same)
structure XL where
 c:Nat
 z:Value
 kn:Addr→Value→Prop
 home:Goroutine→Prop
def XL.seat (s:XL):Seat:=Seat.one s.c s.z false s.home
def XL.K (s:XL) (w:World):Prop:=∀ a v,s.kn a v→w.cell? a=some v
def XL.Sl (s:XL) (l:Loc):Prop:=∃ a v,l=.cell a∧s.kn a v
theorem XL.Sl.mem {s:XL} {l:Loc} (h:s.Sl l):l.isMemory=true:=by obtain ⟨a,v,rfl,_⟩:=h;rfl
def XdJ (Ch:Nat→Option XL) (g:Nat) (l:Loc):Prop:=∃ s,Ch g=some s∧s.Sl l
def AtC (P:Program) (B i:Nat) (s:XL) (g g₂:Goroutine):Prop:=∃ B₀,B₀≤B∧AtIn P (i == 0) s.K s.Sl B₀ s.seat g g₂
def XbK (P:Program) (B i:Nat) (s:XL) (n:Nat) (g:Goroutine):Prop:=∃ B₀,B₀≤B∧Sits P (i == 0) s.K s.Sl B₀ s.seat n g
def Rest (P:Program) (B:Nat) (T:Trace) (i n:Nat) (g:Goroutine):Option XL→Prop
 | none=>0 < i∧QuitsD P n (Deaf T i) g
 | some s=>XbK P B i s n g
def Ze (Ch:Nat→Option XL) (h g:Nat):Prop:=g≠h∧(Ch g).isSome=true
structure Tk (P:Program) (B:Nat) (Ch:Nat→Option XL) (h d:Nat) (T:Trace) (gs:Array Goroutine) (w:World) (q:Nat→Nat):Prop where
 rest:∀ i g,i≠h→gs[i]? = some g→Rest P B T i (q i) g (Ch i)
 chan:∀ i s,i≠h→Ch i=some s→i < gs.size∧s.c < B∧∃ k,w.heap[s.c]? = some (.chan 0 #[] false k k false)
 inj:∀ i j s s',i≠h→j≠h→Ch i=some s→Ch j=some s'→s.c=s'.c→i=j
 keep:∀ i s,i≠h→Ch i=some s→s.K w
 above:∀ j,gs.size≤j→Deaf T j=0
 deaf:Deaf T h=d
 hist:QE (XdJ Ch) (Ze Ch h) B h T
section
variable {P:Program} {B:Nat} {Ch:Nat→Option XL} {h d:Nat} {T:Trace} {gs:Array Goroutine} {w:World} {q:Nat→Nat}
theorem XbK.status {i n:Nat} {s:XL} {g:Goroutine} (hK:s.K w) (hs:XbK P B i s n g):(g.status=.running∧0 < n)∨(g.status=.blocked∧n=0):=by
 obtain ⟨_,_,hs⟩:=hs;exact Sits.status hK hs
theorem XbK.again {i n k:Nat} {s:XL} {g:Goroutine} (hK:s.K w) (hs:XbK P B i s n g) (hc:w.heap[s.c]? = some (.chan 0 #[] false k k false)):g.again w=g:=by
 obtain ⟨_,_,hs⟩:=hs;exact Sits.again hK hs (Seat.one_wf _ _ _ _) fun c hcc=>by rw [Seat.one_has.1 hcc];exact ⟨_,_,_,_,_,hc⟩
theorem Rest.mono {B' i n:Nat} {g:Goroutine} {c:Option XL} (hB:B≤B') (hr:Rest P B T i n g c):Rest P B' T i n g c:=by
 cases c with
 | none=>exact hr
 | some s=>obtain ⟨B₀,h1,h2⟩:=hr;exact ⟨B₀,Nat.le_trans h1 hB,h2⟩
theorem Tk.mono {B':Nat} (C:Tk P B Ch h d T gs w q) (hB:B≤B'):Tk P B' Ch h d T gs w q :=
 ⟨fun i g hi hg=>(C.rest i g hi hg).mono hB,fun i s hi e=>by obtain ⟨a,b,c⟩:=C.chan i s hi e;exact ⟨a,Nat.lt_of_lt_of_le b hB,c⟩,C.inj,C.keep,C.above,C.deaf,C.hist.mono hB⟩
theorem Tk.at (C:Tk P B Ch h d T gs w q) (n:Nat):Tk P B Ch h d T gs (w.at n) q:=⟨C.rest,C.chan,C.inj,C.keep,C.above,C.deaf,C.hist⟩
theorem Tk.fixed (C:Tk P B Ch h d T gs w q) {x:Nat} {y:Goroutine} (hx:x≠h) (hy:gs[x]? = some y):y.again w=y:=by
 have hr:=C.rest x y hx hy;cases e:Ch x with
 | none=>rw [e] at hr;exact again_running _ hr.2.status
 | some s=>rw [e] at hr;obtain ⟨_,_,k,hk⟩:=C.chan x s hx e;exact XbK.again (C.keep x s hx e) hr hk
theorem Tk.noSend (C:Tk P B Ch h d T gs w q) {x:Nat} {y:Goroutine} (hx:x≠h) (hy:gs[x]? = some y) (c:Nat):offersAt y c true = []:=by
 have hr:=C.rest x y hx hy;cases e:Ch x with
 | none =>
  rw [e] at hr;exact offersAt_of_not_blocked (fun hb=>by rcases hr.2.status with z|z<;>rw [z] at hb<;>cases hb) c true
 | some s =>
  rw [e] at hr;obtain ⟨B₀,_,hs⟩:=hr;rcases hs with ⟨k,w₀,hq,hg⟩|⟨_,_,g₂,rfl,_⟩
  ·have:=(Sits.status (C.keep x s hx e) (.inl ⟨k,w₀,hq,hg⟩)).elim (·.1) (fun z=>by omega)
   exact offersAt_of_not_blocked (fun hb=>by rw [this] at hb;cases hb) c true
  ·exact offersAt_parked_recv' _ _ _ _ _
theorem Tk.noRecv (C:Tk P B Ch h d T gs w q) {x:Nat} {y:Goroutine} (hx:x≠h) (hy:gs[x]? = some y) {c:Nat} (hc:∀ s,Ch x=some s→s.c≠c):offersAt y c false = []:=by
 have hr:=C.rest x y hx hy;cases e:Ch x with
 | none =>
  rw [e] at hr;exact offersAt_of_not_blocked (fun hb=>by rcases hr.2.status with z|z<;>rw [z] at hb<;>cases hb) c false
 | some s =>
  rw [e] at hr;obtain ⟨B₀,_,hs⟩:=hr;rcases hs with ⟨k,w₀,hq,hg⟩|⟨_,_,g₂,rfl,_⟩
  ·have:=(Sits.status (C.keep x s hx e) (.inl ⟨k,w₀,hq,hg⟩)).elim (·.1) (fun z=>by omega)
   exact offersAt_of_not_blocked (fun hb=>by rw [this] at hb;cases hb) c false
  ·show offersAt (parked g₂ #[rcase s.c s.z] _) c false = []
   rw [offersAt_parked_recv,if_neg (hc s e)]
theorem Tk.awake (C:Tk P B Ch h d T gs w q) {a:Goroutine} (ha:gs[h]? = some a) (hs:a.status=.running∨a.status=.blocked):∀ g∈gs,awake g:=by
 intro g hg;obtain ⟨i,hi,rfl⟩:=Array.mem_iff_getElem.1 hg
 by_cases e:i=h
 ·subst e
  have:gs[i] = a:=by simpa [Array.getElem?_eq_getElem hi] using ha
  rw [this];exact awake_of (hs.elim .inl fun x=>.inr (.inl x))
 ·have hr:=C.rest i _ e (Array.getElem?_eq_getElem hi)
  cases es:Ch i with
  | none=>rw [es] at hr;exact awake_of (hr.2.status.elim .inl fun x=>.inr (.inr x))
  | some s=>rw [es] at hr;exact awake_of ((XbK.status (C.keep i s e es) hr).elim (fun x=>.inl x.1) fun x=>.inr (.inl x.1))
theorem Tk.notLoose (_C:Tk P B Ch h d T gs w q):¬ Ze Ch h h:=fun z=>z.1 rfl
theorem Tk.put (C:Tk P B Ch h d T gs w q) {i n':Nat} {g':Goroutine} {ops:Array MemOp} {gs':Array Goroutine} (hlt:i < gs.size) (hih:i≠h) (hsz:gs'.size=gs.size) (hother:∀ x,x≠i→gs'[x]? = gs[x]?) (hself:gs'[i]? = some g')
 (hops:∀ op∈ops,op.g=i) (hrest:Rest P B (T ++ ops) i n' g' (Ch i)) (hh:QE (XdJ Ch) (Ze Ch h) B h (T ++ ops)):Tk P B Ch h d (T ++ ops) gs' w (upd q i n'):=by
 refine ⟨fun x y hx hy=>?_,fun x s hx e=>by rw [hsz];exact C.chan x s hx e,C.inj,C.keep,fun j hj=>?_,?_,hh⟩
 ·by_cases e:x=i
  ·subst e
   rw [hself] at hy;obtain rfl:=Option.some.inj hy;rw [upd_same];exact hrest
  ·rw [hother x e] at hy
   rw [upd_ne q n' e];have hr:=C.rest x y hx hy;cases es:Ch x with
   | none=>rw [es] at hr;exact ⟨hr.1,by rw [Deaf_other T (fun z=>e z.symm) ops hops];exact hr.2⟩
   | some s=>rw [es] at hr;exact hr
 ·rw [Deaf_other T (g':=i) (by omega) ops hops]
  exact C.above j (by omega)
 ·rw [Deaf_other T (g':=i) hih ops hops];exact C.deaf
theorem Tk.by_step (C:Tk P B Ch h d T gs w q) {i:Nat} {g gh:Goroutine} {sl:Option (Nat × Nat)} (hi:gs[i]? = some g) (hih:i≠h) (hrun:g.status=.running) (hgh:gs[h]? = some gh) (hag:gh.again w=gh)
 (hO:∀ s g₂,Ch i=some s→AtC P B i s g g₂→offersAt gh s.c true = []) :
 ∃ (gs':Array Goroutine) (ops:Array MemOp) (q':Nat→Nat),runT P (crowd gs w sl) i=(.next (crowd gs' w sl),ops)∧gs'.size=gs.size∧gs'[h]? = gs[h]?∧(∀ x,x≠i→q' x=q x)∧(∀ s,Ch i=some s→q' i=0→∃ g₂,AtC P B i s g g₂) ∧
  Tk P B Ch h d (T ++ ops) gs' w q'∧sumTo gs.size q' < sumTo gs.size q:=by
 have hlt:i < gs.size:=(Array.getElem?_eq_some_iff.1 hi).1;have hfix:∀ (a a':Goroutine) (x:Nat) (y:Goroutine),gs[x]? = some y→woken P a a' w y=y:=fun a a' x y hy=>by
  have:y.again w=y:=by
   by_cases hx:x=h
   ·subst hx;rw [hgh] at hy;obtain rfl:=Option.some.inj hy;exact hag
   ·exact C.fixed hx hy
  unfold woken
  split
  ·exact this
  ·rfl
 have harr:∀ (a' g':Goroutine) (x:Nat),x≠i→((gs.map (woken P g a' w)).setIfInBounds i g')[x]? = gs[x]?:=by
  intro a' g' x hx;rw [Array.getElem?_setIfInBounds_ne (fun e=>hx e.symm),Array.getElem?_map];cases e:gs[x]? with
  | none=>rfl
  | some y=>simp [hfix g a' x y e]
 have hself:∀ (a' g':Goroutine),((gs.map (woken P g a' w)).setIfInBounds i g')[i]? = some g':=fun a' g'=>Array.getElem?_setIfInBounds_self_of_lt (by simpa using hlt);have hsum:∀ k,q i=k + 1→sumTo gs.size (upd q i k) < sumTo gs.size q:=by
  intro k hqi;have h2:sumTo gs.size (upd q i k) + (k + 1)=sumTo gs.size q + k:=by
   have:=sumTo_upd q k id hlt
   simpa [hqi] using this
  omega
 have hr:=C.rest i g hih hi;cases e:Ch i with
 | none =>
  rw [e] at hr;obtain ⟨hpos,hq⟩:=hr;have hi0:(i == 0)=false:=by simp;omega
  cases hqi:q i with
  | zero=>rw [hqi] at hq;rw [hq.1] at hrun;cases hrun
  | succ k =>
   rw [hqi] at hq;rcases hq with ⟨hf,_⟩|⟨_,g',es,hm,hstp,hq'⟩
   ·rw [hf] at hrun;cases hrun
   have hops:∀ op∈MemOp.ofEvents i g.frame.fn g.frame.place es,op.g=i:=fun op hop=>by obtain ⟨e,_,rfl⟩:=Go.Conc.mem_ofEvents hop;rfl
   refine ⟨_,_,upd q i k,runT_crowd_go (sl:=sl) hi (by rw [hi0];exact hstp w),by simp,harr _ _ h (fun z=>hih z.symm),fun x hx=>upd_ne q k hx,fun s hs _=>(by cases hs),?_,hsum k hqi⟩;refine C.put hlt hih (by simp) (harr _ _) (hself _ _) hops (by rw [e];exact ⟨hpos,by rw [Deaf_own];exact hq'⟩) ?_;exact C.hist.mute hops (fun op hop=>by obtain ⟨e,he,rfl⟩:=Go.Conc.mem_ofEvents hop;exact touch_mute (hm e he)) (fun z=>by have:=z.2;rw [e] at this;cases this) (fun op hop=>by obtain ⟨e,he,rfl⟩:=Go.Conc.mem_ofEvents hop;exact low_mute (hm e he) B)
 | some s =>
  rw [e] at hr;have hKw:=C.keep i s hih e;have hL:Ze Ch h i:=⟨hih,by rw [e];rfl⟩
  obtain ⟨B₀,hB₀,hid⟩:=hr;obtain ⟨k,w₀,hqi,hg⟩:∃ k w₀,q i=k + 1∧Goes P (i == 0) (RK s.K) (DS s.Sl B₀) (fun g _=>∃ g₂,AtIn P (i == 0) s.K s.Sl B₀ s.seat g g₂) k g w₀:=by
   rcases hid with h|⟨_,_,g₂,rfl,_⟩
   ·exact h
   ·cases hrun
  have hsl:∀ l,s.Sl l→XdJ Ch i l:=fun l hl=>⟨s,e,hl⟩
  have hcase:(∃ g₂,AtIn P (i == 0) s.K s.Sl B₀ s.seat g g₂)∨∃ k' g' es,k=k' + 1∧stepG P (i == 0) g w=.go g' w es∧(∀ e∈es,EvC s.Sl B₀ e)∧Goes P (i == 0) (RK s.K) (DS s.Sl B₀) (fun g _=>∃ g₂,AtIn P (i == 0) s.K s.Sl B₀ s.seat g g₂) k' g' w:=by
   cases k with
   | zero=>exact .inl (hg w hKw)
   | succ k' =>
    rcases hg with hstop|⟨_,hstep⟩
    ·exact .inl (hstop w hKw)
    ·have hs:=hstep w hKw
     cases hgo:stepG P (i == 0) g w with
     | go g' w' es =>
      rw [hgo,goes_go] at hs;obtain ⟨⟨rfl,hes⟩,hG'⟩:=hs;exact .inr ⟨k',g',es,rfl,rfl,hes,hG'⟩
     | _=>rw [hgo] at hs;exact hs.elim
  rcases hcase with ⟨g₂,hat⟩|⟨k',g',es,rfl,hgo,hes,hG'⟩
  ·have hsO:=hO s g₂ e ⟨B₀,hB₀,hat⟩
   obtain ⟨_,_,_,_,_,es,hes,hstp⟩:=id hat;obtain ⟨hops,hrd,hl,hdf⟩:=evC_ops (i:=i) (fn:=g.frame.fn) (pos:=g.frame.place) hes;obtain ⟨_,_,kk,hc⟩:=C.chan i s hih e;have hw:∀ cc∈s.seat.cases,NoWays w (gs.setIfInBounds i ph) cc:=by
    intro cc hcc;simp only [XL.seat,Seat.one,List.mem_toArray,List.mem_cons,List.not_mem_nil,or_false] at hcc;subst hcc;refine ways_recv_none hc (partners_nil fun x y hy=>?_);rcases getElem?_stand gs i x y hy with ⟨_,rfl⟩|⟨hx,hy'⟩
    ·exact offersAt_ph _ _
    ·by_cases hS:x=h
     ·subst hS;rw [hgh] at hy';obtain rfl:=Option.some.inj hy';exact hsO
     ·exact C.noSend hS hy' _
   refine ⟨_,_,upd q i 0,crowd_waits (sl:=sl) hi (hstp w hKw) hw,by simp,Array.getElem?_setIfInBounds_ne hih,fun x hx=>upd_ne q 0 hx,fun s' hs' _=>(by obtain rfl:=Option.some.inj hs';exact ⟨g₂,B₀,hB₀,hat⟩),?_,?_⟩
   ·refine C.put hlt hih (by simp) (fun x hx=>Array.getElem?_setIfInBounds_ne (fun z=>hx z.symm)) (Array.getElem?_setIfInBounds_self_of_lt hlt) hops (by rw [e];exact ⟨B₀,hB₀,.inr ⟨rfl,g,g₂,rfl,hat⟩⟩) ?_
    exact C.hist.read hL hops (fun op hop b hb=>⟨(hrd op hop b hb).1,hsl _ (hrd op hop b hb).2⟩) (fun _=>hdf T) (fun op hop=>MemAct.low_mono hB₀ (hl op hop))
   ·have h2:sumTo gs.size (upd q i 0) + (k + 1)=sumTo gs.size q + 0:=by
     have:=sumTo_upd q 0 id hlt
     simpa [hqi] using this
    omega
  ·obtain ⟨hops,hrd,hl,hdf⟩:=evC_ops (i:=i) (fn:=g.frame.fn) (pos:=g.frame.place) hes
   refine ⟨_,_,upd q i (k' + 1),runT_crowd_go (sl:=sl) hi hgo,by simp,harr _ _ h (fun z=>hih z.symm),fun x hx=>upd_ne q _ hx,fun s' _ h0=>(by rw [upd_same] at h0;omega),?_,hsum _ hqi⟩;refine C.put hlt hih (by simp) (harr _ _) (hself _ _) hops (by rw [e];exact ⟨B₀,hB₀,.inl ⟨k',w,rfl,hG'⟩⟩) ?_;exact C.hist.read hL hops (fun op hop b hb=>⟨(hrd op hop b hb).1,hsl _ (hrd op hop b hb).2⟩) (fun _=>hdf T) (fun op hop=>MemAct.low_mono hB₀ (hl op hop))
theorem Tk.picked {a:Goroutine} {sl:Option (Nat × Nat)} (ha:gs[h]? = some a) (hrun:a.status=.running) (C:Tk P B Ch h d T gs w q) :
 ∃ (N:Nat) (gs':Array Goroutine) (n n':Nat) (sl' sl'':Option (Nat × Nat)) (T':Trace) (q':Nat→Nat),runNT P N (crowd gs w sl) T=(.next (crowd gs' (w.at n) sl'),T') ∧
  stepT P (crowd gs' (w.at n) sl')=runT P (crowd gs' (w.at n') sl'') h∧gs'.size=gs.size∧gs'[h]? = some a∧Tk P B Ch h d T' gs' (w.at n') q':=by
 obtain ⟨N,m',T',hr,gs',n,n',sl',sl'',q',rfl,hst,hsz,ha',C'⟩:=runs_until (P:=P)
  (Inv:=fun μ m t=>∃ gs₁ n sl₁ q₁,m=crowd gs₁ (w.at n) sl₁∧gs₁.size=gs.size∧gs₁[h]? = some a∧Tk P B Ch h d t gs₁ (w.at n) q₁∧μ=sumTo gs₁.size q₁)
  (Done:=fun m t=>∃ gs₁ n n' sl₁ sl₂ q₁,m=crowd gs₁ (w.at n) sl₁∧stepT P (crowd gs₁ (w.at n) sl₁)=runT P (crowd gs₁ (w.at n') sl₂) h∧gs₁.size=gs.size∧gs₁[h]? = some a∧Tk P B Ch h d t gs₁ (w.at n') q₁)
  (fun μ m t ⟨gs₁,n,sl₁,q₁,hm,hsz,ha₁,C₁,hμ⟩=>by
    subst hm;obtain ⟨i,g,n',sl',hi,hg,hst⟩:=crowd_pick (P:=P) (w:=w.at n) (sl:=sl₁) (C₁.awake ha₁ (.inl hrun)) ⟨h,a,ha₁,hrun⟩;rw [at_at'] at hst;have Cd:Tk P B Ch h d t gs₁ (w.at n') q₁:=C₁.at n'
    by_cases e:i=h
    ·subst e
     exact .inl ⟨gs₁,n,n',sl₁,sl',q₁,rfl,hst,hsz,ha₁,Cd⟩
    ·obtain ⟨gs',ops,q',hrt,hsz',hsp,_,_,C',hlt⟩:=Cd.by_step (sl:=sl') hi e hg ha₁ (again_of_running (.inl hrun) _) (fun s g₂ _ _=>offersAt_of_not_blocked (by rw [hrun];simp) _ _)
     exact .inr ⟨_,_,sumTo gs'.size q',by rw [hst];exact hrt,by rw [hsz'];omega,gs',n',sl',q',rfl,hsz'.trans hsz,by rw [hsp];exact ha₁,C',rfl⟩)
  _ _ T ⟨gs,w.drawn,sl,q,rfl,rfl,ha,C,rfl⟩
 exact ⟨N,gs',n,n',sl',sl'',T',q',hr,hst,hsz,ha',C'⟩

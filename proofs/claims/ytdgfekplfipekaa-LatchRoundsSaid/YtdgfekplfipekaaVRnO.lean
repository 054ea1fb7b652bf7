/- What stands in a run under way: the gate's own memory. -/
import Derived.Test.YtdgfekplfipekaaVRnN
set_option linter.all false
set_option maxRecDepth 100000
set_option maxHeartbeats 16000000
namespace Go.Proofs.Ytdgfekplfipekaa
open Go.Conc Go.RowKit
open Go.ConcN (upd upd_same upd_ne)
structure Th where
 tv:Nat
 tb:Nat
 rv:Nat
 wk:Nat
 st:Nat
 ab:Nat
structure Gs where
 rb:Nat
 mb:Nat
 N:Nat
 vT:Value
 vL:Value
 vW:Value
 vR:Value
 vF:Value
 thr:List Th
 kept:Nat→Prop
 x0:World
 A:Nat→Nat
 pv:Nat→Nat→Prop
def Gs.col (g:Gs) (r:Nat):Prop :=
 g.kept r∨r=g.rb∨r=g.mb∨some r=g.vT.ownBlock∨some r=g.vL.ownBlock∨some r=g.vW.ownBlock∨some r=g.vR.ownBlock∨some r=g.vF.ownBlock∨∃ t∈g.thr,r=t.tv∨r=t.tb∨r=t.rv∨r=t.wk∨r=t.st∨r=t.ab
def Ask.at' (r:Ask) (i:Nat):Xo:=⟨i,r.op,-1,r.arg,r.new,0,0,false⟩
section
variable {Sh:Type}
structure Xgk (g:Gs) (p:Xx Sh Unit) (hold:Bool) (x:World) (i:Nat) (t:Th):Prop where
 tvo:x.heap[t.tv]? = some (.cells #[P0 t.tb] 33 (0,1))
 rvo:x.heap[t.rv]? = some (.cells #[P0 g.rb] 80 (0,0))
 wko:∃ k,x.heap[t.wk]? = some (.chan 0 #[] false k k false)
 sto:∃ k,x.heap[t.st]? = some (.chan 0 #[] false k k false)
 tbo:∃ vv a,x.heap[t.tb]? = some (.cells (Yk g.rb i t.wk t.st vv a (!hold && p.ended)) 91 (2,4))∧(hold=false→∀ r k,p=.acc r k→vv=P0 (g.A r.cell)∧a=r.at' i)
 abo:hold=false→∀ r k,p=.acc r k→x.heap[t.ab]? = some (.cells (Yj (r.at' i)).toArray 89 (0,0))
structure Xy (g:Gs) (P:Xp Sh) (h:Option Nat) (stops:Bool) (x:World):Prop where
 obj:x.heap[g.rb]? = some (.cells (XH g.vT (.map (some g.mb)) g.vL g.vW g.vR g.vF stops) 85 (0,0))
 ths:x.ownsRow g.N 33 1 g.vT g.thr.length (g.thr.map fun t=>P0 t.tb)
 fls:x.ownsRow g.N 4 1 g.vF g.thr.length (List.replicate g.thr.length (.bool false))
 lg:x.ownsRow g.N 89 8 g.vL P.st.log.length (P.st.log.flatMap Yj)
 wn:x.ownsRow g.N 3 1 g.vW P.st.went.length (P.st.went.map fun i=>.int .i64 (i:Nat))
 rd:x.ownsRow g.N 3 1 g.vR P.st.ready.length (P.st.ready.map fun i=>.int .i64 (i:Nat))
 map:MapAt x g.mb g.A P.st.names
 num:g.thr.length=P.n
 thr:∀ (i:Nat) (t:Th),g.thr[i]? = some t→Xgk g (P.progs i) (h == some i) x i t
 kept:∀ r,g.kept r→r < x.heap.size∧x.heap[r]? = g.x0.heap[r]?
 low:g.N≤x.heap.size
 abl:∀ t∈g.thr,t.ab < x.heap.size
structure Gs.Apart (g:Gs):Prop where
 wr:∀ b,g.vW.ownBlock=some b→g.vR.ownBlock≠some b
 tt:∀ t∈g.thr,g.vT.ownBlock≠some t.tv
 la:∀ t∈g.thr,g.vL.ownBlock≠some t.ab
 tb:∀ (i j:Nat) (t u:Th),g.thr[i]? = some t→g.thr[j]? = some u→t.tb=u.tb→i=j
 ab:∀ (i j:Nat) (t u:Th),g.thr[i]? = some t→g.thr[j]? = some u→t.ab=u.ab→i=j
 wk:∀ (i j:Nat) (t u:Th),g.thr[i]? = some t→g.thr[j]? = some u→t.wk=u.wk→i=j
 ws:∀ (i j:Nat) (t u:Th),g.thr[i]? = some t→g.thr[j]? = some u→t.wk≠u.st
 kept:∀ r,g.kept r→r≠g.rb∧r≠g.mb∧some r≠g.vT.ownBlock∧some r≠g.vL.ownBlock∧some r≠g.vW.ownBlock∧some r≠g.vR.ownBlock∧some r≠g.vF.ownBlock∧∀ t∈g.thr,r≠t.tb∧r≠t.wk∧r≠t.st∧r≠t.ab
variable {g:Gs} {P:Xp Sh} {h:Option Nat} {stops:Bool} {x y:World}
theorem Xgk.frame {p:Xx Sh Unit} {hold:Bool} {i:Nat} {t:Th} (H:Xgk g p hold x i t) (hy:∀ r,r=t.tv∨r=t.tb∨r=t.rv∨r=t.wk∨r=t.st∨r=t.ab→y.heap[r]? = x.heap[r]?):Xgk g p hold y i t:=by
 obtain ⟨h1,h2,⟨k3,h3⟩,⟨k4,h4⟩,⟨vv,a,h5,h6⟩,h7⟩:=H;exact ⟨(hy _ (by simp)).trans h1,(hy _ (by simp)).trans h2,⟨k3,(hy _ (by simp)).trans h3⟩,⟨k4,(hy _ (by simp)).trans h4⟩,⟨vv,a,(hy _ (by simp)).trans h5,h6⟩,fun e r k e2=>(hy _ (by simp)).trans (h7 e r k e2)⟩
theorem Xy.frame (H:Xy g P h stops x) (hy:∀ r,g.col r→y.heap[r]? = x.heap[r]?) (hs:x.heap.size≤y.heap.size):Xy g P h stops y:=by
 obtain ⟨h1,h2,h3,h4,h5,h6,h7,h8,h9,h10,h11,h12⟩:=H;have ht:∀ (i:Nat) (t:Th),g.thr[i]? = some t→∀ r,r=t.tv∨r=t.tb∨r=t.rv∨r=t.wk∨r=t.st∨r=t.ab→y.heap[r]? = x.heap[r]?:=fun i t e r hr=>hy r (by unfold Gs.col;exact .inr (.inr (.inr (.inr (.inr (.inr (.inr (.inr ⟨t,List.mem_of_getElem? e,hr⟩))))))));exact ⟨(hy _ (by simp [Gs.col])).trans h1,Xj h2 fun b e=>hy b (by simp [Gs.col,e]),Xj h3 fun b e=>hy b (by simp [Gs.col,e]),Xj h4 fun b e=>hy b (by simp [Gs.col,e]),Xj h5 fun b e=>hy b (by simp [Gs.col,e]),Xj h6 fun b e=>hy b (by simp [Gs.col,e]),
  h7.heap (hy _ (by simp [Gs.col])),h8,fun i t e=>(h9 i t e).frame (ht i t e),fun r hr=>⟨Nat.lt_of_lt_of_le (h10 r hr).1 hs,(hy r (.inl hr)).trans (h10 r hr).2⟩,Nat.le_trans h11 hs,fun t ht=>Nat.lt_of_lt_of_le (h12 t ht) hs⟩
theorem Yf {a b:Nat} {o o':Obj} (h:x.heap[a]? = some o) (h':x.heap[b]? = some o') (hn:o≠o'):a≠b:=fun e=>hn (by rw [e,h'] at h;exact (OI h).symm)
theorem Zp {N:Nat} {e:TypeId} {size:Nat} {v:Value} {n:Nat} {xs:List Value} {b:Nat} (hv:x.ownsRow N e size v n xs) (h:∀ cur,x.heap[b]?≠some (.cells cur e (0,0))):v.ownBlock≠some b:=by
 rcases hv.2 with ⟨rfl,_⟩|⟨g,cap,cur,rfl,_,hg,_⟩
 ·simp [Value.ownBlock]
 ·intro e2
  have:g=b:=by simpa [Value.ownBlock] using e2
  subst this;exact h cur hg
theorem X9 {N:Nat} {e:TypeId} {size:Nat} {v:Value} {n:Nat} {xs:List Value} {b:Nat} (hv:x.ownsRow N e size v n xs) (h:v.ownBlock=some b):∃ cur,x.heap[b]? = some (.cells cur e (0,0)):=by
 rcases hv.2 with ⟨rfl,_⟩|⟨g,cap,cur,rfl,_,hg,_⟩
 ·simp [Value.ownBlock] at h
 ·have:g=b:=by simpa [Value.ownBlock] using h
  subst this;exact ⟨cur,hg⟩
theorem Xy.access {i:Nat} {t:Th} {r:Ask} {vL':Value} (H:Xy g P (some i) false x) (hap:g.Apart) (hi:g.thr[i]? = some t) (hab:∃ cur,x.heap[t.ab]? = some (.cells cur 89 (0,0))) (hnc:¬ g.col (g.A r.cell))
 (hacc:YT x y g.rb t.ab g.mb g.N g.vT g.vL vL' g.vW g.vR g.vF false g.A P.st.names r.cell P.st.log (r.done i (P.st.cells r.cell))) :
 Xy { g with vL:=vL' } { P with st:=P.st.access i r } (some i) false y∧({ g with vL:=vL' }:Gs).Apart:=by
 obtain ⟨acur,hab⟩:=hab;obtain ⟨es,cl,hmb,_⟩:=id H.map;have hcell:∀ b,g.col b→b≠g.A r.cell:=fun b hb e=>hnc (e ▸ hb);have keepO:∀ b o,g.col b→x.heap[b]? = some o→(∀ cur,o≠.cells cur 89 (0,0))→(∀ cur,o≠.cells cur 85 (0,0))→(∀ es cl,o≠.map es cl)→y.heap[b]? = x.heap[b]?:=fun b o hb ho h1 h2 h3=>by
  refine hacc.old b (GE ho).1 (Yf ho H.obj (h2 _)) (Yf ho hab (h1 _)) (Yf ho hmb (h3 _ _)) (hcell b hb) fun e=>?_;obtain ⟨cur,hc⟩:=X9 H.lg e.symm;exact h1 cur (by rw [hc] at ho;exact (OI ho).symm)
 have hth:∀ (j:Nat) (u:Th),g.thr[j]? = some u→∀ b,b=u.tv∨b=u.tb∨b=u.rv∨b=u.wk∨b=u.st∨b=u.ab→g.col b:=fun j u e b hb=>.inr (.inr (.inr (.inr (.inr (.inr (.inr (.inr ⟨u,List.mem_of_getElem? e,hb⟩)))))));refine ⟨⟨hacc.obj,Xj H.ths fun b e=>?_,Xj H.fls fun b e=>?_,?_,Xj H.wn fun b e=>?_,Xj H.rd fun b e=>?_,hacc.map,H.num,fun j u hu=>?_,fun b hb=>?_,Nat.le_trans H.low hacc.size,fun u hu=>Nat.lt_of_lt_of_le (H.abl u hu) hacc.size⟩,?_⟩
 ·obtain ⟨cur,hc⟩:=X9 H.ths e
  exact keepO b _ (by simp [Gs.col,e]) hc (by simp) (by simp) (by simp)
 ·obtain ⟨cur,hc⟩:=X9 H.fls e
  exact keepO b _ (by simp [Gs.col,e]) hc (by simp) (by simp) (by simp)
 ·have:=hacc.log
  simp only [Rst.access,List.length_append,List.length_singleton];exact this
 ·obtain ⟨cur,hc⟩:=X9 H.wn e
  exact keepO b _ (by simp [Gs.col,e]) hc (by simp) (by simp) (by simp)
 ·obtain ⟨cur,hc⟩:=X9 H.rd e
  exact keepO b _ (by simp [Gs.col,e]) hc (by simp) (by simp) (by simp)
 ·obtain ⟨h1,h2,⟨k3,h3⟩,⟨k4,h4⟩,⟨vv,a,h5,h6⟩,h7⟩:=H.thr j u hu
  have hc:=hth j u hu;refine ⟨(keepO _ _ (hc _ (by simp)) h1 (by simp) (by simp) (by simp)).trans h1,(keepO _ _ (hc _ (by simp)) h2 (by simp) (by simp) (by simp)).trans h2,⟨k3,(keepO _ _ (hc _ (by simp)) h3 (by simp) (by simp) (by simp)).trans h3⟩,⟨k4,(keepO _ _ (hc _ (by simp)) h4 (by simp) (by simp) (by simp)).trans h4⟩,
   ⟨vv,a,(keepO _ _ (hc _ (by simp)) h5 (by simp) (by simp) (by simp)).trans h5,h6⟩,fun e q k eq=>?_⟩
  have h8:=h7 e q k eq;have hji:j≠i:=by rintro rfl;simp at e
  rw [← h8];refine hacc.old _ (GE h8).1 (Yf h8 H.obj (by simp)) (fun e2=>hji (hap.ab j i u t hu hi e2)) (Yf h8 hmb (by simp)) (hcell _ (hc _ (by simp))) fun e2=>hap.la u (List.mem_of_getElem? hu) e2.symm
 ·obtain ⟨b1,b2⟩:=H.kept b hb
  obtain ⟨k1,k2,k3,k4,k5,k6,k7,k8⟩:=hap.kept b hb;refine ⟨Nat.lt_of_lt_of_le b1 hacc.size,(hacc.old b b1 k1 (k8 t (List.mem_of_getElem? hi)).2.2.2 k2 (hcell b (.inl hb)) k4).trans b2⟩
 ·obtain ⟨p1,p2,p3,p4,p5,p6,p7,p8⟩:=hap
  have hnew:∀ b,vL'.ownBlock=some b→g.vL.ownBlock=some b∨x.heap.size≤b:=fun b e=>by
   rcases hacc.lnew with h|⟨b',h,h'⟩
   ·exact .inl (h ▸ e)
   ·rw [h] at e;obtain rfl:=OI e;exact .inr h'
  refine ⟨p1,p2,fun u hu e=>?_,p4,p5,p6,p7,fun b hb=>?_⟩
  ·rcases hnew _ e with h|h
   ·exact p3 u hu h
   ·have:=H.abl u hu;omega
  ·obtain ⟨k1,k2,k3,k4,k5,k6,k7,k8⟩:=p8 b hb
   refine ⟨k1,k2,k3,fun e=>?_,k5,k6,k7,k8⟩;rcases hnew b e.symm with h|h
   ·exact k4 h.symm
   ·have:=(H.kept b hb).1;omega
theorem Xy.stand {z:World} {i ab kk:Nat} {t:Th} {r:Ask} {k:Told→Xx Sh Unit} (H:Xy g P (some i) stops x) (hap:g.Apart) (hi:g.thr[i]? = some t) (hp:P.progs i=.acc r k) (h1:x.heap.size≤ab) (h2:ab < y.heap.size)
 (h3:y.heap[ab]? = some (.cells (Yj (r.at' i)).toArray 89 (0,0))) (h4:y.heap[t.tb]? = some (.cells (Yk g.rb i t.wk t.st (P0 (g.A r.cell)) (r.at' i) false) 91 (2,4)))
 (h5:∀ q,q≠t.tb→q < x.heap.size→y.heap[q]? = x.heap[q]?) (h6:∀ q,q≠t.st→z.heap[q]? = y.heap[q]?) (h7:z.heap[t.st]? = some (.chan 0 #[] false kk kk false)) (h8:z.heap.size=y.heap.size) :
 Xy { g with thr:=g.thr.set i { t with ab:=ab } } P none stops z∧({ g with thr:=g.thr.set i { t with ab:=ab } }:Gs).Apart:=by
 have hT:=H.thr i t hi;obtain ⟨k0,hst⟩:=hT.sto;obtain ⟨v0,a0,htb,_⟩:=hT.tbo;have hlen:i < g.thr.length:=(LE' hi).1;have hmem:t∈g.thr:=List.mem_of_getElem? hi;have keep:∀ b o,x.heap[b]? = some o→(∀ kk,o≠.chan 0 #[] false kk kk false)→b≠t.tb→z.heap[b]? = some o:=fun b o hb hc hne=>by
  rw [h6 b (Yf hb hst (hc _)),h5 b hne (GE hb).1];exact hb
 have hbt:∀ b o,x.heap[b]? = some o→(∀ cur f,o≠.cells cur 91 f)→b≠t.tb:=fun b o hb hn=>Yf hb htb (hn _ _);have hget:∀ (j:Nat) (u:Th),(g.thr.set i { t with ab:=ab })[j]? = some u→(j=i∧u = { t with ab:=ab })∨(j≠i∧g.thr[j]? = some u):=fun j u hu=>by
  rw [List.getElem?_set] at hu
  by_cases e:i=j
  ·subst e
   simp [hlen] at hu;exact .inl ⟨rfl,hu.symm⟩
  ·rw [if_neg e] at hu
   exact .inr ⟨fun e2=>e e2.symm,hu⟩
 have hmap:(g.thr.set i { t with ab:=ab }).map (fun t=>P0 t.tb)=g.thr.map fun t=>P0 t.tb:=by
  apply List.ext_getElem?;intro j;rw [List.getElem?_map,List.getElem?_map,List.getElem?_set]
  by_cases e:i=j
  ·subst e;rw [if_pos rfl,if_pos hlen,hi];rfl
  ·rw [if_neg e]
 have hown:∀ {e:TypeId} {size:Nat} {v:Value} {n:Nat} {xs:List Value},x.ownsRow g.N e size v n xs→e≠91→z.ownsRow g.N e size v n xs:=fun hv he=>Xj hv fun b hb=>by
  obtain ⟨cur,hc⟩:=X9 hv hb;rw [keep b _ hc (by simp) (hbt b _ hc (fun c f e=>by injection e with _ e2;exact he e2)),hc]
 refine ⟨⟨keep _ _ H.obj (by simp) (hbt _ _ H.obj (by simp)),?_,?_,hown H.lg (by decide),hown H.wn (by decide),hown H.rd (by decide),?_,by rw [List.length_set];exact H.num,fun j u hu=>?_,fun b hb=>?_,by rw [h8];have:=H.low;show g.N≤_;omega,fun u hu=>?_⟩,?_⟩
 ·rw [List.length_set,hmap];exact hown H.ths (by decide)
 ·rw [List.length_set];exact hown H.fls (by decide)
 ·obtain ⟨es,cl,hmb,hx⟩:=H.map
  exact ⟨es,cl,keep _ _ hmb (by simp) (hbt _ _ hmb (by simp)),hx⟩
 ·rcases hget j u hu with ⟨rfl,rfl⟩|⟨hj,hu'⟩
  ·obtain ⟨e1,e2,e3,⟨k4,e4⟩,_,_⟩:=hT
   obtain ⟨k3,e3⟩:=e3;have hws:t.wk≠t.st:=hap.ws j j t t hi hi;have hts:t.tb≠t.st:=fun e=>by rw [e,hst] at htb;cases htb
   have has:ab≠t.st:=fun e=>by rw [e] at h3;have:=h5 t.st (by intro e2;rw [e2] at hst;rw [htb] at hst;cases hst) (GE hst).1;rw [this,hst] at h3;cases h3
   refine ⟨keep _ _ e1 (by simp) (hbt _ _ e1 (by simp)),keep _ _ e2 (by simp) (hbt _ _ e2 (by simp)),⟨k3,?_⟩,⟨kk,h7⟩,⟨_,_,by rw [h6 _ hts,h4,hp];rfl,fun _ q k' e=>?_⟩,fun _ q k' e=>?_⟩
   ·show z.heap[t.wk]? = _
    rw [h6 _ hws,h5 _ (Yf e3 htb (by simp)) (GE e3).1];exact e3
   ·rw [hp] at e;injection e with e _;subst e;exact ⟨rfl,rfl⟩
   ·rw [hp] at e;injection e with e _;subst e
    show z.heap[ab]? = _;rw [h6 _ has];exact h3
  ·have hji:(some i == some j)=false:=by simp;exact fun e=>hj e.symm
   have hu2:=H.thr j u hu';rw [hji] at hu2;obtain ⟨e1,e2,⟨k3,e3⟩,⟨k4,e4⟩,⟨vv,a,e5,e6⟩,e7⟩:=hu2;have hch:∀ (b kq:Nat),x.heap[b]? = some (Obj.chan 0 #[] false kq kq false)→∃ kq,z.heap[b]? = some (Obj.chan 0 #[] false kq kq false):=fun b kq hb=>by
    by_cases e:b=t.st
    ·exact ⟨kk,by rw [e];exact h7⟩
    ·exact ⟨kq,by rw [h6 _ e,h5 _ (Yf hb htb (by simp)) (GE hb).1];exact hb⟩
   exact ⟨keep _ _ e1 (by simp) (hbt _ _ e1 (by simp)),keep _ _ e2 (by simp) (hbt _ _ e2 (by simp)),hch _ _ e3,hch _ _ e4,⟨vv,a,keep _ _ e5 (by simp) (fun e=>hj (hap.tb j i u t hu' hi e)),e6⟩,fun q r' k' e=>by
    have e8:=e7 q r' k' e;exact keep _ _ e8 (by simp) (hbt _ _ e8 (by simp))⟩
 ·obtain ⟨b1,b2⟩:=H.kept b hb
  obtain ⟨_,_,_,_,_,_,_,k8⟩:=hap.kept b hb;obtain ⟨k9,_,k10,_⟩:=k8 t hmem;exact ⟨by rw [h8];omega,by rw [h6 b k10,h5 b k9 b1];exact b2⟩
 ·obtain ⟨j,hj⟩:=List.getElem?_of_mem hu
  rw [h8];rcases hget j u hj with ⟨rfl,rfl⟩|⟨_,hu'⟩
  ·exact h2
  ·have:=H.abl u (List.mem_of_getElem? hu');omega
 ·obtain ⟨p1,p2,p3,p4,p5,p6,p7,p8⟩:=hap
  have hsub:∀ u∈g.thr.set i { t with ab:=ab },u = { t with ab:=ab }∨u∈g.thr:=fun u hu=>by
   obtain ⟨j,hj⟩:=List.getElem?_of_mem hu;rcases hget j u hj with ⟨_,rfl⟩|⟨_,hu'⟩
   ·exact .inl rfl
   ·exact .inr (List.mem_of_getElem? hu')
  have pair:∀ (f:Th→Nat),f { t with ab:=ab } = f t→(∀ (i j:Nat) (t u:Th),g.thr[i]? = some t→g.thr[j]? = some u→f t=f u→i=j)→∀ (a b:Nat) (u v:Th),(g.thr.set i { t with ab:=ab })[a]? = some u→(g.thr.set i { t with ab:=ab })[b]? = some v→f u=f v→a=b:=fun f hf hpp a b u v hu hv e=>by
   rcases hget a u hu with ⟨rfl,rfl⟩|⟨_,hu'⟩<;>rcases hget b v hv with ⟨rfl,rfl⟩|⟨_,hv'⟩
   ·rfl
   ·exact hpp _ _ t v hi hv' (by rw [← hf];exact e)
   ·exact hpp _ _ u t hu' hi (by rw [← hf];exact e)
   ·exact hpp _ _ u v hu' hv' e
  refine ⟨p1,fun u hu=>?_,fun u hu=>?_,pair (·.tb) rfl p4,?_,pair (·.wk) rfl p6,fun a b u v hu hv=>?_,fun b hb=>?_⟩
  ·rcases hsub u hu with rfl|hu'
   ·exact p2 t hmem
   ·exact p2 u hu'
  ·rcases hsub u hu with rfl|hu'
   ·intro e
    have:=own_lt H.lg e
    have e2:ab < x.heap.size:=this
    omega
   ·exact p3 u hu'
  ·intro a b u v hu hv e
   rcases hget a u hu with ⟨rfl,rfl⟩|⟨_,hu'⟩<;>rcases hget b v hv with ⟨rfl,rfl⟩|⟨_,hv'⟩
   ·rfl
   ·have:=H.abl v (List.mem_of_getElem? hv');have e:ab=v.ab:=e;omega
   ·have:=H.abl u (List.mem_of_getElem? hu');have e:u.ab=ab:=e;omega
   ·exact p5 _ _ u v hu' hv' e
  ·rcases hget a u hu with ⟨rfl,rfl⟩|⟨_,hu'⟩<;>rcases hget b v hv with ⟨rfl,rfl⟩|⟨_,hv'⟩
   ·exact p7 _ _ t t hi hi
   ·exact p7 _ _ t v hi hv'
   ·exact p7 _ _ u t hu' hi
   ·exact p7 _ _ u v hu' hv'
  ·obtain ⟨k1,k2,k3,k4,k5,k6,k7,k8⟩:=p8 b hb
   refine ⟨k1,k2,k3,k4,k5,k6,k7,fun u hu=>?_⟩;rcases hsub u hu with rfl|hu'
   ·obtain ⟨q1,q2,q3,q4⟩:=k8 t hmem
    refine ⟨q1,q2,q3,?_⟩
    have:=(H.kept b hb).1
    show b≠ab
    omega
   ·exact k8 u hu'
theorem Xy.begun {z:World} {h0:Option Nat} {vT' vF':Value} {tv tb wk st:Nat} {p:Xx Sh Unit} (H:Xy g P h0 false x) (hap:g.Apart) (hh:∀ i,h0=some i→P.n≤i)
 (B:XeD x z g.N g.rb g.vT g.vF vT' vF' (.map (some g.mb)) g.vL g.vW g.vR false (g.thr.map fun t=>P0 t.tb) (List.replicate g.thr.length (.bool false)) tv tb wk st) :
 Xy { g with vT:=vT',vF:=vF',thr:=g.thr ++ [⟨tv,tb,x.heap.size,wk,st,tb⟩] } { P with n:=P.n + 1,progs:=upd P.progs P.n p } (some P.n) false z∧({ g with vT:=vT',vF:=vF',thr:=g.thr ++ [⟨tv,tb,x.heap.size,wk,st,tb⟩] }:Gs).Apart:=by
 have hlenT:(g.thr.map fun t=>P0 t.tb).length=g.thr.length:=List.length_map _;have hlenF:(List.replicate g.thr.length (Value.bool false)).length=g.thr.length:=List.length_replicate;have keep:∀ (b:Nat) (o:Obj),x.heap[b]? = some o→(∀ cur,o≠.cells cur 85 (0,0))→(∀ cur,o≠.cells cur 33 (0,0))→(∀ cur,o≠.cells cur 4 (0,0))→z.heap[b]? = some o:=fun b o hb h1 h2 h3=>by
  rw [B.old b (GE hb).1 (Yf hb H.obj (h1 _)) (fun e=>?_) fun e=>?_]
  ·exact hb
  ·obtain ⟨cur,hc⟩:=X9 H.ths e.symm
   exact h2 cur (by rw [hc] at hb;exact (OI hb).symm)
  ·obtain ⟨cur,hc⟩:=X9 H.fls e.symm
   exact h3 cur (by rw [hc] at hb;exact (OI hb).symm)
 have hown:∀ {e:TypeId} {size:Nat} {v:Value} {n:Nat} {xs:List Value},x.ownsRow g.N e size v n xs→e≠85→e≠33→e≠4→z.ownsRow g.N e size v n xs:=fun hv e1 e2 e3=>Xj hv fun b hb=>by
  obtain ⟨cur,hc⟩:=X9 hv hb;rw [keep b _ hc (fun c e=>by injection e with _ e;exact e1 e) (fun c e=>by injection e with _ e;exact e2 e) (fun c e=>by injection e with _ e;exact e3 e),hc]
 have hget:∀ (j:Nat) (u:Th),(g.thr ++ [⟨tv,tb,x.heap.size,wk,st,tb⟩])[j]? = some u→(j < g.thr.length∧g.thr[j]? = some u)∨(j=g.thr.length∧u=⟨tv,tb,x.heap.size,wk,st,tb⟩):=fun j u hu=>by
  rcases Nat.lt_or_ge j g.thr.length with h|h
  ·rw [List.getElem?_append_left h] at hu;exact .inl ⟨h,hu⟩
  ·rw [List.getElem?_append_right h] at hu
   have hj:j - g.thr.length=0:=by
    rcases Nat.eq_zero_or_pos (j - g.thr.length) with h0|h0
    ·exact h0
    ·rw [List.getElem?_eq_none (by simp;omega)] at hu;cases hu
   rw [hj] at hu;exact .inr ⟨by omega,(OI hu).symm⟩
 refine ⟨⟨B.obj,?_,?_,hown H.lg (by decide) (by decide) (by decide),hown H.wn (by decide) (by decide) (by decide),hown H.rd (by decide) (by decide) (by decide),?_,by simp [H.num],fun j u hu=>?_,fun b hb=>?_,?_,fun u hu=>?_⟩,?_⟩
 ·have:=B.rths
  rw [hlenT] at this;simpa using this
 ·have:=B.rfls
  rw [hlenF] at this;simpa [List.replicate_succ'] using this
 ·obtain ⟨es,cl,hmb,hx⟩:=H.map
  exact ⟨es,cl,keep _ _ hmb (by simp) (by simp) (by simp),hx⟩
 ·rcases hget j u hu with ⟨hj,hu'⟩|⟨rfl,rfl⟩
  ·have hjn:j≠P.n:=by rw [← H.num];omega
   have e0:(some P.n == some j)=false:=by simp;exact fun e=>hjn e.symm
   have e1:(h0 == some j)=false:=by
    cases h0 with
    | none=>rfl
    | some q=>simp;have:=hh q rfl;rw [← H.num] at this;omega
   have hT:=H.thr j u hu';rw [e1] at hT;rw [e0,show ({ n:=P.n + 1,progs:=upd P.progs P.n p,st:=P.st }:Xp Sh).progs j=P.progs j from upd_ne _ _ hjn];obtain ⟨h1,h2,⟨k3,h3⟩,⟨k4,h4⟩,⟨vv,a,h5,h6⟩,h7⟩:=hT;exact ⟨keep _ _ h1 (by simp) (by simp) (by simp),keep _ _ h2 (by simp) (by simp) (by simp),⟨k3,keep _ _ h3 (by simp) (by simp) (by simp)⟩,⟨k4,keep _ _ h4 (by simp) (by simp) (by simp)⟩,⟨vv,a,keep _ _ h5 (by simp) (by simp) (by simp),h6⟩,fun e r k e2=>keep _ _ (h7 e r k e2) (by simp) (by simp) (by simp)⟩
  ·have e0:(some P.n == some g.thr.length)=true:=by rw [H.num];simp
   rw [e0];have ht:=B.tbo;rw [hlenT] at ht;exact ⟨B.tvo,B.rvo,B.wko,B.sto,⟨.pointer none,⟨0,0,0,0,0,0,0,false⟩,by simpa [Yo,Yk] using ht,fun e=>by cases e⟩,fun e=>by cases e⟩
 ·obtain ⟨b1,b2⟩:=H.kept b hb
  obtain ⟨k1,k2,k3,k4,k5,k6,k7,k8⟩:=hap.kept b hb;exact ⟨Nat.lt_of_lt_of_le b1 B.size,(B.old b b1 k1 k3 k7).trans b2⟩
 ·exact Nat.le_trans H.low B.size
 ·rcases List.mem_append.1 hu with h|h
  ·exact Nat.lt_of_lt_of_le (H.abl u h) B.size
  ·obtain rfl:=List.mem_singleton.1 h;exact B.tbn.2
 ·obtain ⟨p1,p2,p3,p4,p5,p6,p7,p8⟩:=hap
  have hsub:∀ u∈g.thr ++ [⟨tv,tb,x.heap.size,wk,st,tb⟩],u∈g.thr∨u=⟨tv,tb,x.heap.size,wk,st,tb⟩:=fun u hu=>(List.mem_append.1 hu).imp id fun h=>List.mem_singleton.1 h;have hlt:∀ u∈g.thr,u.tb < x.heap.size∧u.wk < x.heap.size∧u.st < x.heap.size∧u.ab < x.heap.size∧u.tv < x.heap.size:=fun u hu=>by
   obtain ⟨j,hj⟩:=List.getElem?_of_mem hu;obtain ⟨h1,h2,⟨k3,h3⟩,⟨k4,h4⟩,⟨vv,a,h5,h6⟩,h7⟩:=H.thr j u hj;exact ⟨(GE h5).1,(GE h3).1,(GE h4).1,H.abl u hu,(GE h1).1⟩
  have pair:∀ (f:Th→Nat),x.heap.size≤f ⟨tv,tb,x.heap.size,wk,st,tb⟩→(∀ u∈g.thr,f u < x.heap.size)→(∀ (i j:Nat) (t u:Th),g.thr[i]? = some t→g.thr[j]? = some u→f t=f u→i=j)→∀ (a b:Nat) (u v:Th),(g.thr ++ [⟨tv,tb,x.heap.size,wk,st,tb⟩])[a]? = some u→(g.thr ++ [⟨tv,tb,x.heap.size,wk,st,tb⟩])[b]? = some v→f u=f v→a=b:=fun f hf hl hpp a b u v hu hv e=>by
   rcases hget a u hu with ⟨_,hu'⟩|⟨rfl,rfl⟩<;>rcases hget b v hv with ⟨_,hv'⟩|⟨rfl,rfl⟩
   ·exact hpp _ _ u v hu' hv' e
   ·have:=hl u (List.mem_of_getElem? hu');omega
   ·have:=hl v (List.mem_of_getElem? hv');omega
   ·rfl
  have tn:=B.tbn.1;have wn:=B.wkn.1;have sn:=B.stn.1;refine ⟨p1,fun u hu e=>?_,fun u hu e=>?_,pair (·.tb) tn (fun u h=>(hlt u h).1) p4,pair (·.ab) tn (fun u h=>(hlt u h).2.2.2.1) p5,pair (·.wk) wn (fun u h=>(hlt u h).2.1) p6,fun a b u v hu hv=>?_,fun b hb=>?_⟩
  ·obtain ⟨cur,hc⟩:=X9 B.rths e
   rcases hsub u hu with hu'|rfl
   ·rcases B.tnew with h|⟨b',h,h'⟩
    ·exact p2 u hu' (h ▸ e)
    ·rw [h] at e
     have:b'=u.tv:=OI e
     have:=(hlt u hu').2.2.2.2
     omega
   ·have:=B.tvo
    have hc':z.heap[tv]? = _:=hc;rw [this] at hc';simp at hc'
  ·rcases hsub u hu with hu'|rfl
   ·exact p3 u hu' e
   ·have h1:=own_lt H.lg e
    have h2:tb < x.heap.size:=h1
    omega
  ·rcases hget a u hu with ⟨_,hu'⟩|⟨rfl,rfl⟩<;>rcases hget b v hv with ⟨_,hv'⟩|⟨rfl,rfl⟩
   ·exact p7 _ _ u v hu' hv'
   ·have:=(hlt u (List.mem_of_getElem? hu')).2.1
    show u.wk≠st
    omega
   ·have:=(hlt v (List.mem_of_getElem? hv')).2.2.1
    show wk≠v.st
    omega
   ·exact B.ne
  ·obtain ⟨k1,k2,k3,k4,k5,k6,k7,k8⟩:=p8 b hb
   have hb1:=(H.kept b hb).1;refine ⟨k1,k2,fun e=>?_,k4,k5,k6,fun e=>?_,fun u hu=>?_⟩
   ·rcases B.tnew with h|⟨b',h,h'⟩
    ·exact k3 (e.trans h)
    ·have e:some b=vT'.ownBlock:=e
     rw [h] at e;have:=OI e;omega
   ·rcases B.fnew with h|⟨b',h,h'⟩
    ·exact k7 (e.trans h)
    ·have e:some b=vF'.ownBlock:=e
     rw [h] at e;have:=OI e;omega
   ·rcases hsub u hu with hu'|rfl
    ·exact k8 u hu'
    ·refine ⟨?_,?_,?_,?_⟩
     ·show b≠tb;omega
     ·show b≠wk;omega
     ·show b≠st;omega
     ·show b≠tb;omega
theorem Xy.wentOn {v':Value} {q:Nat} (H:Xy g P h stops x) (hap:g.Apart) (h1:y.heap[g.rb]? = some (.cells (XH g.vT (.map (some g.mb)) g.vL v' g.vR g.vF stops) 85 (0,0)))
 (h2:y.ownsRow g.N 3 1 v' (P.st.went.length + 1) ((P.st.went.map fun i=>.int .i64 (i:Nat)) ++ [.int .i64 q])) (h3:v'.ownBlock=g.vW.ownBlock∨∃ b,v'.ownBlock=some b∧x.heap.size≤b) (h4:x.heap.size≤y.heap.size) (h5:∀ r,r < x.heap.size→r≠g.rb→some r≠g.vW.ownBlock→y.heap[r]? = x.heap[r]?) :
 Xy { g with vW:=v' } { P with st:={ P.st with went:=P.st.went ++ [q] } } h stops y∧({ g with vW:=v' }:Gs).Apart:=by
 have keep:∀ (b:Nat) (o:Obj),x.heap[b]? = some o→(∀ cur,o≠.cells cur 85 (0,0))→(∀ cur,o≠.cells cur 3 (0,0))→y.heap[b]? = some o:=fun b o hb e1 e2=>by
  rw [h5 b (GE hb).1 (Yf hb H.obj (e1 _)) fun e=>?_]
  ·exact hb
  ·obtain ⟨cur,hc⟩:=X9 H.wn e.symm
   exact e2 cur (by rw [hc] at hb;exact (OI hb).symm)
 have hown:∀ {e:TypeId} {size:Nat} {v:Value} {n:Nat} {xs:List Value},x.ownsRow g.N e size v n xs→e≠85→e≠3→y.ownsRow g.N e size v n xs:=fun hv e1 e2=>Xj hv fun b hb=>by
  obtain ⟨cur,hc⟩:=X9 hv hb;rw [keep b _ hc (fun c e=>by injection e with _ e;exact e1 e) (fun c e=>by injection e with _ e;exact e2 e),hc]
 have hoth:y.ownsRow g.N 3 1 g.vR P.st.ready.length (P.st.ready.map fun i=>.int .i64 (i:Nat)):=Xj H.rd fun b hb=>by
  obtain ⟨cur,hc⟩:=X9 H.rd hb;exact h5 b (GE hc).1 (Yf hc H.obj (by simp)) fun e=>hap.wr b e.symm hb
 have hnew:∀ b,v'.ownBlock=some b→g.vW.ownBlock=some b∨x.heap.size≤b:=fun b e=>by
  rcases h3 with h|⟨b',h,h'⟩
  ·exact .inl (h ▸ e)
  ·rw [h] at e;obtain rfl:=OI e;exact .inr h'
 refine ⟨⟨h1,hown H.ths (by decide) (by decide),hown H.fls (by decide) (by decide),hown H.lg (by decide) (by decide),by simpa using h2,hoth,?_,H.num,fun j u hu=>?_,fun b hb=>?_,Nat.le_trans H.low h4,fun u hu=>Nat.lt_of_lt_of_le (H.abl u hu) h4⟩,?_⟩
 ·obtain ⟨es,cl,hmb,hx⟩:=H.map
  exact ⟨es,cl,keep _ _ hmb (by simp) (by simp),hx⟩
 ·obtain ⟨h1,h2,⟨k3,h3⟩,⟨k4,h4⟩,⟨vv,a,h5,h6⟩,h7⟩:=H.thr j u hu
  exact ⟨keep _ _ h1 (by simp) (by simp),keep _ _ h2 (by simp) (by simp),⟨k3,keep _ _ h3 (by simp) (by simp)⟩,⟨k4,keep _ _ h4 (by simp) (by simp)⟩,⟨vv,a,keep _ _ h5 (by simp) (by simp),h6⟩,fun e r k e2=>keep _ _ (h7 e r k e2) (by simp) (by simp)⟩
 ·obtain ⟨b1,b2⟩:=H.kept b hb
  obtain ⟨k1,k2,k3,k4,k5,k6,k7,k8⟩:=hap.kept b hb;exact ⟨Nat.lt_of_lt_of_le b1 h4,(h5 b b1 k1 k5).trans b2⟩
 ·obtain ⟨p1,p2,p3,p4,p5,p6,p7,p8⟩:=hap
  refine ⟨fun b e e2=>?_,p2,p3,p4,p5,p6,p7,fun b hb=>?_⟩
  ·rcases hnew b e with h|h
   ·exact p1 b h e2
   ·have:=own_lt H.rd e2;omega
  ·obtain ⟨k1,k2,k3,k4,k5,k6,k7,k8⟩:=p8 b hb
   have hb1:=(H.kept b hb).1;refine ⟨k1,k2,k3,k4,fun e=>?_,k6,k7,k8⟩
   all_goals (
    rcases hnew b e.symm with h|h
    ·exact k5 h.symm
    ·omega)
theorem Xy.readyOn {v':Value} {q:Nat} (H:Xy g P h stops x) (hap:g.Apart) (h1:y.heap[g.rb]? = some (.cells (XH g.vT (.map (some g.mb)) g.vL g.vW v' g.vF stops) 85 (0,0)))
 (h2:y.ownsRow g.N 3 1 v' (P.st.ready.length + 1) ((P.st.ready.map fun i=>.int .i64 (i:Nat)) ++ [.int .i64 q])) (h3:v'.ownBlock=g.vR.ownBlock∨∃ b,v'.ownBlock=some b∧x.heap.size≤b) (h4:x.heap.size≤y.heap.size) (h5:∀ r,r < x.heap.size→r≠g.rb→some r≠g.vR.ownBlock→y.heap[r]? = x.heap[r]?) :
 Xy { g with vR:=v' } { P with st:={ P.st with ready:=P.st.ready ++ [q] } } h stops y∧({ g with vR:=v' }:Gs).Apart:=by
 have keep:∀ (b:Nat) (o:Obj),x.heap[b]? = some o→(∀ cur,o≠.cells cur 85 (0,0))→(∀ cur,o≠.cells cur 3 (0,0))→y.heap[b]? = some o:=fun b o hb e1 e2=>by
  rw [h5 b (GE hb).1 (Yf hb H.obj (e1 _)) fun e=>?_]
  ·exact hb
  ·obtain ⟨cur,hc⟩:=X9 H.rd e.symm
   exact e2 cur (by rw [hc] at hb;exact (OI hb).symm)
 have hown:∀ {e:TypeId} {size:Nat} {v:Value} {n:Nat} {xs:List Value},x.ownsRow g.N e size v n xs→e≠85→e≠3→y.ownsRow g.N e size v n xs:=fun hv e1 e2=>Xj hv fun b hb=>by
  obtain ⟨cur,hc⟩:=X9 hv hb;rw [keep b _ hc (fun c e=>by injection e with _ e;exact e1 e) (fun c e=>by injection e with _ e;exact e2 e),hc]
 have hoth:y.ownsRow g.N 3 1 g.vW P.st.went.length (P.st.went.map fun i=>.int .i64 (i:Nat)):=Xj H.wn fun b hb=>by
  obtain ⟨cur,hc⟩:=X9 H.wn hb;exact h5 b (GE hc).1 (Yf hc H.obj (by simp)) fun e=>hap.wr b hb e.symm
 have hnew:∀ b,v'.ownBlock=some b→g.vR.ownBlock=some b∨x.heap.size≤b:=fun b e=>by
  rcases h3 with h|⟨b',h,h'⟩
  ·exact .inl (h ▸ e)
  ·rw [h] at e;obtain rfl:=OI e;exact .inr h'
 refine ⟨⟨h1,hown H.ths (by decide) (by decide),hown H.fls (by decide) (by decide),hown H.lg (by decide) (by decide),hoth,by simpa using h2,?_,H.num,fun j u hu=>?_,fun b hb=>?_,Nat.le_trans H.low h4,fun u hu=>Nat.lt_of_lt_of_le (H.abl u hu) h4⟩,?_⟩
 ·obtain ⟨es,cl,hmb,hx⟩:=H.map
  exact ⟨es,cl,keep _ _ hmb (by simp) (by simp),hx⟩
 ·obtain ⟨h1,h2,⟨k3,h3⟩,⟨k4,h4⟩,⟨vv,a,h5,h6⟩,h7⟩:=H.thr j u hu
  exact ⟨keep _ _ h1 (by simp) (by simp),keep _ _ h2 (by simp) (by simp),⟨k3,keep _ _ h3 (by simp) (by simp)⟩,⟨k4,keep _ _ h4 (by simp) (by simp)⟩,⟨vv,a,keep _ _ h5 (by simp) (by simp),h6⟩,fun e r k e2=>keep _ _ (h7 e r k e2) (by simp) (by simp)⟩
 ·obtain ⟨b1,b2⟩:=H.kept b hb
  obtain ⟨k1,k2,k3,k4,k5,k6,k7,k8⟩:=hap.kept b hb;exact ⟨Nat.lt_of_lt_of_le b1 h4,(h5 b b1 k1 k6).trans b2⟩
 ·obtain ⟨p1,p2,p3,p4,p5,p6,p7,p8⟩:=hap
  refine ⟨fun b e e2=>?_,p2,p3,p4,p5,p6,p7,fun b hb=>?_⟩
  ·rcases hnew b e2 with h|h
   ·exact p1 b e h
   ·have:=own_lt H.wn e;omega
  ·obtain ⟨k1,k2,k3,k4,k5,k6,k7,k8⟩:=p8 b hb
   have hb1:=(H.kept b hb).1;refine ⟨k1,k2,k3,k4,k5,fun e=>?_,k7,k8⟩
   all_goals (
    rcases hnew b e.symm with h|h
    ·exact k6 h.symm
    ·omega)
theorem Xy.ended {z:World} {i kk:Nat} {t:Th} {vv:Value} {a:Xo} (H:Xy g P (some i) stops x) (hap:g.Apart) (hi:g.thr[i]? = some t) (hp:(P.progs i).ended=true) (h4:z.heap[t.tb]? = some (.cells (Yk g.rb i t.wk t.st vv a true) 91 (2,4)))
 (h6:∀ q,q≠t.tb→q≠t.st→z.heap[q]? = x.heap[q]?) (h7:z.heap[t.st]? = some (.chan 0 #[] false kk kk false)) (h8:z.heap.size=x.heap.size):Xy g P none stops z:=by
 have hT:=H.thr i t hi;obtain ⟨k0,hst⟩:=hT.sto;obtain ⟨v0,a0,htb,_⟩:=hT.tbo;have hmem:t∈g.thr:=List.mem_of_getElem? hi;have keep:∀ (b:Nat) (o:Obj),x.heap[b]? = some o→(∀ kk,o≠.chan 0 #[] false kk kk false)→b≠t.tb→z.heap[b]? = some o:=fun b o hb hc hne=>by
  rw [h6 b hne (Yf hb hst (hc _))];exact hb
 have hbt:∀ (b:Nat) (o:Obj),x.heap[b]? = some o→(∀ cur f,o≠.cells cur 91 f)→b≠t.tb:=fun b o hb hn=>Yf hb htb (hn _ _);have hown:∀ {e:TypeId} {size:Nat} {v:Value} {n:Nat} {xs:List Value},x.ownsRow g.N e size v n xs→e≠91→z.ownsRow g.N e size v n xs:=fun hv he=>Xj hv fun b hb=>by
  obtain ⟨cur,hc⟩:=X9 hv hb;rw [keep b _ hc (by simp) (hbt b _ hc (fun c f e=>by injection e with _ e2;exact he e2)),hc]
 refine ⟨keep _ _ H.obj (by simp) (hbt _ _ H.obj (by simp)),hown H.ths (by decide),hown H.fls (by decide),hown H.lg (by decide),hown H.wn (by decide),hown H.rd (by decide),?_,H.num,fun j u hu=>?_,fun b hb=>?_,by rw [h8];exact H.low,fun u hu=>by rw [h8];exact H.abl u hu⟩
 ·obtain ⟨es,cl,hmb,hx⟩:=H.map
  exact ⟨es,cl,keep _ _ hmb (by simp) (hbt _ _ hmb (by simp)),hx⟩
 ·have hch:∀ (b kq:Nat),x.heap[b]? = some (Obj.chan 0 #[] false kq kq false)→∃ kq,z.heap[b]? = some (Obj.chan 0 #[] false kq kq false):=fun b kq hb=>by
   by_cases e:b=t.st
   ·exact ⟨kk,by rw [e];exact h7⟩
   ·exact ⟨kq,by rw [h6 _ (Yf hb htb (by simp)) e];exact hb⟩
  by_cases hji:j=i
  ·subst hji
   obtain rfl:t=u:=OI (hi.symm.trans hu);obtain ⟨e1,e2,⟨k3,e3⟩,⟨k4,e4⟩,_,_⟩:=hT;refine ⟨keep _ _ e1 (by simp) (hbt _ _ e1 (by simp)),keep _ _ e2 (by simp) (hbt _ _ e2 (by simp)),hch _ _ e3,hch _ _ e4,⟨vv,a,by rw [hp];exact h4,fun _ q k' e=>?_⟩,fun _ q k' e=>?_⟩
   ·rw [e] at hp;cases hp
   ·rw [e] at hp;cases hp
  ·have e0:(some i == some j)=false:=by simp;exact fun e=>hji e.symm
   have hu2:=H.thr j u hu;rw [e0] at hu2;obtain ⟨e1,e2,⟨k3,e3⟩,⟨k4,e4⟩,⟨vv,a,e5,e6⟩,e7⟩:=hu2;exact ⟨keep _ _ e1 (by simp) (hbt _ _ e1 (by simp)),keep _ _ e2 (by simp) (hbt _ _ e2 (by simp)),hch _ _ e3,hch _ _ e4,⟨vv,a,keep _ _ e5 (by simp) (fun e=>hji (hap.tb j i u t hu hi e)),e6⟩,fun q r' k' e=>by
    have e8:=e7 q r' k' e;exact keep _ _ e8 (by simp) (hbt _ _ e8 (by simp))⟩
 ·obtain ⟨b1,b2⟩:=H.kept b hb
  obtain ⟨_,_,_,_,_,_,_,k8⟩:=hap.kept b hb;obtain ⟨k9,_,k10,_⟩:=k8 t hmem;exact ⟨by rw [h8];omega,by rw [h6 b k9 k10];exact b2⟩

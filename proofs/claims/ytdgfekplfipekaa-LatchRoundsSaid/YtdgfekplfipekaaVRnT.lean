/- A thread's turn, and a thread's beginning: from main's call of goes or begin to where it has come back. -/
import Derived.Test.YtdgfekplfipekaaVRnS
set_option linter.all false
set_option maxRecDepth 100000
set_option maxHeartbeats 16000000
namespace Go.Proofs.Ytdgfekplfipekaa
open Go.Conc Go.RowKit
open Go.ConcN (upd upd_same upd_ne)
theorem XeK {α:Type} (f:Nat→α) (i:Nat) (a b:α):upd (upd f i a) i b=upd f i b:=by
 funext j
 by_cases e:j=i
 ·subst e;rw [upd_same,upd_same]
 ·rw [upd_ne _ _ e,upd_ne _ _ e,upd_ne _ _ e]
section
variable {Sh:Type} {g:Gs} {P:Xp Sh} {stops:Bool} {x:World} {h:Option Nat}
theorem Xy.colLt (H:Xy g P h stops x) {r:Nat} (hr:g.col r):r < x.heap.size:=by
 rcases hr with q|rfl|rfl|q|q|q|q|q|⟨t,ht,q⟩
 ·exact (H.kept r q).1
 ·exact (GE H.obj).1
 ·obtain ⟨es,cl,hmb,_⟩:=H.map
  exact (GE hmb).1
 ·exact own_lt H.ths q.symm
 ·exact own_lt H.lg q.symm
 ·exact own_lt H.wn q.symm
 ·exact own_lt H.rd q.symm
 ·exact own_lt H.fls q.symm
 ·obtain ⟨j,hj⟩:=List.getElem?_of_mem ht
  obtain ⟨e1,e2,⟨k3,e3⟩,⟨k4,e4⟩,⟨vv,a,e5,e6⟩,e7⟩:=H.thr j t hj;rcases q with rfl|rfl|rfl|rfl|rfl|rfl
  ·exact (GE e1).1
  ·exact (GE e5).1
  ·exact (GE e2).1
  ·exact (GE e3).1
  ·exact (GE e4).1
  ·exact H.abl t ht
theorem Qb {t:Th} (ht:t∈g.thr) {r:Nat} (hr:r=t.tv∨r=t.tb∨r=t.rv∨r=t.wk∨r=t.st∨r=t.ab):g.col r:=.inr (.inr (.inr (.inr (.inr (.inr (.inr (.inr ⟨t,ht,hr⟩)))))))
end
section
variable {Sh:Type} {Post:Value→World→Prop} {S:Zv Sh} {F:Fix} {g:Gs} {P:Xp Sh} {m:Nat} {C:Ctx} {x:World}
theorem XeV {i:Nat} {t:Th} {r:Ask} {k:Told→Xx Sh Unit} {c:Frame} {cs:List Frame} (H:Stood Post S F g P (m + 1) none C x) (hI:S.I P.st.sh P.st.cells g.col x) (hi:g.thr[i]? = some t) (hp:P.progs i=.acc r k) (hfine:S.fin.f m (P.goes i))
 (hnext:∀ (g':Gs) (C':Ctx) (z:World),g'.thr.length=g.thr.length→Stood Post S F g' (P.goes i) m none C' z→S.I (P.goes i).st.sh (P.goes i).st.cells g'.col z→JG Try.prog Post C' (G (c.finish (.tuple #[])) cs) z) :
 JG Try.prog Post C (G (Frame.enter Try.prog 51 #[P0 t.tb] .normal) (c::cs)) x:=by
 obtain ⟨W,cb,cf,csf,a1,a2,a3,a4,a5,hr,hrc,hcb,hcs⟩:=H.chairs.chair i t r k hi (by simp) hp;have he:(P.progs i).ended=false:=by rw [hp];rfl
 have hh:C.h=F.hm:=H.holds;have hmain:=H.main;have hmem:t∈g.thr:=List.mem_of_getElem? hi;have hin:i < P.n:=by rw [← H.gate.num];exact (LE' hi).1
 have hT:=H.gate.thr i t hi;have e0:((none:Option Nat) == some i)=false:=rfl;rw [e0] at hT;obtain ⟨htv,hrv,⟨kw,hwk⟩,⟨ks,hst⟩,⟨vv,ao,htb,_⟩,_⟩:=hT;replace htb:x.heap[t.tb]? = some (.cells (Yk g.rb i t.wk t.st vv ao false) 91 (2,4)):=by simpa [he] using htb
 refine XcY (j:=F.n0 + i) (sj:=W) (st:=t.st) H.d (by omega) a1 (by rw [a2];exact Xa htb 2) (Xa htb 3) ⟨(GE hst).1,⟨ks,hst⟩,fun i' s' h1 h2=>?_,fun a v hv=>by obtain ⟨rfl,rfl⟩:=hv;exact Xa htb 3⟩ (by simp [World.frozen?,htb]) (fun g₂ kk hg hck=>?_)
 ·obtain ⟨j,u,e1,e2,e3,_⟩:=H.chairs.oth i' s' (by rw [← hh];exact h1) h2 (fun j q=>by cases q)
  rw [e3];exact H.apart.ws j i u t e2 hi
 ·rw [a2]
  obtain ⟨x1,hx1⟩:∃ x1,x1=x.setChan t.wk 0 #[] false (kk + 1) (kk + 1) false:=⟨_,rfl⟩
  rw [← hx1];have H1:Xy g P none false x1:=by rw [hx1];exact H.gate.chan H.apart ⟨t,hmem,.inl rfl⟩
  have hs1:x1.heap.size=x.heap.size:=by rw [hx1];exact X8 _ _ _
  have hI1:S.I P.st.sh P.st.cells g.col x1:=S.frame hI _ _ (by omega) (fun q _ hq=>by rw [hx1];exact XK fun e=>hq (Qb hmem (by simp [e]))) fun _ _ h=>h;have hAt:=H1.atStep (S:=S) (h:=none) (by simp) H.apart H.addr hi hp hI1 hrc H.names (by have:=H.len;omega);refine (a4 g₂ hg).go _ _ _ g.rb g.mb g.N g.vT g.vL g.vW g.vR g.vF g.A P.st.names P.st.log _ rfl hAt (fun y vL' hacc=>?_);have hnc:¬ g.col (g.A r.cell):=by rw [H.addr];exact (S.cell hI1 _ hrc).2.2
  obtain ⟨HA,hapA⟩:=(H1.let he).access H.apart hi ⟨_,hAt.box⟩ hnc hacc;have hcol:∀ q,q < x1.heap.size→({ g with vL:=vL' }:Gs).col q→g.col q:=fun q hq h=>by
   rcases h with h|h|h|h|h|h|h|h|h
   ·exact .inl h
   ·exact .inr (.inl h)
   ·exact .inr (.inr (.inl h))
   ·exact .inr (.inr (.inr (.inl h)))
   ·rcases hacc.lnew with e|⟨b,e,e2⟩
    ·exact .inr (.inr (.inr (.inr (.inl (h.trans e)))))
    ·have h:some q=vL'.ownBlock:=h
     rw [e] at h;have:=OI h;omega
   ·exact .inr (.inr (.inr (.inr (.inr (.inl h)))))
   ·exact .inr (.inr (.inr (.inr (.inr (.inr (.inl h))))))
   ·exact .inr (.inr (.inr (.inr (.inr (.inr (.inr (.inl h)))))))
   ·exact .inr (.inr (.inr (.inr (.inr (.inr (.inr (.inr h)))))))
  have hI2:S.I P.st.sh (upd P.st.cells r.cell (P.st.ans r).now) ({ g with vL:=vL' }:Gs).col y:=by
   refine S.set hI1 _ _ _ _ hrc hacc.size (fun q hq h1 h2=>hacc.old q hq (fun e=>h1 (by simp [Gs.col,e])) (fun e=>h1 (Qb hmem (by simp [e]))) (fun e=>h1 (by simp [Gs.col,e])) (by rw [H.addr];exact h2) (fun e=>h1 (by simp [Gs.col,e]))) ?_ hcol
   have:=hacc.cell
   rw [H.addr] at this;exact this
  have hT2:=HA.thr i t hi;have e1:(some i == some i)=true:=by simp
  rw [e1] at hT2;obtain ⟨vv2,ao2,htb2,_⟩:=hT2.tbo;replace htb2:y.heap[t.tb]? = some (.cells (Yk g.rb i t.wk t.st vv2 ao2 false) 91 (2,4)):=by simpa using htb2
  have hgo:P.goes i = { ({ P with st:=P.st.access i r }:Xp Sh) with progs:=upd P.progs i ((k (P.st.ans r)).pass P.st.sh).2,st:={ (P.st.access i r) with sh:=((k (P.st.ans r)).pass P.st.sh).1 } }:=by
   simp only [Xp.goes,hp,Xp.settle];rfl
  rw [hgo] at hnext hfine;have hA1:=HA.rekeep (kept':=fun r=>g.kept r∧¬ g.pv i r) (x0':=g.x0) (pv':=upd g.pv i (fun _=>False)) fun r hr=>HA.kept r hr.1;have hap1:=hapA.rekeep (kept':=fun r=>g.kept r∧¬ g.pv i r) (x0':=g.x0) (pv':=upd g.pv i (fun _=>False)) fun r hr=>.inl hr.1;have hI3:S.I P.st.sh (upd P.st.cells r.cell (P.st.ans r).now) ({ g with vL:=vL',kept:=fun r=>g.kept r∧¬ g.pv i r,pv:=upd g.pv i (fun _=>False) }:Gs).col y:=S.frame hI2 _ _ (Nat.le_refl _) (fun _ _ _=>rfl) fun r _ h=>Or.imp (fun q=>q.1) id h;have hkc:∀ j a,S.keep j a→y.cell? a=x.cell? a:=fun j a ha=>by
   obtain ⟨q1,q2,q3⟩:=S.keepI hI j a ha;have e1:x1.heap[a.block]? = x.heap[a.block]?:=by rw [hx1];exact XK fun e=>q2 (Qb hmem (by simp [e]))
   refine World.cell?_of_block ((hacc.old a.block (by omega) (fun e=>q2 (by simp [Gs.col,e])) (fun e=>q2 (Qb hmem (by simp [e]))) (fun e=>q2 (by simp [Gs.col,e])) (by rw [H.addr];exact q3 _ hrc) (fun e=>q2 (by simp [Gs.col,e]))).trans e1)
  refine a5.2 _ y ({ g with vL:=vL',kept:=fun r=>g.kept r∧¬ g.pv i r,pv:=upd g.pv i (fun _=>False) }:Gs).col P.st.sh (upd P.st.cells r.cell (P.st.ans r).now) (P.st.ans r) rfl ⟨Xa htb2 0,Xa htb2 13,fun e=>by have:=HA.obj;rw [show ({ g with vL:=vL' }:Gs).rb=g.rb from rfl,e,htb2] at this;simp at this⟩ (Qb (g:=({ g with vL:=vL',kept:=fun r=>g.kept r∧¬ g.pv i r,pv:=upd g.pv i (fun _=>False) }:Gs)) hmem (by simp)) (fun q hq=>hA1.colLt hq) (fun q hq=>⟨fun h=>?_,(HA.kept q (H.pvs.kept i q hq).1).2⟩) (fun b hb=>(hkc i b hb).trans (H.kpc i hin (by simp) ⟨r,k,hp⟩ b hb)) (S.frame hI2 _ _ (Nat.le_refl _) (fun _ _ _=>rfl) fun r _ h=>h.elim (Or.imp (fun q=>q.1) id) fun h=>.inl (H.pvs.kept i r h).1) ?_
  ·have hq1:=hapA.kept q (H.pvs.kept i q hq).1
   have hq2:=H.pvs.thr i q hq;rcases h with h|h|h|h|h|h|h|h|⟨u,hu,h⟩
   ·exact h.2 hq
   ·exact hq1.1 h
   ·exact hq1.2.1 h
   ·exact hq1.2.2.1 h
   ·exact hq1.2.2.2.1 h
   ·exact hq1.2.2.2.2.1 h
   ·exact hq1.2.2.2.2.2.1 h
   ·exact hq1.2.2.2.2.2.2.1 h
   ·obtain ⟨z1,z2,z3,z4⟩:=hq1.2.2.2.2.2.2.2 u hu
    obtain ⟨z5,z6⟩:=hq2 u hu;rcases h with h|h|h|h|h|h
    ·exact z5 h
    ·exact z1 h
    ·exact z6 h
    ·exact z2 h
    ·exact z3 h
    ·exact z4 h
  have hnm:=H.names;have hln:=H.len;have hpvs:Xgl ({ g with vL:=vL',kept:=fun r=>g.kept r∧¬ g.pv i r,pv:=upd g.pv i (fun _=>False) }:Gs) F:=by
   have hj:∀ j r,upd g.pv i (fun _=>False) j r→j≠i∧g.pv j r:=fun j r h=>by
    by_cases e:j=i
    ·subst e;rw [upd_same] at h;exact h.elim
    ·rw [upd_ne _ _ e] at h;exact ⟨e,h⟩
   refine ⟨fun j r h=>?_,fun j j' r hne h h'=>H.pvs.dis j j' r hne (hj j r h).2 (hj j' r h').2,fun j r h=>H.pvs.thr j r (hj j r h).2,fun j r h=>H.pvs.lt j r (hj j r h).2⟩;obtain ⟨e,h⟩:=hj j r h;exact ⟨⟨(H.pvs.kept j r h).1,fun h'=>H.pvs.dis j i r e h h'⟩,(H.pvs.kept j r h).2⟩
  refine Xcr (g:=({ g with vL:=vL',kept:=fun r=>g.kept r∧¬ g.pv i r,pv:=upd g.pv i (fun _=>False) }:Gs)) (P:={ P with st:=P.st.access i r }) (F:=F) (c:=c) (cs:=cs) (va:=.tuple #[]) (sp:=Ya Post t.tb t.st c cs) ⟨hA1,hap1,H.rb,H.mb,H.N,fun r hr=>⟨H.kept r hr,fun e=>(H.pvs.kept i r e).2 hr⟩,H.x0,H.addr,fun q hq=>?_,?_,rfl,H.n,hmain,H.lo,H.low,H.io,rfl,fun j hj _=>H.live j hj (by simp),⟨fun i' s' h1 h2 h3=>?_,fun j u r' k' h1 h2 h3=>?_⟩,fun e=>(by cases e),hpvs,fun j hj _ hp a ha=>(hkc j a ha).trans (H.kpc j hj (by simp) hp a ha)⟩ hi ?_ rfl hcb hcs hfine (fun r=>by show ¬ upd g.pv i _ i r;rw [upd_same];exact id) (fun g₃ h3 C2 z2 v _ h=>h3 C2 z2 v h) hnext
  ·simp only [Rst.access] at hq
   split at hq
   ·exact hnm q hq
   ·rcases List.mem_append.1 hq with h|h
    ·exact hnm q h
    ·rw [List.mem_singleton.1 h];exact hrc
  ·simp only [Rst.access,List.length_append,List.length_singleton];omega
  ·replace h2:upd C.Ch C.h (some (Ya Post t.tb t.st c cs)) i'=some s':=h2
   rw [upd_ne _ _ (by omega)] at h2;exact H.chairs.oth i' s' h1 h2 (fun j q=>by cases q)
  ·obtain ⟨W',cb',cf',csf',q1,q2⟩:=H.chairs.less.chair j u r' k' h1 (by simp) h3
   have hji:j≠i:=fun e=>h2 (by rw [e]);refine ⟨W',cb',cf',csf',?_,?_⟩
   ·show upd C.Ch C.h (some (Ya Post t.tb t.st c cs)) (F.n0 + j)=_
    rw [upd_ne _ _ (by omega)];exact q1
   ·show _∧_∧_∧XR Post S j u.tb g.rb cb' m (upd g.pv i (fun _=>False) j) g.x0 QG k' cf' csf'∧_
    rw [upd_ne _ _ hji];exact q2
  ·show upd C.Ch C.h (some (Ya Post t.tb t.st c cs)) F.hm=_
   rw [hh];exact upd_same _ _ _
theorem Xfv {fb:FuncId} {cap:Array Value} {body:Xx Sh Unit} {vf:Value} {c:Frame} {cs:List Frame} (H:Stood Post S F g P m none C x) (hI:S.I P.st.sh P.st.cells g.col x) (hP:P.n < 64) (hB:Vu Post S P.n m fb cap body) (hvf:vf=.func (.func fb) #[] cap) (hfine:S.fin.f m (({ P with n:=P.n + 1 }:Xp Sh).settle P.n body))
 (hnext:∀ (g':Gs) (C':Ctx) (z:World) (tb:Nat),Stood Post S F g' (({ P with n:=P.n + 1 }:Xp Sh).settle P.n body) m none C' z→S.I (body.pass P.st.sh).1 P.st.cells g'.col z→JG Try.prog Post C' (G (c.finish (P0 tb)) cs) z) :
 JG Try.prog Post C (G (Frame.enter Try.prog 49 #[P0 g.rb,vf] .normal) (c::cs)) x:=by
 have hh:C.h=F.hm:=H.holds;have hmain:=H.main;have hn:=H.n;have hlenT:(g.thr.map fun t=>P0 t.tb).length=g.thr.length:=List.length_map _;have hlenF:(List.replicate g.thr.length (Value.bool false)).length=g.thr.length:=List.length_replicate;have hnum:=H.gate.num;refine Xfw (N:=g.N) (rb:=g.rb) (fb:=fb) (cap:=cap) (vT:=g.vT) (vF:=g.vF) (ths:=g.thr.map fun t=>P0 t.tb) (fls:=List.replicate g.thr.length (.bool false)) H.d (by omega) (by rw [H.lo,H.N];exact H.low) hB.has hvf H.gate.obj (by rw [hlenT];exact H.gate.ths) (by rw [hlenF];exact H.gate.fls) H.gate.low
  (Zp H.gate.ths fun cur=>by rw [H.gate.obj];simp) (Zp H.gate.fls fun cur=>by rw [H.gate.obj];simp) (fun q e=>Zp H.gate.fls fun cur e2=>by obtain ⟨c2,e3⟩:=X9 H.gate.ths e;rw [e3] at e2;simp at e2) (by omega) (by omega) (fun i s h1 h2=>?_) ?_
  (fun z0 cb sp sb vT' vF' tv tb wk st hsc hback hcb hcs B=>?_)
 ·obtain ⟨j,u,e1,e2,e3,_⟩:=H.chairs.oth i s (by omega) h2 (fun j q=>by cases q)
  obtain ⟨_,_,⟨k,e4⟩,_⟩:=H.gate.thr j u e2;rw [e3];exact (GE e4).1
 ·cases e:C.Ch C.n with
  | none=>rfl
  | some s =>
   obtain ⟨j,u,e1,e2,e3,_⟩:=H.chairs.oth _ s (by omega) e (fun j q=>by cases q)
   have:=(LE' e2).1
   omega
 ·obtain ⟨HG,hap⟩:=H.gate.begun (p:=(body.pass P.st.sh).2) H.apart (by simp) B
  have hi:(g.thr ++ [(⟨tv,tb,x.heap.size,wk,st,tb⟩:Th)])[P.n]? = some ⟨tv,tb,x.heap.size,wk,st,tb⟩:=by rw [← hnum];simp
  have hmem:(⟨tv,tb,x.heap.size,wk,st,tb⟩:Th)∈g.thr ++ [(⟨tv,tb,x.heap.size,wk,st,tb⟩:Th)]:=by simp
  have hcol:∀ q,q < x.heap.size→({ g with vT:=vT',vF:=vF',thr:=g.thr ++ [⟨tv,tb,x.heap.size,wk,st,tb⟩] }:Gs).col q→g.col q:=fun q hq h=>by
   have t1:=B.tvn.1;have t2:=B.tbn.1;have t3:=B.wkn.1;have t4:=B.stn.1;rcases h with h|h|h|h|h|h|h|h|⟨u,hu,h⟩
   ·exact .inl h
   ·exact .inr (.inl h)
   ·exact .inr (.inr (.inl h))
   ·rcases B.tnew with e|⟨b,e,e2⟩
    ·exact .inr (.inr (.inr (.inl (h.trans e))))
    ·have h:some q=vT'.ownBlock:=h
     rw [e] at h;have:=OI h;omega
   ·exact .inr (.inr (.inr (.inr (.inl h))))
   ·exact .inr (.inr (.inr (.inr (.inr (.inl h)))))
   ·exact .inr (.inr (.inr (.inr (.inr (.inr (.inl h))))))
   ·rcases B.fnew with e|⟨b,e,e2⟩
    ·exact .inr (.inr (.inr (.inr (.inr (.inr (.inr (.inl (h.trans e))))))))
    ·have h:some q=vF'.ownBlock:=h
     rw [e] at h;have:=OI h;omega
   ·rcases List.mem_append.1 hu with hu|hu
    ·exact Qb hu h
    ·rw [List.mem_singleton.1 hu] at h
     simp only at h
     omega
  have hI1:S.I P.st.sh P.st.cells ({ g with vT:=vT',vF:=vF',thr:=g.thr ++ [⟨tv,tb,x.heap.size,wk,st,tb⟩] }:Gs).col z0 :=
   S.frame hI _ _ B.size (fun q hq h1=>B.old q hq (fun e=>h1 (by simp [Gs.col,e])) (fun e=>h1 (by simp [Gs.col,e])) (fun e=>h1 (by simp [Gs.col,e]))) hcol
  have hT2:=HG.thr P.n _ hi;have e1:(some P.n == some P.n)=true:=by simp
  rw [e1] at hT2;obtain ⟨vv2,ao2,htb2,_⟩:=hT2.tbo;replace htb2:z0.heap[tb]? = some (.cells (Yk g.rb P.n wk st vv2 ao2 false) 91 (2,4)):=by simpa using htb2
  have hgo:({ P with n:=P.n + 1 }:Xp Sh).settle P.n body = { ({ P with n:=P.n + 1,progs:=upd P.progs P.n (body.pass P.st.sh).2 }:Xp Sh) with progs:=upd (upd P.progs P.n (body.pass P.st.sh).2) P.n (body.pass P.st.sh).2,st:={ P.st with sh:=(body.pass P.st.sh).1 } }:=by
   simp only [Xp.settle,XeK]
  rw [hgo] at hnext hfine;refine hB.go _ z0 _ P.st.sh P.st.cells tb g.rb cb rfl ⟨Xa htb2 0,Xa htb2 13,fun e=>by have:=HG.obj;rw [show ({ g with vT:=vT',vF:=vF',thr:=g.thr ++ [⟨tv,tb,x.heap.size,wk,st,tb⟩] }:Gs).rb=g.rb from rfl,e,htb2] at this;simp at this⟩ (Qb (g:={ g with vT:=vT',vF:=vF',thr:=g.thr ++ [⟨tv,tb,x.heap.size,wk,st,tb⟩] }) hmem (by simp)) (fun q hq=>HG.colLt hq) hI1 ?_;have hln:=H.len;have hpvs:Xgl { g with vT:=vT',vF:=vF',thr:=g.thr ++ [⟨tv,tb,x.heap.size,wk,st,tb⟩] } F:=by
   refine ⟨H.pvs.kept,H.pvs.dis,fun j r h u hu=>?_,fun j r h=>?_⟩
   ·rcases List.mem_append.1 hu with hu|hu
    ·exact H.pvs.thr j r h u hu
    ·rw [List.mem_singleton.1 hu]
     have h1:=(H.gate.kept r (H.pvs.kept j r h).1).1;have h2:=B.tvn.1;exact ⟨by show r≠tv;omega,by show r≠x.heap.size;omega⟩
   ·have:=H.pvs.lt j r h
    show j < (g.thr ++ [_]).length;rw [List.length_append];omega
  refine Xcr (F:=F) (t:=⟨tv,tb,x.heap.size,wk,st,tb⟩) (g:={ g with vT:=vT',vF:=vF',thr:=g.thr ++ [⟨tv,tb,x.heap.size,wk,st,tb⟩] }) (P:={ P with n:=P.n + 1,progs:=upd P.progs P.n (body.pass P.st.sh).2 }) (c:=c) (cs:=cs) (va:=P0 tb) (sp:=sp)
   ⟨HG,hap,H.rb,H.mb,H.N,H.kept,H.x0,H.addr,H.names,hln,rfl,by show C.n + 1=F.n0 + (P.n + 1);omega,hmain,H.lo,H.low,H.io,by show C.n=F.n0 + P.n;omega,fun j hj hj2=>?_,⟨fun i' s' h1 h2 h3=>?_,fun j u r' k' h1 h2 h3=>?_⟩,fun e=>(by cases e),hpvs,fun j hj hjn hp a ha=>?_⟩ hi ?_ hsc hcb hcs hfine (fun r hr=>by have:=H.pvs.lt P.n r hr;omega) hback (fun g' C' z _=>hnext g' C' z tb)
  ·have hjn:j≠P.n:=fun e=>hj2 (by rw [e])
   replace hj:j < P.n + 1:=hj;rcases H.live j (by omega) (by simp) with ⟨r,k,q⟩|⟨v',q⟩
   ·exact .inl ⟨r,k,(upd_ne _ _ hjn).trans q⟩
   ·exact .inr ⟨v',(upd_ne _ _ hjn).trans q⟩
  ·replace h2:upd (upd C.Ch C.n (some sb)) C.h (some sp) i'=some s':=h2
   have h4:=h3 P.n rfl;rw [upd_ne _ _ (by omega),upd_ne _ _ (by omega)] at h2;obtain ⟨j,u,e1,e2,e3,e4⟩:=H.chairs.oth i' s' h1 h2 (fun j q=>by cases q);have hj:=(LE' e2).1;refine ⟨j,u,e1,?_,e3,?_⟩
   ·show (g.thr ++ [_])[j]? = _
    rw [List.getElem?_append_left hj];exact e2
   ·show (upd P.progs P.n (body.pass P.st.sh).2 j).ended=false
    rw [upd_ne _ _ (by omega)];exact e4
  ·replace h1:(g.thr ++ [_])[j]? = some u:=h1
   have hjn:j≠P.n:=fun e=>h2 (by rw [e]);have hj:j < g.thr.length:=by
    have:=(LE' h1).1
    simp at this;omega
   rw [List.getElem?_append_left hj] at h1;replace h3:upd P.progs P.n (body.pass P.st.sh).2 j=.acc r' k':=h3;rw [upd_ne _ _ hjn] at h3;obtain ⟨W',cb',cf',csf',q1,q2⟩:=H.chairs.chair j u r' k' h1 (by simp) h3;refine ⟨W',cb',cf',csf',?_,q2⟩;show upd (upd C.Ch C.n (some sb)) C.h (some sp) (F.n0 + j)=_;rw [upd_ne _ _ (by omega),upd_ne _ _ (by omega)];exact q1
  ·have hjn':j≠P.n:=fun e=>hjn (by rw [e])
   obtain ⟨r',k',hp⟩:=hp;replace hp:upd P.progs P.n (body.pass P.st.sh).2 j=.acc r' k':=hp;rw [upd_ne _ _ hjn'] at hp;replace hj:j < P.n + 1:=hj;obtain ⟨q1,q2,_⟩:=S.keepI hI j a ha;exact (World.cell?_of_block (B.old a.block q1 (fun e=>q2 (by simp [Gs.col,e])) (fun e=>q2 (by simp [Gs.col,e])) (fun e=>q2 (by simp [Gs.col,e])))).trans (H.kpc j (by omega) (by simp) ⟨r',k',hp⟩ a ha)
  ·show upd (upd C.Ch C.n (some sb)) C.h (some sp) F.hm=_
   rw [hh];exact upd_same _ _ _

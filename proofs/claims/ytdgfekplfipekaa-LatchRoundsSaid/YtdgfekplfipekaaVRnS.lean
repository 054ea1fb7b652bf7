/- Between turns: what stands; how whoever has the token gives it back; a thread's turn. -/
import Derived.Test.YtdgfekplfipekaaVRnR
set_option linter.all false
set_option maxRecDepth 100000
set_option maxHeartbeats 16000000
namespace Go.Proofs.Ytdgfekplfipekaa
open Go.Conc Go.RowKit
open Go.ConcN (upd upd_same upd_ne)
structure Fix where
 rb:Nat
 mb:Nat
 N:Nat
 kept:Nat→Prop
 x0:World
 n0:Nat
 hm:Nat
 lo:Nat
 io:Os × Array (Nat × ByteArray)
structure Xgl (g:Gs) (F:Fix):Prop where
 kept:∀ j r,g.pv j r→g.kept r∧¬ F.kept r
 dis:∀ i j r,i≠j→g.pv i r→¬ g.pv j r
 thr:∀ j r,g.pv j r→∀ t∈g.thr,r≠t.tv∧r≠t.rv
 lt:∀ j r,g.pv j r→j < g.thr.length
section
variable {Sh:Type}
structure WN (Post:Value→World→Prop) (S:Zv Sh) (F:Fix) (g:Gs) (P:Xp Sh) (m:Nat) (h:Option Nat) (Ch:Nat→Option XL):Prop where
 oth:∀ (i:Nat) (s:XL),i≠F.hm→Ch i=some s→(∀ j,h=some j→i≠F.n0 + j)→∃ (j:Nat) (t:Th),i=F.n0 + j∧g.thr[j]? = some t∧s.c=t.wk∧(P.progs j).ended=false
 chair:∀ (j:Nat) (t:Th) (r:Ask) (k:Told→Xx Sh Unit),g.thr[j]? = some t→h≠some j→P.progs j=.acc r k→∃ (W:XL) (cb cf:Frame) (csf:List Frame),Ch (F.n0 + j)=some W∧W.c=t.wk∧(∀ a v,W.kn a v ↔ a=th t.tb 2∧v=.chan (some t.wk))∧(∀ gg,W.home gg→Uk Post t.tb t.ab j (g.A r.cell) r cf csf gg)∧XR Post S j t.tb g.rb cb m (g.pv j) g.x0 QG k cf csf∧r.Good∧r.cell < S.nc∧Zu Post t.rv t.tv t.tb t.st cb∧Zt Post t.rv t.tv t.tb t.st cb
structure Stood (Post:Value→World→Prop) (S:Zv Sh) (F:Fix) (g:Gs) (P:Xp Sh) (m:Nat) (h:Option Nat) (C:Ctx) (x:World):Prop where
 gate:Xy g P h false x
 apart:g.Apart
 rb:g.rb=F.rb
 mb:g.mb=F.mb
 N:g.N=F.N
 kept:∀ r,F.kept r→g.kept r
 x0:∀ r,F.kept r→g.x0.heap[r]? = F.x0.heap[r]?
 addr:g.A=S.A
 names:∀ c∈P.st.names,c < S.nc
 len:P.st.log.length + m≤65536
 d:C.d=0
 n:C.n=F.n0 + P.n
 main:F.hm < F.n0
 lo:C.lo=F.lo
 low:F.lo≤F.N
 io:C.io=F.io
 holds:C.h=h.elim F.hm fun i=>F.n0 + i
 live:∀ j,j < P.n→h≠some j→(∃ r k,P.progs j=.acc r k)∨(∃ v,P.progs j=.ret v)
 chairs:WN Post S F g P m h C.Ch
 fine:h=none→S.fin.f m P
 pvs:Xgl g F
 kpc:∀ j,j < P.n→h≠some j→(∃ r k,P.progs j=.acc r k)→∀ a,S.keep j a→x.cell? a=g.x0.cell? a
theorem XR.less {Post:Value→World→Prop} {S:Zv Sh} {num tb rb:Nat} {cb:Frame}:∀ (m:Nat) (Pv:Nat→Prop) (x0:World) (f:Told→Value) (k:Told→Xx Sh Unit) (c:Frame) (cs:List Frame),XR Post S num tb rb cb (m + 1) Pv x0 f k c cs→XR Post S num tb rb cb m Pv x0 f k c cs
 | 0,_,_,_,_,_,_,h=>h.1
 | m + 1,Pv,x0,f,k,c,cs,h=>by
  refine ⟨h.1,fun C x col sh cells a h1 h2 h3 h4 hp hk h5 h6=>h.2 C x col sh cells a h1 h2 h3 h4 hp hk h5 fun y Pv' e1 e2 ep e3 ek=>?_⟩
  have:=h6 y Pv' e1 e2 ep e3 ek
  revert this
  generalize ((k a).pass sh).2=p;cases p with
  | acc r k'=>exact fun q c' cs' e4 e5 e6=>q c' cs' e4 e5 (XR.less m _ _ _ k' c' cs' e6)
  | ret v=>exact id
  | fall=>exact id
  | out=>exact id
  | act f k'=>exact id
theorem XR.of_eq {Post:Value→World→Prop} {S:Zv Sh} {num tb rb:Nat} {cb:Frame} {m:Nat} {Pv:Nat→Prop} {x0 x1:World} {f:Told→Value} {k:Told→Xx Sh Unit} {c:Frame} {cs:List Frame} (h:XR Post S num tb rb cb m Pv x0 f k c cs) (h1:∀ r,Pv r→x1.heap[r]? = x0.heap[r]?) (h2:∀ a,S.keep num a→x1.cell? a=x0.cell? a):XR Post S num tb rb cb m Pv x1 f k c cs:=by
 cases m with
 | zero=>exact h
 | succ m=>exact ⟨h.1,fun C x col sh cells a e1 e2 e3 e4 ep ek e5 e6=>h.2 C x col sh cells a e1 e2 e3 e4 (fun r hr=>⟨(ep r hr).1,(ep r hr).2.trans (h1 r hr)⟩) (fun b hb=>(ek b hb).trans (h2 b hb)) e5 e6⟩
theorem WN.less {Post:Value→World→Prop} {S:Zv Sh} {F:Fix} {g:Gs} {P:Xp Sh} {m:Nat} {h:Option Nat} {Ch:Nat→Option XL} (H:WN Post S F g P (m + 1) h Ch):WN Post S F g P m h Ch:=by
 refine ⟨H.oth,fun j t r k e1 e2 e3=>?_⟩;obtain ⟨W,cb,cf,csf,a1,a2,a3,a4,a5,a6⟩:=H.chair j t r k e1 e2 e3;exact ⟨W,cb,cf,csf,a1,a2,a3,a4,XR.less _ _ _ _ _ _ _ a5,a6⟩
section
variable {g:Gs} {P:Xp Sh} {stops:Bool} {x:World}
theorem Xy.let {i:Nat} (H:Xy g P none stops x) (he:(P.progs i).ended=false):Xy g P (some i) stops x:=by
 refine ⟨H.obj,H.ths,H.fls,H.lg,H.wn,H.rd,H.map,H.num,fun j t hj=>?_,H.kept,H.low,H.abl⟩
 by_cases e:i=j
 ·subst e
  obtain ⟨h1,h2,h3,h4,⟨vv,a,h5,h6⟩,h7⟩:=H.thr i t hj;have e0:(some i == some i)=true:=by simp
  rw [e0];refine ⟨h1,h2,h3,h4,⟨vv,a,?_,fun q=>by cases q⟩,fun q=>by cases q⟩;have e1:((none:Option Nat) == some i)=false:=rfl;rw [e1,he] at h5;simpa using h5
 ·have e0:(some i == some j)=false:=by simp;exact e
  rw [e0];exact H.thr j t hj
theorem Xy.settled {i:Nat} {sh:Sh} {p:Xx Sh Unit} (H:Xy g P (some i) stops x):Xy g { P with progs:=upd P.progs i p,st:={ P.st with sh:=sh } } (some i) stops x:=by
 refine ⟨H.obj,H.ths,H.fls,H.lg,H.wn,H.rd,H.map,H.num,fun j t hj=>?_,H.kept,H.low,H.abl⟩
 by_cases e:i=j
 ·subst e
  have e0:(some i == some i)=true:=by simp
  have hT:=H.thr i t hj;rw [e0] at hT ⊢;obtain ⟨h1,h2,h3,h4,⟨vv,a,h5,h6⟩,h7⟩:=hT;exact ⟨h1,h2,h3,h4,⟨vv,a,by simpa using h5,fun q=>by cases q⟩,fun q=>by cases q⟩
 ·have e0:(some i == some j)=false:=by simp;exact e
  have hT:=H.thr j t hj;rw [e0] at hT ⊢;rw [show ({ P with progs:=upd P.progs i p,st:={ P.st with sh:=sh } }:Xp Sh).progs j=P.progs j from upd_ne _ _ (fun q=>e q.symm)];exact hT
end
theorem WG {w:World} {c k:Nat} (h:c < w.heap.size):(w.setChan c 0 #[] false k k false).heap[c]? = some (.chan 0 #[] false k k false):=by simp [World.setChan,h]
theorem XeU {l:List Th} {i:Nat} {t:Th} {v:Th} (hi:l[i]? = some t) {j:Nat} {u:Th} (hu:(l.set i v)[j]? = some u):(j=i∧u=v)∨(j≠i∧l[j]? = some u):=by
 rw [List.getElem?_set] at hu
 by_cases e:i=j
 ·subst e
  rw [if_pos rfl,if_pos (LE' hi).1] at hu;exact .inl ⟨rfl,(OI hu).symm⟩
 ·rw [if_neg e] at hu
  exact .inr ⟨fun e2=>e e2.symm,hu⟩
section
variable {Post:Value→World→Prop} {S:Zv Sh} {F:Fix} {g:Gs} {P:Xp Sh} {m:Nat} {C:Ctx} {x:World}
theorem Xy.rekeep {h:Option Nat} {stops:Bool} {kept':Nat→Prop} {x0':World} {pv':Nat→Nat→Prop} (H:Xy g P h stops x) (h1:∀ r,kept' r→r < x.heap.size∧x.heap[r]? = x0'.heap[r]?):Xy { g with kept:=kept',x0:=x0',pv:=pv' } P h stops x :=
 ⟨H.obj,H.ths,H.fls,H.lg,H.wn,H.rd,H.map,H.num,fun j t hj=>by
  obtain ⟨q1,q2,q3,q4,q5,q6⟩:=H.thr j t hj;exact ⟨q1,q2,q3,q4,q5,q6⟩,h1,H.low,H.abl⟩
theorem Gs.Apart.rekeep {kept':Nat→Prop} {x0':World} {pv':Nat→Nat→Prop} (H:g.Apart) (h1:∀ r,kept' r→g.kept r∨¬ g.col r):({ g with kept:=kept',x0:=x0',pv:=pv' }:Gs).Apart :=
 ⟨H.wr,H.tt,H.la,H.tb,H.ab,H.wk,H.ws,fun r hr=>by
  rcases h1 r hr with h|h
  ·exact H.kept r h
  ·have hc:∀ t∈g.thr,∀ q,(q=t.tv∨q=t.tb∨q=t.rv∨q=t.wk∨q=t.st∨q=t.ab)→r≠q:=fun t ht q hq e=>h (e ▸ .inr (.inr (.inr (.inr (.inr (.inr (.inr (.inr ⟨t,ht,hq⟩))))))))
   refine ⟨fun e=>h (by simp [Gs.col,e]),fun e=>h (by simp [Gs.col,e]),fun e=>h (by simp [Gs.col,e]),fun e=>h (by simp [Gs.col,e]),fun e=>h (by simp [Gs.col,e]),fun e=>h (by simp [Gs.col,e]),fun e=>h (by simp [Gs.col,e]),fun t ht=>⟨hc t ht _ (by simp),hc t ht _ (by simp),hc t ht _ (by simp),hc t ht _ (by simp)⟩⟩⟩
theorem Xcr {i:Nat} {t:Th} {sp:XL} {cb c:Frame} {cs:List Frame} {va:Value} {sh:Sh} {p:Xx Sh Unit} (H:Stood Post S F g P m (some i) C x) (hi:g.thr[i]? = some t) (hsp:C.Ch F.hm=some sp) (hc:sp.c=t.st)
 (hcb:Zu Post t.rv t.tv t.tb t.st cb) (hcs:Zt Post t.rv t.tv t.tb t.st cb) (hfine:S.fin.f m { P with progs:=upd P.progs i p,st:={ P.st with sh:=sh } }) (hpv:∀ r,¬ g.pv i r)
 (hback:∀ g₂,sp.home g₂→∀ (C2:Ctx) (z2:World) (v:Value),z2.cell? (th t.tv 0)=some (P0 t.tb)→JG Try.prog Post C2 (G (c.finish va) cs) z2→JG Try.prog Post C2 (Go.Conc.served g₂ v) z2)
 (hnext:∀ (g':Gs) (C':Ctx) (z:World),g'.thr.length=g.thr.length→Stood Post S F g' { P with progs:=upd P.progs i p,st:={ P.st with sh:=sh } } m none C' z→S.I sh P.st.cells g'.col z→JG Try.prog Post C' (G (c.finish va) cs) z) :
 Reach Post S i t.tb cb (fun Pv y=>XR Post S i t.tb g.rb cb m Pv y QG) C g.col P.st.cells x sh p:=by
 intro y Pv hsz hcol hPv hI hkp;have hIc:S.I sh P.st.cells g.col y:=S.frame hI _ _ (Nat.le_refl _) (fun _ _ _=>rfl) fun _ _ h=>.inl h;have hkI:=S.keepI hIc;have hkpx:∀ j,j < P.n→j≠i→(∃ r k,P.progs j=.acc r k)→∀ a,S.keep j a→y.cell? a=g.x0.cell? a:=fun j hj hji hp a ha=>(hkp j a hji ha).trans (H.kpc j hj (by simp;exact fun e=>hji e.symm) hp a ha);have H1:Xy g { P with progs:=upd P.progs i p,st:={ P.st with sh:=sh } } (some i) false y:=(H.gate.frame hcol hsz).settled;have hT:=H1.thr i t hi;have e0:(some i == some i)=true:=by simp
 rw [e0] at hT;obtain ⟨htv,hrv,⟨kw,hwk⟩,⟨ks,hst⟩,⟨vv,ao,htb,_⟩,_⟩:=hT;replace htb:y.heap[t.tb]? = some (.cells (Yk g.rb i t.wk t.st vv ao false) 91 (2,4)):=by simpa using htb
 have hhold:C.h=F.n0 + i:=H.holds;have hmain:=H.main;have hne:F.hm≠C.h:=by omega
 have hmem:t∈g.thr:=List.mem_of_getElem? hi;have hin:i < P.n:=by rw [← H.gate.num];exact (LE' hi).1
 have hcolT:∀ r,r=t.tv∨r=t.tb∨r=t.rv∨r=t.wk∨r=t.st∨r=t.ab→g.col r:=fun r h=>.inr (.inr (.inr (.inr (.inr (.inr (.inr (.inr ⟨t,hmem,h⟩)))))));have hown:∀ (i':Nat) (s':XL),i'≠C.h→C.Ch i'=some s'→s'.c≠t.wk:=fun i' s' h1 h2=>by
  by_cases e:i'=F.hm
  ·subst e
   rw [hsp] at h2;obtain rfl:=OI h2;rw [hc];exact fun e=>H.apart.ws i i t t hi hi e.symm
  ·obtain ⟨j,u,e1,e2,e3,_⟩:=H.chairs.oth i' s' e h2 (fun j q=>by obtain rfl:=OI q;omega)
   rw [e3];intro e4
   have:=H.apart.wk j i u t e2 hi e4
   omega
 cases p with
 | fall=>trivial
 | out=>exact S.fin.out hfine i hin (upd_same _ _ _)
 | act f k=>trivial
 | ret v0 =>
  intro v;have htv0:y.cell? (th t.tv 0)=some (P0 t.tb):=Xa htv 0;refine hcb _ _ _ ⟨⟨F.hm,sp,false,H.d,by omega,hne,hsp,hc,htv0,Xa htb 3,Xa htb 13,by simp [World.frozen?,htb],fun g₂ kk e1 e2=>?_⟩⟩;have hsb:t.st≠t.tb:=Yf hst htb (by simp);have hvb:t.tv≠t.tb:=Yf htv htb (by simp);have hvs:t.tv≠t.st:=Yf htv hst (by simp);have hlt:t.st < (y.setCell (th t.tb 13) (.bool true)).heap.size:=by rw [Xh];exact (GE hst).1
  have hz6:∀ q,q≠t.tb→q≠t.st→((y.setCell (th t.tb 13) (.bool true)).setChan t.st 0 #[] false (kk + 1) (kk + 1) false).heap[q]? = y.heap[q]?:=fun q h1 h2=>by rw [XK h2,Xb h1]
  have HG:=H1.ended (z:=(y.setCell (th t.tb 13) (.bool true)).setChan t.st 0 #[] false (kk + 1) (kk + 1) false) (kk:=kk + 1) (vv:=vv) (a:=ao) H.apart hi (by show (upd P.progs i (Xx.ret v0) i).ended=true;rw [upd_same];rfl)
   (by rw [XK (fun e=>hsb e.symm),Xd htb];rfl) hz6 (WG hlt) (by rw [X8,Xh])
  refine hback g₂ e1 _ _ _ (by rw [show ((y.setCell (th t.tb 13) (.bool true)).setChan t.st 0 #[] false (kk + 1) (kk + 1) false).cell? (th t.tv 0)=y.cell? (th t.tv 0) from by simp only [World.cell?];rw [hz6 _ hvb hvs]];exact htv0) ?_;refine hnext g _ _ rfl ⟨HG,H.apart,H.rb,H.mb,H.N,H.kept,H.x0,H.addr,H.names,H.len,rfl,H.n,hmain,H.lo,H.low,H.io,rfl,fun j hj _=>?_,⟨fun i' s' h1 h2 _=>?_,fun j u r k h1 _ h3=>?_⟩,fun _=>hfine,H.pvs,fun j hj _ hp a ha=>?_⟩ ?_
  ·by_cases e:j=i
   ·subst e;exact .inr ⟨_,upd_same _ _ _⟩
   ·rcases H.live j hj (by simp;exact fun q=>e q.symm) with ⟨r,k,q⟩|⟨v',q⟩
    ·exact .inl ⟨r,k,(upd_ne _ _ e).trans q⟩
    ·exact .inr ⟨v',(upd_ne _ _ e).trans q⟩
  ·replace h2:upd C.Ch C.h none i'=some s':=h2
   by_cases e:i'=C.h
   ·subst e;rw [upd_same] at h2;cases h2
   ·rw [upd_ne _ _ e] at h2
    obtain ⟨j,u,e1,e2,e3,e4⟩:=H.chairs.oth i' s' h1 h2 (fun j q=>by obtain rfl:=OI q;omega);exact ⟨j,u,e1,e2,e3,by show (upd P.progs i (Xx.ret v0) j).ended=false;rw [upd_ne _ _ (by rintro rfl;omega)];exact e4⟩
  ·replace h3:upd P.progs i (Xx.ret v0) j=Xx.acc r k:=h3
   have hji:j≠i:=by rintro rfl;rw [upd_same] at h3;cases h3
   rw [upd_ne _ _ hji] at h3;obtain ⟨W,cb',cf,csf,a1,a2⟩:=H.chairs.chair j u r k h1 (by simp;exact fun e=>hji e.symm) h3;exact ⟨W,cb',cf,csf,by show upd C.Ch C.h none (F.n0 + j)=_;rw [upd_ne _ _ (by omega)];exact a1,a2⟩
  ·obtain ⟨r,k,hp⟩:=hp
   replace hp:upd P.progs i (Xx.ret v0) j=Xx.acc r k:=hp;have hji:j≠i:=by rintro rfl;rw [upd_same] at hp;cases hp
   rw [upd_ne _ _ hji] at hp;obtain ⟨_,q2,_⟩:=hkI j a ha;have hz:=hz6 a.block (fun e=>q2 (hcolT _ (by simp [e]))) (fun e=>q2 (hcolT _ (by simp [e])));exact (World.cell?_of_block hz).trans (hkpx j hj hji ⟨r,k,hp⟩ a ha)
  ·exact S.frame hIc _ _ (by rw [X8,Xh];exact Nat.le_refl _) (fun r _ hr=>hz6 r (fun e=>hr (hcolT r (by simp [e]))) fun e=>hr (hcolT r (by simp [e]))) fun r _ h=>h
 | acc r k =>
  intro cf csf hr hrc haf;refine XfP (b:=S.A r.cell) (rb:=g.rb) (num:=i) (wk:=t.wk) (st:=t.st) (vv:=vv) (ao:=ao) hr H.d hne hsp hc htb (Xa H1.obj 6) (fun e=>by have:=H1.obj;rw [e,htb] at this;simp at this) (GE hwk).1 ⟨kw,hwk⟩ hown
   (fun y2 g₂ kk W ab w1 w2 w3 w4 w5 w6 w7 w8 w9 w10=>?_)
  have hlt:t.st < y2.heap.size:=(GE w5).1;have hz6:∀ q,q≠t.st→(y2.setChan t.st 0 #[] false (kk + 1) (kk + 1) false).heap[q]? = y2.heap[q]?:=fun q h=>XK h;have hupd:upd P.progs i (Xx.acc r k) i=.acc r k:=upd_same _ _ _;obtain ⟨HG,hap⟩:=H1.stand (z:=y2.setChan t.st 0 #[] false (kk + 1) (kk + 1) false) (y:=y2) (kk:=kk + 1) (r:=r) (k:=k) H.apart hi hupd w6 w7 w8 (by rw [H.addr];exact w9) w10 hz6 (by simp [World.setChan,hlt]) (X8 _ _ _);have hvb:t.tv≠t.tb:=Yf htv htb (by simp);have hvs:t.tv≠t.st:=Yf htv hst (by simp);have hg':∀ (j:Nat) (u:Th),(g.thr.set i { t with ab:=ab })[j]? = some u→(j=i∧u = { t with ab:=ab })∨(j≠i∧g.thr[j]? = some u):=fun j u hu=>XeU hi hu;refine hback g₂ w4 _ _ _ (by
   simp only [World.cell?];rw [hz6 _ hvs,w10 _ hvb (GE htv).1];exact Xa htv 0) ?_
  have hold:∀ q,q < y.heap.size→q≠t.tb→q≠t.st→(y2.setChan t.st 0 #[] false (kk + 1) (kk + 1) false).heap[q]? = y.heap[q]?:=fun q hq h1 h2=>by rw [hz6 q h2,w10 q h1 hq]
  have hsz2:y.heap.size≤(y2.setChan t.st 0 #[] false (kk + 1) (kk + 1) false).heap.size:=by rw [X8];omega
  have hcol':∀ q,q < y.heap.size→({ g with thr:=g.thr.set i { t with ab:=ab } }:Gs).col q→g.col q:=fun q hq h=>by
   rcases h with h|h|h|h|h|h|h|h|⟨u,hu,h⟩
   ·exact .inl h
   ·exact .inr (.inl h)
   ·exact .inr (.inr (.inl h))
   ·exact .inr (.inr (.inr (.inl h)))
   ·exact .inr (.inr (.inr (.inr (.inl h))))
   ·exact .inr (.inr (.inr (.inr (.inr (.inl h)))))
   ·exact .inr (.inr (.inr (.inr (.inr (.inr (.inl h))))))
   ·exact .inr (.inr (.inr (.inr (.inr (.inr (.inr (.inl h)))))))
   ·obtain ⟨j,hj⟩:=List.getElem?_of_mem hu
    rcases hg' j u hj with ⟨rfl,rfl⟩|⟨_,hj'⟩
    ·refine hcolT q ?_
     rcases h with h|h|h|h|h|h
     ·exact .inl h
     ·exact .inr (.inl h)
     ·exact .inr (.inr (.inl h))
     ·exact .inr (.inr (.inr (.inl h)))
     ·exact .inr (.inr (.inr (.inr (.inl h))))
     ·have:q=ab:=h
      omega
    ·exact .inr (.inr (.inr (.inr (.inr (.inr (.inr (.inr ⟨u,List.mem_of_getElem? hj',h⟩)))))))
  have hkz:∀ j a,S.keep j a→(y2.setChan t.st 0 #[] false (kk + 1) (kk + 1) false).cell? a=y.cell? a:=fun j a ha=>by
   obtain ⟨q1,q2,_⟩:=hkI j a ha;exact World.cell?_of_block (hold a.block q1 (fun e=>q2 (hcolT _ (by simp [e]))) (fun e=>q2 (hcolT _ (by simp [e]))))
  have hPz:∀ r,Pv r→(y2.setChan t.st 0 #[] false (kk + 1) (kk + 1) false).heap[r]? = y.heap[r]?:=fun r hr=>by
   obtain ⟨q1,q2⟩:=hPv r hr;exact hold r q1 (fun e=>q2 (hcolT _ (by simp [e]))) (fun e=>q2 (hcolT _ (by simp [e])))
  have HG2:=HG.rekeep (kept':=fun r=>g.kept r∨Pv r) (x0':=y2.setChan t.st 0 #[] false (kk + 1) (kk + 1) false) (pv':=upd g.pv i Pv) fun r hr=>⟨hr.elim (fun h=>(HG.kept r h).1) fun h=>by have:=(hPv r h).1;omega,rfl⟩
  have hap2:=hap.rekeep (kept':=fun r=>g.kept r∨Pv r) (x0':=y2.setChan t.st 0 #[] false (kk + 1) (kk + 1) false) (pv':=upd g.pv i Pv) fun r hr=>hr.imp id fun h hc=>(hPv r h).2 (hcol' r (hPv r h).1 hc);have hpvj:∀ j r,upd g.pv i Pv j r→(j=i∧Pv r)∨(j≠i∧g.pv j r):=fun j r h=>by
   by_cases e:j=i
   ·subst e;rw [upd_same] at h;exact .inl ⟨rfl,h⟩
   ·rw [upd_ne _ _ e] at h;exact .inr ⟨e,h⟩
  have hpvs:Xgl { g with thr:=g.thr.set i { t with ab:=ab },kept:=fun r=>g.kept r∨Pv r,x0:=y2.setChan t.st 0 #[] false (kk + 1) (kk + 1) false,pv:=upd g.pv i Pv } F:=by
   refine ⟨fun j r h=>?_,fun j j' r hne h h'=>?_,fun j r h u hu=>?_,fun j r h=>?_⟩
   ·rcases hpvj j r h with ⟨_,h⟩|⟨_,h⟩
    ·exact ⟨.inr h,fun e=>(hPv r h).2 (.inl (H.kept r e))⟩
    ·exact ⟨.inl (H.pvs.kept j r h).1,(H.pvs.kept j r h).2⟩
   ·rcases hpvj j r h with ⟨e,h⟩|⟨_,h⟩
    ·rcases hpvj j' r h' with ⟨e',_⟩|⟨_,h'⟩
     ·exact hne (e.trans e'.symm)
     ·exact (hPv r h).2 (.inl (H.pvs.kept j' r h').1)
    ·rcases hpvj j' r h' with ⟨_,h'⟩|⟨_,h'⟩
     ·exact (hPv r h').2 (.inl (H.pvs.kept j r h).1)
     ·exact H.pvs.dis j j' r hne h h'
   ·obtain ⟨l,hl⟩:=List.getElem?_of_mem hu
    have:∃ v∈g.thr,u.tv=v.tv∧u.rv=v.rv:=by
     rcases hg' l u hl with ⟨rfl,rfl⟩|⟨_,hl'⟩
     ·exact ⟨t,hmem,rfl,rfl⟩
     ·exact ⟨u,List.mem_of_getElem? hl',rfl,rfl⟩
    obtain ⟨v,hv,e1,e2⟩:=this;rw [e1,e2];rcases hpvj j r h with ⟨_,h⟩|⟨_,h⟩
    ·have hc:∀ q,(q=v.tv∨q=v.tb∨q=v.rv∨q=v.wk∨q=v.st∨q=v.ab)→r≠q:=fun q hq e=>(hPv r h).2 (e ▸ .inr (.inr (.inr (.inr (.inr (.inr (.inr (.inr ⟨v,hv,hq⟩))))))))
     exact ⟨hc _ (by simp),hc _ (by simp)⟩
    ·exact H.pvs.thr j r h v hv
   ·show j < (g.thr.set i _).length
    rw [List.length_set];rcases hpvj j r h with ⟨e,_⟩|⟨_,h⟩
    ·rw [e];exact (LE' hi).1
    ·exact H.pvs.lt j r h
  refine hnext _ _ _ (by simp) ⟨HG2,hap2,H.rb,H.mb,H.N,fun r hr=>.inl (H.kept r hr),fun r hr=>(HG.kept r (H.kept r hr)).2.trans (H.x0 r hr),H.addr,H.names,H.len,rfl,H.n,hmain,H.lo,H.low,H.io,rfl,fun j hj _=>?_,⟨fun i' s' h1 h2 _=>?_,fun j u r' k' h1 _ h3=>?_⟩,fun _=>hfine,hpvs,fun j _ _ _ a _=>rfl⟩ ?_
  ·by_cases e:j=i
   ·subst e;exact .inl ⟨_,_,upd_same _ _ _⟩
   ·rcases H.live j hj (by simp;exact fun q=>e q.symm) with ⟨r',k',q⟩|⟨v',q⟩
    ·exact .inl ⟨r',k',(upd_ne _ _ e).trans q⟩
    ·exact .inr ⟨v',(upd_ne _ _ e).trans q⟩
  ·replace h2:upd C.Ch C.h (some W) i'=some s':=h2
   by_cases e:i'=C.h
   ·subst e
    rw [upd_same] at h2;obtain rfl:=OI h2;refine ⟨i,{ t with ab:=ab },hhold,?_,w1,?_⟩
    ·show (g.thr.set i { t with ab:=ab })[i]? = _
     rw [List.getElem?_set,if_pos rfl,if_pos (LE' hi).1]
    ·show (upd P.progs i (Xx.acc r k) i).ended=false
     rw [hupd];rfl
   ·rw [upd_ne _ _ e] at h2
    obtain ⟨j,u,e1,e2,e3,e4⟩:=H.chairs.oth i' s' h1 h2 (fun j q=>by obtain rfl:=OI q;omega);have hji:j≠i:=by rintro rfl;omega
    refine ⟨j,u,e1,?_,e3,?_⟩
    ·show (g.thr.set i { t with ab:=ab })[j]? = _
     rw [List.getElem?_set,if_neg (fun e=>hji e.symm)];exact e2
    ·show (upd P.progs i (Xx.acc r k) j).ended=false
     rw [upd_ne _ _ hji];exact e4
  ·rcases hg' j u h1 with ⟨rfl,rfl⟩|⟨hji,h1'⟩
   ·replace h3:upd P.progs j (Xx.acc r k) j=Xx.acc r' k':=h3
    rw [hupd] at h3;injection h3 with e1 e2
    subst e1;subst e2;refine ⟨W,cb,cf,csf,?_,w1,w2,?_,?_,hr,hrc,hcb,hcs⟩
    ·show upd C.Ch C.h (some W) (F.n0 + j)=_
     rw [← hhold];exact upd_same _ _ _
    ·show ∀ gg,W.home gg→Uk Post t.tb ab j (g.A r.cell) r cf csf gg
     rw [H.addr];exact w3
    ·show XR Post S j t.tb g.rb cb m (upd g.pv j Pv j) (y2.setChan t.st 0 #[] false (kk + 1) (kk + 1) false) QG k cf csf
     rw [upd_same];exact haf.of_eq hPz fun a ha=>hkz j a ha
   ·replace h3:upd P.progs i (Xx.acc r k) j=Xx.acc r' k':=h3
    rw [upd_ne _ _ hji] at h3;obtain ⟨W',cb',cf',csf',a1,a2,a3,a4,a5,a6⟩:=H.chairs.chair j u r' k' h1' (by simp;exact fun e=>hji e.symm) h3;refine ⟨W',cb',cf',csf',?_,a2,a3,a4,?_,a6⟩
    ·show upd C.Ch C.h (some W) (F.n0 + j)=_
     rw [upd_ne _ _ (by omega)];exact a1
    ·show XR Post S j u.tb g.rb cb' m (upd g.pv i Pv j) (y2.setChan t.st 0 #[] false (kk + 1) (kk + 1) false) QG k' cf' csf'
     rw [upd_ne _ _ hji];have hjn:j < P.n:=by rw [← H.gate.num];exact (LE' h1').1
     exact a5.of_eq (fun r hr=>(HG.kept r (H.pvs.kept j r hr).1).2) fun a ha=>(hkz j a ha).trans (hkpx j hjn hji ⟨r',k',h3⟩ a ha)
  ·refine S.frame hI _ _ (by rw [X8];omega) (fun q hq hr=>?_) fun q hq h=>?_
   ·exact hold q hq (fun e=>hr (.inl (hcolT q (by simp [e])))) (fun e=>hr (.inl (hcolT q (by simp [e]))))
   ·rcases h with (h|h)|h
    ·exact .inl (.inl h)
    ·exact .inr h
    ·exact .inl (hcol' q hq (.inr h))

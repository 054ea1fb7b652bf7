/- Barrier.Arrive, called by a thread that lives. -/
import Derived.Test.YtdgfekplfipekaaVLrA
import Derived.Test.YtdgfekplfipekaaVLbF
import Derived.Test.YtdgfekplfipekaaVTkN
set_option linter.all false
set_option maxRecDepth 100000
set_option maxHeartbeats 16000000
namespace Go.Proofs.Ytdgfekplfipekaa
open Go.Conc Go.RowKit
open Go.ConcN (upd upd_same upd_ne)
set_option maxRecDepth 100000
section
variable {Post:Value→World→Prop} {q:Lq} {num tb rb:Nat} {cb:Frame} {F:Nat}
end
def muR (N m:Nat) (ph:Nat→PhR):Nat:=sumTo (fun i=>(ph i).pot m) N
structure RInv (B N m R:Nat) (ph:Nat→PhR) (P:Xp RSh):Prop where
 n:P.n=N
 pr:∀ i,i < N→P.progs i=(ph i).prog (B:Nat) N m
 rnd:P.st.cells 0=(R:Nat)
 Rm:R≤m
 ok:∀ i,i < N→(ph i).okR m R
 cnt:P.st.cells 1=((if sumTo (fun i=>(ph i).tt) N=0 then sumTo (fun i=>(ph i).wt R) N + sumTo (fun i=>(ph i).st) N else 0:Nat):Int)
 full:sumTo (fun i=>(ph i).st) N≠0→sumTo (fun i=>(ph i).wt R) N + 1=N∧B=N
 less:sumTo (fun i=>(ph i).st) N=0→sumTo (fun i=>(ph i).wt R) N < B
 come:∀ k,k < m→P.st.sh.come k=(sumTo (fun i=>(ph i).beg k) N:Nat)
 last:∀ k,k < m→P.st.sh.last k=((if k < R then 1 else 0:Nat):Int)
 wrong:P.st.sh.wrong=false
 lack:B≠N→R=0
theorem sumTo_updv {α:Type} {w:α→Nat} {ph:Nat→α} {q n a b:Nat} {p p0:α} (hq:q < n) (hp:ph q=p0) (ha:w p0=a) (hb:w p=b):sumTo (fun i=>w (upd ph q p i)) n + a=sumTo (fun i=>w (ph i)) n + b:=by
 have:=sumTo_upd (w:=w) (ph:=ph) (p:=p) hq
 rw [hp,ha,hb] at this;exact this
section
variable {B N m R:Nat} {ph:Nat→PhR} {P Q:Xp RSh} {q:Nat}
theorem RInv.prs {p:PhR} (h:RInv B N m R ph P) (hpr:Q.progs=upd P.progs q (p.prog (B:Nat) N m)):∀ i,i < N→Q.progs i=(upd ph q p i).prog (B:Nat) N m:=fun i hi=>by
 rw [hpr]
 by_cases e:i=q
 ·subst e;rw [upd_same,upd_same]
 ·rw [upd_ne _ _ e,upd_ne _ _ e];exact h.pr i hi
theorem RInv.all (h:RInv B N m R ph P) {k:Nat} (hk:k < m) (hR:k < R):P.st.sh.come k=(N:Nat):=by
 rw [h.come k hk,sumTo_allone fun i hi=>?_]
 have:=h.ok i hi
 cases hp:ph i<;>rw [hp] at this<;>simp only [PhR.okR] at this<;>simp only [PhR.beg]<;>(try rw [if_pos (by omega)])
theorem begs {p:PhR} (p':PhR) {j:Nat} (hb:p'.beg j=p.beg j) (hq:q < N) (hp:ph q=p):sumTo (fun i=>(upd ph q p' i).beg j) N=sumTo (fun i=>(ph i).beg j) N:=by
 have s:=sumTo_upd (w:=PhR.beg j) (ph:=ph) (p:=p') hq;rw [hp,hb] at s
 omega
end
theorem RInv.turn {B N m R:Nat} (hBN:N≤B) (hN:N < 1000) (hm:m < 1000) {ph:Nat→PhR} {P:Xp RSh} (h:RInv B N m R ph P) {q:Nat} (hq:q∈P.able):∃ R' ph',RInv B N m R' ph' (P.turn q)∧muR N m ph' + 1≤muR N m ph:=by
 obtain ⟨hn,r,kr,hp,h6⟩:=Xp.able_acc hq;rw [h.n] at hn;have hpr:=h.pr q hn;have hok:=h.ok q hn;have hws:∀ i,i < N→(fun i=>(ph i).wt R + (ph i).st) i≤1:=fun i _=>PhR.wt_st R (ph i);have hsum:sumTo (fun i=>(ph i).wt R + (ph i).st) N=_:=sumTo_add;have htt:=sumTo_le (f:=fun i=>(ph i).tt) (g:=fun i=>(ph i).st) (d:=0) (n:=N) fun i _=>PhR.tt_st _;have hcnt:=h.cnt;cases hph:ph q with
 | E=>rw [hph] at hpr;rw [hpr] at hp;cases hp
 | A k =>
  rw [hph] at hpr hok;obtain ⟨rfl,hkm⟩:=hok;obtain ⟨kk,e1,e2⟩:=rA_next (B:=(B:Nat)) (N:=N) (m:=m) (k:=k);have ht:=Xp.turn_acc (hpr.trans e1);rw [e2 _ _ h.rnd] at ht;have hc0:(P.turn q).st.cells 0=P.st.cells 0:=by rw [ht];simp [upd,Rst.ans,behind]
  have hc1:(P.turn q).st.cells 1=P.st.cells 1:=by rw [ht];simp [upd]
  have s1:=sumTo_updv (w:=PhR.wt k) (p:=.B k) (a:=0) (b:=0) hn hph rfl rfl;have s2:=sumTo_updv (w:=PhR.st) (p:=.B k) (a:=0) (b:=0) hn hph rfl rfl;have s3:=sumTo_updv (w:=PhR.tt) (p:=.B k) (a:=0) (b:=0) hn hph rfl rfl;have s4:=sumTo_updv (w:=PhR.pot m) (p:=.B k) (a:=4 * (m - k)) (b:=4 * (m - k) - 1) hn hph rfl rfl;simp only [Nat.add_zero] at s1 s2 s3;refine ⟨k,upd ph q (.B k),⟨by rw [ht];exact h.n,h.prs (by rw [ht]),by rw [hc0];exact h.rnd,h.Rm,updR_all (P:=fun i p=>p.okR m k) (fun i hi _=>h.ok i hi) ⟨rfl,hkm⟩,by rw [hc1,s1,s2,s3];exact hcnt,by rw [s1,s2];exact h.full,by rw [s1,s2];exact h.less,fun j hj=>?_,by rw [ht];exact h.last,by rw [ht];exact h.wrong,h.lack⟩,by unfold muR;omega⟩;rw [begs (p:=.A k) (.B k) rfl hn hph,ht];exact h.come j hj
 | B k =>
  rw [hph] at hpr hok;obtain ⟨rfl,hkm⟩:=hok;have hmiss:=sumTo_miss hws hn (by show (ph q).wt k + (ph q).st=0;rw [hph];rfl);rw [hsum] at hmiss;have hst0:sumTo (fun i=>(ph i).st) N=0:=by
   by_cases e:sumTo (fun i=>(ph i).st) N=0
   ·exact e
   ·have:=(h.full e).1;omega
  have htt0:sumTo (fun i=>(ph i).tt) N=0:=by omega
  rw [if_pos htt0,hst0,Nat.add_zero] at hcnt;have hless:=h.less hst0;obtain ⟨kk,e1,e2,e3⟩:=rB_next (B:=(B:Nat)) (N:=N) (m:=m) (k:=k);have ht:=Xp.turn_acc (hpr.trans e1);have hnow:(P.st.ans ⟨4,1,1,0⟩).now=((sumTo (fun i=>(ph i).wt k) N + 1:Nat):Int):=by
   show wrap64 (P.st.cells 1 + 1)=_;rw [hcnt,wrap_small (by omega) (by omega)];rfl
  have hc0:(P.turn q).st.cells 0=P.st.cells 0:=by rw [ht];simp [upd]
  have hc1:(P.turn q).st.cells 1=((sumTo (fun i=>(ph i).wt k) N + 1:Nat):Int):=by rw [ht];show upd P.st.cells 1 (P.st.ans ⟨4,1,1,0⟩).now 1=_;rw [upd_same];exact hnow
  by_cases hB:sumTo (fun i=>(ph i).wt k) N + 1=B
  ·rw [e2 _ _ (by rw [hnow,hB])] at ht
   have s1:=sumTo_updv (w:=PhR.wt k) (p:=.S k) (a:=0) (b:=0) hn hph rfl rfl;have s2:=sumTo_updv (w:=PhR.st) (p:=.S k) (a:=0) (b:=1) hn hph rfl rfl;have s3:=sumTo_updv (w:=PhR.tt) (p:=.S k) (a:=0) (b:=0) hn hph rfl rfl;have s4:=sumTo_updv (w:=PhR.pot m) (p:=.S k) (a:=4 * (m - k) - 1) (b:=4 * (m - k) - 2) hn hph rfl rfl;simp only [Nat.add_zero] at s1 s2 s3;refine ⟨k,upd ph q (.S k),⟨by rw [ht];exact h.n,h.prs (by rw [ht]),by rw [hc0];exact h.rnd,h.Rm,updR_all (P:=fun i p=>p.okR m k) (fun i hi _=>h.ok i hi) ⟨rfl,hkm⟩,by rw [hc1,s1,s2,s3,if_pos htt0,hst0],fun _=>by rw [s1];omega,fun e=>by omega,fun j hj=>?_,by rw [ht];exact h.last,by rw [ht];exact h.wrong,h.lack⟩,by unfold muR;omega⟩;rw [begs (p:=.B k) (.S k) rfl hn hph,ht];exact h.come j hj
  ·rw [e3 _ _ (by rw [hnow];omega)] at ht
   have s1:=sumTo_updv (w:=PhR.wt k) (p:=.P k) (a:=0) (b:=1) hn hph rfl (if_pos rfl);have s2:=sumTo_updv (w:=PhR.st) (p:=.P k) (a:=0) (b:=0) hn hph rfl rfl;have s3:=sumTo_updv (w:=PhR.tt) (p:=.P k) (a:=0) (b:=0) hn hph rfl rfl;have s4:=sumTo_updv (w:=PhR.pot m) (p:=.P k) (a:=4 * (m - k) - 1) (b:=4 * (m - k) - 2) hn hph rfl rfl;simp only [Nat.add_zero] at s1 s2 s3;refine ⟨k,upd ph q (.P k),⟨by rw [ht];exact h.n,h.prs (by rw [ht]),by rw [hc0];exact h.rnd,h.Rm,updR_all (P:=fun i p=>p.okR m k) (fun i hi _=>h.ok i hi) ⟨.inl rfl,hkm⟩,by rw [hc1,s1,s2,s3,if_pos htt0,hst0],fun e=>by rw [s2] at e;exact absurd hst0 e,fun _=>by rw [s1];omega,fun j hj=>?_,by rw [ht];exact h.last,by rw [ht];exact h.wrong,h.lack⟩,by unfold muR;omega⟩;rw [begs (p:=.B k) (.P k) rfl hn hph,ht];exact h.come j hj
 | P k =>
  rw [hph] at hpr hok;obtain ⟨hkR,hkm⟩:=hok;have hr:r=⟨6,0,(k:Nat),0⟩:=by have:=hpr.symm.trans hp;injection this with e1 e2;exact e1.symm
  have hne:P.st.cells 0≠(k:Nat):=by rw [hr] at h6;exact h6 rfl
  rw [h.rnd] at hne;have hkR':k + 1=R:=by omega
  subst hkR';have ht:=Xp.turn_acc hpr;rw [gR_pass (h.all hkm (Nat.lt_succ_self k)) h.wrong] at ht;have hc0:(P.turn q).st.cells 0=P.st.cells 0:=by rw [ht];simp [upd,Rst.ans,behind]
  have hc1:(P.turn q).st.cells 1=P.st.cells 1:=by rw [ht];simp [upd]
  obtain ⟨p,hpd⟩:∃ p,p=PhR.nxt m k:=⟨_,rfl⟩
  rw [← hpd] at ht;have p1:p.wt (k + 1)=0:=by rw [hpd];unfold PhR.nxt;split<;>rfl
  have p2:p.st=0:=by rw [hpd];unfold PhR.nxt;split<;>rfl
  have p3:p.tt=0:=by rw [hpd];unfold PhR.nxt;split<;>rfl
  have p4:p.pot m + 1≤4 * (m - k) - 2:=by rw [hpd];unfold PhR.nxt;split<;>simp only [PhR.pot]<;>omega
  have p5:p.okR m (k + 1):=by rw [hpd];unfold PhR.nxt;split;exact ⟨rfl,by omega⟩;show k + 1=m;omega
  have s1:=sumTo_updv (w:=PhR.wt (k + 1)) (p:=p) (a:=0) (b:=0) hn hph (if_neg (by omega)) p1;have s2:=sumTo_updv (w:=PhR.st) (p:=p) (a:=0) (b:=0) hn hph rfl p2;have s3:=sumTo_updv (w:=PhR.tt) (p:=p) (a:=0) (b:=0) hn hph rfl p3;have s4:=sumTo_updv (w:=PhR.pot m) (p:=p) (a:=4 * (m - k) - 2) (b:=p.pot m) hn hph rfl rfl;simp only [Nat.add_zero] at s1 s2 s3;refine ⟨k + 1,upd ph q p,⟨by rw [ht];exact h.n,h.prs (by rw [ht]),by rw [hc0];exact h.rnd,h.Rm,updR_all (P:=fun i p=>p.okR m (k + 1)) (fun i hi _=>h.ok i hi) p5,by rw [hc1,s1,s2,s3];exact hcnt,by rw [s1,s2];exact h.full,by rw [s1,s2];exact h.less,fun j hj=>?_,by rw [ht];exact h.last,by rw [ht],h.lack⟩,by unfold muR;omega⟩;have s5:=sumTo_upd (w:=PhR.beg j) (ph:=ph) (p:=p) hn;rw [hph] at s5;have hb:p.beg j=(PhR.P k).beg j + if j=k + 1 then 1 else 0:=by
   rw [hpd];unfold PhR.nxt
   split
   ·simp only [PhR.beg]
    by_cases a:j≤k
    ·rw [if_pos a,if_pos (by omega),if_neg (by omega)]
    ·rw [if_neg a]
     by_cases b:j=k + 1
     ·rw [if_pos (by omega),if_pos b]
     ·rw [if_neg (by omega),if_neg b]
   ·simp only [PhR.beg]
    rw [if_pos (by omega),if_neg (by omega)]
  rw [hb] at s5;have hcj:=h.come j hj;rw [ht];show (if k + 1 < m then upd P.st.sh.come (k + 1) (wrap64 (P.st.sh.come (k + 1) + 1)) else P.st.sh.come) j=_;have hle:sumTo (fun i=>(ph i).beg j) N≤N:=sumTo_ones fun i _=>PhR.beg_le j _
  by_cases e:j=k + 1
  ·subst e
   rw [if_pos hj,upd_same,hcj,wrap_small (by omega) (by omega)];rw [if_pos rfl] at s5
   omega
  ·rw [if_neg e] at s5
   have:(if k + 1 < m then upd P.st.sh.come (k + 1) (wrap64 (P.st.sh.come (k + 1) + 1)) else P.st.sh.come) j=P.st.sh.come j:=by split;exact upd_ne _ _ e;rfl
   rw [this,hcj]
   omega
 | S k =>
  rw [hph] at hpr hok;obtain ⟨rfl,hkm⟩:=hok;obtain ⟨kk,e1,e2⟩:=rS_next (B:=(B:Nat)) (N:=N) (m:=m) (k:=k);have ht:=Xp.turn_acc (hpr.trans e1);rw [e2 _ _] at ht;have hc0:(P.turn q).st.cells 0=P.st.cells 0:=by rw [ht];simp [upd]
  have hc1:(P.turn q).st.cells 1=0:=by rw [ht];simp [upd,Rst.ans,behind]
  have s1:=sumTo_updv (w:=PhR.wt k) (p:=.T k) (a:=0) (b:=0) hn hph rfl rfl;have s2:=sumTo_updv (w:=PhR.st) (p:=.T k) (a:=1) (b:=1) hn hph rfl rfl;have s3:=sumTo_updv (w:=PhR.tt) (p:=.T k) (a:=0) (b:=1) hn hph rfl rfl;have s4:=sumTo_updv (w:=PhR.pot m) (p:=.T k) (a:=4 * (m - k) - 2) (b:=4 * (m - k) - 3) hn hph rfl rfl;simp only [Nat.add_zero] at s1 s2 s3;have s2':sumTo (fun i=>(upd ph q (.T k) i).st) N=sumTo (fun i=>(ph i).st) N:=by omega
  refine ⟨k,upd ph q (.T k),⟨by rw [ht];exact h.n,h.prs (by rw [ht]),by rw [hc0];exact h.rnd,h.Rm,updR_all (P:=fun i p=>p.okR m k) (fun i hi _=>h.ok i hi) ⟨rfl,hkm⟩,by rw [hc1,if_neg (by omega)];rfl,by rw [s1,s2'];exact h.full,by rw [s1,s2'];exact h.less,fun j hj=>?_,by rw [ht];exact h.last,by rw [ht];exact h.wrong,h.lack⟩,by unfold muR;omega⟩;rw [begs (p:=.S k) (.T k) rfl hn hph,ht];exact h.come j hj
 | T k =>
  rw [hph] at hpr hok;obtain ⟨rfl,hkm⟩:=hok;have ht1:1≤sumTo (fun i=>(ph i).tt) N:=Nat.le_trans (Nat.le_of_eq (show 1=(ph q).tt by rw [hph];rfl)) (sumTo_pos (f:=fun i=>(ph i).tt) hn);have ht2:1≤sumTo (fun i=>(ph i).st) N:=Nat.le_trans (Nat.le_of_eq (show 1=(ph q).st by rw [hph];rfl)) (sumTo_pos (f:=fun i=>(ph i).st) hn);obtain ⟨f1,f2⟩:=h.full (by omega);rw [if_neg (by omega)] at hcnt;have hoth:∀ i,i < N→i≠q→(ph i).wt k=1:=sumTo_full (f:=fun i=>(ph i).wt k) (fun i hi=>by have:=PhR.wt_st k (ph i);show (ph i).wt k≤1;omega) hn (by show (ph q).wt k=0;rw [hph];rfl) f1;have hothP:∀ i,i < N→i≠q→ph i=.P k:=fun i hi hne=>by
   have:=hoth i hi hne
   cases hp:ph i<;>rw [hp] at this<;>simp only [PhR.wt] at this
   ·exact absurd this (by omega)
   ·exact absurd this (by omega)
   ·rename_i k'
    by_cases e:k'=k
    ·rw [e]
    ·rw [if_neg e] at this;exact absurd this (by omega)
   ·exact absurd this (by omega)
   ·exact absurd this (by omega)
   ·exact absurd this (by omega)
  have hck:P.st.sh.come k=(N:Nat):=by
   rw [h.come k hkm,sumTo_allone fun i hi=>?_]
   by_cases e:i=q
   ·subst e;rw [hph];simp [PhR.beg]
   ·rw [hothP i hi e];simp [PhR.beg]
  have ht:=Xp.turn_acc hpr;rw [gR_pass hck h.wrong] at ht;have hc0:(P.turn q).st.cells 0=((k + 1:Nat):Int):=by
   rw [ht];show upd P.st.cells 0 (wrap64 (P.st.cells 0 + 1)) 0=_;rw [upd_same,h.rnd,wrap_small (by omega) (by omega)];rfl
  have hc1:(P.turn q).st.cells 1=P.st.cells 1:=by rw [ht];simp [upd]
  obtain ⟨p,hpd⟩:∃ p,p=PhR.nxt m k:=⟨_,rfl⟩
  rw [← hpd] at ht;have p1:p.wt (k + 1)=0:=by rw [hpd];unfold PhR.nxt;split<;>rfl
  have p2:p.st=0:=by rw [hpd];unfold PhR.nxt;split<;>rfl
  have p3:p.tt=0:=by rw [hpd];unfold PhR.nxt;split<;>rfl
  have p4:p.pot m + 1≤4 * (m - k) - 3:=by rw [hpd];unfold PhR.nxt;split<;>simp only [PhR.pot]<;>omega
  have p5:p.okR m (k + 1):=by rw [hpd];unfold PhR.nxt;split;exact ⟨rfl,by omega⟩;show k + 1=m;omega
  have z1:sumTo (fun i=>(upd ph q p i).wt (k + 1)) N=0:=sumTo_zero fun i hi=>updR_all (P:=fun i p=>p.wt (k + 1)=0) (fun i hi hne=>by rw [hothP i hi hne];simp [PhR.wt]) p1 i hi;have z2:sumTo (fun i=>(upd ph q p i).st) N=0:=sumTo_zero fun i hi=>updR_all (P:=fun i p=>p.st=0) (fun i hi hne=>by rw [hothP i hi hne];rfl) p2 i hi;have z3:sumTo (fun i=>(upd ph q p i).tt) N=0:=sumTo_zero fun i hi=>updR_all (P:=fun i p=>p.tt=0) (fun i hi hne=>by rw [hothP i hi hne];rfl) p3 i hi;have s4:=sumTo_updv (w:=PhR.pot m) (p:=p) (a:=4 * (m - k) - 3) (b:=p.pot m) hn hph rfl rfl;refine ⟨k + 1,upd ph q p,⟨by rw [ht];exact h.n,h.prs (by rw [ht]),hc0,by omega,updR_all (P:=fun i p=>p.okR m (k + 1)) (fun i hi hne=>by rw [hothP i hi hne];exact ⟨.inr rfl,hkm⟩) p5,by rw [hc1,z1,z2,z3,if_pos rfl];exact hcnt,fun e=>absurd z2 e,fun _=>by rw [z1];omega,fun j hj=>?_,fun j hj=>?_,by rw [ht],fun e=>absurd f2 e⟩,by unfold muR;omega⟩
  ·have s5:=sumTo_upd (w:=PhR.beg j) (ph:=ph) (p:=p) hn
   rw [hph] at s5;have hb:p.beg j=(PhR.T k).beg j + if j=k + 1 then 1 else 0:=by
    rw [hpd];unfold PhR.nxt
    split
    ·simp only [PhR.beg]
     by_cases a:j≤k
     ·rw [if_pos a,if_pos (by omega),if_neg (by omega)]
     ·rw [if_neg a]
      by_cases b:j=k + 1
      ·rw [if_pos (by omega),if_pos b]
      ·rw [if_neg (by omega),if_neg b]
    ·simp only [PhR.beg]
     rw [if_pos (by omega),if_neg (by omega)]
   rw [hb] at s5;have hcj:=h.come j hj;rw [ht];show (if k + 1 < m then upd P.st.sh.come (k + 1) (wrap64 (P.st.sh.come (k + 1) + 1)) else P.st.sh.come) j=_;have hle:sumTo (fun i=>(ph i).beg j) N≤N:=sumTo_ones fun i _=>PhR.beg_le j _
   by_cases e:j=k + 1
   ·subst e
    rw [if_pos hj,upd_same,hcj,wrap_small (by omega) (by omega)];rw [if_pos rfl] at s5
    omega
   ·rw [if_neg e] at s5
    have:(if k + 1 < m then upd P.st.sh.come (k + 1) (wrap64 (P.st.sh.come (k + 1) + 1)) else P.st.sh.come) j=P.st.sh.come j:=by split;exact upd_ne _ _ e;rfl
    rw [this,hcj]
    omega
  ·have hl:=h.last j hj
   rw [ht];show upd P.st.sh.last k (wrap64 (P.st.sh.last k + 1)) j=_
   by_cases e:j=k
   ·subst e
    rw [upd_same,hl,if_neg (by omega),if_pos (by omega)];exact wrap_small (by omega) (by omega)
   ·rw [upd_ne _ _ e,hl]
    by_cases a:j < k
    ·rw [if_pos a,if_pos (by omega)]
    ·rw [if_neg a,if_neg (by omega)]
theorem RInv.run {B N m:Nat} (hBN:N≤B) (hN:N < 1000) (hm:m < 1000) {sched:List Nat→List Nat→Nat} (hs:Xp.Picks sched):∀ (f R:Nat) (ph:Nat→PhR) (P:Xp RSh),RInv B N m R ph P→muR N m ph≤f→∃ R' ph',RInv B N m R' ph' (P.runs sched f).2∧((P.runs sched f).1=1∧(P.runs sched f).2.over=true∨(P.runs sched f).1=3∧(P.runs sched f).2.over=false∧(P.runs sched f).2.able = [])
 | f,R,ph,P,h,hf=>by
  by_cases h1:P.over=true
  ·have:P.runs sched f=(1,P):=by unfold Xp.runs;rw [if_pos h1]
   rw [this];exact ⟨R,ph,h,.inl ⟨rfl,h1⟩⟩
  ·replace h1:P.over=false:=by simpa using h1
   by_cases h2:P.able = []
   ·have:P.runs sched f=(3,P):=by unfold Xp.runs;rw [if_neg (by simp [h1]),if_pos h2]
    rw [this];exact ⟨R,ph,h,.inr ⟨rfl,h1,h2⟩⟩
   ·obtain ⟨R',ph',i1,i2⟩:=h.turn hBN hN hm (hs P.st.went P.able h2)
    match f with
    | 0=>omega
    | f + 1 =>
     have:P.runs sched (f + 1)=(P.turn (sched P.st.went P.able)).runs sched f:=by
      conv=>lhs;unfold Xp.runs
      rw [if_neg (by simp [h1]),if_neg h2]
     rw [this];exact RInv.run hBN hN hm hs f R' ph' _ i1 (by omega)
section
variable {Sh:Type} {Post:Value→World→Prop} {S:Zv Sh} {num tb rb:Nat} {cb:Frame} {Pv:Nat→Prop} {c:Frame} {cs:List Frame} {bb:Nat} {B:Int}
def BarS (S:Zv Sh) (bb:Nat) (B:Int):Prop:=1 < S.nc∧∀ {sh:Sh} {cells:Nat→Int} {col:Nat→Prop} {x:World},S.I sh cells col x→x.cell? (th bb 0)=some (.int .i64 B)∧x.cell? (th bb 1)=some (P0 (S.A 0))∧x.cell? (th bb 2)=some (P0 (S.A 1))∧x.cell? (th (S.A 0) 1)=some (.bool true)∧x.cell? (th (S.A 1) 1)=some (.bool true)
def arW (B:Int) (Post:Value→World→Prop) (S:Zv Sh) (num tb rb:Nat) (cb:Frame) (Pv:Nat→Prop) (x:World) (k:Told→Xx Sh Unit) (C:Ctx):Nat→(Nat→Value)→Ctx→World→Prop
 | 0,_,C',y=>C'=C∧y=x
 | 1,cv,C',y=>∃ a m col sh cells,cv 0=.int .i64 a.now∧TSt Post S num tb rb cb m C' y y col Pv sh cells (k a)∧(∀ r,Pv r→y.heap[r]? = x.heap[r]?)∧∀ b,S.keep num b→y.cell? b=x.cell? b
 | _,cv,C',y=>∃ a m col sh cells,(cv 0=.int .i64 a.now∧cv 1=.bool (a.now != B))∧TSt Post S num tb rb cb m C' y y col Pv sh cells (k a)∧(∀ r,Pv r→y.heap[r]? = x.heap[r]?)∧∀ b,S.keep num b→y.cell? b=x.cell? b
theorem arrive_T (hS:BarS S bb B) (hB:(B == 0)=false) (hs:Yq Post cb c cs) {g:Int × Bool→Xx Sh Unit} {m:Nat} {C:Ctx} {x0 x:World} {col:Nat→Prop} {sh:Sh} {cells:Nat→Int} (h:TSt Post S num tb rb cb m C x0 x col Pv sh cells ((arrP B).bind g)) (hn:NextC Post S num tb rb cb Pv x (fun e=>.tuple #[.int .i64 e.1,.bool e.2,.int .i64 0]) g c cs) :
 JG Try.prog Post C (G (Frame.enter Try.prog 19 #[P0 bb,P0 tb] .normal) (c::cs)) x:=by
 obtain ⟨b0,b1,b2,m0,m1⟩:=hS.2 h.I;replace h:=HD h;replace hn:=HD hn;refine Xu Try.func19 (by rfl) (by rfl) ?_;simp only [Try.f19,Option.getD_some];walk_nrm
 repeat refine kx ?_
 refine kf (args:=#[P0 (S.A 0),P0 tb]) Try.func13 ?_;refine load_T (i:=0) (k:=fun a=>.acc ⟨4,1,1,0⟩ fun b=>(if b.now=B then Xx.acc ⟨2,1,0,0⟩ fun _=>.acc ⟨4,0,1,0⟩ fun _=>.ret (a.was,true) else .acc ⟨6,0,a.was,0⟩ fun _=>.ret (a.was,false):Xx Sh (Int × Bool)).bind g) h.out (Nat.lt_of_succ_lt hS.1) m0 (Yq.up hs fun C x h=>JG.raise rfl Try.func19 h) fun m' C' y col' sh' cells' a hT hp hk=>?_;rw [Frame.finish_at]
 try walk_nrm
 clear h b0 b1 b2 m0 m1;obtain ⟨b0,b1,b2,m0,m1⟩:=hS.2 hT.I;dsimp only at hT;generalize a.was=r at hT ⊢;have hn1:NextC Post S num tb rb cb Pv y (fun e=>.tuple #[.int .i64 e.1,.bool e.2,.int .i64 0]) g c cs:=fun m3 C3 w col3 sh3 cells3 e hT3 hp3 hk3=>hn.out m3 C3 w col3 sh3 cells3 e hT3 (fun r hr=>(hp3 r hr).trans (hp r hr)) (fun q hq=>(hk3 q hq).trans (hk q hq));clear hn hp hk;replace hT:=HD hT;replace hn1:=HD hn1
 repeat refine kx ?_
 refine JG.drawChain 12 (fun i=>if i=6 then some 0 else if i=11 then some 1 else none) (arW B Post S num tb rb cb Pv y (fun b=>(if b.now=B then Xx.acc ⟨2,1,0,0⟩ fun _=>.acc ⟨4,0,1,0⟩ fun _=>.ret (r,true) else .acc ⟨6,0,r,0⟩ fun _=>.ret (r,false):Xx Sh (Int × Bool)).bind g) C') 2 [some 30,some 35] (fun _=>undef) (by kernel_rfl) (by kernel_rfl) (by kernel_rfl) (by decide) (by decide) ⟨rfl,rfl⟩ ?_;apply Exists.intro;apply And.intro
 ·intro s hs1 cv C2 z hW
  have hz:z.cell? (th bb 0)=some (.int .i64 B)∧z.cell? (th bb 1)=some (P0 (S.A 0))∧z.cell? (th bb 2)=some (P0 (S.A 1)):=by
   rcases (show s=0∨s=1∨s=2 by omega) with rfl|rfl|rfl
   ·obtain ⟨_,rfl⟩:=hW;exact ⟨b0,b1,b2⟩
   ·obtain ⟨a,m2,col2,sh2,cells2,_,hT2,_⟩:=hW
    obtain ⟨q0,q1,q2,_⟩:=hS.2 hT2.I;exact ⟨q0,q1,q2⟩
   ·obtain ⟨a,m2,col2,sh2,cells2,_,hT2,_⟩:=hW
    obtain ⟨q0,q1,q2,_⟩:=hS.2 hT2.I;exact ⟨q0,q1,q2⟩
  obtain ⟨z0,z1,z2⟩:=hz;replace hW:=HD hW;simp only [List.take]
  repeat first|(refine CPass.rd (by rfl) (fun K hK τ d=>?_);go_simp;refine hK _ ?_;clear hK K τ d)|(refine CPass.rd (by rfl) (fun K hK τ d=>?_);have hfact:=uc τ d (z0);go_simp;refine hK _ ?_;clear hfact hK K τ d)|(refine CPass.rd (by rfl) (fun K hK τ d=>?_);have hfact:=uc τ d (z1);go_simp;refine hK _ ?_;clear hfact hK K τ d)|(refine CPass.rd (by rfl) (fun K hK τ d=>?_);have hfact:=uc τ d (z2);go_simp;refine hK _ ?_;clear hfact hK K τ d)
  refine CPass.ch (by rfl) (fun hq0=>?_) ?_
  ·subst hq0
   refine ChStep.call 39 #[P0 (S.A 1),P0 tb,.int .i64 1] rfl rfl (by decide) (fun w=>?_) (fun w=>?_) (fun a' L hda hc=>?_)
   iterate 2 (focus obtain ⟨fn, h1, h2, h3⟩ : Yb 39 := ⟨_, Try.func39, by kernel_rfl, by kernel_rfl⟩; have h4 : ¬ fn.name = "runtime.NumGoroutine" := (by simpa using h2); have h5 : ¬ fn.body = none := (by intro e; rw [e] at h3; cases h3); simp [go_sem, execOp, Act.eval, resolve, Deferred.ofValue, invoke, callFunc, h1, h4, h5])
   ·obtain ⟨rfl,rfl⟩:=hW.out
    refine add_T (i:=1) hT.out hS.1 m1 (Yq.up hs fun C x h=>JG.raise hda Try.func19 h) fun m2 C2 y2 col2 sh2 cells2 a2 hT2 hp2 hk2=>?_;exact hc _ _ _ ⟨a2,m2,col2,sh2,cells2,cvUp_same,hT2,hp2,hk2⟩
  try walk_nrm
  repeat first|(refine CPass.rd (by rfl) (fun K hK τ d=>?_);go_simp;refine hK _ ?_;clear hK K τ d)|(refine CPass.rd (by rfl) (fun K hK τ d=>?_);have hfact:=uc τ d (z0);go_simp;refine hK _ ?_;clear hfact hK K τ d)|(refine CPass.rd (by rfl) (fun K hK τ d=>?_);have hfact:=uc τ d (z1);go_simp;refine hK _ ?_;clear hfact hK K τ d)|(refine CPass.rd (by rfl) (fun K hK τ d=>?_);have hfact:=uc τ d (z2);go_simp;refine hK _ ?_;clear hfact hK K τ d)
  refine CPass.ch (by rfl) (fun hq0=>?_) ?_
  ·subst hq0
   obtain ⟨a,m2,col2,sh2,cells2,hcv,hT2,hp2,hk2⟩:=hW.out;refine ChStep.op (F:=F0) Uv (fun h=>by cases h) rfl rfl rfl (by decide) (fun K hK τ d=>?_);replace hK:=HD hK;rw [hcv];go_simp;exact hK.out _ _ _ _ ⟨a,m2,col2,sh2,cells2,⟨(cvUp_ne (by decide)).trans hcv,cvUp_same⟩,hT2,hp2,hk2⟩
  try walk_nrm
  exact CPass.nil rfl
 ·apply And.intro
  ·intro cv
   rfl
  ·intro cv C2 z hW
   obtain ⟨a,m2,col2,sh2,cells2,⟨hcv,hcv1⟩,hT2,hp2,hk2⟩:=hW;dsimp only at hT2;clear hT b0 b1 b2 m0 m1;obtain ⟨b0,b1,b2,m0,m1⟩:=hS.2 hT2.I;have hn2:NextC Post S num tb rb cb Pv z (fun e=>.tuple #[.int .i64 e.1,.bool e.2,.int .i64 0]) g c cs:=fun m3 C3 w col3 sh3 cells3 e hT3 hp3 hk3=>hn1.out m3 C3 w col3 sh3 cells3 e hT3 (fun r hr=>(hp3 r hr).trans (hp2 r hr)) (fun q hq=>(hk3 q hq).trans (hk2 q hq));clear hn1 hp2 hk2;rw [hcv,hcv1];replace hn2:=HD hn2;clear hcv hcv1;show JG _ _ _ (G ((base _).at _ (.inRegion _ []::_)) _) _
   by_cases hq:a.now=B
   ·rw [if_pos hq] at hT2
    have hx:(a.now != B)=false:=by simp [hq]
    rw [hx];replace hT2:=HD hT2;clear hq
    repeat refine kx ?_
    refine kf (args:=#[P0 (S.A 1),P0 tb,.int .i64 0]) Try.func14 ?_;refine store_T (i:=1) (k:=fun _=>(.acc ⟨4,0,1,0⟩ fun _=>.ret (r,true):Xx Sh (Int × Bool)).bind g) hT2.out hS.1 m1 (Yq.up hs fun C x h=>JG.raise rfl Try.func19 h) fun m3 C3 w col3 sh3 cells3 a3 hT3 hp3 hk3=>?_;rw [Frame.finish_at]
    try walk_nrm
    clear hT2 b0 b1 b2 m0 m1 hx;obtain ⟨b0,b1,b2,m0,m1⟩:=hS.2 hT3.I;have hn3:NextC Post S num tb rb cb Pv w (fun e=>.tuple #[.int .i64 e.1,.bool e.2,.int .i64 0]) g c cs:=fun m4 C4 w4 col4 sh4 cells4 e hT4 hp4 hk4=>hn2.out m4 C4 w4 col4 sh4 cells4 e hT4 (fun r hr=>(hp4 r hr).trans (hp3 r hr)) (fun q hq=>(hk4 q hq).trans (hk3 q hq));clear hn2 hp3 hk3;replace hT3:=HD hT3;replace hn3:=HD hn3
    repeat refine kx ?_
    refine kf (args:=#[P0 (S.A 0),P0 tb,.int .i64 1]) Try.func39 ?_;refine add_T (i:=0) (k:=fun _=>g (r,true)) hT3.out (Nat.lt_of_succ_lt hS.1) m0 (Yq.up hs fun C x h=>JG.raise rfl Try.func19 h) fun m4 C4 w4 col4 sh4 cells4 a4 hT4 hp4 hk4=>?_;rw [Frame.finish_at]
    try walk_nrm
    have hz:=hn3.out m4 C4 w4 col4 sh4 cells4 (r,true) hT4 hp4 hk4;clear hT3 hn3 b0 b1 b2 m0 m1 hT4 hp4 hk4;replace hz:=HD hz
    repeat refine kx ?_
    refine JG.ret ?_;exact JG.leave rfl rfl Try.func19 (fun τ d=>results_tmp3 (t:=4) (u:=5) (w:=6) rfl _ _ _) hz.out
   ·rw [if_neg hq] at hT2
    have hx:(a.now != B)=true:=by simp [hq]
    rw [hx];replace hT2:=HD hT2;clear hq
    repeat refine kx ?_
    refine kf (args:=#[P0 (S.A 0),P0 tb,.int .i64 r]) Try.func30 ?_;refine park_T (i:=0) (k:=fun _=>g (r,false)) hT2.out (Nat.lt_of_succ_lt hS.1) m0 (Yq.up hs fun C x h=>JG.raise rfl Try.func19 h) fun m3 C3 w col3 sh3 cells3 a3 hT3 hp3 hk3=>?_;rw [Frame.finish_at]
    try walk_nrm
    have hz:=hn2.out m3 C3 w col3 sh3 cells3 (r,false) hT3 hp3 hk3;clear hT2 hn2 b0 b1 b2 m0 m1 hT3 hp3 hk3;replace hz:=HD hz
    repeat refine kx ?_
    refine JG.ret ?_;exact JG.leave rfl rfl Try.func19 (fun τ d=>results_tmp3 (t:=4) (u:=5) (w:=6) rfl _ _ _) hz.out

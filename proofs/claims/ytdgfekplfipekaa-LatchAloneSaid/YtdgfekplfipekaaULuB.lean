/- A lock that threads take again and again: one turn, and the run. No program in sight. -/
import Derived.Test.YtdgfekplfipekaaULuA
set_option linter.all false
set_option maxRecDepth 100000
set_option maxHeartbeats 16000000
namespace Go.Proofs.Ytdgfekplfipekaa
open Go.Conc Go.RowKit
open Go.ConcN (upd upd_same upd_ne)
namespace PhA
def rem:PhA→Nat
 | .S k | .W _ k | .Z _ k | .C k | .D k _=>k + 1
 | .U k=>k
 | .E=>0
def holds:PhA→Nat
 | .C _ | .D _ _ | .U _=>1
 | _=>0
def ins:PhA→Nat
 | .C _ | .D _ _=>1
 | _=>0
def pot (W:Nat) (c:Int):PhA→Nat
 | .S k=>7 + W * (k + 1)
 | .W _ k=>5 + W * (k + 1)
 | .Z _ k=>(if c=2 then 4 else 6) + W * (k + 1)
 | .C k=>3 + W * (k + 1)
 | .D k _=>2 + W * (k + 1)
 | .U k=>1 + W * (k + 1)
 | .E=>0
def okF (M:Nat):PhA→Prop
 | .W f _ | .Z f _=>M≤f
 | _=>True
def okV (c:Int):PhA→Prop
 | .D _ v=>v=c
 | _=>True
theorem okF.less {M M':Nat} (h:M'≤M):∀ {p:PhA},p.okF M→p.okF M'
 | .S ..,_=>trivial
 | .W ..,k=>Nat.le_trans h k
 | .Z ..,k=>Nat.le_trans h k
 | .C ..,_=>trivial
 | .D ..,_=>trivial
 | .U ..,_=>trivial
 | .E,_=>trivial
theorem pot_le (W:Nat) (c c':Int) (p:PhA):p.pot W c'≤p.pot W c + 2:=by
 cases p<;>simp only [pot]<;>(try split)<;>(try split)<;>omega
theorem pot_le0 (W:Nat) {c:Int} (c':Int) (hc:c≠2) (p:PhA):p.pot W c'≤p.pot W c:=by
 cases p<;>simp only [pot]<;>(try rw [if_neg hc])<;>(try split)<;>omega
end PhA
theorem updA_all {P:Nat→PhA→Prop} {ph:Nat→PhA} {q N:Nat} {p:PhA} (h:∀ i,i < N→P i (ph i)) (hq:P q p):∀ i,i < N→P i (upd ph q p i):=fun i hi=>by
 by_cases e:i=q
 ·subst e;rw [upd_same];exact hq
 ·rw [upd_ne _ _ e];exact h i hi
theorem sumTo_two_le {f:Nat→Nat} {i j:Nat}:∀ {n:Nat},i < j→j < n→f i + f j≤sumTo f n
 | 0,_,h=>absurd h (by omega)
 | n + 1,hij,hj=>by
  simp only [sumTo]
  by_cases e:j=n
  ·subst e;have:=sumTo_pos (f:=f) (n:=j) hij;omega
  ·have:=sumTo_two_le (f:=f) (n:=n) hij (by omega);omega
def muA (N W:Nat) (ph:Nat→PhA) (c:Int):Nat:=sumTo (fun i=>(ph i).pot W c) N
structure AInv (N F tot:Nat) (tr:Nat→Bool) (ph:Nat→PhA) (P:Xp ASh):Prop where
 n:P.n=N
 pr:∀ i,i < N→P.progs i=(ph i).prog (F + 1) (tr i)
 one:sumTo (fun i=>(ph i).holds) N≤1
 zero:P.st.cells 0=0 ↔ sumTo (fun i=>(ph i).holds) N=0
 inside:P.st.sh.inside=(sumTo (fun i=>(ph i).ins) N:Nat)
 wrong:P.st.sh.wrong=false
 held:P.st.sh.held=P.st.cells 1
 pos:0≤P.st.cells 1
 few:P.st.cells 1 + (sumTo (fun i=>(ph i).rem) N:Nat)≤tot
 all:(∀ i,i < N→tr i=false)→P.st.cells 1 + (sumTo (fun i=>(ph i).rem) N:Nat)=tot
 val:∀ i,i < N→(ph i).okV (P.st.cells 1)
 fuel:∀ i,i < N→(ph i).okF (muA N (2 * N + 8) ph (P.st.cells 0))
 top:muA N (2 * N + 8) ph (P.st.cells 0)≤F
theorem AInv.go {N F tot:Nat} {tr:Nat→Bool} {ph:Nat→PhA} {P Q:Xp ASh} (h:AInv N F tot tr ph P) {q:Nat} (hq:q < N) {p:PhA} (hn:Q.n=P.n) (hpr:Q.progs=upd P.progs q (p.prog (F + 1) (tr q)))
 (hw:Q.st.sh.wrong=false) (hone:sumTo (fun i=>(upd ph q p i).holds) N≤1) (hzero:Q.st.cells 0=0 ↔ sumTo (fun i=>(upd ph q p i).holds) N=0) (hin:Q.st.sh.inside + (ph q).ins=P.st.sh.inside + p.ins)
 (hheld:Q.st.sh.held=Q.st.cells 1) (hpos:0≤Q.st.cells 1) (hfew:Q.st.cells 1 + p.rem≤P.st.cells 1 + (ph q).rem) (hall:tr q=false→Q.st.cells 1 + p.rem=P.st.cells 1 + (ph q).rem) (hval:∀ i,i < N→(upd ph q p i).okV (Q.st.cells 1))
 (hmu:muA N (2 * N + 8) (upd ph q p) (Q.st.cells 0) + 1≤muA N (2 * N + 8) ph (P.st.cells 0)) (hok:∀ M,M + 1≤muA N (2 * N + 8) ph (P.st.cells 0)→p.okF M):AInv N F tot tr (upd ph q p) Q:=by
 have s1:=sumTo_upd (w:=PhA.rem) (ph:=ph) (p:=p) hq;have s2:=sumTo_upd (w:=PhA.ins) (ph:=ph) (p:=p) hq;have h1:=h.few;have h2:=h.inside;refine ⟨hn.trans h.n,fun i hi=>?_,hone,hzero,by omega,hw,hheld,hpos,by omega,fun ht=>?_,hval,updA_all (P:=fun i p=>p.okF _) (fun i hi=>(h.fuel i hi).less (by omega)) (hok _ hmu),by have:=h.top;omega⟩
 ·rw [hpr]
  by_cases e:i=q
  ·subst e;rw [upd_same,upd_same]
  ·rw [upd_ne _ _ e,upd_ne _ _ e];exact h.pr i hi
 ·have h3:=h.all ht
  have h4:=hall (ht q hq)
  omega
section
variable {F f k:Nat} {tr:Bool} {v:Int}
theorem crit_pass {rest:Xx ASh Unit} {s:ASh} (h1:s.inside=0) (h2:s.wrong=false):(crit rest).pass s=(⟨1,false,s.held⟩,.acc ⟨1,1,0,0⟩ fun a=>critB rest a.was):=by
 show ((⟨wrap64 (s.inside + 1),s.wrong || decide (wrap64 (s.inside + 1)≠1),s.held⟩:ASh),_)=_;rw [h1,h2,show wrap64 (0 + 1)=1 from by decide +kernel]
 rfl
theorem s_next:∃ kk,(PhA.S k).prog F tr=.acc ⟨3,0,0,1⟩ kk∧(∀ (a:Told) (s:ASh),a.ok=true→s.inside=0→s.wrong=false→(kk a).pass s=(⟨1,false,s.held⟩,(PhA.C k).prog F tr)) ∧
 (∀ (a:Told) (s:ASh),a.ok=false→s.wrong=false→(kk a).pass s=if tr then (s,(PhA.nxt k).prog F tr) else ((lkP F).bind (gL (rounds F tr k))).pass s):=by
 cases tr with
 | true =>
  refine ⟨_,rfl,fun a s h h1 h2=>?_,fun a s h h2=>?_⟩
  ·show (if a.ok=true then _ else _:Xx ASh Unit).pass s=_
   rw [if_pos h];exact crit_pass h1 h2
  ·show (if a.ok=true then _ else _:Xx ASh Unit).pass s=_
   rw [if_neg (by simp [h]),if_pos rfl];exact rounds_pass h2
 | false =>
  refine ⟨_,rfl,fun a s h h1 h2=>?_,fun a s h h2=>?_⟩
  ·show (Xx.bind _ (if a.ok=true then _ else _)).pass s=_
   rw [if_pos h];show (crit (rounds F false k)).pass ⟨s.inside,false,s.held⟩=_;exact crit_pass h1 rfl
  ·show (Xx.bind _ (if a.ok=true then _ else _)).pass s=_
   rw [if_neg (by simp [h]),if_neg (by simp)]
theorem w_next:∃ kk,(PhA.W f k).prog F tr=.acc ⟨5,0,2,0⟩ kk∧(∀ (a:Told) (s:ASh),a.was=0→s.inside=0→(kk a).pass s=(⟨1,false,s.held⟩,(PhA.C k).prog F tr))∧(∀ (a:Told) (s:ASh),a.was≠0→(kk a).pass s=(s,(PhA.Z f k).prog F tr)):=by
 refine ⟨_,rfl,fun a s h h1=>?_,fun a s h=>?_⟩
 ·show (Xx.bind _ (if a.was=0 then _ else _)).pass s=_
  rw [if_pos h];show (crit (rounds F tr k)).pass ⟨s.inside,false,s.held⟩=_;exact crit_pass h1 rfl
 ·show (Xx.bind _ (if a.was=0 then _ else _)).pass s=_
  rw [if_neg h];rfl
theorem z_next:∃ kk,(PhA.Z (f + 1) k).prog F tr=.acc ⟨6,0,2,0⟩ kk∧∀ (a:Told) (s:ASh),(kk a).pass s=(s,(PhA.W f k).prog F tr):=⟨_,rfl,fun a s=>rfl⟩
theorem c_next:∃ kk,(PhA.C k).prog F tr=.acc ⟨1,1,0,0⟩ kk∧∀ (a:Told) (s:ASh),s.inside=1→s.wrong=false→(kk a).pass s=(⟨1,false,s.held⟩,(PhA.D k a.was).prog F tr):=by
 refine ⟨_,rfl,fun a s h1 h2=>?_⟩;show ((⟨s.inside,s.wrong || decide (s.inside≠1),s.held⟩:ASh),_)=_;rw [h1,h2];rfl
theorem d_next:∃ kk,(PhA.D k v).prog F tr=.acc ⟨2,1,wrap64 (v + 1),0⟩ kk∧∀ (a:Told) (s:ASh),s.inside=1→s.wrong=false→(kk a).pass s=(⟨0,false,wrap64 (s.held + 1)⟩,(PhA.U k).prog F tr):=by
 refine ⟨_,rfl,fun a s h1 h2=>?_⟩;show (if s.wrong=true then _ else _:Xx ASh Unit).pass ⟨wrap64 (s.inside - 1),s.wrong,wrap64 (s.held + 1)⟩=_;rw [if_neg (by simp [h2]),h1,h2,show wrap64 (1 - 1)=0 from by decide +kernel]
 rfl
theorem u_next:∃ kk,(PhA.U k).prog F tr=.acc ⟨5,0,0,0⟩ kk∧∀ (a:Told) (s:ASh),a.was≠0→(kk a).pass s=(⟨s.inside,false,s.held⟩,(PhA.nxt k).prog F tr):=by
 refine ⟨_,rfl,fun a s h=>?_⟩;show (rounds F tr k).pass ⟨s.inside,!decide (a.was≠0),s.held⟩=_;rw [show (!decide (a.was≠0))=false from by simp [h]];exact rounds_pass rfl
end
theorem ins_le {N:Nat} {ph:Nat→PhA}:sumTo (fun i=>(ph i).ins) N≤sumTo (fun i=>(ph i).holds) N:=by
 have:=sumTo_le (f:=fun i=>(ph i).ins) (g:=fun i=>(ph i).holds) (d:=0) (n:=N) fun i _=>by show (ph i).ins≤(ph i).holds + 0;cases ph i<;>simp [PhA.ins,PhA.holds]
 omega
theorem potA_same {N W:Nat} {ph:Nat→PhA} {c c':Int} (h:c≠2∨c'=c):sumTo (fun i=>(ph i).pot W c') N≤sumTo (fun i=>(ph i).pot W c) N:=by
 rcases h with h|rfl
 ·have:=sumTo_le (f:=fun i=>(ph i).pot W c') (g:=fun i=>(ph i).pot W c) (d:=0) (n:=N) fun i _=>PhA.pot_le0 W c' h _
  omega
 ·exact Nat.le_refl _
theorem AInv.turn {N F tot:Nat} {tr:Nat→Bool} (hb:tot < 1000) (hN:N < 1000) {ph:Nat→PhA} {P:Xp ASh} (h:AInv N F tot tr ph P) {q:Nat} (hq:q∈P.able):∃ ph',AInv N F tot tr ph' (P.turn q)∧muA N (2 * N + 8) ph' ((P.turn q).st.cells 0) + 1≤muA N (2 * N + 8) ph (P.st.cells 0):=by
 obtain ⟨hn,r,kr,hp,h6⟩:=Xp.able_acc hq;rw [h.n] at hn;have hpr:=h.pr q hn;have hf:=h.fuel q hn;have hone:=h.one;have hzero:=h.zero;have hwr:=h.wrong;have hin:=h.inside;have hfew:=h.few;have hpos:=h.pos;have hil:=ins_le (N:=N) (ph:=ph);have hh:(ph q).holds≤_:=sumTo_pos (f:=fun i=>(ph i).holds) hn;have hi:(ph q).ins≤_:=sumTo_pos (f:=fun i=>(ph i).ins) hn;have hpot:(ph q).pot (2 * N + 8) (P.st.cells 0)≤muA N (2 * N + 8) ph (P.st.cells 0):=sumTo_pos (f:=fun i=>(ph i).pot (2 * N + 8) (P.st.cells 0)) hn;cases hph:ph q with
 | E=>rw [hph] at hpr;rw [hpr] at hp;cases hp
 | S k =>
  rw [hph] at hpr hf hpot hh hi;obtain ⟨kk,e1,e2,e3⟩:=s_next (F:=F + 1) (k:=k) (tr:=tr q);have ht:=Xp.turn_acc (hpr.trans e1)
  by_cases hc:P.st.cells 0=0
  ·have hz:=hzero.1 hc
   have hok:(P.st.ans ⟨3,0,0,1⟩).ok=true:=by simp [Rst.ans,behind,hc]
   rw [e2 _ _ hok (by omega) hwr] at ht;have hc0:(P.turn q).st.cells 0=1:=by rw [ht];simp [upd,Rst.ans,behind,hc]
   have hc1:(P.turn q).st.cells 1=P.st.cells 1:=by rw [ht];simp [upd]
   have s1:=sumTo_upd (w:=PhA.holds) (ph:=ph) (p:=.C k) hn;have s2:=sumTo_upd (w:=PhA.pot (2 * N + 8) 1) (ph:=ph) (p:=.C k) hn;have s3:=potA_same (N:=N) (W:=2 * N + 8) (ph:=ph) (c:=P.st.cells 0) (c':=1) (.inl (by omega));rw [hph] at s1 s2;have hmu:muA N (2 * N + 8) (upd ph q (.C k)) 1 + 1≤muA N (2 * N + 8) ph (P.st.cells 0):=by
    unfold muA;simp only [PhA.pot] at s2 s3 ⊢
    omega
   have hh1:sumTo (fun i=>(upd ph q (.C k) i).holds) N=1:=by simp only [PhA.holds] at s1 hz ⊢;omega
   refine ⟨upd ph q (.C k),h.go hn (by rw [ht]) (by rw [ht]) (by rw [ht]) (by rw [hh1];exact Nat.le_refl _) (by rw [hh1,hc0];simp) ?_ (by rw [hc1,← h.held,ht]) (by rw [hc1];exact hpos) (by rw [hc1,hph]<;>exact Int.le_refl _) (fun _=>by rw [hc1,hph]<;>rfl) (by rw [hc1];exact updA_all (P:=fun i p=>p.okV _) h.val trivial) (by rw [hc0];exact hmu) (fun M hM=>trivial),by rw [hc0];exact hmu⟩;rw [ht,hph];show (1:Int) + 0=P.st.sh.inside + 1
   omega
  ·have hok:(P.st.ans ⟨3,0,0,1⟩).ok=false:=by simp [Rst.ans,behind,hc]
   have e4:=e3 _ P.st.sh hok hwr;obtain ⟨p,hpd⟩:∃ p,p=(if tr q then PhA.nxt k else PhA.W F k):=⟨_,rfl⟩
   have e5:(kk (P.st.ans ⟨3,0,0,1⟩)).pass P.st.sh=(P.st.sh,p.prog (F + 1) (tr q)):=by
    rw [e4,hpd];cases tr q<;>rfl
   rw [e5] at ht;have hc0:(P.turn q).st.cells 0=P.st.cells 0:=by rw [ht];simp [upd,Rst.ans,behind,hc]
   have hc1:(P.turn q).st.cells 1=P.st.cells 1:=by rw [ht];simp [upd]
   have p1:p.holds=0:=by rw [hpd];split<;>(try cases k)<;>rfl
   have p2:p.ins=0:=by rw [hpd];split<;>(try cases k)<;>rfl
   have p3:p.rem≤k + 1:=by rw [hpd];split<;>(try cases k)<;>simp [PhA.nxt,PhA.rem]
   have p4:tr q=false→p.rem=k + 1:=fun e=>by rw [hpd,e];rfl
   have p5:p.okV (P.st.cells 1):=by rw [hpd];split<;>(try cases k)<;>trivial
   have p6:p.pot (2 * N + 8) (P.st.cells 0) + 1≤7 + (2 * N + 8) * (k + 1):=by
    rw [hpd]
    split
    ·cases k with
     | zero=>simp only [PhA.nxt,PhA.pot];omega
     | succ k=>simp only [PhA.nxt,PhA.pot,Nat.mul_add];omega
    ·simp only [PhA.pot];omega
   have p7:p.okF F:=by rw [hpd];split<;>(try cases k)<;>first|trivial|exact Nat.le_refl _
   have s1:=sumTo_upd (w:=PhA.holds) (ph:=ph) (p:=p) hn;have s2:=sumTo_upd (w:=PhA.pot (2 * N + 8) (P.st.cells 0)) (ph:=ph) (p:=p) hn;rw [hph] at s1 s2;have hmu:muA N (2 * N + 8) (upd ph q p) (P.st.cells 0) + 1≤muA N (2 * N + 8) ph (P.st.cells 0):=by
    unfold muA;replace s2:sumTo (fun i=>(upd ph q p i).pot (2 * N + 8) (P.st.cells 0)) N + (7 + (2 * N + 8) * (k + 1))=_:=s2
    omega
   have hh1:sumTo (fun i=>(upd ph q p i).holds) N=sumTo (fun i=>(ph i).holds) N:=by
    replace s1:sumTo (fun i=>(upd ph q p i).holds) N + 0=_:=s1
    omega
   have htop:=h.top;refine ⟨upd ph q p,h.go hn (by rw [ht]) (by rw [ht]) (by rw [ht];exact hwr) (by rw [hh1];exact hone) (by rw [hh1,hc0];exact hzero) ?_ (by rw [hc1,← h.held,ht]) (by rw [hc1];exact hpos) ?_ (fun e=>?_) (by rw [hc1];exact updA_all (P:=fun i p=>p.okV _) h.val p5) (by rw [hc0];exact hmu) (fun M hM=>p7.less (by omega)),by rw [hc0];exact hmu⟩
   ·rw [ht,hph,p2];rfl
   ·rw [hc1,hph]
    show P.st.cells 1 + (p.rem:Nat)≤P.st.cells 1 + (k + 1:Nat)
    omega
   ·rw [hc1,hph,p4 e];rfl
 | W f k =>
  rw [hph] at hpr hf hpot hh hi;obtain ⟨kk,e1,e2,e3⟩:=w_next (F:=F + 1) (f:=f) (k:=k) (tr:=tr q);have ht:=Xp.turn_acc (hpr.trans e1);have hc0:(P.turn q).st.cells 0=2:=by rw [ht];simp [upd,Rst.ans,behind]
  have hc1:(P.turn q).st.cells 1=P.st.cells 1:=by rw [ht];simp [upd]
  have s3:=potA_same (N:=N) (W:=2 * N + 8) (ph:=ph) (c:=P.st.cells 0) (c':=2) (by by_cases e:P.st.cells 0=2;exact .inr e.symm;exact .inl e)
  by_cases hc:P.st.cells 0=0
  ·have hz:=hzero.1 hc
   rw [e2 _ _ hc (by omega)] at ht;have s1:=sumTo_upd (w:=PhA.holds) (ph:=ph) (p:=.C k) hn;have s2:=sumTo_upd (w:=PhA.pot (2 * N + 8) 2) (ph:=ph) (p:=.C k) hn;rw [hph] at s1 s2;have hmu:muA N (2 * N + 8) (upd ph q (.C k)) 2 + 1≤muA N (2 * N + 8) ph (P.st.cells 0):=by
    unfold muA;simp only [PhA.pot] at s2 s3 ⊢
    omega
   have hh1:sumTo (fun i=>(upd ph q (.C k) i).holds) N=1:=by simp only [PhA.holds] at s1 hz ⊢;omega
   refine ⟨upd ph q (.C k),h.go hn (by rw [ht]) (by rw [ht]) (by rw [ht]) (by rw [hh1];exact Nat.le_refl _) (by rw [hh1,hc0];simp) ?_ (by rw [hc1,← h.held,ht]) (by rw [hc1];exact hpos) (by rw [hc1,hph]<;>exact Int.le_refl _) (fun _=>by rw [hc1,hph]<;>rfl) (by rw [hc1];exact updA_all (P:=fun i p=>p.okV _) h.val trivial) (by rw [hc0];exact hmu) (fun M hM=>trivial),by rw [hc0];exact hmu⟩;rw [ht,hph];show (1:Int) + 0=P.st.sh.inside + 1
   omega
  ·have hz:sumTo (fun i=>(ph i).holds) N≠0:=fun e=>hc (hzero.2 e)
   rw [e3 _ _ hc] at ht;have s1:=sumTo_upd (w:=PhA.holds) (ph:=ph) (p:=.Z f k) hn;have s2:=sumTo_upd (w:=PhA.pot (2 * N + 8) 2) (ph:=ph) (p:=.Z f k) hn;rw [hph] at s1 s2;have hmu:muA N (2 * N + 8) (upd ph q (.Z f k)) 2 + 1≤muA N (2 * N + 8) ph (P.st.cells 0):=by
    unfold muA;simp only [PhA.pot,if_pos] at s2 s3 ⊢
    omega
   have hh1:sumTo (fun i=>(upd ph q (.Z f k) i).holds) N=sumTo (fun i=>(ph i).holds) N:=by simp only [PhA.holds] at s1 ⊢;omega
   refine ⟨upd ph q (.Z f k),h.go hn (by rw [ht]) (by rw [ht]) (by rw [ht];exact hwr) (by rw [hh1];exact hone) (by rw [hh1,hc0];exact ⟨fun e=>absurd e (by decide),fun e=>absurd e hz⟩) (by rw [ht,hph]<;>rfl) (by rw [hc1,← h.held,ht]) (by rw [hc1];exact hpos) (by rw [hc1,hph]<;>exact Int.le_refl _) (fun _=>by rw [hc1,hph]<;>rfl) (by rw [hc1];exact updA_all (P:=fun i p=>p.okV _) h.val trivial) (by rw [hc0];exact hmu) (fun M hM=>?_),by rw [hc0];exact hmu⟩;exact Nat.le_trans (by omega) hf
 | Z f k =>
  rw [hph] at hpr hf hpot;have hr:r=⟨6,0,2,0⟩:=by have:=hpr.symm.trans hp;injection this with e1 e2;exact e1.symm
  have hne:P.st.cells 0≠2:=by rw [hr] at h6;exact h6 rfl
  have hp6:6≤muA N (2 * N + 8) ph (P.st.cells 0):=by simp only [PhA.pot,if_neg hne] at hpot;omega
  obtain ⟨f',rfl⟩:∃ f',f=f' + 1:=⟨f - 1,by have:muA N (2 * N + 8) ph (P.st.cells 0)≤f:=hf;omega⟩
  obtain ⟨kk,e1,e2⟩:=z_next (F:=F + 1) (f:=f') (k:=k) (tr:=tr q);have ht:=Xp.turn_acc (hpr.trans e1);rw [e2] at ht;have hc0:(P.turn q).st.cells 0=P.st.cells 0:=by rw [ht];show upd P.st.cells 0 _ 0=_;rw [upd_same];rfl
  have hc1:(P.turn q).st.cells 1=P.st.cells 1:=by rw [ht];simp [upd]
  have s1:=sumTo_upd (w:=PhA.holds) (ph:=ph) (p:=.W f' k) hn;have s2:=sumTo_upd (w:=PhA.pot (2 * N + 8) (P.st.cells 0)) (ph:=ph) (p:=.W f' k) hn;rw [hph] at s1 s2;have hmu:muA N (2 * N + 8) (upd ph q (.W f' k)) (P.st.cells 0) + 1≤muA N (2 * N + 8) ph (P.st.cells 0):=by
   unfold muA;simp only [PhA.pot,if_neg hne] at s2 ⊢
   omega
  have hh1:sumTo (fun i=>(upd ph q (.W f' k) i).holds) N=sumTo (fun i=>(ph i).holds) N:=s1;refine ⟨upd ph q (.W f' k),h.go hn (by rw [ht]) (by rw [ht]) (by rw [ht];exact hwr) (by rw [hh1];exact hone) (by rw [hh1,hc0];exact hzero) (by rw [ht,hph]<;>rfl) (by rw [hc1,← h.held,ht]) (by rw [hc1];exact hpos) (by rw [hc1,hph]<;>exact Int.le_refl _) (fun _=>by rw [hc1,hph]<;>rfl) (by rw [hc1];exact updA_all (P:=fun i p=>p.okV _) h.val trivial) (by rw [hc0];exact hmu) (fun M hM=>?_),by rw [hc0];exact hmu⟩
  have:muA N (2 * N + 8) ph (P.st.cells 0)≤f' + 1:=hf
  show M≤f'
  omega
 | C k =>
  rw [hph] at hpr hf hpot hh hi;replace hh:1≤sumTo (fun i=>(ph i).holds) N:=hh;replace hi:1≤sumTo (fun i=>(ph i).ins) N:=hi;obtain ⟨kk,e1,e2⟩:=c_next (F:=F + 1) (k:=k) (tr:=tr q);have ht:=Xp.turn_acc (hpr.trans e1);rw [e2 _ _ (by omega) hwr] at ht;have hc0:(P.turn q).st.cells 0=P.st.cells 0:=by rw [ht];simp [upd]
  have hc1:(P.turn q).st.cells 1=P.st.cells 1:=by rw [ht];simp [upd,Rst.ans,behind]
  have s1:=sumTo_upd (w:=PhA.holds) (ph:=ph) (p:=.D k (P.st.cells 1)) hn;have s2:=sumTo_upd (w:=PhA.pot (2 * N + 8) (P.st.cells 0)) (ph:=ph) (p:=.D k (P.st.cells 1)) hn;rw [hph] at s1 s2;have hmu:muA N (2 * N + 8) (upd ph q (.D k (P.st.cells 1))) (P.st.cells 0) + 1≤muA N (2 * N + 8) ph (P.st.cells 0):=by
   unfold muA;simp only [PhA.pot] at s2 ⊢
   omega
  have hh1:sumTo (fun i=>(upd ph q (.D k (P.st.cells 1)) i).holds) N=sumTo (fun i=>(ph i).holds) N:=by simp only [PhA.holds] at s1 ⊢;omega
  refine ⟨upd ph q (.D k (P.st.cells 1)),h.go hn (by rw [ht]) (by rw [ht]<;>rfl) (by rw [ht]) (by rw [hh1];exact hone) (by rw [hh1,hc0];exact hzero) ?_ (by rw [hc1,← h.held,ht]) (by rw [hc1];exact hpos) (by rw [hc1,hph]<;>exact Int.le_refl _) (fun _=>by rw [hc1,hph]<;>rfl) (by rw [hc1];exact updA_all (P:=fun i p=>p.okV _) h.val rfl) (by rw [hc0];exact hmu) (fun M hM=>trivial),by rw [hc0];exact hmu⟩;rw [ht,hph];show (1:Int) + 1=P.st.sh.inside + 1
  omega
 | D k v =>
  have hv:v=P.st.cells 1:=by have:=h.val q hn;rw [hph] at this;exact this
  rw [hph] at hpr hf hpot hh hi;replace hh:1≤sumTo (fun i=>(ph i).holds) N:=hh;replace hi:1≤sumTo (fun i=>(ph i).ins) N:=hi;have hrem:(ph q).rem≤_:=sumTo_pos (f:=fun i=>(ph i).rem) hn;obtain ⟨kk,e1,e2⟩:=d_next (F:=F + 1) (k:=k) (tr:=tr q) (v:=v);have ht:=Xp.turn_acc (hpr.trans e1);rw [e2 _ _ (by omega) hwr] at ht;have hvs:P.st.cells 1≤1000:=by omega
  have hw:wrap64 (v + 1)=P.st.cells 1 + 1:=by rw [hv];exact wrap_small (by omega) (by omega)
  have hwh:wrap64 (P.st.sh.held + 1)=P.st.cells 1 + 1:=by rw [h.held];exact wrap_small (by omega) (by omega)
  have hc0:(P.turn q).st.cells 0=P.st.cells 0:=by rw [ht];simp [upd]
  have hc1:(P.turn q).st.cells 1=P.st.cells 1 + 1:=by rw [ht];show upd P.st.cells 1 _ 1=_;simp [upd,Rst.ans,behind,hw]
  have s1:=sumTo_upd (w:=PhA.holds) (ph:=ph) (p:=.U k) hn;have s2:=sumTo_upd (w:=PhA.pot (2 * N + 8) (P.st.cells 0)) (ph:=ph) (p:=.U k) hn;rw [hph] at s1 s2;have hmu:muA N (2 * N + 8) (upd ph q (.U k)) (P.st.cells 0) + 1≤muA N (2 * N + 8) ph (P.st.cells 0):=by
   unfold muA;simp only [PhA.pot] at s2 ⊢
   omega
  have hh1:sumTo (fun i=>(upd ph q (.U k) i).holds) N=sumTo (fun i=>(ph i).holds) N:=by simp only [PhA.holds] at s1 ⊢;omega
  have hval:∀ i,i < N→(upd ph q (.U k) i).okV (P.st.cells 1 + 1):=fun i hi'=>by
   by_cases e:i=q
   ·subst e;rw [upd_same];trivial
   ·rw [upd_ne _ _ e]
    cases hpi:ph i with
    | D k2 v2 =>
     exfalso
     have a1:(ph i).holds=1:=by rw [hpi];rfl
     have a2:(ph q).holds=1:=by rw [hph];rfl
     rcases Nat.lt_or_gt_of_ne e with l|l
     ·have:=sumTo_two_le (f:=fun i=>(ph i).holds) l hn
      omega
     ·have:=sumTo_two_le (f:=fun i=>(ph i).holds) l hi'
      omega
    | _=>trivial
  refine ⟨upd ph q (.U k),h.go hn (by rw [ht]) (by rw [ht]) (by rw [ht]) (by rw [hh1];exact hone) (by rw [hh1,hc0];exact hzero) ?_ (by rw [hc1,ht];exact hwh) (by rw [hc1];omega) ?_ (fun _=>?_) (by rw [hc1];exact hval) (by rw [hc0];exact hmu) (fun M hM=>trivial),by rw [hc0];exact hmu⟩
  ·rw [ht,hph]
   show (0:Int) + 1=P.st.sh.inside + 0
   omega
  ·rw [hc1,hph]
   show P.st.cells 1 + 1 + (k:Nat)≤P.st.cells 1 + (k + 1:Nat)
   omega
  ·rw [hc1,hph]
   show P.st.cells 1 + 1 + (k:Nat)=P.st.cells 1 + (k + 1:Nat)
   omega
 | U k =>
  rw [hph] at hpr hf hpot hh hi;replace hh:1≤sumTo (fun i=>(ph i).holds) N:=hh;have hc:P.st.cells 0≠0:=fun e=>by have:=hzero.1 e;omega
  obtain ⟨kk,e1,e2⟩:=u_next (F:=F + 1) (k:=k) (tr:=tr q);have ht:=Xp.turn_acc (hpr.trans e1);rw [e2 _ _ hc] at ht;have hc0:(P.turn q).st.cells 0=0:=by rw [ht];simp [upd,Rst.ans,behind]
  have hc1:(P.turn q).st.cells 1=P.st.cells 1:=by rw [ht];simp [upd]
  obtain ⟨p,hpd⟩:∃ p,p=PhA.nxt k:=⟨_,rfl⟩
  rw [← hpd] at ht;have p1:p.holds=0:=by rw [hpd];cases k<;>rfl
  have p2:p.ins=0:=by rw [hpd];cases k<;>rfl
  have p3:p.rem=k:=by rw [hpd];cases k<;>rfl
  have p5:p.okV (P.st.cells 1):=by rw [hpd];cases k<;>trivial
  have p6:p.pot (2 * N + 8) 0 + 2 * N + 1≤1 + (2 * N + 8) * (k + 1):=by
   rw [hpd];cases k with
   | zero=>simp only [PhA.nxt,PhA.pot];omega
   | succ k=>simp only [PhA.nxt,PhA.pot,Nat.mul_add];omega
  have p7:∀ M,p.okF M:=fun M=>by rw [hpd];cases k<;>trivial
  have s1:=sumTo_upd (w:=PhA.holds) (ph:=ph) (p:=p) hn;have s2:=sumTo_upd (w:=PhA.pot (2 * N + 8) 0) (ph:=ph) (p:=p) hn;have s3:=sumTo_le (f:=fun i=>(ph i).pot (2 * N + 8) 0) (g:=fun i=>(ph i).pot (2 * N + 8) (P.st.cells 0)) (d:=2) (n:=N) fun i _=>PhA.pot_le _ _ _ _;rw [hph] at s1 s2;have hmu:muA N (2 * N + 8) (upd ph q p) 0 + 1≤muA N (2 * N + 8) ph (P.st.cells 0):=by
   unfold muA;replace s2:sumTo (fun i=>(upd ph q p i).pot (2 * N + 8) 0) N + (1 + (2 * N + 8) * (k + 1))=_:=s2
   omega
  have hh1:sumTo (fun i=>(upd ph q p i).holds) N=0:=by
   replace s1:sumTo (fun i=>(upd ph q p i).holds) N + 1=_:=s1
   omega
  refine ⟨upd ph q p,h.go hn (by rw [ht]) (by rw [ht]) (by rw [ht]) (by rw [hh1];exact Nat.zero_le _) (by rw [hh1,hc0];simp) ?_ (by rw [hc1,← h.held,ht]) (by rw [hc1];exact hpos) ?_ (fun _=>?_) (by rw [hc1];exact updA_all (P:=fun i p=>p.okV _) h.val p5) (by rw [hc0];exact hmu) (fun M hM=>p7 M),by rw [hc0];exact hmu⟩
  ·rw [ht,hph,p2];rfl
  ·rw [hc1,hph,p3]<;>exact Int.le_refl _
  ·rw [hc1,hph,p3]<;>rfl

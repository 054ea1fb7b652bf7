/- LatchOpens in plain words: how the run begins, what it comes to. -/
import Derived.Test.YtdgfekplfipekaaVPlD
import Derived.Test.YtdgfekplfipekaaVPlB
import Derived.Test.YtdgfekplfipekaaVLbF
set_option linter.all false
set_option maxRecDepth 100000
set_option maxHeartbeats 16000000
namespace Go.Proofs.Ytdgfekplfipekaa
open Go.Conc Go.RowKit
open Go.ConcN (upd upd_same upd_ne)
set_option maxRecDepth 100000
section
variable {Sh:Type} {Post:Value→World→Prop} {S:Zv Sh} {num tb rb m:Nat} {cb:Frame} {C:Ctx} {x0 x y:World} {col Pv:Nat→Prop} {sh:Sh} {cells:Nat→Int} {p:Xx Sh Unit} {c:Frame} {cs:List Frame} {i:Nat}
structure TSt (Post:Value→World→Prop) (S:Zv Sh) (num tb rb:Nat) (cb:Frame) (m:Nat) (C:Ctx) (x0 x:World) (col Pv:Nat→Prop) (sh:Sh) (cells:Nat→Int) (p:Xx Sh Unit):Prop where
 d:C.d=0
 lives:Qn x tb rb
 mine:col tb
 lt:∀ r,col r→r < x.heap.size
 pv:∀ r,Pv r→r < x.heap.size∧¬ col r
 I:S.I sh cells (fun r=>col r∨Pv r) x
 size:x0.heap.size≤x.heap.size
 old:∀ r,col r→x.heap[r]? = x0.heap[r]?
 keep:∀ i a,i≠num→S.keep i a→x.cell? a=x0.cell? a
 klt:∀ i a,S.keep i a→a.block < x.heap.size
 reach:Reach Post S num tb cb (fun Pv y=>XR Post S num tb rb cb m Pv y QG) C col cells x0 (p.pass sh).1 (p.pass sh).2
theorem Qn.up {x y:World} {tb rb:Nat} (h:Qn x tb rb) (ho:Xg x y):Qn y tb rb:=⟨ho.cell h.1,ho.cell h.2.1,h.2.2⟩
theorem TSt.up (h:TSt Post S num tb rb cb m C x0 x col Pv sh cells p) (ho:Xg x y):TSt Post S num tb rb cb m C x0 y col Pv sh cells p :=
 ⟨h.d,h.lives.up ho,h.mine,fun r hr=>Nat.lt_of_lt_of_le (h.lt r hr) ho.1,fun r hr=>⟨Nat.lt_of_lt_of_le (h.pv r hr).1 ho.1,(h.pv r hr).2⟩,S.frame h.I _ y ho.1 (fun r h1 _=>ho.2 r h1) fun _ _ h=>h,Nat.le_trans h.size ho.1,fun r hr=>(ho.2 r (h.lt r hr)).trans (h.old r hr),
  fun i a h1 h2=>(World.cell?_of_block (ho.2 _ (h.klt i a h2))).trans (h.keep i a h1 h2),fun i a h1=>Nat.lt_of_lt_of_le (h.klt i a h1) ho.1,h.reach⟩
theorem TSt.own (h:TSt Post S num tb rb cb m C x0 x col Pv sh cells p) (ho:Xg x y) (N:Nat→Prop) (hN:∀ r,N r→x.heap.size≤r∧r < y.heap.size):TSt Post S num tb rb cb m C x0 y col (fun r=>Pv r∨N r) sh cells p :=
 { h.up ho with
   pv:=fun r hr=>by
    rcases hr with hr|hr
    ·exact (h.up ho).pv r hr
    ·exact ⟨(hN r hr).2,fun e=>by have:=h.lt r e;have:=(hN r hr).1;omega⟩
   I:=S.frame h.I _ y ho.1 (fun r h1 _=>ho.2 r h1) fun r h1 h2=>by
    rcases h2 with h2|h2|h2
    ·exact .inl h2
    ·exact .inr h2
    ·have:=(hN r h2).1;omega }
theorem TSt.turn (h:TSt Post S num tb rb cb m C x0 x col Pv sh cells p) (hs:y.heap.size=x.heap.size) (hy:∀ r,¬ Pv r→y.heap[r]? = x.heap[r]?) (htb:¬ Pv tb) (hk:∀ i a,i≠num→S.keep i a→¬ Pv a.block):TSt Post S num tb rb cb m C x0 y col Pv sh cells p :=
 have hl:Qn y tb rb:=⟨(World.cell?_of_block (hy tb htb)).trans h.lives.1,(World.cell?_of_block (hy tb htb)).trans h.lives.2.1,h.lives.2.2⟩
 ⟨h.d,hl,h.mine,fun r hr=>by rw [hs];exact h.lt r hr,fun r hr=>⟨by rw [hs];exact (h.pv r hr).1,(h.pv r hr).2⟩,S.frame h.I _ y (by rw [hs];exact Nat.le_refl _) (fun r _ h1=>hy r fun e=>h1 (.inr e)) fun _ _ h=>h,by rw [hs];exact h.size,
  fun r hr=>(hy r fun e=>(h.pv r e).2 hr).trans (h.old r hr),fun i a h1 h2=>(World.cell?_of_block (hy _ (hk i a h1 h2))).trans (h.keep i a h1 h2),fun i a h1=>by rw [hs];exact h.klt i a h1,h.reach⟩
theorem TSt.step {r:Ask} {k:Told→Xx Sh Unit} (h:TSt Post S num tb rb cb m C x0 x col Pv sh cells (.acc r k)):Q6 Post S num tb rb cb m Pv C x r k :=
 Reach.step (x0:=x0) h.reach h.size h.old h.pv h.I h.keep
def NextT (Post:Value→World→Prop) (S:Zv Sh) (num tb rb:Nat) (cb:Frame) (Pv:Nat→Prop) (x:World) (f:Told→Value) (k:Told→Xx Sh Unit) (c:Frame) (cs:List Frame):Prop :=
 ∀ (m':Nat) (C':Ctx) (y:World) (col':Nat→Prop) (sh':Sh) (cells':Nat→Int) (a:Told),TSt Post S num tb rb cb m' C' y y col' Pv sh' cells' (k a)→(∀ r,Pv r→y.heap[r]? = x.heap[r]?)→(∀ b,S.keep num b→y.cell? b=x.cell? b)→JG Try.prog Post C' (G (c.finish (f a)) cs) y
theorem TSt.after {Pv:Nat→Prop} {f:Told→Value} {k:Told→Xx Sh Unit} (hlt:∀ r,Pv r→r < x.heap.size) (hs:Yq Post cb c cs) (hn:NextT Post S num tb rb cb Pv x f k c cs):XR Post S num tb rb cb m Pv x f k c cs:=by
 cases m with
 | zero=>exact hs
 | succ m =>
  refine ⟨hs,fun C z col sh cells a hd hL hm hc hp hk hI R=>hn m C z col sh cells a ⟨hd,hL,hm,hc,fun r hr=>⟨?_,(hp r hr).1⟩,hI,Nat.le_refl _,fun _ _=>rfl,fun _ _ _ _=>rfl,fun i a h=>(S.keepI hI i a h).1,R⟩ (fun r hr=>(hp r hr).2) hk⟩;have h1:=(hp r hr).2;have h2:=hlt r hr;rcases Nat.lt_or_ge r z.heap.size with h|h
  ·exact h
  ·rw [Array.getElem?_eq_none h,Array.getElem?_eq_getElem h2] at h1
   cases h1
theorem Yq.up {pf:Frame} (hs:Yq Post cb c cs) (h:∀ (C:Ctx) (x:World),JG Try.prog Post C (G (c.raise [{ v:=YI,recovered:=false }]) cs) x→JG Try.prog Post C (G (pf.raise [{ v:=YI,recovered:=false }]) (c::cs)) x):Yq Post cb pf (c::cs):=fun C x hb=>h C x (hs C x hb)
variable {k:Told→Xx Sh Unit}
theorem load_T (h:TSt Post S num tb rb cb m C x0 x col Pv sh cells (.acc ⟨1,i,0,0⟩ k)) (hi:i < S.nc) (hm:x.cell? (th (S.A i) 1)=some (.bool true)) (hs:Yq Post cb c cs) (hn:NextT Post S num tb rb cb Pv x (fun a=>.int .i64 a.was) k c cs) :
 JG Try.prog Post C (G (Frame.enter Try.prog 13 #[P0 (S.A i),P0 tb] .normal) (c::cs)) x:=cellLoad_R hm h.lives hi h.step (TSt.after (fun r hr=>(h.pv r hr).1) hs hn)
theorem store_T {v:Int} (h:TSt Post S num tb rb cb m C x0 x col Pv sh cells (.acc ⟨2,i,v,0⟩ k)) (hi:i < S.nc) (hm:x.cell? (th (S.A i) 1)=some (.bool true)) (hs:Yq Post cb c cs) (hn:NextT Post S num tb rb cb Pv x (fun _=>.tuple #[]) k c cs) :
 JG Try.prog Post C (G (Frame.enter Try.prog 14 #[P0 (S.A i),P0 tb,.int .i64 v] .normal) (c::cs)) x:=cellStore_R hm h.lives hi h.step (TSt.after (fun r hr=>(h.pv r hr).1) hs hn)
theorem add_T {v:Int} (h:TSt Post S num tb rb cb m C x0 x col Pv sh cells (.acc ⟨4,i,v,0⟩ k)) (hi:i < S.nc) (hm:x.cell? (th (S.A i) 1)=some (.bool true)) (hs:Yq Post cb c cs) (hn:NextT Post S num tb rb cb Pv x (fun a=>.int .i64 a.now) k c cs) :
 JG Try.prog Post C (G (Frame.enter Try.prog 39 #[P0 (S.A i),P0 tb,.int .i64 v] .normal) (c::cs)) x:=cellAdd_R hm h.lives hi h.step (TSt.after (fun r hr=>(h.pv r hr).1) hs hn)
theorem park_T {v:Int} (h:TSt Post S num tb rb cb m C x0 x col Pv sh cells (.acc ⟨6,i,v,0⟩ k)) (hi:i < S.nc) (hm:x.cell? (th (S.A i) 1)=some (.bool true)) (hs:Yq Post cb c cs) (hn:NextT Post S num tb rb cb Pv x (fun a=>.int .i64 a.was) k c cs) :
 JG Try.prog Post C (G (Frame.enter Try.prog 30 #[P0 (S.A i),P0 tb,.int .i64 v] .normal) (c::cs)) x:=cellPark_R hm h.lives hi h.step (TSt.after (fun r hr=>(h.pv r hr).1) hs hn)
end
def sumTo (f:Nat→Nat):Nat→Nat
 | 0=>0
 | n + 1=>sumTo f n + f n
theorem sumTo_congr {f g:Nat→Nat}:∀ {n:Nat},(∀ i,i < n→f i=g i)→sumTo f n=sumTo g n
 | 0,_=>rfl
 | n + 1,h=>by simp only [sumTo];rw [sumTo_congr fun i hi=>h i (by omega),h n (by omega)]
theorem sumTo_upd {α:Type} {w:α→Nat} {ph:Nat→α} {q:Nat} {p:α}:∀ {n:Nat},q < n→sumTo (fun i=>w (upd ph q p i)) n + w (ph q)=sumTo (fun i=>w (ph i)) n + w p
 | 0,h=>absurd h (by omega)
 | n + 1,h=>by
  simp only [sumTo]
  by_cases e:q=n
  ·subst e
   rw [upd_same,sumTo_congr (g:=fun i=>w (ph i)) fun i hi=>by rw [upd_ne _ _ (by omega)]]
   omega
  ·have:=sumTo_upd (w:=w) (ph:=ph) (p:=p) (n:=n) (show q < n by omega)
   rw [upd_ne _ _ (fun e'=>e e'.symm)]
   omega
theorem sumTo_le {f g:Nat→Nat} {d:Nat}:∀ {n:Nat},(∀ i,i < n→f i≤g i + d)→sumTo f n≤sumTo g n + n * d
 | 0,_=>by simp [sumTo]
 | n + 1,h=>by
  simp only [sumTo,Nat.succ_mul];have h1:=sumTo_le (n:=n) fun i hi=>h i (by omega);have h2:=h n (by omega)
  omega
theorem sumTo_pos {f:Nat→Nat} {q:Nat}:∀ {n:Nat},q < n→f q≤sumTo f n
 | 0,h=>absurd h (by omega)
 | n + 1,h=>by
  simp only [sumTo]
  by_cases e:q=n
  ·subst e;omega
  ·have:=sumTo_pos (f:=f) (n:=n) (show q < n by omega);omega
structure OSh where
 early:Bool
 down:Int
 waits:Int
def dnP {Sh:Type}:Nat→Xx Sh Bool
 | 0=>.out
 | f + 1=>.acc ⟨1,0,0,0⟩ fun a=>if a.was < 1 then .ret false else .acc ⟨3,0,a.was,wrap64 (a.was - 1)⟩ fun b=>if b.ok then .ret true else dnP f
def wtP {Sh:Type}:Nat→Xx Sh Unit
 | 0=>.out
 | f + 1=>.acc ⟨1,0,0,0⟩ fun a=>if a.was=0 then .ret () else .acc ⟨6,0,a.was,0⟩ fun _=>wtP f
def gD (rest:Xx OSh Unit) (e:Bool):Xx OSh Unit:=.act (fun s=>⟨!e,wrap64 (s.down + 1),s.waits⟩) fun _=>rest
def downs (F:Nat):Nat→Xx OSh Unit
 | 0=>.ret ()
 | k + 1=>.act id fun s=>if s.early then .act (fun s=>⟨s.early,wrap64 (s.down + 1),s.waits⟩) fun _=>downs F k else (dnP F).bind (gD (downs F k))
def gW (all:Int) (_:Unit):Xx OSh Unit:=.act (fun s=>⟨decide (s.down≠all) || s.early,s.down,wrap64 (s.waits + 1)⟩) fun _=>.ret ()
inductive Ph where
 | DL (f k:Nat)
 | DC (f k:Nat) (x:Int)
 | DE
 | WL (f:Nat)
 | WP (f:Nat) (x:Int)
 | WE
namespace Ph
def prog (F:Nat) (all:Int):Ph→Xx OSh Unit
 | .DL f k=>(dnP (f + 1)).bind (gD (downs F k))
 | .DC f k x=>.acc ⟨3,0,x,wrap64 (x - 1)⟩ fun b=>(if b.ok then Xx.ret true else dnP f).bind (gD (downs F k))
 | .DE=>.ret ()
 | .WL f=>(wtP (f + 1)).bind (gW all)
 | .WP f x=>.acc ⟨6,0,x,0⟩ fun _=>(wtP f).bind (gW all)
 | .WE=>.ret ()
def par:Ph→Nat
 | .DL .. | .DC .. | .DE=>0
 | _=>1
def rem:Ph→Nat
 | .DL _ k | .DC _ k _=>k + 1
 | _=>0
def away:Ph→Nat
 | .WE=>1
 | _=>0
def pot (c:Int):Ph→Nat
 | .DL .. | .WL ..=>2
 | .DC _ _ x | .WP _ x=>if x=c then 1 else 3
 | _=>0
def okF (M:Nat):Ph→Prop
 | .DL f _ | .DC f _ _ | .WL f=>M≤f
 | .WP f x=>M≤f∧x≠0
 | _=>True
theorem okF.less {M M':Nat} (h:M'≤M):∀ {p:Ph},p.okF M→p.okF M'
 | .DL ..,k=>Nat.le_trans h k
 | .DC ..,k=>Nat.le_trans h k
 | .WL ..,k=>Nat.le_trans h k
 | .WP ..,k=>⟨Nat.le_trans h k.1,k.2⟩
 | .DE,_=>trivial
 | .WE,_=>trivial
theorem pot_le (c c':Int) (p:Ph):p.pot c'≤p.pot c + 2:=by
 cases p<;>simp only [pot]<;>(try split)<;>(try split)<;>omega
end Ph
def muP (N:Nat) (ph:Nat→Ph) (c:Int):Nat:=sumTo (fun i=>(ph i).rem) N * (2 * N + 2) + sumTo (fun i=>(ph i).pot c) N
structure LInv (N F tot more:Nat) (ph:Nat→Ph) (P:Xp OSh):Prop where
 n:P.n=N
 pr:∀ i,i < N→P.progs i=(ph i).prog (F + 1) (tot + more:Nat)
 par:∀ i,i < N→(ph i).par=i % 2
 cell:P.st.cells 0=(more + sumTo (fun i=>(ph i).rem) N:Nat)
 early:P.st.sh.early=false
 down:P.st.sh.down=(tot:Int) - (sumTo (fun i=>(ph i).rem) N:Nat)
 waits:P.st.sh.waits=(sumTo (fun i=>(ph i).away) N:Nat)
 fuel:∀ i,i < N→(ph i).okF (muP N ph (P.st.cells 0))
 gone:∀ i,i < N→ph i=.WE→more + sumTo (fun i=>(ph i).rem) N=0
 top:muP N ph (P.st.cells 0)≤F
 few:sumTo (fun i=>(ph i).rem) N≤tot
theorem picks_any (picks:List Int):Xp.Picks (picked picks):=fun went l hl=>by
 unfold picked;cases hp:picks[went.length]? with
 | some p =>
  simp only;have hlt:(p % (l.length:Int)).toNat < l.length:=by
   have hz:(0:Int) < l.length:=by have:=List.length_pos_iff.2 hl;omega
   have b1:=Int.emod_nonneg p (show (l.length:Int)≠0 by omega);have b2:=Int.emod_lt_of_pos p hz
   omega
  rw [List.getD_eq_getElem?_getD,List.getElem?_eq_getElem hlt];exact List.getElem_mem hlt
 | none =>
  simp only;cases hf:l.find? _ with
  | some x=>exact List.mem_of_find?_eq_some hf
  | none =>
   cases l with
   | nil=>exact absurd rfl hl
   | cons b l=>simp
theorem upd_all {P:Nat→Ph→Prop} {ph:Nat→Ph} {q N:Nat} {p:Ph} (h:∀ i,i < N→P i (ph i)) (hq:P q p):∀ i,i < N→P i (upd ph q p i):=fun i hi=>by
 by_cases e:i=q
 ·subst e;rw [upd_same];exact hq
 ·rw [upd_ne _ _ e];exact h i hi
theorem LInv.calm {N F tot more:Nat} {ph:Nat→Ph} {P Q:Xp OSh} (h:LInv N F tot more ph P) {q:Nat} (hq:q < N) {p:Ph} (hn:Q.n=P.n) (hpr:Q.progs=upd P.progs q (p.prog (F + 1) (tot + more:Nat))) (hc:Q.st.cells 0=P.st.cells 0)
 (he:Q.st.sh.early=false) (hd:Q.st.sh.down=P.st.sh.down) (hw:Q.st.sh.waits + (ph q).away=P.st.sh.waits + p.away) (hpar:p.par=(ph q).par) (hrem:p.rem=(ph q).rem) (hpot:p.pot (P.st.cells 0) + 1≤(ph q).pot (P.st.cells 0)) (hok:∀ M,M + 1≤muP N ph (P.st.cells 0)→p.okF M) (hgone:p=.WE→more + sumTo (fun i=>(ph i).rem) N=0) :
 LInv N F tot more (upd ph q p) Q∧muP N (upd ph q p) (Q.st.cells 0) + 1≤muP N ph (P.st.cells 0):=by
 have s1:=sumTo_upd (w:=Ph.rem) (ph:=ph) (p:=p) hq;have s2:=sumTo_upd (w:=Ph.pot (P.st.cells 0)) (ph:=ph) (p:=p) hq;have s3:=sumTo_upd (w:=Ph.away) (ph:=ph) (p:=p) hq;have hr:sumTo (fun i=>(upd ph q p i).rem) N=sumTo (fun i=>(ph i).rem) N:=by omega
 have hmu:muP N (upd ph q p) (Q.st.cells 0) + 1≤muP N ph (P.st.cells 0):=by
  unfold muP;rw [hc,hr];omega
 refine ⟨⟨hn.trans h.n,fun i hi=>?_,?_,by rw [hc,h.cell,hr],he,by rw [hd,h.down,hr],?_,?_,?_,by have:=h.top;omega,by rw [hr];exact h.few⟩,hmu⟩
 ·rw [hpr]
  by_cases e:i=q
  ·subst e;rw [upd_same,upd_same]
  ·rw [upd_ne _ _ e,upd_ne _ _ e];exact h.pr i hi
 ·exact upd_all (P:=fun i p=>p.par=i % 2) h.par (hpar.trans (h.par q hq))
 ·have:=h.waits
  omega
 ·exact upd_all (P:=fun i p=>p.okF _) (fun i hi=>(h.fuel i hi).less (by omega)) (hok _ hmu)
 ·rw [hr]
  exact upd_all (P:=fun i p=>p=.WE→more + sumTo (fun i=>(ph i).rem) N=0) h.gone hgone
theorem away_le {N:Nat} {ph:Nat→Ph}:sumTo (fun i=>(ph i).away) N≤N:=by
 have:=sumTo_le (f:=fun i=>(ph i).away) (g:=fun _=>0) (d:=1) (n:=N) fun i _=>by show (ph i).away≤0 + 1;cases ph i<;>simp [Ph.away]
 have h0:∀ n,sumTo (fun _=>0) n=0:=fun n=>by induction n with
  | zero=>rfl
  | succ n ih=>simp [sumTo,ih]
 rw [h0] at this
 omega
theorem wrap_small {v:Int} (h1 : -1000000≤v) (h2:v≤1000000):wrap64 v=v:=by unfold wrap64;omega
section
variable {F f k:Nat} {all x:Int}
theorem dl_next:∃ kk,(Ph.DL f k).prog F all=.acc ⟨1,0,0,0⟩ kk∧∀ a s,¬ a.was < 1→(kk a).pass s=(s,(Ph.DC f k a.was).prog F all) :=
 ⟨_,rfl,fun a s h=>by show (Xx.bind _ (if a.was < 1 then _ else _)).pass s=_;rw [if_neg h];rfl⟩
theorem dc_fail:∃ kk,(Ph.DC (f + 1) k x).prog F all=.acc ⟨3,0,x,wrap64 (x - 1)⟩ kk∧∀ a s,a.ok=false→(kk a).pass s=(s,(Ph.DL f k).prog F all) :=
 ⟨_,rfl,fun a s h=>by show (Xx.bind _ (if a.ok=true then _ else _)).pass s=_;rw [if_neg (by simp [h])];rfl⟩
theorem dc_done:∃ kk,(Ph.DC f k x).prog (F + 1) all=.acc ⟨3,0,x,wrap64 (x - 1)⟩ kk∧∀ (a:Told) (s:OSh),a.ok=true→(kk a).pass s=(⟨false,wrap64 (s.down + 1),s.waits⟩,(match k with|0=>Ph.DE|k' + 1=>Ph.DL F k').prog (F + 1) all) :=
 ⟨_,rfl,fun a s h=>by
  show (Xx.bind _ (if a.ok=true then _ else _)).pass s=_;rw [if_pos h];cases k with
  | zero=>rfl
  | succ k=>rfl⟩
theorem wl_open:∃ kk,(Ph.WL f).prog F all=.acc ⟨1,0,0,0⟩ kk∧∀ (a:Told) (s:OSh),a.was=0→(kk a).pass s=(⟨decide (s.down≠all) || s.early,s.down,wrap64 (s.waits + 1)⟩,Ph.WE.prog F all) :=
 ⟨_,rfl,fun a s h=>by show (Xx.bind _ (if a.was=0 then _ else _)).pass s=_;rw [if_pos h];rfl⟩
theorem wl_shut:∃ kk,(Ph.WL f).prog F all=.acc ⟨1,0,0,0⟩ kk∧∀ (a:Told) (s:OSh),a.was≠0→(kk a).pass s=(s,(Ph.WP f a.was).prog F all) :=
 ⟨_,rfl,fun a s h=>by show (Xx.bind _ (if a.was=0 then _ else _)).pass s=_;rw [if_neg h];rfl⟩
theorem wp_next:∃ kk,(Ph.WP (f + 1) x).prog F all=.acc ⟨6,0,x,0⟩ kk∧∀ (a:Told) (s:OSh),(kk a).pass s=(s,(Ph.WL f).prog F all):=⟨_,rfl,fun a s=>rfl⟩
end
theorem LInv.turn {N F tot more:Nat} (hb:tot + more < 1000) (hN:N < 1000) {ph:Nat→Ph} {P:Xp OSh} (h:LInv N F tot more ph P) {q:Nat} (hq:q∈P.able):∃ ph',LInv N F tot more ph' (P.turn q)∧muP N ph' ((P.turn q).st.cells 0) + 1≤muP N ph (P.st.cells 0):=by
 obtain ⟨hn,r,k,hp,h6⟩:=Xp.able_acc hq;rw [h.n] at hn;have hpr:=h.pr q hn;have hf:=h.fuel q hn;have hcell:=h.cell;have hmore:=h.few;have hrem:(ph q).rem≤_:=sumTo_pos (f:=fun i=>(ph i).rem) hn;have hpot:(ph q).pot (P.st.cells 0)≤_:=sumTo_pos (f:=fun i=>(ph i).pot (P.st.cells 0)) hn;have haw:=away_le (N:=N) (ph:=ph);have hM:(ph q).pot (P.st.cells 0)≤muP N ph (P.st.cells 0):=Nat.le_trans hpot (Nat.le_add_left ..);cases hph:ph q with
 | DE=>rw [hph] at hpr;rw [hpr] at hp;cases hp
 | WE=>rw [hph] at hpr;rw [hpr] at hp;cases hp
 | DL f k' =>
  rw [hph] at hpr hf hrem hM;have h1:¬ P.st.cells 0 < 1:=by replace hrem:k' + 1≤_:=hrem;omega
  obtain ⟨kk,e1,e2⟩:=dl_next (F:=F + 1) (f:=f) (k:=k') (all:=(tot + more:Nat));have ht:=Xp.turn_acc (hpr.trans e1);rw [e2 _ _ h1] at ht;have hcc:(P.turn q).st.cells 0=P.st.cells 0:=by rw [ht];show upd P.st.cells 0 _ 0=_;rw [upd_same];rfl
  refine ⟨upd ph q (.DC f k' (P.st.cells 0)),h.calm hn (by rw [ht]) (by rw [ht]<;>rfl) hcc (by rw [ht];exact h.early) (by rw [ht]) (by rw [ht,hph]<;>rfl) (by rw [hph]<;>rfl) (by rw [hph]<;>rfl) ?_ (fun M hM'=>?_) (fun e=>by cases e)⟩
  ·rw [hph];simp [Ph.pot]
  ·exact Nat.le_trans (by omega) hf
 | DC f k' x =>
  rw [hph] at hpr hf hrem hM;have hx:(Ph.DC f k' x).okF (muP N ph (P.st.cells 0)):=hf
  by_cases hcx:P.st.cells 0=x
  ·obtain ⟨kk,e1,e2⟩:=dc_done (F:=F) (f:=f) (k:=k') (x:=x) (all:=(tot + more:Nat))
   have ht:=Xp.turn_acc (hpr.trans e1);have hok:(P.st.ans ⟨3,0,x,wrap64 (x - 1)⟩).ok=true:=by simp [Rst.ans,behind,hcx]
   rw [e2 _ _ hok] at ht;have hw:wrap64 (x - 1)=x - 1:=wrap_small (by omega) (by omega);have hcc:(P.turn q).st.cells 0=x - 1:=by rw [ht];show upd P.st.cells 0 _ 0=_;rw [upd_same];simp [Rst.ans,behind,hcx,hw]<;>exact upd_same ..
   obtain ⟨p,hpd⟩:∃ p,p=(match k' with|0=>Ph.DE|k' + 1=>Ph.DL F k'):=⟨_,rfl⟩
   rw [← hpd] at ht;have p1:p.rem=k':=by rw [hpd];cases k'<;>rfl
   have p2:p.par=0:=by rw [hpd];cases k'<;>rfl
   have p3:p.pot (x - 1)≤2:=by rw [hpd];cases k'<;>simp [Ph.pot]
   have p4:p.away=0:=by rw [hpd];cases k'<;>rfl
   have p5:p≠.WE:=by rw [hpd];cases k'<;>simp
   have p6:p.okF F:=by rw [hpd];cases k'<;>simp [Ph.okF]
   have s1:=sumTo_upd (w:=Ph.rem) (ph:=ph) (p:=p) hn;have s2:=sumTo_upd (w:=Ph.pot (x - 1)) (ph:=ph) (p:=p) hn;have s3:=sumTo_upd (w:=Ph.away) (ph:=ph) (p:=p) hn;have s4:=sumTo_le (f:=fun i=>(ph i).pot (x - 1)) (g:=fun i=>(ph i).pot (P.st.cells 0)) (d:=2) (n:=N) fun i _=>Ph.pot_le _ _ _;rw [hph,p1] at s1;rw [hph,p4] at s3;rw [hph] at s2;replace s1:sumTo (fun i=>(upd ph q p i).rem) N + (k' + 1)=sumTo (fun i=>(ph i).rem) N + k':=s1;replace hrem:k' + 1≤sumTo (fun i=>(ph i).rem) N:=hrem;replace s3:sumTo (fun i=>(upd ph q p i).away) N + 0=sumTo (fun i=>(ph i).away) N + 0:=s3;replace s2:sumTo (fun i=>(upd ph q p i).pot (x - 1)) N + (if x=x - 1 then 1 else 3)=sumTo (fun i=>(ph i).pot (x - 1)) N + p.pot (x - 1):=s2;replace hpot:(if x=P.st.cells 0 then 1 else 3)≤sumTo (fun i=>(ph i).pot (P.st.cells 0)) N:=by rw [hph] at hpot;exact hpot
   rw [if_neg (by omega)] at s2;have hr:sumTo (fun i=>(ph i).rem) N=sumTo (fun i=>(upd ph q p i).rem) N + 1:=by omega
   have hmu:muP N (upd ph q p) (x - 1) + 1≤muP N ph (P.st.cells 0):=by
    unfold muP;rw [hr,Nat.add_mul,Nat.one_mul]
    omega
   have hd:wrap64 (P.st.sh.down + 1)=P.st.sh.down + 1:=by have:=h.down;exact wrap_small (by omega) (by omega)
   refine ⟨upd ph q p,⟨by rw [ht];exact h.n,fun i hi=>?_,?_,by rw [hcc,← hcx,hcell,hr];omega,by rw [ht],?_,?_,?_,?_,?_,by omega⟩,by rw [hcc];exact hmu⟩
   ·rw [ht]
    show upd P.progs q _ i=_
    by_cases e:i=q
    ·subst e;rw [upd_same,upd_same]
    ·rw [upd_ne _ _ e,upd_ne _ _ e];exact h.pr i hi
   ·exact upd_all (P:=fun i p=>p.par=i % 2) h.par (by rw [p2,← h.par q hn,hph];rfl)
   ·rw [ht]
    show wrap64 (P.st.sh.down + 1)=_;rw [hd,h.down,hr]
    omega
   ·rw [ht]
    show P.st.sh.waits=_;rw [h.waits]
    omega
   ·rw [hcc]
    exact upd_all (P:=fun i p=>p.okF _) (fun i hi=>(h.fuel i hi).less (by omega)) (p6.less (by have:=h.top;omega))
   ·intro i hi e
    by_cases e':i=q
    ·subst e';rw [upd_same] at e;exact absurd e p5
    ·rw [upd_ne _ _ e'] at e
     have:=h.gone i hi e
     omega
   ·rw [hcc];have:=h.top;omega
  ·have h3:3≤muP N ph (P.st.cells 0):=by have:=hM;simp only [Ph.pot,if_neg (fun e=>hcx (Eq.symm e))] at this;exact this
   obtain ⟨f',rfl⟩:∃ f',f=f' + 1:=⟨f - 1,by have:muP N ph (P.st.cells 0)≤f:=hf;omega⟩
   obtain ⟨kk,e1,e2⟩:=dc_fail (F:=F + 1) (f:=f') (k:=k') (x:=x) (all:=(tot + more:Nat));have ht:=Xp.turn_acc (hpr.trans e1);have hok:(P.st.ans ⟨3,0,x,wrap64 (x - 1)⟩).ok=false:=by simp [Rst.ans,behind,hcx]
   rw [e2 _ _ hok] at ht;have hcc:(P.turn q).st.cells 0=P.st.cells 0:=by rw [ht];show upd P.st.cells 0 _ 0=_;rw [upd_same];simp [Rst.ans,behind,hcx]<;>exact upd_same ..
   refine ⟨upd ph q (.DL f' k'),h.calm hn (by rw [ht]) (by rw [ht]<;>rfl) hcc (by rw [ht];exact h.early) (by rw [ht]) (by rw [ht,hph]<;>rfl) (by rw [hph]<;>rfl) (by rw [hph]<;>rfl) ?_ (fun M hM'=>?_) (fun e=>by cases e)⟩
   ·rw [hph];simp [Ph.pot,if_neg (fun e=>hcx (Eq.symm e))]
   ·have:muP N ph (P.st.cells 0)≤f' + 1:=hf
    show M≤f'
    omega
 | WL f =>
  rw [hph] at hpr hf hM
  by_cases hc0:P.st.cells 0=0
  ·obtain ⟨kk,e1,e2⟩:=wl_open (F:=F + 1) (f:=f) (all:=(tot + more:Nat))
   have ht:=Xp.turn_acc (hpr.trans e1);rw [e2 _ _ hc0] at ht;have hcc:(P.turn q).st.cells 0=P.st.cells 0:=by rw [ht];show upd P.st.cells 0 _ 0=_;rw [upd_same];rfl
   have hz:more + sumTo (fun i=>(ph i).rem) N=0:=by omega
   have hw:wrap64 (P.st.sh.waits + 1)=P.st.sh.waits + 1:=by have:=h.waits;exact wrap_small (by omega) (by omega)
   refine ⟨upd ph q .WE,h.calm hn (by rw [ht]) (by rw [ht]<;>rfl) hcc ?_ (by rw [ht]) ?_ (by rw [hph]<;>rfl) (by rw [hph]<;>rfl) (by rw [hph]<;>simp [Ph.pot]) (fun M hM'=>trivial) (fun _=>hz)⟩
   ·rw [ht]
    show (decide (P.st.sh.down≠((tot + more:Nat):Int)) || P.st.sh.early)=false;rw [h.early,h.down,Bool.or_false,decide_eq_false_iff_not]
    omega
   ·rw [ht,hph]
    show wrap64 (P.st.sh.waits + 1) + 0=P.st.sh.waits + 1;rw [hw];omega
  ·obtain ⟨kk,e1,e2⟩:=wl_shut (F:=F + 1) (f:=f) (all:=(tot + more:Nat))
   have ht:=Xp.turn_acc (hpr.trans e1);rw [e2 _ _ hc0] at ht;have hcc:(P.turn q).st.cells 0=P.st.cells 0:=by rw [ht];show upd P.st.cells 0 _ 0=_;rw [upd_same];rfl
   refine ⟨upd ph q (.WP f (P.st.cells 0)),h.calm hn (by rw [ht]) (by rw [ht]<;>rfl) hcc (by rw [ht];exact h.early) (by rw [ht]) (by rw [ht,hph]<;>rfl) (by rw [hph]<;>rfl) (by rw [hph]<;>rfl) (by rw [hph]<;>simp [Ph.pot]) (fun M hM'=>⟨?_,hc0⟩) (fun e=>by cases e)⟩;exact Nat.le_trans (by omega) hf
 | WP f x =>
  rw [hph] at hpr hf hM;obtain ⟨hf,hx0⟩:=hf;have hr:r=⟨6,0,x,0⟩:=by have:=hpr.symm.trans hp;injection this with e1 e2;exact e1.symm
  have hne:P.st.cells 0≠x:=by rw [hr] at h6;exact h6 rfl
  have h3:3≤muP N ph (P.st.cells 0):=by have:=hM;simp only [Ph.pot,if_neg (fun e=>hne (Eq.symm e))] at this;exact this
  obtain ⟨f',rfl⟩:∃ f',f=f' + 1:=⟨f - 1,by omega⟩
  obtain ⟨kk,e1,e2⟩:=wp_next (F:=F + 1) (f:=f') (x:=x) (all:=(tot + more:Nat));have ht:=Xp.turn_acc (hpr.trans e1);rw [e2] at ht;have hcc:(P.turn q).st.cells 0=P.st.cells 0:=by rw [ht];show upd P.st.cells 0 _ 0=_;rw [upd_same];rfl
  refine ⟨upd ph q (.WL f'),h.calm hn (by rw [ht]) (by rw [ht]<;>rfl) hcc (by rw [ht];exact h.early) (by rw [ht]) (by rw [ht,hph]<;>rfl) (by rw [hph]<;>rfl) (by rw [hph]<;>rfl) ?_ (fun M hM'=>?_) (fun e=>by cases e)⟩
  ·rw [hph];simp [Ph.pot,if_neg (fun e=>hne (Eq.symm e))]
  ·show M≤f'
   omega
theorem LInv.run {N F tot more:Nat} (hb:tot + more < 1000) (hN:N < 1000) {sched:List Nat→List Nat→Nat} (hs:Xp.Picks sched):∀ (m:Nat) (ph:Nat→Ph) (P:Xp OSh),LInv N F tot more ph P→muP N ph (P.st.cells 0)≤m→∃ ph',LInv N F tot more ph' (P.runs sched m).2∧((P.runs sched m).1=1∧(P.runs sched m).2.over=true∨(P.runs sched m).1=3∧(P.runs sched m).2.over=false∧(P.runs sched m).2.able = [])
 | m,ph,P,h,hm=>by
  by_cases h1:P.over=true
  ·have:P.runs sched m=(1,P):=by unfold Xp.runs;rw [if_pos h1]
   rw [this];exact ⟨ph,h,.inl ⟨rfl,h1⟩⟩
  ·replace h1:P.over=false:=by simpa using h1
   by_cases h2:P.able = []
   ·have:P.runs sched m=(3,P):=by unfold Xp.runs;rw [if_neg (by simp [h1]),if_pos h2]
    rw [this];exact ⟨ph,h,.inr ⟨rfl,h1,h2⟩⟩
   ·obtain ⟨ph',i1,i2⟩:=h.turn hb hN (hs P.st.went P.able h2)
    match m with
    | 0=>omega
    | m + 1 =>
     have:P.runs sched (m + 1)=(P.turn (sched P.st.went P.able)).runs sched m:=by
      conv=>lhs;unfold Xp.runs
      rw [if_neg (by simp [h1]),if_neg h2]
     rw [this];exact LInv.run hb hN hs m ph' _ i1 (by omega)
theorem LInv.atEnd {N F tot more:Nat} {ph:Nat→Ph} {P:Xp OSh} (h:LInv N F tot more ph P) (he:P.over=true∨P.able = []):∀ i,i < N→ph i=.DE∨ph i=.WE∨∃ f x,ph i=.WP f x∧P.st.cells 0=x∧x≠0:=fun i hi=>by
 have hpr:=h.pr i hi;have hok:=h.fuel i hi;have hin:i∈List.range P.n:=List.mem_range.2 (by rw [h.n];exact hi);have key:∀ r k,P.progs i=.acc r k→P.can i=false:=fun r k hp=>by
  rcases he with he|he
  ·have:=List.all_eq_true.1 he i hin
   rw [hp] at this;cases this
  ·cases hc:P.can i with
   | false=>rfl
   | true =>
    have:i∈P.able:=List.mem_filter.2 ⟨hin,hc⟩
    rw [he] at this;cases this
 cases hph:ph i with
 | DE=>exact .inl rfl
 | WE=>exact .inr (.inl rfl)
 | DL f k =>
  rw [hph] at hpr
  have:=key _ _ hpr
  unfold Xp.can at this;rw [hpr] at this;cases this
 | DC f k x =>
  rw [hph] at hpr
  have:=key _ _ hpr
  unfold Xp.can at this;rw [hpr] at this;cases this
 | WL f =>
  rw [hph] at hpr
  have:=key _ _ hpr
  unfold Xp.can at this;rw [hpr] at this;cases this
 | WP f x =>
  rw [hph] at hpr hok
  have:=key _ _ hpr
  unfold Xp.can at this;rw [hpr] at this;refine .inr (.inr ⟨f,x,rfl,?_,hok.2⟩);have h2:(decide ((6:Int)≠6) || decide (P.st.cells 0≠x))=false:=this;simpa using h2
theorem Xp.start_append {Sh:Type}:∀ (l l':List (Xx Sh Unit)) (P:Xp Sh),P.start (l ++ l')=(P.start l).start l'
 | [],_,_=>rfl
 | p::l,l',P=>Xp.start_append l l' _
theorem sumTo_zero {f:Nat→Nat}:∀ {n:Nat},(∀ i,i < n→f i=0)→sumTo f n=0
 | 0,_=>rfl
 | n + 1,h=>by simp only [sumTo];rw [sumTo_zero fun i hi=>h i (by omega),h n (by omega)]
theorem Fuel.bind {Sh α β:Type} {g:α→Xx Sh β}:∀ {p:Xx Sh α} {m:Nat},Fuel m p→(∀ k a,k≤m→Fuel k (g a))→Fuel m (p.bind g)
 | .ret a,m,_,hg=>hg m a (Nat.le_refl _)
 | .fall,m,h,_=>.fall m
 | .out,m,h,_=>by cases h
 | .acc r k,0,h,hg=>.acc0
 | .acc r k,m + 1,h,hg=>by
  cases h with
  | acc hk=>exact .acc fun a=>Fuel.bind (hk a) fun k a hk=>hg k a (by omega)
 | .act f k,m,h,hg=>by
  cases h with
  | act hk=>exact .act fun s=>Fuel.bind (hk s) hg

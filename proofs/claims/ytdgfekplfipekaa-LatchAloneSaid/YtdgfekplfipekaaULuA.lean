/- A lock that threads take again and again: what every run comes to. No program in sight. -/
import Derived.Test.YtdgfekplfipekaaURoC
import Derived.Test.YtdgfekplfipekaaULpB
import Derived.Test.YtdgfekplfipekaaULbA
import Derived.Test.YtdgfekplfipekaaUPlB
import Derived.Test.YtdgfekplfipekaaULpA
import Derived.Test.YtdgfekplfipekaaULbB
set_option linter.all false
set_option maxRecDepth 100000
set_option maxHeartbeats 16000000
namespace Go.Proofs.Ytdgfekplfipekaa
open Go.Conc Go.RowKit
open Go.ConcN (upd upd_same upd_ne)
set_option maxRecDepth 100000
structure Xgc (Sh:Type) (A:Nat→Nat) (nc:Nat) where
 M:Sh→(Nat→Prop)→World→Prop
 frame:∀ {sh:Sh} {col:Nat→Prop} {x:World},M sh col x→∀ (col':Nat→Prop) (y:World),x.heap.size≤y.heap.size→(∀ r,r < x.heap.size→¬ col r→(∀ i,i < nc→r≠A i)→y.heap[r]? = x.heap[r]?)→(∀ r,r < x.heap.size→col' r→col r)→M sh col' y
theorem XN.lt {x:World} {b:Nat} {v:Int} (h:XN x b v):b < x.heap.size:=(GE h).1
structure Xdu {Sh:Type} {A:Nat→Nat} {nc:Nat} (W:Xgc Sh A nc) where
 k:Nat→Addr→Prop
 i:∀ {sh:Sh} {col:Nat→Prop} {x:World},W.M sh col x→∀ j a,k j a→a.block < x.heap.size∧¬ col a.block∧∀ c,c < nc→a.block≠A c
def Xdu.no {Sh:Type} {A:Nat→Nat} {nc:Nat} (W:Xgc Sh A nc):Xdu W:=⟨fun _ _=>False,fun _ _ _ h=>h.elim⟩
def Xed {Sh:Type} (A:Nat→Nat) (nc:Nat) (inj:∀ a b,a < nc→b < nc→A a=A b→a=b) (W:Xgc Sh A nc) (fin:XV Sh:=XV.no Sh) (kp:Xdu W:=Xdu.no W):Zv Sh where
 fin:=fin
 keep:=kp.k
 keepI:=fun h j a ha=>kp.i h.2 j a ha
 A:=A
 nc:=nc
 I:=fun sh cells col x=>(∀ i,i < nc→XN x (A i) (cells i)∧¬ col (A i))∧W.M sh col x
 inj:=inj
 cell:=fun h i hi=>⟨⟨_,_,(h.1 i hi).1⟩,(h.1 i hi).1.c0,(h.1 i hi).2⟩
 frame:=fun h col' y hs ho hc=>⟨fun i hi=>by
  obtain ⟨h1,h2⟩:=h.1 i hi;exact ⟨(ho _ h1.lt h2).trans h1,fun e=>h2 (hc _ h1.lt e)⟩,W.frame h.2 col' y hs (fun r hr hn _=>ho r hr hn) hc⟩
 set:=fun {sh cells col x} h i v col' y hi hs ho hv hc=>⟨fun j hj=>by
  obtain ⟨h1,h2⟩:=h.1 j hj;refine ⟨?_,fun e=>h2 (hc _ h1.lt e)⟩
  by_cases e:j=i
  ·subst e
   rw [upd_same];exact hv.trans (h1.set v)
  ·rw [upd_ne _ _ e]
   exact (ho _ h1.lt h2 fun e2=>e (inj j i hj hi e2)).trans h1,W.frame h.2 col' y hs (fun r hr hn hna=>ho r hr hn (hna i hi)) hc⟩
section
variable {Sh:Type} {Post:Value→World→Prop} {S:Zv Sh} {num tb rb m:Nat} {cb c:Frame} {Pv:Nat→Prop} {x0:World} {f:Told→Value} {k:Told→Xx Sh Unit}
theorem XR.body (h1:∀ (C:Ctx) (x:World),JG Try.prog Post C (G (cb.raise [{ v:=YI,recovered:=false }]) [YX Try.prog]) x→JG Try.prog Post C (G (c.raise [{ v:=YI,recovered:=false }]) [cb,YX Try.prog]) x)
 (h2:∀ m',m=m' + 1→∀ (C:Ctx) (x:World) (col:Nat→Prop) (sh:Sh) (cells:Nat→Int) (a:Told),C.d=0→Qn x tb rb→col tb→(∀ r,col r→r < x.heap.size)→(∀ r,Pv r→¬ col r∧x.heap[r]? = x0.heap[r]?)→(∀ b,S.keep num b→x.cell? b=x0.cell? b)→S.I sh cells col x →
   Reach Post S num tb cb (fun Pv y=>XR Post S num tb rb cb m' Pv y QG) C col cells x ((k a).pass sh).1 ((k a).pass sh).2→JG Try.prog Post C (G (c.finish (f a)) [cb,YX Try.prog]) x):XR Post S num tb rb cb m Pv x0 f k c [cb,YX Try.prog]:=by
 have hs:Yq Post cb c [cb,YX Try.prog]:=fun C x hb=>h1 C x (hb x (Nat.le_refl _) fun _ _=>rfl);cases m with
 | zero=>exact hs
 | succ m=>exact ⟨hs,fun C x col sh cells a e1 e2 e3 e4 ep ek e5 e6=>h2 m rfl C x col sh cells a e1 e2 e3 e4 ep ek (S.frame e5 _ _ (Nat.le_refl _) (fun _ _ _=>rfl) fun _ _ h=>.inl h) e6⟩
end
section
variable {Post:Value→World→Prop} {C:Ctx} {x:World} {c:Frame} {cs:List Frame}
theorem cellNewI_J {v:Int} (h:∀ y,Xg x y→XN y x.heap.size v→y.heap.size=x.heap.size + 1→JG Try.prog Post C (G (c.finish (P0 x.heap.size)) cs) y):JG Try.prog Post C (G (Frame.enter Try.prog 9 #[.int .i64 v] .normal) (c::cs)) x:=by
 refine JG.calls (F:=FX makersX) (Q:=fun u y=>u=P0 x.heap.size∧Xg x y∧XN y x.heap.size v∧y.heap.size=x.heap.size + 1) (closedMX _) (by kernel_rfl) (fun τ=>?_) (fun u y hq=>?_)
 ·refine (Xa4 v _).mono ?_
  rintro e y ⟨rfl,rfl⟩;exact ⟨_,rfl,rfl,(Xg.refl (under x τ 0)).alloc _,Xbx (under x τ 0) v,by simp [Xs]⟩
 ·obtain ⟨rfl,h1,h2,h3⟩:=hq
  exact h y h1 h2 h3
end
section
variable {Sh:Type} {Post:Value→World→Prop} {S:Zv Sh} {num tb rb m:Nat} {cb:Frame} {C:Ctx} {x0 x y:World} {col Pv:Nat→Prop} {sh:Sh} {cells:Nat→Int} {p:Xx Sh Unit} {c:Frame} {cs:List Frame} {i:Nat}
structure TSt (Post:Value→World→Prop) (S:Zv Sh) (num tb rb:Nat) (cb:Frame) (m:Nat) (C:Ctx) (x0 x:World) (col Pv:Nat→Prop) (sh:Sh) (cells:Nat→Int) (p:Xx Sh Unit):Prop where
 d:C.d=0
 lives:Qn x tb rb
 mine:col tb
 lt:∀ r,col r→r < x.heap.size
 pv:∀ r,Pv r→r < x.heap.size∧¬ col r
 I:S.I sh cells (fun r=>col r∨Pv r) x
 size:x0.heap.size≤x.heap.size
 old:∀ r,col r→x.heap[r]? = x0.heap[r]?
 keep:∀ i a,i≠num→S.keep i a→x.cell? a=x0.cell? a
 klt:∀ i a,S.keep i a→a.block < x.heap.size
 reach:Reach Post S num tb cb (fun Pv y=>XR Post S num tb rb cb m Pv y QG) C col cells x0 (p.pass sh).1 (p.pass sh).2
theorem Qn.up {x y:World} {tb rb:Nat} (h:Qn x tb rb) (ho:Xg x y):Qn y tb rb:=⟨ho.cell h.1,ho.cell h.2.1,h.2.2⟩
theorem TSt.up (h:TSt Post S num tb rb cb m C x0 x col Pv sh cells p) (ho:Xg x y):TSt Post S num tb rb cb m C x0 y col Pv sh cells p :=
 ⟨h.d,h.lives.up ho,h.mine,fun r hr=>Nat.lt_of_lt_of_le (h.lt r hr) ho.1,fun r hr=>⟨Nat.lt_of_lt_of_le (h.pv r hr).1 ho.1,(h.pv r hr).2⟩,S.frame h.I _ y ho.1 (fun r h1 _=>ho.2 r h1) fun _ _ h=>h,Nat.le_trans h.size ho.1,fun r hr=>(ho.2 r (h.lt r hr)).trans (h.old r hr),
  fun i a h1 h2=>(World.cell?_of_block (ho.2 _ (h.klt i a h2))).trans (h.keep i a h1 h2),fun i a h1=>Nat.lt_of_lt_of_le (h.klt i a h1) ho.1,h.reach⟩
theorem TSt.own (h:TSt Post S num tb rb cb m C x0 x col Pv sh cells p) (ho:Xg x y) (N:Nat→Prop) (hN:∀ r,N r→x.heap.size≤r∧r < y.heap.size):TSt Post S num tb rb cb m C x0 y col (fun r=>Pv r∨N r) sh cells p :=
 { h.up ho with
   pv:=fun r hr=>by
    rcases hr with hr|hr
    ·exact (h.up ho).pv r hr
    ·exact ⟨(hN r hr).2,fun e=>by have:=h.lt r e;have:=(hN r hr).1;omega⟩
   I:=S.frame h.I _ y ho.1 (fun r h1 _=>ho.2 r h1) fun r h1 h2=>by
    rcases h2 with h2|h2|h2
    ·exact .inl h2
    ·exact .inr h2
    ·have:=(hN r h2).1;omega }
theorem TSt.turn (h:TSt Post S num tb rb cb m C x0 x col Pv sh cells p) (hs:y.heap.size=x.heap.size) (hy:∀ r,¬ Pv r→y.heap[r]? = x.heap[r]?) (htb:¬ Pv tb) (hk:∀ i a,i≠num→S.keep i a→¬ Pv a.block):TSt Post S num tb rb cb m C x0 y col Pv sh cells p :=
 have hl:Qn y tb rb:=⟨(World.cell?_of_block (hy tb htb)).trans h.lives.1,(World.cell?_of_block (hy tb htb)).trans h.lives.2.1,h.lives.2.2⟩
 ⟨h.d,hl,h.mine,fun r hr=>by rw [hs];exact h.lt r hr,fun r hr=>⟨by rw [hs];exact (h.pv r hr).1,(h.pv r hr).2⟩,S.frame h.I _ y (by rw [hs];exact Nat.le_refl _) (fun r _ h1=>hy r fun e=>h1 (.inr e)) fun _ _ h=>h,by rw [hs];exact h.size,
  fun r hr=>(hy r fun e=>(h.pv r e).2 hr).trans (h.old r hr),fun i a h1 h2=>(World.cell?_of_block (hy _ (hk i a h1 h2))).trans (h.keep i a h1 h2),fun i a h1=>by rw [hs];exact h.klt i a h1,h.reach⟩
theorem TSt.step {r:Ask} {k:Told→Xx Sh Unit} (h:TSt Post S num tb rb cb m C x0 x col Pv sh cells (.acc r k)):Q6 Post S num tb rb cb m Pv C x r k :=
 Reach.step (x0:=x0) h.reach h.size h.old h.pv h.I h.keep
def NextT (Post:Value→World→Prop) (S:Zv Sh) (num tb rb:Nat) (cb:Frame) (Pv:Nat→Prop) (x:World) (f:Told→Value) (k:Told→Xx Sh Unit) (c:Frame) (cs:List Frame):Prop :=
 ∀ (m':Nat) (C':Ctx) (y:World) (col':Nat→Prop) (sh':Sh) (cells':Nat→Int) (a:Told),TSt Post S num tb rb cb m' C' y y col' Pv sh' cells' (k a)→(∀ r,Pv r→y.heap[r]? = x.heap[r]?)→(∀ b,S.keep num b→y.cell? b=x.cell? b)→JG Try.prog Post C' (G (c.finish (f a)) cs) y
theorem TSt.after {Pv:Nat→Prop} {f:Told→Value} {k:Told→Xx Sh Unit} (hlt:∀ r,Pv r→r < x.heap.size) (hs:Yq Post cb c cs) (hn:NextT Post S num tb rb cb Pv x f k c cs):XR Post S num tb rb cb m Pv x f k c cs:=by
 cases m with
 | zero=>exact hs
 | succ m =>
  refine ⟨hs,fun C z col sh cells a hd hL hm hc hp hk hI R=>hn m C z col sh cells a ⟨hd,hL,hm,hc,fun r hr=>⟨?_,(hp r hr).1⟩,hI,Nat.le_refl _,fun _ _=>rfl,fun _ _ _ _=>rfl,fun i a h=>(S.keepI hI i a h).1,R⟩ (fun r hr=>(hp r hr).2) hk⟩;have h1:=(hp r hr).2;have h2:=hlt r hr;rcases Nat.lt_or_ge r z.heap.size with h|h
  ·exact h
  ·rw [Array.getElem?_eq_none h,Array.getElem?_eq_getElem h2] at h1
   cases h1
theorem Yq.up {pf:Frame} (hs:Yq Post cb c cs) (h:∀ (C:Ctx) (x:World),JG Try.prog Post C (G (c.raise [{ v:=YI,recovered:=false }]) cs) x→JG Try.prog Post C (G (pf.raise [{ v:=YI,recovered:=false }]) (c::cs)) x):Yq Post cb pf (c::cs):=fun C x hb=>h C x (hs C x hb)
variable {k:Told→Xx Sh Unit}
theorem load_T (h:TSt Post S num tb rb cb m C x0 x col Pv sh cells (.acc ⟨1,i,0,0⟩ k)) (hi:i < S.nc) (hm:x.cell? (th (S.A i) 1)=some (.bool true)) (hs:Yq Post cb c cs) (hn:NextT Post S num tb rb cb Pv x (fun a=>.int .i64 a.was) k c cs) :
 JG Try.prog Post C (G (Frame.enter Try.prog 13 #[P0 (S.A i),P0 tb] .normal) (c::cs)) x:=cellLoad_R hm h.lives hi h.step (TSt.after (fun r hr=>(h.pv r hr).1) hs hn)
theorem store_T {v:Int} (h:TSt Post S num tb rb cb m C x0 x col Pv sh cells (.acc ⟨2,i,v,0⟩ k)) (hi:i < S.nc) (hm:x.cell? (th (S.A i) 1)=some (.bool true)) (hs:Yq Post cb c cs) (hn:NextT Post S num tb rb cb Pv x (fun _=>.tuple #[]) k c cs) :
 JG Try.prog Post C (G (Frame.enter Try.prog 14 #[P0 (S.A i),P0 tb,.int .i64 v] .normal) (c::cs)) x:=cellStore_R hm h.lives hi h.step (TSt.after (fun r hr=>(h.pv r hr).1) hs hn)
theorem cas_T {o n:Int} (h:TSt Post S num tb rb cb m C x0 x col Pv sh cells (.acc ⟨3,i,o,n⟩ k)) (hi:i < S.nc) (hm:x.cell? (th (S.A i) 1)=some (.bool true)) (hs:Yq Post cb c cs) (hn:NextT Post S num tb rb cb Pv x (fun a=>.bool a.ok) k c cs) :
 JG Try.prog Post C (G (Frame.enter Try.prog 28 #[P0 (S.A i),P0 tb,.int .i64 o,.int .i64 n] .normal) (c::cs)) x:=cellCas_R hm h.lives hi h.step (TSt.after (fun r hr=>(h.pv r hr).1) hs hn)
theorem swap_T {v:Int} (h:TSt Post S num tb rb cb m C x0 x col Pv sh cells (.acc ⟨5,i,v,0⟩ k)) (hi:i < S.nc) (hm:x.cell? (th (S.A i) 1)=some (.bool true)) (hs:Yq Post cb c cs) (hn:NextT Post S num tb rb cb Pv x (fun a=>.int .i64 a.was) k c cs) :
 JG Try.prog Post C (G (Frame.enter Try.prog 29 #[P0 (S.A i),P0 tb,.int .i64 v] .normal) (c::cs)) x:=cellSwap_R hm h.lives hi h.step (TSt.after (fun r hr=>(h.pv r hr).1) hs hn)
theorem park_T {v:Int} (h:TSt Post S num tb rb cb m C x0 x col Pv sh cells (.acc ⟨6,i,v,0⟩ k)) (hi:i < S.nc) (hm:x.cell? (th (S.A i) 1)=some (.bool true)) (hs:Yq Post cb c cs) (hn:NextT Post S num tb rb cb Pv x (fun a=>.int .i64 a.was) k c cs) :
 JG Try.prog Post C (G (Frame.enter Try.prog 30 #[P0 (S.A i),P0 tb,.int .i64 v] .normal) (c::cs)) x:=cellPark_R hm h.lives hi h.step (TSt.after (fun r hr=>(h.pv r hr).1) hs hn)
end
def Code.navS:Code→List Nat→Code
 | c,[]=>c
 | .seq a _,0::l=>Code.navS a l
 | .seq _ b,_::l=>Code.navS b l
 | .cond _ a _,0::l=>Code.navS a l
 | .cond _ _ b,_::l=>Code.navS b l
 | .block _ a,_::l=>Code.navS a l
 | .loop a,_::l=>Code.navS a l
 | .scope a,_::l=>Code.navS a l
 | c,_=>c
theorem JG.goto {P:Program} {Post:Value→World→Prop} {C:Ctx} {x:World} {b:Frame} {a:Act} {k k':List Item} {cs:List Frame} {l:Nat} (he:gotoIn l k=some k') (h:JG P Post C (G (b.at a k') cs) x):JG P Post C (G (b.at a (.code (.goto l)::k)) cs) x:=.ctl rfl (fun _ _=>by simp [G,stepG,stepG.exec,Frame.at,he]) h
section
variable {Sh:Type} {Post:Value→World→Prop} {S:Zv Sh} {num tb rb:Nat} {cb:Frame} {Pv:Nat→Prop} {c:Frame} {cs:List Frame} {lb:Nat}
def LatchS (S:Zv Sh) (lb:Nat):Prop:=0 < S.nc∧∀ {sh:Sh} {cells:Nat→Int} {col:Nat→Prop} {x:World},S.I sh cells col x→x.cell? (th lb 0)=some (P0 (S.A 0))∧x.cell? (th (S.A 0) 1)=some (.bool true)
def NextC {α:Type} (Post:Value→World→Prop) (S:Zv Sh) (num tb rb:Nat) (cb:Frame) (Pv:Nat→Prop) (x:World) (f:α→Value) (g:α→Xx Sh Unit) (c:Frame) (cs:List Frame):Prop :=
 ∀ (m':Nat) (C':Ctx) (y:World) (col':Nat→Prop) (sh':Sh) (cells':Nat→Int) (a:α),TSt Post S num tb rb cb m' C' y y col' Pv sh' cells' (g a)→(∀ r,Pv r→y.heap[r]? = x.heap[r]?)→(∀ b,S.keep num b→y.cell? b=x.cell? b)→JG Try.prog Post C' (G (c.finish (f a)) cs) y
theorem TSt.no {m:Nat} {C:Ctx} {x0 x:World} {col:Nat→Prop} {sh:Sh} {cells:Nat→Int} (h:TSt Post S num tb rb cb m C x0 x col Pv sh cells .out):False:=h.reach x Pv h.size h.old h.pv h.I h.keep
def okV (e:Bool):Value:=.int .i64 (if e then 0 else 1)
end
structure ASh where
 inside:Int
 wrong:Bool
 held:Int
def lkP {Sh:Type}:Nat→Xx Sh Unit
 | 0=>.out
 | f + 1=>.acc ⟨5,0,2,0⟩ fun a=>if a.was=0 then .ret () else .acc ⟨6,0,2,0⟩ fun _=>lkP f
def lockP {Sh:Type} (F:Nat):Xx Sh Unit:=.acc ⟨3,0,0,1⟩ fun a=>if a.ok then .ret () else lkP F
def tryP {Sh:Type}:Xx Sh Bool:=.acc ⟨3,0,0,1⟩ fun a=>.ret a.ok
def unP {Sh:Type}:Xx Sh Bool:=.acc ⟨5,0,0,0⟩ fun a=>.ret (decide (a.was≠0))
def gU (rest:Xx ASh Unit) (e:Bool):Xx ASh Unit:=.act (fun s=>⟨s.inside,!e,s.held⟩) fun _=>rest
def critC (rest:Xx ASh Unit):Xx ASh Unit:=.act (fun s=>⟨wrap64 (s.inside - 1),s.wrong,wrap64 (s.held + 1)⟩) fun s=>if s.wrong then rest else unP.bind (gU rest)
def critB (rest:Xx ASh Unit) (v:Int):Xx ASh Unit:=.act (fun s=>⟨s.inside,s.wrong || decide (s.inside≠1),s.held⟩) fun _=>.acc ⟨2,1,wrap64 (v + 1),0⟩ fun _=>critC rest
def crit (rest:Xx ASh Unit):Xx ASh Unit:=.act (fun s=>⟨wrap64 (s.inside + 1),s.wrong || decide (wrap64 (s.inside + 1)≠1),s.held⟩) fun _=>.acc ⟨1,1,0,0⟩ fun a=>critB rest a.was
def gL (rest:Xx ASh Unit) (_:Unit):Xx ASh Unit:=.act (fun s=>⟨s.inside,false,s.held⟩) fun _=>crit rest
def gT (rest:Xx ASh Unit) (b:Bool):Xx ASh Unit:=if b then crit rest else rest
def rounds (F:Nat) (tr:Bool):Nat→Xx ASh Unit
 | 0=>.ret ()
 | k + 1=>if tr then tryP.bind (gT (rounds F tr k)) else .act id fun s=>if s.wrong then crit (rounds F tr k) else (lockP F).bind (gL (rounds F tr k))
inductive PhA where
 | S (k:Nat)
 | W (f k:Nat)
 | Z (f k:Nat)
 | C (k:Nat)
 | D (k:Nat) (v:Int)
 | U (k:Nat)
 | E
namespace PhA
def prog (F:Nat) (tr:Bool):PhA→Xx ASh Unit
 | .S k=>if tr then tryP.bind (gT (rounds F tr k)) else (lockP F).bind (gL (rounds F tr k))
 | .W f k=>(lkP (f + 1)).bind (gL (rounds F tr k))
 | .Z f k=>.acc ⟨6,0,2,0⟩ fun _=>(lkP f).bind (gL (rounds F tr k))
 | .C k=>.acc ⟨1,1,0,0⟩ fun a=>critB (rounds F tr k) a.was
 | .D k v=>.acc ⟨2,1,wrap64 (v + 1),0⟩ fun _=>critC (rounds F tr k)
 | .U k=>unP.bind (gU (rounds F tr k))
 | .E=>.ret ()
def nxt:Nat→PhA
 | 0=>.E
 | k + 1=>.S k
end PhA
theorem rounds_pass {F k:Nat} {tr:Bool} {s:ASh} (h:s.wrong=false):(rounds F tr k).pass s=(s,(PhA.nxt k).prog F tr):=by
 cases k with
 | zero=>rfl
 | succ k =>
  cases tr with
  | true=>rfl
  | false =>
   show (if s.wrong=true then _ else _:Xx ASh Unit).pass s=_;rw [if_neg (by simp [h])]
   rfl

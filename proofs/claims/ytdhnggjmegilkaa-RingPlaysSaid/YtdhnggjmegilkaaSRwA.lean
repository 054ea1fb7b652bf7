/- As CpC, for answers of any kind: what the threads of a run are told, one list a thread, in rows of its own. -/
import Derived.Test.YtdhnggjmegilkaaSGtT
import Derived.Test.YtdhnggjmegilkaaSTkK
import Derived.Test.YtdhnggjmegilkaaSGtS
import Derived.Test.YtdhnggjmegilkaaSWkD
import Derived.Test.YtdhnggjmegilkaaSKept
import Derived.Deep.AppendLies
import Derived.Test.YtdhnggjmegilkaaSPlB
set_option linter.all false
set_option maxRecDepth 100000
set_option maxHeartbeats 16000000
namespace Go.Proofs.Ytdhnggjmegilkaa
open Go.Conc Go.RowKit
set_option maxRecDepth 100000
theorem Xg.setNew {a b:World} (h:Xg a b) {ad:Addr} {v:Value} (hb:a.heap.size≤ad.block):Xg a (b.setCell ad v) :=
 ⟨by rw [Xh];exact h.1,fun r hr=>(Below.heap_setCell _ _ _ r (by omega)).trans (h.2 r hr)⟩
theorem Za {w:World} {N:Nat} {e:TypeId} {size:Nat} {v:Value} {n:Nat} {xs:List Value} (h:w.ownsRow N e size v n xs) {g:Nat} (hg:v.ownBlock=some g):N≤g:=(h.lt g hg).1
theorem Qn.old {x y:World} {tb rb:Nat} (h:Qn x tb rb) (ho:Xg x y):Qn y tb rb:=⟨ho.cell h.1,ho.cell h.2.1,h.2.2⟩
theorem Xcy {w w':World} {N N':Nat} {e e':TypeId} {size size':Nat} {v:Value} {n n':Nat} {xs xs':List Value} (h:w.ownsRow N e size v n xs) (h':w'.ownsRow N' e' size' v n' xs'):n=n':=by
 rcases h.2 with ⟨rfl,h0⟩|⟨g,cap,cur,rfl,_⟩
 ·rcases h'.2 with ⟨_,h1⟩|⟨g,cap,cur,h1,_⟩
  ·omega
  ·cases h1
 ·rcases h'.2 with ⟨h1,_⟩|⟨g',cap',cur',h1,_⟩
  ·cases h1
  ·injection h1
theorem Qy {P:Program} {a:Act} {o:Oper} {s x:Operand} {t:TypeId} {v v2 u:Value} {w w':World} (ho:o.op=.call { callee:=.builtin .append,args:=#[s,x],argTypes:=#[t,t] }) (hs:a.eval s=v) (hx:a.eval x=v2) (hr:(Builtin.append_ #[t,t] o.type #[v,v2]).run P w=.ok u w'):(execOp a.eval o).run P w=.ok (.value u) w':=by
 unfold execOp;simp only [ho,resolve,invoke,builtin,Sem.run_bind,Sem.run_pure,Result.andThen_ok,List.map_toArray,List.map_cons,List.map_nil,hs,hx,hr]
theorem XdV (n:Nat) (hn:n≤8):madeCells (Value.slice none 0 0).cells n=(List.replicate n (Value.slice none 0 0)).toArray:=by
 rw [show (Value.slice none 0 0).cells=#[Value.slice none 0 0] from by rw [Value.cells.eq_def]];unfold madeCells;apply Array.ext_getElem?;intro i;rcases Nat.lt_or_ge i n with h|h
 ·simp [h,Nat.mod_one]
 ·simp [Nat.not_lt.2 h]
theorem Xfb {w:World} {N N':Nat} {e:TypeId} {size:Nat} {v:Value} {n:Nat} {xs:List Value} (h:w.ownsRow N e size v n xs) (hN:N'≤N):w.ownsRow N' e size v n xs:=⟨h.1,h.2.imp id fun ⟨g,cap,cur,q1,q2,q3⟩=>⟨g,cap,cur,q1,by omega,q3⟩⟩
def XeB (w:World) (a:Option Addr) (n:Nat) (lens:Nat→Nat):Prop:=∀ i,i < n→∃ g o b c,a=some ⟨g,o,none⟩∧g < w.heap.size∧w.cell? ⟨g,o + i,none⟩=some (.slice b (lens i) c)
def XbZ (lens:Nat→Nat):Nat→Nat
 | 0=>0
 | k + 1=>XbZ lens k + 1 + lens k
theorem XbY {lens:Nat→Nat}:∀ (n i:Nat),i < n→lens i≤XbZ lens n
 | n + 1,i,h=>by
  rw [XbZ];rcases Nat.lt_or_ge i n with h1|h1
  ·have:=XbY (lens:=lens) n i h1;omega
  ·obtain rfl:i=n:=by omega
   omega
def XdY (l:List Int):List Value:=l.map fun x=>.int .i64 x
theorem XfZ:(Try.prog.info? 3).map (fun i=>(i.zero,i.size,i.bytes))=some (some (.int .i64 0),1,8):=by kernel_rfl
theorem Xde (b:Option Addr) (cap:Nat) (hcap:b=none→cap=0) (L:List Int) (hl:L.length≤1000000) (w:World) (h:X0 w b L):Calls Try.prog 19 #[.slice b L.length cap] w (fun e w'=>∃ v,e=.returned v∧w'.ownsRow w.heap.size 3 1 v L.length (XdY L)∧Xg w w'):=by
 obtain ⟨j0,hj0,hjz0,hjz1,hjz2⟩:=XM XfZ;have H:=HD h;clear h;cases b with
 | some ad =>
  have hc:∀ j u,(XdY L)[j]? = some u→w.cell? (ad.add j)=some u:=fun j u hu=>by
   unfold XdY at hu;rw [List.getElem?_map] at hu;cases hx:L[j]? with
   | none=>rw [hx] at hu;cases hu
   | some x =>
    rw [hx] at hu;obtain ⟨g,off,e,hcell⟩:=H.out j x hx;obtain rfl:ad=⟨g,off,none⟩:=OI e;obtain rfl:Value.int .i64 x=u:=by simpa using hu
    rw [show (Addr.add ⟨g,off,none⟩ j)=⟨g,off + j,none⟩ by unfold Addr.add;split<;>simp_all];exact hcell
  have h1:∀ u∈XdY L,u.oneCell'=true:=fun u hu=>by
   obtain ⟨x,_,rfl⟩:=List.mem_map.1 hu
   rfl
  replace hc:=HD hc;replace h1:=HD h1
  go_enter Try.func19,Try.ntmps19
  go_wp2_with (at_builtin;refine wpList_append_own _ rfl _ _ 24 rfl w.heap.size 3 j0 _ 1 8 Try.underlying24 hj0 hjz0 hjz1 hjz2 rfl (by decide) (.slice none 0 0) 0 [] rfl (World.ownsRow_nil _ _ _ _) ad L.length cap (XdY L) rfl (by simp [XdY]) hc.out h1.out (by unfold maxLen;omega) (by omega) (Nat.le_refl _) ?_;intro v1 w1 hh1 hh2 hh3;have HO:=HD hh1;have HG:=HD hh2;clear hh1 hh2 hh3)
  go_ret;have h:=HO.out;rw [Nat.zero_add,List.nil_append] at h;exact ⟨_,rfl,h,HG.out.size,fun q hq=>HG.out.block q hq (by simp [Value.ownBlock])⟩
 | none =>
  have hL:L = []:=by
   cases L with
   | nil=>rfl
   | cons a L =>
    obtain ⟨g,off,e,_⟩:=H.out 0 a rfl;cases e
  subst hL;obtain rfl:=hcap rfl
  go_enter Try.func19,Try.ntmps19
  go_wp2_with fail
  go_ret;exact ⟨_,rfl,World.ownsRow_nil _ _ _ _,Xg.refl _⟩
section
variable {Post:Value→World→Prop} {C:Ctx} {x:World} {c:Frame} {cs:List Frame}
theorem Xfr {b:Option Addr} {cap:Nat} (hcap:b=none→cap=0) {L:List Int} (hl:L.length≤1000000) (hN:X0 x b L) (h:∀ v y,Xg x y→y.ownsRow x.heap.size 3 1 v L.length (XdY L)→JG Try.prog Post C (G (c.finish v) cs) y) :
 JG Try.prog Post C (G (Frame.enter Try.prog 19 #[.slice b L.length cap] .normal) (c::cs)) x:=by
 refine JG.calls (F:=FX UY) (Q:=fun u y=>y.ownsRow x.heap.size 3 1 u L.length (XdY L)∧Xg x y) (Y8 _) (by kernel_rfl) (fun τ=>?_) (fun u y hq=>h u y hq.2 hq.1);refine (Xde b cap hcap L hl (under x τ 0) hN).mono ?_;rintro e y ⟨v,rfl,h1,h2⟩;exact ⟨_,rfl,h1,h2⟩
end
end Go.Proofs.Ytdhnggjmegilkaa
namespace Go.Proofs.Ytdhnggjmegilkaa
open Go.Conc Go.RowKit
open Go.ConcN (upd upd_same upd_ne)
set_option maxRecDepth 100000
section
variable {Sh:Type} {Post:Value→World→Prop} {S:Zv Sh} {num tb rb m:Nat} {cb:Frame} {C:Ctx} {x0 x y:World} {col Pv:Nat→Prop} {sh:Sh} {cells:Nat→Int} {p:Xx Sh Unit} {c:Frame} {cs:List Frame} {i:Nat}
structure TSt (Post:Value→World→Prop) (S:Zv Sh) (num tb rb:Nat) (cb:Frame) (m:Nat) (C:Ctx) (x0 x:World) (col Pv:Nat→Prop) (sh:Sh) (cells:Nat→Int) (p:Xx Sh Unit):Prop where
 d:C.d=0
 lives:Qn x tb rb
 mine:col tb
 lt:∀ r,col r→r < x.heap.size
 pv:∀ r,Pv r→r < x.heap.size∧¬ col r
 I:S.I sh cells (fun r=>col r∨Pv r) x
 size:x0.heap.size≤x.heap.size
 old:∀ r,col r→x.heap[r]? = x0.heap[r]?
 keep:∀ i a,i≠num→S.keep i a→x.cell? a=x0.cell? a
 klt:∀ i a,S.keep i a→a.block < x.heap.size
 reach:Reach Post S num tb cb (fun Pv y=>XR Post S num tb rb cb m Pv y QG) C col cells x0 (p.pass sh).1 (p.pass sh).2
theorem Qn.up {x y:World} {tb rb:Nat} (h:Qn x tb rb) (ho:Xg x y):Qn y tb rb:=⟨ho.cell h.1,ho.cell h.2.1,h.2.2⟩
theorem TSt.up (h:TSt Post S num tb rb cb m C x0 x col Pv sh cells p) (ho:Xg x y):TSt Post S num tb rb cb m C x0 y col Pv sh cells p :=
 ⟨h.d,h.lives.up ho,h.mine,fun r hr=>Nat.lt_of_lt_of_le (h.lt r hr) ho.1,fun r hr=>⟨Nat.lt_of_lt_of_le (h.pv r hr).1 ho.1,(h.pv r hr).2⟩,S.frame h.I _ y ho.1 (fun r h1 _=>ho.2 r h1) fun _ _ h=>h,Nat.le_trans h.size ho.1,fun r hr=>(ho.2 r (h.lt r hr)).trans (h.old r hr),
  fun i a h1 h2=>(World.cell?_of_block (ho.2 _ (h.klt i a h2))).trans (h.keep i a h1 h2),fun i a h1=>Nat.lt_of_lt_of_le (h.klt i a h1) ho.1,h.reach⟩
theorem TSt.own (h:TSt Post S num tb rb cb m C x0 x col Pv sh cells p) (ho:Xg x y) (N:Nat→Prop) (hN:∀ r,N r→x.heap.size≤r∧r < y.heap.size):TSt Post S num tb rb cb m C x0 y col (fun r=>Pv r∨N r) sh cells p :=
 { h.up ho with
   pv:=fun r hr=>by
    rcases hr with hr|hr
    ·exact (h.up ho).pv r hr
    ·exact ⟨(hN r hr).2,fun e=>by have:=h.lt r e;have:=(hN r hr).1;omega⟩
   I:=S.frame h.I _ y ho.1 (fun r h1 _=>ho.2 r h1) fun r h1 h2=>by
    rcases h2 with h2|h2|h2
    ·exact .inl h2
    ·exact .inr h2
    ·have:=(hN r h2).1;omega }
theorem TSt.turn (h:TSt Post S num tb rb cb m C x0 x col Pv sh cells p) (hs:y.heap.size=x.heap.size) (hy:∀ r,¬ Pv r→y.heap[r]? = x.heap[r]?) (htb:¬ Pv tb) (hk:∀ i a,i≠num→S.keep i a→¬ Pv a.block):TSt Post S num tb rb cb m C x0 y col Pv sh cells p :=
 have hl:Qn y tb rb:=⟨(World.cell?_of_block (hy tb htb)).trans h.lives.1,(World.cell?_of_block (hy tb htb)).trans h.lives.2.1,h.lives.2.2⟩
 ⟨h.d,hl,h.mine,fun r hr=>by rw [hs];exact h.lt r hr,fun r hr=>⟨by rw [hs];exact (h.pv r hr).1,(h.pv r hr).2⟩,S.frame h.I _ y (by rw [hs];exact Nat.le_refl _) (fun r _ h1=>hy r fun e=>h1 (.inr e)) fun _ _ h=>h,by rw [hs];exact h.size,
  fun r hr=>(hy r fun e=>(h.pv r e).2 hr).trans (h.old r hr),fun i a h1 h2=>(World.cell?_of_block (hy _ (hk i a h1 h2))).trans (h.keep i a h1 h2),fun i a h1=>by rw [hs];exact h.klt i a h1,h.reach⟩
theorem TSt.step {r:Ask} {k:Told→Xx Sh Unit} (h:TSt Post S num tb rb cb m C x0 x col Pv sh cells (.acc r k)):Q6 Post S num tb rb cb m Pv C x r k :=
 Reach.step (x0:=x0) h.reach h.size h.old h.pv h.I h.keep
def Xel (Post:Value→World→Prop) (S:Zv Sh) (num tb rb:Nat) (cb:Frame) (Pv:Nat→Prop) (x:World) (f:Told→Value) (k:Told→Xx Sh Unit) (c:Frame) (cs:List Frame):Prop :=
 ∀ (m':Nat) (C':Ctx) (y:World) (col':Nat→Prop) (sh':Sh) (cells':Nat→Int) (a:Told),TSt Post S num tb rb cb m' C' y y col' Pv sh' cells' (k a)→(∀ r,Pv r→y.heap[r]? = x.heap[r]?)→(∀ b,S.keep num b→y.cell? b=x.cell? b)→JG Try.prog Post C' (G (c.finish (f a)) cs) y
theorem TSt.after {Pv:Nat→Prop} {f:Told→Value} {k:Told→Xx Sh Unit} (hlt:∀ r,Pv r→r < x.heap.size) (hs:Yq Post cb c cs) (hn:Xel Post S num tb rb cb Pv x f k c cs):XR Post S num tb rb cb m Pv x f k c cs:=by
 cases m with
 | zero=>exact hs
 | succ m =>
  refine ⟨hs,fun C z col sh cells a hd hL hm hc hp hk hI R=>hn m C z col sh cells a ⟨hd,hL,hm,hc,fun r hr=>⟨?_,(hp r hr).1⟩,hI,Nat.le_refl _,fun _ _=>rfl,fun _ _ _ _=>rfl,fun i a h=>(S.keepI hI i a h).1,R⟩ (fun r hr=>(hp r hr).2) hk⟩;have h1:=(hp r hr).2;have h2:=hlt r hr;rcases Nat.lt_or_ge r z.heap.size with h|h
  ·exact h
  ·rw [Array.getElem?_eq_none h,Array.getElem?_eq_getElem h2] at h1
   cases h1
theorem Yq.up {pf:Frame} (hs:Yq Post cb c cs) (h:∀ (C:Ctx) (x:World),JG Try.prog Post C (G (c.raise [{ v:=YI,recovered:=false }]) cs) x→JG Try.prog Post C (G (pf.raise [{ v:=YI,recovered:=false }]) (c::cs)) x):Yq Post cb pf (c::cs):=fun C x hb=>h C x (hs C x hb)
variable {k:Told→Xx Sh Unit}
theorem Wr (h:TSt Post S num tb rb cb m C x0 x col Pv sh cells (.acc ⟨1,i,0,0⟩ k)) (hi:i < S.nc) (hm:x.cell? (th (S.A i) 1)=some (.bool true)) (hs:Yq Post cb c cs) (hn:Xel Post S num tb rb cb Pv x (fun a=>.int .i64 a.was) k c cs) :
 JG Try.prog Post C (G (Frame.enter Try.prog 29 #[P0 (S.A i),P0 tb] .normal) (c::cs)) x:=XbD hm h.lives hi h.step (TSt.after (fun r hr=>(h.pv r hr).1) hs hn)
theorem WP {v:Int} (h:TSt Post S num tb rb cb m C x0 x col Pv sh cells (.acc ⟨2,i,v,0⟩ k)) (hi:i < S.nc) (hm:x.cell? (th (S.A i) 1)=some (.bool true)) (hs:Yq Post cb c cs) (hn:Xel Post S num tb rb cb Pv x (fun _=>.tuple #[]) k c cs) :
 JG Try.prog Post C (G (Frame.enter Try.prog 79 #[P0 (S.A i),P0 tb,.int .i64 v] .normal) (c::cs)) x:=Xav hm h.lives hi h.step (TSt.after (fun r hr=>(h.pv r hr).1) hs hn)
theorem Xgz {o n:Int} (h:TSt Post S num tb rb cb m C x0 x col Pv sh cells (.acc ⟨3,i,o,n⟩ k)) (hi:i < S.nc) (hm:x.cell? (th (S.A i) 1)=some (.bool true)) (hs:Yq Post cb c cs) (hn:Xel Post S num tb rb cb Pv x (fun a=>.bool a.ok) k c cs) :
 JG Try.prog Post C (G (Frame.enter Try.prog 74 #[P0 (S.A i),P0 tb,.int .i64 o,.int .i64 n] .normal) (c::cs)) x:=Xdj hm h.lives hi h.step (TSt.after (fun r hr=>(h.pv r hr).1) hs hn)
end
def Q5 {α:Type} (n e:Nat) (d:Int) (k:Int→Bool→Xm α):Nat→Xm α
 | 0=>.out
 | f + 1=>.acc ⟨1,e,0,0⟩ fun a=>.acc ⟨1,2 + 2 * (ixZ n a.was).toNat,0,0⟩ fun b =>
  if IntKind.i64.wrap (b.was - IntKind.i64.wrap (a.was + d))=0 then .acc ⟨3,e,a.was,IntKind.i64.wrap (a.was + 1)⟩ fun o=>if o.ok then k a.was true else Q5 n e d k f
  else if IntKind.i64.wrap (b.was - IntKind.i64.wrap (a.was + d)) < 0 then k a.was false else Q5 n e d k f
structure Xaz (x:World) (rb pb n cap:Nat) (A:Nat→Nat):Prop where
 blk:x.heap[rb]? = some (.cells #[P0 (A 0),P0 (A 1),.slice (some ⟨pb,0,none⟩) n cap] 115 (0,0))
 row:∀ k,k < n→x.cell? (th pb (k * 2))=some (P0 (A (2 + 2 * k)))∧x.cell? (th pb (k * 2 + 1))=some (P0 (A (3 + 2 * k)))
 made:∀ i,i < 2 + 2 * n→x.cell? (th (A i) 1)=some (.bool true)
def Code.sc:Code→Code
 | .scope c=>c
 | c=>c
section
variable {Sh α:Type} {Post:Value→World→Prop} {S:Zv Sh} {num tb rb pb n cap:Nat} {cb:Frame} {C:Ctx} {x0 x:World} {Pv:Nat→Prop} {c:Frame} {cs:List Frame} {ib:Nat} {d:Int} {k:Int→Bool→Xm α} {g:α→Xx Sh Unit}
theorem XbC {e:Nat} {xx:World} (he:e < S.nc) (hnc:2 + 2 * n≤S.nc) (he2:e < 2 + 2 * n) (hix:∀ p,0≤ixZ n p∧ixZ n p < n) (hC:∀ sh cells col y,S.I sh cells col y→Xaz y ib pb n cap S.A) (hs:Yq Post cb c cs)
 (hn:∀ (m':Nat) (C':Ctx) (y0 y:World) (col':Nat→Prop) (sh':Sh) (cells':Nat→Int) (p:Int) (b:Bool),TSt Post S num tb rb cb m' C' y0 y col' Pv sh' cells' ((k p b).into g)→(∀ r,Pv r→y.heap[r]? = xx.heap[r]?)→(∀ b,S.keep num b→y.cell? b=xx.cell? b)→JG Try.prog Post C' (G (c.finish (.tuple #[.int .i64 p,.bool b])) cs) y) (f:Nat) :
 ∀ (m:Nat) (C:Ctx) (x0 x:World) (col:Nat→Prop) (sh:Sh) (cells:Nat→Int) (u4 u5 u6 u7 u8 u9 B0 B2 B3 B4 B5 B6 B7 B8 B9 D0 D1 D2 D3 D4 D5 D6 D7 D8 D9 E0 E1 E2 E3 E4 E5 E6 E7 E8 E9 G0 G1 G2 G3:Value),TSt Post S num tb rb cb m C x0 x col Pv sh cells ((Q5 n e d k f).into g)→(∀ r,Pv r→x.heap[r]? = xx.heap[r]?)→(∀ b,S.keep num b→x.cell? b=xx.cell? b) →
  JG Try.prog Post C (G ((base 110).at ⟨#[P0 ib,P0 tb,P0 (S.A e),.int .i64 d,u4,u5,u6,u7,u8,u9,B0,.bool false,B2,B3,B4,B5,B6,B7,B8,B9,D0,D1,D2,D3,D4,D5,D6,D7,D8,D9,E0,E1,E2,E3,E4,E5,E6,E7,E8,E9,G0,G1,G2,G3],[]⟩ [.code (Code.nav (Code.sc (Code.nav (Try.f110.body.getD .skip) [1])) [1,1,0,0,0]),.inLoop (Code.nav (Code.sc (Code.nav (Try.f110.body.getD .skip) [1])) [1,1,0,0,0]),.inBlock 0,.code (Code.nav (Code.sc (Code.nav (Try.f110.body.getD .skip) [1])) [1,1,1]),.inScope (Code.sc (Code.nav (Try.f110.body.getD .skip) [1]))]) (c::cs)) x:=by
 induction f with
 | zero=>intro m C x0 x col sh cells u4 u5 u6 u7 u8 u9 B0 B2 B3 B4 B5 B6 B7 B8 B9 D0 D1 D2 D3 D4 D5 D6 D7 D8 D9 E0 E1 E2 E3 E4 E5 E6 E7 E8 E9 G0 G1 G2 G3 h;exact absurd h.I fun hI=>h.reach x Pv h.size h.old h.pv hI h.keep
 | succ f ih =>
  intro m C x0 x col sh cells u4 u5 u6 u7 u8 u9 B0 B2 B3 B4 B5 B6 B7 B8 B9 D0 D1 D2 D3 D4 D5 D6 D7 D8 D9 E0 E1 E2 E3 E4 E5 E6 E7 E8 E9 G0 G1 G2 G3 h hp hk;have hup:∀ (fr:Frame),(∀ (C:Ctx) (x:World),JG Try.prog Post C (G (c.raise [{ v:=YI,recovered:=false }]) cs) x→JG Try.prog Post C (G (fr.raise [{ v:=YI,recovered:=false }]) (c::cs)) x)→Yq Post cb fr (c::cs):=fun fr hf=>hs.up hf;replace hn:=HD hn;replace ih:=HD ih;replace hup:=HD hup;replace hC:=HD hC;replace hp:=HD hp;replace hk:=HD hk;have hm:=(hC.out _ _ _ _ h.I).made e he2;replace h:=HD h;simp only [Try.f110,Option.getD_some,Code.nav,Code.sc] at ih ⊢
  repeat refine kx ?_
  refine kf (args:=#[P0 (S.A e),P0 tb]) Try.func29 ?_;refine Wr h.out he hm (hup.out _ fun C x h=>JG.raise rfl Try.func110 h) ?_;intro m1 C1 y1 col1 sh1 cells1 a1 h1 hp1 hk1;clear h hm;dsimp only [Xm.into] at h1;rw [Frame.finish_at];walk_nrm;have hR:=hC.out _ _ _ _ h1.I;have hix1:=hix a1.was;have hrow:=(hR.row (ixZ n a1.was).toNat (by omega)).1;have hm:=hR.made (2 + 2 * (ixZ n a1.was).toNat) (by omega);have hlt:2 + 2 * (ixZ n a1.was).toNat < S.nc:=by omega
  replace hp1:=HD hp1;replace hk1:=HD hk1;replace h1:=HD h1;generalize a1.was=p1 at *
  repeat refine kx ?_
  refine kf (args:=#[P0 ib,.int .i64 p1]) Try.func111 ?_;refine Xfx hR.blk hix1.1 hix1.2 ?_;rw [Frame.finish_at];walk_nrm;generalize hg:(ixZ n p1).toNat=q at hrow hm hlt h1 ⊢
  repeat refine kx ?_
  refine kf (args:=#[P0 (S.A (2 + 2 * q)),P0 tb]) Try.func29 ?_;refine Wr h1.out hlt hm (hup.out _ fun C x h=>JG.raise rfl Try.func110 h) ?_;intro m2 C2 y2 col2 sh2 cells2 a2 h2 hp2 hk2;clear h1 hm hrow hR;dsimp only [Xm.into] at h2;rw [Frame.finish_at];walk_nrm;generalize a2.was=t2 at *;obtain ⟨dd,hdd⟩:∃ dd,IntKind.i64.wrap (t2 - IntKind.i64.wrap (p1 + d))=dd:=⟨_,rfl⟩
  rw [hdd] at h2;have hp2':=HD fun r hr=>(hp2 r hr).trans ((hp1.out r hr).trans (hp.out r hr));have hk2':=HD fun b hb=>(hk2 b hb).trans ((hk1.out b hb).trans (hk.out b hb));clear hp2 hk2;have hfin:=fun (C':Ctx) (y0 y:World) (p:Int) (b:Bool) (m':Nat) (col':Nat→Prop) (sh':Sh) (cells':Nat→Int) (h:TSt Post S num tb rb cb m' C' y0 y col' Pv sh' cells' ((k p b).into g)) h1 h2=>hn.out m' C' y0 y col' sh' cells' p b h h1 h2;replace hfin:=HD hfin
  by_cases d0:dd=0
  ·subst d0
   rw [if_pos rfl] at h2;dsimp only [Xm.into] at h2;have hm:=(hC.out _ _ _ _ h2.I).made e he2;replace h2:=HD h2
   repeat refine kx ?_
   refine JG.exit (by rfl) ?_
   repeat refine kx ?_
   refine kf (args:=#[P0 (S.A e),P0 tb,.int .i64 p1,.int .i64 (IntKind.i64.wrap (p1 + 1))]) Try.func74 ?_;refine Xgz h2.out he hm (hup.out _ fun C x h=>JG.raise rfl Try.func110 h) ?_;intro m3 C3 y3 col3 sh3 cells3 a3 h3 hp3 hk3;clear h2 hm;have hp3':=HD fun r hr=>(hp3 r hr).trans (hp2'.out r hr);have hk3':=HD fun b hb=>(hk3 b hb).trans (hk2'.out b hb);clear hp3 hk3;rw [Frame.finish_at];walk_nrm;dsimp only at h3;cases ho:a3.ok
   ·rw [ho,if_neg (by decide)] at h3
    replace h3:=HD h3
    repeat refine kx ?_
    refine JG.exit (by rfl) ?_
    repeat refine kx ?_
    refine JG.inLoop ?_;exact ih.out m3 C3 y3 y3 col3 sh3 cells3 _ _ _ _ _ _ _ _ _ _ _ _ _ _ _ _ _ _ _ _ _ _ _ _ _ _ _ _ _ _ _ _ _ _ _ _ _ _ _ h3.out hp3'.out hk3'.out
   ·rw [ho,if_pos rfl] at h3
    replace h3:=HD h3
    repeat refine kx ?_
    refine JG.exit (by rfl) ?_
    repeat refine kx ?_
    refine JG.ret ?_;exact JG.leave rfl rfl Try.func110 (fun τ d=>results_tmp2 (t:=8) (u:=9) rfl _ _ _) (hn.out m3 C3 y3 y3 col3 sh3 cells3 p1 true h3.out hp3'.out hk3'.out)
  ·rw [if_neg d0] at h2
   have e0:(dd == 0)=false:=by simpa using d0
   by_cases d1:dd < 0
   ·rw [if_pos d1] at h2
    have e1:decide (dd < 0)=true:=by simpa using d1
    replace h2:=HD h2
    repeat refine kx ?_
    refine JG.exit (by rfl) ?_
    repeat refine kx ?_
    refine JG.exit (by rfl) ?_
    repeat refine kx ?_
    refine JG.ret ?_;exact JG.leave rfl rfl Try.func110 (fun τ d=>results_tmp2 (t:=8) (u:=9) rfl _ _ _) (hn.out m2 C2 y2 y2 col2 sh2 cells2 p1 false h2.out hp2'.out hk2'.out)
   ·rw [if_neg d1] at h2
    have e1:decide (dd < 0)=false:=by simpa using d1
    replace h2:=HD h2
    repeat refine kx ?_
    refine JG.exit (by rfl) ?_
    repeat refine kx ?_
    refine JG.inLoop ?_;exact ih.out m2 C2 y2 y2 col2 sh2 cells2 _ _ _ _ _ _ _ _ _ _ _ _ _ _ _ _ _ _ _ _ _ _ _ _ _ _ _ _ _ _ _ _ _ _ _ _ _ _ _ h2.out hp2'.out hk2'.out
theorem Xdh {m e:Nat} {col:Nat→Prop} {sh:Sh} {cells:Nat→Int} (f:Nat) (he:e < S.nc) (hnc:2 + 2 * n≤S.nc) (he2:e < 2 + 2 * n) (hix:∀ p,0≤ixZ n p∧ixZ n p < n) (hC:∀ sh cells col y,S.I sh cells col y→Xaz y ib pb n cap S.A)
 (h:TSt Post S num tb rb cb m C x0 x col Pv sh cells ((Q5 n e d k f).into g)) (hs:Yq Post cb c cs)
 (hn:∀ (m':Nat) (C':Ctx) (y0 y:World) (col':Nat→Prop) (sh':Sh) (cells':Nat→Int) (p:Int) (b:Bool),TSt Post S num tb rb cb m' C' y0 y col' Pv sh' cells' ((k p b).into g)→(∀ r,Pv r→y.heap[r]? = x.heap[r]?)→(∀ b,S.keep num b→y.cell? b=x.cell? b)→JG Try.prog Post C' (G (c.finish (.tuple #[.int .i64 p,.bool b])) cs) y) :
 JG Try.prog Post C (G (Frame.enter Try.prog 110 #[P0 ib,P0 tb,P0 (S.A e),.int .i64 d] .normal) (c::cs)) x:=by
 have hL:=HD (XbC (xx:=x) (d:=d) he hnc he2 hix hC hs hn f m C x0 x col sh cells);simp only [Try.f110,Option.getD_some,Code.nav,Code.sc] at hL;refine Xu Try.func110 (by rfl) (by rfl) ?_;simp only [Try.f110,Option.getD_some];walk_nrm;replace h:=HD h
 repeat refine kx ?_
 refine JG.scope ?_
 repeat refine kx ?_
 refine JG.loop ?_;exact hL.out _ _ _ _ _ _ _ _ _ _ _ _ _ _ _ _ _ _ _ _ _ _ _ _ _ _ _ _ _ _ _ _ _ _ _ _ _ _ _ h.out (fun _ _=>trivial) (fun _ _=>trivial)
end
structure Enc (α:Type) where
 e:TypeId
 ts:TypeId
 size:Nat
 cells:α→List Value
def Enc.vals {α:Type} (E:Enc α) (l:List α):List Value:=l.flatMap E.cells
theorem Enc.vals_add {α:Type} (E:Enc α) (l:List α) (a:α):E.vals (l ++ [a])=E.vals l ++ E.cells a:=by simp [Enc.vals]
structure ZK {α:Type} (E:Enc α) (gt n N0:Nat) (col:Nat→Prop) (sh:Nat→List α) (hd:Nat→Value) (x:World):Prop where
 head:x.heap[gt]? = some (.cells ((List.range n).map hd).toArray E.ts (0,0))
 row:∀ j,j < n→x.ownsRow N0 E.e E.size (hd j) (sh j).length (E.vals (sh j))
 free:∀ j,j < n→∀ g,(hd j).ownBlock=some g→¬ col g
 apart:∀ i j,i < n→j < n→i≠j→∀ g,(hd i).ownBlock=some g→(hd j).ownBlock≠some g
section
variable {α:Type} {E:Enc α} {gt n N0:Nat} {col:Nat→Prop} {sh:Nat→List α} {hd:Nat→Value} {x:World}
theorem ZK.cell (h:ZK E gt n N0 col sh hd x) {j:Nat} (hj:j < n):x.cell? (th gt j)=some (hd j):=by
 rw [Xa h.head];simp [hj]
theorem ZK.lt (h:ZK E gt n N0 col sh hd x):gt < x.heap.size:=(GE h.head).1
theorem ZK.frame (h:ZK E gt n N0 col sh hd x) (hgt:gt < N0) (hcg:¬ col gt) {col':Nat→Prop} {y:World} {A:Nat→Nat} {nc:Nat} (hA:∀ i,i < nc→A i < N0∧gt≠A i) (ho:∀ r,r < x.heap.size→¬ col r→(∀ i,i < nc→r≠A i)→y.heap[r]? = x.heap[r]?) (hc:∀ r,r < x.heap.size→col' r→col r):ZK E gt n N0 col' sh hd y:=by
 have hr:∀ j,j < n→∀ g,(hd j).ownBlock=some g→y.heap[g]? = x.heap[g]?∧¬ col' g:=fun j hj g hg=>by
  have h1:=Za (h.row j hj) hg;have h2:=own_lt (h.row j hj) hg;exact ⟨ho g h2 (h.free j hj g hg) fun i hi e=>by have:=(hA i hi).1;omega,fun e=>h.free j hj g hg (hc g h2 e)⟩
 exact ⟨(ho gt h.lt hcg fun i hi=>(hA i hi).2).trans h.head,fun j hj=>Xj (h.row j hj) fun g hg=>(hr j hj g hg).1,fun j hj g hg=>(hr j hj g hg).2,h.apart⟩
theorem ZK.tell (h:ZK E gt n N0 col sh hd x) (hgt:gt < N0) (hN:N0≤x.heap.size) (hcol:∀ r,col r→r < x.heap.size) {j:Nat} (hj:j < n) {a:α} {g cap:Nat} {y:World} (hown:y.ownsRow N0 E.e E.size (.slice (some ⟨g,0,none⟩) ((sh j).length + 1) cap) ((sh j).length + 1) (E.vals (sh j) ++ E.cells a)) (hg:∀ q,q < x.heap.size→some q≠(hd j).ownBlock→y.heap[q]? = x.heap[q]?) (hat:(hd j).ownBlock=some g∨g=x.heap.size) :
 ZK E gt n N0 col (Zw j a sh) (upd hd j (.slice (some ⟨g,0,none⟩) ((sh j).length + 1) cap)) (y.setCell (th gt j) (.slice (some ⟨g,0,none⟩) ((sh j).length + 1) cap)):=by
 have hl:=h.lt;have hgN:N0≤g:=Za hown rfl;have hne:∀ i,i < n→i≠j→∀ q,(hd i).ownBlock=some q→q≠g∧y.heap[q]? = x.heap[q]?:=fun i hi e q hq=>by
  have h2:=own_lt (h.row i hi) hq;have h3:some q≠(hd j).ownBlock:=fun e2=>h.apart i j hi hj e q hq e2.symm;refine ⟨fun e3=>?_,hg q h2 h3⟩;rcases hat with e4|e4
  ·exact h3 (e3 ▸ e4.symm)
  ·omega
 have hgt':y.heap[gt]? = x.heap[gt]?:=hg gt hl fun e=>by have:=Za (h.row j hj) e.symm;omega
 have hset:∀ q,q≠gt→(y.setCell (th gt j) (.slice (some ⟨g,0,none⟩) ((sh j).length + 1) cap)).heap[q]? = y.heap[q]?:=fun q hq=>Xb hq;refine ⟨?_,fun i hi=>?_,fun i hi q hq=>?_,fun i1 i2 h1 h2 e q hq1 hq2=>?_⟩
 ·rw [Xd (hgt'.trans h.head)]
  congr 2
  apply Array.ext_getElem?;intro i;rw [Array.getElem?_setIfInBounds]
  by_cases e:j=i
  ·subst e;simp [hj,upd_same]
  ·rw [if_neg e]
   rcases Nat.lt_or_ge i n with hi|hi
   ·simp [hi,upd_ne _ _ (fun z=>e z.symm)]
   ·simp [Nat.not_lt.2 hi]
 ·by_cases e:i=j
  ·subst e
   have:=Xj hown (w':=y.setCell (th gt i) (.slice (some ⟨g,0,none⟩) ((sh i).length + 1) cap)) fun q hq=>hset q (by
    obtain rfl:g=q:=by simpa [Value.ownBlock] using hq
    omega)
   unfold Zw;rw [upd_same,upd_same,List.length_append,E.vals_add];exact this
  ·unfold Zw
   rw [upd_ne _ _ e,upd_ne _ _ e];exact Xj (h.row i hi) fun q hq=>(hset q (by have:=Za (h.row i hi) hq;omega)).trans (hne i hi e q hq).2
 ·by_cases e:i=j
  ·subst e
   rw [upd_same] at hq;obtain rfl:g=q:=by simpa [Value.ownBlock] using hq
   rcases hat with e4|e4
   ·exact h.free i hi g e4
   ·exact fun e5=>by have:=hcol g e5;omega
  ·rw [upd_ne _ _ e] at hq
   exact h.free i hi q hq
 ·by_cases e1:i1=j
  ·subst e1
   rw [upd_same] at hq1;obtain rfl:g=q:=by simpa [Value.ownBlock] using hq1
   rw [upd_ne _ _ (fun z=>e z.symm)] at hq2;exact (hne i2 h2 (fun z=>e z.symm) g hq2).1 rfl
  ·rw [upd_ne _ _ e1] at hq1
   by_cases e2:i2=j
   ·subst e2
    rw [upd_same] at hq2;obtain rfl:g=q:=by simpa [Value.ownBlock] using hq2
    exact (hne i1 h1 e1 g hq1).1 rfl
   ·rw [upd_ne _ _ e2] at hq2
    exact h.apart i1 i2 h1 h2 e q hq1 hq2
end
section
variable {α:Type} (E:Enc α) (w0:World) (Kp:Nat→Prop) (gt n:Nat) (A:Nat→Nat) (nc:Nat)
def Z7 (sh:Nat→List α) (col:Nat→Prop) (x:World):Prop :=
 w0.heap.size≤x.heap.size∧(∀ r,r < w0.heap.size→¬ Kp r→r≠gt→(∀ i,i < nc→r≠A i)→¬ col r∧x.heap[r]? = w0.heap[r]?)∧¬ col gt∧∃ hd,ZK E gt n w0.heap.size col sh hd x
def V3 (hgt:gt < w0.heap.size) (hA:∀ i,i < nc→A i < w0.heap.size∧gt≠A i):Xgc (Nat→List α) A nc where
 M:=Z7 E w0 Kp gt n A nc
 frame:=fun {sh col x} h col' y hs ho hc=>by
  obtain ⟨h1,h2,h3,hd,h4⟩:=h;exact ⟨Nat.le_trans h1 hs,fun r q1 q2 q3 q4=>by
   obtain ⟨a1,a2⟩:=h2 r q1 q2 q3 q4;exact ⟨fun e=>a1 (hc r (by omega) e),(ho r (by omega) a1 q4).trans a2⟩,fun e=>h3 (hc gt (by omega) e),hd,h4.frame hgt h3 hA ho hc⟩
def Xbb (hgt:gt < w0.heap.size) (hA:∀ i,i < nc→A i < w0.heap.size∧gt≠A i):Xdu (V3 E w0 Kp gt n A nc hgt hA) where
 k:=fun j a=>j < n∧a=th gt j
 i:=fun {sh col x} h j a ha=>by
  obtain ⟨h1,h2,h3,hd,h4⟩:=h;obtain ⟨_,rfl⟩:=ha;exact ⟨h4.lt,h3,fun c hc=>(hA c hc).2⟩

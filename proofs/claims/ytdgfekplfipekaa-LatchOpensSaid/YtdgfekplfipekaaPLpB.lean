/- LatchOpens in plain words: how the run begins, what it comes to. -/
import Derived.Test.YtdgfekplfipekaaPPlD
import Derived.Test.YtdgfekplfipekaaPPlB
import Derived.Test.YtdgfekplfipekaaPLbF
import Derived.Test.YtdgfekplfipekaaPLbB
import Derived.Test.YtdgfekplfipekaaPLpA
set_option linter.all false
set_option maxRecDepth 100000
set_option maxHeartbeats 16000000
namespace Go.Proofs.Ytdgfekplfipekaa
open Go.Conc Go.RowKit
open Go.ConcN (upd upd_same upd_ne)
set_option maxRecDepth 100000
section
variable {Sh:Type} {Post:Value→World→Prop} {S:Zv Sh} {num tb rb m:Nat} {cb:Frame} {C:Ctx} {x0 x y:World} {col Pv:Nat→Prop} {sh:Sh} {cells:Nat→Int} {p:Xx Sh Unit} {c:Frame} {cs:List Frame} {i:Nat}
structure TSt (Post:Value→World→Prop) (S:Zv Sh) (num tb rb:Nat) (cb:Frame) (m:Nat) (C:Ctx) (x0 x:World) (col Pv:Nat→Prop) (sh:Sh) (cells:Nat→Int) (p:Xx Sh Unit):Prop where
 d:C.d=0
 lives:Qn x tb rb
 mine:col tb
 lt:∀ r,col r→r < x.heap.size
 pv:∀ r,Pv r→r < x.heap.size∧¬ col r
 I:S.I sh cells (fun r=>col r∨Pv r) x
 size:x0.heap.size≤x.heap.size
 old:∀ r,col r→x.heap[r]? = x0.heap[r]?
 keep:∀ i a,i≠num→S.keep i a→x.cell? a=x0.cell? a
 klt:∀ i a,S.keep i a→a.block < x.heap.size
 reach:Reach Post S num tb cb (fun Pv y=>XR Post S num tb rb cb m Pv y QG) C col cells x0 (p.pass sh).1 (p.pass sh).2
theorem Qn.up {x y:World} {tb rb:Nat} (h:Qn x tb rb) (ho:Xg x y):Qn y tb rb:=⟨ho.cell h.1,ho.cell h.2.1,h.2.2⟩
theorem TSt.up (h:TSt Post S num tb rb cb m C x0 x col Pv sh cells p) (ho:Xg x y):TSt Post S num tb rb cb m C x0 y col Pv sh cells p :=
 ⟨h.d,h.lives.up ho,h.mine,fun r hr=>Nat.lt_of_lt_of_le (h.lt r hr) ho.1,fun r hr=>⟨Nat.lt_of_lt_of_le (h.pv r hr).1 ho.1,(h.pv r hr).2⟩,S.frame h.I _ y ho.1 (fun r h1 _=>ho.2 r h1) fun _ _ h=>h,Nat.le_trans h.size ho.1,fun r hr=>(ho.2 r (h.lt r hr)).trans (h.old r hr),
  fun i a h1 h2=>(World.cell?_of_block (ho.2 _ (h.klt i a h2))).trans (h.keep i a h1 h2),fun i a h1=>Nat.lt_of_lt_of_le (h.klt i a h1) ho.1,h.reach⟩
theorem TSt.own (h:TSt Post S num tb rb cb m C x0 x col Pv sh cells p) (ho:Xg x y) (N:Nat→Prop) (hN:∀ r,N r→x.heap.size≤r∧r < y.heap.size):TSt Post S num tb rb cb m C x0 y col (fun r=>Pv r∨N r) sh cells p :=
 { h.up ho with
   pv:=fun r hr=>by
    rcases hr with hr|hr
    ·exact (h.up ho).pv r hr
    ·exact ⟨(hN r hr).2,fun e=>by have:=h.lt r e;have:=(hN r hr).1;omega⟩
   I:=S.frame h.I _ y ho.1 (fun r h1 _=>ho.2 r h1) fun r h1 h2=>by
    rcases h2 with h2|h2|h2
    ·exact .inl h2
    ·exact .inr h2
    ·have:=(hN r h2).1;omega }
theorem TSt.turn (h:TSt Post S num tb rb cb m C x0 x col Pv sh cells p) (hs:y.heap.size=x.heap.size) (hy:∀ r,¬ Pv r→y.heap[r]? = x.heap[r]?) (htb:¬ Pv tb) (hk:∀ i a,i≠num→S.keep i a→¬ Pv a.block):TSt Post S num tb rb cb m C x0 y col Pv sh cells p :=
 have hl:Qn y tb rb:=⟨(World.cell?_of_block (hy tb htb)).trans h.lives.1,(World.cell?_of_block (hy tb htb)).trans h.lives.2.1,h.lives.2.2⟩
 ⟨h.d,hl,h.mine,fun r hr=>by rw [hs];exact h.lt r hr,fun r hr=>⟨by rw [hs];exact (h.pv r hr).1,(h.pv r hr).2⟩,S.frame h.I _ y (by rw [hs];exact Nat.le_refl _) (fun r _ h1=>hy r fun e=>h1 (.inr e)) fun _ _ h=>h,by rw [hs];exact h.size,
  fun r hr=>(hy r fun e=>(h.pv r e).2 hr).trans (h.old r hr),fun i a h1 h2=>(World.cell?_of_block (hy _ (hk i a h1 h2))).trans (h.keep i a h1 h2),fun i a h1=>by rw [hs];exact h.klt i a h1,h.reach⟩
theorem TSt.step {r:Ask} {k:Told→Xx Sh Unit} (h:TSt Post S num tb rb cb m C x0 x col Pv sh cells (.acc r k)):Q6 Post S num tb rb cb m Pv C x r k :=
 Reach.step (x0:=x0) h.reach h.size h.old h.pv h.I h.keep
def NextT (Post:Value→World→Prop) (S:Zv Sh) (num tb rb:Nat) (cb:Frame) (Pv:Nat→Prop) (x:World) (f:Told→Value) (k:Told→Xx Sh Unit) (c:Frame) (cs:List Frame):Prop :=
 ∀ (m':Nat) (C':Ctx) (y:World) (col':Nat→Prop) (sh':Sh) (cells':Nat→Int) (a:Told),TSt Post S num tb rb cb m' C' y y col' Pv sh' cells' (k a)→(∀ r,Pv r→y.heap[r]? = x.heap[r]?)→(∀ b,S.keep num b→y.cell? b=x.cell? b)→JG Try.prog Post C' (G (c.finish (f a)) cs) y
theorem TSt.after {Pv:Nat→Prop} {f:Told→Value} {k:Told→Xx Sh Unit} (hlt:∀ r,Pv r→r < x.heap.size) (hs:Yq Post cb c cs) (hn:NextT Post S num tb rb cb Pv x f k c cs):XR Post S num tb rb cb m Pv x f k c cs:=by
 cases m with
 | zero=>exact hs
 | succ m =>
  refine ⟨hs,fun C z col sh cells a hd hL hm hc hp hk hI R=>hn m C z col sh cells a ⟨hd,hL,hm,hc,fun r hr=>⟨?_,(hp r hr).1⟩,hI,Nat.le_refl _,fun _ _=>rfl,fun _ _ _ _=>rfl,fun i a h=>(S.keepI hI i a h).1,R⟩ (fun r hr=>(hp r hr).2) hk⟩;have h1:=(hp r hr).2;have h2:=hlt r hr;rcases Nat.lt_or_ge r z.heap.size with h|h
  ·exact h
  ·rw [Array.getElem?_eq_none h,Array.getElem?_eq_getElem h2] at h1
   cases h1
theorem Yq.up {pf:Frame} (hs:Yq Post cb c cs) (h:∀ (C:Ctx) (x:World),JG Try.prog Post C (G (c.raise [{ v:=YI,recovered:=false }]) cs) x→JG Try.prog Post C (G (pf.raise [{ v:=YI,recovered:=false }]) (c::cs)) x):Yq Post cb pf (c::cs):=fun C x hb=>h C x (hs C x hb)
variable {k:Told→Xx Sh Unit}
theorem load_T (h:TSt Post S num tb rb cb m C x0 x col Pv sh cells (.acc ⟨1,i,0,0⟩ k)) (hi:i < S.nc) (hm:x.cell? (th (S.A i) 1)=some (.bool true)) (hs:Yq Post cb c cs) (hn:NextT Post S num tb rb cb Pv x (fun a=>.int .i64 a.was) k c cs) :
 JG Try.prog Post C (G (Frame.enter Try.prog 13 #[P0 (S.A i),P0 tb] .normal) (c::cs)) x:=cellLoad_R hm h.lives hi h.step (TSt.after (fun r hr=>(h.pv r hr).1) hs hn)
theorem cas_T {o n:Int} (h:TSt Post S num tb rb cb m C x0 x col Pv sh cells (.acc ⟨3,i,o,n⟩ k)) (hi:i < S.nc) (hm:x.cell? (th (S.A i) 1)=some (.bool true)) (hs:Yq Post cb c cs) (hn:NextT Post S num tb rb cb Pv x (fun a=>.bool a.ok) k c cs) :
 JG Try.prog Post C (G (Frame.enter Try.prog 28 #[P0 (S.A i),P0 tb,.int .i64 o,.int .i64 n] .normal) (c::cs)) x:=cellCas_R hm h.lives hi h.step (TSt.after (fun r hr=>(h.pv r hr).1) hs hn)
theorem park_T {v:Int} (h:TSt Post S num tb rb cb m C x0 x col Pv sh cells (.acc ⟨6,i,v,0⟩ k)) (hi:i < S.nc) (hm:x.cell? (th (S.A i) 1)=some (.bool true)) (hs:Yq Post cb c cs) (hn:NextT Post S num tb rb cb Pv x (fun a=>.int .i64 a.was) k c cs) :
 JG Try.prog Post C (G (Frame.enter Try.prog 30 #[P0 (S.A i),P0 tb,.int .i64 v] .normal) (c::cs)) x:=cellPark_R hm h.lives hi h.step (TSt.after (fun r hr=>(h.pv r hr).1) hs hn)
end
def Code.navS:Code→List Nat→Code
 | c,[]=>c
 | .seq a _,0::l=>Code.navS a l
 | .seq _ b,_::l=>Code.navS b l
 | .cond _ a _,0::l=>Code.navS a l
 | .cond _ _ b,_::l=>Code.navS b l
 | .block _ a,_::l=>Code.navS a l
 | .loop a,_::l=>Code.navS a l
 | .scope a,_::l=>Code.navS a l
 | c,_=>c
theorem JG.goto {P:Program} {Post:Value→World→Prop} {C:Ctx} {x:World} {b:Frame} {a:Act} {k k':List Item} {cs:List Frame} {l:Nat} (he:gotoIn l k=some k') (h:JG P Post C (G (b.at a k') cs) x):JG P Post C (G (b.at a (.code (.goto l)::k)) cs) x:=.ctl rfl (fun _ _=>by simp [G,stepG,stepG.exec,Frame.at,he]) h
section
variable {Sh:Type} {Post:Value→World→Prop} {S:Zv Sh} {num tb rb:Nat} {cb:Frame} {Pv:Nat→Prop} {c:Frame} {cs:List Frame} {lb:Nat}
def LatchS (S:Zv Sh) (lb:Nat):Prop:=0 < S.nc∧∀ {sh:Sh} {cells:Nat→Int} {col:Nat→Prop} {x:World},S.I sh cells col x→x.cell? (th lb 0)=some (P0 (S.A 0))∧x.cell? (th (S.A 0) 1)=some (.bool true)
def NextC {α:Type} (Post:Value→World→Prop) (S:Zv Sh) (num tb rb:Nat) (cb:Frame) (Pv:Nat→Prop) (x:World) (f:α→Value) (g:α→Xx Sh Unit) (c:Frame) (cs:List Frame):Prop :=
 ∀ (m':Nat) (C':Ctx) (y:World) (col':Nat→Prop) (sh':Sh) (cells':Nat→Int) (a:α),TSt Post S num tb rb cb m' C' y y col' Pv sh' cells' (g a)→(∀ r,Pv r→y.heap[r]? = x.heap[r]?)→(∀ b,S.keep num b→y.cell? b=x.cell? b)→JG Try.prog Post C' (G (c.finish (f a)) cs) y
theorem TSt.no {m:Nat} {C:Ctx} {x0 x:World} {col:Nat→Prop} {sh:Sh} {cells:Nat→Int} (h:TSt Post S num tb rb cb m C x0 x col Pv sh cells .out):False:=h.reach x Pv h.size h.old h.pv h.I h.keep
def okV (e:Bool):Value:=.int .i64 (if e then 0 else 1)
theorem down_loop (hS:LatchS S lb) (hs:Yq Post cb c cs) {g:Bool→Xx Sh Unit}:∀ (f m:Nat) (C:Ctx) (x0 x:World) (col:Nat→Prop) (sh:Sh) (cells:Nat→Int) (u3 u4 u5 u6 u7 u8 u9 B0 B1 B2 B3 B4 B5 B6 B7 B8 B9 D0 D1 D2 D3 D4 D5 D6 D7 D8 D9 E0 E1 E2 E3 E4 E5 E6 E7 E8:Value),TSt Post S num tb rb cb m C x0 x col Pv sh cells ((dnP f).bind g)→NextC Post S num tb rb cb Pv x okV g c cs →
 JG Try.prog Post C (G ((base 22).at ⟨#[P0 lb,P0 tb,.int .i64 1,u3,u4,u5,u6,u7,u8,u9,B0,B1,B2,B3,B4,B5,B6,B7,B8,B9,D0,D1,D2,D3,D4,D5,D6,D7,D8,D9,E0,E1,E2,E3,E4,E5,E6,E7,E8],[]⟩ [.code (Code.navS (Try.f22.body.getD .skip) [1,0,1,1,1]),.inScope (Code.navS (Try.f22.body.getD .skip) [1,0])]) (c::cs)) x:=by
 intro f
 induction f with
 | zero=>intro m C x0 x col sh cells u3 u4 u5 u6 u7 u8 u9 B0 B1 B2 B3 B4 B5 B6 B7 B8 B9 D0 D1 D2 D3 D4 D5 D6 D7 D8 D9 E0 E1 E2 E3 E4 E5 E6 E7 E8 h hn;exact h.no.elim
 | succ f ih =>
  intro m C x0 x col sh cells u3 u4 u5 u6 u7 u8 u9 B0 B1 B2 B3 B4 B5 B6 B7 B8 B9 D0 D1 D2 D3 D4 D5 D6 D7 D8 D9 E0 E1 E2 E3 E4 E5 E6 E7 E8 h hn;have IH:=HD ih;clear ih;simp only [Try.f22,Option.getD_some,Code.navS] at IH ⊢;obtain ⟨l0,m0⟩:=hS.2 h.I;replace hn:=HD hn;replace h:=HD h
  repeat refine kx ?_
  refine kf (args:=#[P0 (S.A 0),P0 tb]) Try.func13 ?_;refine load_T (i:=0) h.out hS.1 m0 (Yq.up hs fun C x h=>JG.raise rfl Try.func22 h) fun m' C' y col' sh' cells' a hT hp hk=>?_;rw [Frame.finish_at]
  try walk_nrm
  clear h l0 m0;obtain ⟨l0,m0⟩:=hS.2 hT.I
  by_cases hlt:a.was < 1
  ·have hx:decide (a.was < 1)=true:=decide_eq_true hlt
   have hT':TSt Post S num tb rb cb m' C' y y col' Pv sh' cells' (g false):=by
    have:=hT
    simp only [if_pos hlt] at this;exact this
   have hz:=hn.out m' C' y col' sh' cells' false hT' hp hk;clear hT hT' hn IH hp hk;replace hz:=HD hz
   repeat refine kx ?_
   refine JG.ret ?_;exact JG.leave rfl rfl Try.func22 (fun τ d=>results_tmp (t:=6) rfl _ _ _) hz.out
  ·have hx:decide (a.was < 1)=false:=decide_eq_false hlt
   have hT':TSt Post S num tb rb cb m' C' y y col' Pv sh' cells' (.acc ⟨3,0,a.was,wrap64 (a.was - 1)⟩ fun b=>(if b.ok then Xx.ret true else dnP f).bind g):=by
    have:=hT
    simp only [if_neg hlt] at this;exact this
   clear hT;replace hT':=HD hT';replace hp:=HD hp;replace hk:=HD hk
   repeat refine kx ?_
   refine kf (args:=#[P0 (S.A 0),P0 tb,.int .i64 a.was,.int .i64 (IntKind.i64.wrap (a.was - 1))]) Try.func28 ?_;rw [wrap_eq64];refine cas_T (i:=0) hT'.out hS.1 m0 (Yq.up hs fun C x h=>JG.raise rfl Try.func22 h) fun m2 C2 z col2 sh2 cells2 b hT2 hp2 hk2=>?_;rw [Frame.finish_at]
   try walk_nrm
   clear hT' l0 m0;obtain ⟨l0,m0⟩:=hS.2 hT2.I;cases hb:b.ok with
   | true =>
    have hT':TSt Post S num tb rb cb m2 C2 z z col2 Pv sh2 cells2 (g true):=by
     have:=hT2
     simp only [hb] at this;exact this
    have hz:=hn.out m2 C2 z col2 sh2 cells2 true hT' (fun r hr=>(hp2 r hr).trans (hp.out r hr)) (fun q hq=>(hk2 q hq).trans (hk.out q hq));clear hT2 hT' hn IH hp hk hp2 hk2;replace hz:=HD hz
    repeat refine kx ?_
    refine JG.ret ?_;exact JG.leave rfl rfl Try.func22 (fun τ d=>results_tmp (t:=6) rfl _ _ _) hz.out
   | false =>
    have hT':TSt Post S num tb rb cb m2 C2 z z col2 Pv sh2 cells2 ((dnP f).bind g):=by
     have:=hT2
     simp only [hb] at this;exact this
    have hn2:NextC Post S num tb rb cb Pv z okV g c cs:=fun m3 C3 w col3 sh3 cells3 e hT3 hp3 hk3=>hn.out m3 C3 w col3 sh3 cells3 e hT3 (fun r hr=>((hp3 r hr).trans (hp2 r hr)).trans (hp.out r hr)) (fun q hq=>((hk3 q hq).trans (hk2 q hq)).trans (hk.out q hq));clear hT2 hn hp hk hp2 hk2;replace hT':=HD hT';replace hn2:=HD hn2
    repeat refine kx ?_
    refine JG.goto rfl ?_
    iterate 2 refine kx ?_
    exact IH.out m2 C2 z z col2 sh2 cells2 _ _ _ _ _ _ _ _ _ _ _ _ _ _ _ _ _ _ _ _ _ _ _ _ _ _ _ _ _ _ _ _ _ _ _ _ hT'.out hn2.out
theorem down_T (hS:LatchS S lb) (hs:Yq Post cb c cs) {g:Bool→Xx Sh Unit} {f m:Nat} {C:Ctx} {x0 x:World} {col:Nat→Prop} {sh:Sh} {cells:Nat→Int} (h:TSt Post S num tb rb cb m C x0 x col Pv sh cells ((dnP f).bind g)) (hn:NextC Post S num tb rb cb Pv x okV g c cs) :
 JG Try.prog Post C (G (Frame.enter Try.prog 22 #[P0 lb,P0 tb,.int .i64 1] .normal) (c::cs)) x:=by
 obtain ⟨l0,m0⟩:=hS.2 h.I;have HL:=HD (fun u3 u4 u5 u6 u7 u8 u9 B0 B1 B2 B3 B4 B5 B6 B7 B8 B9 D0 D1 D2 D3 D4 D5 D6 D7 D8 D9 E0 E1 E2 E3 E4 E5 E6 E7 E8=>down_loop hS hs f m C x0 x col sh cells u3 u4 u5 u6 u7 u8 u9 B0 B1 B2 B3 B4 B5 B6 B7 B8 B9 D0 D1 D2 D3 D4 D5 D6 D7 D8 D9 E0 E1 E2 E3 E4 E5 E6 E7 E8 h hn);clear h hn;refine Xu Try.func22 (by rfl) (by rfl) ?_;simp only [Try.f22,Option.getD_some];simp only [Try.f22,Option.getD_some,Code.navS] at HL;walk_nrm
 repeat refine kx ?_
 refine JG.scope ?_
 iterate 25 refine kx ?_
 exact HL.out _ _ _ _ _ _ _ _ _ _ _ _ _ _ _ _ _ _ _ _ _ _ _ _ _ _ _ _ _ _ _ _ _ _ _ _
theorem wait_loop (hS:LatchS S lb) (hs:Yq Post cb c cs) {g:Unit→Xx Sh Unit}:∀ (f m:Nat) (C:Ctx) (x0 x:World) (col:Nat→Prop) (sh:Sh) (cells:Nat→Int) (u2 u3 u4 u5 u6 u7 u8 u9 B0 B1 B2 B3 B4 B5 B6 B7 B8 B9 D0 D1 D2 D3 D4 D5 D6 D7 D8 D9:Value),TSt Post S num tb rb cb m C x0 x col Pv sh cells ((wtP f).bind g)→NextC Post S num tb rb cb Pv x (fun _=>.int .i64 0) g c cs →
 JG Try.prog Post C (G ((base 24).at ⟨#[P0 lb,P0 tb,u2,u3,u4,u5,u6,u7,u8,u9,B0,B1,B2,B3,B4,B5,B6,B7,B8,B9,D0,D1,D2,D3,D4,D5,D6,D7,D8,D9],[]⟩ [.code (Code.navS (Try.f24.body.getD .skip) [1,0,1,1]),.inScope (Code.navS (Try.f24.body.getD .skip) [1,0])]) (c::cs)) x:=by
 intro f
 induction f with
 | zero=>intro m C x0 x col sh cells u2 u3 u4 u5 u6 u7 u8 u9 B0 B1 B2 B3 B4 B5 B6 B7 B8 B9 D0 D1 D2 D3 D4 D5 D6 D7 D8 D9 h hn;exact h.no.elim
 | succ f ih =>
  intro m C x0 x col sh cells u2 u3 u4 u5 u6 u7 u8 u9 B0 B1 B2 B3 B4 B5 B6 B7 B8 B9 D0 D1 D2 D3 D4 D5 D6 D7 D8 D9 h hn;have IH:=HD ih;clear ih;simp only [Try.f24,Option.getD_some,Code.navS] at IH ⊢;obtain ⟨l0,m0⟩:=hS.2 h.I;replace hn:=HD hn;replace h:=HD h
  repeat refine kx ?_
  refine kf (args:=#[P0 (S.A 0),P0 tb]) Try.func13 ?_;refine load_T (i:=0) h.out hS.1 m0 (Yq.up hs fun C x h=>JG.raise rfl Try.func24 h) fun m' C' y col' sh' cells' a hT hp hk=>?_;rw [Frame.finish_at]
  try walk_nrm
  clear h l0 m0;obtain ⟨l0,m0⟩:=hS.2 hT.I
  by_cases h0:a.was=0
  ·have hT':TSt Post S num tb rb cb m' C' y y col' Pv sh' cells' (g ()):=by
    have:=hT
    simp only [if_pos h0] at this;exact this
   have hz:=hn.out m' C' y col' sh' cells' () hT' hp hk;clear hT hT' hn IH hp hk;replace hz:=HD hz;have hx:(a.was != 0)=false:=by simp [h0]
   repeat refine kx ?_
   refine JG.ret ?_;exact JG.leave rfl rfl Try.func24 (fun τ d=>results_tmp (t:=4) rfl _ _ _) hz.out
  ·have hT':TSt Post S num tb rb cb m' C' y y col' Pv sh' cells' (.acc ⟨6,0,a.was,0⟩ fun _=>(wtP f).bind g):=by
    have:=hT
    simp only [if_neg h0] at this;exact this
   clear hT;have hx:(a.was != 0)=true:=by simp [h0]
   replace hT':=HD hT';replace hp:=HD hp;replace hk:=HD hk
   repeat refine kx ?_
   refine kf (args:=#[P0 (S.A 0),P0 tb,.int .i64 a.was]) Try.func30 ?_;refine park_T (i:=0) hT'.out hS.1 m0 (Yq.up hs fun C x h=>JG.raise rfl Try.func24 h) fun m2 C2 z col2 sh2 cells2 b hT2 hp2 hk2=>?_;rw [Frame.finish_at]
   try walk_nrm
   clear hT' l0 m0;have hn2:NextC Post S num tb rb cb Pv z (fun _=>.int .i64 0) g c cs:=fun m3 C3 w col3 sh3 cells3 e hT3 hp3 hk3=>hn.out m3 C3 w col3 sh3 cells3 e hT3 (fun r hr=>((hp3 r hr).trans (hp2 r hr)).trans (hp.out r hr)) (fun q hq=>((hk3 q hq).trans (hk2 q hq)).trans (hk.out q hq));clear hn hp hk hp2 hk2;replace hT2:=HD hT2;replace hn2:=HD hn2
   repeat refine kx ?_
   refine JG.goto rfl ?_
   iterate 2 refine kx ?_
   exact IH.out m2 C2 z z col2 sh2 cells2 _ _ _ _ _ _ _ _ _ _ _ _ _ _ _ _ _ _ _ _ _ _ _ _ _ _ _ _ hT2.out hn2.out
theorem wait_T (hS:LatchS S lb) (hs:Yq Post cb c cs) {g:Unit→Xx Sh Unit} {f m:Nat} {C:Ctx} {x0 x:World} {col:Nat→Prop} {sh:Sh} {cells:Nat→Int} (h:TSt Post S num tb rb cb m C x0 x col Pv sh cells ((wtP f).bind g)) (hn:NextC Post S num tb rb cb Pv x (fun _=>.int .i64 0) g c cs) :
 JG Try.prog Post C (G (Frame.enter Try.prog 24 #[P0 lb,P0 tb] .normal) (c::cs)) x:=by
 obtain ⟨l0,m0⟩:=hS.2 h.I;have HL:=HD (fun u2 u3 u4 u5 u6 u7 u8 u9 B0 B1 B2 B3 B4 B5 B6 B7 B8 B9 D0 D1 D2 D3 D4 D5 D6 D7 D8 D9=>wait_loop hS hs f m C x0 x col sh cells u2 u3 u4 u5 u6 u7 u8 u9 B0 B1 B2 B3 B4 B5 B6 B7 B8 B9 D0 D1 D2 D3 D4 D5 D6 D7 D8 D9 h hn);clear h hn;refine Xu Try.func24 (by rfl) (by rfl) ?_;simp only [Try.f24,Option.getD_some];simp only [Try.f24,Option.getD_some,Code.navS] at HL;walk_nrm
 repeat refine kx ?_
 refine JG.scope ?_
 iterate 17 refine kx ?_
 exact HL.out _ _ _ _ _ _ _ _ _ _ _ _ _ _ _ _ _ _ _ _ _ _ _ _ _ _ _ _
end
theorem Xp.start_append {Sh:Type}:∀ (l l':List (Xx Sh Unit)) (P:Xp Sh),P.start (l ++ l')=(P.start l).start l'
 | [],_,_=>rfl
 | p::l,l',P=>Xp.start_append l l' _
def lpBodies (F m:Nat) (all:Int):Nat→List (Xx OSh Unit)
 | 0=>[]
 | i + 1=>lpBodies F m all i ++ [downs F m,waiter F all]
def ph0 (F m:Nat) (j:Nat):Ph:=if j % 2=0 then .DL F m else .WL F
theorem lp_start {F m:Nat} {all c0:Int}:∀ i,∃ pr,(Xp.init (⟨false,0,0⟩:OSh) fun _=>c0).start (lpBodies (F + 1) (m + 1) all i)=⟨2 * i,pr,⟨⟨false,0,0⟩,fun _=>c0,[],[],[],[]⟩⟩∧∀ j,j < 2 * i→pr j=(ph0 F m j).prog (F + 1) all
 | 0=>⟨_,rfl,fun j hj=>absurd hj (by omega)⟩
 | i + 1=>by
  obtain ⟨pr,h1,h2⟩:=lp_start (F:=F) (m:=m) (all:=all) (c0:=c0) i;refine ⟨upd (upd pr (2 * i) ((Ph.DL F m).prog (F + 1) all)) (2 * i + 1) ((Ph.WL F).prog (F + 1) all),?_,fun j hj=>?_⟩
  ·simp only [lpBodies]
   rw [Xp.start_append,h1]
   rfl
  ·by_cases e:j=2 * i + 1
   ·subst e;rw [upd_same];unfold ph0;rw [if_neg (by omega)]
   ·rw [upd_ne _ _ e]
    by_cases e2:j=2 * i
    ·subst e2;rw [upd_same];unfold ph0;rw [if_pos (by omega)]
    ·rw [upd_ne _ _ e2];exact h2 j (by omega)
theorem sumTo_two {f:Nat→Nat} {a b:Nat} (h0:∀ j,j % 2=0→f j=a) (h1:∀ j,j % 2=1→f j=b):∀ i,sumTo f (2 * i)=i * (a + b)
 | 0=>by simp [sumTo]
 | i + 1=>by
  show sumTo f (2 * i) + f (2 * i) + f (2 * i + 1)=_;rw [sumTo_two h0 h1 i,h0 _ (by omega),h1 _ (by omega),Nat.succ_mul]
  omega
theorem sumTo_zero {f:Nat→Nat}:∀ {n:Nat},(∀ i,i < n→f i=0)→sumTo f n=0
 | 0,_=>rfl
 | n + 1,h=>by simp only [sumTo];rw [sumTo_zero fun i hi=>h i (by omega),h n (by omega)]
theorem some_half {α:Type} {f:Nat→Option α}:∀ {n:Nat},(∀ j,j < 2 * n→(j % 2=0→f j=none)∧(j % 2=1→∃ a,f j=some a))→((List.range (2 * n)).filterMap f).length=n
 | 0,_=>rfl
 | n + 1,h=>by
  rw [show 2 * (n + 1)=2 * n + 1 + 1 by omega,List.range_succ,List.range_succ,List.filterMap_append,List.filterMap_append];obtain ⟨a,ha⟩:=(h (2 * n + 1) (by omega)).2 (by omega);have h0:=(h (2 * n) (by omega)).1 (by omega);simp only [List.filterMap_cons,List.filterMap_nil,h0,ha,List.length_append,List.length_cons,List.length_nil];rw [some_half fun j hj=>h j (by omega)]
theorem lp_init {F m n more:Nat} (hF:n * (m + 1) * (2 * (2 * n) + 2) + 4 * n≤F) {pr:Nat→Xx OSh Unit} (h:∀ j,j < 2 * n→pr j=(ph0 F m j).prog (F + 1) (n * (m + 1) + more:Nat)) :
 LInv (2 * n) F (n * (m + 1)) more (ph0 F m) ⟨2 * n,pr,⟨⟨false,0,0⟩,fun _=>(n * (m + 1) + more:Nat),[],[],[],[]⟩⟩∧muP (2 * n) (ph0 F m) (n * (m + 1) + more:Nat)≤F:=by
 have s1:sumTo (fun i=>(ph0 F m i).rem) (2 * n)=n * (m + 1):=by
  rw [sumTo_two (a:=m + 1) (b:=0) (fun j hj=>by simp [ph0,hj,Ph.rem]) (fun j hj=>by simp [ph0,hj,Ph.rem])]
 have s2:∀ c,sumTo (fun i=>(ph0 F m i).pot c) (2 * n)=n * 4:=fun c=>by
  rw [sumTo_two (a:=2) (b:=2) (fun j hj=>by simp [ph0,hj,Ph.pot]) (fun j hj=>by simp [ph0,hj,Ph.pot])]
 have s3:sumTo (fun i=>(ph0 F m i).away) (2 * n)=0:=sumTo_zero fun i _=>by unfold ph0;split<;>rfl
 have hmu:∀ c,muP (2 * n) (ph0 F m) c≤F:=fun c=>by
  unfold muP;rw [s1,s2];omega
 refine ⟨⟨rfl,h,fun i hi=>?_,?_,rfl,?_,?_,fun i hi=>?_,fun i hi e=>?_,hmu _,Nat.le_of_eq s1⟩,hmu _⟩
 ·unfold ph0;split
  ·rename_i e;rw [e];rfl
  ·show 1=_;omega
 ·rw [s1,Nat.add_comm]
 ·show (0:Int)=_;rw [s1];omega
 ·show (0:Int)=_;rw [s3];rfl
 ·unfold ph0;split<;>exact hmu _
 ·exfalso;revert e;unfold ph0;split<;>simp
theorem latch_opens {n m more:Nat} (h1:1≤n) (hn:n≤6) (hm:m + 1≤8) (hmore:more≤1) (picks:List Int) {e:Int} {Q:Xp OSh}
 (hQ:((Xp.init (⟨false,0,0⟩:OSh) fun _=>(n * (m + 1) + more:Nat)).start (lpBodies 16385 (m + 1) (n * (m + 1) + more:Nat) n)).runs (picked picks) 16384=(e,Q)) :
 Q.st.sh.early=false∧Q.st.cells 0=more∧Q.st.sh.down=(n * (m + 1):Nat)∧(more=0→e=1∧Q.st.sh.waits=n)∧(more=1→e=3∧Q.st.sh.waits=0∧Q.left.length=n):=by
 have hnm:n * (m + 1)≤6 * 8:=Nat.mul_le_mul hn hm;have hF:n * (m + 1) * (2 * (2 * n) + 2) + 4 * n≤16384:=by
  have:=Nat.mul_le_mul hnm (show 2 * (2 * n) + 2≤26 by omega)
  omega
 obtain ⟨pr,e1,e2⟩:=lp_start (F:=16384) (m:=m) (all:=(n * (m + 1) + more:Nat)) (c0:=(n * (m + 1) + more:Nat)) n;obtain ⟨i1,i2⟩:=lp_init (more:=more) hF e2;rw [e1] at hQ;obtain ⟨ph,h,hend⟩:=LInv.run (by omega) (by omega) (picks_any picks) 16384 (ph0 16384 m) _ i1 i2;rw [hQ] at h hend;have hst:=h.atEnd (by rcases hend with h|h;exact .inl h.2;exact .inr h.2.2);have r0:sumTo (fun i=>(ph i).rem) (2 * n)=0:=sumTo_zero fun i hi=>by
  rcases hst i hi with h|h|⟨f,x,h,_⟩<;>rw [h]<;>rfl
 have hc:=h.cell;have hd:=h.down;have hw:=h.waits;rw [r0] at hc hd;refine ⟨h.early,hc,by rw [hd];omega,fun hm0=>?_,fun hm1=>?_⟩
 ·have hall:∀ i,i < 2 * n→ph i=.DE∨ph i=.WE:=fun i hi=>by
   rcases hst i hi with h|h|⟨f,x,_,h,h0⟩
   ·exact .inl h
   ·exact .inr h
   ·exact absurd (h.symm.trans hc) (by rw [hm0];exact h0)
  have hov:Q.over=true:=List.all_eq_true.2 fun i hi=>by
   have hi:=List.mem_range.1 hi;rw [h.n] at hi;rw [h.pr i hi];rcases hall i hi with h|h<;>rw [h]<;>rfl
  have haw:sumTo (fun i=>(ph i).away) (2 * n)=sumTo (fun i=>i % 2) (2 * n):=sumTo_congr fun i hi=>by
   have hp:=h.par i hi;rcases hall i hi with h|h<;>rw [h] at hp ⊢<;>rw [← hp]<;>rfl
  rw [haw,sumTo_two (a:=0) (b:=1) (fun j hj=>hj) (fun j hj=>hj)] at hw;refine ⟨?_,by rw [hw];omega⟩;rcases hend with h|h
  ·exact h.1
  ·rw [hov] at h;exact absurd h.2.1 (by simp)
 ·have hno:∀ i,i < 2 * n→ph i≠.WE:=fun i hi e=>by have:=h.gone i hi e;omega
  have hodd:∀ i,i < 2 * n→i % 2=1→∃ f x,ph i=.WP f x:=fun i hi ho=>by
   rcases hst i hi with e|e|⟨f,x,e,_⟩
   ·have hp:=h.par i hi;rw [e,ho] at hp;cases hp
   ·exact absurd e (hno i hi)
   ·exact ⟨f,x,e⟩
  have hev:∀ i,i < 2 * n→i % 2=0→ph i=.DE:=fun i hi ho=>by
   rcases hst i hi with e|e|⟨f,x,e,_⟩
   ·exact e
   ·exact absurd e (hno i hi)
   ·have hp:=h.par i hi;rw [e,ho] at hp;cases hp
  have haw:sumTo (fun i=>(ph i).away) (2 * n)=0:=sumTo_zero fun i hi=>by
   rcases hst i hi with e|e|⟨f,x,e,_⟩
   ·rw [e];rfl
   ·exact absurd e (hno i hi)
   ·rw [e];rfl
  rw [haw] at hw;refine ⟨?_,hw,?_⟩
  ·rcases hend with hh|hh
   ·exfalso
    obtain ⟨f,x,e⟩:=hodd 1 (by omega) rfl
    have:=List.all_eq_true.1 hh.2 1 (List.mem_range.2 (by rw [h.n];omega))
    rw [h.pr 1 (by omega),e] at this;cases this
   ·exact hh.1
  ·unfold Xp.left
   rw [h.n];refine some_half fun j hj=>⟨fun ho=>?_,fun ho=>?_⟩
   ·unfold Xp.stands;rw [h.pr j hj,hev j hj ho];rfl
   ·obtain ⟨f,x,e⟩:=hodd j hj ho
    unfold Xp.stands;rw [h.pr j hj,e];exact ⟨_,rfl⟩
theorem dnP_fuel {Sh:Type}:∀ (m f:Nat),m < f→Fuel m (dnP f:Xx Sh Bool)
 | 0,f + 1,_=>.acc0
 | m + 1,f + 1,h=>.acc fun a=>by
  show Fuel m (if a.was < 1 then _ else _)
  split
  ·exact .ret ..
  ·match m with
   | 0=>exact .acc0
   | m + 1 =>
    exact .acc fun b=>by
     show Fuel m (if b.ok=true then _ else _)
     split
     ·exact .ret ..
     ·exact dnP_fuel m f (by omega)
theorem wtP_fuel {Sh:Type}:∀ (m f:Nat),m < f→Fuel m (wtP f:Xx Sh Unit)
 | 0,f + 1,_=>.acc0
 | m + 1,f + 1,h=>.acc fun a=>by
  show Fuel m (if a.was=0 then _ else _)
  split
  ·exact .ret ..
  ·match m with
   | 0=>exact .acc0
   | m + 1=>exact .acc fun b=>wtP_fuel m f (by omega)
theorem Fuel.bind {Sh α β:Type} {g:α→Xx Sh β}:∀ {p:Xx Sh α} {m:Nat},Fuel m p→(∀ k a,k≤m→Fuel k (g a))→Fuel m (p.bind g)
 | .ret a,m,_,hg=>hg m a (Nat.le_refl _)
 | .fall,m,h,_=>.fall m
 | .out,m,h,_=>by cases h
 | .acc r k,0,h,hg=>.acc0
 | .acc r k,m + 1,h,hg=>by
  cases h with
  | acc hk=>exact .acc fun a=>Fuel.bind (hk a) fun k a hk=>hg k a (by omega)
 | .act f k,m,h,hg=>by
  cases h with
  | act hk=>exact .act fun s=>Fuel.bind (hk s) hg
theorem downs_fuel {F:Nat}:∀ (k m:Nat),m < F→Fuel m (downs F k)
 | 0,m,_=>.ret ..
 | k + 1,m,h=>.act fun s=>by
  show Fuel m (if s.early=true then _ else _)
  split
  ·exact .act fun s=>downs_fuel k m h
  ·exact (dnP_fuel m F h).bind fun j a hj=>.act fun s=>downs_fuel k j (by omega)
theorem waiter_fuel {F m:Nat} {all:Int} (h:m < F):Fuel m (waiter F all):=(wtP_fuel m F h).bind fun j a hj=>.act fun s=>.ret ..

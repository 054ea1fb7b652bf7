/- RingPlays$1: the loop over the script, and the body. -/
import Derived.Test.YtdhnggjmegilkaaSRwB
import Derived.Test.YtdhnggjmegilkaaSTkN
import Derived.Test.YtdhnggjmegilkaaSGtS
set_option linter.all false
set_option maxRecDepth 100000
set_option maxHeartbeats 16000000
namespace Go.Proofs.Ytdhnggjmegilkaa
open Go.Conc Go.RowKit
open Go.ConcN (upd upd_same upd_ne)
set_option maxRecDepth 100000
structure X4 where
 o:Int
 v:Int
def XS:Enc Ym:=⟨93,97,3,fun a=>[.int .i64 a.v,.bool a.is,.int .i64 a.e]⟩
theorem XdM:XS.OK where
 under:=Try.underlying97
 info:=⟨.agg #[.int .i64 0,.bool false,.int .i64 0],24,by kernel_rfl,rfl,by decide⟩
 pos:=by decide
 len:=fun a=>rfl
 one:=fun a u hu=>by
  simp only [XS,List.mem_cons,List.not_mem_nil,or_false] at hu;rcases hu with rfl|rfl|rfl<;>rfl
def Yl (w:World) (N:Nat) (a:Option Addr) (L:List X4):Prop :=
 ∀ i c,L[i]? = some c→∃ g off,a=some ⟨g,off,none⟩∧g < N∧w.cell? ⟨g,off + i * 2,none⟩=some (.int .i64 c.o)∧w.cell? ⟨g,off + i * 2 + 1,none⟩=some (.int .i64 c.v)
structure XbM (w0:World) (Kp:Nat→Prop) (gt n:Nat) (A:Nat→Nat) (nc j:Nat) (L:List X4) (bp bi bs sb ib pb nN cap gS oS cS cT cC:Nat) (aC:Option Addr):Prop where
 gt0:gt < w0.heap.size
 cells:∀ i,i < nc→A i < w0.heap.size∧gt≠A i
 jn:j < n
 nN2:2≤nN
 ncN:2 + 2 * nN=nc
 ix:∀ p,0≤ixZ nN p∧ixZ nN p < nN
 len:L.length≤1000000
 c1:w0.cell? (th bp 2)=some (.slice (some ⟨gS,oS,none⟩) n cS)
 c2:w0.cell? (th bi 0)=some (.int .i64 j)
 c3:w0.cell? (th bs 0)=some (P0 sb)
 c4:w0.cell? (th sb 0)=some (P0 ib)
 c4':w0.cell? (th sb 1)=some (.slice (some ⟨gt,0,none⟩) n cT)
 c5:w0.cell? ⟨gS,oS + j,none⟩=some (.slice aC L.length cC)
 c6:Yl w0 w0.heap.size aC L
 blk:w0.heap[ib]? = some (.cells #[P0 (A 0),P0 (A 1),.slice (some ⟨pb,0,none⟩) nN cap] 115 (0,0))
 row:∀ k,k < nN→w0.cell? (th pb (k * 2))=some (P0 (A (2 + 2 * k)))∧w0.cell? (th pb (k * 2 + 1))=some (P0 (A (3 + 2 * k)))
 st:∀ r,(r=bp∨r=bi∨r=bs∨r=sb∨r=ib∨r=pb∨r=gS∨(L≠[]∧∃ a,aC=some a∧r=a.block))→¬ Kp r∧r≠gt∧∀ i,i < nc→r≠A i
structure UV (x:World) (gt n nc j:Nat) (L:List X4) (bp bi bs sb ib gS oS cS cT cC:Nat) (aC:Option Addr) (hv:Value):Prop where
 c1:x.cell? (th bp 2)=some (.slice (some ⟨gS,oS,none⟩) n cS)
 c2:x.cell? (th bi 0)=some (.int .i64 j)
 c3:x.cell? (th bs 0)=some (P0 sb)
 c4:x.cell? (th sb 0)=some (P0 ib)
 c4':x.cell? (th sb 1)=some (.slice (some ⟨gt,0,none⟩) n cT)
 c5:x.cell? ⟨gS,oS + j,none⟩=some (.slice aC L.length cC)
 c6:Yl x x.heap.size aC L
 c8:x.cell? (th gt j)=some hv
section
variable {w0:World} {Kp:Nat→Prop} {gt n:Nat} {A:Nat→Nat} {nc j:Nat} {L:List X4} {bp bi bs sb ib pb nN cap gS oS cS cT cC:Nat} {aC:Option Addr}
theorem Z7.cell {sh:Nat→List Ym} {col:Nat→Prop} {x:World} (h:Z7 XS w0 Kp gt n A nc sh col x) {a:Addr} {v:Value} (hc:w0.cell? a=some v) (hs:¬ Kp a.block∧a.block≠gt∧∀ i,i < nc→a.block≠A i):x.cell? a=some v:=by
 rw [World.cell?_of_block (h.2.1 a.block (Xt hc) hs.1 hs.2.1 hs.2.2).2];exact hc
theorem XbM.sees (H:XbM w0 Kp gt n A nc j L bp bi bs sb ib pb nN cap gS oS cS cT cC aC) {sh:Nat→List Ym} {col:Nat→Prop} {x:World} (h:Z7 XS w0 Kp gt n A nc sh col x):∃ hv,UV x gt n nc j L bp bi bs sb ib gS oS cS cT cC aC hv:=by
 obtain ⟨hd,hr⟩:=h.2.2.2;refine ⟨hd j,h.cell H.c1 (H.st _ (by simp)),h.cell H.c2 (H.st _ (by simp)),h.cell H.c3 (H.st _ (by simp)),h.cell H.c4 (H.st _ (by simp)),h.cell H.c4' (H.st _ (by simp)),h.cell H.c5 (H.st _ (by simp)),fun i c hi=>?_,hr.cell H.jn⟩;obtain ⟨g,off,e,hg,q0,q1⟩:=H.c6 i c hi;have hst:=H.st g (.inr (.inr (.inr (.inr (.inr (.inr (.inr ⟨by rintro rfl;simp at hi,_,e,rfl⟩)))))));exact ⟨g,off,e,Nat.lt_of_lt_of_le hg h.1,h.cell q0 hst,h.cell q1 hst⟩
theorem UV.old {x y:World} {hv:Value} (h:UV x gt n nc j L bp bi bs sb ib gS oS cS cT cC aC hv) (ho:Xg x y):UV y gt n nc j L bp bi bs sb ib gS oS cS cT cC aC hv :=
 ⟨ho.cell h.c1,ho.cell h.c2,ho.cell h.c3,ho.cell h.c4,ho.cell h.c4',ho.cell h.c5,fun i c hi=>by
  obtain ⟨g,off,e,hg,q0,q1⟩:=h.c6 i c hi;exact ⟨g,off,e,Nat.lt_of_lt_of_le hg ho.1,ho.cell q0,ho.cell q1⟩,ho.cell h.c8⟩
variable {F:XV (Nat→List Ym)} {inj:∀ a b,a < nc→b < nc→A a=A b→a=b} {hgt:gt < w0.heap.size} {hA:∀ i,i < nc→A i < w0.heap.size∧gt≠A i}
theorem XbM.ring (H:XbM w0 Kp gt n A nc j L bp bi bs sb ib pb nN cap gS oS cS cT cC aC) (sh:Nat→List Ym) (cells:Nat→Int) (col:Nat→Prop) (y:World) (h:(Yw XS F w0 Kp gt n A nc inj hgt hA).I sh cells col y):Xaz y ib pb nN cap A:=by
 have hst:=fun r h=>H.st r h;have hib:=hst ib (by simp);refine ⟨(h.2.2.1 ib (GE H.blk).1 hib.1 hib.2.1 hib.2.2).2.trans H.blk,fun k hk=>⟨Z7.cell h.2 (H.row k hk).1 (hst pb (by simp)),Z7.cell h.2 (H.row k hk).2 (hst pb (by simp))⟩,fun i hi=>(h.1 i (by have:=H.ncN;omega)).1.c1⟩
theorem XbM.stage (H:XbM w0 Kp gt n A nc j L bp bi bs sb ib pb nN cap gS oS cS cT cC aC) (sh:Nat→List Ym) (cells:Nat→Int) (col:Nat→Prop) (y:World) (h:(Yw XS F w0 Kp gt n A nc inj hgt hA).I sh cells col y):y.cell? (th sb 0)=some (P0 ib):=Z7.cell h.2 H.c4 (H.st sb (by simp))
end
end Go.Proofs.Ytdhnggjmegilkaa
namespace Go.Proofs.Ytdhnggjmegilkaa
open Go.Conc Go.RowKit
theorem UN {α:Type} {n e:Nat} {d:Int} {k:Int→Bool→Xm α} (hk:∀ p b,(k p b).NoOut):∀ (f N:Nat),N≤2 * f + 1→(Q5 n e d k (f + 1)).Fuel N:=by
 intro f
 induction f with
 | zero =>
  intro N hN
  match N with
  | 0=>exact .acc0
  | 1=>exact .acc fun a=>.acc0
  | N + 2=>omega
 | succ f ih =>
  intro N hN
  match N with
  | 0=>exact .acc0
  | 1=>exact .acc fun a=>.acc0
  | N + 2 =>
   refine .acc fun a=>.acc fun b=>?_
   split
   ·match N with
    | 0=>exact .acc0
    | M + 1 =>
     refine .acc fun o=>?_
     split
     ·exact (hk _ _).fuel _
     ·exact ih M (by omega)
   ·split
    ·exact (hk _ _).fuel _
    ·exact ih N (by omega)
theorem Xbn {n:Nat} {o v:Int} (f:Nat):(YZ n (f + 1) o v).Fuel (2 * f + 1):=by
 unfold YZ
 split
 ·refine UN (fun p b=>?_) f _ (Nat.le_refl _)
  split
  ·exact .acc fun _=>.acc fun _=>.ret _
  ·exact .ret _
 ·split
  ·refine UN (fun p b=>?_) f _ (Nat.le_refl _)
   split
   ·exact .acc fun _=>.acc fun _=>.ret _
   ·exact .ret _
  ·split
   ·exact Xm.NoOut.fuel _ (.acc fun _=>.acc fun _=>.ret _)
   ·exact .ret _ _
theorem WE {α:Type} {n e nc:Nat} {d:Int} {k:Int→Bool→Xm α} (hix:∀ p,0≤ixZ n p∧ixZ n p < n) (hnc:2 + 2 * n≤nc) (he:e < nc) (hk:∀ p b,(k p b).Ok nc):∀ f,(Q5 n e d k f).Ok nc:=by
 intro f
 induction f with
 | zero=>exact .out
 | succ f ih =>
  refine .acc ⟨(by decide:(1:Int)≤1),(by decide:(1:Int)≤6),fun _=>rfl,fun _=>rfl⟩ he fun a=>.acc ⟨(by decide:(1:Int)≤1),(by decide:(1:Int)≤6),fun _=>rfl,fun _=>rfl⟩ (by have:=hix a.was;show 2 + 2 * (ixZ n a.was).toNat < nc;omega) fun b=>?_
  split
  ·refine .acc ⟨(by decide:(1:Int)≤3),(by decide:(3:Int)≤6),fun e=>absurd e (by decide:(3:Int)≠1),fun e=>absurd rfl e⟩ he fun o=>?_
   split
   ·exact hk _ _
   ·exact ih
  ·split
   ·exact hk _ _
   ·exact ih
theorem XdN {n nc:Nat} {o v:Int} (hn:2≤n) (hix:∀ p,0≤ixZ n p∧ixZ n p < n) (hnc:2 + 2 * n≤nc) (f:Nat):(YZ n f o v).Ok nc:=by
 have hk:∀ p,2 + 2 * (ixZ n p).toNat + 1 < nc:=fun p=>by have:=hix p;omega
 have g1:∀ c,(⟨1,c,0,0⟩:Ask).Good:=fun c=>⟨(by decide:(1:Int)≤1),(by decide:(1:Int)≤6),fun _=>rfl,fun _=>rfl⟩
 have g2:∀ c v,(⟨2,c,v,0⟩:Ask).Good:=fun c v=>⟨(by decide:(1:Int)≤2),(by decide:(2:Int)≤6),fun e=>absurd e (by decide:(2:Int)≠1),fun _=>rfl⟩
 unfold YZ
 split
 ·refine WE hix hnc (by omega) (fun p b=>?_) f
  split
  ·exact .acc (g2 _ _) (by have:=hk p;show 3 + 2 * (ixZ n p).toNat < nc;omega) fun _=>.acc (g2 _ _) (by have:=hk p;show 2 + 2 * (ixZ n p).toNat < nc;omega) fun _=>.ret _
  ·exact .ret _
 ·split
  ·refine WE hix hnc (by omega) (fun p b=>?_) f
   split
   ·exact .acc (g1 _) (by have:=hk p;show 3 + 2 * (ixZ n p).toNat < nc;omega) fun _=>.acc (g2 _ _) (by have:=hk p;show 2 + 2 * (ixZ n p).toNat < nc;omega) fun _=>.ret _
   ·exact .ret _
  ·split
   ·exact .acc (g1 _) (by show 1 < nc;omega) fun _=>.acc (g1 _) (by show 0 < nc;omega) fun _=>.ret _
   ·exact .ret _
end Go.Proofs.Ytdhnggjmegilkaa
namespace Go.Proofs.Ytdhnggjmegilkaa
open Go.Conc Go.RowKit
open Go.ConcN (upd upd_same upd_ne)
set_option maxRecDepth 100000
section
variable {w0:World} {Kp:Nat→Prop} {gt n:Nat} {A:Nat→Nat} {nc j:Nat} {L:List X4} {bp bi bs sb ib pb nN cap gS oS cS cT cC:Nat} {aC:Option Addr} {F:XV (Nat→List Ym)} {inj:∀ a b,a < nc→b < nc→A a=A b→a=b} {hgt:gt < w0.heap.size} {hA:∀ i,i < nc→A i < w0.heap.size∧gt≠A i}
def XfF (Post:Value→World→Prop) (S:Zv (Nat→List Ym)) (j tb rb:Nat) (cb:Frame) (k:Nat) (rest:List (Xm Ym)) (Pv:Nat→Prop) (C:Ctx) (y:World) (a:Ym):Prop :=
 ∃ m x0 col sh cells,TSt Post S j tb rb cb m C x0 y col Pv sh cells (.act (Zw j a) fun _=>Yp j rest)∧(sh j).length=k
def Xa9:Obj:=.cells #[.int .i64 0,.bool false,.int .i64 0] 93
def rgW (Post:Value→World→Prop) (S:Zv (Nat→List Ym)) (j tb rb:Nat) (cb:Frame) (k:Nat) (rest:List (Xm Ym)) (Sees:World→Prop) (C:Ctx) (x:World) (D:Nat→Bool) (cv:Nat→Value) (C':Ctx) (y:World):Prop :=
 match D 0,D 1 with
 | false,false=>C'=C∧y=x
 | false,true=>C'=C∧Xg x y∧∃ q,cv 1=P0 q∧x.heap.size≤q∧y.heap[q]? = some Xa9
 | true,false=>Sees y∧∃ a,cv 0=aV a∧XfF Post S j tb rb cb k rest none_ C' y a
 | true,true=>Sees y∧∃ a q,cv 0=aV a∧cv 1=P0 q∧y.heap[q]? = some Xa9∧XfF Post S j tb rb cb k rest (fun r=>r=q) C' y a
theorem rgW.sees {Post:Value→World→Prop} {S:Zv (Nat→List Ym)} {tb rb:Nat} {cb:Frame} {k:Nat} {rest:List (Xm Ym)} {Sees:World→Prop} {C C':Ctx} {x y:World} {D:Nat→Bool} {cv:Nat→Value} (h0:∀ y,Xg x y→Sees y) (h:rgW Post S j tb rb cb k rest Sees C x D cv C' y):Sees y:=by
 unfold rgW at h
 split at h
 ·rw [h.2];exact h0 x (Xg.refl x)
 ·exact h0 y h.2.1
 ·exact h.1
 ·exact h.1
variable {Post:Value→World→Prop} {tb rb:Nat} {cb:Frame} {m k:Nat} {C:Ctx} {x0 x:World} {col:Nat→Prop} {sh:Nat→List Ym} {cells:Nat→Int} {rest:List (Xm Ym)} {c:X4} {kk:List Item} {f:Nat}
theorem Xcq {u4 u6 u7 u8 u9 B0 B1 B2 B3 B4 B5 B6 B7 B8 B9 D0 D1 D2 D3 D4 D5 D6 D7 D8 D9 E0 E1 E2 E3 E4 E5 E6 E7 E8 E9 G0 G1 G2 G3:Value} (H:XbM w0 Kp gt n A nc j L bp bi bs sb ib pb nN cap gS oS cS cT cC aC) (hk:L[k]? = some c) (hB:TSt Post (Yw XS F w0 Kp gt n A nc inj hgt hA) j tb rb cb m C x0 x col none_ sh cells (Yp j (YZ nN f c.o c.v::rest))) (hnum:(sh j).length=k)
 (h:∀ (C':Ctx) (y:World) (a:Ym) (q:Nat) (u7 u8 u9 B0 B1 B2 B3 B4 B5 B6 B7 B8 B9 D0 D1 D2 D3 D4 D5 D6 D7 D8 D9 E0 E1 E2 E3 E4 E5 E6 E7 E8 E9 G0 G1 G2 G3:Value),y.heap[q]? = some (.cells #[.int .i64 a.v,.bool a.is,.int .i64 a.e] 93 (0,0))→XfF Post (Yw XS F w0 Kp gt n A nc inj hgt hA) j tb rb cb k rest (fun r=>r=q) C' y a→JG Try.prog Post C' (G ((base 34).at ⟨#[P0 tb,P0 bp,P0 bi,P0 bs,u4,.int .i64 k,P0 q,u7,u8,u9,B0,B1,B2,B3,B4,B5,B6,B7,B8,B9,D0,D1,D2,D3,D4,D5,D6,D7,D8,D9,E0,E1,E2,E3,E4,E5,E6,E7,E8,E9,G0,G1,G2,G3],[]⟩ kk) [cb,YX Try.prog]) y) :
 JG Try.prog Post C (G ((base 34).at ⟨#[P0 tb,P0 bp,P0 bi,P0 bs,u4,.int .i64 k,u6,u7,u8,u9,B0,B1,B2,B3,B4,B5,B6,B7,B8,B9,D0,D1,D2,D3,D4,D5,D6,D7,D8,D9,E0,E1,E2,E3,E4,E5,E6,E7,E8,E9,G0,G1,G2,G3],[]⟩ (.code (Code.nav (Try.f34.body.getD .skip) [1,0,0,1,0,0,0])::kk)) [cb,YX Try.prog]) x:=by
 simp only [Try.f34,Option.getD_some,Code.nav];obtain ⟨hv,hs⟩:=H.sees hB.I.2;obtain ⟨gC,oC,hac,_⟩:=hs.c6 k c hk;have hjn:=H.jn;have hkl:=(LE' hk).1;have hkm:k < 1000000:=by have:=H.len;omega
 have hkl':(k:Int) < L.length:=by omega
 have hj':(j:Int) < n:=by omega
 have HS:=HD hs;have HH:=HD H;have HB:=HD hB;have HK:=HD h;have HN:=HD hnum;clear hs H hB h hnum;refine JG.drawPo 12 (fun i=>if i=10 then some 0 else if i=11 then some 1 else none) (fun _=>[]) (rgW Post (Yw XS F w0 Kp gt n A nc inj hgt hA) j tb rb cb k rest (fun y=>UV y gt n nc j L bp bi bs sb ib gS oS cS cT cC aC hv) C x) 2 [some 27,some 6] (fun _=>undef) (by kernel_rfl) (by kernel_rfl) (by kernel_rfl) (by decide) (by decide) ⟨rfl,rfl⟩ ?_;apply Exists.intro;apply And.intro
 ·intro D cv C' y hW
  have hsy:UV y gt n nc j L bp bi bs sb ib gS oS cS cT cC aC hv:=rgW.sees (fun y ho=>HS.out.old ho) hW;have y1:=hsy.c1;have y2:=hsy.c2;have y3:=hsy.c3;have y5:=hsy.c5;obtain ⟨gC',oC',hac',_,z0,z1⟩:=hsy.c6 k c hk;obtain ⟨e1,e2⟩:gC'=gC∧oC'=oC:=by have:=hac'.symm.trans hac;simpa using this
  rw [e1,e2] at z0 z1;rw [hac] at y5;replace hW:=HD hW;replace hsy:=HD hsy;clear hac' e1 e2;simp only [List.take]
  repeat first|(refine XF.rd (by rfl) (fun K hK τ d=>?_);go_simp;refine hK _ ?_;clear hK K τ d)|(refine XF.rd (by rfl) (fun K hK τ d=>?_);have hfact:=uc τ d (y1);go_simp;refine hK _ ?_;clear hfact hK K τ d)|(refine XF.rd (by rfl) (fun K hK τ d=>?_);have hfact:=uc τ d (y2);go_simp;refine hK _ ?_;clear hfact hK K τ d)|(refine XF.rd (by rfl) (fun K hK τ d=>?_);have hfact:=uc τ d (y3);go_simp;refine hK _ ?_;clear hfact hK K τ d)|(refine XF.rd (by rfl) (fun K hK τ d=>?_);have hfact:=uc τ d (y5);go_simp;refine hK _ ?_;clear hfact hK K τ d)
  refine XF.rd (by rfl) (fun K hK τ d=>?_);have q0:=uc τ d z0;have q1:=uc τ d z1;go_simp;refine hK _ ?_;clear q0 q1 hK K τ d;refine XF.ch (by rfl) (fun hD0 _=>?_) ?_
  ·refine YG.call 35 #[P0 sb,P0 tb,.agg #[.int .i64 c.o,.int .i64 c.v]] rfl rfl (by decide) (fun w=>?_) (fun w=>?_) (fun a' L' hda hc=>?_)
   iterate 2 (focus obtain ⟨fn, h1, h2, h3⟩ : Yb 35 := ⟨_, Try.func35, by kernel_rfl, by kernel_rfl⟩; have h4 : ¬ fn.name = "runtime.NumGoroutine" := (by simpa using h2); have h5 : ¬ fn.body = none := (by intro e; rw [e] at h3; cases h3); simp [go_sem, execOp, Act.eval, resolve, Deferred.ofValue, invoke, callFunc, h1, h4, h5])
   ·have H:=HH.out
    cases hD1:D 1
    ·obtain ⟨rfl,rfl⟩:C'=C∧y=x:=by have:=hW.out;unfold rgW at this;rw [hD0,hD1] at this;exact this
     refine Xey (S:=Yw XS F w0 Kp gt n A nc inj hgt hA) (g:=fun a=>.act (Zw j a) fun _=>Yp j rest) f H.nN2 (Nat.le_of_eq H.ncN) H.ix (fun sh cells col y h=>H.ring sh cells col y h) (fun sh cells col y h=>H.stage sh cells col y h) HB.out (fun C x hb=>JG.raise hda Try.func34 (hb x (Nat.le_refl _) fun _ _=>rfl)) (fun m' C2 y0 z col' sh' cells' a ht hp hkp=>hc (aV a) C2 z ?_);obtain ⟨hv',hs'⟩:=H.sees ht.I.2;have hkk:=hkp (th gt j) ⟨hjn,rfl⟩;obtain rfl:hv'=hv:=OI (hs'.c8.symm.trans (hkk.trans hsy.out.c8));have hl:(sh' j).length=k:=by
      obtain ⟨hd1,hr1⟩:=HB.out.I.2.2.2.2;obtain ⟨hd2,hr2⟩:=ht.I.2.2.2.2;exact (Xcy (hr2.row j hjn) (by rw [show hd2 j=hd1 j from OI ((hr2.cell hjn).symm.trans (hkk.trans (hr1.cell hjn)))];exact hr1.row j hjn)).trans HN.out
     unfold rgW;rw [upd_same,upd_ne _ _ (by decide),hD1];exact ⟨hs',a,XQ,m',y0,col',sh',cells',ht,hl⟩
    ·obtain ⟨rfl,ho,q,hcv,hq,hbx⟩:C'=C∧Xg x y∧∃ q,cv 1=P0 q∧x.heap.size≤q∧y.heap[q]? = some Xa9:=by have:=hW.out;unfold rgW at this;rw [hD0,hD1] at this;exact this
     have hql:=(GE hbx).1;have hBy:=(HB.out.own ho (fun r=>r=q) fun r e=>by subst e;exact ⟨hq,hql⟩).fewer (Pv':=fun r=>r=q) fun r e=>.inr e;refine Xey (S:=Yw XS F w0 Kp gt n A nc inj hgt hA) (g:=fun a=>.act (Zw j a) fun _=>Yp j rest) f H.nN2 (Nat.le_of_eq H.ncN) H.ix (fun sh cells col y h=>H.ring sh cells col y h) (fun sh cells col y h=>H.stage sh cells col y h) hBy (fun C x hb=>JG.raise hda Try.func34 (hb x (Nat.le_refl _) fun _ _=>rfl)) (fun m' C2 y0 z col' sh' cells' a ht hp hkp=>hc (aV a) C2 z ?_);obtain ⟨hv',hs'⟩:=H.sees ht.I.2;have hkk:=hkp (th gt j) ⟨hjn,rfl⟩;obtain rfl:hv'=hv:=OI (hs'.c8.symm.trans (hkk.trans hsy.out.c8));have hl:(sh' j).length=k:=by
      obtain ⟨hd1,hr1⟩:=hBy.I.2.2.2.2;obtain ⟨hd2,hr2⟩:=ht.I.2.2.2.2;exact (Xcy (hr2.row j hjn) (by rw [show hd2 j=hd1 j from OI ((hr2.cell hjn).symm.trans (hkk.trans (hr1.cell hjn)))];exact hr1.row j hjn)).trans HN.out
     unfold rgW;rw [upd_same,upd_ne _ _ (by decide),hD1];exact ⟨hs',a,q,XQ,(UM (by decide)).trans hcv,(hp q rfl).trans hbx,m',y0,col',sh',cells',ht,hl⟩
  try walk_nrm
  refine XF.ch (by rfl) (fun hD1 _=>?_) ?_
  ·refine YG.op (F:=F0) Uv (fun h=>by cases h) rfl rfl rfl (by decide) (fun K hK τ d=>?_)
   replace hK:=HD hK;go_simp;show K _ (under (y.alloc Xa9) τ d);refine hK.out _ _ _ _ ?_;have ho:=(Xg.refl y).alloc Xa9;unfold rgW;cases hD0:D 0
   ·obtain ⟨rfl,rfl⟩:C'=C∧y=x:=by have:=hW.out;unfold rgW at this;rw [hD0,hD1] at this;exact this
    rw [upd_ne _ _ (by decide),hD0,upd_same];exact ⟨rfl,ho,y.heap.size,XQ,Nat.le_refl _,heap_alloc_new _ _⟩
   ·obtain ⟨hs',a,hcv,m',x0',col',sh',cells',ht,hl⟩:=by have:=hW.out;unfold rgW at this;rw [hD0,hD1] at this;exact this
    rw [upd_ne _ _ (by decide),hD0,upd_same];exact ⟨hsy.out.old ho,a,y.heap.size,(UM (by decide)).trans hcv,XQ,heap_alloc_new _ _,m',x0',col',sh',cells',(ht.own ho (fun r=>r=y.heap.size) fun r e=>by subst e;exact ⟨Nat.le_refl _,by rw [Zf];omega⟩).fewer fun r e=>.inr e,hl⟩
  try walk_nrm
  exact XF.nil rfl
 ·apply And.intro
  ·intro cv
   rfl
  ·intro D cv C' y hD hW
   obtain ⟨hs4,a,q,hcv0,hcv1,hbx,m',x0',col',sh',cells',ht,hl⟩:UV y gt n nc j L bp bi bs sb ib gS oS cS cT cC aC hv∧∃ a q,cv 0=aV a∧cv 1=P0 q∧y.heap[q]? = some Xa9∧XfF Post (Yw XS F w0 Kp gt n A nc inj hgt hA) j tb rb cb k rest (fun r=>r=q) C' y a:=by have:=hW;unfold rgW at this;rw [hD 0 (by decide),hD 1 (by decide)] at this;exact this
   have hqg:gt≠q:=fun e=>ht.I.2.2.2.1 (.inr e);rw [hcv0,hcv1,show aV a=Value.agg #[.int .i64 a.v,.bool a.is,.int .i64 a.e] from rfl];replace ht:=HD ht;replace hl:=HD hl;replace hqg:=HD hqg;clear hs4 hW;show JG _ _ _ (G ((base _).at _ (.inRegion _ [12]::_)) _) _;refine ko fun K E hK hE τ d=>?_;have kb:(under y τ d).heap[q]? = some (.cells #[.int .i64 0,.bool false,.int .i64 0] 93 (0,0)):=hbx;have k0:(under y τ d).cell? ⟨q,0,none⟩=some (.int .i64 0):=Xa kb 0;have k1:(under y τ d).cell? ⟨q,1,none⟩=some (.bool false):=Xa kb 1;have k2:(under y τ d).cell? ⟨q,2,none⟩=some (.int .i64 0):=Xa kb 2;have hlt:q < (under y τ d).heap.size:=Xt k0;have f0:(under y τ d).frozen? ⟨q,0,none⟩=false:=Lib.frozen_of_heap kb 0;have f1:(under y τ d).frozen? ⟨q,1,none⟩=false:=Lib.frozen_of_heap kb 1;have f2:(under y τ d).frozen? ⟨q,2,none⟩=false:=Lib.frozen_of_heap kb 2;go_simp;refine hK _ _ ?_;rw [Xc,Xc,Xc];refine jt ?_;clear kb k0 k1 k2 hlt f0 f1 f2 hK hE K E τ d;have hz:=Xd (k:=2) (v:=.int .i64 a.e) (Xd (k:=1) (v:=.bool a.is) (Xd (k:=0) (v:=.int .i64 a.v) hbx));have hne:∀ r,r≠q→((((y.setCell (th q 0) (.int .i64 a.v)).setCell (th q 1) (.bool a.is)).setCell (th q 2) (.int .i64 a.e))).heap[r]? = y.heap[r]?:=fun r hr=>by rw [Xb hr,Xb hr,Xb hr]
   have hsz:((((y.setCell (th q 0) (.int .i64 a.v)).setCell (th q 1) (.bool a.is)).setCell (th q 2) (.int .i64 a.e))).heap.size=y.heap.size:=by rw [Xh,Xh,Xh]
   generalize (((y.setCell (th q 0) (.int .i64 a.v)).setCell (th q 1) (.bool a.is)).setCell (th q 2) (.int .i64 a.e))=z at hz hne hsz ⊢;replace hz:z.heap[q]? = some (.cells #[.int .i64 a.v,.bool a.is,.int .i64 a.e] 93 (0,0)):=hz
   repeat refine kx ?_
   exact HK.out C' z a q _ _ _ _ _ _ _ _ _ _ _ _ _ _ _ _ _ _ _ _ _ _ _ _ _ _ _ _ _ _ _ _ _ _ _ _ _ hz ⟨m',x0',col',sh',cells',ht.out.turn1 (fun r=>r=q) (fun r e=>e) hsz (fun r hr=>hne r hr) (fun i b _ h5 h6=>by obtain ⟨_,rfl⟩:=h5;exact hqg.out h6),hl.out⟩
end
section
variable {w0:World} {Kp:Nat→Prop} {gt n:Nat} {A:Nat→Nat} {nc j:Nat} {L:List X4} {bp bi bs sb ib pb nN cap gS oS cS cT cC:Nat} {aC:Option Addr} {F:XV (Nat→List Ym)} {inj:∀ a b,a < nc→b < nc→A a=A b→a=b} {hgt:gt < w0.heap.size} {hA:∀ i,i < nc→A i < w0.heap.size∧gt≠A i}
def rgV (Post:Value→World→Prop) (S:Zv (Nat→List Ym)) (gt j tb rb:Nat) (cb:Frame) (k:Nat) (rest:List (Xm Ym)) (Sees:World→Prop) (q:Nat) (a:Ym) (C:Ctx) (x:World):Nat→(Nat→Value)→Ctx→World→Prop
 | 0,_,C',y=>C'=C∧y=x
 | 1,cv,C',y=>Sees y∧y.heap[q]? = some (.cells (XS.cells a).toArray XS.e (0,0))∧∃ B,cv 0=.slice (some ⟨B,0,none⟩) 1 1∧y.heap[B]? = some (.cells (XS.cells a).toArray XS.e (0,0))∧XfF Post S j tb rb cb k rest (fun r=>r=q) C' y a
 | _,cv,C',y=>Sees y∧y.heap[q]? = some (.cells (XS.cells a).toArray XS.e (0,0))∧y.frozen? (th gt j)=false∧(∃ a l c,cv 1=.slice a l c)∧∃ m x0 col sh cells,TSt Post S j tb rb cb m C' x0 (y.setCell (th gt j) (cv 1)) col (fun r=>r=q) sh cells (Yp j rest)∧(sh j).length=k + 1
theorem rgV.sees {Post:Value→World→Prop} {S:Zv (Nat→List Ym)} {gt tb rb:Nat} {cb:Frame} {k:Nat} {rest:List (Xm Ym)} {Sees:World→Prop} {C C':Ctx} {x y:World} {q:Nat} {a:Ym} {cv:Nat→Value} {i:Nat} (h0:Sees x∧x.heap[q]? = some (.cells (XS.cells a).toArray XS.e (0,0))) (h:rgV Post S gt j tb rb cb k rest Sees q a C x i cv C' y):Sees y∧y.heap[q]? = some (.cells (XS.cells a).toArray XS.e (0,0)):=by
 match i,h with
 | 0,h=>rw [h.2];exact h0
 | 1,h=>exact ⟨h.1,h.2.1⟩
 | _ + 2,h=>exact ⟨h.1,h.2.1⟩
theorem UV.low (H:XbM w0 Kp gt n A nc j L bp bi bs sb ib pb nN cap gS oS cS cT cC aC) {y y':World} {hv:Value} (h:UV y gt n nc j L bp bi bs sb ib gS oS cS cT cC aC hv) (hsz:y.heap.size≤y'.heap.size) (hl:∀ r,r < w0.heap.size→y'.heap[r]? = y.heap[r]?):UV y' gt n nc j L bp bi bs sb ib gS oS cS cT cC aC hv:=by
 have t:∀ {a:Addr} {v:Value},a.block < w0.heap.size→y.cell? a=some v→y'.cell? a=some v:=fun ha hc=>(World.cell?_of_block (hl _ ha)).trans hc;refine ⟨t (Xt H.c1) h.c1,t (Xt H.c2) h.c2,t (Xt H.c3) h.c3,t (Xt H.c4) h.c4,t (Xt H.c4') h.c4',t (Xt H.c5) h.c5,fun i c hi=>?_,t H.gt0 h.c8⟩;obtain ⟨g,off,e,hg,q0,q1⟩:=h.c6 i c hi;obtain ⟨g',off',e',hg',_⟩:=H.c6 i c hi;obtain ⟨e1,e2⟩:g=g'∧off=off':=by have:=e.symm.trans e';simpa using this
 rw [← e1] at hg';exact ⟨g,off,e,Nat.lt_of_lt_of_le hg hsz,t hg' q0,t hg' q1⟩
variable {Post:Value→World→Prop} {tb rb:Nat} {cb:Frame} {m k:Nat} {C:Ctx} {x0 x:World} {col:Nat→Prop} {sh:Nat→List Ym} {cells:Nat→Int} {rest:List (Xm Ym)} {c:X4} {kk:List Item} {f:Nat}
theorem Xcp {u4 u7 u8 u9 B0 B1 B2 B3 B4 B5 B6 B7 B8 B9 D0 D1 D2 D3 D4 D5 D6 D7 D8 D9 E0 E1 E2 E3 E4 E5 E6 E7 E8 E9 G0 G1 G2 G3:Value} {q:Nat} {a:Ym} (H:XbM w0 Kp gt n A nc j L bp bi bs sb ib pb nN cap gS oS cS cT cC aC) (hk:k < 1000000) (hbx:x.heap[q]? = some (.cells #[.int .i64 a.v,.bool a.is,.int .i64 a.e] 93 (0,0))) (hB:XfF Post (Yw XS F w0 Kp gt n A nc inj hgt hA) j tb rb cb k rest (fun r=>r=q) C x a)
 (h:∀ (m':Nat) (C':Ctx) (x0' y:World) (col':Nat→Prop) (sh':Nat→List Ym) (cells':Nat→Int) (D8 D9 E0 E1 E2 E3 E4 E5 E6 E7 E8 E9 G0 G1 G2 G3:Value),TSt Post (Yw XS F w0 Kp gt n A nc inj hgt hA) j tb rb cb m' C' x0' y col' none_ sh' cells' (Yp j rest)→(sh' j).length=k + 1→JG Try.prog Post C' (G ((base 34).at ⟨#[P0 tb,P0 bp,P0 bi,P0 bs,u4,.int .i64 k,P0 q,u7,u8,u9,B0,B1,B2,B3,B4,B5,B6,B7,B8,B9,D0,D1,D2,D3,D4,D5,D6,D7,D8,D9,E0,E1,E2,E3,E4,E5,E6,E7,E8,E9,G0,G1,G2,G3],[]⟩ kk) [cb,YX Try.prog]) y) :
 JG Try.prog Post C (G ((base 34).at ⟨#[P0 tb,P0 bp,P0 bi,P0 bs,u4,.int .i64 k,P0 q,u7,u8,u9,B0,B1,B2,B3,B4,B5,B6,B7,B8,B9,D0,D1,D2,D3,D4,D5,D6,D7,D8,D9,E0,E1,E2,E3,E4,E5,E6,E7,E8,E9,G0,G1,G2,G3],[]⟩ (.code (Code.nav (Try.f34.body.getD .skip) [1,0,0,1,0,0,1])::kk)) [cb,YX Try.prog]) x:=by
 simp only [Try.f34,Option.getD_some,Code.nav];obtain ⟨m0,x00,col0,sh0,cells0,ht0,hl0⟩:=hB;obtain ⟨hv,hs⟩:=H.sees ht0.I.2;have hB:XfF Post (Yw XS F w0 Kp gt n A nc inj hgt hA) j tb rb cb k rest (fun r=>r=q) C x a:=⟨m0,x00,col0,sh0,cells0,ht0,hl0⟩
 have hjn:=H.jn;have hj':(j:Int) < n:=by omega
 have hs0:=HD (And.intro hs (show x.heap[q]? = some (.cells (XS.cells a).toArray XS.e (0,0)) from hbx));have HH:=HD H;have HB:=HD hB;have HK:=HD h;clear hs H hB h hbx ht0 hl0;refine JG.drawChain 15 (fun i=>if i=13 then some 0 else if i=14 then some 1 else none) (rgV Post (Yw XS F w0 Kp gt n A nc inj hgt hA) gt j tb rb cb k rest (fun y=>UV y gt n nc j L bp bi bs sb ib gS oS cS cT cC aC hv) q a C x) 2 [some 41,some 42] (fun _=>undef) (by kernel_rfl) (by kernel_rfl) (by kernel_rfl) (by decide) (by decide) ⟨rfl,rfl⟩ ?_;apply Exists.intro;apply And.intro
 ·intro i hi cv C' y hW
  obtain ⟨hsy,hby⟩:=rgV.sees hs0.out hW;have y2:=hsy.c2;have y3:=hsy.c3;have y4:=hsy.c4';have y8:=hsy.c8;replace hby:y.heap[q]? = some (.cells #[.int .i64 a.v,.bool a.is,.int .i64 a.e] 93 (0,0)):=hby;have z0:y.cell? (th q 0)=some (.int .i64 a.v):=Xa hby 0;have z1:y.cell? (th q 1)=some (.bool a.is):=Xa hby 1;have z2:y.cell? (th q 2)=some (.int .i64 a.e):=Xa hby 2;replace hW:=HD hW;replace hsy:=HD hsy;replace hby:=HD hby;simp only [List.take]
  repeat first|(refine XG.rd (by rfl) (fun K hK τ d=>?_);go_simp;refine hK _ ?_;clear hK K τ d)|(refine XG.rd (by rfl) (fun K hK τ d=>?_);have hfact:=uc τ d (y2);go_simp;refine hK _ ?_;clear hfact hK K τ d)|(refine XG.rd (by rfl) (fun K hK τ d=>?_);have hfact:=uc τ d (y3);go_simp;refine hK _ ?_;clear hfact hK K τ d)|(refine XG.rd (by rfl) (fun K hK τ d=>?_);have hfact:=uc τ d (y4);go_simp;refine hK _ ?_;clear hfact hK K τ d)|(refine XG.rd (by rfl) (fun K hK τ d=>?_);have hfact:=uc τ d (y8);go_simp;refine hK _ ?_;clear hfact hK K τ d)
  refine XG.rd (by rfl) (fun K hK τ d=>?_);have q0:=uc τ d z0;have q1:=uc τ d z1;have q2:=uc τ d z2;go_simp;refine hK _ ?_;clear q0 q1 q2 hK K τ d;refine XG.ch (by rfl) (fun hq0=>?_) ?_
  ·subst hq0
   obtain ⟨rfl,rfl⟩:=hW.out;refine Y4.op (F:=F0) Uv (fun h=>by cases h) rfl rfl rfl (by decide) (fun K hK τ d=>?_);replace hK:=HD hK;go_simp;show K _ (under (y.alloc (.cells (XS.cells a).toArray XS.e)) τ d);have ho:=(Xg.refl y).alloc (.cells (XS.cells a).toArray XS.e);obtain ⟨m',x0',col',sh',cells',ht,hl⟩:=HB.out;exact hK.out _ _ _ _ ⟨hsy.out.old ho,(ho.2 q (GE hby.out).1).trans hby.out,y.heap.size,XQ,heap_alloc_new _ _,m',x0',col',sh',cells',ht.up ho,hl⟩
  try walk_nrm
  refine XG.ch (by rfl) (fun hq0=>?_) ?_
  ·subst hq0
   obtain ⟨_,_,B,hcv,hBk,m',x0',col',sh',cells',ht,hl⟩:=hW.out;refine Y4.op (F:=F0) Uv (fun h=>by cases h) rfl rfl rfl (by decide) (fun K hK τ d=>?_);obtain ⟨u,y',r1,r2,r3,r4,r5,r6,r7⟩:=XfK XdM hjn hk ht hl y8 hBk τ d;have hqf:¬ ∃ g,hv.ownBlock=some g∧q=g:=fun ⟨g,e1,e2⟩=>by
    subst e2;obtain ⟨hd,hr⟩:=ht.I.2.2.2.2;have e3:hd j=hv:=OI ((hr.cell hjn).symm.trans y8);exact hr.free j hjn q (by rw [e3];exact e1) (.inr rfl)
   have hbq:y'.heap[q]? = some (.cells (XS.cells a).toArray XS.e (0,0)):=(r4 q (GE hby.out).1 hqf).trans hby.out;rw [hcv,Qy (s:=.tmp 39) (x:=.tmp 41) rfl rfl rfl r1];exact hK u y' y'.tape y'.drawn ⟨hsy.out.low HH.out r2 r3,hbq,r5,by rw [XQ];exact r6,by rw [XQ];exact ⟨m',x0',col',_,cells',r7.1,r7.2⟩⟩
  try walk_nrm
  exact XG.nil rfl
 ·apply And.intro
  ·intro cv
   rfl
  ·intro cv C' y hW
   obtain ⟨hs4,_,hf,⟨a3,l3,c3,hc3⟩,m',x0',col',sh',cells',hb,hl⟩:=hW;have y8:=hs4.c8;rw [hc3] at hb ⊢;have hb':=HD (hb.fewer (Pv':=none_) fun r h=>h.elim);replace hl:=HD hl;clear hb;show JG _ _ _ (G ((base _).at _ (.inRegion _ [15,16]::_)) _) _
   repeat refine kx ?_
   refine kst (And.intro y8 hf) ?_
   repeat refine kx ?_
   exact HK.out m' C' x0' _ col' sh' cells' _ _ _ _ _ _ _ _ _ _ _ _ _ _ _ _ hb'.out hl.out
end
section
variable {w0:World} {Kp:Nat→Prop} {gt n:Nat} {A:Nat→Nat} {nc j:Nat} {L:List X4} {bp bi bs sb ib pb nN cap gS oS cS cT cC:Nat} {aC:Option Addr} {F:XV (Nat→List Ym)} {inj:∀ a b,a < nc→b < nc→A a=A b→a=b} {hgt:gt < w0.heap.size} {hA:∀ i,i < nc→A i < w0.heap.size∧gt≠A i}
def X4.d (nN f:Nat) (c:X4):Xm Ym:=YZ nN f c.o c.v
variable {Post:Value→World→Prop} {tb rb:Nat} {cb:Frame} {f:Nat}
theorem XeY {u4:Value} (H:XbM w0 Kp gt n A nc j L bp bi bs sb ib pb nN cap gS oS cS cT cC aC):∀ (p k:Nat),k + p=L.length→∀ (m:Nat) (C:Ctx) (x0 x:World) (col:Nat→Prop) (sh:Nat→List Ym) (cells:Nat→Int) (u6 u7 u8 u9 B0 B1 B2 B3 B4 B5 B6 B7 B8 B9 D0 D1 D2 D3 D4 D5 D6 D7 D8 D9 E0 E1 E2 E3 E4 E5 E6 E7 E8 E9 G0 G1 G2 G3:Value),TSt Post (Yw XS F w0 Kp gt n A nc inj hgt hA) j tb rb cb m C x0 x col none_ sh cells (Yp j ((L.drop k).map (X4.d nN f)))→(sh j).length=k →
 JG Try.prog Post C (G ((base 34).at ⟨#[P0 tb,P0 bp,P0 bi,P0 bs,u4,.int .i64 k,u6,u7,u8,u9,B0,B1,B2,B3,B4,B5,B6,B7,B8,B9,D0,D1,D2,D3,D4,D5,D6,D7,D8,D9,E0,E1,E2,E3,E4,E5,E6,E7,E8,E9,G0,G1,G2,G3],[]⟩ [.code (Code.nav (Try.f34.body.getD .skip) [1,0,0]),.inLoop (Code.nav (Try.f34.body.getD .skip) [1,0,0]),.inBlock 0]) [cb,YX Try.prog]) x:=by
 intro p
 induction p with
 | zero =>
  intro k hkp m C x0 x col sh cells u6 u7 u8 u9 B0 B1 B2 B3 B4 B5 B6 B7 B8 B9 D0 D1 D2 D3 D4 D5 D6 D7 D8 D9 E0 E1 E2 E3 E4 E5 E6 E7 E8 E9 G0 G1 G2 G3 hB hl;have hkl:k=L.length:=by omega
  obtain ⟨hv,hs⟩:=H.sees hB.I.2;have y1:=hs.c1;have y2:=hs.c2;have y5:=hs.c5;have hj':(j:Int) < n:=by have:=H.jn;omega
  have hR:=hB.reach;rw [List.drop_eq_nil_of_le (by omega)] at hR;have hE:=Reach.end0 (v0:=()) hR hB.size hB.old (by have:=hB.I;rw [VN] at this;exact this) hB.keep;replace hE:=HD hE;clear hR hB hs H;simp only [Try.f34,Option.getD_some,Code.nav];have hx:decide ((k:Int) < L.length)=false:=by simp;omega
  have hxN:decide (k < L.length)=false:=by simp;omega
  repeat refine kx ?_
  refine JG.exit (by rfl) ?_
  repeat refine kx ?_
  first|refine JG.fin ?_|refine JG.done (JG.fin ?_)
  exact JG.leave0 rfl rfl Try.func34 (by rfl) (hE.out _)
 | succ p ih =>
  intro k hkp m C x0 x col sh cells u6 u7 u8 u9 B0 B1 B2 B3 B4 B5 B6 B7 B8 B9 D0 D1 D2 D3 D4 D5 D6 D7 D8 D9 E0 E1 E2 E3 E4 E5 E6 E7 E8 E9 G0 G1 G2 G3 hB hl;have hkl:k < L.length:=by omega
  obtain ⟨c,hc⟩:∃ c,L[k]? = some c:=⟨_,List.getElem?_eq_getElem hkl⟩
  obtain ⟨hv,hs⟩:=H.sees hB.I.2;have y1:=hs.c1;have y2:=hs.c2;have y5:=hs.c5;have hj':(j:Int) < n:=by have:=H.jn;omega
  have hk6:k < 1000000:=by have:=H.len;omega
  have hd:L.drop k=c::L.drop (k + 1):=by
   rw [List.drop_eq_getElem_cons hkl]
   congr 1
   exact OI ((List.getElem?_eq_getElem hkl).symm.trans hc)
  rw [hd,List.map_cons] at hB;have hA1:=@Xcq w0 Kp gt n A nc j L bp bi bs sb ib pb nN cap gS oS cS cT cC aC F inj hgt hA Post tb rb cb m k C x0 x col sh cells ((L.drop (k + 1)).map (X4.d nN f)) c;have hB1:=@Xcp w0 Kp gt n A nc j L bp bi bs sb ib pb nN cap gS oS cS cT cC aC F inj hgt hA Post tb rb cb k;simp only [Try.f34,Option.getD_some,Code.nav] at hA1 hB1;have HB:=HD hB;have IH:=HD ih;have HH:=HD H;replace hl:=HD hl;clear hs hB ih hd H;simp only [Try.f34,Option.getD_some,Code.nav];have hx:decide ((k:Int) < L.length)=true:=by simp;omega
  have hxN:decide (k < L.length)=true:=by simp;omega
  repeat refine kx ?_
  refine hA1 HH.out hc HB.out hl.out (fun C' y a q v7 v8 v9 v10 v11 v12 v13 v14 v15 v16 v17 v18 v19 v20 v21 v22 v23 v24 v25 v26 v27 v28 v29 v30 v31 v32 v33 v34 v35 v36 v37 v38 v39 v40 v41 v42 v43 hbx hBe=>?_);refine hB1 HH.out hk6 hbx hBe (fun m' C' x0' y col' sh' cells' v28 v29 v30 v31 v32 v33 v34 v35 v36 v37 v38 v39 v40 v41 v42 v43 hB' hl'=>?_);have IH':=IH.out (k + 1) (by omega) m' C' x0' y col' sh' cells';simp only [Try.f34,Option.getD_some,Code.nav] at IH';replace IH':=HD IH';have hw:IntKind.i64.wrap ((k:Int) + 1)=((k + 1:Nat):Int):=by
   have:=HH.out.len
   rw [IntKind.wrap_i64];omega
  repeat refine kx ?_
  refine JG.inLoop ?_;rw [show ((k:Int) + 1)=((k + 1:Nat):Int) from rfl];exact IH'.out _ _ _ _ _ _ _ _ _ _ _ _ _ _ _ _ _ _ _ _ _ _ _ _ _ _ _ _ _ _ _ _ _ _ _ _ _ _ hB' hl'
theorem XeZ (H:XbM w0 Kp gt n A nc j L bp bi bs sb ib pb nN cap gS oS cS cT cC aC) (m f:Nat):Vu Post (Yw XS F w0 Kp gt n A nc inj hgt hA) j m 34 #[P0 bp,P0 bi,P0 bs] (Qa j (L.map (X4.d nN f))):=by
 refine ⟨⟨_,Try.func34,by kernel_rfl,by kernel_rfl⟩,fun C x col sh cells tb rb cbf hd hL hct hcb hI R=>?_⟩
 by_cases he:sh j = []
 ·rw [Vq he] at R
  have hB:TSt Post (Yw XS F w0 Kp gt n A nc inj hgt hA) j tb rb cbf m C x x col none_ sh cells (Yp j ((L.drop 0).map (X4.d nN f))):=⟨hd,hL,hct,hcb,fun r h=>h.elim,by rw [VN];exact hI,Nat.le_refl _,fun _ _=>rfl,fun _ _ _ _=>rfl,fun i a h=>((Yw XS F w0 Kp gt n A nc inj hgt hA).keepI hI i a h).1,R⟩
  have HL:=HD (fun u4 u6 u7 u8 u9 B0 B1 B2 B3 B4 B5 B6 B7 B8 B9 D0 D1 D2 D3 D4 D5 D6 D7 D8 D9 E0 E1 E2 E3 E4 E5 E6 E7 E8 E9 G0 G1 G2 G3=>XeY (u4:=u4) H L.length 0 (by omega) m C x x col sh cells u6 u7 u8 u9 B0 B1 B2 B3 B4 B5 B6 B7 B8 B9 D0 D1 D2 D3 D4 D5 D6 D7 D8 D9 E0 E1 E2 E3 E4 E5 E6 E7 E8 E9 G0 G1 G2 G3 hB (by rw [he];rfl));clear R hB hI;refine Xu Try.func34 (by rfl) (by rfl) ?_;simp only [Try.f34,Option.getD_some];walk_nrm
  repeat refine kx ?_
  refine JG.loop ?_;have HL':=HL.out;simp only [Try.f34,Option.getD_some,Code.nav] at HL';exact HL' _ _ _ _ _ _ _ _ _ _ _ _ _ _ _ _ _ _ _ _ _ _ _ _ _ _ _ _ _ _ _ _ _ _ _ _ _ _ _
 ·rw [XcX he] at R
  exact (R x none_ (Nat.le_refl _) (fun _ _=>rfl) (fun _ h=>h.elim) (by rw [VN];exact hI) (fun _ _ _ _=>rfl)).elim

/- The document's Walker: a thread's next entry; where it is left. Conditions: what the walk's blocks hold. -/
import Derived.Test.YtdhnggjmegilkaaSWkB
import Derived.Test.YtdhnggjmegilkaaSQu
import Derived.Deep.RegionHeld3
import Derived.Test.YtdhnggjmegilkaaSPlB
set_option linter.all false
set_option maxRecDepth 100000
set_option maxHeartbeats 16000000
namespace Go.Proofs.Ytdhnggjmegilkaa
open Go.RowKit
set_option maxRecDepth 100000
abbrev Nm:=Int × Int
def nmV (p:Nm):Value:=.agg #[.int .i64 p.1,.int .i64 p.2]
def nmL (p:Nm):List Value:=[.int .i64 p.1,.int .i64 p.2]
def Y2 (hs:List (Nm × Int)) (n:Nm):Int:=match hs.find? fun h=>h.1 == n with|some h=>h.2|none=>0
structure Wk where
 wb:Nat
 B:Nat
 M:Nat
 e:Int
 n:Nat
 vW:Value
 vR:Value
 vF:Value
 aL:Option Addr
 cL:Nat
 al:Option Addr
 cl:Nat
 L:List Xo
 left:List Xo
 names:List Nat
 nm:Nat→Nm
 cells:Nat→Int
 vN:Value
 vG:Value
 v1:Value
 vH:Value
 vS:Value
 hs:List (Nm × Int)
def Wk.named (K:Wk) (gv:List Bool) (i:Nat):Nm:=if gv.getD i false then K.nm (K.names.getD i 0) else (0,0)
def Wk.nmsV (K:Wk) (gv:List Bool):List Value:=(List.range K.names.length).flatMap fun i=>nmL (K.named gv i)
theorem Xfp (f:Nat→Nm):∀ (n i:Nat),i < n→((List.range n).flatMap fun i=>nmL (f i))[i * 2]? = some (.int .i64 (f i).1)∧((List.range n).flatMap fun i=>nmL (f i))[i * 2 + 1]? = some (.int .i64 (f i).2)
 | 0,i,h=>by omega
 | n + 1,i,h=>by
  have hl:((List.range n).flatMap fun i=>nmL (f i)).length=n * 2:=by
   rw [List.length_flatMap];simp [nmL,List.map_const',Nat.mul_comm]
  rw [List.range_succ,List.flatMap_append]
  by_cases e:i=n
  ·subst e
   rw [List.getElem?_append_right (by omega),List.getElem?_append_right (by omega),hl];simp [nmL]
  ·have:=Xfp f n i (by omega)
   rw [List.getElem?_append_left (by omega),List.getElem?_append_left (by omega)];exact this
theorem XcZ (f g:Nat→Nm) (n m:Nat) (p:Nm) (hg:g m=p) (hfg:∀ i,i≠m→g i=f i):(((List.range n).flatMap fun i=>nmL (f i)).set (m * 2) (.int .i64 p.1)).set (m * 2 + 1) (.int .i64 p.2)=(List.range n).flatMap fun i=>nmL (g i):=by
 induction n with
 | zero=>simp
 | succ n ih =>
  have hl:((List.range n).flatMap fun i=>nmL (f i)).length=n * 2:=by
   rw [List.length_flatMap];simp [nmL,List.map_const',Nat.mul_comm]
  rw [List.range_succ,List.flatMap_append,List.flatMap_append]
  by_cases e:m < n
  ·rw [List.set_append_left _ _ (by omega),List.set_append_left _ _ (by rw [List.length_set];omega),ih]
   congr 1
   simp [hfg n (by omega)]
  ·rw [List.set_append_right _ _ (by omega),List.set_append_right _ _ (by omega),hl]
   have h1:((List.range n).flatMap fun i=>nmL (f i))=(List.range n).flatMap fun i=>nmL (g i):=by
    simp only [List.flatMap]
    congr 1
    apply List.map_congr_left;intro i hi;rw [hfg i (by have:=List.mem_range.1 hi;omega)]
   rw [h1]
   congr 1
   by_cases e2:m=n
   ·subst e2
    simp [nmL,hg]
   ·obtain ⟨d,hd⟩:∃ d,m=n + (d + 1):=⟨m - n - 1,by omega⟩
    subst hd;have e3:(n + (d + 1)) * 2 - n * 2=2 * d + 2:=by omega
    have e4:(n + (d + 1)) * 2 + 1 - n * 2=2 * d + 3:=by omega
    rw [e3,e4];simp [nmL,hfg n (by omega)]
def UZ (e:Int) (n:Nat) (vL vW vR vl vF:Value) (bad:Bool) (vN vG v1 vH vS:Value):Array Value:=#[.int .i8 e,.int .i64 n,vL,vW,vR,vl,vF,.bool bad,vN,vG,v1,vH,vS]
def Wk.obj (K:Wk):Array Value:=UZ K.e K.n (.slice K.aL K.L.length K.cL) K.vW K.vR (.slice K.al K.left.length K.cl) K.vF false K.vN K.vG K.v1 K.vH K.vS
structure WAt (K:Wk) (gv:List Bool) (w:World):Prop where
 blk:Blk w K.wb 61 K.obj
 log:XW w K.B K.aL K.L
 lef:XW w K.B K.al K.left
 nms:w.ownsRow K.M 51 2 K.vN K.names.length (K.nmsV gv)
 gvn:w.ownsRow K.M 4 1 K.vG K.names.length (gv.map fun b=>.bool b)
 fst:w.ownsRow K.M 2 1 K.v1 K.names.length ((K.names.map K.cells).map fun x=>.int .i64 x)
 hav:w.ownsRow K.M 51 2 K.vH K.hs.length ((List.range K.hs.length).flatMap fun i=>nmL (K.hs.getD i ((0,0),0)).1)
 hol:w.ownsRow K.M 2 1 K.vS K.hs.length (K.hs.map fun h=>.int .i64 h.2)
 len:gv.length=K.names.length
structure Wk.OK (K:Wk) (nc:Nat):Prop where
 inj:∀ a b,a < nc→b < nc→K.nm a=K.nm b→a=b
 lt:∀ c,c∈K.names→c < nc
 nodup:K.names.Nodup
 beg:∀ c,c < nc→Y2 K.hs (K.nm c)=K.cells c
 low:K.B≤K.M
 lowb:K.B≤K.wb
 apart:∀ b,K.vN.ownBlock=some b→K.vH.ownBlock≠some b
 small:K.names.length≤100000∧K.hs.length≤100000
theorem WAt.frame {K:Wk} {gv:List Bool} {w w':World} (h:WAt K gv w) (hw:∀ q,(q < K.B∨q=K.wb∨some q=K.vN.ownBlock∨some q=K.vG.ownBlock∨some q=K.v1.ownBlock∨some q=K.vH.ownBlock∨some q=K.vS.ownBlock)→w'.heap[q]? = w.heap[q]?):WAt K gv w' :=
 ⟨(hw _ (.inr (.inl rfl))).trans h.blk,h.log.of fun q hq=>hw q (.inl hq),h.lef.of fun q hq=>hw q (.inl hq),
  Xj h.nms fun b hb=>hw b (.inr (.inr (.inl hb.symm))),Xj h.gvn fun b hb=>hw b (.inr (.inr (.inr (.inl hb.symm)))),Xj h.fst fun b hb=>hw b (.inr (.inr (.inr (.inr (.inl hb.symm))))),
  Xj h.hav fun b hb=>hw b (.inr (.inr (.inr (.inr (.inr (.inl hb.symm)))))),Xj h.hol fun b hb=>hw b (.inr (.inr (.inr (.inr (.inr (.inr hb.symm)))))),h.len⟩
theorem WAt.lt {K:Wk} {gv:List Bool} {w:World} (h:WAt K gv w) (hB:K.B≤w.heap.size) {q:Nat} (hq:q < K.B∨q=K.wb∨some q=K.vN.ownBlock∨some q=K.vG.ownBlock∨some q=K.v1.ownBlock∨some q=K.vH.ownBlock∨some q=K.vS.ownBlock):q < w.heap.size:=by
 rcases hq with e|e|e|e|e|e|e
 ·omega
 ·rw [e];exact Blk.lt h.blk
 ·exact own_lt h.nms e.symm
 ·exact own_lt h.gvn e.symm
 ·exact own_lt h.fst e.symm
 ·exact own_lt h.hav e.symm
 ·exact own_lt h.hol e.symm
theorem WAt.kept {K:Wk} {gv:List Bool} {w w':World} {S:Nat→Prop} (h:WAt K gv w) (hB:K.B≤w.heap.size) (hk:Kept S w w') (hS:∀ q,S q→¬ (q < K.B∨q=K.wb∨some q=K.vN.ownBlock∨some q=K.vG.ownBlock∨some q=K.v1.ownBlock∨some q=K.vH.ownBlock∨some q=K.vS.ownBlock)):WAt K gv w' :=
 h.frame fun q hq=>hk.block q (h.lt hB hq) fun e=>hS q e hq
theorem Ys {w:World} {N:Nat} {e:TypeId} {size:Nat} {v:Value} {n:Nat} {xs:List Value} (h:w.ownsRow N e size v n xs) (hn:n≠0):∃ g cap,v=.slice (some ⟨g,0,none⟩) n cap∧N≤g∧g < w.heap.size∧(∀ j,w.frozen? ⟨g,j,none⟩=false)∧∀ i u,xs[i]? = some u→w.cell? ⟨g,i,none⟩=some u:=by
 rcases h.2 with ⟨_,h0⟩|⟨g,cap,cur,rfl,hb,hg,_,_,_,ht⟩
 ·exact absurd h0 hn
 ·refine ⟨g,cap,rfl,hb,(Array.getElem?_eq_some_iff.1 hg).1,fun j=>Blk.frozen (w:=w) hg j,fun i u hu=>?_⟩
  rw [Blk.cell (w:=w) hg,← Array.getElem?_toList];rw [← ht,List.getElem?_take] at hu
  split at hu
  ·exact hu
  ·cases hu
def XgO (hs:List (Nm × Int)) (n:Nm) (pb:Nat) (w:World) (i:Value) (wr:World):Prop :=
 ∃ k:Nat,k≤hs.length∧i=.int .i64 k∧Kept (fun _=>False) w wr∧Blk wr pb 51 #[.int .i64 n.1,.int .i64 n.2]∧∀ j h,j < k→hs[j]? = some h→h.1≠n
theorem Vs {K:Wk} {gv:List Bool} {w:World} (hW:WAt K gv w) (hsm:K.hs.length≤100000) (n:Nm) :
 Calls Try.prog 158 #[.pointer (some ⟨K.wb,0,none⟩),nmV n] w (fun e w'=>e=.returned (.int .i64 (Y2 K.hs n))∧Kept (fun _=>False) w w'):=by
 obtain ⟨n1,n2⟩:=n;unfold nmV;obtain ⟨aH,cH,eH⟩:=Xq hW.hav;obtain ⟨aS,cS,eS⟩:=Xq hW.hol;have hb:=hW.blk;have c11:w.cell? ⟨K.wb,11,none⟩=some (.slice aH K.hs.length cH):=(Blk.cell hb 11).trans (congrArg some eH);have c12:w.cell? ⟨K.wb,12,none⟩=some (.slice aS K.hs.length cS):=(Blk.cell hb 12).trans (congrArg some eS);have hwb:=Blk.lt hb;have hH:=hW.hav;have hS:=hW.hol;rw [eH] at hH;rw [eS] at hS;replace hH:=Lib.hid hH;replace hS:=Lib.hid hS;clear hb eH eS hW;generalize K.hs=hs at *;generalize K.wb=wb at *;generalize K.M=M at *
 go_enter Try.func158,Try.ntmps158
 go_upto_region 1 with (fail)
 have hp:Blk (w.alloc (.cells #[.int .i64 n1,.int .i64 n2] 51)) w.heap.size 51 #[.int .i64 n1,.int .i64 n2]:=Blk.new w _ _;have hk:=(Kept.refl (fun _=>False) w).alloc (.cells #[.int .i64 n1,.int .i64 n2] 51);generalize w.alloc (.cells #[.int .i64 n1,.int .i64 n2] 51)=w1 at hp hk ⊢;generalize hpb:w.heap.size=pb at hp ⊢
 go_upto_region 2 with (fail)
 go_loopw [5] (fun i wr=>XgO hs (n1,n2) pb w i wr) (fun i _=>hs.length - (intOf i).toNat)
 case atStart=>exact ⟨0,Nat.zero_le _,rfl,hk,hp,fun j h hj=>by omega⟩
 case round =>
  clear hp hk;obtain ⟨k,hk,rfl,hkp,hp,hpre⟩:=hrel;have d11:wr.cell? ⟨wb,11,none⟩=some (.slice aH hs.length cH):=(hkp.cell (p:=⟨wb,11,none⟩) hwb id).trans c11;have d12:wr.cell? ⟨wb,12,none⟩=some (.slice aS hs.length cS):=(hkp.cell (p:=⟨wb,12,none⟩) hwb id).trans c12;have hwbr:wb < wr.heap.size:=by have:=hkp.size;omega
  have p0:wr.cell? ⟨pb,0,none⟩=some (.int .i64 n1):=Blk.cell hp 0;have p1:wr.cell? ⟨pb,1,none⟩=some (.int .i64 n2):=Blk.cell hp 1;have hpl:=Blk.lt hp;have hHr:=Xj (w':=wr) hH.out fun b h=>hkp.block b (own_lt hH.out h) id;have hSr:=Xj (w':=wr) hS.out fun b h=>hkp.block b (own_lt hS.out h) id;replace hkp:=Lib.hid hkp;replace hp:=Lib.hid hp;replace hpre:=Lib.hid hpre
  by_cases hkn:k < hs.length
  ·obtain ⟨⟨⟨m1,m2⟩,v⟩,hh⟩:∃ h,hs[k]? = some h:=⟨_,List.getElem?_eq_getElem hkn⟩
   obtain ⟨gH,cH',eH,_,hgl,_,hgc⟩:=Ys hHr (by omega);injection eH with eH1 _ eH3
   subst eH1 eH3;obtain ⟨gS,cS',eS,_,hsl,_,hsc⟩:=Ys hSr (by omega);injection eS with eS1 _ eS3
   subst eS1 eS3;obtain ⟨f1,f2⟩:=Xfp (fun i=>(hs.getD i ((0,0),0)).1) hs.length k hkn;have hgd:hs.getD k ((0,0),0)=((m1,m2),v):=by rw [List.getD_eq_getElem?_getD,hh];rfl
   rw [hgd] at f1 f2;have q0:wr.cell? ⟨gH,k * 2,none⟩=some (.int .i64 m1):=hgc _ _ f1;have q1:wr.cell? ⟨gH,k * 2 + 1,none⟩=some (.int .i64 m2):=hgc _ _ f2;have q2:wr.cell? ⟨gS,k,none⟩=some (.int .i64 v):=hsc _ _ (by rw [List.getElem?_map,hh];rfl);have x0:decide (k < hs.length)=true:=by simpa using hkn
   have x1:decide ((k:Int) < hs.length)=true:=by simp;omega
   have x2:(k:Int) < hs.length:=by omega
   have x3:(0:Int)≤k:=by omega
   have hw0:IntKind.i64.wrap ((k:Int) + 1)=((k + 1:Nat):Int):=by rw [IntKind.wrap_i64];omega
   clear f1 f2 hgd hgc hsc hHr hSr;replace hh:=Lib.hid hh
   by_cases e1:m1=n1
   ·subst e1
    by_cases e2:m2=n2
    ·subst e2
     go_upto_region 4 with (fail)
     go_region
     go_wp2_with fail
     go_ret;refine ⟨?_,hkp.out.drew⟩;have hf:hs.find? (fun h=>h.1 == (m1,m2))=some ((m1,m2),v):=by
      rw [List.find?_eq_some_iff_getElem];refine ⟨by simp,k,hkn,?_,fun j hj=>?_⟩
      ·exact (List.getElem?_eq_some_iff.1 hh.out).2
      ·have:=hpre.out j _ hj (List.getElem?_eq_getElem (by omega))
       simpa using this
     unfold Y2;rw [hf];rfl
    ·have y:(m2 == n2)=false:=by simpa using e2
     have y2:decide (m2=n2)=false:=by simpa using e2
     replace e2:=Lib.hid e2
     go_upto_region 4 with (fail)
     go_region
     go_wp2_with fail
     refine ⟨⟨k + 1,by omega,by first|rfl|simp,hkp.out.drew,hp.out,fun j h hj hx=>?_⟩,by simp [intOf];omega⟩
     by_cases z:j=k
     ·subst z
      rw [hh.out] at hx;obtain rfl:=Option.some.inj hx;exact fun z=>e2.out (congrArg Prod.snd z)
     ·exact hpre.out j h (by omega) hx
   ·have y:(m1 == n1)=false:=by simpa using e1
    have y2:decide (m1=n1)=false:=by simpa using e1
    replace e1:=Lib.hid e1
    go_upto_region 4 with (fail)
    go_region
    go_wp2_with fail
    refine ⟨⟨k + 1,by omega,by first|rfl|simp,hkp.out.drew,hp.out,fun j h hj hx=>?_⟩,by simp [intOf];omega⟩
    by_cases z:j=k
    ·subst z
     rw [hh.out] at hx;obtain rfl:=Option.some.inj hx;exact fun z=>e1.out (congrArg Prod.fst z)
    ·exact hpre.out j h (by omega) hx
  ·obtain rfl:k=hs.length:=by omega
   have x0:decide (hs.length < hs.length)=false:=by simp
   have x1:decide ((hs.length:Int) < hs.length)=false:=by simp
   go_wp2_with fail
   go_ret;refine ⟨?_,hkp.out⟩;have hf:hs.find? (fun h=>h.1 == (n1,n2))=none:=by
    rw [List.find?_eq_none];intro h hm;obtain ⟨j,hj⟩:=List.getElem?_of_mem hm;simpa using hpre.out j h (List.getElem?_eq_some_iff.1 hj).1 hj
   unfold Y2;rw [hf];rfl
def Wk.turns (K:Wk) (q:Nat):Prop:=some q=K.vN.ownBlock∨some q=K.vG.ownBlock
theorem Zq {w:World} {N:Nat} {e:TypeId} {size:Nat} {v:Value} {n:Nat} {xs:List Value} {b:Nat} (h:w.ownsRow N e size v n xs) (hv:v.ownBlock=some b):∃ cs,Blk w b e cs:=by
 rcases h.2 with ⟨rfl,_⟩|⟨g,cap,cur,rfl,_,hg,_⟩
 ·simp [Value.ownBlock] at hv
 ·obtain rfl:g=b:=by simpa [Value.ownBlock] using hv
  exact ⟨cur,hg⟩
def XgJ (K:Wk) (n1 n2:Int) (pb:Nat) (w:World) (i:Value) (wr:World):Prop :=
 ∃ k:Nat,k≤K.names.length∧i=.int .i64 k∧Kept (fun _=>False) w wr∧Blk wr pb 51 #[.int .i64 n1,.int .i64 n2]
theorem Wk.OK.named_ne {K:Wk} {nc:Nat} (hK:K.OK nc) {gv:List Bool} {m i:Nat} (hm:m < K.names.length) (hi:i < K.names.length) (hg:gv.getD m false=false) (hgi:gv.getD i false=true):K.named gv i≠K.nm (K.names.getD m 0):=by
 unfold Wk.named;rw [if_pos hgi];intro e;have h1:K.names.getD i 0=K.names[i]:=by rw [List.getD_eq_getElem?_getD,List.getElem?_eq_getElem hi];rfl
 have h2:K.names.getD m 0=K.names[m]:=by rw [List.getD_eq_getElem?_getD,List.getElem?_eq_getElem hm];rfl
 rw [h1,h2] at e
 have:=hK.inj _ _ (hK.lt _ (List.getElem_mem hi)) (hK.lt _ (List.getElem_mem hm)) e
 have a1:=hK.nodup.idxOf_getElem i hi;have a2:=hK.nodup.idxOf_getElem m hm;rw [this] at a1;obtain rfl:i=m:=a1.symm.trans a2;rw [hg] at hgi;cases hgi
theorem WAt.cells {K:Wk} {gv:List Bool} {w:World} (h:WAt K gv w) (hn:K.names.length≠0):∃ gN cN gG cG g1 c1,K.vN=.slice (some ⟨gN,0,none⟩) K.names.length cN∧K.vG=.slice (some ⟨gG,0,none⟩) K.names.length cG∧K.v1=.slice (some ⟨g1,0,none⟩) K.names.length c1:=by
 obtain ⟨gN,cN,e1,_⟩:=Ys h.nms hn;obtain ⟨gG,cG,e2,_⟩:=Ys h.gvn hn;obtain ⟨g1,c1,e3,_⟩:=Ys h.fst hn;exact ⟨gN,cN,gG,cG,g1,c1,e1,e2,e3⟩
structure XgK (K:Wk) (gv:List Bool) (gN cN gG cG g1 c1:Nat) (w:World):Prop where
 c8:w.cell? ⟨K.wb,8,none⟩=some (.slice (some ⟨gN,0,none⟩) K.names.length cN)
 c9:w.cell? ⟨K.wb,9,none⟩=some (.slice (some ⟨gG,0,none⟩) K.names.length cG)
 c10:w.cell? ⟨K.wb,10,none⟩=some (.slice (some ⟨g1,0,none⟩) K.names.length c1)
 wb:K.wb < w.heap.size
 lN:gN < w.heap.size∧∀ j,w.frozen? ⟨gN,j,none⟩=false
 lG:gG < w.heap.size∧∀ j,w.frozen? ⟨gG,j,none⟩=false
 l1:g1 < w.heap.size
 nms:∀ i,i < K.names.length→w.cell? ⟨gN,i * 2,none⟩=some (.int .i64 (K.named gv i).1)∧w.cell? ⟨gN,i * 2 + 1,none⟩=some (.int .i64 (K.named gv i).2)
 gvn:∀ i,i < K.names.length→w.cell? ⟨gG,i,none⟩=some (.bool (gv.getD i false))
 fst:∀ i c,K.names[i]? = some c→w.cell? ⟨g1,i,none⟩=some (.int .i64 (K.cells c))
theorem WAt.isAt {K:Wk} {gv:List Bool} {w:World} (h:WAt K gv w) (hn:K.names.length≠0) {gN cN gG cG g1 c1:Nat} (e1:K.vN=.slice (some ⟨gN,0,none⟩) K.names.length cN) (e2:K.vG=.slice (some ⟨gG,0,none⟩) K.names.length cG) (e3:K.v1=.slice (some ⟨g1,0,none⟩) K.names.length c1):XgK K gv gN cN gG cG g1 c1 w:=by
 obtain ⟨g,c,q,_,a1,a2,a3⟩:=Ys h.nms hn;rw [e1] at q;injection q with q1 _ q2
 injection q1 with q1
 injection q1 with q1
 subst q1 q2;obtain ⟨g,c,q,_,b1,b2,b3⟩:=Ys h.gvn hn;rw [e2] at q;injection q with q1 _ q2
 injection q1 with q1
 injection q1 with q1
 subst q1 q2;obtain ⟨g,c,q,_,d1,_,d3⟩:=Ys h.fst hn;rw [e3] at q;injection q with q1 _ q2
 injection q1 with q1
 injection q1 with q1
 subst q1 q2;refine ⟨(Blk.cell h.blk 8).trans (congrArg some e1),(Blk.cell h.blk 9).trans (congrArg some e2),(Blk.cell h.blk 10).trans (congrArg some e3),Blk.lt h.blk,⟨a1,a2⟩,⟨b1,b2⟩,d1,fun i hi=>?_,fun i hi=>?_,fun i c hc=>?_⟩
 ·obtain ⟨f1,f2⟩:=Xfp (K.named gv) K.names.length i hi
  exact ⟨a3 _ _ f1,a3 _ _ f2⟩
 ·refine b3 _ _ ?_
  rw [List.getElem?_map,List.getD_eq_getElem?_getD,List.getElem?_eq_getElem (by rw [h.len];exact hi)];rfl
 ·exact d3 _ _ (by rw [List.getElem?_map,List.getElem?_map,hc];rfl)
theorem XcQ {K:Wk} {nc:Nat} (hK:K.OK nc) {gv:List Bool} {w:World} (hW:WAt K gv w) (hB:K.B≤w.heap.size) {m c:Nat} (hc:K.names[m]? = some c) (hg:gv.getD m false=false) :
 Calls Try.prog 156 #[.pointer (some ⟨K.wb,0,none⟩),.int .i64 m,nmV (K.nm c)] w (fun e w'=>e=.returned (.bool true)∧WAt K (gv.set m true) w'∧Kept K.turns w w'):=by
 have hm:m < K.names.length:=(List.getElem?_eq_some_iff.1 hc).1;have hn:K.names.length≠0:=by omega
 have hcd:K.names.getD m 0=c:=by rw [List.getD_eq_getElem?_getD,hc];rfl
 have hne:=fun i hi=>hK.named_ne (gv:=gv) hm (i:=i) hi hg;have hbeg:=hK.beg c (hK.lt c (List.mem_of_getElem? hc));rw [hcd] at hne;obtain ⟨n1,n2,hnm⟩:∃ n1 n2,K.nm c=(n1,n2):=⟨_,_,rfl⟩
 have hsm:=hK.small;have hnl:K.names.length≤100000:=hsm.1;obtain ⟨gN,cN,gG,cG,g1,c1,e1,e2,e3⟩:=hW.cells hn;have hIs:∀ z,Kept (fun _=>False) w z→XgK K gv gN cN gG cG g1 c1 z:=fun z hz=>(hW.kept hB hz (fun _ h=>h.elim)).isAt hn e1 e2 e3;have HW:=Lib.hid hW;have HK:=Lib.hid hK;rw [hnm] at hne;replace hne:=Lib.hid hne;replace hbeg:=Lib.hid hbeg;replace hIs:=Lib.hid hIs;rw [hnm];replace hnm:=Lib.hid hnm;replace e1:=Lib.hid e1;replace e2:=Lib.hid e2;replace e3:=Lib.hid e3;replace hg:=Lib.hid hg;replace hcd:=Lib.hid hcd;clear hW hK;unfold nmV
 go_enter Try.func156,Try.ntmps156
 go_upto_region 1 with (fail)
 have hp:Blk (w.alloc (.cells #[.int .i64 n1,.int .i64 n2] 51)) w.heap.size 51 #[.int .i64 n1,.int .i64 n2]:=Blk.new w _ _;have hk:=(Kept.refl (fun _=>False) w).alloc (.cells #[.int .i64 n1,.int .i64 n2] 51);generalize w.alloc (.cells #[.int .i64 n1,.int .i64 n2] 51)=w1 at hp hk ⊢;generalize hpb:w.heap.size=pb at hp ⊢;replace hpb:=Lib.hid hpb;obtain ⟨c8,c9,c10,hwb,_,hgG,_,_,hgv,_⟩:=hIs.out w1 hk;have hgvm:=hgv m hm;rw [hg.out] at hgvm;have hgGl:=hgG.1;have x0:decide ((m:Int) < 0)=false:=by simp
 have x1:decide ((K.names.length:Int)≤m)=false:=by simp;omega
 have x1':decide (K.names.length≤m)=false:=by simp;omega
 have x2:(m:Int) < K.names.length:=by omega
 have x3:(0:Int)≤m:=by omega
 clear hgv hgG
 go_upto_region 6 with (fail)
 clear c8 c9 c10 hwb hgvm hgGl
 go_loopw [7] (fun i wr=>XgJ K n1 n2 pb w i wr) (fun i _=>K.names.length - (intOf i).toNat)
 case atStart=>exact ⟨0,Nat.zero_le _,rfl,hk,hp⟩
 case round =>
  clear hp hk;obtain ⟨k,hk,rfl,hkp,hp⟩:=hrel;obtain ⟨c8,c9,c10,hwb,hgN,hgG,hg1l,hnms,hgv,hfst⟩:=hIs.out wr hkp;have hgNl:=hgN.1;have hgGl:=hgG.1;have p0:wr.cell? ⟨pb,0,none⟩=some (.int .i64 n1):=Blk.cell hp 0;have p1:wr.cell? ⟨pb,1,none⟩=some (.int .i64 n2):=Blk.cell hp 1;have hpl:=Blk.lt hp
  by_cases hkn:k < K.names.length
  ·have y0:decide (k < K.names.length)=true:=by simpa using hkn
   have y1:decide ((k:Int) < K.names.length)=true:=by simp;omega
   have y2:(k:Int) < K.names.length:=by omega
   have y3:(0:Int)≤k:=by omega
   have hw0:IntKind.i64.wrap ((k:Int) + 1)=((k + 1:Nat):Int):=by rw [IntKind.wrap_i64];omega
   have z0:=hgv k hkn;obtain ⟨z1,z2⟩:=hnms k hkn;have hnek:=hne.out k hkn;replace hkp:=Lib.hid hkp;replace hp:=Lib.hid hp;clear hgv hnms hfst hgN hgG
   by_cases hgk:gv.getD k false=true
   ·rw [hgk] at z0
    have hq:=hnek hgk;obtain ⟨m1,m2,hmm⟩:∃ m1 m2,K.named gv k=(m1,m2):=⟨_,_,rfl⟩
    rw [hmm] at z1 z2 hq;simp only at z1 z2;clear hnek hmm hgk
    by_cases q1:m1=n1
    ·have q2:¬ m2=n2:=fun q2=>hq (by rw [q1,q2])
     subst q1;have u:(m2 == n2)=false:=by simpa using q2
     have u2:decide (m2=n2)=false:=by simpa using q2
     clear q2 hq
     go_upto_region 8 with (fail)
     go_region
     go_wp2_with fail
     exact ⟨⟨k + 1,by omega,by first|rfl|simp,hkp.out.drew,hp.out⟩,by simp [intOf];omega⟩
    ·have u:(m1 == n1)=false:=by simpa using q1
     have u2:decide (m1=n1)=false:=by simpa using q1
     clear q1 hq
     go_upto_region 8 with (fail)
     go_region
     go_wp2_with fail
     exact ⟨⟨k + 1,by omega,by first|rfl|simp,hkp.out.drew,hp.out⟩,by simp [intOf];omega⟩
   ·replace hgk:gv.getD k false=false:=by simpa using hgk
    rw [hgk] at z0;clear hnek hgk
    go_upto_region 8 with (fail)
    go_region
    go_wp2_with fail
    exact ⟨⟨k + 1,by omega,by first|rfl|simp,hkp.out.drew,hp.out⟩,by simp [intOf];omega⟩
  ·obtain rfl:k=K.names.length:=by omega
   have y0:decide (K.names.length < K.names.length)=false:=by simp
   have y1:decide ((K.names.length:Int) < K.names.length)=false:=by simp
   have hfz:=hgN.2 (m * 2);have hfz2:=hgN.2 (m * 2 + 1);have hfg:=hgG.2 m;obtain ⟨z1,z2⟩:=hnms m hm;have z0:=hgv m hm;have hf:=hfst m c hc;have hWr:=Lib.hid (HW.out.kept hB hkp (fun _ h=>h.elim));have hGN:gG≠gN:=fun e=>by
    obtain ⟨_,h1⟩:=Zq hWr.out.nms (b:=gN) (by rw [e1.out];rfl);obtain ⟨_,h2⟩:=Zq hWr.out.gvn (b:=gG) (by rw [e2.out];rfl);exact Blk.ne_ h2 h1 (by decide) e
   have hat:∀ b,(b=pb∨b=K.wb∨b=g1)→gG≠b∧gN≠b:=by
    obtain ⟨_,h1⟩:=Zq hWr.out.nms (b:=gN) (by rw [e1.out];rfl);obtain ⟨_,h2⟩:=Zq hWr.out.gvn (b:=gG) (by rw [e2.out];rfl);obtain ⟨_,h3⟩:=Zq hWr.out.fst (b:=g1) (by rw [e3.out];rfl);rintro b (rfl|rfl|rfl)
    ·refine ⟨Blk.ne_ h2 hp (by decide),fun e=>?_⟩
     have:=own_lt HW.out.nms (g:=gN) (by rw [e1.out];rfl)
     have:=hpb.out
     omega
    ·exact ⟨Blk.ne_ h2 hWr.out.blk (by decide),Blk.ne_ h1 hWr.out.blk (by decide)⟩
    ·exact ⟨Blk.ne_ h2 h3 (by decide),Blk.ne_ h1 h3 (by decide)⟩
   obtain ⟨n1',n2'⟩:=hat pb (.inl rfl);obtain ⟨n3',n4'⟩:=hat K.wb (.inr (.inl rfl));obtain ⟨n5',n6'⟩:=hat g1 (.inr (.inr rfl));clear hat hnms hgv hfst hgN hgG;replace hp:=Lib.hid hp;replace hkp:=Lib.hid hkp
   go_upto_region 11 with (fail)
   go_region
   have hgnm:K.named (gv.set m true) m=(n1,n2):=by
    unfold Wk.named;rw [List.getD_eq_getElem?_getD,List.getElem?_set_self (by rw [hWr.out.len];exact hm)];simp only [Option.getD_some,if_true];rw [hcd.out];exact hnm.out
   have hgni:∀ i,i≠m→K.named (gv.set m true) i=K.named gv i:=fun i hi=>by
    unfold Wk.named;rw [List.getD_eq_getElem?_getD,List.getElem?_set_ne (fun e=>hi e.symm),← List.getD_eq_getElem?_getD]
   have hB1:K.B≤gG∧K.B≤gN:=by
    have h1:=XE hWr.out.nms (g:=gN) (by rw [e1.out];rfl);have h2:=XE hWr.out.gvn (g:=gG) (by rw [e2.out];rfl)
    have:=HK.out.low
    omega
   have hold:∀ q,q≠gG→q≠gN→((((wr.setCell ⟨gG,m,none⟩ (.bool true)).setCell ⟨gN,m * 2,none⟩ (.int .i64 n1)).setCell ⟨gN,m * 2 + 1,none⟩ (.int .i64 n2)).drew).heap[q]? = wr.heap[q]?:=fun q h1 h2 =>
    ((Below.heap_setCell _ _ _ q h2).trans (Below.heap_setCell _ _ _ q h2)).trans (Below.heap_setCell _ _ _ q h1)
   have hnb:∀ {N:Nat} {e:TypeId} {size:Nat} {v:Value} {n:Nat} {xs:List Value},wr.ownsRow N e size v n xs→e≠4→(e≠51∨v.ownBlock≠some gN)→∀ b,v.ownBlock=some b→b≠gG∧b≠gN:=fun h h1 h2 b hb=>by
    obtain ⟨_,a1⟩:=Zq hWr.out.nms (b:=gN) (by rw [e1.out];rfl);obtain ⟨_,a2⟩:=Zq hWr.out.gvn (b:=gG) (by rw [e2.out];rfl);obtain ⟨_,a3⟩:=Zq h hb;refine ⟨Blk.ne_ a3 a2 h1,fun e=>?_⟩;rcases h2 with h2|h2
    ·exact Blk.ne_ a3 a1 h2 e
    ·exact h2 (e ▸ hb)
   have hW3:WAt K (gv.set m true) ((((wr.setCell ⟨gG,m,none⟩ (.bool true)).setCell ⟨gN,m * 2,none⟩ (.int .i64 n1)).setCell ⟨gN,m * 2 + 1,none⟩ (.int .i64 n2)).drew):=by
    have hwr:=hWr.out;refine ⟨(hold K.wb n3'.symm n4'.symm).trans hwr.blk,hwr.log.of fun q hq=>hold q (by omega) (by omega),hwr.lef.of fun q hq=>hold q (by omega) (by omega),?_,?_,Xj hwr.fst fun b hb=>?_,Xj hwr.hav fun b hb=>?_,Xj hwr.hol fun b hb=>?_,by rw [List.length_set];exact hwr.len⟩
    ·have a1:=hwr.nms
     rw [e1.out] at a1 ⊢;have a2:(wr.setCell ⟨gG,m,none⟩ (.bool true)).ownsRow K.M 51 2 (.slice (some ⟨gN,0,none⟩) K.names.length cN) K.names.length (K.nmsV gv):=Xj a1 fun b hb=>Below.heap_setCell _ _ _ b fun e=>by
      have h1:gN=b:=by simpa [Value.ownBlock] using hb
      exact hGN ((show b=gG from e).symm.trans h1.symm)
     have a3:=((a2.stored (m * 2) (.int .i64 n1)).1.stored (m * 2 + 1) (.int .i64 n2)).1;unfold Wk.nmsV at a3;rw [XcZ (K.named gv) (K.named (gv.set m true)) K.names.length m (n1,n2) hgnm hgni] at a3;exact a3
    ·have a1:=hwr.gvn
     rw [e2.out] at a1 ⊢;have a2:=(a1.stored m (.bool true)).1;rw [show (gv.set m true).map (fun b=>Value.bool b)=(gv.map fun b=>Value.bool b).set m (.bool true) by rw [List.map_set]];refine Xj (w:=wr.setCell ⟨gG,m,none⟩ (.bool true)) a2 fun b hb=>?_;have h1:gG=b:=by simpa [Value.ownBlock] using hb
     subst h1;exact (Below.heap_setCell _ _ _ gG (fun e=>hGN e)).trans (Below.heap_setCell _ _ _ gG (fun e=>hGN e))
    ·obtain ⟨q1,q2⟩:=hnb hwr.fst (by decide) (.inl (by decide)) b hb
     exact hold b q1 q2
    ·obtain ⟨q1,q2⟩:=hnb hwr.hav (by decide) (.inr (HK.out.apart gN (by rw [e1.out];rfl))) b hb
     exact hold b q1 q2
    ·obtain ⟨q1,q2⟩:=hnb hwr.hol (by decide) (.inl (by decide)) b hb
     exact hold b q1 q2
   have hK3:Kept K.turns w ((((wr.setCell ⟨gG,m,none⟩ (.bool true)).setCell ⟨gN,m * 2,none⟩ (.int .i64 n1)).setCell ⟨gN,m * 2 + 1,none⟩ (.int .i64 n2)).drew) :=
    ((((hkp.out.mono fun _ h=>h.elim).set (p:=⟨gG,m,none⟩) (.inr (by rw [e2.out];rfl)) _).set (p:=⟨gN,m * 2,none⟩) (.inl (by rw [e1.out];rfl)) _).set (p:=⟨gN,m * 2 + 1,none⟩) (.inl (by rw [e1.out];rfl)) _).drew
   have hp3:Blk ((((wr.setCell ⟨gG,m,none⟩ (.bool true)).setCell ⟨gN,m * 2,none⟩ (.int .i64 n1)).setCell ⟨gN,m * 2 + 1,none⟩ (.int .i64 n2)).drew) pb 51 #[.int .i64 n1,.int .i64 n2]:=(hold pb n1'.symm n2'.symm).trans hp.out;generalize ((((wr.setCell ⟨gG,m,none⟩ (.bool true)).setCell ⟨gN,m * 2,none⟩ (.int .i64 n1)).setCell ⟨gN,m * 2 + 1,none⟩ (.int .i64 n2)).drew)=w3 at hW3 hK3 hp3 ⊢;obtain ⟨_,_,d10,dwb,_,_,dl1,_,_,dfst⟩:=hW3.isAt hn e1.out e2.out e3.out;have df:=dfst m c hc;have dp0:w3.cell? ⟨pb,0,none⟩=some (.int .i64 n1):=Blk.cell hp3 0;have dp1:w3.cell? ⟨pb,1,none⟩=some (.int .i64 n2):=Blk.cell hp3 1;have dpl:=Blk.lt hp3;have hbg:=fun z (hz:Kept (fun _=>False) w3 z)=>Vs (hW3.kept (by have:=hK3.size;omega) hz (fun _ h=>h.elim)) hsm.2 (n1,n2);rw [← hnm.out,hbeg.out,hnm.out] at hbg;replace hbg:=Lib.hid hbg;replace hW3:=Lib.hid hW3;replace hK3:=Lib.hid hK3;clear c8 c9 c10 hwb p0 p1 hpl y0 y1 hfz hfz2 hfg z1 z2 z0 hf n1' n2' n3' n4' n5' n6' hp3 dfst
   go_upto_region 12 with (fail)
   have heq:(K.cells c == K.cells c)=true:=by simp
   go_region_held3 (fun w'=>w'.cell? ⟨K.wb,10,none⟩=some (.slice (some ⟨g1,0,none⟩) K.names.length c1)∧w'.cell? ⟨g1,m,none⟩=some (.int .i64 (K.cells c))∧w'.cell? ⟨pb,0,none⟩=some (.int .i64 n1)∧w'.cell? ⟨pb,1,none⟩=some (.int .i64 n2))
    (first|exact ⟨d10,df,dp0,dp1⟩|exact ⟨j1,j2,j3,j4⟩|go_keep)
    ((go_at_call 158;go_must (refine (hbg.out _ ((Kept.refl _ w3).drew)).mono ?_);rintro e4 w4 ⟨he4,hk4⟩;obtain rfl:e4=_:=he4;have j1:=(hk4.cell (p:=⟨K.wb,10,none⟩) dwb id).trans d10;have j2:=(hk4.cell (p:=⟨g1,m,none⟩) dl1 id).trans df;have j3:=(hk4.cell (p:=⟨pb,0,none⟩) dpl id).trans dp0;have j4:=(hk4.cell (p:=⟨pb,1,none⟩) dpl id).trans dp1))
   replace hk4:Kept (fun _=>False) w3 w4:=(Kept.refl _ w3).drew.trans hk4;clear j1 j2 j3 j4
   go_wp2_with fail
   go_ret;exact ⟨rfl,hW3.out.kept (by have:=hK3.out.size;omega) hk4 (fun _ h=>h.elim),hK3.out.trans (hk4.mono fun _ h=>h.elim)⟩
theorem XcP {K:Wk} {nc:Nat} (hK:K.OK nc) {gv:List Bool} {w:World} (hW:WAt K gv w) (hB:K.B≤w.heap.size) {m c:Nat} (hc:K.names[m]? = some c) (hg:gv.getD m false=true) :
 Calls Try.prog 156 #[.pointer (some ⟨K.wb,0,none⟩),.int .i64 m,nmV (K.nm c)] w (fun e w'=>e=.returned (.bool true)∧WAt K (gv.set m true) w'∧Kept K.turns w w'):=by
 have hm:m < K.names.length:=(List.getElem?_eq_some_iff.1 hc).1;have hn:K.names.length≠0:=by omega
 have hcd:K.names.getD m 0=c:=by rw [List.getD_eq_getElem?_getD,hc];rfl
 have hgs:gv.set m true=gv:=by
  apply List.ext_getElem?;intro i;rw [List.getElem?_set]
  split
  ·rename_i e
   subst e;have hl:m < gv.length:=by rw [hW.len];exact hm
   rw [if_pos hl,List.getElem?_eq_getElem hl];rw [List.getD_eq_getElem?_getD,List.getElem?_eq_getElem hl] at hg;exact congrArg some hg.symm
  ·rfl
 rw [hgs];have hnamed:K.named gv m=K.nm c:=by unfold Wk.named;rw [if_pos hg,hcd]
 obtain ⟨n1,n2,hnm⟩:∃ n1 n2,K.nm c=(n1,n2):=⟨_,_,rfl⟩
 obtain ⟨gN,cN,gG,cG,g1,c1,e1,e2,e3⟩:=hW.cells hn;have hIs:∀ z,Kept (fun _=>False) w z→XgK K gv gN cN gG cG g1 c1 z:=fun z hz=>(hW.kept hB hz (fun _ h=>h.elim)).isAt hn e1 e2 e3;have HW:=Lib.hid hW;rw [hnm] at hnamed ⊢;replace hIs:=Lib.hid hIs;clear hW hK hnm hcd hgs e1 e2 e3;unfold nmV
 go_enter Try.func156,Try.ntmps156
 go_upto_region 1 with (fail)
 have hp:Blk (w.alloc (.cells #[.int .i64 n1,.int .i64 n2] 51)) w.heap.size 51 #[.int .i64 n1,.int .i64 n2]:=Blk.new w _ _;have hk:=(Kept.refl (fun _=>False) w).alloc (.cells #[.int .i64 n1,.int .i64 n2] 51);generalize w.alloc (.cells #[.int .i64 n1,.int .i64 n2] 51)=w1 at hp hk ⊢;generalize hpb:w.heap.size=pb at hp ⊢;replace hpb:=Lib.hid hpb;obtain ⟨c8,c9,c10,hwb,hgN,hgG,_,hnms,hgv,_⟩:=hIs.out w1 hk;have hgvm:=hgv m hm;rw [hg] at hgvm;obtain ⟨z1,z2⟩:=hnms m hm;rw [hnamed] at z1 z2;simp only at z1 z2;have hgGl:=hgG.1;have hgNl:=hgN.1;have p0:w1.cell? ⟨pb,0,none⟩=some (.int .i64 n1):=Blk.cell hp 0;have p1:w1.cell? ⟨pb,1,none⟩=some (.int .i64 n2):=Blk.cell hp 1;have hpl:=Blk.lt hp;have x0:decide ((m:Int) < 0)=false:=by simp
 have x1:decide ((K.names.length:Int)≤m)=false:=by simp;omega
 have x1':decide (K.names.length≤m)=false:=by simp;omega
 have x2:(m:Int) < K.names.length:=by omega
 have x3:(0:Int)≤m:=by omega
 clear hgv hgG hgN hnms hp hnamed;replace hk:=Lib.hid hk
 go_upto_region 4 with (fail)
 go_region
 go_wp2_with fail
 go_ret;exact ⟨rfl,HW.out.kept hB hk.out.drew (fun _ h=>h.elim),hk.out.drew.mono fun _ h=>h.elim⟩
theorem Xev {K:Wk} {nc:Nat} (hK:K.OK nc) {gv:List Bool} {w:World} (hW:WAt K gv w) (hB:K.B≤w.heap.size) {m c:Nat} (hc:K.names[m]? = some c) :
 Calls Try.prog 156 #[.pointer (some ⟨K.wb,0,none⟩),.int .i64 m,nmV (K.nm c)] w (fun e w'=>e=.returned (.bool true)∧WAt K (gv.set m true) w'∧Kept K.turns w w'):=by
 cases hg:gv.getD m false with
 | true=>exact XcP hK hW hB hc hg
 | false=>exact XcQ hK hW hB hc hg
def XD (wb j:Nat) (out:Bool) (at':Nat):Array Value:=#[.pointer (some ⟨wb,0,none⟩),.int .i64 j,.bool out,.int .i64 at']
def Xbf (L:List Xo) (j i:Nat):Option (Xo × Nat):=((L.zipIdx.drop i).find? fun a=>a.1.thread == j).map fun a=>(a.1,a.2 + 1)
theorem Vf {L:List Xo} {j i q:Nat} {a:Xo} (h1:i≤q) (h2:L[q]? = some a) (h3:a.thread=j) (h4:∀ x b,i≤x→x < q→L[x]? = some b→b.thread≠j):Xbf L j i=some (a,q + 1):=by
 unfold Xbf;have hq:=(List.getElem?_eq_some_iff.1 h2).1
 have:(L.zipIdx.drop i).find? (fun a=>a.1.thread == j)=some (a,q):=by
  rw [List.find?_eq_some_iff_getElem];have hlen:q - i < (L.zipIdx.drop i).length:=by simp;omega
  have he:∀ (x:Nat) (hx:x < (L.zipIdx.drop i).length),(L.zipIdx.drop i)[x] = (L[i + x]'(by simp at hx;omega),i + x):=fun x hx=>by simp
  refine ⟨by simp [h3],q - i,hlen,?_,fun x hx=>?_⟩
  ·rw [he]
   have e:i + (q - i)=q:=by omega
   simp only [e];rw [(List.getElem?_eq_some_iff.1 h2).2]
  ·rw [he]
   have:=h4 (i + x) _ (by omega) (by omega) (List.getElem?_eq_getElem (by omega))
   simpa using this
 rw [this];rfl
theorem ZY {L:List Xo} {j i:Nat} (h:∀ q a,i≤q→L[q]? = some a→a.thread≠j):Xbf L j i=none:=by
 unfold Xbf
 have:(L.zipIdx.drop i).find? (fun a=>a.1.thread == j)=none:=by
  rw [List.find?_eq_none];intro x hx;obtain ⟨y,hy⟩:=List.getElem?_of_mem hx;rw [List.getElem?_drop,List.getElem?_zipIdx] at hy;cases hl:L[i + y]? with
  | none=>rw [hl] at hy;cases hy
  | some a =>
   rw [hl] at hy;obtain rfl:=Option.some.inj hy;simpa using h (i + y) a (by omega) hl
 rw [this];rfl
def XfI:Value:=.agg #[.int .i64 0,.int .i8 0,.int .i64 0,.int .i64 0,.int .i64 0,.int .i64 0,.int .i64 0,.bool false]
theorem Blk.drew_ {w:World} {g:Nat} {t:TypeId} {cs:Array Value} (h:Blk w g t cs):Blk w.drew g t cs:=h
def XgC (K:Wk) (xb j:Nat) (out:Bool) (at' rb:Nat) (w:World) (wr:World):Prop:=∃ k:Nat,at'≤k∧k≤K.L.length∧Kept (fun q=>q=xb) w wr∧Blk wr xb 55 (XD K.wb j out k)∧Blk wr rb 172 #[.int .i64 0,.int .i8 0,.int .i64 0,.int .i64 0,.int .i64 0,.int .i64 0,.int .i64 0,.bool false]∧∀ x b,at'≤x→x < k→K.L[x]? = some b→b.thread≠j
def wAt (w:World) (xb:Nat):Nat:=match w.cell? ⟨xb,3,none⟩ with|some v=>(intOf v).toNat|none=>0
def Xez (K:Wk) (xb j:Nat) (out:Bool) (at':Nat) (w:World) (e:Ending) (w':World):Prop :=
 ∃ o,Xbf K.L j at'=o∧e=.returned (U7 (o.map fun x=>x.1))∧Blk w' xb 55 (XD K.wb j out (match o with|some x=>x.2|none=>K.L.length))∧Kept (fun q=>q=xb) w w'
theorem Xen {K:Wk} {xb j:Nat} {out:Bool} {at':Nat} {w0 w:World} {act:Act} {g:Nat} {cs:Array Value} {b:Bool} {o:Option (Xo × Nat)} {k:Nat} (h2:act.tmps.getD 2 undef=.pointer (some ⟨g,0,none⟩)) (h3:act.tmps.getD 3 undef=.bool b) (hd:act.defers = [])
 (hb:Blk w g 172 cs) (h8:cs.size=8) (ho:Xbf K.L j at'=o) (hv:U7 (o.map fun x=>x.1)=.tuple #[.agg cs,.bool b]) (hk:(match o with|some x=>x.2|none=>K.L.length)=k) (hx:Blk w xb 55 (XD K.wb j out k)) (hkp:Kept (fun q=>q=xb) w0 w) :
 bodyPost Try.prog Try.f95 (Xez K xb j out at' w0) .ret act w:=by
 refine bodyPost_ret (Yv rfl act.tmps w g 172 cs (0,0) _ h2 hb Try.underlying172 rfl (by rw [h8];exact VR)) hd ?_;rw [h3];exact ⟨o,ho,by rw [hv],by rw [hk];exact hx,hkp⟩
theorem Qr {K:Wk} {gv:List Bool} {w:World} {xb j:Nat} {out:Bool} {at':Nat} (hW:WAt K gv w) (hB:K.B≤w.heap.size) (hxB:K.B≤xb) (hx:Blk w xb 55 (XD K.wb j out at')) (hat:at'≤K.L.length) :
 Calls Try.prog 95 #[.pointer (some ⟨xb,0,none⟩)] w (Xez K xb j out at' w):=by
 have hxw:xb≠K.wb:=Blk.ne_ hx hW.blk (by decide);have hWk:∀ z,Kept (fun q=>q=xb) w z→z.cell? ⟨K.wb,2,none⟩=some (.slice K.aL K.L.length K.cL)∧XW z K.B K.aL K.L∧K.wb < z.heap.size:=fun z hz =>
  ⟨(hz.cell (p:=⟨K.wb,2,none⟩) (Blk.lt hW.blk) (fun e=>hxw e.symm)).trans (Blk.cell hW.blk 2),hW.log.of fun q hq=>hz.block q (by omega) (by omega),by have:=Blk.lt hW.blk;have:=hz.size;omega⟩
 have hsm:=hW.log.small;have hxl:=Blk.lt hx;replace hWk:=Lib.hid hWk;replace hx:=Lib.hid hx;clear hW
 go_enter Try.func95,Try.ntmps95
 go_upto_region 1 with (fail)
 have hr0:Blk (w.alloc (.cells #[.int .i64 0,.int .i8 0,.int .i64 0,.int .i64 0,.int .i64 0,.int .i64 0,.int .i64 0,.bool false] 172)) w.heap.size 172 #[.int .i64 0,.int .i8 0,.int .i64 0,.int .i64 0,.int .i64 0,.int .i64 0,.int .i64 0,.bool false]:=Blk.new w _ _;have hk0:=(Kept.refl (fun q=>q=xb) w).alloc (.cells #[.int .i64 0,.int .i8 0,.int .i64 0,.int .i64 0,.int .i64 0,.int .i64 0,.int .i64 0,.bool false] 172);have hx0:Blk (w.alloc (.cells #[.int .i64 0,.int .i8 0,.int .i64 0,.int .i64 0,.int .i64 0,.int .i64 0,.int .i64 0,.bool false] 172)) xb 55 (XD K.wb j out at'):=(Below.heap_alloc _ _ xb hxl).trans hx.out;generalize w.alloc (.cells #[.int .i64 0,.int .i8 0,.int .i64 0,.int .i64 0,.int .i64 0,.int .i64 0,.int .i64 0,.bool false] 172)=w0 at hr0 hk0 hx0 ⊢;generalize hrb:w.heap.size=rb at hr0 ⊢;replace hrb:=Lib.hid hrb;have hxr:xb≠rb:=by have:=hrb.out;omega
 replace hr0:=Lib.hid hr0;replace hk0:=Lib.hid hk0;replace hx0:=Lib.hid hx0
 go_loopw [] (fun wr=>XgC K xb j out at' rb w wr) (fun wr=>K.L.length - wAt wr xb)
 case atStart=>exact ⟨at',Nat.le_refl _,hat,hk0.out,hx0.out,hr0.out,fun x b h1 h2=>by omega⟩
 case round =>
  obtain ⟨k,hka,hkL,hkp,hxk,hrk,hno⟩:=hrel;obtain ⟨c2,hL,hwb⟩:=hWk.out wr hkp;have x0:wr.cell? ⟨xb,0,none⟩=some (.pointer (some ⟨K.wb,0,none⟩)):=Blk.cell hxk 0;have x1:wr.cell? ⟨xb,1,none⟩=some (.int .i64 j):=Blk.cell hxk 1;have x3:wr.cell? ⟨xb,3,none⟩=some (.int .i64 k):=Blk.cell hxk 3;have f3:wr.frozen? ⟨xb,3,none⟩=false:=Blk.frozen hxk 3;have hxlr:=Blk.lt hxk;have hwat:wAt wr xb=k:=by unfold wAt;rw [x3];rfl
  replace hno:=Lib.hid hno;replace hkp:=Lib.hid hkp;replace hxk:=Lib.hid hxk;replace hrk:=Lib.hid hrk;replace hwat:=Lib.hid hwat
  by_cases hkn:k < K.L.length
  ·obtain ⟨a,ha⟩:∃ a,K.L[k]? = some a:=⟨_,List.getElem?_eq_getElem hkn⟩
   obtain ⟨g,off,hg,hgB,hA⟩:=hL.at_ k a ha;rw [hg] at c2;obtain ⟨q0,q1,q2,q3,q4,q5,q6,q7⟩:=Yt hA;clear hA hL;have hgl:g < wr.heap.size:=by have:=hkp.out.size;omega
   have y0:decide (k < K.L.length)=true:=by simpa using hkn
   have y1:decide ((k:Int) < K.L.length)=true:=by simp;omega
   have y2:(k:Int) < K.L.length:=by omega
   have y3:(0:Int)≤k:=by omega
   have hw0:IntKind.i64.wrap ((k:Int) + 1)=((k + 1:Nat):Int):=by rw [IntKind.wrap_i64];omega
   replace ha:=Lib.hid ha;replace hg:=Lib.hid hg
   go_upto_region 1 with (fail)
   go_region
   go_upto_region 2 with (fail)
   go_region
   go_upto_region 3 with (fail)
   have hb2:Blk ((wr.alloc (.cells #[.int .i64 a.thread,.int .i8 a.op,.int .i64 a.cell,.int .i64 a.arg,.int .i64 a.new,.int .i64 a.was,.int .i64 a.now,.bool a.ok] 172)).drew.drew) wr.heap.size 172 #[.int .i64 a.thread,.int .i8 a.op,.int .i64 a.cell,.int .i64 a.arg,.int .i64 a.new,.int .i64 a.was,.int .i64 a.now,.bool a.ok]:=Blk.new wr _ _;have hk2:=((hkp.out.alloc (.cells #[.int .i64 a.thread,.int .i8 a.op,.int .i64 a.cell,.int .i64 a.arg,.int .i64 a.new,.int .i64 a.was,.int .i64 a.now,.bool a.ok] 172)).drew).drew;have hx2:Blk ((wr.alloc (.cells #[.int .i64 a.thread,.int .i8 a.op,.int .i64 a.cell,.int .i64 a.arg,.int .i64 a.new,.int .i64 a.was,.int .i64 a.now,.bool a.ok] 172)).drew.drew) xb 55 (XD K.wb j out k):=(Below.heap_alloc _ _ xb hxlr).trans hxk.out;have hrl:=Blk.lt hrk.out;have hr2:Blk ((wr.alloc (.cells #[.int .i64 a.thread,.int .i8 a.op,.int .i64 a.cell,.int .i64 a.arg,.int .i64 a.new,.int .i64 a.was,.int .i64 a.now,.bool a.ok] 172)).drew.drew) rb 172 #[.int .i64 0,.int .i8 0,.int .i64 0,.int .i64 0,.int .i64 0,.int .i64 0,.int .i64 0,.bool false]:=(Below.heap_alloc _ _ rb hrl).trans hrk.out;generalize ((wr.alloc (.cells #[.int .i64 a.thread,.int .i8 a.op,.int .i64 a.cell,.int .i64 a.arg,.int .i64 a.new,.int .i64 a.was,.int .i64 a.now,.bool a.ok] 172)).drew.drew)=w2 at hb2 hk2 hx2 hr2 ⊢;generalize hab:wr.heap.size=ab at hb2 hxlr hrl ⊢;clear q0 q1 q2 q3 q4 q5 q6 q7 c2 x0 x1 x3 f3 hwb hgl;have u3:w2.cell? ⟨xb,3,none⟩=some (.int .i64 k):=Blk.cell hx2 3;have v3:w2.frozen? ⟨xb,3,none⟩=false:=Blk.frozen hx2 3;have hxl2:=Blk.lt hx2;replace hab:=Lib.hid hab
   go_upto_region 4 with (fail)
   have hxa:xb≠ab:=by omega
   have hra:rb≠ab:=by omega
   have hb3:Blk (w2.setCell ⟨xb,3,none⟩ (.int .i64 ((k:Int) + 1))) ab 172 #[.int .i64 a.thread,.int .i8 a.op,.int .i64 a.cell,.int .i64 a.arg,.int .i64 a.new,.int .i64 a.was,.int .i64 a.now,.bool a.ok]:=Blk.far (p:=⟨xb,3,none⟩) hb2 hxa.symm _;have hr3:Blk (w2.setCell ⟨xb,3,none⟩ (.int .i64 ((k:Int) + 1))) rb 172 #[.int .i64 0,.int .i8 0,.int .i64 0,.int .i64 0,.int .i64 0,.int .i64 0,.int .i64 0,.bool false]:=Blk.far (p:=⟨xb,3,none⟩) hr2 hxr.symm _;have hx3:Blk (w2.setCell ⟨xb,3,none⟩ (.int .i64 ((k:Int) + 1))) xb 55 (XD K.wb j out (k + 1)):=Blk.set_ hx2 3 _;have hk3:=hk2.set (p:=⟨xb,3,none⟩) rfl (.int .i64 ((k:Int) + 1));generalize (w2.setCell ⟨xb,3,none⟩ (.int .i64 ((k:Int) + 1)))=w3 at hb3 hr3 hx3 hk3 ⊢;clear u3 v3 hxl2 hb2 hr2 hx2 hk2;have t1:w3.cell? ⟨xb,1,none⟩=some (.int .i64 j):=Blk.cell hx3 1;have s0:w3.cell? ⟨ab,0,none⟩=some (.int .i64 a.thread):=Blk.cell hb3 0;have s1:w3.cell? ⟨ab,1,none⟩=some (.int .i8 a.op):=Blk.cell hb3 1;have s2:w3.cell? ⟨ab,2,none⟩=some (.int .i64 a.cell):=Blk.cell hb3 2;have s3:w3.cell? ⟨ab,3,none⟩=some (.int .i64 a.arg):=Blk.cell hb3 3;have s4:w3.cell? ⟨ab,4,none⟩=some (.int .i64 a.new):=Blk.cell hb3 4;have s5:w3.cell? ⟨ab,5,none⟩=some (.int .i64 a.was):=Blk.cell hb3 5;have s6:w3.cell? ⟨ab,6,none⟩=some (.int .i64 a.now):=Blk.cell hb3 6;have s7:w3.cell? ⟨ab,7,none⟩=some (.bool a.ok):=Blk.cell hb3 7;have hxl3:=Blk.lt hx3;have hbl3:=Blk.lt hb3;have hrl3:=Blk.lt hr3;replace hx3:=Lib.hid hx3;replace hk3:=Lib.hid hk3;replace hr3:=Lib.hid hr3;clear hb3
   go_upto_region 4 with (fail)
   by_cases hth:a.thread=j
   ·have d1:decide (a.thread=j)=true:=by simpa using hth
    have d2:(a.thread == j)=true:=by simp [hth]
    have d3:((a.thread:Int) == (j:Int))=true:=by simp [hth]
    replace hth:=Lib.hid hth
    go_region
    go_upto_region 5 with (fail)
    have m0:w3.cell? ⟨rb,0,none⟩=some (.int .i64 0):=Blk.cell hr3.out 0;have n0:w3.frozen? ⟨rb,0,none⟩=false:=Blk.frozen hr3.out 0;have m1:w3.cell? ⟨rb,1,none⟩=some (.int .i8 0):=Blk.cell hr3.out 1;have n1:w3.frozen? ⟨rb,1,none⟩=false:=Blk.frozen hr3.out 1;have m2:w3.cell? ⟨rb,2,none⟩=some (.int .i64 0):=Blk.cell hr3.out 2;have n2:w3.frozen? ⟨rb,2,none⟩=false:=Blk.frozen hr3.out 2;have m3:w3.cell? ⟨rb,3,none⟩=some (.int .i64 0):=Blk.cell hr3.out 3;have n3:w3.frozen? ⟨rb,3,none⟩=false:=Blk.frozen hr3.out 3;have m4:w3.cell? ⟨rb,4,none⟩=some (.int .i64 0):=Blk.cell hr3.out 4;have n4:w3.frozen? ⟨rb,4,none⟩=false:=Blk.frozen hr3.out 4;have m5:w3.cell? ⟨rb,5,none⟩=some (.int .i64 0):=Blk.cell hr3.out 5;have n5:w3.frozen? ⟨rb,5,none⟩=false:=Blk.frozen hr3.out 5;have m6:w3.cell? ⟨rb,6,none⟩=some (.int .i64 0):=Blk.cell hr3.out 6;have n6:w3.frozen? ⟨rb,6,none⟩=false:=Blk.frozen hr3.out 6;have m7:w3.cell? ⟨rb,7,none⟩=some (.bool false):=Blk.cell hr3.out 7;have n7:w3.frozen? ⟨rb,7,none⟩=false:=Blk.frozen hr3.out 7
    go_wp2_with fail
    have hb9:=((((((((Blk.set_ (w:=w3) hr3.out 0 (.int .i64 a.thread)).set_ 1 (.int .i8 a.op)).set_ 2 (.int .i64 a.cell)).set_ 3 (.int .i64 a.arg)).set_ 4 (.int .i64 a.new)).set_ 5 (.int .i64 a.was)).set_ 6 (.int .i64 a.now)).set_ 7 (.bool a.ok))
    simp only [ZJ] at hb9;have hx9:=Blk.drew_ (Blk.far (p:=⟨rb,7,none⟩) (Blk.far (p:=⟨rb,6,none⟩) (Blk.far (p:=⟨rb,5,none⟩) (Blk.far (p:=⟨rb,4,none⟩) (Blk.far (p:=⟨rb,3,none⟩) (Blk.far (p:=⟨rb,2,none⟩) (Blk.far (p:=⟨rb,1,none⟩) (Blk.far (p:=⟨rb,0,none⟩) hx3.out hxr (.int .i64 a.thread)) hxr (.int .i8 a.op)) hxr (.int .i64 a.cell)) hxr (.int .i64 a.arg)) hxr (.int .i64 a.new)) hxr (.int .i64 a.was)) hxr (.int .i64 a.now)) hxr (.bool a.ok));have hk9:Kept (fun q=>q=xb) w (((((((((w3.setCell ⟨rb,0,none⟩ (.int .i64 a.thread)).setCell ⟨rb,1,none⟩ (.int .i8 a.op)).setCell ⟨rb,2,none⟩ (.int .i64 a.cell)).setCell ⟨rb,3,none⟩ (.int .i64 a.arg)).setCell ⟨rb,4,none⟩ (.int .i64 a.new)).setCell ⟨rb,5,none⟩ (.int .i64 a.was)).setCell ⟨rb,6,none⟩ (.int .i64 a.now)).setCell ⟨rb,7,none⟩ (.bool a.ok)).drew):=by
     refine Kept.shrink (T:=fun q=>q=xb∨q=rb) ?_ (fun q hq h=>h.resolve_right (by have:=hrb.out;omega));exact (((((((((hk3.out.mono (fun q h=>.inl h)).set (p:=⟨rb,0,none⟩) (.inr rfl) _).set (p:=⟨rb,1,none⟩) (.inr rfl) _).set (p:=⟨rb,2,none⟩) (.inr rfl) _).set (p:=⟨rb,3,none⟩) (.inr rfl) _).set (p:=⟨rb,4,none⟩) (.inr rfl) _).set (p:=⟨rb,5,none⟩) (.inr rfl) _).set (p:=⟨rb,6,none⟩) (.inr rfl) _).set (p:=⟨rb,7,none⟩) (.inr rfl) _).drew
    replace hb9:=Blk.drew_ hb9;generalize (((((((((w3.setCell ⟨rb,0,none⟩ (.int .i64 a.thread)).setCell ⟨rb,1,none⟩ (.int .i8 a.op)).setCell ⟨rb,2,none⟩ (.int .i64 a.cell)).setCell ⟨rb,3,none⟩ (.int .i64 a.arg)).setCell ⟨rb,4,none⟩ (.int .i64 a.new)).setCell ⟨rb,5,none⟩ (.int .i64 a.was)).setCell ⟨rb,6,none⟩ (.int .i64 a.now)).setCell ⟨rb,7,none⟩ (.bool a.ok)).drew)=w9 at hb9 hx9 hk9 ⊢;exact Xen (by rfl) (by rfl) (by rfl) hb9 (by rfl) (Vf hka ha.out hth.out hno.out) rfl rfl hx9 hk9
   ·have d1:decide (a.thread=j)=false:=by simpa using hth
    have d2:(a.thread == j)=false:=by simpa using hth
    have d3:((a.thread:Int) == (j:Int))=false:=by simp;omega
    replace hth:=Lib.hid hth
    go_region
    go_wp2_with fail
    refine ⟨⟨k + 1,by omega,by omega,hk3.out.drew,hx3.out,hr3.out,fun i b h1 h2 h3=>by
     by_cases e:i=k
     ·subst e;rw [ha.out] at h3;rw [← Option.some.inj h3];exact hth.out
     ·exact hno.out i b h1 (by omega) h3⟩,?_⟩
    rw [hwat.out]
    have:wAt w3.drew xb=k + 1:=by
     unfold wAt;rw [show w3.drew.cell? ⟨xb,3,none⟩=some (.int .i64 ((k + 1:Nat):Int)) from Blk.cell (w:=w3.drew) hx3.out 3]
     rfl
    rw [this];omega
  ·obtain rfl:k=K.L.length:=by omega
   have y0:decide (K.L.length < K.L.length)=false:=by simp
   have y1:decide ((K.L.length:Int) < K.L.length)=false:=by simp
   have hrl:=Blk.lt hrk.out;clear hL
   go_upto_region 1 with (fail)
   go_region
   go_upto_region 6 with (fail)
   have m0:wr.cell? ⟨rb,0,none⟩=some (.int .i64 0):=Blk.cell hrk.out 0;have n0:wr.frozen? ⟨rb,0,none⟩=false:=Blk.frozen hrk.out 0;have m1:wr.cell? ⟨rb,1,none⟩=some (.int .i8 0):=Blk.cell hrk.out 1;have n1:wr.frozen? ⟨rb,1,none⟩=false:=Blk.frozen hrk.out 1;have m2:wr.cell? ⟨rb,2,none⟩=some (.int .i64 0):=Blk.cell hrk.out 2;have n2:wr.frozen? ⟨rb,2,none⟩=false:=Blk.frozen hrk.out 2;have m3:wr.cell? ⟨rb,3,none⟩=some (.int .i64 0):=Blk.cell hrk.out 3;have n3:wr.frozen? ⟨rb,3,none⟩=false:=Blk.frozen hrk.out 3;have m4:wr.cell? ⟨rb,4,none⟩=some (.int .i64 0):=Blk.cell hrk.out 4;have n4:wr.frozen? ⟨rb,4,none⟩=false:=Blk.frozen hrk.out 4;have m5:wr.cell? ⟨rb,5,none⟩=some (.int .i64 0):=Blk.cell hrk.out 5;have n5:wr.frozen? ⟨rb,5,none⟩=false:=Blk.frozen hrk.out 5;have m6:wr.cell? ⟨rb,6,none⟩=some (.int .i64 0):=Blk.cell hrk.out 6;have n6:wr.frozen? ⟨rb,6,none⟩=false:=Blk.frozen hrk.out 6;have m7:wr.cell? ⟨rb,7,none⟩=some (.bool false):=Blk.cell hrk.out 7;have n7:wr.frozen? ⟨rb,7,none⟩=false:=Blk.frozen hrk.out 7
   go_wp2_with fail
   have hb9:=((((((((Blk.set_ (w:=wr) hrk.out 0 (.int .i64 0)).set_ 1 (.int .i8 0)).set_ 2 (.int .i64 0)).set_ 3 (.int .i64 0)).set_ 4 (.int .i64 0)).set_ 5 (.int .i64 0)).set_ 6 (.int .i64 0)).set_ 7 (.bool false))
   simp only [ZJ] at hb9;have hx9:=Blk.drew_ (Blk.far (p:=⟨rb,7,none⟩) (Blk.far (p:=⟨rb,6,none⟩) (Blk.far (p:=⟨rb,5,none⟩) (Blk.far (p:=⟨rb,4,none⟩) (Blk.far (p:=⟨rb,3,none⟩) (Blk.far (p:=⟨rb,2,none⟩) (Blk.far (p:=⟨rb,1,none⟩) (Blk.far (p:=⟨rb,0,none⟩) hxk.out hxr (.int .i64 0)) hxr (.int .i8 0)) hxr (.int .i64 0)) hxr (.int .i64 0)) hxr (.int .i64 0)) hxr (.int .i64 0)) hxr (.int .i64 0)) hxr (.bool false));have hk9:Kept (fun q=>q=xb) w (((((((((wr.setCell ⟨rb,0,none⟩ (.int .i64 0)).setCell ⟨rb,1,none⟩ (.int .i8 0)).setCell ⟨rb,2,none⟩ (.int .i64 0)).setCell ⟨rb,3,none⟩ (.int .i64 0)).setCell ⟨rb,4,none⟩ (.int .i64 0)).setCell ⟨rb,5,none⟩ (.int .i64 0)).setCell ⟨rb,6,none⟩ (.int .i64 0)).setCell ⟨rb,7,none⟩ (.bool false)).drew):=by
    refine Kept.shrink (T:=fun q=>q=xb∨q=rb) ?_ (fun q hq h=>h.resolve_right (by have:=hrb.out;omega));exact (((((((((hkp.out.mono (fun q h=>.inl h)).set (p:=⟨rb,0,none⟩) (.inr rfl) _).set (p:=⟨rb,1,none⟩) (.inr rfl) _).set (p:=⟨rb,2,none⟩) (.inr rfl) _).set (p:=⟨rb,3,none⟩) (.inr rfl) _).set (p:=⟨rb,4,none⟩) (.inr rfl) _).set (p:=⟨rb,5,none⟩) (.inr rfl) _).set (p:=⟨rb,6,none⟩) (.inr rfl) _).set (p:=⟨rb,7,none⟩) (.inr rfl) _).drew
   replace hb9:=Blk.drew_ hb9;generalize (((((((((wr.setCell ⟨rb,0,none⟩ (.int .i64 0)).setCell ⟨rb,1,none⟩ (.int .i8 0)).setCell ⟨rb,2,none⟩ (.int .i64 0)).setCell ⟨rb,3,none⟩ (.int .i64 0)).setCell ⟨rb,4,none⟩ (.int .i64 0)).setCell ⟨rb,5,none⟩ (.int .i64 0)).setCell ⟨rb,6,none⟩ (.int .i64 0)).setCell ⟨rb,7,none⟩ (.bool false)).drew)=w9 at hb9 hx9 hk9 ⊢;exact Xen (by rfl) (by rfl) (by rfl) hb9 (by rfl) (ZY fun q a h1 h2=>hno.out q a h1 (List.getElem?_eq_some_iff.1 h2).1 h2) rfl rfl hx9 hk9

/- What a run's cells hold in the end is what the record's last accesses left. No program in sight. -/
import Derived.Test.YtdhnggjmegilkaaSWkP
set_option linter.all false
set_option maxRecDepth 100000
set_option maxHeartbeats 16000000
namespace Go.Proofs.Ytdhnggjmegilkaa
open Go.RowKit
set_option maxRecDepth 100000
structure Wk.Lies (K:Wk):Prop where
 n:∀ b,K.vN.ownBlock=some b→K.vH.ownBlock≠some b
 f:∀ b,K.v1.ownBlock=some b→K.vS.ownBlock≠some b
 low:K.B≤K.M
 wb:K.M≤K.wb
def Wk.more (K:Wk) (vH vS:Value) (n:Nm) (v:Int):Wk:={ K with vH:=vH,vS:=vS,hs:=K.hs ++ [(n,v)] }
theorem XcD (hs:List (Nm × Int)) (n:Nm) (v:Int):((List.range (hs ++ [(n,v)]).length).flatMap fun i=>nmL ((hs ++ [(n,v)]).getD i ((0,0),0)).1)=((List.range hs.length).flatMap fun i=>nmL (hs.getD i ((0,0),0)).1) ++ nmL n:=by
 rw [List.length_append,List.length_singleton,List.range_succ,List.flatMap_append]
 congr 1
 ·simp only [List.flatMap]
  congr 1
  apply List.map_congr_left;intro i hi
  have:=List.mem_range.1 hi
  rw [List.getD_eq_getElem?_getD,List.getD_eq_getElem?_getD,List.getElem?_append_left this]
 ·simp [List.getD_eq_getElem?_getD]
theorem Wx {w1 w2:World} {M size n:Nat} {t:TypeId} {v:Value} {xs:List Value} {o:Obj} (h:w1.ownsRow M t size v n xs) (hg:(w1.alloc o).grownBy w2 v.ownBlock) {M' size' n':Nat} {t':TypeId} {v':Value} {xs':List Value} (h':w1.ownsRow M' t' size' v' n' xs') (ne:∀ b,v'.ownBlock=some b→v.ownBlock≠some b):w2.ownsRow M' t' size' v' n' xs' :=
 Xj h' fun b hb=>by
  have hl:=own_lt h' hb;rw [hg.block b (by simp;omega) (fun e=>ne b hb e.symm)];exact Below.heap_alloc _ _ b hl
def Wk.told (K:Wk) (q:Nat):Prop:=q=K.wb∨some q=K.vH.ownBlock∨some q=K.vS.ownBlock
theorem Wk.told_ge {K:Wk} {gv:List Bool} {w:World} (hW:WAt K gv w) (hK:K.Lies) {q:Nat} (h:K.told q):K.M≤q∧q < w.heap.size:=by
 rcases h with e|e|e
 ·rw [e];exact ⟨hK.wb,Blk.lt hW.blk⟩
 ·exact ⟨XE hW.hav e.symm,own_lt hW.hav e.symm⟩
 ·exact ⟨XE hW.hol e.symm,own_lt hW.hol e.symm⟩
theorem Xd5 {K:Wk} {gv:List Bool} {w:World} (hW:WAt K gv w) (hK:K.Lies) (hM:K.M≤w.heap.size) (hs:K.hs.length≤10000) (n:Nm) (v:Int) :
 Calls Try.prog 22 #[.pointer (some ⟨K.wb,0,none⟩),nmV n,.int .i64 v] w (fun e w'=>e=.returned (.tuple #[])∧∃ vH vS,WAt (K.more vH vS n v) gv w'∧(K.more vH vS n v).Lies∧Kept K.told w w'):=by
 obtain ⟨n1,n2⟩:=n;obtain ⟨aH,cH,eH⟩:=Xq hW.hav;obtain ⟨aS,cS,eS⟩:=Xq hW.hol;obtain ⟨q,hq⟩:∃ q,K.hs.length=q:=⟨_,rfl⟩
 obtain ⟨iN,hiN,hn0,hn1,hn2⟩:=XM Xew;obtain ⟨iF,hiF,hf0,hf1,hf2⟩:=XM Xai;have hwb:=hK.wb;have hW':=hW;replace hW:=Lib.hid hW;have hHv:=hW'.hav;have hHl:=hW'.hol;rw [eH] at hHv;rw [eS] at hHl;rw [hq] at hHv hHl hs;unfold nmV
 go_enter Try.func22,Try.ntmps22
 go_upto_region 1 with (fail)
 have hp:Blk (w.alloc (.cells #[.int .i64 n1,.int .i64 n2] 51)) w.heap.size 51 #[.int .i64 n1,.int .i64 n2]:=Blk.new w _ _;have hk:=(Kept.refl (fun _=>False) w).alloc (.cells #[.int .i64 n1,.int .i64 n2] 51);have hW1:WAt K gv (w.alloc (.cells #[.int .i64 n1,.int .i64 n2] 51)):=hW'.kept (by have:=hK.low;omega) hk (fun _ h=>h.elim);have hHv1:=hHv.alloc (.cells #[.int .i64 n1,.int .i64 n2] 51);have hHl1:=hHl.alloc (.cells #[.int .i64 n1,.int .i64 n2] 51);have hsz:(w.alloc (.cells #[.int .i64 n1,.int .i64 n2] 51)).heap.size=w.heap.size + 1:=by simp
 generalize w.alloc (.cells #[.int .i64 n1,.int .i64 n2] 51)=w1 at hp hk hW1 hHv1 hHl1 hsz ⊢;generalize hpb:w.heap.size=pb at hp hsz hM ⊢;have p0:w1.cell? ⟨pb,0,none⟩=some (.int .i64 n1):=Blk.cell hp 0;have p1:w1.cell? ⟨pb,1,none⟩=some (.int .i64 n2):=Blk.cell hp 1;have hpl:=Blk.lt hp;have k11:w1.cell? ⟨K.wb,11,none⟩=some (.slice aH q cH):=(Blk.cell hW1.blk 11).trans (by rw [← hq];exact congrArg some eH);have hwl:=Blk.lt hW1.blk;have N2:Hid (q + 1≤maxLen):=Lib.hid (by unfold maxLen;omega);have N3N:Hid ((q + 1) * 16≤140737488355328):=Lib.hid (by omega);have N3F:Hid ((q + 1) * 8≤140737488355328):=Lib.hid (by omega);have HOF:Hid (((w1.alloc (.cells #[.int .i64 n1,.int .i64 n2] 51)).drew).ownsRow K.M 51 2 (.slice aH q cH) q ((List.range q).flatMap fun i=>nmL (K.hs.getD i ((0,0),0)).1)):=Lib.hid (by rw [← hq] at hHv1 ⊢;exact (hHv1.alloc _).drew);have e1':K.wb < w1.heap.size + 1:=by omega
 have e2':pb < w1.heap.size + 1:=by omega
 replace hp:=Lib.hid hp;replace hk:=Lib.hid hk;replace hW1:=Lib.hid hW1;replace hHv1:=Lib.hid hHv1;replace hHl1:=Lib.hid hHl1;replace hHv:=Lib.hid hHv;replace hHl:=Lib.hid hHl;replace eH:=Lib.hid eH;replace eS:=Lib.hid eS;replace hq:=Lib.hid hq;replace hpb:=Lib.hid hpb;replace hsz:=Lib.hid hsz;have hM1:K.M≤w1.heap.size:=by have:=hsz.out;omega
 clear hW'
 go_region_law (first
  | (refine step_append_lies _ (by rfl) _ _ _ (by rfl) K.M 51 iN _ 2 16 Try.underlying58 hiN hn0 hn1 hn2 rfl (by omega) (.slice aH q cH) q ((List.range q).flatMap fun i=>nmL (K.hs.getD i ((0,0),0)).1) (by rfl) HOF.out ⟨w1.heap.size,0,none⟩ 1 1 [.int .i64 n1,.int .i64 n2] (by rfl) (by rfl) (World.news_of_block (cs:=#[.int .i64 n1,.int .i64 n2]) (t:=51) (fr:=(0,0)) (heap_alloc_new w1 _)) (by simp [Value.oneCell']) (by omega) N2.out N3N.out (by first | (simp;omega) | (simp;done)) (w1.heap.size + 1) (by simp) ?_
     intro gN cN uN HG1 HG2 HG3 HG4;have HOW:=Lib.hid HG1;have HGR:=Lib.hid HG2;have HAT:=Lib.hid HG3;clear HG1 HG2 HG3 HG4;have hbwu:Blk uN K.wb 61 K.obj:=Zi (w1:=w1.drew) (o:=.cells #[.int .i64 n1,.int .i64 n2] 51) hHv1.out.drew HGR.out hW1.out.blk (by decide);have ku:uN.cell? ⟨K.wb,11,none⟩=some (.slice aH q cH):=(Blk.cell hbwu 11).trans (by rw [← hq.out];exact congrArg some eH.out);have fu:uN.frozen? ⟨K.wb,11,none⟩=false:=Blk.frozen hbwu 11;have lu:=Blk.lt hbwu;replace hbwu:=Lib.hid hbwu))
 all_goals (
  have hgrow:((w1.drew).alloc (.cells #[.int .i64 n1,.int .i64 n2] 51)).grownBy uN (Value.slice aH q cH).ownBlock:=HGR.out;have hWd:WAt K gv w1.drew:=hW1.out.frame fun _ _=>rfl;have hneN:∀ b,K.vN.ownBlock=some b→(Value.slice aH q cH).ownBlock≠some b:=fun b hb=>by have:=hK.n b hb;rw [eH.out,hq.out] at this;exact this
  have hb2:Blk (uN.setCell ⟨K.wb,11,none⟩ (.slice (some ⟨gN,0,none⟩) (q + 1) cN)) K.wb 61 (UZ K.e K.n (.slice K.aL K.L.length K.cL) K.vW K.vR (.slice K.al K.left.length K.cl) K.vF false K.vN K.vG K.v1 (.slice (some ⟨gN,0,none⟩) (q + 1) cN) K.vS):=Blk.set_ hbwu.out 11 _;have hlow2:∀ b,b < K.B→(uN.setCell ⟨K.wb,11,none⟩ (.slice (some ⟨gN,0,none⟩) (q + 1) cN)).heap[b]? = w1.heap[b]?:=fun b hb=>by
   have h1:=hK.low;have h2:=hK.wb;rw [Below.heap_setCell _ _ _ b (by show b≠K.wb;omega),hgrow.block b (by show b < _;simp;omega) (fun e=>by have:=XE hHv1.out e.symm;omega)];exact Below.heap_alloc _ _ b (by show b < w1.heap.size;omega)
  have hl2:=hWd.log.of hlow2;have he2:=hWd.lef.of hlow2;have hN2:=Ye (Wx (w1:=w1.drew) hHv1.out.drew hgrow hWd.nms hneN) hbwu.out (by decide) 11 (.slice (some ⟨gN,0,none⟩) (q + 1) cN);have hG2:=Ye (YA (w1:=w1.drew) hHv1.out.drew hgrow hWd.gvn (by decide)) hbwu.out (by decide) 11 (.slice (some ⟨gN,0,none⟩) (q + 1) cN);have hF2:=Ye (YA (w1:=w1.drew) hHv1.out.drew hgrow hWd.fst (by decide)) hbwu.out (by decide) 11 (.slice (some ⟨gN,0,none⟩) (q + 1) cN);have hS2:=Ye (YA (w1:=w1.drew) hHv1.out.drew hgrow hHl1.out.drew (by decide)) hbwu.out (by decide) 11 (.slice (some ⟨gN,0,none⟩) (q + 1) cN);have hH2:=Ye HOW.out hbwu.out (by decide) 11 (.slice (some ⟨gN,0,none⟩) (q + 1) cN);have hk2:Kept K.told w (uN.setCell ⟨K.wb,11,none⟩ (.slice (some ⟨gN,0,none⟩) (q + 1) cN)):=by
   refine Kept.set (S:=K.told) ?_ (p:=⟨K.wb,11,none⟩) (.inl rfl) _;refine ⟨hgrow.os.trans hk.out.os,hgrow.tape.trans hk.out.drew.tape,hgrow.output.trans hk.out.output,by have h1:=hgrow.size;have h2:=hk.out.size;simp at h1;omega,fun b hb hb2=>?_⟩
   have:=hk.out.size
   rw [hgrow.block b (by show b < _;simp;omega) (fun e=>hb2 (.inr (.inl (by rw [eH.out,hq.out];exact e)))),Below.heap_alloc _ _ b (by show b < w1.heap.size;omega)];exact hk.out.block b hb id
  have hs2:w1.heap.size≤(uN.setCell ⟨K.wb,11,none⟩ (.slice (some ⟨gN,0,none⟩) (q + 1) cN)).heap.size:=by have h1:=hgrow.size;simp at h1 ⊢;omega
  have hat2:=HAT.out;generalize (uN.setCell ⟨K.wb,11,none⟩ (.slice (some ⟨gN,0,none⟩) (q + 1) cN))=w2 at hb2 hlow2 hl2 he2 hN2 hG2 hF2 hS2 hH2 hk2 hs2 ⊢;have hwl2:=Blk.lt hb2;have k12:w2.cell? ⟨K.wb,12,none⟩=some (.slice aS q cS):=(Blk.cell hb2 12).trans (by rw [← hq.out];exact congrArg some eS.out);have HOS:Hid ((w2.alloc (.cells #[.int .i64 v] 2)).ownsRow K.M 2 1 (.slice aS q cS) q (K.hs.map fun (h:Nm × Int)=>Value.int .i64 h.2)):=Lib.hid (hS2.alloc _);have N4:Hid (K.M≤(w2.alloc (.cells #[.int .i64 v] 2)).heap.size):=Lib.hid (by simp;omega);replace hb2:=Lib.hid hb2;replace hl2:=Lib.hid hl2;replace he2:=Lib.hid he2;replace hN2:=Lib.hid hN2;replace hG2:=Lib.hid hG2;replace hF2:=Lib.hid hF2;replace hS2:=Lib.hid hS2;replace hH2:=Lib.hid hH2;replace hk2:=Lib.hid hk2;replace hs2:=Lib.hid hs2;replace hat2:=Lib.hid hat2;clear hgrow hWd hneN hlow2 HOW HGR HAT hbwu ku fu lu k11 p0 p1 hpl
  go_upto_region 3 with (first|(at_builtin;refine wpList_append_lies _ rfl _ _ 22 rfl K.M 2 iF _ 1 8 Try.underlying22 hiF hf0 hf1 hf2 rfl (by decide) _ q (K.hs.map fun (h:Nm × Int)=>Value.int .i64 h.2) rfl HOS.out ⟨w2.heap.size,0,none⟩ 1 1 [.int .i64 v] rfl rfl (World.news_of_block (cs:=#[.int .i64 v]) (t:=2) (fr:=(0,0)) (heap_alloc_new w2 _)) (by simp [Value.oneCell']) (by omega) N2.out N3F.out N4.out _ rfl ?_;intro gF cF uF hown hgrow hat hlt3;have hbwu:=Zi hS2.out hgrow hb2.out (by decide);have ku:uF.cell? ⟨K.wb,12,none⟩=some (.slice aS q cS):=(Blk.cell hbwu 12).trans (by rw [← hq.out];exact congrArg some eS.out);have fu:uF.frozen? ⟨K.wb,12,none⟩=false:=Blk.frozen hbwu 12;have lu:=Blk.lt hbwu;have HOW:=Lib.hid hown;have HGR:=Lib.hid hgrow;have HAT:=Lib.hid hat;replace hbwu:=Lib.hid hbwu;clear hown hgrow hat hlt3))
  go_end0
  have hq2:(K.hs ++ [((n1,n2),v)]).length=q + 1:=by rw [List.length_append,hq.out];rfl
  have hneF:∀ b,K.v1.ownBlock=some b→(Value.slice aS q cS).ownBlock≠some b:=fun b hb=>by have:=hK.f b hb;rw [eS.out,hq.out] at this;exact this
  have hneH:∀ b,(Value.slice (some ⟨gN,0,none⟩) (q + 1) cN).ownBlock=some b→(Value.slice aS q cS).ownBlock≠some b:=fun b hb e=>Blk.ne_ (Y0 hH2.out hb) (Y0 hS2.out e) (by decide) rfl;have hlow3:∀ b,b < K.B→(uF.setCell ⟨K.wb,12,none⟩ (.slice (some ⟨gF,0,none⟩) (q + 1) cF)).heap[b]? = w2.heap[b]?:=fun b hb=>by
   have h1:=hK.low;have h2:=hK.wb;have h3:=hs2.out;rw [Below.heap_setCell _ _ _ b (by show b≠K.wb;omega),HGR.out.block b (by simp;omega) (fun e=>by have:=XE hS2.out e.symm;omega)];exact Below.heap_alloc _ _ b (by omega)
  refine ⟨rfl,(.slice (some ⟨gN,0,none⟩) (q + 1) cN),(.slice (some ⟨gF,0,none⟩) (q + 1) cF),⟨?_,hl2.out.of hlow3,he2.out.of hlow3,?_,?_,?_,?_,?_,hW.out.len⟩,⟨fun b hb e=>?_,fun b hb e=>?_,hK.low,hK.wb⟩,?_⟩
  ·have:Blk (uF.setCell ⟨K.wb,12,none⟩ (.slice (some ⟨gF,0,none⟩) (q + 1) cF)) K.wb 61 (UZ K.e K.n (.slice K.aL K.L.length K.cL) K.vW K.vR (.slice K.al K.left.length K.cl) K.vF false K.vN K.vG K.v1 (.slice (some ⟨gN,0,none⟩) (q + 1) cN) (.slice (some ⟨gF,0,none⟩) (q + 1) cF)):=Blk.set_ hbwu.out 12 _
   unfold Wk.obj Wk.more;exact this
  ·exact Ye (YA hS2.out HGR.out hN2.out (by decide)) hbwu.out (by decide) 12 (.slice (some ⟨gF,0,none⟩) (q + 1) cF)
  ·exact Ye (YA hS2.out HGR.out hG2.out (by decide)) hbwu.out (by decide) 12 (.slice (some ⟨gF,0,none⟩) (q + 1) cF)
  ·exact Ye (Wx hS2.out HGR.out hF2.out hneF) hbwu.out (by decide) 12 (.slice (some ⟨gF,0,none⟩) (q + 1) cF)
  ·have:=Ye (YA hS2.out HGR.out hH2.out (by decide)) hbwu.out (by decide) 12 (.slice (some ⟨gF,0,none⟩) (q + 1) cF)
   show (uF.setCell ⟨K.wb,12,none⟩ (.slice (some ⟨gF,0,none⟩) (q + 1) cF)).ownsRow K.M 51 2 (.slice (some ⟨gN,0,none⟩) (q + 1) cN) (K.hs ++ [((n1,n2),v)]).length ((List.range (K.hs ++ [((n1,n2),v)]).length).flatMap fun i=>nmL ((K.hs ++ [((n1,n2),v)]).getD i ((0,0),0)).1);rw [XcD,hq2,hq.out];exact this
  ·have:=Ye HOW.out hbwu.out (by decide) 12 (.slice (some ⟨gF,0,none⟩) (q + 1) cF)
   show (uF.setCell ⟨K.wb,12,none⟩ (.slice (some ⟨gF,0,none⟩) (q + 1) cF)).ownsRow K.M 2 1 (.slice (some ⟨gF,0,none⟩) (q + 1) cF) (K.hs ++ [((n1,n2),v)]).length ((K.hs ++ [((n1,n2),v)]).map fun h=>.int .i64 h.2);rw [hq2,List.map_append];exact this
  ·replace e:(Value.slice (some ⟨gN,0,none⟩) (q + 1) cN).ownBlock=some b:=e
   rcases hat2.out with h|h
   ·exact hK.n b hb (by rw [eH.out,hq.out,h];exact e)
   ·have:=own_lt hW1.out.nms hb
    simp [Value.ownBlock] at e h
    omega
  ·replace e:(Value.slice (some ⟨gF,0,none⟩) (q + 1) cF).ownBlock=some b:=e
   rcases HAT.out with h|h
   ·have h':(Value.slice aS q cS).ownBlock=some gF:=h
    exact hneF b hb (h'.trans e)
   ·have:=own_lt hF2.out hb
    simp [Value.ownBlock] at e h
    omega
  ·refine Kept.set (S:=K.told) ?_ (p:=⟨K.wb,12,none⟩) (.inl rfl) _
   have h3:=hk2.out.size;refine ⟨HGR.out.os.trans hk2.out.os,HGR.out.tape.trans hk2.out.tape,HGR.out.output.trans hk2.out.output,by have h1:=HGR.out.size;simp at h1;omega,fun b hb hb2=>?_⟩;rw [HGR.out.block b (by simp;omega) (fun e=>hb2 (.inr (.inr (by rw [eS.out,hq.out];exact e)))),Below.heap_alloc _ _ b (by omega)];exact hk2.out.block b hb hb2)
def ZU (L:List Xo) (names:List Nat) (c:Nat) (first:Int):Int:=match L.reverse.find? (fun a=>names.getD a.cell.toNat 0 == c) with
 | some a=>a.now
 | none=>first
end Go.Proofs.Ytdhnggjmegilkaa
namespace Go.Proofs.Ytdhnggjmegilkaa
open Go.Conc Go.RowKit
open Go.ConcN (upd upd_same upd_ne)
namespace Xp
variable {Sh:Type} {P Q:Xp Sh} {sched:List Nat→List Nat→Nat}
def Left (cells:Nat→Int) (R:Xp Sh):Prop :=
 (∀ (q:Nat) (a:Xo),R.st.log[q]? = some a→∃ m:Nat,m < R.st.names.length∧a.cell=m)∧∀ c,R.st.cells c=ZU R.st.log R.st.names c (cells c)
theorem Wv {L:List Xo} {names names':List Nat} {c:Nat} {first:Int} (hn:∃ l,names'=names ++ l) (hm:∀ (q:Nat) (a:Xo),L[q]? = some a→∃ m:Nat,m < names.length∧a.cell=m):ZU L names' c first=ZU L names c first:=by
 obtain ⟨l,rfl⟩:=hn;unfold ZU
 have:L.reverse.find? (fun a=>(names ++ l).getD a.cell.toNat 0 == c)=L.reverse.find? (fun a=>names.getD a.cell.toNat 0 == c):=by
  have h:∀ (M:List Xo),(∀ a∈M,∃ m:Nat,m < names.length∧a.cell=m)→M.find? (fun a=>(names ++ l).getD a.cell.toNat 0 == c)=M.find? (fun a=>names.getD a.cell.toNat 0 == c):=by
   intro M
   induction M with
   | nil=>intro _;rfl
   | cons a M ih =>
    intro h;obtain ⟨m,h1,h2⟩:=h a List.mem_cons_self;have e:(names ++ l).getD a.cell.toNat 0=names.getD a.cell.toNat 0:=by
     rw [List.getD_eq_getElem?_getD,List.getD_eq_getElem?_getD,List.getElem?_append_left (by omega)]
    rw [List.find?_cons,List.find?_cons,e,ih fun b hb=>h b (List.mem_cons_of_mem _ hb)]
  exact h _ fun a ha=>by
   obtain ⟨q,hq⟩:=List.getElem?_of_mem (List.mem_reverse.1 ha);exact hm q a hq
 rw [this]
theorem Wu {L:List Xo} {names:List Nat} {c:Nat} {first:Int} {a:Xo}:ZU (L ++ [a]) names c first=if names.getD a.cell.toNat 0=c then a.now else ZU L names c first:=by
 unfold ZU;rw [List.reverse_append,List.reverse_singleton,List.singleton_append,List.find?_cons]
 by_cases h:names.getD a.cell.toNat 0=c
 ·rw [if_pos h,show (names.getD a.cell.toNat 0 == c)=true by simpa using h]
 ·rw [if_neg h,show (names.getD a.cell.toNat 0 == c)=false by simpa using h]
theorem Goes.left (hs:Zs sched) (h:Goes sched P Q) (cells:Nat→Int) (hP:Left cells P):Left cells Q:=by
 refine Goes.keeps (I:=Left cells) hs (fun R q r k ⟨h1,h2⟩ _ _ hp _=>?_) h hP;rw [turn_acc hp];have hidx:∃ m:Nat,m < (if r.cell∈R.st.names then R.st.names else R.st.names ++ [r.cell]).length∧R.st.num r.cell=m∧(if r.cell∈R.st.names then R.st.names else R.st.names ++ [r.cell]).getD m 0=r.cell:=by
  refine ⟨R.st.names.idxOf r.cell,?_,rfl,?_⟩
  ·split
   ·rename_i e;exact List.idxOf_lt_length_iff.2 e
   ·rename_i e;rw [List.idxOf_eq_length e];simp
  ·split
   ·rename_i e
    rw [List.getD_eq_getElem?_getD,List.getElem?_eq_getElem (List.idxOf_lt_length_iff.2 e)];simp
   ·rename_i e
    rw [List.idxOf_eq_length e,List.getD_eq_getElem?_getD,List.getElem?_append_right (Nat.le_refl _)];simp
 have hmore:∃ l,(if r.cell∈R.st.names then R.st.names else R.st.names ++ [r.cell])=R.st.names ++ l:=by
  split
  ·exact ⟨[],by simp⟩
  ·exact ⟨_,rfl⟩
 obtain ⟨m,m1,m2,m3⟩:=hidx;generalize (if r.cell∈R.st.names then R.st.names else R.st.names ++ [r.cell])=names' at m1 m3 hmore ⊢;refine ⟨fun i a hi=>?_,fun c=>?_⟩
 ·replace hi:(R.st.log ++ [R.st.entry q r])[i]? = some a:=hi
  rcases Nat.lt_or_ge i R.st.log.length with hl|hl
  ·rw [List.getElem?_append_left hl] at hi
   obtain ⟨m',a1,a2⟩:=h1 i a hi;obtain ⟨l,rfl⟩:=hmore;exact ⟨m',by rw [List.length_append];omega,a2⟩
  ·rw [List.getElem?_append_right hl] at hi
   have:=(List.getElem?_eq_some_iff.1 hi).1
   have e:i - R.st.log.length=0:=by simp at this;omega
   rw [e] at hi;obtain rfl:R.st.entry q r=a:=by simpa using hi
   exact ⟨m,m1,m2⟩
 ·show upd R.st.cells r.cell (R.st.ans r).now c=ZU (R.st.log ++ [R.st.entry q r]) names' c (cells c)
  rw [Wu,Wv hmore h1];have e1:names'.getD (R.st.entry q r).cell.toNat 0=r.cell:=by
   rw [show (R.st.entry q r).cell=(m:Int) from m2,Int.toNat_natCast];exact m3
  rw [e1]
  by_cases e:c=r.cell
  ·subst e;rw [upd_same,if_pos rfl];rfl
  ·rw [upd_ne _ _ e,if_neg fun z=>e z.symm];exact h2 c

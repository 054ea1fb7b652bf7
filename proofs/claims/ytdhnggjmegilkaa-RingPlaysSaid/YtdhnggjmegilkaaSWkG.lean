/- The record's check: the cells' numbers, and what each access finds and leaves. Conditions: what the check's cells hold; the record is a run's. -/
import Derived.Test.YtdhnggjmegilkaaSWkF
set_option linter.all false
set_option maxRecDepth 100000
set_option maxHeartbeats 16000000
namespace Go.Proofs.Ytdhnggjmegilkaa
open Go.RowKit
theorem Xcw {w:World} {N:Nat} {e:TypeId} {v:Value} {n m g cap:Nat} {xs:List Value} {u:Value} (h:w.ownsRow N e 1 v n xs) (hv:v=.slice (some ⟨g,0,none⟩) n cap) (hm:m < n):(w.setCell ⟨g,m,none⟩ u).ownsRow N e 1 v n (xs.set m u):=by
 obtain ⟨h1,h2|⟨g',cap',cur,hv',hb,hg,hn,hc,hs,ht⟩⟩:=h
 ·omega
 ·rw [hv'] at hv
  injection hv with e1 _ e3
  injection e1 with e1
  injection e1 with e1 _
  subst e1 e3;refine ⟨by rw [List.length_set];exact h1,.inr ⟨g',cap',cur.setIfInBounds m u,hv',hb,Blk.set_ (w:=w) hg m u,hn,hc,by simpa using hs,?_⟩⟩;rw [← ht,Array.toList_setIfInBounds,List.take_set]
theorem Z2 {w:World} {N:Nat} {e:TypeId} {size:Nat} {v:Value} {n:Nat} {xs:List Value} (h:w.ownsRow N e size v n xs) (hn:n≠0):∃ g cap,v=.slice (some ⟨g,0,none⟩) n cap∧N≤g∧g < w.heap.size∧w.frozen? ⟨g,0,none⟩=false∧(∀ j,w.frozen? ⟨g,j,none⟩=false)∧∀ i u,xs[i]? = some u→w.cell? ⟨g,i,none⟩=some u:=by
 rcases h.2 with ⟨_,h0⟩|⟨g,cap,cur,rfl,hb,hg,_,_,_,ht⟩
 ·exact absurd h0 hn
 ·refine ⟨g,cap,rfl,hb,(Array.getElem?_eq_some_iff.1 hg).1,Blk.frozen (w:=w) hg 0,fun j=>Blk.frozen (w:=w) hg j,fun i u hu=>?_⟩
  rw [Blk.cell (w:=w) hg,← Array.getElem?_toList];rw [← ht,List.getElem?_take] at hu
  split at hu
  ·exact hu
  ·cases hu
structure XaA (L left:List Xo) (nowAt firstAt:Nat→List Int):Prop where
 now0:nowAt 0 = []
 first0:firstAt 0 = []
 op:∀ (i:Nat) (a:Xo),L[i]? = some a→(1≤a.op∧a.op≤6)∧(a.op≠3→a.new=0)∧(a.op=1→a.arg=0)∧(a.now,a.ok)=behind a.op a.was a.arg a.new∧¬ (a.op=6∧a.was=a.arg)
 cell:∀ (i:Nat) (a:Xo),L[i]? = some a→∃ m:Nat,a.cell=m∧((m=(nowAt i).length∧nowAt (i + 1)=nowAt i ++ [a.now]∧firstAt (i + 1)=firstAt i ++ [a.was])∨((nowAt i)[m]? = some a.was∧nowAt (i + 1)=(nowAt i).set m a.now∧firstAt (i + 1)=firstAt i))
 left:∀ a,a∈left→-1≤a.cell∧a.cell < (nowAt L.length).length∧(0≤a.cell→(nowAt L.length)[a.cell.toNat]? = some a.was)∧a.now=a.was∧a.ok=false
theorem XaA.lens {L left:List Xo} {nowAt firstAt:Nat→List Int} (h:XaA L left nowAt firstAt):∀ i,i≤L.length→(nowAt i).length≤i∧(firstAt i).length=(nowAt i).length:=by
 intro i
 induction i with
 | zero=>intro _;rw [h.now0,h.first0];simp
 | succ i ih =>
  intro hi;obtain ⟨h1,h2⟩:=ih (by omega);obtain ⟨m,_,q⟩:=h.cell i _ (List.getElem?_eq_getElem (by omega));rcases q with ⟨_,q1,q2⟩|⟨_,q1,q2⟩
  ·rw [q1,q2];simp;omega
  ·rw [q1,q2];simp;omega
theorem Xai:(Try.prog.info? 2).map (fun i=>(i.zero,i.size,i.bytes))=some (some (.int .i64 0),1,8):=by kernel_rfl
def YO (l:List Int):List Value:=l.map fun x=>.int .i64 x
def XgH (L:List Xo) (A:Value→Array Value) (nowAt firstAt:Nat→List Int) (cb:Nat) (w:World) (nw i:Value) (wr:World):Prop :=
 ∃ (k:Nat) (vC:Value),k≤L.length∧i=.int .i64 k∧Blk wr cb 190 (A vC)∧wr.ownsRow w.heap.size 2 1 nw (nowAt k).length (YO (nowAt k))∧wr.ownsRow w.heap.size 2 1 vC (firstAt k).length (YO (firstAt k))∧(∀ b,nw.ownBlock=some b→vC.ownBlock≠some b)∧Kept (fun q=>q=cb) w wr
def XgI (left:List Xo) (w:World) (i:Value) (wr:World):Prop:=∃ q:Nat,q≤left.length∧i=.int .i64 q∧Kept (fun _=>False) w wr
theorem Xbs {e:Int} {nr:Nat} {aL al:Option Addr} {vW vR vF vP vT:Value} {cL cl cb B:Nat} {most last:Int} {L left:List Xo} {nowAt firstAt:Nat→List Int} {w:World}
 (hb:Blk w cb 190 (ckA e nr (.slice aL L.length cL) vW vR (.slice al left.length cl) vF vP most vT (.slice none 0 0) last)) (hL:XW w B aL L) (hl:XW w B al left) (hcbB:B≤cb) (hlenL:L.length≤100000) (hok:XaA L left nowAt firstAt) :
 Calls Try.prog 86 #[.pointer (some ⟨cb,0,none⟩)] w (fun e' w'=>e'=.returned (.bool true)∧Kept (fun q=>q=cb) w w'∧∃ vC,Blk w' cb 190 (ckA e nr (.slice aL L.length cL) vW vR (.slice al left.length cl) vF vP most vT vC last)∧w'.ownsRow w.heap.size 2 1 vC (firstAt L.length).length (YO (firstAt L.length))):=by
 have HB:=Lib.hid hb;have HL:=Lib.hid hL;have Hl:=Lib.hid hl;have HOK:=Lib.hid hok;have hcb:=Blk.lt hb;clear hb hL hl hok
 go_enter Try.func86,Try.ntmps86
 go_upto_region 3 with (fail)
 go_loopw [3,4] (fun nw i wr=>XgH L (fun vC=>ckA e nr (.slice aL L.length cL) vW vR (.slice al left.length cl) vF vP most vT vC last) nowAt firstAt cb w nw i wr) (fun _ i _=>L.length - (intOf i).toNat)
 case atStart=>exact ⟨0,_,Nat.zero_le _,rfl,HB.out,by rw [HOK.out.now0];exact X7,by rw [HOK.out.first0];exact X7,fun b h=>by simp [Value.ownBlock] at h,Kept.refl _ w⟩
 case round =>
  obtain ⟨k,vC,hk,rfl,hB',hN,hF,hNC,hKp⟩:=hrel;have c2:wr.cell? ⟨cb,2,none⟩=some (.slice aL L.length cL):=Blk.cell hB' 2;have hcbr:=Blk.lt hB';have hlow':∀ q,q < B→wr.heap[q]? = w.heap[q]?:=fun q hq=>hKp.block q (by omega) (by omega);have HL':=Lib.hid (HL.out.of hlow');obtain ⟨hln,hlf⟩:=HOK.out.lens k hk;have hfl:(firstAt k).length≤k:=by omega
  replace hlf:=Lib.hid hlf;obtain ⟨an,cn,rfl⟩:=Xq hN;obtain ⟨af,cf,rfl⟩:=Xq hF;replace hB':=Lib.hid hB';replace hN:=Lib.hid hN;replace hF:=Lib.hid hF;replace hNC:=Lib.hid hNC;replace hKp:=Lib.hid hKp;replace hlow':=Lib.hid hlow'
  by_cases hkn:k < L.length
  ·obtain ⟨a,ha⟩:∃ a,L[k]? = some a:=⟨_,List.getElem?_eq_getElem hkn⟩
   obtain ⟨g,off,rfl,hgB,hA⟩:=HL'.out.at_ k a ha;obtain ⟨q0,q1,q2,q3,q4,q5,q6,q7⟩:=Yt hA;clear hA;obtain ⟨⟨o1,o2⟩,o3,o4,o5,o6⟩:=HOK.out.op k a ha;obtain ⟨m,hm,hcase⟩:=HOK.out.cell k a ha;have x0:decide (k < L.length)=true:=by simpa using hkn
   have x1:decide ((k:Int) < L.length)=true:=by simp;omega
   have x2:(k:Int) < L.length:=by omega
   have x3:(0:Int)≤k:=by omega
   have hw0:IntKind.i64.wrap ((k:Int) + 1)=((k + 1:Nat):Int):=by rw [IntKind.wrap_i64];omega
   replace o3:=Lib.hid o3;replace o4:=Lib.hid o4;replace o5:=Lib.hid o5;replace o6:=Lib.hid o6;replace hcase:=Lib.hid hcase;replace ha:=Lib.hid ha;have p8:decide (a.op=8)=false:=decide_eq_false (by omega);have p8':(a.op == 8)=false:=beq_eq_false_iff_ne.2 (by omega);have p7:decide (a.op=7)=false:=decide_eq_false (by omega);have p7':(a.op == 7)=false:=beq_eq_false_iff_ne.2 (by omega);have l1:decide (a.op < 1)=false:=decide_eq_false (by omega);have l2:decide (6 < a.op)=false:=decide_eq_false (by omega);have hml:m≤(nowAt k).length:=by
    rcases hcase.out with ⟨h,_⟩|⟨h,_⟩
    ·omega
    ·have:=(List.getElem?_eq_some_iff.1 h).1;omega
   have l3:decide ((m:Int) < 0)=false:=by simp
   have l4:decide (((nowAt k).length:Int) < m)=false:=decide_eq_false (by omega);have l4':decide ((nowAt k).length < m)=false:=decide_eq_false (by omega);have hcl:∃ c3 c1 c6 nz az wa:Bool,decide (a.op=3)=c3∧decide (a.op=1)=c1∧decide (a.op=6)=c6∧(a.new != 0)=nz∧(a.arg != 0)=az∧(a.was == a.arg)=wa∧((c3=true∧c1=false∧c6=false)∨(c3=false∧nz=false∧c1=true∧az=false∧c6=false)∨(c3=false∧nz=false∧c1=false∧c6=true∧wa=false)∨(c3=false∧nz=false∧c1=false∧c6=false)):=by
    refine ⟨_,_,_,_,_,_,rfl,rfl,rfl,rfl,rfl,rfl,?_⟩
    by_cases h3:a.op=3
    ·left;simp [h3]
    ·have hn:=o3.out h3
     by_cases h1:a.op=1
     ·right;left;simp [h1,hn,o4.out h1]
     ·by_cases h6:a.op=6
      ·right;right;left
       have:¬ a.was=a.arg:=fun e=>o6.out ⟨h6,e⟩
       simp [h6,hn,this]
      ·right;right;right;simp [h3,h1,h6,hn]
   obtain ⟨c3,c1,c6,nz,az,wa,t3,t1,t6,tn,ta,tw,hcl⟩:=hcl;have t3':(a.op == 3)=c3:=by rw [← t3];rfl
   have t1':(a.op == 1)=c1:=by rw [← t1];rfl
   have t6':(a.op == 6)=c6:=by rw [← t6];rfl
   have t3'':(a.op != 3) = !c3:=by rw [← t3'];rfl
   go_upto_region 6 with (fail)
   have hb9:Blk (wr.alloc (.cells #[.int .i64 a.thread,.int .i8 a.op,.int .i64 m,.int .i64 a.arg,.int .i64 a.new,.int .i64 a.was,.int .i64 a.now,.bool a.ok] 172)) wr.heap.size 172 #[.int .i64 a.thread,.int .i8 a.op,.int .i64 m,.int .i64 a.arg,.int .i64 a.new,.int .i64 a.was,.int .i64 a.now,.bool a.ok]:=Blk.new wr _ _;have ho9:∀ q,q < wr.heap.size→((wr.alloc (.cells #[.int .i64 a.thread,.int .i8 a.op,.int .i64 m,.int .i64 a.arg,.int .i64 a.new,.int .i64 a.was,.int .i64 a.now,.bool a.ok] 172))).heap[q]? = wr.heap[q]?:=fun q hq=>Below.heap_alloc _ _ q hq;have hk9:=hKp.out.alloc (.cells #[.int .i64 a.thread,.int .i8 a.op,.int .i64 m,.int .i64 a.arg,.int .i64 a.new,.int .i64 a.was,.int .i64 a.now,.bool a.ok] 172);generalize (wr.alloc (.cells #[.int .i64 a.thread,.int .i8 a.op,.int .i64 m,.int .i64 a.arg,.int .i64 a.new,.int .i64 a.was,.int .i64 a.now,.bool a.ok] 172))=w1 at hb9 ho9 hk9 ⊢;generalize hg9:wr.heap.size=g9 at hb9 ho9 hcbr ⊢;clear q0 q1 q2 q3 q4 q5 q6 q7 c2;have z1:w1.cell? ⟨g9,1,none⟩=some (.int .i8 a.op):=Blk.cell hb9 1;have z2:w1.cell? ⟨g9,2,none⟩=some (.int .i64 m):=Blk.cell hb9 2;have z3:w1.cell? ⟨g9,3,none⟩=some (.int .i64 a.arg):=Blk.cell hb9 3;have z4:w1.cell? ⟨g9,4,none⟩=some (.int .i64 a.new):=Blk.cell hb9 4;have z5:w1.cell? ⟨g9,5,none⟩=some (.int .i64 a.was):=Blk.cell hb9 5;have z6:w1.cell? ⟨g9,6,none⟩=some (.int .i64 a.now):=Blk.cell hb9 6;have z7:w1.cell? ⟨g9,7,none⟩=some (.bool a.ok):=Blk.cell hb9 7;have hg91:=Blk.lt hb9;have hB1:=(ho9 cb hcbr).trans hB'.out;have hN1:=Xj (w':=w1) hN.out fun b h=>ho9 b (by have:=own_lt hN.out h;omega);have hF1:=Xj (w':=w1) hF.out fun b h=>ho9 b (by have:=own_lt hF.out h;omega);have hBeh:∀ w':World,Calls Try.prog 28 #[.int .i8 a.op,.int .i64 a.was,.int .i64 a.arg,.int .i64 a.new] w' (fun e w''=>e=.returned (.tuple #[.int .i64 a.now,.bool a.ok])∧w''=w'):=fun w'=>by
    have:=XbF a.op a.was a.arg a.new ⟨o1,o2⟩ w'
    rw [← o5.out] at this;exact this
   replace hBeh:=Lib.hid hBeh;replace hB1:=Lib.hid hB1;replace hN1:=Lib.hid hN1;replace hF1:=Lib.hid hF1;replace hk9:=Lib.hid hk9;clear ho9 hb9;rcases hcase.out with ⟨hm2,hn2,hf2⟩|⟨hm2,hn2,hf2⟩
   ·obtain rfl:m=(nowAt k).length:=hm2
    obtain ⟨i0,hi0,hz0,hz1,hz2⟩:=XM Xai;have hN2:Hid ((w1.alloc (.cells #[.int .i64 a.was] 2)).ownsRow w.heap.size 2 1 (.slice an (nowAt k).length cn) (nowAt k).length (YO (nowAt k))):=Lib.hid (hN1.out.alloc _);have N2:Hid ((nowAt k).length + 1≤maxLen):=Lib.hid (by unfold maxLen;omega);have N3:Hid (((nowAt k).length + 1) * 8≤140737488355328):=Lib.hid (by omega);have N4:Hid (w.heap.size≤(w1.alloc (.cells #[.int .i64 a.was] 2)).heap.size):=Lib.hid (by have:=hk9.out.size;simp;omega);rcases hcl with ⟨rfl,rfl,rfl⟩|⟨rfl,rfl,rfl,rfl,rfl⟩|⟨rfl,rfl,rfl,rfl,rfl⟩|⟨rfl,rfl,rfl,rfl⟩
    all_goals as_aux_lemma=>(
     go_upto_region 13 with (first|(at_builtin;refine wpList_append_lies _ rfl _ _ 22 rfl w.heap.size 2 i0 _ 1 8 Try.underlying22 hi0 hz0 hz1 hz2 rfl (by decide) _ (nowAt k).length (YO (nowAt k)) rfl hN2.out ⟨w1.heap.size,0,none⟩ 1 1 [.int .i64 a.was] rfl rfl (World.news_of_block (cs:=#[.int .i64 a.was]) (t:=2) (fr:=(0,0)) (heap_alloc_new w1 _)) (by simp [Value.oneCell']) (by omega) N2.out N3.out N4.out _ rfl ?_;intro gn cap2 w2 hown hgrow hat hlt3;have HOWN:=Lib.hid hown;have HGROW:=Lib.hid hgrow;have HAT:=Lib.hid hat;clear hown hgrow hat hlt3))
     have hold:∀ q,q < w1.heap.size→some q≠(Value.slice an (nowAt k).length cn).ownBlock→w2.heap[q]? = w1.heap[q]?:=fun q h1 h2=>by
      rw [HGROW.out.block q (by simp;omega) h2];exact Below.heap_alloc _ _ q h1
     have hnb:∀ b,(Value.slice an (nowAt k).length cn).ownBlock=some b→w.heap.size≤b∧b < g9:=fun b h=>⟨XE hN.out h,by have:=own_lt hN.out h;omega⟩
     have hB2:=(hold cb (by omega) (fun h=>by have:=(hnb cb h.symm).1;omega)).trans hB1.out;have k0:w2.cell? ⟨cb,10,none⟩=some (.slice af (firstAt k).length cf):=Blk.cell (w:=w2) hB2 10;have f0:w2.frozen? ⟨cb,10,none⟩=false:=Blk.frozen (w:=w2) hB2 10;have h9:w2.heap[g9]? = w1.heap[g9]?:=hold g9 hg91 (fun h=>by have:=(hnb g9 h.symm).2;omega);have hF2:=Xj (w':=w2) hF1.out fun b h=>hold b (by have:=own_lt hF1.out h;omega) (fun e=>hNC.out b e.symm h);have hs2:w1.heap.size≤w2.heap.size:=by have:=HGROW.out.size;simp at this;omega
     have s5:w2.cell? ⟨g9,5,none⟩=some (.int .i64 a.was):=by simp only [World.cell?] at z5 ⊢;rw [h9];exact z5
     have HOT:Hid (((w2.alloc (.cells #[.int .i64 a.was] 2)).drew).ownsRow w.heap.size 2 1 (.slice af (firstAt k).length cf) (firstAt k).length (YO (firstAt k))):=Lib.hid ((hF2.alloc _).drew);have M2:Hid ((firstAt k).length + 1≤maxLen):=Lib.hid (by unfold maxLen;omega);have M3:Hid (((firstAt k).length + 1) * 8≤140737488355328):=Lib.hid (by omega);have hwM:w.heap.size≤w2.heap.size:=by have:=hk9.out.size;omega
     have e0:cb < w2.heap.size:=by omega
     have e1':cb < w2.heap.size + 1:=by omega
     have e2':g9 < w2.heap.size:=by omega
     have e3':g9 < w2.heap.size + 1:=by omega
     replace hold:=Lib.hid hold;replace hnb:=Lib.hid hnb;replace hB2:=Lib.hid hB2;replace h9:=Lib.hid h9;replace hF2:=Lib.hid hF2;replace hs2:=Lib.hid hs2
     go_region_law (first
      | (refine step_append_lies _ (by rfl) _ _ _ (by rfl) w.heap.size 2 i0 _ 1 8 Try.underlying22 hi0 hz0 hz1 hz2 rfl (by omega) (.slice af (firstAt k).length cf) (firstAt k).length (YO (firstAt k)) (by rfl) HOT.out ⟨w2.heap.size,0,none⟩ 1 1 [.int .i64 a.was] (by rfl) (by rfl) (World.news_of_block (cs:=#[.int .i64 a.was]) (t:=2) (fr:=(0,0)) (heap_alloc_new w2 _)) (by simp [Value.oneCell']) (by omega) M2.out M3.out (by first | (simp;omega) | (simp;done)) (w2.heap.size + 1) (by simp) ?_
         intro gc cap3 w3 HG1 HG2 HG3 HG4;have HB3:=Lib.hid HG2;have HO3:=Lib.hid HG1;have HG:=Lib.hid HG3;clear HG1 HG2 HG3 HG4;have g0:w3.heap[cb]? = w2.heap[cb]?:=by
          rw [HB3.out.block cb (by simp;omega) (fun e=>by have:=XE hF.out e.symm;omega)];exact Below.heap_alloc _ _ cb e0
         have HQ:=Lib.hid g0;have q0:w3.cell? ⟨cb,10,none⟩=some (.slice af (firstAt k).length cf):=Blk.cell (w:=w3) (g0.trans hB2.out) 10;have q1:w3.frozen? ⟨cb,10,none⟩=false:=Blk.frozen (w:=w3) (g0.trans hB2.out) 10;clear g0))
     all_goals (
      have hgv:(Value.slice af (firstAt k).length cf).ownBlock≠some gn:=fun h=>by
       have hv1:=XE hF.out h;have hv2:=own_lt hF.out h;rcases HAT.out with q|q
       ·exact hNC.out gn q h
       ·simp at q;omega
      have hgnl:=own_lt HOWN.out (g:=gn) rfl;have hgnM:=XE HOWN.out (g:=gn) rfl;have hgcM:=XE HO3.out (g:=gc) rfl;have hcgn:cb≠gn:=by omega
      have hcgc:cb≠gc:=by omega
      have hB4:Blk (w3.setCell ⟨cb,10,none⟩ (.slice (some ⟨gc,0,none⟩) ((firstAt k).length + 1) cap3)) cb 190 (ckA e nr (.slice (some ⟨g,off,none⟩) L.length cL) vW vR (.slice al left.length cl) vF vP most vT (.slice (some ⟨gc,0,none⟩) ((firstAt k).length + 1) cap3) last):=Blk.set_ (w:=w3) (HQ.out.trans hB2.out) 10 _;have hN4:((w3.setCell ⟨cb,10,none⟩ (.slice (some ⟨gc,0,none⟩) ((firstAt k).length + 1) cap3))).ownsRow w.heap.size 2 1 (.slice (some ⟨gn,0,none⟩) ((nowAt k).length + 1) cap2) ((nowAt k).length + 1) (YO (nowAt k) ++ [.int .i64 a.was]):=Xj HOWN.out fun b hb=>by
       obtain rfl:gn=b:=by simpa [Value.ownBlock] using hb
       rw [Below.heap_setCell _ _ _ gn (fun e=>hcgn e.symm),HB3.out.block gn (by simp;omega) (fun e=>hgv e.symm)];exact Below.heap_alloc _ _ gn hgnl
      have hF4:((w3.setCell ⟨cb,10,none⟩ (.slice (some ⟨gc,0,none⟩) ((firstAt k).length + 1) cap3))).ownsRow w.heap.size 2 1 (.slice (some ⟨gc,0,none⟩) ((firstAt k).length + 1) cap3) ((firstAt k).length + 1) (YO (firstAt k) ++ [.int .i64 a.was]):=Xj HO3.out fun b hb=>by
       obtain rfl:gc=b:=by simpa [Value.ownBlock] using hb
       exact Below.heap_setCell _ _ _ gc (fun e=>hcgc e.symm)
      have hgnc:gn≠gc:=fun e=>by
       rcases HG.out with q|q
       ·exact hgv (by rw [e];exact q)
       ·omega
      have h94:((w3.setCell ⟨cb,10,none⟩ (.slice (some ⟨gc,0,none⟩) ((firstAt k).length + 1) cap3))).heap[g9]? = w1.heap[g9]?:=by
       rw [Below.heap_setCell _ _ _ g9 (fun e=>by have:g9=cb:=e;omega),HB3.out.block g9 (by simp;omega) (fun e=>by have:=own_lt hF.out e.symm;omega)];exact (Below.heap_alloc _ _ g9 (by omega)).trans h9.out
      have hs4:w1.heap.size≤((w3.setCell ⟨cb,10,none⟩ (.slice (some ⟨gc,0,none⟩) ((firstAt k).length + 1) cap3))).heap.size:=by have h1:=HB3.out.size;have h2:=hs2.out;simp at h1 ⊢;omega
      have hk4:Kept (fun q=>q=cb) w (w3.setCell ⟨cb,10,none⟩ (.slice (some ⟨gc,0,none⟩) ((firstAt k).length + 1) cap3)):=by
       refine Kept.set (S:=fun q=>q=cb) ?_ (p:=⟨cb,10,none⟩) rfl _;refine ⟨HB3.out.os.trans (HGROW.out.os.trans hk9.out.os),HB3.out.tape.trans (HGROW.out.tape.trans hk9.out.tape),HB3.out.output.trans (HGROW.out.output.trans hk9.out.output),by have h1:=HB3.out.size;have h2:=hs2.out;have h3:=hk9.out.size;simp at h1;omega,fun q hq hn=>?_⟩;rw [HB3.out.block q (by simp;omega) (fun e=>by have:=XE hF.out e.symm;omega)];refine (Below.heap_alloc _ _ q (by show q < w2.heap.size;omega)).trans ((hold.out q (by have:=hk9.out.size;omega) (fun e=>by have:=XE hN.out e.symm;omega)).trans (hk9.out.block q hq hn))
      generalize (w3.setCell ⟨cb,10,none⟩ (.slice (some ⟨gc,0,none⟩) ((firstAt k).length + 1) cap3))=w4 at hB4 hN4 hF4 h94 hs4 hk4 ⊢;have v1:w4.cell? ⟨g9,1,none⟩=w1.cell? ⟨g9,1,none⟩:=by simp only [World.cell?];rw [h94]
      rw [z1] at v1;have v2:w4.cell? ⟨g9,2,none⟩=w1.cell? ⟨g9,2,none⟩:=by simp only [World.cell?];rw [h94]
      rw [z2] at v2;have v3:w4.cell? ⟨g9,3,none⟩=w1.cell? ⟨g9,3,none⟩:=by simp only [World.cell?];rw [h94]
      rw [z3] at v3;have v4:w4.cell? ⟨g9,4,none⟩=w1.cell? ⟨g9,4,none⟩:=by simp only [World.cell?];rw [h94]
      rw [z4] at v4;have v5:w4.cell? ⟨g9,5,none⟩=w1.cell? ⟨g9,5,none⟩:=by simp only [World.cell?];rw [h94]
      rw [z5] at v5;have v6:w4.cell? ⟨g9,6,none⟩=w1.cell? ⟨g9,6,none⟩:=by simp only [World.cell?];rw [h94]
      rw [z6] at v6;have v7:w4.cell? ⟨g9,7,none⟩=w1.cell? ⟨g9,7,none⟩:=by simp only [World.cell?];rw [h94]
      rw [z7] at v7;obtain ⟨gq,cq,eq,_,_,_,hgf,hgc⟩:=Z2 hN4 (by omega);injection eq with eq1 _ eq3
      injection eq1 with eq1
      injection eq1 with eq1 _
      subst eq1 eq3;have zm:w4.cell? ⟨gn,(nowAt k).length,none⟩=some (.int .i64 a.was):=hgc _ _ (by unfold YO;simp);have fz:w4.frozen? ⟨gn,(nowAt k).length,none⟩=false:=hgf _;have hg94:g9 < w4.heap.size:=by omega
      have hgn4:gn < w4.heap.size:=own_lt hN4 (g:=gn) rfl;have i1:((nowAt k).length:Int) < ((nowAt k).length + 1:Nat):=by omega
      have i2:(0:Int)≤(nowAt k).length:=by omega
      have i3:((nowAt k).length:Int) < ((nowAt k).length:Int) + 1:=by omega
      replace hB4:=Lib.hid hB4;replace hN4:=Lib.hid hN4;replace hF4:=Lib.hid hF4;replace hk4:=Lib.hid hk4;replace h94:=Lib.hid h94;clear z1 z2 z3 z4 z5 z6 z7 s5 k0 f0 hgf hgc
      go_upto_region 15 with (go_at_call 28;go_must (refine (hBeh.out _).mono ?_);rintro e1 w' ⟨h1,h2⟩;rw [h1,h2];clear h1 h2)
      go_region
      go_upto_region 17 with (fail)
      go_wp2_with fail
      refine ⟨⟨k + 1,.slice (some ⟨gc,0,none⟩) ((firstAt k).length + 1) cap3,by omega,by first|rfl|simp,Blk.far (w:=w4.drew) (p:=⟨gn,(nowAt k).length,none⟩) hB4.out hcgn _,?_,?_,fun b hb e=>hgnc (by simp [Value.ownBlock] at hb e;omega),?_⟩,by simp [intOf];omega⟩
      ·rw [hn2,List.length_append,List.length_singleton]
       have hset:YO (nowAt k ++ [a.now])=(YO (nowAt k) ++ [Value.int .i64 a.was]).set (nowAt k).length (.int .i64 a.now):=by unfold YO;simp [List.set_append]
       rw [hset];exact Xcw (w:=w4.drew) hN4.out.drew rfl (by omega)
      ·rw [hf2,List.length_append,List.length_singleton]
       have hset:YO (firstAt k ++ [a.was])=YO (firstAt k) ++ [Value.int .i64 a.was]:=by unfold YO;simp
       rw [hset];refine Xj (w:=w4.drew) hF4.out.drew fun b hb=>Below.heap_setCell _ _ _ b fun e=>hgnc ?_;have h1:gc=b:=by simpa [Value.ownBlock] using hb
       exact (h1.trans (show b=gn from e)).symm
      ·refine Kept.shrink (T:=fun q=>q=cb∨q=gn) ?_ (fun q hq h=>h.resolve_right (by omega))
       exact ((hk4.out.mono (fun q h=>.inl h)).drew).set (p:=⟨gn,(nowAt k).length,none⟩) (.inr rfl) _))
   ·have hlt:=(List.getElem?_eq_some_iff.1 hm2).1
    obtain ⟨gn,cn',en,hgM,hgl,_,hgf,hgc⟩:=Z2 hN1.out (by omega);injection en with en1 _ en3
    subst en1 en3;have zm:w1.cell? ⟨gn,m,none⟩=some (.int .i64 a.was):=hgc m _ (by unfold YO;rw [List.getElem?_map,hm2];rfl);have y1:((m:Int) == (nowAt k).length)=false:=beq_eq_false_iff_ne.2 (by omega);have y2:decide ((m:Int)=(nowAt k).length)=false:=decide_eq_false (by omega);have y3:(m == (nowAt k).length)=false:=beq_eq_false_iff_ne.2 (by omega);have i1:(m:Int) < (nowAt k).length:=by omega
    have i2:(0:Int)≤m:=by omega
    have hgg:gn≠g9:=by have:=own_lt hN.out (g:=gn) rfl;omega
    rcases hcl with ⟨rfl,rfl,rfl⟩|⟨rfl,rfl,rfl,rfl,rfl⟩|⟨rfl,rfl,rfl,rfl,rfl⟩|⟨rfl,rfl,rfl,rfl⟩
    all_goals as_aux_lemma=>(
     go_upto_region 15 with (go_at_call 28;go_must (refine (hBeh.out _).mono ?_);rintro e1 w' ⟨h1,h2⟩;rw [h1,h2];clear h1 h2)
     go_region
     go_upto_region 17 with (fail)
     have fz:w1.frozen? ⟨gn,m,none⟩=false:=hgf m
     go_wp2_with fail
     have hcg:gn≠cb:=by omega
     refine ⟨⟨k + 1,.slice af (firstAt k).length cf,by omega,by first|rfl|simp,Blk.far (w:=w1.drew) (p:=⟨gn,m,none⟩) hB1.out hcg.symm _,?_,?_,hNC.out,?_⟩,by simp [intOf];omega⟩
     ·rw [hn2,List.length_set]
      unfold YO;rw [List.map_set];exact Xcw (w:=w1.drew) hN1.out.drew rfl hlt
     ·rw [hf2]
      refine Xj (w:=w1.drew) hF1.out.drew fun b hb=>Below.heap_setCell _ _ _ b fun e=>?_;exact hNC.out gn rfl (by rw [← show b=gn from e];exact hb)
     ·refine Kept.shrink (T:=fun q=>q=cb∨q=gn) ?_ (fun q hq h=>h.resolve_right (by omega))
      exact ((hk9.out.mono (fun q h=>.inl h)).drew).set (p:=⟨gn,m,none⟩) (.inr rfl) _)
  ·obtain rfl:k=L.length:=by omega
   have x0:decide (L.length < L.length)=false:=by simp
   have x1:decide ((L.length:Int) < L.length)=false:=by simp
   have c5:wr.cell? ⟨cb,5,none⟩=some (.slice al left.length cl):=Blk.cell hB'.out 5;have Hl':=Lib.hid (Hl.out.of hlow'.out)
   go_upto_region 19 with (fail)
   obtain ⟨wo,rfl⟩:∃ wo,wo=wr:=⟨wr,rfl⟩
   go_loopw [8] (fun i wr2=>XgI left wo i wr2) (fun i _=>left.length - (intOf i).toNat)
   case atStart=>exact ⟨0,Nat.zero_le _,rfl,Kept.refl _ _⟩
   case round =>
    obtain ⟨q,hq,rfl,hk2⟩:=hrel;have hold2:∀ r,r < wo.heap.size→wr.heap[r]? = wo.heap[r]?:=fun r hr=>hk2.block r hr id;have hB2:=(hold2 cb hcbr).trans hB'.out;have d5:wr.cell? ⟨cb,5,none⟩=some (.slice al left.length cl):=Blk.cell (w:=wr) hB2 5;have hcb2:cb < wr.heap.size:=by have:=hk2.size;omega
    have hN2:=Xj (w':=wr) hN.out fun b h=>hold2 b (own_lt hN.out h);have Hl2:=Hl'.out.of (w':=wr) fun r hr=>hold2 r (by have:=hKp.out.size;omega);replace hold2:=Lib.hid hold2;replace hB2:=Lib.hid hB2;replace hk2:=Lib.hid hk2
    by_cases hql:q < left.length
    ·obtain ⟨b,hb⟩:∃ b,left[q]? = some b:=⟨_,List.getElem?_eq_getElem hql⟩
     obtain ⟨g,off,rfl,hgB,hA⟩:=Hl2.at_ q b hb;obtain ⟨q0,q1,q2,q3,q4,q5,q6,q7⟩:=Yt hA;clear hA;obtain ⟨o1,o2,o3,o4,o5⟩:=HOK.out.left b (List.mem_of_getElem? hb);rw [o4] at q6;rw [o5] at q7;have y0:decide (q < left.length)=true:=by simpa using hql
     have y1:decide ((q:Int) < left.length)=true:=by simp;omega
     have y2:(q:Int) < left.length:=by omega
     have y3:(0:Int)≤q:=by omega
     have hw0:IntKind.i64.wrap ((q:Int) + 1)=((q + 1:Nat):Int):=by rw [IntKind.wrap_i64];have:=Hl2.small;omega
     have l1:decide (b.cell < -1)=false:=decide_eq_false (by omega);have l2:decide (((nowAt L.length).length:Int)≤b.cell)=false:=decide_eq_false (by omega);clear hb
     go_upto_region 22 with (fail)
     have hb9:Blk (wr.alloc (.cells #[.int .i64 b.thread,.int .i8 b.op,.int .i64 b.cell,.int .i64 b.arg,.int .i64 b.new,.int .i64 b.was,.int .i64 b.was,.bool false] 172)) wr.heap.size 172 #[.int .i64 b.thread,.int .i8 b.op,.int .i64 b.cell,.int .i64 b.arg,.int .i64 b.new,.int .i64 b.was,.int .i64 b.was,.bool false]:=Blk.new wr _ _;have hk9:=hk2.out.alloc (.cells #[.int .i64 b.thread,.int .i8 b.op,.int .i64 b.cell,.int .i64 b.arg,.int .i64 b.new,.int .i64 b.was,.int .i64 b.was,.bool false] 172);have hN9:=Lib.hid (hN2.alloc (.cells #[.int .i64 b.thread,.int .i8 b.op,.int .i64 b.cell,.int .i64 b.arg,.int .i64 b.new,.int .i64 b.was,.int .i64 b.was,.bool false] 172));generalize wr.alloc (.cells #[.int .i64 b.thread,.int .i8 b.op,.int .i64 b.cell,.int .i64 b.arg,.int .i64 b.new,.int .i64 b.was,.int .i64 b.was,.bool false] 172)=w1 at hb9 hk9 hN9 ⊢;generalize hg9:wr.heap.size=g9 at hb9 ⊢;clear q0 q1 q2 q3 q4 q5 q6 q7 d5;have z2:w1.cell? ⟨g9,2,none⟩=some (.int .i64 b.cell):=Blk.cell hb9 2;have z5:w1.cell? ⟨g9,5,none⟩=some (.int .i64 b.was):=Blk.cell hb9 5;have z6:w1.cell? ⟨g9,6,none⟩=some (.int .i64 b.was):=Blk.cell hb9 6;have z7:w1.cell? ⟨g9,7,none⟩=some (.bool false):=Blk.cell hb9 7;have hg91:=Blk.lt hb9;replace hk9:=Lib.hid hk9;clear hb9 hg9
     by_cases h0:0≤b.cell
     ·obtain ⟨m,hm⟩:∃ m:Nat,b.cell=m:=⟨b.cell.toNat,by omega⟩
      have hmv:=o3 h0;rw [hm,Int.toNat_natCast] at hmv;have hml:=(List.getElem?_eq_some_iff.1 hmv).1;obtain ⟨gn,cn',en,_,hgl,_,_,hgc⟩:=Z2 hN9.out (by omega);injection en with en1 _ en3
      subst en1 en3;have zm:w1.cell? ⟨gn,m,none⟩=some (.int .i64 b.was):=hgc m _ (by unfold YO;rw [List.getElem?_map,hmv];rfl);rw [hm] at z2 l1 l2;have l3:decide ((0:Int)≤(m:Int))=true:=by simp
      have l2':decide ((nowAt L.length).length≤m)=false:=decide_eq_false (by omega);have i1:(m:Int) < (nowAt L.length).length:=by omega
      have i2:(0:Int)≤m:=by omega
      have i4:(b.was != b.was)=false:=by simp
      have i5:decide (¬ b.was=b.was)=false:=by simp
      clear hm h0 o1 o2 o3 o4 o5 hmv hgc;refine wp_region_quiet_lit (by kernel_rfl) (by kernel_rfl) ?_;refine Xz 12 _ _ (fun K hK=>?_);simp only [List.take_succ_cons,List.take_zero]
      iterate 12 go_big_quiet_step (fail)
      refine wpQuiet_nil ?_;refine hK _ ?_;clear hK K;simp only [List.drop_succ_cons,List.drop_zero];refine Xz 12 _ _ (fun K hK=>?_);simp only [List.take_succ_cons,List.take_zero]
      iterate 12 go_big_quiet_step (fail)
      refine wpQuiet_nil ?_;refine hK _ ?_;clear hK K;simp only [List.drop_succ_cons,List.drop_zero]
      iterate 12 go_big_quiet_step (fail)
      refine wpQuiet_nil ?_;rintro _ ⟨nd,rfl⟩
      go_wp2_with fail
      exact ⟨⟨q + 1,by omega,by first|rfl|simp,hk9.out.drewN nd⟩,by simp [intOf];omega⟩
     ·obtain hm:b.cell = -1:=by omega
      rw [hm] at z2;have l3:decide ((0:Int)≤-1)=false:=by decide
      have l4:decide ((-1:Int) < -1)=false:=by decide
      have l5:decide (((nowAt L.length).length:Int)≤-1)=false:=decide_eq_false (by omega);have i4:(b.was != b.was)=false:=by simp
      have i5:decide (¬ b.was=b.was)=false:=by simp
      clear hm h0 o1 o2 o3 o4 o5 l1 l2;refine wp_region_quiet_lit (by kernel_rfl) (by kernel_rfl) ?_;refine Xz 14 _ _ (fun K hK=>?_);simp only [List.take_succ_cons,List.take_zero]
      iterate 14 go_big_quiet_step (fail)
      refine wpQuiet_nil ?_;refine hK _ ?_;clear hK K;simp only [List.drop_succ_cons,List.drop_zero];refine YQ 8 rfl rfl _ rfl (by kernel_rfl) ?_;simp only [List.take_succ_cons,List.take_zero,List.drop_succ_cons,List.drop_zero,Q0];go_simp;refine Xz 7 _ _ (fun K hK=>?_);simp only [List.take_succ_cons,List.take_zero]
      iterate 7 go_big_quiet_step (fail)
      refine wpQuiet_nil ?_;refine hK _ ?_;clear hK K;simp only [List.drop_succ_cons,List.drop_zero]
      iterate 6 go_big_quiet_step (fail)
      refine wpQuiet_nil ?_;intro nd
      go_wp2_with fail
      exact ⟨⟨q + 1,by omega,by first|rfl|simp,hk9.out.drewN nd⟩,by simp [intOf];omega⟩
    ·obtain rfl:q=left.length:=by omega
     have y0:decide (left.length < left.length)=false:=by simp
     have y1:decide ((left.length:Int) < left.length)=false:=by simp
     go_wp2_with fail
     go_ret;exact ⟨rfl,hKp.out.trans (hk2.out.mono fun _ h=>h.elim),_,hB2.out,Xj hF.out fun b h=>hold2.out b (own_lt hF.out h)⟩

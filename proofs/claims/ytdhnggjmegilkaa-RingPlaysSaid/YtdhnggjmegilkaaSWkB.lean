/- The record's check: where a thread stands next. Conditions: what the check's cells hold. -/
import Derived.Test.YtdhnggjmegilkaaSWkA
import Derived.Test.YtdhnggjmegilkaaSBs
import Derived.Laws.ResultCell
import Derived.Deep.Cut
import Derived.BigRegion
import Derived.BigQuiet
import Derived.Deep.RegionLaw
import Derived.Deep.RegionWith
import Derived.Laws.EntriesVeiled
set_option linter.all false
set_option maxRecDepth 100000
set_option maxHeartbeats 16000000
namespace Go.Proofs.Ytdhnggjmegilkaa
open Go.RowKit
structure XW (w:World) (B:Nat) (b:Option Addr) (L:List Xo):Prop where
 small:L.length≤1000000
 at_:∀ (i:Nat) (a:Xo),L[i]? = some a→∃ g off,b=some ⟨g,off,none⟩∧g < B∧∀ k,k < 8→w.cell? ⟨g,off + i * 8 + k,none⟩=(Yj a)[k]?
theorem XW.of {w w':World} {B:Nat} {b:Option Addr} {L:List Xo} (h:XW w B b L) (hw:∀ q,q < B→w'.heap[q]? = w.heap[q]?):XW w' B b L :=
 ⟨h.small,fun i a ha=>by
  obtain ⟨g,off,e,hg,hA⟩:=h.at_ i a ha;refine ⟨g,off,e,hg,fun k hk=>?_⟩;rw [← hA k hk];simp only [World.cell?];rw [hw g hg]⟩
structure Yu (w:World) (t:TypeId) (g:Nat) (cap:Nat) (ts:List Int):Prop where
 len:ts.length≤cap
 blk:∃ cs:Array Value,Blk w g t cs∧cap≤cs.size∧∀ (j:Nat) (x:Int),ts[j]? = some x→cs[j]? = some (.int .i64 x)
theorem Yu.cell {w:World} {t:TypeId} {g cap:Nat} {ts:List Int} (h:Yu w t g cap ts) {j:Nat} {x:Int} (hj:ts[j]? = some x):w.cell? ⟨g,j,none⟩=some (.int .i64 x):=by
 obtain ⟨cs,h1,h2,h3⟩:=h.blk;rw [Blk.cell h1];exact h3 j x hj
theorem Yu.lt {w:World} {t:TypeId} {g cap:Nat} {ts:List Int} (h:Yu w t g cap ts):g < w.heap.size:=by
 obtain ⟨cs,h1,_⟩:=h.blk;exact Blk.lt h1
theorem Yu.frz {w:World} {t:TypeId} {g cap:Nat} {ts:List Int} (h:Yu w t g cap ts) (j:Nat):w.frozen? ⟨g,j,none⟩=false:=by
 obtain ⟨cs,h1,_⟩:=h.blk;exact Blk.frozen h1 j
theorem Yu.of {w w':World} {t:TypeId} {g cap:Nat} {ts:List Int} (h:Yu w t g cap ts) (hw:w'.heap[g]? = w.heap[g]?):Yu w' t g cap ts:=by
 obtain ⟨cs,h1,h2⟩:=h.blk;exact ⟨h.len,cs,hw.trans h1,h2⟩
theorem Yu.set {w:World} {t:TypeId} {g cap:Nat} {ts:List Int} (h:Yu w t g cap ts) (j:Nat) (x:Int) (hj:j < ts.length):Yu (w.setCell ⟨g,j,none⟩ (.int .i64 x)) t g cap (ts.set j x):=by
 obtain ⟨cs,h1,h2,h3⟩:=h.blk;refine ⟨by rw [List.length_set];exact h.len,cs.setIfInBounds j (.int .i64 x),h1.set_ j _,by simpa using h2,fun i y hy=>?_⟩;rw [List.getElem?_set] at hy
 have:=h.len
 by_cases e:j=i
 ·subst e
  rw [if_pos rfl,if_pos hj] at hy;rw [Array.getElem?_setIfInBounds_self_of_lt (by omega),← Option.some.inj hy]
 ·rw [if_neg e] at hy
  rw [Array.getElem?_setIfInBounds_ne e];exact h3 i y hy
abbrev X5 (w:World) (g cap:Nat) (ts:List Int):Prop:=Yu w 3 g cap ts
def ckA (e:Int) (n:Nat) (vL vW vR vl vF vP:Value) (most:Int) (vT vC:Value) (last:Int):Array Value:=#[.int .i8 e,.int .i64 n,vL,vW,vR,vl,vF,vP,.int .i64 most,vT,vC,.int .i64 last]
def U7:Option Xo→Value
 | some a=>.tuple #[.agg (Yj a).toArray,.bool true]
 | none=>.tuple #[.agg #[.int .i64 0,.int .i8 0,.int .i64 0,.int .i64 0,.int .i64 0,.int .i64 0,.int .i64 0,.bool false],.bool false]
def Xa7 (L left:List Xo) (j at' tg cap:Nat) (ts:List Int) (w:World) (e:Ending) (w':World):Prop :=
 ∃ k:Nat,e=.returned (U7 (Xp.nextF L left j at'))∧X5 w' tg cap (ts.set j k)∧k≤L.length∧(∀ i a,at'≤i→i < k→L[i]? = some a→a.thread≠j)∧Kept (fun q=>q=tg) w w'
theorem Kept.shrink {S T:Nat→Prop} {a b:World} (h:Kept T a b) (hs:∀ q,q < a.heap.size→T q→S q):Kept S a b:=⟨h.os,h.tape,h.output,h.size,fun q hq hn=>h.block q hq fun t=>hn (hs q hq t)⟩
def Xgb (L:List Xo) (j at' k0:Nat) (w1:World) (i:Value) (wr:World):Prop:=∃ k nd:Nat,k0≤k∧k≤L.length∧i=.int .i64 k∧wr=w1.drewN nd∧∀ i a,at'≤i→i < k→L[i]? = some a→a.thread≠j
def Xga (left:List Xo) (j:Nat) (w2:World) (i:Value) (wr:World):Prop:=∃ q nd:Nat,q≤left.length∧i=.int .i64 q∧wr=w2.drewN nd∧∀ i a,i < q→left[i]? = some a→a.thread≠j
theorem Yt {w:World} {g off:Nat} {a:Xo} {i:Nat} (h:∀ k,k < 8→w.cell? ⟨g,off + i * 8 + k,none⟩=(Yj a)[k]?) :
 w.cell? ⟨g,off + i * 8,none⟩=some (.int .i64 a.thread)∧w.cell? ⟨g,off + i * 8 + 1,none⟩=some (.int .i8 a.op)∧w.cell? ⟨g,off + i * 8 + 2,none⟩=some (.int .i64 a.cell)∧w.cell? ⟨g,off + i * 8 + 3,none⟩=some (.int .i64 a.arg)∧w.cell? ⟨g,off + i * 8 + 4,none⟩=some (.int .i64 a.new)∧w.cell? ⟨g,off + i * 8 + 5,none⟩=some (.int .i64 a.was)∧w.cell? ⟨g,off + i * 8 + 6,none⟩=some (.int .i64 a.now)∧w.cell? ⟨g,off + i * 8 + 7,none⟩=some (.bool a.ok) :=
 ⟨h 0 (by omega),h 1 (by omega),h 2 (by omega),h 3 (by omega),h 4 (by omega),h 5 (by omega),h 6 (by omega),h 7 (by omega)⟩
theorem Yv {P:Program} {fn:Func} {p u:Tmp} {ty:TypeId} (h:fn.results=#[.cell p ty,.tmp u]) (tmps:Array Value) (w:World) (g:Nat) (t:TypeId) (cs:Array Value) (fr:Nat × Nat) (d:TypeDesc)
 (hp:tmps.getD p undef=.pointer (some ⟨g,0,none⟩)) (hg:w.heap[g]? = some (.cells cs t fr))
 (hu:P.underlying ty=some d) (hd:(match d with | .struct _ | .array _ _=>true|_=>false)=true) (hi:(P.info? ty).map (·.size)=some cs.size) :
 (results fn tmps).run P w=.ok (.tuple #[.agg cs,tmps.getD u undef]) w:=by
 have hp':tmps[p]?.getD undef=.pointer (some ⟨g,0,none⟩):=by simpa using hp
 simp [results,h,hp',asAddr,run_loadVar_row w g t ty cs fr d hg hu hd hi]
theorem VR:(Try.prog.info? 172).map (·.size)=some 8:=by kernel_rfl
theorem Z3 {L left:List Xo} {j at' tg cap:Nat} {ts:List Int} {w0 w:World} {act:Act} {g6:Nat} {o:Option Xo} {cs:Array Value} {b:Bool} (h6:act.tmps.getD 6 undef=.pointer (some ⟨g6,0,none⟩)) (h7:act.tmps.getD 7 undef=.bool b) (hd:act.defers = [])
 (hb:Blk w g6 172 cs) (h8:cs.size=8) (ho:Xp.nextF L left j at'=o) (hv:U7 o=.tuple #[.agg cs,.bool b]) (k:Nat) (ht:X5 w tg cap (ts.set j k)) (hkL:k≤L.length) (hkc:∀ i a,at'≤i→i < k→L[i]? = some a→a.thread≠j) (hk:Kept (fun q=>q=tg) w0 w) :
 bodyPost Try.prog Try.f154 (Xa7 L left j at' tg cap ts w0) .ret act w:=by
 refine bodyPost_ret (Yv rfl act.tmps w g6 172 cs (0,0) _ h6 hb Try.underlying172 rfl (by rw [h8];exact VR)) hd ?_;rw [h7];exact ⟨k,by rw [ho,hv],ht,hkL,hkc,hk⟩
theorem XaR {e:Int} {n:Nat} {aL al aT:Option Addr} {vW vR vF vP vC:Value} {cL cl cT tg cb B:Nat} {most last:Int} {L left:List Xo} {ts:List Int} {w:World} (hb:Blk w cb 190 (ckA e n (.slice aL L.length cL) vW vR (.slice al left.length cl) vF vP most (.slice (some ⟨tg,0,none⟩) ts.length cT) vC last))
 (hL:XW w B aL L) (hl:XW w B al left) (hT:X5 w tg cT ts) (htg:B≤tg) (hBw:B≤w.heap.size) (j at' k0:Nat) (hk0:ts[j]? = some (k0:Int)) (hk0L:k0≤L.length) (hat:at'≤L.length) (hc:∀ i a,at'≤i→i < k0→L[i]? = some a→a.thread≠j) (hop:∀ a,a∈L→a.op≠8) :
 Calls Try.prog 154 #[.pointer (some ⟨cb,0,none⟩),.int .i64 j,.int .i64 at'] w (Xa7 L left j at' tg cT ts w):=by
 have hj:j < ts.length:=(List.getElem?_eq_some_iff.1 hk0).1;have hjI:(j:Int) < ts.length:=by omega
 have hj0:(0:Int)≤j:=by omega
 have c2:w.cell? ⟨cb,2,none⟩=some (.slice aL L.length cL):=Blk.cell hb 2;have c5:w.cell? ⟨cb,5,none⟩=some (.slice al left.length cl):=Blk.cell hb 5;have c9:w.cell? ⟨cb,9,none⟩=some (.slice (some ⟨tg,0,none⟩) ts.length cT):=Blk.cell hb 9;have ct:w.cell? ⟨tg,j,none⟩=some (.int .i64 k0):=hT.cell hk0;have hcb:=Blk.lt hb;have hcT:=hT.len;have htg':tg < w.heap.size:=by obtain ⟨cs,h1,_⟩:=hT.blk;exact Blk.lt h1
 have HB:=Lib.hid hb;have HL:=Lib.hid hL;have HT:=Lib.hid hT;have HC:=Lib.hid hc;have HO:=Lib.hid hop;clear hb hL hT hc hop
 go_enter Try.func154,Try.ntmps154
 obtain ⟨k1,hk1,hk1a,hk1b,hk1c⟩:∃ k1:Nat,(k1=if at' < k0 then k0 else at')∧k0≤k1∧at'≤k1∧k1≤L.length:=by
  by_cases h:at' < k0
  ·exact ⟨k0,by rw [if_pos h],Nat.le_refl _,by omega,hk0L⟩
  ·exact ⟨at',by rw [if_neg h],by omega,Nat.le_refl _,hat⟩
 have hC1:∀ i a,at'≤i→i < k1→L[i]? = some a→a.thread≠j:=fun i a h1 h2 h3=>by
  by_cases h:at' < k0
  ·rw [if_pos h] at hk1;exact HC.out i a h1 (by omega) h3
  ·rw [if_neg h] at hk1;omega
 replace hC1:=Lib.hid hC1
 go_upto_region 1 with (fail)
 obtain ⟨w1,hw1⟩:∃ w1,w1=w.alloc (.cells #[.int .i64 0,.int .i8 0,.int .i64 0,.int .i64 0,.int .i64 0,.int .i64 0,.int .i64 0,.bool false] 172):=⟨_,rfl⟩
 rw [← hw1];have s1:w1.heap.size=w.heap.size + 1:=by rw [hw1];simp
 have o1:∀ q,q < w.heap.size→w1.heap[q]? = w.heap[q]?:=fun q hq=>by rw [hw1];exact Below.heap_alloc w _ q hq
 have b6:Blk w1 w.heap.size 172 #[.int .i64 0,.int .i8 0,.int .i64 0,.int .i64 0,.int .i64 0,.int .i64 0,.int .i64 0,.bool false]:=by rw [hw1];exact Blk.new w _ _
 have hk:Kept (fun q=>q=tg) w w1:=by rw [hw1];exact (Kept.refl _ w).alloc _
 have hB1:Blk w1 cb 190 (ckA e n (.slice aL L.length cL) vW vR (.slice al left.length cl) vF vP most (.slice (some ⟨tg,0,none⟩) ts.length cT) vC last):=(o1 cb hcb).trans HB.out;have hL1:XW w1 B aL L:=HL.out.of fun q hq=>o1 q (by omega);have hl1:XW w1 B al left:=hl.of fun q hq=>o1 q (by omega);have hT1:X5 w1 tg cT ts:=by
  obtain ⟨cs,h1,h2,h3⟩:=HT.out.blk;exact ⟨hcT,cs,(o1 tg htg').trans h1,h2,h3⟩
 generalize hg6:w.heap.size=g6 at s1 o1 b6 hcb htg' hBw ⊢;clear hw1 c2 c5 c9 ct hl HB HL HT;have c2:w1.cell? ⟨cb,2,none⟩=some (.slice aL L.length cL):=Blk.cell hB1 2;have c5:w1.cell? ⟨cb,5,none⟩=some (.slice al left.length cl):=Blk.cell hB1 5;have c9:w1.cell? ⟨cb,9,none⟩=some (.slice (some ⟨tg,0,none⟩) ts.length cT):=Blk.cell hB1 9;have ct:w1.cell? ⟨tg,j,none⟩=some (.int .i64 k0):=hT1.cell hk0;have hkk:(if at' < k0 then (Value.int .i64 k0) else .int .i64 at')=.int .i64 k1:=by rw [hk1];split<;>rfl
 have HB:=Lib.hid hB1;have HL:=Lib.hid hL1;have Hl:=Lib.hid hl1;have HT:=Lib.hid hT1;have HK:=Lib.hid hk;have HO1:=Lib.hid o1;have HB6:=Lib.hid b6;clear hB1 hL1 hl1 hT1 hk o1 b6 hk0;clear hkk;rcases (show (at' < k0∧k0=k1)∨(¬ at' < k0∧at'=k1) from by
  by_cases h:at' < k0
  ·exact .inl ⟨h,by rw [hk1,if_pos h]⟩
  ·exact .inr ⟨h,by rw [hk1,if_neg h]⟩) with ⟨hlt,rfl⟩|⟨hlt,rfl⟩
 all_goals
  clear hk1
  go_upto_region 2 with (fail)
  go_loopw [8] (fun i wr=>Xgb L j at' at' w1 i wr) (fun i _=>L.length - (intOf i).toNat)
  case atStart=>exact ⟨_,0,by omega,by omega,rfl,rfl,hC1.out⟩
  case round =>
   obtain ⟨k,nd,hka,hkL,rfl,rfl,hkc⟩:=hrel;replace hkc:=Lib.hid hkc
   by_cases hkn:k < L.length
   ·obtain ⟨a,ha⟩:∃ a,L[k]? = some a:=⟨_,List.getElem?_eq_getElem hkn⟩
    obtain ⟨g,off,rfl,hgB,hA⟩:=HL.out.at_ k a ha;obtain ⟨q0,q1,q2,q3,q4,q5,q6,q7⟩:=Yt hA;clear hA;have hop:=HO.out a (List.mem_of_getElem? ha);have d0:decide (a.op=8)=false:=by simpa using hop
    have x0:decide (k < L.length)=true:=by simpa using hkn
    have x1:decide ((k:Int) < L.length)=true:=by simp;omega
    have hkI:(k:Int) < L.length:=by omega
    have hk0':(0:Int)≤k:=by omega
    by_cases hth:a.thread=j
    ·have d1:decide (a.thread=j)=true:=by simpa using hth
     have d2:(a.thread == j)=true:=by simp [hth]
     have d3:((a.thread:Int) == (j:Int))=true:=by simp [hth]
     replace hth:=Lib.hid hth
     go_upto_region 5 with (fail)
     have hct:cb≠tg:=by obtain ⟨cs,h1,_⟩:=HT.out.blk;exact Blk.ne_ HB.out h1 (by decide)
     have hct':tg≠cb:=hct.symm;have hgt:g≠tg:=by omega
     have hgt':tg≠g:=by omega
     have hg6t:g6≠tg:=by omega
     have hg6t':tg≠g6:=by omega
     have htl:tg < w1.heap.size:=by omega
     have ft:w1.frozen? ⟨tg,j,none⟩=false:=by obtain ⟨cs,h1,_⟩:=HT.out.blk;exact Blk.frozen h1 j
     go_upto_region 6 with (fail)
     have m0:w1.cell? ⟨g6,0,none⟩=some (.int .i64 0):=Blk.cell HB6.out 0;have n0:w1.frozen? ⟨g6,0,none⟩=false:=Blk.frozen HB6.out 0;have m1:w1.cell? ⟨g6,1,none⟩=some (.int .i8 0):=Blk.cell HB6.out 1;have n1:w1.frozen? ⟨g6,1,none⟩=false:=Blk.frozen HB6.out 1;have m2:w1.cell? ⟨g6,2,none⟩=some (.int .i64 0):=Blk.cell HB6.out 2;have n2:w1.frozen? ⟨g6,2,none⟩=false:=Blk.frozen HB6.out 2;have m3:w1.cell? ⟨g6,3,none⟩=some (.int .i64 0):=Blk.cell HB6.out 3;have n3:w1.frozen? ⟨g6,3,none⟩=false:=Blk.frozen HB6.out 3;have m4:w1.cell? ⟨g6,4,none⟩=some (.int .i64 0):=Blk.cell HB6.out 4;have n4:w1.frozen? ⟨g6,4,none⟩=false:=Blk.frozen HB6.out 4;have m5:w1.cell? ⟨g6,5,none⟩=some (.int .i64 0):=Blk.cell HB6.out 5;have n5:w1.frozen? ⟨g6,5,none⟩=false:=Blk.frozen HB6.out 5;have m6:w1.cell? ⟨g6,6,none⟩=some (.int .i64 0):=Blk.cell HB6.out 6;have n6:w1.frozen? ⟨g6,6,none⟩=false:=Blk.frozen HB6.out 6;have m7:w1.cell? ⟨g6,7,none⟩=some (.bool false):=Blk.cell HB6.out 7;have n7:w1.frozen? ⟨g6,7,none⟩=false:=Blk.frozen HB6.out 7
     go_wp2_with fail
     have hnx:Xp.nextF L left j at'=some a:=by
      unfold Xp.nextF;have hf:(L.drop at').find? (fun a=>a.thread == j)=some a:=by
       rw [List.find?_eq_some_iff_getElem];refine ⟨by simp [hth.out],k - at',by simp;omega,?_,fun i hi=>?_⟩
       ·rw [List.getElem_drop]
        have:at' + (k - at')=k:=by omega
        simp only [this];exact (List.getElem?_eq_some_iff.1 ha).2
       ·rw [List.getElem_drop]
        have:=hkc.out (at' + i) _ (by omega) (by omega) (List.getElem?_eq_getElem (by omega))
        simpa using this
      rw [hf]
     have hb9:=(((((((((Blk.far (w:=w1.drewN nd) (p:=⟨tg,j,none⟩) HB6.out hg6t (.int .i64 k)).set_ 0 (.int .i64 a.thread)).set_ 1 (.int .i8 a.op)).set_ 2 (.int .i64 a.cell)).set_ 3 (.int .i64 a.arg)).set_ 4 (.int .i64 a.new)).set_ 5 (.int .i64 a.was)).set_ 6 (.int .i64 a.now)).set_ 7 (.bool a.ok))
     simp only [ZJ] at hb9;have ht9:X5 ((((((((((w1.drewN nd).setCell ⟨tg,j,none⟩ (.int .i64 k)).setCell ⟨g6,0,none⟩ (.int .i64 a.thread)).setCell ⟨g6,1,none⟩ (.int .i8 a.op)).setCell ⟨g6,2,none⟩ (.int .i64 a.cell)).setCell ⟨g6,3,none⟩ (.int .i64 a.arg)).setCell ⟨g6,4,none⟩ (.int .i64 a.new)).setCell ⟨g6,5,none⟩ (.int .i64 a.was)).setCell ⟨g6,6,none⟩ (.int .i64 a.now)).setCell ⟨g6,7,none⟩ (.bool a.ok)) tg cT (ts.set j k):=by
      obtain ⟨cs,t1,t2,t3⟩:=(HT.out.set j k hj).blk;exact ⟨by rw [List.length_set];exact hcT,cs,((((((((Blk.far (w:=(w1.drewN nd).setCell ⟨tg,j,none⟩ (.int .i64 k)) (p:=⟨g6,0,none⟩) t1 hg6t' _).far hg6t' _).far hg6t' _).far hg6t' _).far hg6t' _).far hg6t' _).far hg6t' _).far hg6t' _),t2,t3⟩
     have hk9:Kept (fun q=>q=tg) w ((((((((((w1.drewN nd).setCell ⟨tg,j,none⟩ (.int .i64 k)).setCell ⟨g6,0,none⟩ (.int .i64 a.thread)).setCell ⟨g6,1,none⟩ (.int .i8 a.op)).setCell ⟨g6,2,none⟩ (.int .i64 a.cell)).setCell ⟨g6,3,none⟩ (.int .i64 a.arg)).setCell ⟨g6,4,none⟩ (.int .i64 a.new)).setCell ⟨g6,5,none⟩ (.int .i64 a.was)).setCell ⟨g6,6,none⟩ (.int .i64 a.now)).setCell ⟨g6,7,none⟩ (.bool a.ok)):=by
      refine Kept.shrink (T:=fun q=>q=tg∨q=g6) ?_ (fun q hq h=>h.resolve_right (by omega));exact (((((((((((HK.out.mono (fun q h=>.inl h)).drewN nd).set (p:=⟨tg,j,none⟩) (.inl rfl) _).set (p:=⟨g6,0,none⟩) (.inr rfl) _).set (p:=⟨g6,1,none⟩) (.inr rfl) _).set (p:=⟨g6,2,none⟩) (.inr rfl) _).set (p:=⟨g6,3,none⟩) (.inr rfl) _).set (p:=⟨g6,4,none⟩) (.inr rfl) _).set (p:=⟨g6,5,none⟩) (.inr rfl) _).set (p:=⟨g6,6,none⟩) (.inr rfl) _).set (p:=⟨g6,7,none⟩) (.inr rfl) _)
     generalize ((((((((((w1.drewN nd).setCell ⟨tg,j,none⟩ (.int .i64 k)).setCell ⟨g6,0,none⟩ (.int .i64 a.thread)).setCell ⟨g6,1,none⟩ (.int .i8 a.op)).setCell ⟨g6,2,none⟩ (.int .i64 a.cell)).setCell ⟨g6,3,none⟩ (.int .i64 a.arg)).setCell ⟨g6,4,none⟩ (.int .i64 a.new)).setCell ⟨g6,5,none⟩ (.int .i64 a.was)).setCell ⟨g6,6,none⟩ (.int .i64 a.now)).setCell ⟨g6,7,none⟩ (.bool a.ok))=w9 at hb9 ht9 hk9 ⊢;exact Z3 (by rfl) (by rfl) (by rfl) hb9 (by rfl) hnx rfl k ht9 hkL hkc.out hk9
    ·have d1:decide (a.thread=j)=false:=by simpa using hth
     have d2:(a.thread == j)=false:=by simpa using hth
     have d3:((a.thread:Int) == (j:Int))=false:=by simp;omega
     replace hth:=Lib.hid hth;have hw1:IntKind.i64.wrap ((k:Int) + 1)=((k + 1:Nat):Int):=by rw [IntKind.wrap_i64];have:=HL.out.small;omega
     go_wp2_with fail
     exact ⟨⟨k + 1,_,by omega,by omega,by first|rfl|simp,rfl,fun i b h1 h2 h3=>by
      by_cases e:i=k
      ·subst e;rw [ha] at h3;rw [← Option.some.inj h3];exact hth.out
      ·exact hkc.out i b h1 (by omega) h3⟩,by simp [intOf];omega⟩
   ·obtain rfl:k=L.length:=by omega
    have x0:decide (L.length < L.length)=false:=by simp
    have x1:decide ((L.length:Int) < L.length)=false:=by simp
    have hct:cb≠tg:=by obtain ⟨cs,h1,_⟩:=HT.out.blk;exact Blk.ne_ HB.out h1 (by decide)
    have hct':tg≠cb:=hct.symm;have hg6t':tg≠g6:=by omega
    have hg6t:g6≠tg:=by omega
    have htl:tg < w1.heap.size:=by omega
    have hcl:cb < w1.heap.size:=by omega
    have ft:w1.frozen? ⟨tg,j,none⟩=false:=by obtain ⟨cs,h1,_⟩:=HT.out.blk;exact Blk.frozen h1 j
    go_upto_region 7 with (fail)
    go_region
    have HT2:Hid (X5 ((w1.drewN (nd + 1)).setCell ⟨tg,j,none⟩ (.int .i64 L.length)) tg cT (ts.set j L.length)):=Lib.hid ((show X5 (w1.drewN (nd + 1)) tg cT ts from ⟨HT.out.len,HT.out.blk⟩).set j L.length hj);have HK2:Hid (Kept (fun q=>q=tg) w ((w1.drewN (nd + 1)).setCell ⟨tg,j,none⟩ (.int .i64 L.length))):=Lib.hid ((HK.out.drewN (nd + 1)).set (p:=⟨tg,j,none⟩) rfl _);have o2:∀ q,q≠tg→((w1.drewN (nd + 1)).setCell ⟨tg,j,none⟩ (.int .i64 L.length)).heap[q]? = w1.heap[q]?:=fun q hq=>Below.heap_setCell _ _ _ q (fun e=>hq e);have s2:((w1.drewN (nd + 1)).setCell ⟨tg,j,none⟩ (.int .i64 L.length)).heap.size=w1.heap.size:=by simp
    generalize (w1.drewN (nd + 1)).setCell ⟨tg,j,none⟩ (.int .i64 L.length)=w2 at HT2 HK2 o2 s2 ⊢;have HB2:Hid (Blk w2 cb 190 (ckA e n (.slice aL L.length cL) vW vR (.slice al left.length cl) vF vP most (.slice (some ⟨tg,0,none⟩) ts.length cT) vC last)):=Lib.hid ((o2 cb hct).trans HB.out);have HB6':Hid (Blk w2 g6 172 #[.int .i64 0,.int .i8 0,.int .i64 0,.int .i64 0,.int .i64 0,.int .i64 0,.int .i64 0,.bool false]):=Lib.hid ((o2 g6 hg6t).trans HB6.out);have Hl2:=Lib.hid (Hl.out.of (w':=w2) fun q hq=>o2 q (by omega));replace HB6:=HB6';have HLd:Hid (∀ a,a∈L.drop at'→a.thread≠j):=Lib.hid fun a ha=>by
     obtain ⟨i,hi⟩:=List.getElem?_of_mem ha;rw [List.getElem?_drop] at hi;exact hkc.out (at' + i) a (by omega) ((List.getElem?_eq_some_iff.1 hi).1) hi
    have hnone:Hid ((L.drop at').find? (fun a=>a.thread == j)=none):=Lib.hid (by
     rw [List.find?_eq_none];intro a ha;simpa using HLd.out a ha)
    clear c2 c5 c9 ct ft o2;have c5:w2.cell? ⟨cb,5,none⟩=some (.slice al left.length cl):=Blk.cell HB2.out 5;have hcl2:cb < w2.heap.size:=by omega
    have hg6l:g6 < w2.heap.size:=by omega
    clear s2
    go_wp2_with fail
    go_loopw [9] (fun i wr=>Xga left j w2 i wr) (fun i _=>left.length - (intOf i).toNat)
    case atStart=>exact ⟨0,0,Nat.zero_le _,rfl,rfl,fun i a h=>by omega⟩
    case round =>
     obtain ⟨q,nd2,hqn,rfl,rfl,hqc⟩:=hrel;replace hqc:=Lib.hid hqc
     by_cases hql:q < left.length
     ·obtain ⟨a,ha⟩:∃ a,left[q]? = some a:=⟨_,List.getElem?_eq_getElem hql⟩
      obtain ⟨g,off,rfl,hgB,hA⟩:=Hl2.out.at_ q a ha;obtain ⟨q0,q1,q2,q3,q4,q5,q6,q7⟩:=Yt hA;clear hA;have y0:decide (q < left.length)=true:=by simpa using hql
      have y1:decide ((q:Int) < left.length)=true:=by simp;omega
      have hqI:(q:Int) < left.length:=by omega
      have hq0':(0:Int)≤q:=by omega
      by_cases hth:a.thread=j
      ·have d1:decide (a.thread=j)=true:=by simpa using hth
       have d2:(a.thread == j)=true:=by simp [hth]
       have d3:((a.thread:Int) == (j:Int))=true:=by simp [hth]
       replace hth:=Lib.hid hth;have hgt:g≠tg:=by omega
       have m0:w2.cell? ⟨g6,0,none⟩=some (.int .i64 0):=Blk.cell HB6.out 0;have n0:w2.frozen? ⟨g6,0,none⟩=false:=Blk.frozen HB6.out 0;have m1:w2.cell? ⟨g6,1,none⟩=some (.int .i8 0):=Blk.cell HB6.out 1;have n1:w2.frozen? ⟨g6,1,none⟩=false:=Blk.frozen HB6.out 1;have m2:w2.cell? ⟨g6,2,none⟩=some (.int .i64 0):=Blk.cell HB6.out 2;have n2:w2.frozen? ⟨g6,2,none⟩=false:=Blk.frozen HB6.out 2;have m3:w2.cell? ⟨g6,3,none⟩=some (.int .i64 0):=Blk.cell HB6.out 3;have n3:w2.frozen? ⟨g6,3,none⟩=false:=Blk.frozen HB6.out 3;have m4:w2.cell? ⟨g6,4,none⟩=some (.int .i64 0):=Blk.cell HB6.out 4;have n4:w2.frozen? ⟨g6,4,none⟩=false:=Blk.frozen HB6.out 4;have m5:w2.cell? ⟨g6,5,none⟩=some (.int .i64 0):=Blk.cell HB6.out 5;have n5:w2.frozen? ⟨g6,5,none⟩=false:=Blk.frozen HB6.out 5;have m6:w2.cell? ⟨g6,6,none⟩=some (.int .i64 0):=Blk.cell HB6.out 6;have n6:w2.frozen? ⟨g6,6,none⟩=false:=Blk.frozen HB6.out 6;have m7:w2.cell? ⟨g6,7,none⟩=some (.bool false):=Blk.cell HB6.out 7;have n7:w2.frozen? ⟨g6,7,none⟩=false:=Blk.frozen HB6.out 7
       go_wp2_with fail
       have hnx:Xp.nextF L left j at'=some a:=by
        unfold Xp.nextF;rw [hnone.out];rw [List.find?_eq_some_iff_getElem];refine ⟨by simp [hth.out],q,hql,(List.getElem?_eq_some_iff.1 ha).2,fun i hi=>?_⟩
        have:=hqc.out i _ hi (List.getElem?_eq_getElem (by omega))
        simpa using this
       have hb9:=((((((((HB6.out.set_ 0 (.int .i64 a.thread)).set_ 1 (.int .i8 a.op)).set_ 2 (.int .i64 a.cell)).set_ 3 (.int .i64 a.arg)).set_ 4 (.int .i64 a.new)).set_ 5 (.int .i64 a.was)).set_ 6 (.int .i64 a.now)).set_ 7 (.bool a.ok))
       simp only [ZJ] at hb9;replace hb9:Blk (((((((((w2.drewN nd2).setCell ⟨g6,0,none⟩ (.int .i64 a.thread)).setCell ⟨g6,1,none⟩ (.int .i8 a.op)).setCell ⟨g6,2,none⟩ (.int .i64 a.cell)).setCell ⟨g6,3,none⟩ (.int .i64 a.arg)).setCell ⟨g6,4,none⟩ (.int .i64 a.new)).setCell ⟨g6,5,none⟩ (.int .i64 a.was)).setCell ⟨g6,6,none⟩ (.int .i64 a.now)).setCell ⟨g6,7,none⟩ (.bool a.ok)) g6 172 #[.int .i64 a.thread,.int .i8 a.op,.int .i64 a.cell,.int .i64 a.arg,.int .i64 a.new,.int .i64 a.was,.int .i64 a.now,.bool a.ok]:=hb9;have ht9:X5 (((((((((w2.drewN nd2).setCell ⟨g6,0,none⟩ (.int .i64 a.thread)).setCell ⟨g6,1,none⟩ (.int .i8 a.op)).setCell ⟨g6,2,none⟩ (.int .i64 a.cell)).setCell ⟨g6,3,none⟩ (.int .i64 a.arg)).setCell ⟨g6,4,none⟩ (.int .i64 a.new)).setCell ⟨g6,5,none⟩ (.int .i64 a.was)).setCell ⟨g6,6,none⟩ (.int .i64 a.now)).setCell ⟨g6,7,none⟩ (.bool a.ok)) tg cT (ts.set j L.length):=by
        obtain ⟨cs,t1,t2,t3⟩:=HT2.out.blk;exact ⟨by rw [List.length_set];exact hcT,cs,((((((((Blk.far (w:=w2.drewN nd2) (p:=⟨g6,0,none⟩) t1 hg6t' _).far hg6t' _).far hg6t' _).far hg6t' _).far hg6t' _).far hg6t' _).far hg6t' _).far hg6t' _),t2,t3⟩
       have hk9:Kept (fun q=>q=tg) w (((((((((w2.drewN nd2).setCell ⟨g6,0,none⟩ (.int .i64 a.thread)).setCell ⟨g6,1,none⟩ (.int .i8 a.op)).setCell ⟨g6,2,none⟩ (.int .i64 a.cell)).setCell ⟨g6,3,none⟩ (.int .i64 a.arg)).setCell ⟨g6,4,none⟩ (.int .i64 a.new)).setCell ⟨g6,5,none⟩ (.int .i64 a.was)).setCell ⟨g6,6,none⟩ (.int .i64 a.now)).setCell ⟨g6,7,none⟩ (.bool a.ok)):=by
        refine Kept.shrink (T:=fun q=>q=tg∨q=g6) ?_ (fun q hq h=>h.resolve_right (by omega));exact ((((((((((HK2.out.mono (fun q h=>.inl h)).drewN nd2).set (p:=⟨g6,0,none⟩) (.inr rfl) _).set (p:=⟨g6,1,none⟩) (.inr rfl) _).set (p:=⟨g6,2,none⟩) (.inr rfl) _).set (p:=⟨g6,3,none⟩) (.inr rfl) _).set (p:=⟨g6,4,none⟩) (.inr rfl) _).set (p:=⟨g6,5,none⟩) (.inr rfl) _).set (p:=⟨g6,6,none⟩) (.inr rfl) _).set (p:=⟨g6,7,none⟩) (.inr rfl) _)
       generalize (((((((((w2.drewN nd2).setCell ⟨g6,0,none⟩ (.int .i64 a.thread)).setCell ⟨g6,1,none⟩ (.int .i8 a.op)).setCell ⟨g6,2,none⟩ (.int .i64 a.cell)).setCell ⟨g6,3,none⟩ (.int .i64 a.arg)).setCell ⟨g6,4,none⟩ (.int .i64 a.new)).setCell ⟨g6,5,none⟩ (.int .i64 a.was)).setCell ⟨g6,6,none⟩ (.int .i64 a.now)).setCell ⟨g6,7,none⟩ (.bool a.ok))=w9 at hb9 ht9 hk9 ⊢;exact Z3 (by rfl) (by rfl) (by rfl) hb9 (by rfl) hnx rfl L.length ht9 (Nat.le_refl _) hkc.out hk9
      ·have d1:decide (a.thread=j)=false:=by simpa using hth
       have d2:(a.thread == j)=false:=by simpa using hth
       have d3:((a.thread:Int) == (j:Int))=false:=by simp;omega
       replace hth:=Lib.hid hth;have hw1:IntKind.i64.wrap ((q:Int) + 1)=((q + 1:Nat):Int):=by rw [IntKind.wrap_i64];have:=Hl2.out.small;omega
       go_wp2_with fail
       exact ⟨⟨q + 1,_,by omega,by first|rfl|simp,rfl,fun i b h2 h3=>by
        by_cases e:i=q
        ·subst e;rw [ha] at h3;rw [← Option.some.inj h3];exact hth.out
        ·exact hqc.out i b (by omega) h3⟩,by simp [intOf];omega⟩
     ·obtain rfl:q=left.length:=by omega
      have y0:decide (left.length < left.length)=false:=by simp
      have y1:decide ((left.length:Int) < left.length)=false:=by simp
      have m0:w2.cell? ⟨g6,0,none⟩=some (.int .i64 0):=Blk.cell HB6.out 0;have n0:w2.frozen? ⟨g6,0,none⟩=false:=Blk.frozen HB6.out 0;have m1:w2.cell? ⟨g6,1,none⟩=some (.int .i8 0):=Blk.cell HB6.out 1;have n1:w2.frozen? ⟨g6,1,none⟩=false:=Blk.frozen HB6.out 1;have m2:w2.cell? ⟨g6,2,none⟩=some (.int .i64 0):=Blk.cell HB6.out 2;have n2:w2.frozen? ⟨g6,2,none⟩=false:=Blk.frozen HB6.out 2;have m3:w2.cell? ⟨g6,3,none⟩=some (.int .i64 0):=Blk.cell HB6.out 3;have n3:w2.frozen? ⟨g6,3,none⟩=false:=Blk.frozen HB6.out 3;have m4:w2.cell? ⟨g6,4,none⟩=some (.int .i64 0):=Blk.cell HB6.out 4;have n4:w2.frozen? ⟨g6,4,none⟩=false:=Blk.frozen HB6.out 4;have m5:w2.cell? ⟨g6,5,none⟩=some (.int .i64 0):=Blk.cell HB6.out 5;have n5:w2.frozen? ⟨g6,5,none⟩=false:=Blk.frozen HB6.out 5;have m6:w2.cell? ⟨g6,6,none⟩=some (.int .i64 0):=Blk.cell HB6.out 6;have n6:w2.frozen? ⟨g6,6,none⟩=false:=Blk.frozen HB6.out 6;have m7:w2.cell? ⟨g6,7,none⟩=some (.bool false):=Blk.cell HB6.out 7;have n7:w2.frozen? ⟨g6,7,none⟩=false:=Blk.frozen HB6.out 7
      go_wp2_with fail
      have hnx:Xp.nextF L left j at'=none:=by
       unfold Xp.nextF;rw [hnone.out];rw [List.find?_eq_none];intro a ha;obtain ⟨i,hi⟩:=List.getElem?_of_mem ha;simpa using hqc.out i a ((List.getElem?_eq_some_iff.1 hi).1) hi
      have hb9:=((((((((HB6.out.set_ 0 (.int .i64 0)).set_ 1 (.int .i8 0)).set_ 2 (.int .i64 0)).set_ 3 (.int .i64 0)).set_ 4 (.int .i64 0)).set_ 5 (.int .i64 0)).set_ 6 (.int .i64 0)).set_ 7 (.bool false))
      simp only [ZJ] at hb9;replace hb9:Blk (((((((((w2.drewN nd2).setCell ⟨g6,0,none⟩ (.int .i64 0)).setCell ⟨g6,1,none⟩ (.int .i8 0)).setCell ⟨g6,2,none⟩ (.int .i64 0)).setCell ⟨g6,3,none⟩ (.int .i64 0)).setCell ⟨g6,4,none⟩ (.int .i64 0)).setCell ⟨g6,5,none⟩ (.int .i64 0)).setCell ⟨g6,6,none⟩ (.int .i64 0)).setCell ⟨g6,7,none⟩ (.bool false)) g6 172 #[.int .i64 0,.int .i8 0,.int .i64 0,.int .i64 0,.int .i64 0,.int .i64 0,.int .i64 0,.bool false]:=hb9;have ht9:X5 (((((((((w2.drewN nd2).setCell ⟨g6,0,none⟩ (.int .i64 0)).setCell ⟨g6,1,none⟩ (.int .i8 0)).setCell ⟨g6,2,none⟩ (.int .i64 0)).setCell ⟨g6,3,none⟩ (.int .i64 0)).setCell ⟨g6,4,none⟩ (.int .i64 0)).setCell ⟨g6,5,none⟩ (.int .i64 0)).setCell ⟨g6,6,none⟩ (.int .i64 0)).setCell ⟨g6,7,none⟩ (.bool false)) tg cT (ts.set j L.length):=by
       obtain ⟨cs,t1,t2,t3⟩:=HT2.out.blk;exact ⟨by rw [List.length_set];exact hcT,cs,((((((((Blk.far (w:=w2.drewN nd2) (p:=⟨g6,0,none⟩) t1 hg6t' _).far hg6t' _).far hg6t' _).far hg6t' _).far hg6t' _).far hg6t' _).far hg6t' _).far hg6t' _),t2,t3⟩
      have hk9:Kept (fun q=>q=tg) w (((((((((w2.drewN nd2).setCell ⟨g6,0,none⟩ (.int .i64 0)).setCell ⟨g6,1,none⟩ (.int .i8 0)).setCell ⟨g6,2,none⟩ (.int .i64 0)).setCell ⟨g6,3,none⟩ (.int .i64 0)).setCell ⟨g6,4,none⟩ (.int .i64 0)).setCell ⟨g6,5,none⟩ (.int .i64 0)).setCell ⟨g6,6,none⟩ (.int .i64 0)).setCell ⟨g6,7,none⟩ (.bool false)):=by
       refine Kept.shrink (T:=fun q=>q=tg∨q=g6) ?_ (fun q hq h=>h.resolve_right (by omega));exact ((((((((((HK2.out.mono (fun q h=>.inl h)).drewN nd2).set (p:=⟨g6,0,none⟩) (.inr rfl) _).set (p:=⟨g6,1,none⟩) (.inr rfl) _).set (p:=⟨g6,2,none⟩) (.inr rfl) _).set (p:=⟨g6,3,none⟩) (.inr rfl) _).set (p:=⟨g6,4,none⟩) (.inr rfl) _).set (p:=⟨g6,5,none⟩) (.inr rfl) _).set (p:=⟨g6,6,none⟩) (.inr rfl) _).set (p:=⟨g6,7,none⟩) (.inr rfl) _)
      generalize (((((((((w2.drewN nd2).setCell ⟨g6,0,none⟩ (.int .i64 0)).setCell ⟨g6,1,none⟩ (.int .i8 0)).setCell ⟨g6,2,none⟩ (.int .i64 0)).setCell ⟨g6,3,none⟩ (.int .i64 0)).setCell ⟨g6,4,none⟩ (.int .i64 0)).setCell ⟨g6,5,none⟩ (.int .i64 0)).setCell ⟨g6,6,none⟩ (.int .i64 0)).setCell ⟨g6,7,none⟩ (.bool false))=w9 at hb9 ht9 hk9 ⊢;exact Z3 (by rfl) (by rfl) (by rfl) hb9 (by rfl) hnx rfl L.length ht9 (Nat.le_refl _) hkc.out hk9

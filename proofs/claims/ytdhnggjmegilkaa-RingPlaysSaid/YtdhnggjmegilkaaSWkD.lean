/- The document's small functions: Turns, Place, Behindmost; the check's picked. Conditions: what their arguments are. -/
import Derived.Test.YtdhnggjmegilkaaSWkB
import Derived.Deep.AppendLies
import Derived.Test.YtdhnggjmegilkaaSBs
set_option linter.all false
set_option maxRecDepth 100000
set_option maxHeartbeats 16000000
namespace Go.Proofs.Ytdhnggjmegilkaa
open Go.RowKit
set_option maxRecDepth 100000
def Q2 (cs:List Int) (a:Xo):Int:=if 0≤a.cell then cs.getD a.cell.toNat 0 else a.was
def XbL (cs:List Int):Option Xo→Bool
 | some a=>decide (a.op≠6) || decide (Q2 cs a≠a.arg)
 | none=>false
def XP (L left:List Xo) (cs:List Int) (at' k:Nat):List Nat:=(List.range k).filter fun j=>XbL cs (Xp.nextF L left j at')
def livesL (L left:List Xo) (at' k:Nat):Nat:=((List.range k).filter fun j=>(Xp.nextF L left j at').isSome).length
theorem XbJ (L left:List Xo) (cs:List Int) (at' k:Nat):XP L left cs at' (k + 1)=XP L left cs at' k ++ (if XbL cs (Xp.nextF L left k at') then [k] else []):=by
 unfold XP;rw [List.range_succ,List.filter_append];simp [List.filter_cons]
theorem Xaf (L left:List Xo) (at' k:Nat):livesL L left at' (k + 1)=livesL L left at' k + (if (Xp.nextF L left k at').isSome then 1 else 0):=by
 unfold livesL;rw [List.range_succ,List.filter_append,List.length_append]
 congr 1
 cases hs:(Xp.nextF L left k at').isSome<;>simp [List.filter_cons,hs]
theorem US (L left:List Xo) (cs:List Int) (at' k:Nat):(XP L left cs at' k).length≤k:=by
 unfold XP;exact Nat.le_trans (List.length_filter_le _ _) (by simp)
theorem Xbu (L left:List Xo) (at' k:Nat):livesL L left at' k≤k:=by
 unfold livesL;exact Nat.le_trans (List.length_filter_le _ _) (by simp)
def Y3 (L:List Xo) (at':Nat) (ts:List Int):Prop:=∀ (j:Nat) (x:Int),ts[j]? = some x→∃ k:Nat,x=k∧k≤L.length∧∀ i a,at'≤i→i < k→L[i]? = some a→a.thread≠j
theorem Y3.set {L:List Xo} {at':Nat} {ts:List Int} (h:Y3 L at' ts) (j k:Nat) (hk:k≤L.length) (hc:∀ i a,at'≤i→i < k→L[i]? = some a→a.thread≠j):Y3 L at' (ts.set j k):=by
 intro i x hx;rw [List.getElem?_set] at hx
 by_cases e:j=i
 ·subst e
  rw [if_pos rfl] at hx
  split at hx
  ·exact ⟨k,(Option.some.inj hx).symm,hk,hc⟩
  ·cases hx
 ·rw [if_neg e] at hx;exact h i x hx
def Xem (L left:List Xo) (cs:List Int) (at' n tg cap:Nat) (w:World) (e:Ending) (w':World):Prop :=
 ∃ (vl:Value) (ts':List Int),e=.returned (.tuple #[vl,.int .i64 (livesL L left at' n)])∧w'.ownsRow w.heap.size 3 1 vl (XP L left cs at' n).length ((XP L left cs at' n).map fun j=>.int .i64 (j:Nat))∧ts'.length=n∧X5 w' tg cap ts'∧Y3 L at' ts'∧Kept (fun q=>q=tg) w w'
def XgQ (L left:List Xo) (cs:List Int) (at' n tg cap:Nat) (w:World) (l lv i:Value) (wr:World):Prop :=
 ∃ (k:Nat) (ts':List Int),k≤n∧i=.int .i64 k∧lv=.int .i64 (livesL L left at' k)∧ts'.length=n∧X5 wr tg cap ts'∧Y3 L at' ts'∧Kept (fun q=>q=tg) w wr∧wr.ownsRow w.heap.size 3 1 l (XP L left cs at' k).length ((XP L left cs at' k).map fun j=>.int .i64 (j:Nat))
theorem Xa6 {e:Int} {n nr:Nat} {aL al aC:Option Addr} {vW vR vF vP:Value} {cL cl cT cC tg cb B:Nat} {most last:Int} {L left:List Xo} {cs ts:List Int} {w:World} (hb:Blk w cb 190 (ckA e nr (.slice aL L.length cL) vW vR (.slice al left.length cl) vF vP most (.slice (some ⟨tg,0,none⟩) n cT) (.slice aC cs.length cC) last))
 (hL:XW w B aL L) (hl:XW w B al left) (hT:X5 w tg cT ts) (hn:ts.length=n) (hn64:n≤1000) (htg:B≤tg) (hBw:B≤w.heap.size) (at':Nat) (hat:at'≤L.length) (hc:Y3 L at' ts) (hop:∀ a,a∈L→a.op≠8)
 (hcs:∀ (i:Nat) (v:Int),cs[i]? = some v→∃ g,aC=some ⟨g,0,none⟩∧g≠tg∧g < w.heap.size∧w.cell? ⟨g,i,none⟩=some (.int .i64 v)) (hcell:∀ j a,Xp.nextF L left j at'=some a→0≤a.cell→a.cell.toNat < cs.length) :
 Calls Try.prog 134 #[.pointer (some ⟨cb,0,none⟩),.int .i64 at'] w (Xem L left cs at' n tg cT w):=by
 have hct:cb≠tg:=by obtain ⟨cs,h1,_⟩:=hT.blk;exact Blk.ne_ hb h1 (by decide)
 have HB:=Lib.hid hb;have HL:=Lib.hid hL;have Hl:=Lib.hid hl;have HT:=Lib.hid hT;have HC:=Lib.hid hc;have HO:=Lib.hid hop;have HCS:=Lib.hid hcs;have HCE:=Lib.hid hcell;have hcb:=Blk.lt hb;have htl:=Yu.lt hT;clear hb hL hl hT hc hop hcs hcell
 go_enter Try.func134,Try.ntmps134
 go_upto_region 4 with (fail)
 go_loopw [6,7,8] (fun l lv i wr=>XgQ L left cs at' n tg cT w l lv i wr) (fun _ _ i _=>n - (intOf i).toNat)
 case atStart=>exact ⟨0,ts,Nat.zero_le _,rfl,rfl,hn,HT.out,HC.out,Kept.refl _ w,⟨by simp [XP],.inl ⟨rfl,by simp [XP]⟩⟩⟩
 case round =>
  obtain ⟨k,ts',hk,rfl,rfl,hlen,hT',hCa,hKp,hown⟩:=hrel;have HB':Hid (Blk wr cb 190 (ckA e nr (.slice aL L.length cL) vW vR (.slice al left.length cl) vF vP most (.slice (some ⟨tg,0,none⟩) n cT) (.slice aC cs.length cC) last)):=Lib.hid (hKp.blk HB.out hct);have c9:wr.cell? ⟨cb,9,none⟩=some (.slice (some ⟨tg,0,none⟩) n cT):=Blk.cell HB'.out 9;have hcbr:cb < wr.heap.size:=by have:=hKp.size;omega
  replace hT':=Lib.hid hT';replace hCa:=Lib.hid hCa;replace hKp:=Lib.hid hKp;replace hown:=Lib.hid hown
  by_cases hkn:k < n
  ·have x0:decide (k < n)=true:=by simpa using hkn
   have x1:decide ((k:Int) < n)=true:=by simp;omega
   obtain ⟨x,hx⟩:∃ x,ts'[k]? = some x:=⟨_,List.getElem?_eq_getElem (by omega)⟩
   obtain ⟨k0,rfl,hk0L,hk0c⟩:=hCa.out k x hx;replace hk0c:=Lib.hid hk0c;have hlive:=Xaf L left at' k;have hable:=XbJ L left cs at' k;replace hlive:=Lib.hid hlive;replace hable:=Lib.hid hable;have hlv:=Xbu L left at' k;have hw0:IntKind.i64.wrap ((k:Int) + 1)=((k + 1:Nat):Int):=by rw [IntKind.wrap_i64];omega
   have hw1:IntKind.i64.wrap (((livesL L left at' k:Nat):Int) + 1)=((livesL L left at' k + 1:Nat):Int):=by rw [IntKind.wrap_i64];omega
   go_upto_region 6 with (fail)
   cases hnx:Xp.nextF L left k at' with
   | none =>
    go_upto_region 7 with (go_at_call 154;go_must (refine (XaR (e:=e) (n:=nr) (aL:=aL) (al:=al) (aT:=none) (vW:=vW) (vR:=vR) (vF:=vF) (vP:=vP) (vC:=.slice aC cs.length cC) (cL:=cL) (cl:=cl) (cT:=cT) (tg:=tg) (cb:=cb) (B:=B) (most:=most) (last:=last) (L:=L) (left:=left) (ts:=ts') (by rw [hlen];exact HB'.out) (HL.out.of fun q hq=>hKp.out.block q (by omega) (by omega)) (Hl.out.of fun q hq=>hKp.out.block q (by omega) (by omega)) hT'.out htg (by have:=hKp.out.size;omega) k at' k0 hx hk0L hat hk0c.out HO.out).mono ?_);rintro e1 w1 ⟨k1,he1,ht1,hk1L,hk1c,hK1⟩;rw [hnx] at he1;simp only [U7] at he1;obtain rfl:e1=_:=he1;have HT1:=Lib.hid ht1;have HK1:=Lib.hid hK1;have HC1:=Lib.hid hk1c;clear ht1 hK1 hk1c)
    go_wp2_with fail
    refine ⟨⟨k + 1,ts'.set k k1,by omega,by first|rfl|simp,?_,by rw [List.length_set];exact hlen,?_,?_,?_,?_⟩,by simp [intOf];omega⟩
    ·rw [hlive.out,hnx];rfl
    ·exact (HT1.out).of (Below.heap_alloc _ _ _ (Yu.lt HT1.out))
    ·exact hCa.out.set k k1 hk1L HC1.out
    ·exact (hKp.out.trans HK1.out).alloc _
    ·rw [hable.out,hnx]
     simp only [XbL,Bool.false_eq_true,if_false,List.append_nil];refine (Xj hown.out fun b hb=>?_).alloc _;have hbg:=XE hown.out hb;exact HK1.out.block b (own_lt hown.out hb) (by omega)
   | some a =>
    go_upto_region 7 with (go_at_call 154;go_must (refine (XaR (e:=e) (n:=nr) (aL:=aL) (al:=al) (aT:=none) (vW:=vW) (vR:=vR) (vF:=vF) (vP:=vP) (vC:=.slice aC cs.length cC) (cL:=cL) (cl:=cl) (cT:=cT) (tg:=tg) (cb:=cb) (B:=B) (most:=most) (last:=last) (L:=L) (left:=left) (ts:=ts') (by rw [hlen];exact HB'.out) (HL.out.of fun q hq=>hKp.out.block q (by omega) (by omega)) (Hl.out.of fun q hq=>hKp.out.block q (by omega) (by omega)) hT'.out htg (by have:=hKp.out.size;omega) k at' k0 hx hk0L hat hk0c.out HO.out).mono ?_);rintro e1 w1 ⟨k1,he1,ht1,hk1L,hk1c,hK1⟩;rw [hnx] at he1;simp only [U7,Yj] at he1;obtain rfl:e1=_:=he1;have HT1:=Lib.hid ht1;have HK1:=Lib.hid hK1;have HC1:=Lib.hid hk1c;clear ht1 hK1 hk1c)
    go_upto_region 8 with (fail)
    have hb9:Blk (w1.alloc (.cells #[.int .i64 a.thread,.int .i8 a.op,.int .i64 a.cell,.int .i64 a.arg,.int .i64 a.new,.int .i64 a.was,.int .i64 a.now,.bool a.ok] 172)) w1.heap.size 172 #[.int .i64 a.thread,.int .i8 a.op,.int .i64 a.cell,.int .i64 a.arg,.int .i64 a.new,.int .i64 a.was,.int .i64 a.now,.bool a.ok]:=Blk.new w1 _ _;have hk9:Kept (fun q=>q=tg) w (w1.alloc (.cells #[.int .i64 a.thread,.int .i8 a.op,.int .i64 a.cell,.int .i64 a.arg,.int .i64 a.new,.int .i64 a.was,.int .i64 a.now,.bool a.ok] 172)):=(hKp.out.trans HK1.out).alloc _;have ho9:∀ q,q < w1.heap.size→(w1.alloc (.cells #[.int .i64 a.thread,.int .i8 a.op,.int .i64 a.cell,.int .i64 a.arg,.int .i64 a.new,.int .i64 a.was,.int .i64 a.now,.bool a.ok] 172)).heap[q]? = w1.heap[q]?:=fun q hq=>Below.heap_alloc _ _ q hq;generalize (w1.alloc (.cells #[.int .i64 a.thread,.int .i8 a.op,.int .i64 a.cell,.int .i64 a.arg,.int .i64 a.new,.int .i64 a.was,.int .i64 a.now,.bool a.ok] 172))=w2 at hb9 hk9 ho9 ⊢;generalize hg9:w1.heap.size=g9 at hb9 ho9 ⊢;have ht2:X5 w2 tg cT (ts'.set k k1):=HT1.out.of (ho9 tg (by rw [← hg9];exact Yu.lt HT1.out));have how:w2.ownsRow w.heap.size 3 1 u6 (XP L left cs at' k).length ((XP L left cs at' k).map fun j=>.int .i64 (j:Nat)):=Xj hown.out fun b hb=>by
     have h1:=XE hown.out hb;have h2:=own_lt hown.out hb;rw [ho9 b (by have:=HK1.out.size;omega)];exact HK1.out.block b h2 (by omega)
    have c4:w2.cell? ⟨cb,10,none⟩=some (.slice aC cs.length cC):=Blk.cell (hk9.blk HB.out hct) 10;have hcb2:cb < w2.heap.size:=Blk.lt (hk9.blk HB.out hct);have z1:w2.cell? ⟨g9,1,none⟩=some (.int .i8 a.op):=Blk.cell hb9 1;have z3:w2.cell? ⟨g9,3,none⟩=some (.int .i64 a.arg):=Blk.cell hb9 3;have z5:w2.cell? ⟨g9,5,none⟩=some (.int .i64 a.was):=Blk.cell hb9 5;have z2:w2.cell? ⟨g9,2,none⟩=some (.int .i64 a.cell):=Blk.cell hb9 2;have hg9l:g9 < w2.heap.size:=Blk.lt hb9;have hcv:0≤a.cell→∃ (m g:Nat) (v:Int),a.cell=m∧m < cs.length∧aC=some ⟨g,0,none⟩∧w2.cell? ⟨g,m,none⟩=some (.int .i64 v)∧Q2 cs a=v:=fun h0=>by
     have hlt:=HCE.out k a hnx h0;obtain ⟨v,hv⟩:∃ v,cs[a.cell.toNat]? = some v:=⟨_,List.getElem?_eq_getElem hlt⟩
     obtain ⟨g,e1,e2,e3,e4⟩:=HCS.out _ v hv;refine ⟨a.cell.toNat,g,v,by omega,hlt,e1,?_,?_⟩
     ·simp only [World.cell?] at e4 ⊢
      rw [hk9.block g e3 e2];exact e4
     ·unfold Q2;rw [if_pos h0];simp [hv]
    replace hcv:=Lib.hid hcv;replace hk9:=Lib.hid hk9;replace ht2:=Lib.hid ht2;replace how:=Lib.hid how;clear hb9 ho9 hg9;obtain ⟨hv,hhv⟩:∃ hv,hv=Q2 cs a:=⟨_,rfl⟩
    have hable':=hable.out;have hlive':=hlive.out
    by_cases h0:0≤a.cell
    ·obtain ⟨m,g,v,e1,e2,rfl,e3,e4⟩:=hcv.out h0
     rw [e1] at z2;have y0:decide ((0:Int)≤(m:Int))=true:=by simp
     have y1:(m:Int) < cs.length:=by omega
     have y2:(0:Int)≤m:=by omega
     obtain rfl:hv=v:=hhv.trans e4;clear e4 h0;have hln:=US L left cs at' k;have HOT:=Lib.hid ((how.out.drew).alloc (.cells #[.int .i64 k] 3));have N2:Hid ((XP L left cs at' k).length + 1≤maxLen):=Lib.hid (by unfold maxLen;omega);have N3:Hid (((XP L left cs at' k).length + 1) * 8≤140737488355328):=Lib.hid (by omega);have N4:Hid (w.heap.size≤(w2.drew.alloc (.cells #[.int .i64 k] 3)).heap.size):=Lib.hid (by have:=hk9.out.size;simp;omega);obtain ⟨i0,hi0,hz0,hz1,hz2⟩:=XM UI;have hmay:XbL cs (some a)=(decide (a.op≠6) || decide (hv≠a.arg)):=by rw [hhv];rfl
     rw [hnx] at hable' hlive'
     by_cases p6:a.op=6
     ·have d1:decide (a.op=6)=true:=by simpa using p6
      have d2:(a.op == 6)=true:=by simpa using p6
      have d3:(a.op != 6)=false:=by simpa using p6
      by_cases pa:hv=a.arg
      ·have f1:decide (hv=a.arg)=true:=by simpa using pa
       have f2:(hv == a.arg)=true:=by simpa using pa
       have f3:(hv != a.arg)=false:=by simpa using pa
       have hm:XbL cs (some a)=false:=by rw [hmay];simp [p6,pa]
       replace hm:=Lib.hid hm;replace pa:=Lib.hid pa;replace p6:=Lib.hid p6
       go_upto_region 11 with (fail)
       go_region
       go_wp2_with fail
       refine ⟨⟨k + 1,ts'.set k k1,by omega,by first|rfl|simp,by rw [hlive'];first|rfl|simp,by rw [List.length_set];exact hlen,ht2.out.of rfl,hCa.out.set k k1 hk1L HC1.out,hk9.out.drew,?_⟩,by simp [intOf];omega⟩;rw [hable',hm.out];simpa using how.out.drew
      ·have f1:decide (hv=a.arg)=false:=by simpa using pa
       have f2:(hv == a.arg)=false:=by simpa using pa
       have f3:(hv != a.arg)=true:=by simpa using pa
       have hm:XbL cs (some a)=true:=by rw [hmay];simp [pa]
       replace hm:=Lib.hid hm;replace pa:=Lib.hid pa;replace p6:=Lib.hid p6
       go_upto_region 11 with (fail)
       go_region
       go_wp2_with (first|(at_builtin;refine wpList_append_lies _ rfl _ _ 24 rfl w.heap.size 3 i0 _ 1 8 Try.underlying24 hi0 hz0 hz1 hz2 rfl (by decide) _ (XP L left cs at' k).length ((XP L left cs at' k).map fun j=>.int .i64 (j:Nat)) rfl HOT.out ⟨w2.heap.size,0,none⟩ 1 1 [.int .i64 k] rfl rfl (World.news_of_block (cs:=#[.int .i64 k]) (t:=3) (fr:=(0,0)) (heap_alloc_new w2.drew _)) (by simp [Value.oneCell']) (by omega) N2.out N3.out N4.out _ rfl ?_;intro gg cap2 w3 hown3 hgrow hat3 hlt3;have HOWN:=Lib.hid hown3;have HGROW:=Lib.hid hgrow;clear hown3 hgrow hat3 hlt3))
       have hk3:Kept (fun q=>q=tg) w w3:=⟨HGROW.out.os.trans hk9.out.os,HGROW.out.tape.trans hk9.out.tape,HGROW.out.output.trans hk9.out.output,by have h1:=HGROW.out.size;have h2:=hk9.out.size;simp at h1;omega,fun q hq hn=>by
        have h2:=hk9.out.size;rw [HGROW.out.block q (by simp;omega) (fun e=>by have:=XE how.out e.symm;omega)];exact (Below.heap_alloc _ _ q (by show q < w2.heap.size;omega)).trans (hk9.out.block q hq hn)⟩
       have ht3:X5 w3 tg cT (ts'.set k k1):=ht2.out.of (by
        have h2:=hk9.out.size;rw [HGROW.out.block tg (by simp;omega) (fun e=>by have:=XE how.out e.symm;omega)];exact Below.heap_alloc _ _ tg (by show tg < w2.heap.size;omega))
       refine ⟨⟨k + 1,ts'.set k k1,by omega,by first|rfl|simp,by rw [hlive'];first|rfl|simp,by rw [List.length_set];exact hlen,ht3,hCa.out.set k k1 hk1L HC1.out,hk3,?_⟩,by simp [intOf];omega⟩;rw [hable',hm.out,if_pos rfl,List.length_append,List.map_append];exact HOWN.out
     ·have d1:decide (a.op=6)=false:=by simpa using p6
      have d2:(a.op == 6)=false:=by simpa using p6
      have d3:(a.op != 6)=true:=by simpa using p6
      have hm:XbL cs (some a)=true:=by rw [hmay];simp [p6]
      replace hm:=Lib.hid hm;replace p6:=Lib.hid p6
      go_upto_region 11 with (fail)
      go_region
      go_wp2_with (first|(at_builtin;refine wpList_append_lies _ rfl _ _ 24 rfl w.heap.size 3 i0 _ 1 8 Try.underlying24 hi0 hz0 hz1 hz2 rfl (by decide) _ (XP L left cs at' k).length ((XP L left cs at' k).map fun j=>.int .i64 (j:Nat)) rfl HOT.out ⟨w2.heap.size,0,none⟩ 1 1 [.int .i64 k] rfl rfl (World.news_of_block (cs:=#[.int .i64 k]) (t:=3) (fr:=(0,0)) (heap_alloc_new w2.drew _)) (by simp [Value.oneCell']) (by omega) N2.out N3.out N4.out _ rfl ?_;intro gg cap2 w3 hown3 hgrow hat3 hlt3;have HOWN:=Lib.hid hown3;have HGROW:=Lib.hid hgrow;clear hown3 hgrow hat3 hlt3))
      have hk3:Kept (fun q=>q=tg) w w3:=⟨HGROW.out.os.trans hk9.out.os,HGROW.out.tape.trans hk9.out.tape,HGROW.out.output.trans hk9.out.output,by have h1:=HGROW.out.size;have h2:=hk9.out.size;simp at h1;omega,fun q hq hn=>by
       have h2:=hk9.out.size;rw [HGROW.out.block q (by simp;omega) (fun e=>by have:=XE how.out e.symm;omega)];exact (Below.heap_alloc _ _ q (by show q < w2.heap.size;omega)).trans (hk9.out.block q hq hn)⟩
      have ht3:X5 w3 tg cT (ts'.set k k1):=ht2.out.of (by
       have h2:=hk9.out.size;rw [HGROW.out.block tg (by simp;omega) (fun e=>by have:=XE how.out e.symm;omega)];exact Below.heap_alloc _ _ tg (by show tg < w2.heap.size;omega))
      refine ⟨⟨k + 1,ts'.set k k1,by omega,by first|rfl|simp,by rw [hlive'];first|rfl|simp,by rw [List.length_set];exact hlen,ht3,hCa.out.set k k1 hk1L HC1.out,hk3,?_⟩,by simp [intOf];omega⟩;rw [hable',hm.out,if_pos rfl,List.length_append,List.map_append];exact HOWN.out
    ·obtain rfl:hv=a.was:=by rw [hhv];unfold Q2;rw [if_neg h0]
     have y0:decide ((0:Int)≤a.cell)=false:=by simpa using h0
     have hln:=US L left cs at' k;have HOT:=Lib.hid ((how.out).alloc (.cells #[.int .i64 k] 3));have N2:Hid ((XP L left cs at' k).length + 1≤maxLen):=Lib.hid (by unfold maxLen;omega);have N3:Hid (((XP L left cs at' k).length + 1) * 8≤140737488355328):=Lib.hid (by omega);have N4:Hid (w.heap.size≤(w2.alloc (.cells #[.int .i64 k] 3)).heap.size):=Lib.hid (by have:=hk9.out.size;simp;omega);obtain ⟨i0,hi0,hz0,hz1,hz2⟩:=XM UI;have hmay:XbL cs (some a)=(decide (a.op≠6) || decide (a.was≠a.arg)):=by rw [XbL,← hhv]
     rw [hnx] at hable' hlive'
     by_cases p6:a.op=6
     ·have d1:decide (a.op=6)=true:=by simpa using p6
      have d2:(a.op == 6)=true:=by simpa using p6
      have d3:(a.op != 6)=false:=by simpa using p6
      by_cases pa:a.was=a.arg
      ·have f1:decide (a.was=a.arg)=true:=by simpa using pa
       have f2:(a.was == a.arg)=true:=by simpa using pa
       have f3:(a.was != a.arg)=false:=by simpa using pa
       have hm:XbL cs (some a)=false:=by rw [hmay];simp [p6,pa]
       replace hm:=Lib.hid hm;replace pa:=Lib.hid pa;replace p6:=Lib.hid p6
       go_wp2_with fail
       refine ⟨⟨k + 1,ts'.set k k1,by omega,by first|rfl|simp,by rw [hlive'];first|rfl|simp,by rw [List.length_set];exact hlen,ht2.out.of rfl,hCa.out.set k k1 hk1L HC1.out,hk9.out,?_⟩,by simp [intOf];omega⟩;rw [hable',hm.out];simpa using how.out
      ·have f1:decide (a.was=a.arg)=false:=by simpa using pa
       have f2:(a.was == a.arg)=false:=by simpa using pa
       have f3:(a.was != a.arg)=true:=by simpa using pa
       have hm:XbL cs (some a)=true:=by rw [hmay];simp [pa]
       replace hm:=Lib.hid hm;replace pa:=Lib.hid pa;replace p6:=Lib.hid p6
       go_wp2_with (first|(at_builtin;refine wpList_append_lies _ rfl _ _ 24 rfl w.heap.size 3 i0 _ 1 8 Try.underlying24 hi0 hz0 hz1 hz2 rfl (by decide) _ (XP L left cs at' k).length ((XP L left cs at' k).map fun j=>.int .i64 (j:Nat)) rfl HOT.out ⟨w2.heap.size,0,none⟩ 1 1 [.int .i64 k] rfl rfl (World.news_of_block (cs:=#[.int .i64 k]) (t:=3) (fr:=(0,0)) (heap_alloc_new w2 _)) (by simp [Value.oneCell']) (by omega) N2.out N3.out N4.out _ rfl ?_;intro gg cap2 w3 hown3 hgrow hat3 hlt3;have HOWN:=Lib.hid hown3;have HGROW:=Lib.hid hgrow;clear hown3 hgrow hat3 hlt3))
       have hk3:Kept (fun q=>q=tg) w w3:=⟨HGROW.out.os.trans hk9.out.os,HGROW.out.tape.trans hk9.out.tape,HGROW.out.output.trans hk9.out.output,by have h1:=HGROW.out.size;have h2:=hk9.out.size;simp at h1;omega,fun q hq hn=>by
        have h2:=hk9.out.size;rw [HGROW.out.block q (by simp;omega) (fun e=>by have:=XE how.out e.symm;omega)];exact (Below.heap_alloc _ _ q (by show q < w2.heap.size;omega)).trans (hk9.out.block q hq hn)⟩
       have ht3:X5 w3 tg cT (ts'.set k k1):=ht2.out.of (by
        have h2:=hk9.out.size;rw [HGROW.out.block tg (by simp;omega) (fun e=>by have:=XE how.out e.symm;omega)];exact Below.heap_alloc _ _ tg (by show tg < w2.heap.size;omega))
       refine ⟨⟨k + 1,ts'.set k k1,by omega,by first|rfl|simp,by rw [hlive'];first|rfl|simp,by rw [List.length_set];exact hlen,ht3,hCa.out.set k k1 hk1L HC1.out,hk3,?_⟩,by simp [intOf];omega⟩;rw [hable',hm.out,if_pos rfl,List.length_append,List.map_append];exact HOWN.out
     ·have d1:decide (a.op=6)=false:=by simpa using p6
      have d2:(a.op == 6)=false:=by simpa using p6
      have d3:(a.op != 6)=true:=by simpa using p6
      have hm:XbL cs (some a)=true:=by rw [hmay];simp [p6]
      replace hm:=Lib.hid hm;replace p6:=Lib.hid p6
      go_wp2_with (first|(at_builtin;refine wpList_append_lies _ rfl _ _ 24 rfl w.heap.size 3 i0 _ 1 8 Try.underlying24 hi0 hz0 hz1 hz2 rfl (by decide) _ (XP L left cs at' k).length ((XP L left cs at' k).map fun j=>.int .i64 (j:Nat)) rfl HOT.out ⟨w2.heap.size,0,none⟩ 1 1 [.int .i64 k] rfl rfl (World.news_of_block (cs:=#[.int .i64 k]) (t:=3) (fr:=(0,0)) (heap_alloc_new w2 _)) (by simp [Value.oneCell']) (by omega) N2.out N3.out N4.out _ rfl ?_;intro gg cap2 w3 hown3 hgrow hat3 hlt3;have HOWN:=Lib.hid hown3;have HGROW:=Lib.hid hgrow;clear hown3 hgrow hat3 hlt3))
      have hk3:Kept (fun q=>q=tg) w w3:=⟨HGROW.out.os.trans hk9.out.os,HGROW.out.tape.trans hk9.out.tape,HGROW.out.output.trans hk9.out.output,by have h1:=HGROW.out.size;have h2:=hk9.out.size;simp at h1;omega,fun q hq hn=>by
       have h2:=hk9.out.size;rw [HGROW.out.block q (by simp;omega) (fun e=>by have:=XE how.out e.symm;omega)];exact (Below.heap_alloc _ _ q (by show q < w2.heap.size;omega)).trans (hk9.out.block q hq hn)⟩
      have ht3:X5 w3 tg cT (ts'.set k k1):=ht2.out.of (by
       have h2:=hk9.out.size;rw [HGROW.out.block tg (by simp;omega) (fun e=>by have:=XE how.out e.symm;omega)];exact Below.heap_alloc _ _ tg (by show tg < w2.heap.size;omega))
      refine ⟨⟨k + 1,ts'.set k k1,by omega,by first|rfl|simp,by rw [hlive'];first|rfl|simp,by rw [List.length_set];exact hlen,ht3,hCa.out.set k k1 hk1L HC1.out,hk3,?_⟩,by simp [intOf];omega⟩;rw [hable',hm.out,if_pos rfl,List.length_append,List.map_append];exact HOWN.out
  ·obtain rfl:k=n:=by omega
   have x0:decide (k < k)=false:=by simp
   have x1:decide ((k:Int) < k)=false:=by simp
   go_wp2_with fail
   go_ret2;exact ⟨_,ts',rfl,hown.out,hlen,hT'.out,hCa.out,hKp.out⟩
theorem XbT (most:Int) (w:World):Calls Try.prog 85 #[.int .i64 most] w (fun e w'=>e=.returned (.int .i64 (if most < 0 then 0 else if 65536 < most then 65536 else most))∧w'=w):=by
 by_cases h1:most < 0
 ·have d1:decide (most < 0)=true:=by simpa using h1
  rw [if_pos h1];clear h1
  go_enter Try.func85,Try.ntmps85
  go_wp2_with fail
  go_ret;exact ⟨rfl,rfl⟩
 ·rw [if_neg h1]
  have d1:decide (most < 0)=false:=by simpa using h1
  clear h1
  by_cases h2:65536 < most
  ·rw [if_pos h2]
   have d2:decide (65536 < most)=true:=by simpa using h2
   clear h2
   go_enter Try.func85,Try.ntmps85
   go_wp2_with fail
   go_ret;exact ⟨rfl,rfl⟩
  ·rw [if_neg h2]
   have d2:decide (65536 < most)=false:=by simpa using h2
   clear h2
   go_enter Try.func85,Try.ntmps85
   go_wp2_with fail
   go_ret;exact ⟨rfl,rfl⟩
theorem Xcu (p:Int) (n:Nat) (hn:0 < n) (hn2:n < 100000) (w:World):Calls Try.prog 81 #[.int .i64 p,.int .i64 n] w (fun e w'=>e=.returned (.int .i64 (p % n))∧w'=w):=by
 have hz:(0:Int) < n:=by omega
 have b1:=Int.emod_nonneg p (show (n:Int)≠0 by omega);have b2:=Int.emod_lt_of_pos p hz;have c1:=Int.emod_nonneg (-p) (show (n:Int)≠0 by omega);have c2:=Int.emod_lt_of_pos (-p) hz;have ht:=tmod_eq_if p n;have hn0:¬ n=0:=by omega
 by_cases hp:p.tmod n < 0
 ·have d1:decide (p.tmod n < 0)=true:=by simpa using hp
  have hw:IntKind.i64.wrap (p.tmod n + n)=p % n:=by
   have e1:=Int.emod_add_mul_ediv p n
   have:p.tmod n + n=p % n:=by
    rw [ht] at hp ⊢
    split at hp
    ·omega
    ·rename_i h
     rw [if_neg h];have e2:(-((-p) % (n:Int))) % n=p % n:=by
      have e1:=Int.emod_add_mul_ediv p n;have e2:=Int.emod_add_mul_ediv (-p) n;have e3 : -((-p) % (n:Int))=p + n * ((-p) / n):=by omega
      rw [e3,Int.add_mul_emod_self_left]
     rw [← e2];generalize (-p) % (n:Int)=q at hp c1 c2 ⊢;have e4:(-q + n) % (n:Int)=(-q) % n:=Int.add_emod_right ..;rw [← e4];exact (Int.emod_eq_of_lt (by omega) (by omega)).symm
   rw [this,IntKind.wrap_i64];omega
  clear hp ht b1 b2 c1 c2
  go_enter Try.func81,Try.ntmps81
  go_wp2_with fail
  go_ret;exact ⟨rfl,rfl⟩
 ·have d1:decide (p.tmod n < 0)=false:=by simpa using hp
  have hq:p.tmod n=p % n:=by
   rw [ht] at hp ⊢
   split at hp
   ·rename_i h;rw [if_pos h]
   ·rename_i h
    rw [if_neg h];have h0:(-p) % (n:Int)=0:=by omega
    rw [h0];have e2:(-((-p) % (n:Int))) % n=p % n:=by
     have e2:=Int.emod_add_mul_ediv (-p) n;have e3 : -((-p) % (n:Int))=p + n * ((-p) / n):=by omega
     rw [e3,Int.add_mul_emod_self_left]
    rw [h0] at e2;simpa using e2
  clear hp ht b1 b2 c1 c2;replace hq:=Lib.hid hq
  go_enter Try.func81,Try.ntmps81
  go_wp2_with fail
  go_ret;exact ⟨by first|rfl|(rw [hq.out];rfl),rfl⟩
def X0 (w:World) (b:Option Addr) (ls:List Int):Prop:=∀ (i:Nat) (x:Int),ls[i]? = some x→∃ g off,b=some ⟨g,off,none⟩∧w.cell? ⟨g,off + i,none⟩=some (.int .i64 x)
def QX (ls:List Int) (last:Int):Int:=(ls.find? fun x=>decide (last < x)).getD (ls.headD 0)
def XgN (ls:List Int) (last:Int) (w:World) (i:Value) (wr:World):Prop:=∃ k:Nat,k≤ls.length∧i=.int .i64 k∧wr=w∧∀ j x,j < k→ls[j]? = some x→¬ last < x
theorem Va (b:Option Addr) (cap:Nat) (ls:List Int) (last:Int) (w:World) (hn:0 < ls.length) (hn2:ls.length < 100000) (h:X0 w b ls):Calls Try.prog 155 #[.slice b ls.length cap,.int .i64 last] w (fun e w'=>e=.returned (.int .i64 (QX ls last))∧w'=w):=by
 have HN:=Lib.hid h;clear h
 go_enter Try.func155,Try.ntmps155
 go_wp2_with fail
 go_loopw [5] (fun i wr=>XgN ls last w i wr) (fun i _=>ls.length - (intOf i).toNat)
 case atStart=>exact ⟨0,Nat.zero_le _,rfl,rfl,fun j x h=>by omega⟩
 case round =>
  obtain ⟨k,hk,rfl,rfl,hkc⟩:=hrel;replace hkc:=Lib.hid hkc
  by_cases hkn:k < ls.length
  ·obtain ⟨x,hx⟩:∃ x,ls[k]? = some x:=⟨_,List.getElem?_eq_getElem hkn⟩
   obtain ⟨g,off,rfl,hc⟩:=HN.out k x hx;have x0:decide (k < ls.length)=true:=by simpa using hkn
   have x1:decide ((k:Int) < ls.length)=true:=by simp;omega
   have x2:(k:Int) < ls.length:=by omega
   have x3:(0:Int)≤k:=by omega
   have hw0:IntKind.i64.wrap ((k:Int) + 1)=((k + 1:Nat):Int):=by rw [IntKind.wrap_i64];omega
   by_cases hl:last < x
   ·have d1:decide (last < x)=true:=by simpa using hl
    replace hl:=Lib.hid hl
    go_wp2_with fail
    go_ret;refine ⟨?_,rfl⟩;have hf:ls.find? (fun x=>decide (last < x))=some x:=by
     rw [List.find?_eq_some_iff_getElem];refine ⟨by simpa using hl.out,k,hkn,(List.getElem?_eq_some_iff.1 hx).2,fun j hj=>?_⟩
     have:=hkc.out j _ hj (List.getElem?_eq_getElem (by omega))
     simpa using this
    unfold QX;rw [hf];rfl
   ·have d1:decide (last < x)=false:=by simpa using hl
    replace hl:=Lib.hid hl
    go_wp2_with fail
    exact ⟨⟨k + 1,by omega,by first|rfl|simp,rfl,fun j y hj hy=>by
     by_cases e:j=k
     ·subst e;rw [hx] at hy;rw [← Option.some.inj hy];exact hl.out
     ·exact hkc.out j y (by omega) hy⟩,by simp [intOf];omega⟩
  ·obtain rfl:k=ls.length:=by omega
   have x0:decide (ls.length < ls.length)=false:=by simp
   have x1:decide ((ls.length:Int) < ls.length)=false:=by simp
   obtain ⟨x,hx⟩:∃ x,ls[0]? = some x:=⟨_,List.getElem?_eq_getElem hn⟩
   obtain ⟨g,off,rfl,hc⟩:=HN.out 0 x hx;rw [Nat.add_zero] at hc;have x2:(0:Int) < ls.length:=by omega
   go_wp2_with fail
   go_ret;refine ⟨?_,rfl⟩;have hf:ls.find? (fun x=>decide (last < x))=none:=by
    rw [List.find?_eq_none];intro y hy;obtain ⟨j,hj⟩:=List.getElem?_of_mem hy;simpa using hkc.out j y ((List.getElem?_eq_some_iff.1 hj).1) hj
   unfold QX;rw [hf];simp only [Option.getD_none];rw [List.headD_eq_head?_getD,List.head?_eq_getElem?,hx];rfl
def VM (picks ls:List Int) (last:Int) (turn:Nat):Int :=
 match picks[turn]? with
 | some p=>ls.getD (p % (ls.length:Int)).toNat 0
 | none=>QX ls last
theorem Xbp {e:Int} {nr cb cP cap turn:Nat} {aP b:Option Addr} {vL vW vR vl vF vT vC:Value} {most last:Int} {picks ls:List Int} {w:World} (hb:Blk w cb 190 (ckA e nr vL vW vR vl vF (.slice aP picks.length cP) most vT vC last))
 (hP:X0 w aP picks) (hl:X0 w b ls) (hn:0 < ls.length) (hn2:ls.length < 100000) (hp2:picks.length < 9000000000000) (ht2:turn < 9000000000000) :
 Calls Try.prog 135 #[.pointer (some ⟨cb,0,none⟩),.slice b ls.length cap,.int .i64 turn] w (fun e w'=>e=.returned (.int .i64 (VM picks ls last turn))∧w'=w):=by
 have c7:w.cell? ⟨cb,7,none⟩=some (.slice aP picks.length cP):=Blk.cell hb 7;have c11:w.cell? ⟨cb,11,none⟩=some (.int .i64 last):=Blk.cell hb 11;have hcb:=Blk.lt hb;replace hP:=Lib.hid hP;replace hl:=Lib.hid hl;clear hb
 by_cases ht:turn < picks.length
 ·obtain ⟨p,hp⟩:∃ p,picks[turn]? = some p:=⟨_,List.getElem?_eq_getElem ht⟩
  obtain ⟨g,off,rfl,hc⟩:=hP.out turn p hp;have hz:(0:Int) < ls.length:=by omega
  have b1:=Int.emod_nonneg p (show (ls.length:Int)≠0 by omega);have b2:=Int.emod_lt_of_pos p hz;obtain ⟨k,hk⟩:∃ k:Nat,p % (ls.length:Int)=k:=⟨(p % (ls.length:Int)).toNat,by omega⟩
  have hkl:k < ls.length:=by omega
  obtain ⟨x,hx⟩:∃ x,ls[k]? = some x:=⟨_,List.getElem?_eq_getElem hkl⟩
  obtain ⟨g2,off2,rfl,hc2⟩:=hl.out k x hx;have hF:VM picks ls last turn=x:=by
   unfold VM;rw [hp];simp only [hk,Int.toNat_natCast];rw [List.getD_eq_getElem?_getD,hx];rfl
  have d1:decide (turn < picks.length)=true:=by simpa using ht
  have d2:decide ((turn:Int) < picks.length)=true:=by simp;omega
  have i1:(turn:Int) < picks.length:=by omega
  have i2:(0:Int)≤turn:=by omega
  have i3:(k:Int) < ls.length:=by omega
  have i4:(0:Int)≤k:=by omega
  replace hk:=Lib.hid hk;clear hp hx b1 b2 ht
  go_enter Try.func135,Try.ntmps135
  go_wp2_with (go_at_call 81;go_must (refine (Xcu p ls.length hn hn2 _).mono ?_);rintro e1 w1 ⟨he1,rfl⟩;rw [hk.out] at he1;obtain rfl:e1=_:=he1)
  go_ret;exact ⟨by rw [hF];rfl,rfl⟩
 ·have hp:picks[turn]? = none:=List.getElem?_eq_none (by omega)
  have hF:VM picks ls last turn=QX ls last:=by unfold VM;rw [hp]
  have d1:decide (turn < picks.length)=false:=by simpa using ht
  have d2:decide ((turn:Int) < picks.length)=false:=by simp;omega
  clear hp ht
  go_enter Try.func135,Try.ntmps135
  go_wp2_with (go_at_call 155;go_must (refine (Va _ _ ls last _ hn hn2 hl.out).mono ?_);rintro e1 w1 ⟨he1,rfl⟩;obtain rfl:e1=_:=he1)
  go_ret;exact ⟨by rw [hF];rfl,rfl⟩

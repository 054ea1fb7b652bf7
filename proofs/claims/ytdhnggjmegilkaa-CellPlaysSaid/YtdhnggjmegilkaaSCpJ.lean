/- The cell law's long: more than a statement plays. Conditions: no list is longer than 2^50. -/
import Derived.Test.YtdhnggjmegilkaaSWkB
import Derived.Deep.AppendLies
import Derived.Test.YtdhnggjmegilkaaSRnN
import Derived.Test.YtdhnggjmegilkaaSCpA
import Derived.Test.YtdhnggjmegilkaaSTkJ
import Derived.Test.YtdhnggjmegilkaaSKept
set_option linter.unusedSimpArgs false
set_option linter.unusedVariables false
set_option maxRecDepth 100000
set_option maxHeartbeats 16000000
namespace Go.Proofs.Ytdhnggjmegilkaa
open Go.RowKit
set_option maxRecDepth 100000
def Q0 (cs:List Int) (a:Xn):Int:=if 0≤a.cell then cs.getD a.cell.toNat 0 else a.was
def XbI (cs:List Int):Option Xn→Bool
 | some a=>decide (a.op≠6) || decide (Q0 cs a≠a.arg)
 | none=>false
def XN (L left:List Xn) (cs:List Int) (at' k:Nat):List Nat:=(List.range k).filter fun j=>XbI cs (Xp.nextF L left j at')
def livesL (L left:List Xn) (at' k:Nat):Nat:=((List.range k).filter fun j=>(Xp.nextF L left j at').isSome).length
theorem XbG (L left:List Xn) (cs:List Int) (at' k:Nat):XN L left cs at' (k + 1)=XN L left cs at' k ++ (if XbI cs (Xp.nextF L left k at') then [k] else []):=by
 unfold XN
 rw [List.range_succ,List.filter_append]
 simp [List.filter_cons]
theorem Xak (L left:List Xn) (at' k:Nat):livesL L left at' (k + 1)=livesL L left at' k + (if (Xp.nextF L left k at').isSome then 1 else 0):=by
 unfold livesL
 rw [List.range_succ,List.filter_append,List.length_append]
 congr 1
 cases hs:(Xp.nextF L left k at').isSome<;>simp [List.filter_cons,hs]
theorem UC (L left:List Xn) (cs:List Int) (at' k:Nat):(XN L left cs at' k).length≤k:=by
 unfold XN;exact Nat.le_trans (List.length_filter_le _ _) (by simp)
theorem Xbs (L left:List Xn) (at' k:Nat):livesL L left at' k≤k:=by
 unfold livesL;exact Nat.le_trans (List.length_filter_le _ _) (by simp)
def YW (L:List Xn) (at':Nat) (ts:List Int):Prop:=∀ (j:Nat) (x:Int),ts[j]? = some x→∃ k:Nat,x=k∧k≤L.length∧∀ i a,at'≤i→i < k→L[i]? = some a→a.thread≠j
theorem YW.set {L:List Xn} {at':Nat} {ts:List Int} (h:YW L at' ts) (j k:Nat) (hk:k≤L.length) (hc:∀ i a,at'≤i→i < k→L[i]? = some a→a.thread≠j):YW L at' (ts.set j k):=by
 intro i x hx
 rw [List.getElem?_set] at hx
 by_cases e:j=i
 ·subst e
  rw [if_pos rfl] at hx
  split at hx
  ·exact ⟨k,(OI hx).symm,hk,hc⟩
  ·cases hx
 ·rw [if_neg e] at hx;exact h i x hx
def Xeb (L left:List Xn) (cs:List Int) (at' n tg cap:Nat) (w:World) (e:Ending) (w':World):Prop :=
 ∃ (vl:Value) (ts':List Int),e=.returned (.tuple #[vl,.int .i64 (livesL L left at' n)])∧w'.ownsRow w.heap.size 3 1 vl (XN L left cs at' n).length ((XN L left cs at' n).map fun j=>.int .i64 (j:Nat))∧ts'.length=n∧X1 w' tg cap ts'∧YW L at' ts'∧Kept (fun q=>q=tg) w w'
def Xgk (L left:List Xn) (cs:List Int) (at' n tg cap:Nat) (w:World) (l lv i:Value) (wr:World):Prop :=
 ∃ (k:Nat) (ts':List Int),k≤n∧i=.int .i64 k∧lv=.int .i64 (livesL L left at' k)∧ts'.length=n∧X1 wr tg cap ts'∧YW L at' ts'∧Kept (fun q=>q=tg) w wr∧wr.ownsRow w.heap.size 3 1 l (XN L left cs at' k).length ((XN L left cs at' k).map fun j=>.int .i64 (j:Nat))
theorem Xa3 {e:Int} {n nr:Nat} {aL al aC:Option Addr} {vW vR vF vP:Value} {cL cl cT cC tg cb B:Nat} {most last:Int} {L left:List Xn} {cs ts:List Int} {w:World} (hb:Blk w cb 190 (ckA e nr (.slice aL L.length cL) vW vR (.slice al left.length cl) vF vP most (.slice (some ⟨tg,0,none⟩) n cT) (.slice aC cs.length cC) last))
 (hL:XT w B aL L) (hl:XT w B al left) (hT:X1 w tg cT ts) (hn:ts.length=n) (hn64:n≤1000) (htg:B≤tg) (hBw:B≤w.heap.size) (at':Nat) (hat:at'≤L.length) (hc:YW L at' ts) (hop:∀ a,a∈L→a.op≠8)
 (hcs:∀ (i:Nat) (v:Int),cs[i]? = some v→∃ g,aC=some ⟨g,0,none⟩∧g≠tg∧g < w.heap.size∧w.cell? ⟨g,i,none⟩=some (.int .i64 v)) (hcell:∀ j a,Xp.nextF L left j at'=some a→0≤a.cell→a.cell.toNat < cs.length) :
 Calls Try.prog 134 #[.pointer (some ⟨cb,0,none⟩),.int .i64 at'] w (Xeb L left cs at' n tg cT w):=by
 have hct:cb≠tg:=by obtain ⟨cs,h1,_⟩:=hT.blk;exact Blk.ne_ hb h1 (by decide)
 have HB:=HD hb
 have HL:=HD hL
 have Hl:=HD hl
 have HT:=HD hT
 have HC:=HD hc
 have HO:=HD hop
 have HCS:=HD hcs
 have HCE:=HD hcell
 have hcb:=Blk.lt hb
 have htl:=Yo.lt hT
 clear hb hL hl hT hc hop hcs hcell
 go_enter Try.func134,Try.ntmps134
 go_upto_region 4 with (fail)
 go_loopw [6,7,8] (fun l lv i wr=>Xgk L left cs at' n tg cT w l lv i wr) (fun _ _ i _=>n - (intOf i).toNat)
 case atStart=>exact ⟨0,ts,Nat.zero_le _,rfl,rfl,hn,HT.out,HC.out,Kept.refl _ w,⟨by simp [XN],.inl ⟨rfl,by simp [XN]⟩⟩⟩
 case round =>
  obtain ⟨k,ts',hk,rfl,rfl,hlen,hT',hCa,hKp,hown⟩:=hrel
  have HB':Hid (Blk wr cb 190 (ckA e nr (.slice aL L.length cL) vW vR (.slice al left.length cl) vF vP most (.slice (some ⟨tg,0,none⟩) n cT) (.slice aC cs.length cC) last)):=HD (hKp.blk HB.out hct)
  have c9:wr.cell? ⟨cb,9,none⟩=some (.slice (some ⟨tg,0,none⟩) n cT):=Blk.cell HB'.out 9
  have hcbr:cb < wr.heap.size:=by have:=hKp.size;omega
  replace hT':=HD hT'
  replace hCa:=HD hCa
  replace hKp:=HD hKp
  replace hown:=HD hown
  by_cases hkn:k < n
  ·have x0:decide (k < n)=true:=by simpa using hkn
   have x1:decide ((k:Int) < n)=true:=by simp;omega
   obtain ⟨x,hx⟩:∃ x,ts'[k]? = some x:=⟨_,List.getElem?_eq_getElem (by omega)⟩
   obtain ⟨k0,rfl,hk0L,hk0c⟩:=hCa.out k x hx
   replace hk0c:=HD hk0c
   have hlive:=Xak L left at' k
   have hable:=XbG L left cs at' k
   replace hlive:=HD hlive
   replace hable:=HD hable
   have hlv:=Xbs L left at' k
   have hw0:IntKind.i64.wrap ((k:Int) + 1)=((k + 1:Nat):Int):=by rw [IntKind.wrap_i64];omega
   have hw1:IntKind.i64.wrap (((livesL L left at' k:Nat):Int) + 1)=((livesL L left at' k + 1:Nat):Int):=by rw [IntKind.wrap_i64];omega
   go_upto_region 6 with (fail)
   cases hnx:Xp.nextF L left k at' with
   | none =>
    go_upto_region 7 with (go_at_call 154;go_must (refine (XaS (e:=e) (n:=nr) (aL:=aL) (al:=al) (aT:=none) (vW:=vW) (vR:=vR) (vF:=vF) (vP:=vP) (vC:=.slice aC cs.length cC) (cL:=cL) (cl:=cl) (cT:=cT) (tg:=tg) (cb:=cb) (B:=B) (most:=most) (last:=last) (L:=L) (left:=left) (ts:=ts') (by rw [hlen];exact HB'.out) (HL.out.of fun q hq=>hKp.out.block q (by omega) (by omega)) (Hl.out.of fun q hq=>hKp.out.block q (by omega) (by omega)) hT'.out htg (by have:=hKp.out.size;omega) k at' k0 hx hk0L hat hk0c.out HO.out).mono ?_);rintro e1 w1 ⟨k1,he1,ht1,hk1L,hk1c,hK1⟩;rw [hnx] at he1;simp only [UQ] at he1;obtain rfl:e1=_:=he1;have HT1:=HD ht1;have HK1:=HD hK1;have HC1:=HD hk1c;clear ht1 hK1 hk1c)
    go_wp2_with fail
    refine ⟨⟨k + 1,ts'.set k k1,by omega,by first|rfl|simp,?_,by rw [List.length_set];exact hlen,?_,?_,?_,?_⟩,by simp [intOf];omega⟩
    ·rw [hlive.out,hnx];rfl
    ·exact (HT1.out).of (Below.heap_alloc _ _ _ (Yo.lt HT1.out))
    ·exact hCa.out.set k k1 hk1L HC1.out
    ·exact (hKp.out.trans HK1.out).alloc _
    ·rw [hable.out,hnx]
     simp only [XbI,Bool.false_eq_true,if_false,List.append_nil]
     refine (Xh hown.out fun b hb=>?_).alloc _
     have hbg:=XF hown.out hb
     exact HK1.out.block b (Xq hown.out hb) (by omega)
   | some a =>
    go_upto_region 7 with (go_at_call 154;go_must (refine (XaS (e:=e) (n:=nr) (aL:=aL) (al:=al) (aT:=none) (vW:=vW) (vR:=vR) (vF:=vF) (vP:=vP) (vC:=.slice aC cs.length cC) (cL:=cL) (cl:=cl) (cT:=cT) (tg:=tg) (cb:=cb) (B:=B) (most:=most) (last:=last) (L:=L) (left:=left) (ts:=ts') (by rw [hlen];exact HB'.out) (HL.out.of fun q hq=>hKp.out.block q (by omega) (by omega)) (Hl.out.of fun q hq=>hKp.out.block q (by omega) (by omega)) hT'.out htg (by have:=hKp.out.size;omega) k at' k0 hx hk0L hat hk0c.out HO.out).mono ?_);rintro e1 w1 ⟨k1,he1,ht1,hk1L,hk1c,hK1⟩;rw [hnx] at he1;simp only [UQ,Yd] at he1;obtain rfl:e1=_:=he1;have HT1:=HD ht1;have HK1:=HD hK1;have HC1:=HD hk1c;clear ht1 hK1 hk1c)
    go_upto_region 8 with (fail)
    have hb9:Blk (w1.alloc (.cells #[.int .i64 a.thread,.int .i8 a.op,.int .i64 a.cell,.int .i64 a.arg,.int .i64 a.new,.int .i64 a.was,.int .i64 a.now,.bool a.ok] 172)) w1.heap.size 172 #[.int .i64 a.thread,.int .i8 a.op,.int .i64 a.cell,.int .i64 a.arg,.int .i64 a.new,.int .i64 a.was,.int .i64 a.now,.bool a.ok]:=Blk.new w1 _ _
    have hk9:Kept (fun q=>q=tg) w (w1.alloc (.cells #[.int .i64 a.thread,.int .i8 a.op,.int .i64 a.cell,.int .i64 a.arg,.int .i64 a.new,.int .i64 a.was,.int .i64 a.now,.bool a.ok] 172)):=(hKp.out.trans HK1.out).alloc _
    have ho9:∀ q,q < w1.heap.size→(w1.alloc (.cells #[.int .i64 a.thread,.int .i8 a.op,.int .i64 a.cell,.int .i64 a.arg,.int .i64 a.new,.int .i64 a.was,.int .i64 a.now,.bool a.ok] 172)).heap[q]? = w1.heap[q]?:=fun q hq=>Below.heap_alloc _ _ q hq
    generalize (w1.alloc (.cells #[.int .i64 a.thread,.int .i8 a.op,.int .i64 a.cell,.int .i64 a.arg,.int .i64 a.new,.int .i64 a.was,.int .i64 a.now,.bool a.ok] 172))=w2 at hb9 hk9 ho9 ⊢
    generalize hg9:w1.heap.size=g9 at hb9 ho9 ⊢
    have ht2:X1 w2 tg cT (ts'.set k k1):=HT1.out.of (ho9 tg (by rw [← hg9];exact Yo.lt HT1.out))
    have how:w2.ownsRow w.heap.size 3 1 u6 (XN L left cs at' k).length ((XN L left cs at' k).map fun j=>.int .i64 (j:Nat)):=Xh hown.out fun b hb=>by
     have h1:=XF hown.out hb
     have h2:=Xq hown.out hb
     rw [ho9 b (by have:=HK1.out.size;omega)]
     exact HK1.out.block b h2 (by omega)
    have c4:w2.cell? ⟨cb,10,none⟩=some (.slice aC cs.length cC):=Blk.cell (hk9.blk HB.out hct) 10
    have hcb2:cb < w2.heap.size:=Blk.lt (hk9.blk HB.out hct)
    have z1:w2.cell? ⟨g9,1,none⟩=some (.int .i8 a.op):=Blk.cell hb9 1
    have z3:w2.cell? ⟨g9,3,none⟩=some (.int .i64 a.arg):=Blk.cell hb9 3
    have z5:w2.cell? ⟨g9,5,none⟩=some (.int .i64 a.was):=Blk.cell hb9 5
    have z2:w2.cell? ⟨g9,2,none⟩=some (.int .i64 a.cell):=Blk.cell hb9 2
    have hg9l:g9 < w2.heap.size:=Blk.lt hb9
    have hcv:0≤a.cell→∃ (m g:Nat) (v:Int),a.cell=m∧m < cs.length∧aC=some ⟨g,0,none⟩∧w2.cell? ⟨g,m,none⟩=some (.int .i64 v)∧Q0 cs a=v:=fun h0=>by
     have hlt:=HCE.out k a hnx h0
     obtain ⟨v,hv⟩:∃ v,cs[a.cell.toNat]? = some v:=⟨_,List.getElem?_eq_getElem hlt⟩
     obtain ⟨g,e1,e2,e3,e4⟩:=HCS.out _ v hv
     refine ⟨a.cell.toNat,g,v,by omega,hlt,e1,?_,?_⟩
     ·simp only [World.cell?] at e4 ⊢
      rw [hk9.block g e3 e2];exact e4
     ·unfold Q0;rw [if_pos h0];simp [hv]
    replace hcv:=HD hcv
    replace hk9:=HD hk9
    replace ht2:=HD ht2
    replace how:=HD how
    clear hb9 ho9 hg9
    obtain ⟨hv,hhv⟩:∃ hv,hv=Q0 cs a:=⟨_,rfl⟩
    have hable':=hable.out
    have hlive':=hlive.out
    by_cases h0:0≤a.cell
    ·obtain ⟨m,g,v,e1,e2,rfl,e3,e4⟩:=hcv.out h0
     rw [e1] at z2
     have y0:decide ((0:Int)≤(m:Int))=true:=by simp
     have y1:(m:Int) < cs.length:=by omega
     have y2:(0:Int)≤m:=by omega
     obtain rfl:hv=v:=hhv.trans e4
     clear e4 h0
     have hln:=UC L left cs at' k
     have HOT:=HD ((how.out.drew).alloc (.cells #[.int .i64 k] 3))
     have N2:Hid ((XN L left cs at' k).length + 1≤maxLen):=HD (by unfold maxLen;omega)
     have N3:Hid (((XN L left cs at' k).length + 1) * 8≤140737488355328):=HD (by omega)
     have N4:Hid (w.heap.size≤(w2.drew.alloc (.cells #[.int .i64 k] 3)).heap.size):=HD (by have:=hk9.out.size;simp;omega)
     obtain ⟨i0,hi0,hz0,hz1,hz2⟩:=XI Uv
     have hmay:XbI cs (some a)=(decide (a.op≠6) || decide (hv≠a.arg)):=by rw [hhv];rfl
     rw [hnx] at hable' hlive'
     by_cases p6:a.op=6
     ·have d1:decide (a.op=6)=true:=by simpa using p6
      have d2:(a.op == 6)=true:=by simpa using p6
      have d3:(a.op != 6)=false:=by simpa using p6
      by_cases pa:hv=a.arg
      ·have f1:decide (hv=a.arg)=true:=by simpa using pa
       have f2:(hv == a.arg)=true:=by simpa using pa
       have f3:(hv != a.arg)=false:=by simpa using pa
       have hm:XbI cs (some a)=false:=by rw [hmay];simp [p6,pa]
       replace hm:=HD hm
       replace pa:=HD pa
       replace p6:=HD p6
       go_upto_region 11 with (fail)
       go_region
       go_wp2_with fail
       refine ⟨⟨k + 1,ts'.set k k1,by omega,by first|rfl|simp,by rw [hlive'];first|rfl|simp,by rw [List.length_set];exact hlen,ht2.out.of rfl,hCa.out.set k k1 hk1L HC1.out,hk9.out.drew,?_⟩,by simp [intOf];omega⟩
       rw [hable',hm.out]
       simpa using how.out.drew
      ·have f1:decide (hv=a.arg)=false:=by simpa using pa
       have f2:(hv == a.arg)=false:=by simpa using pa
       have f3:(hv != a.arg)=true:=by simpa using pa
       have hm:XbI cs (some a)=true:=by rw [hmay];simp [pa]
       replace hm:=HD hm
       replace pa:=HD pa
       replace p6:=HD p6
       go_upto_region 11 with (fail)
       go_region
       go_wp2_with (first|(at_builtin;refine wpList_append_lies _ rfl _ _ 24 rfl w.heap.size 3 i0 _ 1 8 Try.underlying24 hi0 hz0 hz1 hz2 rfl (by decide) _ (XN L left cs at' k).length ((XN L left cs at' k).map fun j=>.int .i64 (j:Nat)) rfl HOT.out ⟨w2.heap.size,0,none⟩ 1 1 [.int .i64 k] rfl rfl (World.news_of_block (cs:=#[.int .i64 k]) (t:=3) (fr:=(0,0)) (heap_alloc_new w2.drew _)) (by simp [Value.oneCell']) (by omega) N2.out N3.out N4.out _ rfl ?_;intro gg cap2 w3 hown3 hgrow hat3 hlt3;have HOWN:=HD hown3;have HGROW:=HD hgrow;clear hown3 hgrow hat3 hlt3))
       have hk3:Kept (fun q=>q=tg) w w3:=⟨HGROW.out.os.trans hk9.out.os,HGROW.out.tape.trans hk9.out.tape,HGROW.out.output.trans hk9.out.output,by have h1:=HGROW.out.size;have h2:=hk9.out.size;simp at h1;omega,fun q hq hn=>by
        have h2:=hk9.out.size
        rw [HGROW.out.block q (by simp;omega) (fun e=>by have:=XF how.out e.symm;omega)]
        exact (Below.heap_alloc _ _ q (by show q < w2.heap.size;omega)).trans (hk9.out.block q hq hn)⟩
       have ht3:X1 w3 tg cT (ts'.set k k1):=ht2.out.of (by
        have h2:=hk9.out.size
        rw [HGROW.out.block tg (by simp;omega) (fun e=>by have:=XF how.out e.symm;omega)]
        exact Below.heap_alloc _ _ tg (by show tg < w2.heap.size;omega))
       refine ⟨⟨k + 1,ts'.set k k1,by omega,by first|rfl|simp,by rw [hlive'];first|rfl|simp,by rw [List.length_set];exact hlen,ht3,hCa.out.set k k1 hk1L HC1.out,hk3,?_⟩,by simp [intOf];omega⟩
       rw [hable',hm.out,if_pos rfl,List.length_append,List.map_append]
       exact HOWN.out
     ·have d1:decide (a.op=6)=false:=by simpa using p6
      have d2:(a.op == 6)=false:=by simpa using p6
      have d3:(a.op != 6)=true:=by simpa using p6
      have hm:XbI cs (some a)=true:=by rw [hmay];simp [p6]
      replace hm:=HD hm
      replace p6:=HD p6
      go_upto_region 11 with (fail)
      go_region
      go_wp2_with (first|(at_builtin;refine wpList_append_lies _ rfl _ _ 24 rfl w.heap.size 3 i0 _ 1 8 Try.underlying24 hi0 hz0 hz1 hz2 rfl (by decide) _ (XN L left cs at' k).length ((XN L left cs at' k).map fun j=>.int .i64 (j:Nat)) rfl HOT.out ⟨w2.heap.size,0,none⟩ 1 1 [.int .i64 k] rfl rfl (World.news_of_block (cs:=#[.int .i64 k]) (t:=3) (fr:=(0,0)) (heap_alloc_new w2.drew _)) (by simp [Value.oneCell']) (by omega) N2.out N3.out N4.out _ rfl ?_;intro gg cap2 w3 hown3 hgrow hat3 hlt3;have HOWN:=HD hown3;have HGROW:=HD hgrow;clear hown3 hgrow hat3 hlt3))
      have hk3:Kept (fun q=>q=tg) w w3:=⟨HGROW.out.os.trans hk9.out.os,HGROW.out.tape.trans hk9.out.tape,HGROW.out.output.trans hk9.out.output,by have h1:=HGROW.out.size;have h2:=hk9.out.size;simp at h1;omega,fun q hq hn=>by
       have h2:=hk9.out.size
       rw [HGROW.out.block q (by simp;omega) (fun e=>by have:=XF how.out e.symm;omega)]
       exact (Below.heap_alloc _ _ q (by show q < w2.heap.size;omega)).trans (hk9.out.block q hq hn)⟩
      have ht3:X1 w3 tg cT (ts'.set k k1):=ht2.out.of (by
       have h2:=hk9.out.size
       rw [HGROW.out.block tg (by simp;omega) (fun e=>by have:=XF how.out e.symm;omega)]
       exact Below.heap_alloc _ _ tg (by show tg < w2.heap.size;omega))
      refine ⟨⟨k + 1,ts'.set k k1,by omega,by first|rfl|simp,by rw [hlive'];first|rfl|simp,by rw [List.length_set];exact hlen,ht3,hCa.out.set k k1 hk1L HC1.out,hk3,?_⟩,by simp [intOf];omega⟩
      rw [hable',hm.out,if_pos rfl,List.length_append,List.map_append]
      exact HOWN.out
    ·obtain rfl:hv=a.was:=by rw [hhv];unfold Q0;rw [if_neg h0]
     have y0:decide ((0:Int)≤a.cell)=false:=by simpa using h0
     have hln:=UC L left cs at' k
     have HOT:=HD ((how.out).alloc (.cells #[.int .i64 k] 3))
     have N2:Hid ((XN L left cs at' k).length + 1≤maxLen):=HD (by unfold maxLen;omega)
     have N3:Hid (((XN L left cs at' k).length + 1) * 8≤140737488355328):=HD (by omega)
     have N4:Hid (w.heap.size≤(w2.alloc (.cells #[.int .i64 k] 3)).heap.size):=HD (by have:=hk9.out.size;simp;omega)
     obtain ⟨i0,hi0,hz0,hz1,hz2⟩:=XI Uv
     have hmay:XbI cs (some a)=(decide (a.op≠6) || decide (a.was≠a.arg)):=by rw [XbI,← hhv]
     rw [hnx] at hable' hlive'
     by_cases p6:a.op=6
     ·have d1:decide (a.op=6)=true:=by simpa using p6
      have d2:(a.op == 6)=true:=by simpa using p6
      have d3:(a.op != 6)=false:=by simpa using p6
      by_cases pa:a.was=a.arg
      ·have f1:decide (a.was=a.arg)=true:=by simpa using pa
       have f2:(a.was == a.arg)=true:=by simpa using pa
       have f3:(a.was != a.arg)=false:=by simpa using pa
       have hm:XbI cs (some a)=false:=by rw [hmay];simp [p6,pa]
       replace hm:=HD hm
       replace pa:=HD pa
       replace p6:=HD p6
       go_wp2_with fail
       refine ⟨⟨k + 1,ts'.set k k1,by omega,by first|rfl|simp,by rw [hlive'];first|rfl|simp,by rw [List.length_set];exact hlen,ht2.out.of rfl,hCa.out.set k k1 hk1L HC1.out,hk9.out,?_⟩,by simp [intOf];omega⟩
       rw [hable',hm.out]
       simpa using how.out
      ·have f1:decide (a.was=a.arg)=false:=by simpa using pa
       have f2:(a.was == a.arg)=false:=by simpa using pa
       have f3:(a.was != a.arg)=true:=by simpa using pa
       have hm:XbI cs (some a)=true:=by rw [hmay];simp [pa]
       replace hm:=HD hm
       replace pa:=HD pa
       replace p6:=HD p6
       go_wp2_with (first|(at_builtin;refine wpList_append_lies _ rfl _ _ 24 rfl w.heap.size 3 i0 _ 1 8 Try.underlying24 hi0 hz0 hz1 hz2 rfl (by decide) _ (XN L left cs at' k).length ((XN L left cs at' k).map fun j=>.int .i64 (j:Nat)) rfl HOT.out ⟨w2.heap.size,0,none⟩ 1 1 [.int .i64 k] rfl rfl (World.news_of_block (cs:=#[.int .i64 k]) (t:=3) (fr:=(0,0)) (heap_alloc_new w2 _)) (by simp [Value.oneCell']) (by omega) N2.out N3.out N4.out _ rfl ?_;intro gg cap2 w3 hown3 hgrow hat3 hlt3;have HOWN:=HD hown3;have HGROW:=HD hgrow;clear hown3 hgrow hat3 hlt3))
       have hk3:Kept (fun q=>q=tg) w w3:=⟨HGROW.out.os.trans hk9.out.os,HGROW.out.tape.trans hk9.out.tape,HGROW.out.output.trans hk9.out.output,by have h1:=HGROW.out.size;have h2:=hk9.out.size;simp at h1;omega,fun q hq hn=>by
        have h2:=hk9.out.size
        rw [HGROW.out.block q (by simp;omega) (fun e=>by have:=XF how.out e.symm;omega)]
        exact (Below.heap_alloc _ _ q (by show q < w2.heap.size;omega)).trans (hk9.out.block q hq hn)⟩
       have ht3:X1 w3 tg cT (ts'.set k k1):=ht2.out.of (by
        have h2:=hk9.out.size
        rw [HGROW.out.block tg (by simp;omega) (fun e=>by have:=XF how.out e.symm;omega)]
        exact Below.heap_alloc _ _ tg (by show tg < w2.heap.size;omega))
       refine ⟨⟨k + 1,ts'.set k k1,by omega,by first|rfl|simp,by rw [hlive'];first|rfl|simp,by rw [List.length_set];exact hlen,ht3,hCa.out.set k k1 hk1L HC1.out,hk3,?_⟩,by simp [intOf];omega⟩
       rw [hable',hm.out,if_pos rfl,List.length_append,List.map_append]
       exact HOWN.out
     ·have d1:decide (a.op=6)=false:=by simpa using p6
      have d2:(a.op == 6)=false:=by simpa using p6
      have d3:(a.op != 6)=true:=by simpa using p6
      have hm:XbI cs (some a)=true:=by rw [hmay];simp [p6]
      replace hm:=HD hm
      replace p6:=HD p6
      go_wp2_with (first|(at_builtin;refine wpList_append_lies _ rfl _ _ 24 rfl w.heap.size 3 i0 _ 1 8 Try.underlying24 hi0 hz0 hz1 hz2 rfl (by decide) _ (XN L left cs at' k).length ((XN L left cs at' k).map fun j=>.int .i64 (j:Nat)) rfl HOT.out ⟨w2.heap.size,0,none⟩ 1 1 [.int .i64 k] rfl rfl (World.news_of_block (cs:=#[.int .i64 k]) (t:=3) (fr:=(0,0)) (heap_alloc_new w2 _)) (by simp [Value.oneCell']) (by omega) N2.out N3.out N4.out _ rfl ?_;intro gg cap2 w3 hown3 hgrow hat3 hlt3;have HOWN:=HD hown3;have HGROW:=HD hgrow;clear hown3 hgrow hat3 hlt3))
      have hk3:Kept (fun q=>q=tg) w w3:=⟨HGROW.out.os.trans hk9.out.os,HGROW.out.tape.trans hk9.out.tape,HGROW.out.output.trans hk9.out.output,by have h1:=HGROW.out.size;have h2:=hk9.out.size;simp at h1;omega,fun q hq hn=>by
       have h2:=hk9.out.size
       rw [HGROW.out.block q (by simp;omega) (fun e=>by have:=XF how.out e.symm;omega)]
       exact (Below.heap_alloc _ _ q (by show q < w2.heap.size;omega)).trans (hk9.out.block q hq hn)⟩
      have ht3:X1 w3 tg cT (ts'.set k k1):=ht2.out.of (by
       have h2:=hk9.out.size
       rw [HGROW.out.block tg (by simp;omega) (fun e=>by have:=XF how.out e.symm;omega)]
       exact Below.heap_alloc _ _ tg (by show tg < w2.heap.size;omega))
      refine ⟨⟨k + 1,ts'.set k k1,by omega,by first|rfl|simp,by rw [hlive'];first|rfl|simp,by rw [List.length_set];exact hlen,ht3,hCa.out.set k k1 hk1L HC1.out,hk3,?_⟩,by simp [intOf];omega⟩
      rw [hable',hm.out,if_pos rfl,List.length_append,List.map_append]
      exact HOWN.out
  ·obtain rfl:k=n:=by omega
   have x0:decide (k < k)=false:=by simp
   have x1:decide ((k:Int) < k)=false:=by simp
   go_wp2_with fail
   go_ret2
   exact ⟨_,ts',rfl,hown.out,hlen,hT'.out,hCa.out,hKp.out⟩
theorem XbQ (most:Int) (w:World):Calls Try.prog 85 #[.int .i64 most] w (fun e w'=>e=.returned (.int .i64 (if most < 0 then 0 else if 65536 < most then 65536 else most))∧w'=w):=by
 by_cases h1:most < 0
 ·have d1:decide (most < 0)=true:=by simpa using h1
  rw [if_pos h1]
  clear h1
  go_enter Try.func85,Try.ntmps85
  go_wp2_with fail
  go_ret
  exact ⟨rfl,rfl⟩
 ·rw [if_neg h1]
  have d1:decide (most < 0)=false:=by simpa using h1
  clear h1
  by_cases h2:65536 < most
  ·rw [if_pos h2]
   have d2:decide (65536 < most)=true:=by simpa using h2
   clear h2
   go_enter Try.func85,Try.ntmps85
   go_wp2_with fail
   go_ret
   exact ⟨rfl,rfl⟩
  ·rw [if_neg h2]
   have d2:decide (65536 < most)=false:=by simpa using h2
   clear h2
   go_enter Try.func85,Try.ntmps85
   go_wp2_with fail
   go_ret
   exact ⟨rfl,rfl⟩
theorem Wp (p:Int) (n:Nat) (hn:0 < n) (hn2:n < 100000) (w:World):Calls Try.prog 81 #[.int .i64 p,.int .i64 n] w (fun e w'=>e=.returned (.int .i64 (p % n))∧w'=w):=by
 have hz:(0:Int) < n:=by omega
 have b1:=Int.emod_nonneg p (show (n:Int)≠0 by omega)
 have b2:=Int.emod_lt_of_pos p hz
 have c1:=Int.emod_nonneg (-p) (show (n:Int)≠0 by omega)
 have c2:=Int.emod_lt_of_pos (-p) hz
 have ht:=tmod_eq_if p n
 have hn0:¬ n=0:=by omega
 by_cases hp:p.tmod n < 0
 ·have d1:decide (p.tmod n < 0)=true:=by simpa using hp
  have hw:IntKind.i64.wrap (p.tmod n + n)=p % n:=by
   have e1:=Int.emod_add_mul_ediv p n
   have:p.tmod n + n=p % n:=by
    rw [ht] at hp ⊢
    split at hp
    ·omega
    ·rename_i h
     rw [if_neg h]
     have e2:(-((-p) % (n:Int))) % n=p % n:=by
      have e1:=Int.emod_add_mul_ediv p n
      have e2:=Int.emod_add_mul_ediv (-p) n
      have e3 : -((-p) % (n:Int))=p + n * ((-p) / n):=by omega
      rw [e3,Int.add_mul_emod_self_left]
     rw [← e2]
     generalize (-p) % (n:Int)=q at hp c1 c2 ⊢
     have e4:(-q + n) % (n:Int)=(-q) % n:=Int.add_emod_right ..
     rw [← e4]
     exact (Int.emod_eq_of_lt (by omega) (by omega)).symm
   rw [this,IntKind.wrap_i64];omega
  clear hp ht b1 b2 c1 c2
  go_enter Try.func81,Try.ntmps81
  go_wp2_with fail
  go_ret
  exact ⟨rfl,rfl⟩
 ·have d1:decide (p.tmod n < 0)=false:=by simpa using hp
  have hq:p.tmod n=p % n:=by
   rw [ht] at hp ⊢
   split at hp
   ·rename_i h;rw [if_pos h]
   ·rename_i h
    rw [if_neg h]
    have h0:(-p) % (n:Int)=0:=by omega
    rw [h0]
    have e2:(-((-p) % (n:Int))) % n=p % n:=by
     have e2:=Int.emod_add_mul_ediv (-p) n
     have e3 : -((-p) % (n:Int))=p + n * ((-p) / n):=by omega
     rw [e3,Int.add_mul_emod_self_left]
    rw [h0] at e2
    simpa using e2
  clear hp ht b1 b2 c1 c2
  replace hq:=HD hq
  go_enter Try.func81,Try.ntmps81
  go_wp2_with fail
  go_ret
  exact ⟨by first|rfl|(rw [hq.out];rfl),rfl⟩
def XS (w:World) (b:Option Addr) (ls:List Int):Prop:=∀ (i:Nat) (x:Int),ls[i]? = some x→∃ g off,b=some ⟨g,off,none⟩∧w.cell? ⟨g,off + i,none⟩=some (.int .i64 x)
def QU (ls:List Int) (last:Int):Int:=(ls.find? fun x=>decide (last < x)).getD (ls.headD 0)
def Xgh (ls:List Int) (last:Int) (w:World) (i:Value) (wr:World):Prop:=∃ k:Nat,k≤ls.length∧i=.int .i64 k∧wr=w∧∀ j x,j < k→ls[j]? = some x→¬ last < x
theorem UT (b:Option Addr) (cap:Nat) (ls:List Int) (last:Int) (w:World) (hn:0 < ls.length) (hn2:ls.length < 100000) (h:XS w b ls):Calls Try.prog 155 #[.slice b ls.length cap,.int .i64 last] w (fun e w'=>e=.returned (.int .i64 (QU ls last))∧w'=w):=by
 have HN:=HD h
 clear h
 go_enter Try.func155,Try.ntmps155
 go_wp2_with fail
 go_loopw [5] (fun i wr=>Xgh ls last w i wr) (fun i _=>ls.length - (intOf i).toNat)
 case atStart=>exact ⟨0,Nat.zero_le _,rfl,rfl,fun j x h=>by omega⟩
 case round =>
  obtain ⟨k,hk,rfl,rfl,hkc⟩:=hrel
  replace hkc:=HD hkc
  by_cases hkn:k < ls.length
  ·obtain ⟨x,hx⟩:∃ x,ls[k]? = some x:=⟨_,List.getElem?_eq_getElem hkn⟩
   obtain ⟨g,off,rfl,hc⟩:=HN.out k x hx
   have x0:decide (k < ls.length)=true:=by simpa using hkn
   have x1:decide ((k:Int) < ls.length)=true:=by simp;omega
   have x2:(k:Int) < ls.length:=by omega
   have x3:(0:Int)≤k:=by omega
   have hw0:IntKind.i64.wrap ((k:Int) + 1)=((k + 1:Nat):Int):=by rw [IntKind.wrap_i64];omega
   by_cases hl:last < x
   ·have d1:decide (last < x)=true:=by simpa using hl
    replace hl:=HD hl
    go_wp2_with fail
    go_ret
    refine ⟨?_,rfl⟩
    have hf:ls.find? (fun x=>decide (last < x))=some x:=by
     rw [List.find?_eq_some_iff_getElem]
     refine ⟨by simpa using hl.out,k,hkn,(LE' hx).2,fun j hj=>?_⟩
     have:=hkc.out j _ hj (List.getElem?_eq_getElem (by omega))
     simpa using this
    unfold QU;rw [hf];rfl
   ·have d1:decide (last < x)=false:=by simpa using hl
    replace hl:=HD hl
    go_wp2_with fail
    exact ⟨⟨k + 1,by omega,by first|rfl|simp,rfl,fun j y hj hy=>by
     by_cases e:j=k
     ·subst e;rw [hx] at hy;rw [← OI hy];exact hl.out
     ·exact hkc.out j y (by omega) hy⟩,by simp [intOf];omega⟩
  ·obtain rfl:k=ls.length:=by omega
   have x0:decide (ls.length < ls.length)=false:=by simp
   have x1:decide ((ls.length:Int) < ls.length)=false:=by simp
   obtain ⟨x,hx⟩:∃ x,ls[0]? = some x:=⟨_,List.getElem?_eq_getElem hn⟩
   obtain ⟨g,off,rfl,hc⟩:=HN.out 0 x hx
   rw [Nat.add_zero] at hc
   have x2:(0:Int) < ls.length:=by omega
   go_wp2_with fail
   go_ret
   refine ⟨?_,rfl⟩
   have hf:ls.find? (fun x=>decide (last < x))=none:=by
    rw [List.find?_eq_none]
    intro y hy
    obtain ⟨j,hj⟩:=List.getElem?_of_mem hy
    simpa using hkc.out j y ((LE' hj).1) hj
   unfold QU;rw [hf]
   simp only [Option.getD_none]
   rw [List.headD_eq_head?_getD,List.head?_eq_getElem?,hx];rfl
def VE (picks ls:List Int) (last:Int) (turn:Nat):Int :=
 match picks[turn]? with
 | some p=>ls.getD (p % (ls.length:Int)).toNat 0
 | none=>QU ls last
theorem Xbo {e:Int} {nr cb cP cap turn:Nat} {aP b:Option Addr} {vL vW vR vl vF vT vC:Value} {most last:Int} {picks ls:List Int} {w:World} (hb:Blk w cb 190 (ckA e nr vL vW vR vl vF (.slice aP picks.length cP) most vT vC last))
 (hP:XS w aP picks) (hl:XS w b ls) (hn:0 < ls.length) (hn2:ls.length < 100000) (hp2:picks.length < 9000000000000) (ht2:turn < 9000000000000) :
 Calls Try.prog 135 #[.pointer (some ⟨cb,0,none⟩),.slice b ls.length cap,.int .i64 turn] w (fun e w'=>e=.returned (.int .i64 (VE picks ls last turn))∧w'=w):=by
 have c7:w.cell? ⟨cb,7,none⟩=some (.slice aP picks.length cP):=Blk.cell hb 7
 have c11:w.cell? ⟨cb,11,none⟩=some (.int .i64 last):=Blk.cell hb 11
 have hcb:=Blk.lt hb
 replace hP:=HD hP
 replace hl:=HD hl
 clear hb
 by_cases ht:turn < picks.length
 ·obtain ⟨p,hp⟩:∃ p,picks[turn]? = some p:=⟨_,List.getElem?_eq_getElem ht⟩
  obtain ⟨g,off,rfl,hc⟩:=hP.out turn p hp
  have hz:(0:Int) < ls.length:=by omega
  have b1:=Int.emod_nonneg p (show (ls.length:Int)≠0 by omega)
  have b2:=Int.emod_lt_of_pos p hz
  obtain ⟨k,hk⟩:∃ k:Nat,p % (ls.length:Int)=k:=⟨(p % (ls.length:Int)).toNat,by omega⟩
  have hkl:k < ls.length:=by omega
  obtain ⟨x,hx⟩:∃ x,ls[k]? = some x:=⟨_,List.getElem?_eq_getElem hkl⟩
  obtain ⟨g2,off2,rfl,hc2⟩:=hl.out k x hx
  have hF:VE picks ls last turn=x:=by
   unfold VE;rw [hp]
   simp only [hk,Int.toNat_natCast]
   rw [List.getD_eq_getElem?_getD,hx];rfl
  have d1:decide (turn < picks.length)=true:=by simpa using ht
  have d2:decide ((turn:Int) < picks.length)=true:=by simp;omega
  have i1:(turn:Int) < picks.length:=by omega
  have i2:(0:Int)≤turn:=by omega
  have i3:(k:Int) < ls.length:=by omega
  have i4:(0:Int)≤k:=by omega
  replace hk:=HD hk
  clear hp hx b1 b2 ht
  go_enter Try.func135,Try.ntmps135
  go_wp2_with (go_at_call 81;go_must (refine (Wp p ls.length hn hn2 _).mono ?_);rintro e1 w1 ⟨he1,rfl⟩;rw [hk.out] at he1;obtain rfl:e1=_:=he1)
  go_ret
  exact ⟨by rw [hF];rfl,rfl⟩
 ·have hp:picks[turn]? = none:=List.getElem?_eq_none (by omega)
  have hF:VE picks ls last turn=QU ls last:=by unfold VE;rw [hp]
  have d1:decide (turn < picks.length)=false:=by simpa using ht
  have d2:decide ((turn:Int) < picks.length)=false:=by simp;omega
  clear hp ht
  go_enter Try.func135,Try.ntmps135
  go_wp2_with (go_at_call 155;go_must (refine (UT _ _ ls last _ hn hn2 hl.out).mono ?_);rintro e1 w1 ⟨he1,rfl⟩;obtain rfl:e1=_:=he1)
  go_ret
  exact ⟨by rw [hF];rfl,rfl⟩
end Go.Proofs.Ytdhnggjmegilkaa
namespace Go.Proofs.Ytdhnggjmegilkaa
open Go.Conc Go.RowKit
set_option maxRecDepth 100000
theorem Xf.setNew {a b:World} (h:Xf a b) {ad:Addr} {v:Value} (hb:a.heap.size≤ad.block):Xf a (b.setCell ad v) :=
 ⟨by rw [Xg];exact h.1,fun r hr=>(Below.heap_setCell _ _ _ r (by omega)).trans (h.2 r hr)⟩
def ZR (op ce a e:Int):Value:=.agg #[.int .i8 op,.int .i64 ce,.int .i64 a,.int .i64 e]
theorem Xba (op ce a e:Int) (n:Nat) (hn:0 < n) (hn2:n < 100000) (w:World):Calls Try.prog 17 #[ZR op ce a e,.int .i64 n] w (fun r w'=>r=.returned (ZR op (ce % n) a e)∧Xf w w'):=by
 unfold ZR
 go_enter Try.func17,Try.ntmps17
 go_wp2_with (go_at_call 81;go_must (refine (Wp ce n hn hn2 _).mono ?_);rintro e1 w1 ⟨rfl,rfl⟩)
 refine bodyPost_ret (results_cell_row rfl _ _ (w.heap.size + 1) 38 _ (0,0) _ rfl (heap_alloc2_new _ _ _) Try.underlying38 rfl (by kernel_rfl)) rfl ⟨rfl,((Xf.refl w).alloc _).alloc _⟩
section
variable {Post:Value→World→Prop} {C:Ctx} {x:World} {c:Frame} {cs:List Frame}
noncomputable def Xfk:List FuncId:=[17,81]
theorem XdX (S:YK):Closed Try.prog S (FX Xfk):=Uy S (by kernel_rfl)
theorem XaF {op ce a e:Int} {n:Nat} (hn:0 < n) (hn2:n < 100000) (h:∀ y,Xf x y→JG Try.prog Post C (G (c.finish (ZR op (ce % n) a e)) cs) y):JG Try.prog Post C (G (Frame.enter Try.prog 17 #[ZR op ce a e,.int .i64 n] .normal) (c::cs)) x:=by
 refine JG.calls (F:=FX Xfk) (Q:=fun u y=>u=ZR op (ce % n) a e∧Xf x y) (XdX _) (by kernel_rfl) (fun τ=>?_) (fun u y hq=>?_)
 ·refine (Xba op ce a e n hn hn2 _).mono ?_
  rintro r y ⟨rfl,h2⟩
  exact ⟨_,rfl,rfl,h2⟩
 ·obtain ⟨rfl,h1⟩:=hq
  exact h y h1
end
end Go.Proofs.Ytdhnggjmegilkaa
namespace Go.Proofs.Ytdhnggjmegilkaa
open Go.Conc Go.RowKit
open Go.ConcN (upd upd_same upd_ne)
set_option maxRecDepth 100000
def XfE (l:List Int):List Value:=l.map fun x=>.int .i64 x
theorem XdM:(Try.prog.info? 2).map (fun i=>(i.zero,i.size,i.bytes))=some (some (.int .i64 0),1,8):=by kernel_rfl
structure Rows (gt n N0:Nat) (col:Nat→Prop) (sh:Nat→List Int) (hd:Nat→Value) (x:World):Prop where
 head:x.heap[gt]? = some (.cells ((List.range n).map hd).toArray 22 (0,0))
 row:∀ j,j < n→x.ownsRow N0 2 1 (hd j) (sh j).length (XfE (sh j))
 free:∀ j,j < n→∀ g,(hd j).ownBlock=some g→¬ col g
 apart:∀ i j,i < n→j < n→i≠j→∀ g,(hd i).ownBlock=some g→(hd j).ownBlock≠some g
theorem Yx {w:World} {N:Nat} {e:TypeId} {size:Nat} {v:Value} {n:Nat} {xs:List Value} (h:w.ownsRow N e size v n xs) {g:Nat} (hg:v.ownBlock=some g):N≤g:=(h.lt g hg).1
section
variable {gt n N0:Nat} {col:Nat→Prop} {sh:Nat→List Int} {hd:Nat→Value} {x:World}
theorem Rows.cell (h:Rows gt n N0 col sh hd x) {j:Nat} (hj:j < n):x.cell? (th gt j)=some (hd j):=by
 rw [Xa h.head];simp [hj]
theorem Rows.lt (h:Rows gt n N0 col sh hd x):gt < x.heap.size:=(GE h.head).1
theorem Rows.frame (h:Rows gt n N0 col sh hd x) (hgt:gt < N0) (hcg:¬ col gt) {col':Nat→Prop} {y:World} {A:Nat→Nat} {nc:Nat} (hA:∀ i,i < nc→A i < N0∧gt≠A i) (ho:∀ r,r < x.heap.size→¬ col r→(∀ i,i < nc→r≠A i)→y.heap[r]? = x.heap[r]?) (hc:∀ r,r < x.heap.size→col' r→col r):Rows gt n N0 col' sh hd y:=by
 have hr:∀ j,j < n→∀ g,(hd j).ownBlock=some g→y.heap[g]? = x.heap[g]?∧¬ col' g:=fun j hj g hg=>by
  have h1:=Yx (h.row j hj) hg
  have h2:=Xq (h.row j hj) hg
  exact ⟨ho g h2 (h.free j hj g hg) fun i hi e=>by have:=(hA i hi).1;omega,fun e=>h.free j hj g hg (hc g h2 e)⟩
 exact ⟨(ho gt h.lt hcg fun i hi=>(hA i hi).2).trans h.head,fun j hj=>Xh (h.row j hj) fun g hg=>(hr j hj g hg).1,fun j hj g hg=>(hr j hj g hg).2,h.apart⟩
theorem Rows.tell (h:Rows gt n N0 col sh hd x) (hgt:gt < N0) (hN:N0≤x.heap.size) (hcol:∀ r,col r→r < x.heap.size) {j:Nat} (hj:j < n) {a:Int} {g cap:Nat} {y:World} (hown:y.ownsRow N0 2 1 (.slice (some ⟨g,0,none⟩) ((sh j).length + 1) cap) ((sh j).length + 1) (XfE (sh j) ++ [.int .i64 a])) (hg:∀ q,q < x.heap.size→some q≠(hd j).ownBlock→y.heap[q]? = x.heap[q]?) (hat:(hd j).ownBlock=some g∨g=x.heap.size) :
 Rows gt n N0 col (Qs j a sh) (upd hd j (.slice (some ⟨g,0,none⟩) ((sh j).length + 1) cap)) (y.setCell (th gt j) (.slice (some ⟨g,0,none⟩) ((sh j).length + 1) cap)):=by
 have hl:=h.lt
 have hgN:N0≤g:=Yx hown rfl
 have hne:∀ i,i < n→i≠j→∀ q,(hd i).ownBlock=some q→q≠g∧y.heap[q]? = x.heap[q]?:=fun i hi e q hq=>by
  have h2:=Xq (h.row i hi) hq
  have h3:some q≠(hd j).ownBlock:=fun e2=>h.apart i j hi hj e q hq e2.symm
  refine ⟨fun e3=>?_,hg q h2 h3⟩
  rcases hat with e4|e4
  ·exact h3 (e3 ▸ e4.symm)
  ·omega
 have hgt':y.heap[gt]? = x.heap[gt]?:=hg gt hl fun e=>by have:=Yx (h.row j hj) e.symm;omega
 have hset:∀ q,q≠gt→(y.setCell (th gt j) (.slice (some ⟨g,0,none⟩) ((sh j).length + 1) cap)).heap[q]? = y.heap[q]?:=fun q hq=>Xb hq
 refine ⟨?_,fun i hi=>?_,fun i hi q hq=>?_,fun i1 i2 h1 h2 e q hq1 hq2=>?_⟩
 ·rw [Xc (hgt'.trans h.head)]
  congr 2
  apply Array.ext_getElem?
  intro i
  rw [Array.getElem?_setIfInBounds]
  by_cases e:j=i
  ·subst e;simp [hj,upd_same]
  ·rw [if_neg e]
   rcases Nat.lt_or_ge i n with hi|hi
   ·simp [hi,upd_ne _ _ (fun z=>e z.symm)]
   ·simp [Nat.not_lt.2 hi]
 ·by_cases e:i=j
  ·subst e
   have:=Xh hown (w':=y.setCell (th gt i) (.slice (some ⟨g,0,none⟩) ((sh i).length + 1) cap)) fun q hq=>hset q (by
    obtain rfl:g=q:=by simpa [Value.ownBlock] using hq
    omega)
   unfold Qs
   rw [upd_same,upd_same,List.length_append]
   unfold XfE at this ⊢
   rw [List.map_append]
   exact this
  ·unfold Qs
   rw [upd_ne _ _ e,upd_ne _ _ e]
   exact Xh (h.row i hi) fun q hq=>(hset q (by have:=Yx (h.row i hi) hq;omega)).trans (hne i hi e q hq).2
 ·by_cases e:i=j
  ·subst e
   rw [upd_same] at hq
   obtain rfl:g=q:=by simpa [Value.ownBlock] using hq
   rcases hat with e4|e4
   ·exact h.free i hi g e4
   ·exact fun e5=>by have:=hcol g e5;omega
  ·rw [upd_ne _ _ e] at hq
   exact h.free i hi q hq
 ·by_cases e1:i1=j
  ·subst e1
   rw [upd_same] at hq1
   obtain rfl:g=q:=by simpa [Value.ownBlock] using hq1
   rw [upd_ne _ _ (fun z=>e z.symm)] at hq2
   exact (hne i2 h2 (fun z=>e z.symm) g hq2).1 rfl
  ·rw [upd_ne _ _ e1] at hq1
   by_cases e2:i2=j
   ·subst e2
    rw [upd_same] at hq2
    obtain rfl:g=q:=by simpa [Value.ownBlock] using hq2
    exact (hne i1 h1 e1 g hq1).1 rfl
   ·rw [upd_ne _ _ e2] at hq2
    exact h.apart i1 i2 h1 h2 e q hq1 hq2
end
section
variable (w0:World) (Kp:Nat→Prop) (gt n:Nat) (A:Nat→Nat) (nc:Nat)
def WT (sh:Nat→List Int) (col:Nat→Prop) (x:World):Prop :=
 w0.heap.size≤x.heap.size∧(∀ r,r < w0.heap.size→¬ Kp r→r≠gt→(∀ i,i < nc→r≠A i)→¬ col r∧x.heap[r]? = w0.heap[r]?)∧¬ col gt∧∃ hd,Rows gt n w0.heap.size col sh hd x
def XaE (hgt:gt < w0.heap.size) (hA:∀ i,i < nc→A i < w0.heap.size∧gt≠A i):XfO (Nat→List Int) A nc where
 M:=WT w0 Kp gt n A nc
 frame:=fun {sh col x} h col' y hs ho hc=>by
  obtain ⟨h1,h2,h3,hd,h4⟩:=h
  exact ⟨Nat.le_trans h1 hs,fun r q1 q2 q3 q4=>by
   obtain ⟨a1,a2⟩:=h2 r q1 q2 q3 q4
   exact ⟨fun e=>a1 (hc r (by omega) e),(ho r (by omega) a1 q4).trans a2⟩,fun e=>h3 (hc gt (by omega) e),hd,h4.frame hgt h3 hA ho hc⟩
def XbS (hgt:gt < w0.heap.size) (hA:∀ i,i < nc→A i < w0.heap.size∧gt≠A i):Xdj (XaE w0 Kp gt n A nc hgt hA) where
 k:=fun j a=>j < n∧a=th gt j
 i:=fun {sh col x} h j a ha=>by
  obtain ⟨h1,h2,h3,hd,h4⟩:=h
  obtain ⟨_,rfl⟩:=ha
  exact ⟨h4.lt,h3,fun c hc=>(hA c hc).2⟩
end
structure Op4 where
 op:Int
 ce:Int
 arg:Int
 new:Int
def Op4.v (c:Op4):Value:=ZR c.op c.ce c.arg c.new
def Op4.d (nc:Nat) (c:Op4):Xr Int:=YG c.op (c.ce % nc).toNat c.arg c.new
def QC (w:World) (N:Nat) (a:Option Addr) (L:List Op4):Prop :=
 ∀ i c,L[i]? = some c→∃ g off,a=some ⟨g,off,none⟩∧g < N∧w.cell? ⟨g,off + i * 4,none⟩=some (.int .i8 c.op)∧w.cell? ⟨g,off + i * 4 + 1,none⟩=some (.int .i64 c.ce)∧w.cell? ⟨g,off + i * 4 + 2,none⟩=some (.int .i64 c.arg)∧w.cell? ⟨g,off + i * 4 + 3,none⟩=some (.int .i64 c.new)
structure Scr (w0:World) (Kp:Nat→Prop) (gt n:Nat) (A:Nat→Nat) (nc j:Nat) (L:List Op4) (bp bi bt bl gS oS gl cS cT cl cC:Nat) (aC:Option Addr):Prop where
 gt0:gt < w0.heap.size
 cells:∀ i,i < nc→A i < w0.heap.size∧gt≠A i
 jn:j < n
 nc0:0 < nc
 ncs:nc < 100000
 len:L.length≤1000000
 c1:w0.cell? (th bp 1)=some (.slice (some ⟨gS,oS,none⟩) n cS)
 c2:w0.cell? (th bi 0)=some (.int .i64 j)
 c3:w0.cell? (th bt 0)=some (.slice (some ⟨gt,0,none⟩) n cT)
 c4:w0.cell? (th bl 0)=some (.slice (some ⟨gl,0,none⟩) nc cl)
 c5:w0.cell? ⟨gS,oS + j,none⟩=some (.slice aC L.length cC)
 c6:QC w0 w0.heap.size aC L
 c7:∀ i,i < nc→w0.cell? (th gl i)=some (P0 (A i))
 st:∀ r,(r=bp∨r=bi∨r=bt∨r=bl∨r=gS∨r=gl∨(L≠[]∧∃ a,aC=some a∧r=a.block))→¬ Kp r∧r≠gt∧∀ i,i < nc→r≠A i
structure Sees (x:World) (gt n:Nat) (A:Nat→Nat) (nc j:Nat) (L:List Op4) (bp bi bt bl gS oS gl cS cT cl cC:Nat) (aC:Option Addr) (hv:Value):Prop where
 c1:x.cell? (th bp 1)=some (.slice (some ⟨gS,oS,none⟩) n cS)
 c2:x.cell? (th bi 0)=some (.int .i64 j)
 c3:x.cell? (th bt 0)=some (.slice (some ⟨gt,0,none⟩) n cT)
 c4:x.cell? (th bl 0)=some (.slice (some ⟨gl,0,none⟩) nc cl)
 c5:x.cell? ⟨gS,oS + j,none⟩=some (.slice aC L.length cC)
 c6:QC x x.heap.size aC L
 c7:∀ i,i < nc→x.cell? (th gl i)=some (P0 (A i))
 c8:x.cell? (th gt j)=some hv
section
variable {w0:World} {Kp:Nat→Prop} {gt n:Nat} {A:Nat→Nat} {nc j:Nat} {L:List Op4} {bp bi bt bl gS oS gl cS cT cl cC:Nat} {aC:Option Addr}
theorem WT.cell {sh:Nat→List Int} {col:Nat→Prop} {x:World} (h:WT w0 Kp gt n A nc sh col x) {a:Addr} {v:Value} (hc:w0.cell? a=some v) (hs:¬ Kp a.block∧a.block≠gt∧∀ i,i < nc→a.block≠A i):x.cell? a=some v:=by
 rw [World.cell?_of_block (h.2.1 a.block (Xs hc) hs.1 hs.2.1 hs.2.2).2];exact hc
theorem Scr.sees (H:Scr w0 Kp gt n A nc j L bp bi bt bl gS oS gl cS cT cl cC aC) {sh:Nat→List Int} {col:Nat→Prop} {x:World} (h:WT w0 Kp gt n A nc sh col x):∃ hv,Sees x gt n A nc j L bp bi bt bl gS oS gl cS cT cl cC aC hv:=by
 obtain ⟨hd,hr⟩:=h.2.2.2
 refine ⟨hd j,h.cell H.c1 (H.st _ (by simp)),h.cell H.c2 (H.st _ (by simp)),h.cell H.c3 (H.st _ (by simp)),h.cell H.c4 (H.st _ (by simp)),h.cell H.c5 (H.st _ (by simp)),fun i c hi=>?_,fun i hi=>h.cell (H.c7 i hi) (H.st _ (by simp)),hr.cell H.jn⟩
 obtain ⟨g,off,e,hg,q0,q1,q2,q3⟩:=H.c6 i c hi
 have hst:=H.st g (.inr (.inr (.inr (.inr (.inr (.inr ⟨by rintro rfl;simp at hi,_,e,rfl⟩))))))
 exact ⟨g,off,e,Nat.lt_of_lt_of_le hg h.1,h.cell q0 hst,h.cell q1 hst,h.cell q2 hst,h.cell q3 hst⟩
theorem Sees.old {x y:World} {hv:Value} (h:Sees x gt n A nc j L bp bi bt bl gS oS gl cS cT cl cC aC hv) (ho:Xf x y):Sees y gt n A nc j L bp bi bt bl gS oS gl cS cT cl cC aC hv :=
 ⟨ho.cell h.c1,ho.cell h.c2,ho.cell h.c3,ho.cell h.c4,ho.cell h.c5,fun i c hi=>by
  obtain ⟨g,off,e,hg,q0,q1,q2,q3⟩:=h.c6 i c hi
  exact ⟨g,off,e,Nat.lt_of_lt_of_le hg ho.1,ho.cell q0,ho.cell q1,ho.cell q2,ho.cell q3⟩,fun i hi=>ho.cell (h.c7 i hi),ho.cell h.c8⟩
structure Ze (gt n j:Nat) (col:Nat→Prop) (x0 x:World):Prop where
 size:x0.heap.size≤x.heap.size
 col:∀ r,col r→x.heap[r]? = x0.heap[r]?
 keep:∀ i,i≠j→i < n→x.cell? (th gt i)=x0.cell? (th gt i)
theorem Ze.refl {col:Nat→Prop} {x:World}:Ze gt n j col x x:=⟨Nat.le_refl _,fun _ _=>rfl,fun _ _ _=>rfl⟩
theorem Ze.old {col:Nat→Prop} {x0 x y:World} (h:Ze gt n j col x0 x) (ho:Xf x y) (hc:∀ r,col r→r < x.heap.size) (hg:gt < x.heap.size):Ze gt n j col x0 y :=
 ⟨Nat.le_trans h.size ho.1,fun r hr=>(ho.2 r (hc r hr)).trans (h.col r hr),fun i h1 h2=>(World.cell?_of_block (ho.2 gt hg)).trans (h.keep i h1 h2)⟩
theorem Ql.old {x y:World} {tb rb:Nat} (h:Ql x tb rb) (ho:Xf x y):Ql y tb rb:=⟨ho.cell h.1,ho.cell h.2.1,h.2.2⟩
end
end Go.Proofs.Ytdhnggjmegilkaa
namespace Go.Proofs.Ytdhnggjmegilkaa
open Go.RowKit
set_option maxRecDepth 100000
def Xen (w:World) (a:Option Addr) (n:Nat) (lens:Nat→Nat):Prop:=∀ i,i < n→∃ g o b c,a=some ⟨g,o,none⟩∧g < w.heap.size∧w.cell? ⟨g,o + i,none⟩=some (.slice b (lens i) c)
def Xci (vC vS vP:Value):Value:=.agg #[vC,vS,vP]
def Xbb (lens:Nat→Nat):Nat→Nat
 | 0=>0
 | k + 1=>Xbb lens k + 1 + lens k
def Xga (lens:Nat→Nat) (nS:Nat) (pb:Nat) (ps:Array Value) (w:World) (n i:Value) (wr:World):Prop :=
 ∃ k:Nat,k≤nS∧i=.int .i64 k∧n=.int .i64 (Xbb lens k)∧Xbb lens k≤1125899906844000∧(∀ m,m < k→Xbb lens m≤500)∧Kept (fun _=>False) w wr∧Blk wr pb 26 ps
theorem Xbr {aC aS aP:Option Addr} {nC nS nP cC cS cP:Nat} {lens:Nat→Nat} {w:World} (hL:Xen w aS nS lens) (hl:∀ i,i < nS→lens i≤1125899906842624) (hS:nS≤1125899906842624) :
 Calls Try.prog 13 #[Xci (.slice aC nC cC) (.slice aS nS cS) (.slice aP nP cP)] w (fun e w'=>∃ b,e=.returned (.bool b)∧Kept (fun _=>False) w w'∧(b=false→nS≤8∧nP≤2000∧0 < nC∧nC≤40∧Xbb lens nS≤500)):=by
 unfold Xci
 replace hL:=HD hL
 replace hl:=HD hl
 go_enter Try.func13,Try.ntmps13
 go_upto_region 1 with (fail)
 have hp:Blk (w.alloc (.cells #[.slice aC nC cC,.slice aS nS cS,.slice aP nP cP] 26)) w.heap.size 26 #[.slice aC nC cC,.slice aS nS cS,.slice aP nP cP]:=Blk.new w _ _
 have hk:=(Kept.refl (fun _=>False) w).alloc (.cells #[.slice aC nC cC,.slice aS nS cS,.slice aP nP cP] 26)
 generalize w.alloc (.cells #[.slice aC nC cC,.slice aS nS cS,.slice aP nP cP] 26)=w1 at hp hk ⊢
 generalize hpb:w.heap.size=pb at hp ⊢
 replace hpb:=HD hpb
 go_upto_region 3 with (fail)
 go_loopw [3,4] (fun n i wr=>Xga lens nS pb #[.slice aC nC cC,.slice aS nS cS,.slice aP nP cP] w n i wr) (fun _ i _=>nS - (intOf i).toNat)
 case atStart=>exact ⟨0,Nat.zero_le _,rfl,rfl,by unfold Xbb;omega,fun m h=>by omega,hk,hp⟩
 case round =>
  clear hp hk w1
  obtain ⟨k,hk,rfl,rfl,hs,hm,hkp,hp⟩:=hrel
  have p0:wr.cell? ⟨pb,0,none⟩=some (.slice aC nC cC):=Blk.cell hp 0
  have p1:wr.cell? ⟨pb,1,none⟩=some (.slice aS nS cS):=Blk.cell hp 1
  have p2:wr.cell? ⟨pb,2,none⟩=some (.slice aP nP cP):=Blk.cell hp 2
  have hpl:=Blk.lt hp
  replace hkp:=HD hkp
  replace hp:=HD hp
  replace hm:=HD hm
  generalize hsum:Xbb lens k=s at hs ⊢
  replace hsum:=HD hsum
  by_cases h1:k < nS
  ·by_cases h2:s≤500
   ·obtain ⟨g,o,b,c,rfl,hg,hc⟩:=hL.out k h1
    have hc':wr.cell? ⟨g,o + k,none⟩=some (.slice b (lens k) c):=(hkp.out.cell (p:=⟨g,o + k,none⟩) hg id).trans hc
    have hlk:=hl.out k h1
    have hw1:IntKind.i64.wrap ((s:Int) + 1)=(s:Int) + 1:=by rw [IntKind.wrap_i64];omega
    have hw2:IntKind.i64.wrap ((s:Int) + 1 + (lens k:Nat))=((s + 1 + lens k:Nat):Int):=by rw [IntKind.wrap_i64];omega
    have hw3:IntKind.i64.wrap ((k:Int) + 1)=((k + 1:Nat):Int):=by rw [IntKind.wrap_i64];omega
    have x0:decide ((k:Int) < nS)=true:=by simp;omega
    have x1:decide (k < nS)=true:=by simpa using h1
    have x2:decide ((s:Int)≤500)=true:=by simp;omega
    have x3:decide (s≤500)=true:=by simpa using h2
    have x4:(k:Int) < nS:=by omega
    have x5:(0:Int)≤k:=by omega
    clear hc
    replace h2:=HD h2
    go_wp2_with fail
    refine ⟨⟨k + 1,by omega,by first|rfl|simp,?_,?_,fun m hmk=>?_,hkp.out,hp.out⟩,by first|(simp [intOf];done)|(simp [intOf];omega)⟩
    ·rw [Xbb,hsum.out];first|rfl|(simp;done)
    ·rw [Xbb,hsum.out];have:=h2.out;omega
    ·rcases Nat.lt_or_ge m k with h|h
     ·exact hm.out m h
     ·obtain rfl:m=k:=by omega
      rw [hsum.out];exact h2.out
   ·have x0:decide ((k:Int) < nS)=true:=by simp;omega
    have x1:decide (k < nS)=true:=by simpa using h1
    have x2:decide ((s:Int)≤500)=false:=by simp;omega
    have x3:decide (s≤500)=false:=by simp;omega
    have x4:decide ((s:Int) > 500)=true:=by simp;omega
    have x5:decide (500 < s)=true:=by simp;omega
    clear h2
    go_wp2_with fail
    go_ret
    exact ⟨true,rfl,hkp.out,fun h=>by cases h⟩
  ·obtain rfl:k=nS:=by omega
   have x0:decide ((k:Int) < k)=false:=by simp
   have x1:decide (k < k)=false:=by simp
   by_cases t0:500 < s
   ·have y0a:decide ((s:Int) > 500)=true:=by simp;omega
    have y0b:decide (500 < s)=true:=by simp;omega
    have y0c:decide ((500:Int) < s)=true:=by simp;omega
    clear t0
    go_wp2_with fail
    go_ret
    exact ⟨true,rfl,hkp.out,fun h=>by cases h⟩
   have y0a:decide ((s:Int) > 500)=false:=by simp;omega
   have y0b:decide (500 < s)=false:=by simp;omega
   have y0c:decide ((500:Int) < s)=false:=by simp;omega
   by_cases t1:8 < k
   ·have y1a:decide ((k:Int) > 8)=true:=by simp;omega
    have y1b:decide (8 < k)=true:=by simp;omega
    have y1c:decide ((8:Int) < k)=true:=by simp;omega
    clear t0 t1
    go_wp2_with fail
    go_ret
    exact ⟨true,rfl,hkp.out,fun h=>by cases h⟩
   have y1a:decide ((k:Int) > 8)=false:=by simp;omega
   have y1b:decide (8 < k)=false:=by simp;omega
   have y1c:decide ((8:Int) < k)=false:=by simp;omega
   by_cases t2:2000 < nP
   ·have y2a:decide ((nP:Int) > 2000)=true:=by simp;omega
    have y2b:decide (2000 < nP)=true:=by simp;omega
    have y2c:decide ((2000:Int) < nP)=true:=by simp;omega
    clear t0 t1 t2
    go_wp2_with fail
    go_ret
    exact ⟨true,rfl,hkp.out,fun h=>by cases h⟩
   have y2a:decide ((nP:Int) > 2000)=false:=by simp;omega
   have y2b:decide (2000 < nP)=false:=by simp;omega
   have y2c:decide ((2000:Int) < nP)=false:=by simp;omega
   by_cases t3:nC=0
   ·have y3a:decide ((nC:Int)=0)=true:=by simp;omega
    have y3b:((nC:Int) == 0)=true:=by simp;omega
    have y3c:decide (nC=0)=true:=by simp;omega
    have y3d:(nC == 0)=true:=by simp;omega
    clear t0 t1 t2 t3
    go_wp2_with fail
    go_ret
    exact ⟨true,rfl,hkp.out,fun h=>by cases h⟩
   have y3a:decide ((nC:Int)=0)=false:=by simp;omega
   have y3b:((nC:Int) == 0)=false:=by simp;omega
   have y3c:decide (nC=0)=false:=by simp;omega
   have y3d:(nC == 0)=false:=by simp;omega
   by_cases t4:40 < nC
   ·have y4a:decide ((nC:Int) > 40)=true:=by simp;omega
    have y4b:decide (40 < nC)=true:=by simp;omega
    have y4c:decide ((40:Int) < nC)=true:=by simp;omega
    clear t0 t1 t2 t3 t4
    go_wp2_with fail
    go_ret
    exact ⟨true,rfl,hkp.out,fun h=>by cases h⟩
   have y4a:decide ((nC:Int) > 40)=false:=by simp;omega
   have y4b:decide (40 < nC)=false:=by simp;omega
   have y4c:decide ((40:Int) < nC)=false:=by simp;omega
   have HT:=HD (And.intro t0 (And.intro t1 (And.intro t2 (And.intro t3 t4))))
   clear t0 t1 t2 t3 t4
   go_wp2_with fail
   go_ret
   exact ⟨false,rfl,hkp.out,fun _=>by have:=HT.out;have:=hsum.out;omega⟩
end Go.Proofs.Ytdhnggjmegilkaa

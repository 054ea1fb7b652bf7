/- The record's check: lengths, and threads that rise. Conditions: what the check's cells hold. -/
import Derived.Test.YtdhnggjmegilkaaSWkD
import Derived.Test.YtdhnggjmegilkaaSQu
import Derived.Deep.RegionWith
import Derived.Deep.RegionLaw
set_option linter.all false
set_option maxRecDepth 100000
set_option maxHeartbeats 16000000
namespace Go.Proofs.Ytdhnggjmegilkaa
open Go.RowKit
set_option maxRecDepth 100000
def Xgo (w:World) (aC:Option Addr) (cC:Nat) (cs:List Int):Prop:=(cs = []∧aC=none)∨∃ cg,aC=some ⟨cg,0,none⟩∧Yu w 2 cg cC cs
structure Xej (L left:List Xo) (went ready picks:List Int) (n nc:Nat) (e most:Int) (csAt:Nat→List Int) (lastAt:Nat→Int):Prop where
 len:∀ i,i≤L.length→(csAt i).length=nc
 thr:∀ (i:Nat) (a:Xo),L[i]? = some a→a.thread < n∧a.op≠7∧a.op≠8
 able:∀ (i:Nat) (a:Xo),L[i]? = some a→0 < (XP L left (csAt i) i n).length∧ready[i]? = some ((XP L left (csAt i) i n).length:Int)∧went[i]? = some (a.thread:Int)∧VM picks ((XP L left (csAt i) i n).map fun (j:Nat)=>(j:Int)) (lastAt i) i=a.thread
 next:∀ (i:Nat) (a:Xo),L[i]? = some a→lastAt (i + 1)=a.thread∧0≤a.cell∧a.cell.toNat < nc∧csAt (i + 1)=(csAt i).set a.cell.toNat a.now
 cell:∀ (i j:Nat) (a:Xo),i≤L.length→Xp.nextF L left j i=some a→0≤a.cell→a.cell.toNat < nc
 lives:livesL L left L.length n=left.length
 how:e=(if left.length=0 then 1 else if (XP L left (csAt L.length) L.length n).length=0 then 3 else 2)
 cut:e=2→(L.length:Int)=most
def Vt (cb tg:Nat) (aC:Option Addr) (q:Nat):Prop:=q=tg∨q=cb∨∃ cg,aC=some ⟨cg,0,none⟩∧q=cg
def XgE (L left:List Xo) (n:Nat) (A:Int→Array Value) (csAt:Nat→List Int) (lastAt:Nat→Int) (cb tg cT cC:Nat) (aC:Option Addr) (w:World) (tu i:Value) (wr:World):Prop :=
 ∃ (k:Nat) (ts:List Int),k≤L.length∧tu=.int .i64 k∧i=.int .i64 k∧Blk wr cb 190 (A (lastAt k))∧X5 wr tg cT ts∧ts.length=n∧Y3 L k ts∧Xgo wr aC cC (csAt k)∧Kept (Vt cb tg aC) w wr
theorem Y3.up {L:List Xo} {i j:Nat} {ts:List Int} (h:Y3 L i ts) (hij:i≤j):Y3 L j ts:=fun q x hx=>by
 obtain ⟨k,h1,h2,h3⟩:=h q x hx;exact ⟨k,h1,h2,fun a b e1 e2 e3=>h3 a b (by omega) e2 e3⟩
theorem V1 {e:Int} {n nc:Nat} {aL aW aR al aP aC:Option Addr} {vF:Value} {cL cW cR cl cP cT cC tg cb B:Nat} {most:Int} {L left:List Xo} {went ready picks ts:List Int} {csAt:Nat→List Int} {lastAt:Nat→Int} {w:World}
 (hb:Blk w cb 190 (ckA e L.length (.slice aL L.length cL) (.slice aW went.length cW) (.slice aR ready.length cR) (.slice al left.length cl) vF (.slice aP picks.length cP) most (.slice (some ⟨tg,0,none⟩) n cT) (.slice aC nc cC) (lastAt 0)))
 (hL:XW w B aL L) (hl:XW w B al left) (hW:X0 w aW went) (hR:X0 w aR ready) (hP:X0 w aP picks) (hlow:∀ (a:Option Addr) (ls:List Int),(a=aW∧ls=went∨a=aR∧ls=ready∨a=aP∧ls=picks)→ls≠[]→∀ g off,a=some ⟨g,off,none⟩→g < B) (hT:X5 w tg cT ts) (hn:ts.length=n) (hn64:n≤1000) (htg:B≤tg) (hcbB:B≤cb) (hBw:B≤w.heap.size) (hc:Y3 L 0 ts) (hC:Xgo w aC cC (csAt 0)) (hCB:∀ cg,aC=some ⟨cg,0,none⟩→B≤cg)
 (hlenL:L.length≤100000) (hlw:went.length=L.length) (hlr:ready.length=L.length) (hlp:picks.length < 9000000000) (hok:Xej L left went ready picks n nc e most csAt lastAt) :
 Calls Try.prog 88 #[.pointer (some ⟨cb,0,none⟩)] w (fun e w'=>e=.returned (.bool true)∧Kept (Vt cb tg aC) w w'):=by
 have hct:cb≠tg:=by obtain ⟨cs,h1,_⟩:=hT.blk;exact Blk.ne_ hb h1 (by decide)
 have hcc:∀ cg,aC=some ⟨cg,0,none⟩→cg≠cb∧cg≠tg:=fun cg e=>by
  rcases hC with ⟨_,h⟩|⟨cg',h,h2⟩
  ·rw [h] at e;cases e
  ·rw [h] at e
   obtain rfl:cg'=cg:=by simpa using e
   obtain ⟨q,q1,_⟩:=h2.blk;obtain ⟨p,p1,_⟩:=hT.blk;exact ⟨Blk.ne_ q1 hb (by decide),Blk.ne_ q1 p1 (by decide)⟩
 have HB:=Lib.hid hb;have HL:=Lib.hid hL;have Hl:=Lib.hid hl;have HW:=Lib.hid hW;have HR:=Lib.hid hR;have HP:=Lib.hid hP;have HLO:=Lib.hid hlow;have HC:=Lib.hid hc;have HCS:=Lib.hid hC;have HCB:=Lib.hid hCB;have HOK:=Lib.hid hok;have HT:=Lib.hid hT;have HCC:=Lib.hid hcc;clear hb hL hl hW hR hP hlow hc hC hCB hok hT hcc
 go_enter Try.func88,Try.ntmps88
 go_upto_region 3 with (fail)
 go_loopw [3,4] (fun tu i wr=>XgE L left n (fun l=>ckA e L.length (.slice aL L.length cL) (.slice aW went.length cW) (.slice aR ready.length cR) (.slice al left.length cl) vF (.slice aP picks.length cP) most (.slice (some ⟨tg,0,none⟩) n cT) (.slice aC nc cC) l) csAt lastAt cb tg cT cC aC w tu i wr) (fun _ i _=>L.length - (intOf i).toNat)
 case atStart=>exact ⟨0,ts,Nat.zero_le _,rfl,rfl,HB.out,HT.out,hn,HC.out,HCS.out,Kept.refl _ w⟩
 case round =>
  obtain ⟨k,ts',hk,rfl,rfl,hB',hT',hlen,hCa,hCs,hKp⟩:=hrel;have c2:wr.cell? ⟨cb,2,none⟩=some (.slice aL L.length cL):=Blk.cell hB' 2;have c9:wr.cell? ⟨cb,9,none⟩=some (.slice (some ⟨tg,0,none⟩) n cT):=Blk.cell hB' 9;have hcbr:=Blk.lt hB';have hlow':∀ q,q < B→wr.heap[q]? = w.heap[q]?:=fun q hq=>hKp.block q (by omega) (fun h=>by
   rcases h with h|h|⟨cg,h1,h2⟩
   ·omega
   ·omega
   ·have:=HCB.out cg h1;omega)
  have HL':=Lib.hid (HL.out.of hlow');have Hl':=Lib.hid (Hl.out.of hlow');replace hB':=Lib.hid hB';replace hT':=Lib.hid hT';replace hCa:=Lib.hid hCa;replace hCs:=Lib.hid hCs;replace hKp:=Lib.hid hKp;replace hlow':=Lib.hid hlow'
  by_cases hkn:k < L.length
  ·obtain ⟨a,ha⟩:∃ a,L[k]? = some a:=⟨_,List.getElem?_eq_getElem hkn⟩
   obtain ⟨g,off,rfl,hgB,hA⟩:=HL'.out.at_ k a ha;obtain ⟨q0,q1,q2,q3,q4,q5,q6,q7⟩:=Yt hA;clear hA;obtain ⟨th1,th2,th3⟩:=HOK.out.thr k a ha;obtain ⟨ab1,ab2,ab3,ab4⟩:=HOK.out.able k a ha;obtain ⟨nx1,nx2,nx3,nx4⟩:=HOK.out.next k a ha;have hlc:=HOK.out.len k hk;have x0:decide (k < L.length)=true:=by simpa using hkn
   have x1:decide ((k:Int) < L.length)=true:=by simp;omega
   have x2:(k:Int) < L.length:=by omega
   have x3:(0:Int)≤k:=by omega
   have t1:decide ((a.thread:Int) < 0)=false:=by simp
   have t2:decide ((n:Int)≤a.thread)=false:=by simp;omega
   have t3:decide (n≤a.thread)=false:=by simp;omega
   have p8:decide (a.op=8)=false:=by simpa using th3
   have p8':(a.op == 8)=false:=by simpa using th3
   replace ab1:=Lib.hid ab1;replace ab2:=Lib.hid ab2;replace ab3:=Lib.hid ab3;replace ab4:=Lib.hid ab4;replace nx1:=Lib.hid nx1;replace nx4:=Lib.hid nx4;replace hlc:=Lib.hid hlc;replace ha:=Lib.hid ha
   go_upto_region 6 with (fail)
   have hb9:Blk (wr.alloc (.cells #[.int .i64 a.thread,.int .i8 a.op,.int .i64 a.cell,.int .i64 a.arg,.int .i64 a.new,.int .i64 a.was,.int .i64 a.now,.bool a.ok] 172)) wr.heap.size 172 #[.int .i64 a.thread,.int .i8 a.op,.int .i64 a.cell,.int .i64 a.arg,.int .i64 a.new,.int .i64 a.was,.int .i64 a.now,.bool a.ok]:=Blk.new wr _ _;have ho9:∀ q,q < wr.heap.size→(wr.alloc (.cells #[.int .i64 a.thread,.int .i8 a.op,.int .i64 a.cell,.int .i64 a.arg,.int .i64 a.new,.int .i64 a.was,.int .i64 a.now,.bool a.ok] 172)).heap[q]? = wr.heap[q]?:=fun q hq=>Below.heap_alloc _ _ q hq;have hk9:=hKp.out.alloc (.cells #[.int .i64 a.thread,.int .i8 a.op,.int .i64 a.cell,.int .i64 a.arg,.int .i64 a.new,.int .i64 a.was,.int .i64 a.now,.bool a.ok] 172);generalize wr.alloc (.cells #[.int .i64 a.thread,.int .i8 a.op,.int .i64 a.cell,.int .i64 a.arg,.int .i64 a.new,.int .i64 a.was,.int .i64 a.now,.bool a.ok] 172)=w1 at hb9 ho9 hk9 ⊢;generalize hg9:wr.heap.size=g9 at hb9 ho9 hcbr ⊢;clear q0 q1 q2 q3 q4 q5 q6 q7 c2 c9;have z0:w1.cell? ⟨g9,0,none⟩=some (.int .i64 a.thread):=Blk.cell hb9 0;have z1:w1.cell? ⟨g9,1,none⟩=some (.int .i8 a.op):=Blk.cell hb9 1;have hB1:Blk w1 cb 190 (ckA e L.length (.slice (some ⟨g,off,none⟩) L.length cL) (.slice aW went.length cW) (.slice aR ready.length cR) (.slice al left.length cl) vF (.slice aP picks.length cP) most (.slice (some ⟨tg,0,none⟩) n cT) (.slice aC nc cC) (lastAt k)):=(ho9 cb hcbr).trans hB'.out;have c9:w1.cell? ⟨cb,9,none⟩=some (.slice (some ⟨tg,0,none⟩) n cT):=Blk.cell hB1 9;have hcb1:=Blk.lt hB1;have hg91:=Blk.lt hb9;replace hB1:=Lib.hid hB1
   go_upto_region 6 with (fail)
   go_region
   go_upto_region 9 with (fail)
   have hcsl:∀ (i:Nat) (v:Int),(csAt k)[i]? = some v→∃ g,aC=some ⟨g,0,none⟩∧g≠tg∧g < w1.heap.size∧w1.cell? ⟨g,i,none⟩=some (.int .i64 v):=fun i v hv=>by
    rcases hCs.out with ⟨h1,h2⟩|⟨cg,h1,h2⟩
    ·rw [h1] at hv;simp at hv
    ·have hl1:=Yu.lt h2
     refine ⟨cg,h1,(HCC.out cg h1).2,by have:=hg91;omega,?_⟩
     have:=Yu.cell h2 hv
     simp only [World.cell?] at this ⊢;rw [ho9 cg (by omega)];exact this
   have hT1:X5 w1 tg cT ts':=hT'.out.of (ho9 tg (by rw [← hg9];exact Yu.lt hT'.out));have hL1:=HL'.out.of (w':=w1) fun q hq=>ho9 q (by have:=hKp.out.size;omega);have hl1:=Hl'.out.of (w':=w1) fun q hq=>ho9 q (by have:=hKp.out.size;omega);have hlx:=hlc.out;replace hcsl:=Lib.hid hcsl;replace hT1:=Lib.hid hT1;replace hL1:=Lib.hid hL1;replace hl1:=Lib.hid hl1;replace hk9:=Lib.hid hk9;replace ho9:=Lib.hid ho9;have HAB:∀ (Q:Ending→World→Prop),(∀ (vl:Option Addr) (vc:Nat) (ts2:List Int) (w2:World),w2.ownsRow w1.heap.size 3 1 (.slice vl (XP L left (csAt k) k n).length vc) (XP L left (csAt k) k n).length ((XP L left (csAt k) k n).map fun (j:Nat)=>.int .i64 (j:Nat))→ts2.length=n→X5 w2 tg cT ts2→Y3 L k ts2→Kept (fun q=>q=tg) w1.drew w2→Q (.returned (.tuple #[.slice vl (XP L left (csAt k) k n).length vc,.int .i64 (livesL L left k n)])) w2) →
    Calls Try.prog 134 #[.pointer (some ⟨cb,0,none⟩),.int .i64 k] w1.drew Q:=fun Q hQ=>by
    refine (Xa6 (e:=e) (n:=n) (nr:=L.length) (al:=al) (aC:=aC) (cL:=cL) (cl:=cl) (cT:=cT) (cC:=cC) (tg:=tg) (cb:=cb) (B:=B) (most:=most) (last:=lastAt k) (L:=L) (left:=left) (cs:=csAt k) (ts:=ts') (w:=w1.drew) (by rw [hlx];exact hB1.out) (hL1.out.of (w':=w1.drew) fun q _=>rfl) (hl1.out.of (w':=w1.drew) fun q _=>rfl) (hT1.out.of rfl) hlen hn64 htg (by have:=hk9.out.size;show B≤w1.heap.size;omega) k hk hCa.out (fun a ha=>by
     obtain ⟨j,hj⟩:=List.getElem?_of_mem ha;exact (HOK.out.thr j a hj).2.2) hcsl.out (fun j a h1 h2=>by rw [hlx];exact HOK.out.cell k j a hk h1 h2)).mono ?_
    rintro e1 w2 ⟨vl,ts2,rfl,how,hl2,hT2,hCa2,hK2⟩;obtain ⟨av,vc,rfl⟩:=Xq how;exact hQ av vc ts2 w2 how hl2 hT2 hCa2 hK2
   replace HAB:=Lib.hid HAB
   go_upto_region 10 with (go_at_call 134;refine HAB.out _ (fun vl vc ts2 w2 how hl2 hT2 hCa2 hK2=>?_))
   have hkt:Kept (Vt cb tg aC) w w2:=hk9.out.drew.trans (hK2.mono fun q h=>.inl h);have hB2:Blk w2 cb 190 (ckA e L.length (.slice (some ⟨g,off,none⟩) L.length cL) (.slice aW went.length cW) (.slice aR ready.length cR) (.slice al left.length cl) vF (.slice aP picks.length cP) most (.slice (some ⟨tg,0,none⟩) n cT) (.slice aC nc cC) (lastAt k)):=hK2.blk (a:=w1.drew) hB1.out hct;have y0:w2.cell? ⟨g9,0,none⟩=some (.int .i64 a.thread):=Blk.cell (hK2.blk (a:=w1.drew) hb9 (by have:=Yu.lt hT'.out;omega)) 0;have y1:w2.cell? ⟨g9,1,none⟩=some (.int .i8 a.op):=Blk.cell (hK2.blk (a:=w1.drew) hb9 (by have:=Yu.lt hT'.out;omega)) 1;have y2:w2.cell? ⟨g9,2,none⟩=some (.int .i64 a.cell):=Blk.cell (hK2.blk (a:=w1.drew) hb9 (by have:=Yu.lt hT'.out;omega)) 2;have y6:w2.cell? ⟨g9,6,none⟩=some (.int .i64 a.now):=Blk.cell (hK2.blk (a:=w1.drew) hb9 (by have:=Yu.lt hT'.out;omega)) 6;have u1:w2.cell? ⟨cb,1,none⟩=some (.int .i64 L.length):=Blk.cell hB2 1;have u3:w2.cell? ⟨cb,3,none⟩=some (.slice aW went.length cW):=Blk.cell hB2 3;have u4:w2.cell? ⟨cb,4,none⟩=some (.slice aR ready.length cR):=Blk.cell hB2 4;have hcb2:=Blk.lt hB2;have hlow2:∀ q,q < B→w2.heap[q]? = w.heap[q]?:=fun q hq=>hkt.block q (by omega) (fun h=>by
    rcases h with h|h|⟨cg,h1,h2⟩
    ·omega
    ·omega
    ·have:=HCB.out cg h1;omega)
   have hnum:∀ {b:Option Addr} {ls:List Int},(b=aW∧ls=went∨b=aR∧ls=ready∨b=aP∧ls=picks)→X0 w b ls→X0 w2 b ls:=fun hb h i x hx=>by
    obtain ⟨g,off,e1,e2⟩:=h i x hx;refine ⟨g,off,e1,?_⟩;simp only [World.cell?] at e2 ⊢;rw [hlow2 g (HLO.out _ _ hb (by rintro rfl;simp at hx) _ _ e1)];exact e2
   obtain ⟨gw,ow,rfl,vw⟩:=hnum (.inl ⟨rfl,rfl⟩) HW.out k _ ab3.out;obtain ⟨gr,orr,rfl,vr⟩:=hnum (.inr (.inl ⟨rfl,rfl⟩)) HR.out k _ ab2.out;have hPick:∀ w':World,w'.heap=w2.heap→Calls Try.prog 135 #[.pointer (some ⟨cb,0,none⟩),.slice vl (XP L left (csAt k) k n).length vc,.int .i64 k] w' (fun e w''=>e=.returned (.int .i64 a.thread)∧w''=w'):=fun w' hw'=>by
    have hmap:((XP L left (csAt k) k n).map fun (j:Nat)=>(j:Int)).length=(XP L left (csAt k) k n).length:=List.length_map _;have hp:=Xbp (e:=e) (nr:=L.length) (cb:=cb) (cP:=cP) (cap:=vc) (turn:=k) (aP:=aP) (b:=vl) (picks:=picks) (ls:=(XP L left (csAt k) k n).map fun (j:Nat)=>(j:Int)) (w:=w') (by unfold Blk;rw [hw'];exact hB2) (fun i x hx=>by
     obtain ⟨g,off,e1,e2⟩:=hnum (.inr (.inr ⟨rfl,rfl⟩)) HP.out i x hx;exact ⟨g,off,e1,by simp only [World.cell?] at e2 ⊢;rw [hw'];exact e2⟩) (fun i x hx=>by
     obtain ⟨gg,cc,q1,q2⟩:=Qi how (by have:=ab1.out;omega);injection q1 with q1 _ _
     refine ⟨gg,0,q1,?_⟩;rw [List.getElem?_map] at hx;cases hj:(XP L left (csAt k) k n)[i]? with
     | none=>rw [hj] at hx;cases hx
     | some j =>
      rw [hj] at hx
      have:=q2 i (.int .i64 (j:Nat)) (by rw [List.getElem?_map,hj];rfl)
      rw [Nat.zero_add,← Option.some.inj hx];simp only [World.cell?] at this ⊢;rw [hw'];exact this) (by rw [hmap];exact ab1.out) (by rw [hmap];have:=US L left (csAt k) k n;omega) (by omega) (by omega)
    rw [hmap,ab4.out] at hp;exact hp
   replace hPick:=Lib.hid hPick;have e1:decide ((L.length:Int)≤k)=false:=by simp;omega
   have e2:decide (L.length≤k)=false:=by simp;omega
   have e3:((XP L left (csAt k) k n).length == 0)=false:=beq_eq_false_iff_ne.2 (by have:=ab1.out;omega);have e4:(((XP L left (csAt k) k n).length:Int) == 0)=false:=beq_eq_false_iff_ne.2 (by have:=ab1.out;omega);have e5:decide ((XP L left (csAt k) k n).length=0)=false:=decide_eq_false (by have:=ab1.out;omega);have i1:k < went.length:=by omega
   have i2:(k:Int) < went.length:=by omega
   have i3:k < ready.length:=by omega
   have i4:(k:Int) < ready.length:=by omega
   replace hkt:=Lib.hid hkt;replace hB2:=Lib.hid hB2;replace how:=Lib.hid how;replace hlow2:=Lib.hid hlow2;clear hnum;clear z0 z1 c9 hb9;generalize hAl:(XP L left (csAt k) k n).length=al0 at u1 e3 e4 e5 vr ⊢;have hPick2:=hPick.out;rw [hAl] at hPick2;replace hPick2:=Lib.hid hPick2;clear hPick;refine wp_region_quiet_lit (by kernel_rfl) (by kernel_rfl) ?_;refine Xz 12 _ _ (fun K hK=>?_);simp only [List.take_succ_cons,List.take_zero]
   iterate 12 go_big_quiet_step (fail)
   refine wpQuiet_nil ?_;refine hK _ ?_;clear hK K;simp only [List.drop_succ_cons,List.drop_zero];refine Xz 12 _ _ (fun K hK=>?_);simp only [List.take_succ_cons,List.take_zero]
   iterate 12 go_big_quiet_step (fail)
   refine wpQuiet_nil ?_;refine hK _ ?_;clear hK K;simp only [List.drop_succ_cons,List.drop_zero];refine Xz 12 _ _ (fun K hK=>?_);simp only [List.take_succ_cons,List.take_zero]
   iterate 12 go_big_quiet_step (fail)
   refine wpQuiet_nil ?_;refine hK _ ?_;clear hK K;simp only [List.drop_succ_cons,List.drop_zero]
   iterate 8 go_big_quiet_step (fail)
   go_big_quiet_step (exact (hPick2.out (w2.drewN _) rfl).mono fun e w' h=>⟨h.1,_,h.2⟩)
   iterate 2 go_big_quiet_step (fail)
   refine wpQuiet_nil ?_;rintro _ ⟨nd,rfl⟩;have f11:w2.frozen? ⟨cb,11,none⟩=false:=Blk.frozen hB2.out 11;have l11:w2.cell? ⟨cb,11,none⟩=some (.int .i64 (lastAt k)):=Blk.cell hB2.out 11;have hcbg:g9≠cb:=by omega
   have hcbg':cb≠g9:=by omega
   have p7:decide (a.op=7)=false:=by simpa using th2
   have p7':(a.op == 7)=false:=by simpa using th2
   have c0:decide ((0:Int)≤a.cell)=true:=by simpa using nx2
   have hw0:IntKind.i64.wrap ((k:Int) + 1)=((k + 1:Nat):Int):=by rw [IntKind.wrap_i64];omega
   go_upto_region 17 with (fail)
   obtain ⟨m,hm⟩:∃ m:Nat,a.cell=m:=⟨a.cell.toNat,by omega⟩
   have hmn:m < nc:=by omega
   obtain ⟨cg,hcg,hNum⟩:∃ cg,aC=some ⟨cg,0,none⟩∧Yu wr 2 cg cC (csAt k):=by
    rcases hCs.out with ⟨h1,_⟩|h
    ·have:=hlc.out;rw [h1] at this;simp at this;omega
    ·exact h
   subst hcg;obtain ⟨hgb,hgt⟩:=HCC.out cg rfl;have hNl:=Yu.lt hNum;have hN2:Yu w2 2 cg cC (csAt k):=hNum.of ((hK2.block cg (by show cg < w1.heap.size;omega) hgt).trans (ho9.out cg (by omega)));rw [hm] at y2 c0;have v10:w2.cell? ⟨cb,10,none⟩=some (.slice (some ⟨cg,0,none⟩) nc cC):=Blk.cell hB2.out 10;have vfz:w2.frozen? ⟨cg,m,none⟩=false:=Yu.frz hN2 m;obtain ⟨vm,hvm⟩:∃ vm,(csAt k)[m]? = some vm:=⟨_,List.getElem?_eq_getElem (by rw [hlx];exact hmn)⟩
   have vcm:w2.cell? ⟨cg,m,none⟩=some (.int .i64 vm):=Yu.cell hN2 hvm;have j1:(m:Int) < nc:=by omega
   have j2:(0:Int)≤m:=by omega
   have j3:cg≠cb:=hgb;have j4:cb≠cg:=hgb.symm;have j5:g9≠cg:=by omega
   have j6:cg≠g9:=by omega
   have hgl2:=Yu.lt hN2;replace hN2:=Lib.hid hN2;replace hvm:=Lib.hid hvm
   go_region
   have r1:Blk ((((w2.drewN nd).setCell ⟨cb,11,none⟩ (.int .i64 a.thread)).setCell ⟨cg,m,none⟩ (.int .i64 a.now)).drew) cb 190 (ckA e L.length (.slice (some ⟨g,off,none⟩) L.length cL) (.slice (some ⟨gw,ow,none⟩) went.length cW) (.slice (some ⟨gr,orr,none⟩) ready.length cR) (.slice al left.length cl) vF (.slice aP picks.length cP) most (.slice (some ⟨tg,0,none⟩) n cT) (.slice (some ⟨cg,0,none⟩) nc cC) (lastAt (k + 1))):=by
    rw [nx1.out];exact Blk.far (w:=(w2.drewN nd).setCell ⟨cb,11,none⟩ (.int .i64 a.thread)) (p:=⟨cg,m,none⟩) (Blk.set_ (w:=w2.drewN nd) hB2.out 11 (.int .i64 a.thread)) j4 _
   have r2:∀ q,q≠cb→q≠cg→(((((w2.drewN nd).setCell ⟨cb,11,none⟩ (.int .i64 a.thread)).setCell ⟨cg,m,none⟩ (.int .i64 a.now)).drew)).heap[q]? = w2.heap[q]?:=fun q h1 h2=>(Below.heap_setCell _ _ _ q h2).trans (Below.heap_setCell _ _ _ q h1);have r3:X5 ((((w2.drewN nd).setCell ⟨cb,11,none⟩ (.int .i64 a.thread)).setCell ⟨cg,m,none⟩ (.int .i64 a.now)).drew) tg cT ts2:=hT2.of (r2 tg (fun h=>hct h.symm) (fun h=>hgt h.symm));have r4:Xgo ((((w2.drewN nd).setCell ⟨cb,11,none⟩ (.int .i64 a.thread)).setCell ⟨cg,m,none⟩ (.int .i64 a.now)).drew) (some ⟨cg,0,none⟩) cC (csAt (k + 1)):=.inr ⟨cg,rfl,by
    rw [nx4.out,hm,Int.toNat_natCast];exact Yu.set (w:=(w2.drewN nd).setCell ⟨cb,11,none⟩ (.int .i64 a.thread)) (hN2.out.of (Below.heap_setCell _ _ _ cg j3)) m a.now (by rw [hlx];exact hmn) |>.of rfl⟩
   have r5:Kept (Vt cb tg (some ⟨cg,0,none⟩)) w ((((w2.drewN nd).setCell ⟨cb,11,none⟩ (.int .i64 a.thread)).setCell ⟨cg,m,none⟩ (.int .i64 a.now)).drew):=(((hkt.out.drewN nd).set (p:=⟨cb,11,none⟩) (.inr (.inl rfl)) _).set (p:=⟨cg,m,none⟩) (.inr (.inr ⟨cg,rfl,rfl⟩)) _).drew;generalize ((((w2.drewN nd).setCell ⟨cb,11,none⟩ (.int .i64 a.thread)).setCell ⟨cg,m,none⟩ (.int .i64 a.now)).drew)=w5 at r1 r2 r3 r4 r5 ⊢;replace r1:=Lib.hid r1;replace r3:=Lib.hid r3;replace r4:=Lib.hid r4;replace r5:=Lib.hid r5;clear r2
   go_wp2_with fail
   exact ⟨⟨k + 1,ts2,by omega,by first|rfl|simp,by first|rfl|simp,r1.out,r3.out,hl2,hCa2.up (by omega),r4.out,r5.out⟩,by simp [intOf];omega⟩
  ·obtain rfl:k=L.length:=by omega
   have x0:decide (L.length < L.length)=false:=by simp
   have x1:decide ((L.length:Int) < L.length)=false:=by simp
   have hlc:=HOK.out.len L.length (Nat.le_refl _);have hnl:L[L.length]? = none:=List.getElem?_eq_none (Nat.le_refl _);have hcsl:∀ (i:Nat) (v:Int),(csAt L.length)[i]? = some v→∃ g,aC=some ⟨g,0,none⟩∧g≠tg∧g < wr.heap.size∧wr.cell? ⟨g,i,none⟩=some (.int .i64 v):=fun i v hv=>by
    rcases hCs.out with ⟨h1,h2⟩|⟨cg,h1,h2⟩
    ·rw [h1] at hv;simp at hv
    ·exact ⟨cg,h1,(HCC.out cg h1).2,Yu.lt h2,Yu.cell h2 hv⟩
   have HAB:∀ (Q:Ending→World→Prop),(∀ (vl:Option Addr) (vc:Nat) (w2:World),Kept (fun q=>q=tg) wr w2→Q (.returned (.tuple #[.slice vl (XP L left (csAt L.length) L.length n).length vc,.int .i64 left.length])) w2) →
    Calls Try.prog 134 #[.pointer (some ⟨cb,0,none⟩),.int .i64 L.length] wr Q:=fun Q hQ=>by
    refine (Xa6 (e:=e) (n:=n) (nr:=L.length) (al:=al) (aC:=aC) (cL:=cL) (cl:=cl) (cT:=cT) (cC:=cC) (tg:=tg) (cb:=cb) (B:=B) (most:=most) (last:=lastAt L.length) (L:=L) (left:=left) (cs:=csAt L.length) (ts:=ts') (w:=wr) (by rw [hlc];exact hB'.out) HL'.out Hl'.out hT'.out hlen hn64 htg (by have:=hKp.out.size;omega) L.length (Nat.le_refl _) hCa.out (fun a ha=>by
     obtain ⟨j,hj⟩:=List.getElem?_of_mem ha;exact (HOK.out.thr j a hj).2.2) hcsl (fun j a h1 h2=>by rw [hlc];exact HOK.out.cell L.length j a (Nat.le_refl _) h1 h2)).mono ?_
    rintro e1 w2 ⟨vl,ts2,rfl,how,hl2,hT2,hCa2,hK2⟩;obtain ⟨av,vc,rfl⟩:=Xq how
    have:=hQ av vc w2 hK2
    rw [HOK.out.lives];exact this
   replace HAB:=Lib.hid HAB
   go_upto_region 20 with (go_at_call 134;refine HAB.out _ (fun vl vc w2 hK2=>?_))
   have hkt:Kept (Vt cb tg aC) w w2:=hKp.out.trans (hK2.mono fun q h=>.inl h);have hB2:=hK2.blk hB'.out hct;have u0:w2.cell? ⟨cb,0,none⟩=some (.int .i8 e):=Blk.cell hB2 0;have u1:w2.cell? ⟨cb,1,none⟩=some (.int .i64 L.length):=Blk.cell hB2 1;have u5:w2.cell? ⟨cb,5,none⟩=some (.slice al left.length cl):=Blk.cell hB2 5;have u8:w2.cell? ⟨cb,8,none⟩=some (.int .i64 most):=Blk.cell hB2 8;have hcb2:=Blk.lt hB2;have hhow:=HOK.out.how;have hcut:=HOK.out.cut;replace hkt:=Lib.hid hkt;clear hB2 hcsl c2 c9;generalize (XP L left (csAt L.length) L.length n).length=al0 at hhow ⊢
   by_cases g1:left.length=0
   ·rw [if_pos g1] at hhow
    subst hhow;have g2:(left.length == 0)=true:=by simp [g1]
    have g3:((left.length:Int) == 0)=true:=by simp [g1]
    have g4:decide (left.length=0)=true:=by simp [g1]
    clear hcut g1
    go_wp2_with fail
    go_ret;exact ⟨rfl,hkt.out⟩
   ·rw [if_neg g1] at hhow
    have g2:(left.length == 0)=false:=by simpa using g1
    have g3:((left.length:Int) == 0)=false:=beq_eq_false_iff_ne.2 (by omega);have g4:decide (left.length=0)=false:=by simpa using g1
    by_cases g5:al0=0
    ·rw [if_pos g5] at hhow
     subst hhow;have g6:(al0 == 0)=true:=by simp [g5]
     have g7:((al0:Int) == 0)=true:=by simp [g5]
     have g8:decide (al0=0)=true:=by simp [g5]
     clear hcut g1 g5
     go_wp2_with fail
     go_ret;exact ⟨rfl,hkt.out⟩
    ·rw [if_neg g5] at hhow
     subst hhow;have hc2:=hcut rfl;subst hc2;have g6:(al0 == 0)=false:=by simpa using g5
     have g7:((al0:Int) == 0)=false:=beq_eq_false_iff_ne.2 (by omega);have g8:decide (al0=0)=false:=by simpa using g5
     clear hcut g1 g5
     go_wp2_with fail
     go_ret;exact ⟨rfl,hkt.out⟩
def Xf6 (m:Nat) (w:World) (i:Value) (wr:World):Prop:=∃ k nd:Nat,1≤k∧(k≤m∨k=1)∧i=.int .i64 k∧wr=w.drewN nd
theorem Xck {e:Int} {n nW nR:Nat} {aW aR al:Option Addr} {vL vP vT vC:Value} {cW cR cl cb B:Nat} {most last:Int} {left:List Xo} {w:World}
 (hb:Blk w cb 190 (ckA e n vL (.slice aW nW cW) (.slice aR nR cR) (.slice al left.length cl) (.slice none 0 0) vP most vT vC last)) (hl:XW w B al left) (hW:nW=n) (hR:nR=n) (hm:(n:Int)≤most) (hrise:∀ (i:Nat) (a b:Xo),left[i]? = some a→left[i + 1]? = some b→a.thread < b.thread) :
 Calls Try.prog 87 #[.pointer (some ⟨cb,0,none⟩)] w (fun e w'=>e=.returned (.bool true)∧∃ nd,w'=w.drewN nd):=by
 subst hW;subst hR;have c1:w.cell? ⟨cb,1,none⟩=some (.int .i64 nR):=Blk.cell hb 1;have c3:w.cell? ⟨cb,3,none⟩=some (.slice aW nR cW):=Blk.cell hb 3;have c4:w.cell? ⟨cb,4,none⟩=some (.slice aR nR cR):=Blk.cell hb 4;have c5:w.cell? ⟨cb,5,none⟩=some (.slice al left.length cl):=Blk.cell hb 5;have c6:w.cell? ⟨cb,6,none⟩=some (.slice none 0 0):=Blk.cell hb 6;have c8:w.cell? ⟨cb,8,none⟩=some (.int .i64 most):=Blk.cell hb 8;have hcb:=Blk.lt hb;have d1:decide (most < (nR:Int))=false:=by simp;omega
 have HL:=Lib.hid hl;have HR:=Lib.hid hrise;clear hb hl hrise hm
 go_enter Try.func87,Try.ntmps87
 go_upto_region 1 with (fail)
 refine wp_region_quiet_lit (by kernel_rfl) (by kernel_rfl) ?_;refine Xz 12 _ _ (fun K hK=>?_);simp only [List.take_succ_cons,List.take_zero]
 iterate 12 go_big_quiet_step (fail)
 refine wpQuiet_nil ?_;refine hK _ ?_;clear hK K;simp only [List.drop_succ_cons,List.drop_zero];refine Xz 12 _ _ (fun K hK=>?_);simp only [List.take_succ_cons,List.take_zero]
 iterate 12 go_big_quiet_step (fail)
 refine wpQuiet_nil ?_;refine hK _ ?_;clear hK K;simp only [List.drop_succ_cons,List.drop_zero]
 iterate 14 go_big_quiet_step (fail)
 refine wpQuiet_nil ?_;rintro _ ⟨nd0,rfl⟩
 go_upto_region 4 with (fail)
 go_loopw [3] (fun i wr=>Xf6 left.length w i wr) (fun i _=>left.length - (intOf i).toNat)
 case atStart=>exact ⟨1,nd0,Nat.le_refl _,.inr rfl,rfl,rfl⟩
 case round =>
  obtain ⟨k,nd,hk1,hk,rfl,rfl⟩:=hrel
  by_cases hkn:k < left.length
  ·obtain ⟨b,hb⟩:∃ b,left[k]? = some b:=⟨_,List.getElem?_eq_getElem hkn⟩
   obtain ⟨a,ha⟩:∃ a,left[k - 1]? = some a:=⟨_,List.getElem?_eq_getElem (by omega)⟩
   have hlt:=HR.out (k - 1) a b ha (by rw [Nat.sub_add_cancel hk1];exact hb);obtain ⟨g,off,rfl,_,hA⟩:=HL.out.at_ k b hb;obtain ⟨g2,off2,e2,_,hA2⟩:=HL.out.at_ (k - 1) a ha;injection e2 with e2
   injection e2 with e3 e4
   subst e3 e4;obtain ⟨q0,_⟩:=Yt hA;obtain ⟨r0,_⟩:=Yt hA2;clear hA hA2;obtain ⟨j,rfl⟩:∃ j,k=j + 1:=⟨k - 1,by omega⟩
   simp only [Nat.add_sub_cancel] at r0 ha;have x0:decide (j + 1 < left.length)=true:=by simpa using hkn
   have x1:decide (((j + 1:Nat):Int) < left.length)=true:=by simp;omega
   have x2:((j + 1:Nat):Int) < left.length:=by omega
   have x3:(0:Int)≤((j + 1:Nat):Int):=by omega
   have x4:(j:Int) < left.length:=by omega
   have x5:(0:Int)≤j:=by omega
   have hw1:IntKind.i64.wrap (((j + 1:Nat):Int) - 1)=(j:Int):=by rw [IntKind.wrap_i64];have:=HL.out.small;omega
   have hw2:IntKind.i64.wrap (((j + 1:Nat):Int) + 1)=((j + 2:Nat):Int):=by rw [IntKind.wrap_i64];have:=HL.out.small;omega
   have t1:decide ((b.thread:Int)≤(a.thread:Int))=false:=by simp;omega
   have t2:decide (b.thread≤a.thread)=false:=by simp;omega
   clear ha hb hlt;generalize hjj:j + 1=k at q0 x0 x1 x2 x3 hw1 hw2 hkn hk1 hk ⊢;have hnd:=Lib.hid hjj;clear hjj
   go_upto_region 6 with (fail)
   go_region
   all_goals (
    go_wp2_with fail
    exact ⟨⟨k + 1,_,by omega,.inl (by omega),by rw [← hnd.out];first|rfl|simp|(congr 1;omega),rfl⟩,by simp [intOf];have:=hnd.out;omega⟩)
  ·have x0:decide (k < left.length)=false:=by simpa using hkn
   have x1:decide ((k:Int) < left.length)=false:=by simp;omega
   have x2:decide ((1:Int) < 0)=false:=by decide
   clear hkn hk hk1
   go_upto_region 9 with (fail)
   go_loopw [4] (fun i wr=>Xf6 1 w i wr) (fun i _=>0)
   case atStart=>exact ⟨1,nd,Nat.le_refl _,.inr rfl,rfl,rfl⟩
   case round =>
    obtain ⟨k2,nd2,hk1,hk,rfl,rfl⟩:=hrel;obtain rfl:k2=1:=by omega
    go_wp2_with fail
    go_ret;exact ⟨rfl,_,rfl⟩

/- The document's Walker: the next access of a thread. Conditions: what the walk's blocks hold; the record is a run's. -/
import Derived.Test.YtdhnggjmegilkaaSWkG
import Derived.Test.YtdhnggjmegilkaaSPlC
import Derived.Deep.RegionHeld3
import Derived.Test.YtdhnggjmegilkaaSWkJ
set_option linter.all false
set_option maxRecDepth 100000
set_option maxHeartbeats 16000000
namespace Go.Proofs.Ytdhnggjmegilkaa
open Go.RowKit
set_option maxRecDepth 100000
theorem Xdq {e:Int} {cb:Nat} {vL vW vR vl vF vP vC:Value} {most last:Int} {w:World} (hb:Blk w cb 190 (ckA e 0 vL vW vR vl vF vP most (.slice none 0 0) vC last)) (at':Int) :
 Calls Try.prog 134 #[.pointer (some ⟨cb,0,none⟩),.int .i64 at'] w (fun e w'=>e=.returned (.tuple #[.slice none 0 0,.int .i64 0])∧∃ nd,w'=w.drewN nd):=by
 have c9:w.cell? ⟨cb,9,none⟩=some (.slice none 0 0):=Blk.cell hb 9;have hcb:=Blk.lt hb;clear hb
 go_enter Try.func134,Try.ntmps134
 go_upto_region 4 with (fail)
 go_loopw [6,7,8] (fun l lv i wr=>l=.slice none 0 0∧lv=.int .i64 0∧i=.int .i64 0∧∃ nd,wr=w.drewN nd) (fun _ _ _ _=>0)
 case atStart=>exact ⟨rfl,rfl,rfl,0,rfl⟩
 case round =>
  obtain ⟨rfl,rfl,rfl,nd,rfl⟩:=hrel;have x0:decide ((0:Int) < 0)=false:=by decide
  go_wp2_with fail
  refine bodyPost_ret (v:=.tuple #[.slice none 0 0,.int .i64 0]) (by simp [results,Try.results134,go_sem]) rfl ⟨rfl,nd,rfl⟩
theorem Xba {cb:Nat} {vW vR vF vP vC:Value} {most last:Int} {aL al:Option Addr} {cL cl:Nat} {w:World} (hb:Blk w cb 190 (ckA 1 0 (.slice aL 0 cL) vW vR (.slice al 0 cl) vF vP most (.slice none 0 0) vC last)) :
 Calls Try.prog 88 #[.pointer (some ⟨cb,0,none⟩)] w (fun e w'=>e=.returned (.bool true)∧Kept (fun _=>False) w w'):=by
 have c2:w.cell? ⟨cb,2,none⟩=some (.slice aL 0 cL):=Blk.cell hb 2;have c0:w.cell? ⟨cb,0,none⟩=some (.int .i8 1):=Blk.cell hb 0;have c1:w.cell? ⟨cb,1,none⟩=some (.int .i64 0):=Blk.cell hb 1;have c5:w.cell? ⟨cb,5,none⟩=some (.slice al 0 cl):=Blk.cell hb 5;have c8:w.cell? ⟨cb,8,none⟩=some (.int .i64 most):=Blk.cell hb 8;have hcb:=Blk.lt hb;have hab:=Xdq hb 0;replace hab:=Lib.hid hab;clear hb
 go_enter Try.func88,Try.ntmps88
 go_upto_region 3 with (fail)
 go_loopw [3,4] (fun tu i wr=>tu=.int .i64 0∧i=.int .i64 0∧wr=w) (fun _ _ _=>0)
 case atStart=>exact ⟨rfl,rfl,rfl⟩
 case round =>
  obtain ⟨rfl,rfl,rfl⟩:=hrel;have x0:decide ((0:Int) < 0)=false:=by decide
  go_upto_region 20 with (go_at_call 134;go_must (refine hab.out.mono ?_);rintro e1 w2 ⟨he1,nd,rfl⟩;obtain rfl:e1=_:=he1)
  go_wp2_with fail
  go_ret;exact ⟨rfl,(Kept.refl _ wr).drewN nd⟩
theorem Y0 {w:World} {N:Nat} {e:TypeId} {size:Nat} {v:Value} {n:Nat} {xs:List Value} {b:Nat} (h:w.ownsRow N e size v n xs) (hv:v.ownBlock=some b):Blk w b e (match w.heap[b]? with|some (.cells cs _ _)=>cs|_=>#[]):=by
 rcases h.2 with ⟨rfl,_⟩|⟨g,cap,cur,rfl,_,hg,_⟩
 ·simp [Value.ownBlock] at hv
 ·obtain rfl:g=b:=by simpa [Value.ownBlock] using hv
  rw [hg];exact hg
theorem Xcx {w:World} {N:Nat} {e:TypeId} {g n cap:Nat} {ts:List Int} (h:w.ownsRow N e 1 (.slice (some ⟨g,0,none⟩) n cap) n (ts.map fun x=>.int .i64 x)):Yu w e g cap ts:=by
 have hl:=h.1;rw [List.length_map,Nat.mul_one] at hl;rcases h.2 with ⟨h',_⟩|⟨g',cap',cur,h',_,hg,hn,_,hs,ht⟩
 ·simp at h'
 ·simp only [Value.slice.injEq,Option.some.injEq,Addr.mk.injEq,and_true,true_and] at h'
  obtain ⟨rfl,rfl⟩:=h';refine ⟨by omega,cur,hg,by omega,fun j x hx=>?_⟩;rw [← Array.getElem?_toList]
  have:=congrArg (fun l=>l[j]?) ht
  simp only [List.getElem?_map,hx,List.getElem?_take] at this;have hj:=(List.getElem?_eq_some_iff.1 hx).1;rw [if_pos (by omega)] at this;exact this
def XgM (A:Value→Array Value) (n cb:Nat) (w:World) (i:Value) (wr:World):Prop :=
 ∃ (k:Nat) (vT:Value),k≤n∧i=.int .i64 k∧Blk wr cb 190 (A vT)∧wr.ownsRow w.heap.size 3 1 vT k (List.replicate k (.int .i64 0))∧Kept (fun _=>False) w wr∧(k=0→vT=.slice none 0 0)
def XfG (e:Int) (n:Nat) (vL vW vR vl vF:Value):Value:=.agg #[.int .i8 e,.int .i64 n,vL,vW,vR,vl,vF]
theorem Xau {e most:Int} {n nc:Nat} {aL aW aR al aP:Option Addr} {cL cW cR cl cP:Nat} {L left:List Xo} {went ready picks:List Int} {nowAt firstAt csAt:Nat→List Int} {lastAt:Nat→Int} {w:World}
 (hL:XW w w.heap.size aL L) (hl:XW w w.heap.size al left) (hW:X0 w aW went) (hR:X0 w aR ready) (hP:X0 w aP picks) (hn64:n≤64) (hm0:0≤most) (hm1:most≤65536)
 (hlm:(L.length:Int)≤most) (hlw:went.length=L.length) (hlr:ready.length=L.length) (hlp:picks.length < 9000000000) (hrise:∀ (i:Nat) (a b:Xo),left[i]? = some a→left[i + 1]? = some b→a.thread < b.thread) (hok:Xej L left went ready picks n nc e most csAt lastAt) (hmk:XaA L left nowAt firstAt) (h0:csAt 0=firstAt L.length) (h1:lastAt 0 = -1) :
 Calls Try.prog 20 #[XfG e L.length (.slice aL L.length cL) (.slice aW went.length cW) (.slice aR ready.length cR) (.slice al left.length cl) (.slice none 0 0),.int .i64 n,.slice aP picks.length cP,.int .i64 most] w (fun e w'=>e=.returned (.bool true)∧Kept (fun _=>False) w w'):=by
 have hnc:nc=(firstAt L.length).length:=by rw [← h0];exact (hok.len 0 (Nat.zero_le _)).symm
 have hT:∀ z,Calls Try.prog 85 #[.int .i64 most] z (fun e w'=>e=.returned (.int .i64 most)∧w'=z):=fun z=>by
  have:=XbT most z
  rw [if_neg (by omega),if_neg (by omega)] at this;exact this
 have HL:=Lib.hid hL;have Hl:=Lib.hid hl;have HW:=Lib.hid hW;have HR:=Lib.hid hR;have HP:=Lib.hid hP;have HRI:=Lib.hid hrise;have HOK:=Lib.hid hok;have HMK:=Lib.hid hmk;have H0:=Lib.hid h0;have H1:=Lib.hid h1;replace hT:=Lib.hid hT;replace hnc:=Lib.hid hnc;replace hlw:=Lib.hid hlw;replace hlr:=Lib.hid hlr;clear hL hl hW hR hP hrise hok hmk h0 h1;unfold XfG
 go_enter Try.func20,Try.ntmps20
 go_upto_region 1 with (fail)
 have hb0:Blk (w.alloc (.cells #[.int .i8 e,.int .i64 L.length,.slice aL L.length cL,.slice aW went.length cW,.slice aR ready.length cR,.slice al left.length cl,.slice none 0 0] 43)) w.heap.size 43 #[.int .i8 e,.int .i64 L.length,.slice aL L.length cL,.slice aW went.length cW,.slice aR ready.length cR,.slice al left.length cl,.slice none 0 0]:=Blk.new w _ _;have hk0:=(Kept.refl (fun _=>False) w).alloc (.cells #[.int .i8 e,.int .i64 L.length,.slice aL L.length cL,.slice aW went.length cW,.slice aR ready.length cR,.slice al left.length cl,.slice none 0 0] 43);generalize w.alloc (.cells #[.int .i8 e,.int .i64 L.length,.slice aL L.length cL,.slice aW went.length cW,.slice aR ready.length cR,.slice al left.length cl,.slice none 0 0] 43)=w0 at hb0 hk0 ⊢;generalize hrb:w.heap.size=rb at hb0 ⊢;have r0:w0.cell? ⟨rb,0,none⟩=some (.int .i8 e):=Blk.cell hb0 0;have r1:w0.cell? ⟨rb,1,none⟩=some (.int .i64 L.length):=Blk.cell hb0 1;have r2:w0.cell? ⟨rb,2,none⟩=some (.slice aL L.length cL):=Blk.cell hb0 2;have r3:w0.cell? ⟨rb,3,none⟩=some (.slice aW went.length cW):=Blk.cell hb0 3;have r4:w0.cell? ⟨rb,4,none⟩=some (.slice aR ready.length cR):=Blk.cell hb0 4;have r5:w0.cell? ⟨rb,5,none⟩=some (.slice al left.length cl):=Blk.cell hb0 5;have r6:w0.cell? ⟨rb,6,none⟩=some (.slice none 0 0):=Blk.cell hb0 6;have hrl:=Blk.lt hb0;replace hk0:=Lib.hid hk0;replace hrb:=Lib.hid hrb;clear hb0
 go_region_held3 (fun w'=>w'.cell? ⟨rb,0,none⟩=some (.int .i8 e)∧w'.cell? ⟨rb,1,none⟩=some (.int .i64 L.length)∧w'.cell? ⟨rb,2,none⟩=some (.slice aL L.length cL)∧w'.cell? ⟨rb,3,none⟩=some (.slice aW went.length cW)∧w'.cell? ⟨rb,4,none⟩=some (.slice aR ready.length cR)∧w'.cell? ⟨rb,5,none⟩=some (.slice al left.length cl)∧w'.cell? ⟨rb,6,none⟩=some (.slice none 0 0))
  (first|exact ⟨r0,r1,r2,r3,r4,r5,r6⟩|go_keep)
  ((go_at_call 85;go_must (refine (hT.out _).mono ?_);rintro e4 w4 ⟨he4,hk4⟩;obtain rfl:e4=_:=he4;subst hk4))
 have hb1:Blk ((w0.alloc (.cells #[.int .i8 e,.int .i64 L.length,.slice aL L.length cL,.slice aW went.length cW,.slice aR ready.length cR,.slice al left.length cl,.slice none 0 0,.slice aP picks.length cP,.int .i64 most,.slice none 0 0,.slice none 0 0,.int .i64 (-1)] 190)).drew) w0.heap.size 190 (ckA e L.length (.slice aL L.length cL) (.slice aW went.length cW) (.slice aR ready.length cR) (.slice al left.length cl) (.slice none 0 0) (.slice aP picks.length cP) most (.slice none 0 0) (.slice none 0 0) (-1)):=Blk.new w0 _ _;have hk1:=(hk0.out.alloc (.cells #[.int .i8 e,.int .i64 L.length,.slice aL L.length cL,.slice aW went.length cW,.slice aR ready.length cR,.slice al left.length cl,.slice none 0 0,.slice aP picks.length cP,.int .i64 most,.slice none 0 0,.slice none 0 0,.int .i64 (-1)] 190)).drew;have hcbw:w.heap.size≤w0.heap.size:=hk0.out.size;generalize ((w0.alloc (.cells #[.int .i8 e,.int .i64 L.length,.slice aL L.length cL,.slice aW went.length cW,.slice aR ready.length cR,.slice al left.length cl,.slice none 0 0,.slice aP picks.length cP,.int .i64 most,.slice none 0 0,.slice none 0 0,.int .i64 (-1)] 190)).drew)=w1 at hb1 hk1 ⊢;generalize hcb:w0.heap.size=cb at hb1 hcbw ⊢;clear r0 r1 r2 r3 r4 r5 r6 hrl hk0 hcb;obtain ⟨i0,hi0,hz0,hz1,hz2⟩:=XM UI
 go_upto_region 3 with (fail)
 go_loopw [10] (fun i wr=>XgM (fun vT=>ckA e L.length (.slice aL L.length cL) (.slice aW went.length cW) (.slice aR ready.length cR) (.slice al left.length cl) (.slice none 0 0) (.slice aP picks.length cP) most vT (.slice none 0 0) (-1)) n cb w i wr) (fun i _=>n - (intOf i).toNat)
 case atStart=>exact ⟨0,_,Nat.zero_le _,rfl,hb1,X7,hk1,fun _=>rfl⟩
 case round =>
  clear hb1 hk1;obtain ⟨k,vT,hk,rfl,hB',hT',hKp,hz⟩:=hrel;replace hz:=Lib.hid hz;obtain ⟨aT,cT,rfl⟩:=Xq hT';have c9:wr.cell? ⟨cb,9,none⟩=some (.slice aT k cT):=Blk.cell hB' 9;have hcbr:=Blk.lt hB';have hsz:=hKp.size
  by_cases hkn:k < n
  ·have x0:decide (k < n)=true:=by simpa using hkn
   have x1:decide ((k:Int) < n)=true:=by simp;omega
   have hw0:IntKind.i64.wrap ((k:Int) + 1)=((k + 1:Nat):Int):=by rw [IntKind.wrap_i64];omega
   have hOT:Hid ((wr.alloc (.cells #[.int .i64 0] 3)).ownsRow w.heap.size 3 1 (.slice aT k cT) k (List.replicate k (.int .i64 0))):=Lib.hid (hT'.alloc _);have N2:Hid (k + 1≤maxLen):=Lib.hid (by unfold maxLen;omega);have N3:Hid ((k + 1) * 8≤140737488355328):=Lib.hid (by omega);have N4:Hid (w.heap.size≤(wr.alloc (.cells #[.int .i64 0] 3)).heap.size):=Lib.hid (by simp;omega);replace hB':=Lib.hid hB';replace hT':=Lib.hid hT';replace hKp:=Lib.hid hKp
   go_upto_region 4 with (first|(at_builtin;refine wpList_append_lies _ rfl _ _ 24 rfl w.heap.size 3 i0 _ 1 8 Try.underlying24 hi0 hz0 hz1 hz2 rfl (by decide) _ k (List.replicate k (.int .i64 0)) rfl hOT.out ⟨wr.heap.size,0,none⟩ 1 1 [.int .i64 0] rfl rfl (World.news_of_block (cs:=#[.int .i64 0]) (t:=3) (fr:=(0,0)) (heap_alloc_new wr _)) (by simp [Value.oneCell']) (by omega) N2.out N3.out N4.out _ rfl ?_;intro gn cap2 w2 hown hgrow hat hlt3;have HOWN:=Lib.hid hown;have HGROW:=Lib.hid hgrow;have HAT:=Lib.hid hat;have hcb2:w2.heap[cb]? = wr.heap[cb]?:=by { rw [hgrow.block cb (by simp;omega) (fun e=>Blk.ne_ (Y0 hT'.out e.symm) hB'.out (by decide) rfl)];exact Below.heap_alloc _ _ cb hcbr };have hB2:=hcb2.trans hB'.out;have k0:w2.cell? ⟨cb,9,none⟩=some (.slice aT k cT):=Blk.cell (w:=w2) hB2 9;have f0:w2.frozen? ⟨cb,9,none⟩=false:=Blk.frozen (w:=w2) hB2 9;have hs2:cb < w2.heap.size:=Blk.lt (w:=w2) hB2;replace hB2:=Lib.hid hB2;clear hown hgrow hat hlt3 hcb2))
   have hgn:gn≠cb:=fun e=>Blk.ne_ (Y0 HOWN.out (b:=gn) rfl) hB2.out (by decide) e;have hk2:Kept (fun q=>q=cb) w (w2.setCell ⟨cb,9,none⟩ (.slice (some ⟨gn,0,none⟩) (k + 1) cap2)):=by
    refine Kept.set (S:=fun q=>q=cb) ?_ (p:=⟨cb,9,none⟩) rfl _;refine ⟨HGROW.out.os.trans hKp.out.os,HGROW.out.tape.trans hKp.out.tape,HGROW.out.output.trans hKp.out.output,by have h1:=HGROW.out.size;simp at h1;omega,fun q hq _=>?_⟩;rw [HGROW.out.block q (by simp;omega) (fun e=>by have:=XE hT'.out e.symm;omega),Below.heap_alloc _ _ q (by omega)];exact hKp.out.block q hq id
   go_wp2_with fail
   refine ⟨⟨k + 1,_,by omega,by first|rfl|simp,Blk.set_ (w:=w2) hB2.out 9 _,?_,Kept.shrink hk2 (fun q hq h=>absurd h (by omega)),fun e=>by omega⟩,by simp [intOf];omega⟩;rw [List.replicate_succ'];exact Xj HOWN.out fun b hb=>Below.heap_setCell _ _ _ b fun e=>hgn ((show gn=b by simpa [Value.ownBlock] using hb).trans e)
  ·obtain rfl:k=n:=by omega
   have x0:decide (k < k)=false:=by simp
   have x1:decide ((k:Int) < k)=false:=by simp
   have hme:=Xbs hB' (HL.out.of fun q hq=>hKp.block q hq id) (Hl.out.of fun q hq=>hKp.block q hq id) hcbw (by omega) HMK.out;replace hme:=Lib.hid hme;replace hB':=Lib.hid hB';replace hT':=Lib.hid hT';replace hKp:=Lib.hid hKp;clear c9;have hall:∀ (w2:World) (vC:Value),Kept (fun q=>q=cb) wr w2→Blk w2 cb 190 (ckA e L.length (.slice aL L.length cL) (.slice aW went.length cW) (.slice aR ready.length cR) (.slice al left.length cl) (.slice none 0 0) (.slice aP picks.length cP) most (.slice aT k cT) vC (-1))→w2.ownsRow wr.heap.size 2 1 vC (firstAt L.length).length (YO (firstAt L.length)) →
    Calls Try.prog 87 #[.pointer (some ⟨cb,0,none⟩)] w2 (fun e w'=>e=.returned (.bool true)∧∃ nd,w'=w2.drewN nd):=fun w2 vC h1 h2 _=>by
    have hs:=h1.size;exact Xck h2 ((Hl.out.of fun q hq=>hKp.out.block q hq id).of fun q hq=>h1.block q (by omega) (by omega)) hlw.out hlr.out hlm HRI.out
   have hturn:∀ (w2:World) (vC:Value),Kept (fun q=>q=cb) wr w2→Blk w2 cb 190 (ckA e L.length (.slice aL L.length cL) (.slice aW went.length cW) (.slice aR ready.length cR) (.slice al left.length cl) (.slice none 0 0) (.slice aP picks.length cP) most (.slice aT k cT) vC (-1))→w2.ownsRow wr.heap.size 2 1 vC (firstAt L.length).length (YO (firstAt L.length)) →
    Calls Try.prog 88 #[.pointer (some ⟨cb,0,none⟩)] w2 (fun e w'=>e=.returned (.bool true)∧Kept (fun _=>False) w w'):=fun w2 vC h1 h2 h3=>by
    have hs:=h1.size;have hkw:Kept (fun q=>q=cb) w w2:=(hKp.out.mono fun _ h=>h.elim).trans h1;have hlow2:∀ q,q < w.heap.size→w2.heap[q]? = w.heap[q]?:=fun q hq=>hkw.block q hq (by omega)
    by_cases hk0:k=0
    ·subst hk0
     have hL0:L = []:=by
      cases L with
      | nil=>rfl
      | cons a L=>exact absurd (HOK.out.thr 0 a rfl).1 (by omega)
     subst hL0;have hl0:left = []:=by
      have:=HOK.out.lives
      simp [livesL] at this;exact List.length_eq_zero_iff.1 this.symm
     subst hl0;have he:e=1:=by have:=HOK.out.how;simpa using this
     subst he;have hz':=hz.out rfl;injection hz' with z1 _ z3
     subst z1 z3;refine (Xba h2).mono ?_;rintro e w' ⟨a1,a2⟩;exact ⟨a1,Kept.shrink (hkw.trans (a2.mono fun _ h=>h.elim)) fun q hq h=>absurd h (by omega)⟩
    ·obtain ⟨tg,cT',eT,hge,htl,_,_,_⟩:=Z2 hT'.out hk0
     injection eT with e1 _ e3
     subst e1 e3;have htc:tg≠cb:=fun e=>Blk.ne_ (Y0 hT'.out (b:=tg) rfl) hB'.out (by decide) e;have hTn:X5 wr tg cT (List.replicate k 0):=Xcx (ts:=List.replicate k 0) (by rw [List.map_replicate];exact hT'.out);obtain ⟨aC,cC,rfl⟩:=Xq h3;have hcs:Xgo w2 aC cC (csAt 0):=by
      rw [H0.out];rcases h3.2 with ⟨q1,q2⟩|⟨g,cap,cur,q1,_⟩
      ·injection q1 with q3 _ _
       exact .inl ⟨List.length_eq_zero_iff.1 q2,q3⟩
      ·injection q1 with q3 _ q4
       subst q3 q4;exact .inr ⟨g,rfl,Xcx h3⟩
     have hnum:∀ {b:Option Addr} {ls:List Int},X0 w b ls→X0 w2 b ls:=fun h i x hx=>by
      obtain ⟨g,off,e1,e2⟩:=h i x hx;have hg:=World.block_lt_of_cell? w _ e2;refine ⟨g,off,e1,?_⟩;simp only [World.cell?] at e2 ⊢;rw [hlow2 g hg];exact e2
     have hlo:∀ {b:Option Addr} {ls:List Int},X0 w b ls→ls≠[]→∀ g off,b=some ⟨g,off,none⟩→g < w.heap.size:=fun {b ls} h hne g off e=>by
      cases ls with
      | nil=>exact absurd rfl hne
      | cons x l =>
       obtain ⟨g',off',e1,e2⟩:=h 0 x rfl;rw [e] at e1;injection e1 with e1
       injection e1 with e3
       rw [e3];exact World.block_lt_of_cell? w _ e2
     refine (V1 (B:=w.heap.size) (csAt:=csAt) (lastAt:=lastAt) (n:=k) (nc:=nc) (ts:=List.replicate k 0) (by rw [H1.out,hnc.out];exact h2) (HL.out.of hlow2) (Hl.out.of hlow2) (hnum HW.out) (hnum HR.out) (hnum HP.out) (fun a ls hb hne g off e=>by rcases hb with ⟨rfl,rfl⟩|⟨rfl,rfl⟩|⟨rfl,rfl⟩<;>first|exact hlo HW.out hne g off e|exact hlo HR.out hne g off e|exact hlo HP.out hne g off e) (hTn.of (h1.block tg htl htc)) (by simp) (by omega) (by omega) hcbw (by omega) (fun j x hx=>⟨0,by rw [List.getElem?_replicate] at hx;split at hx<;>simp_all,Nat.zero_le _,fun i a h1 h2=>by omega⟩) hcs (fun cg e=>by have:=XE h3 (g:=cg) (by rw [e];rfl);omega) (by omega) hlw.out hlr.out hlp HOK.out).mono ?_;rintro e w' ⟨a1,a2⟩;refine ⟨a1,Kept.shrink ((hkw.mono (T:=Vt cb tg aC) fun q h=>.inr (.inl h)).trans a2) fun q hq h=>?_⟩;rcases h with h|h|⟨cg,h4,h5⟩
     ·omega
     ·omega
     ·have:=XE h3 (g:=cg) (by rw [h4];rfl);omega
   go_upto_region 8 with (first
    | (go_at_call 86;go_must (refine hme.out.mono ?_);rintro e1 w2 ⟨he1,hk2,vC,hb2,hc2⟩;obtain rfl:e1=_:=he1;have hsh:=hall w2 vC hk2 hb2 hc2;have htu:=fun nd=>hturn (w2.drewN nd) vC (hk2.drewN nd) hb2 (Xj hc2 fun _ _=>rfl);replace hsh:=Lib.hid hsh;replace htu:=Lib.hid htu;clear hk2 hb2 hc2)
    | (go_at_call 87;go_must (refine hsh.out.mono ?_);rintro e1 w3 ⟨he1,nd,rfl⟩;obtain rfl:e1=_:=he1))
   go_wp2_with (go_at_call 88;go_must (refine (htu.out _).mono ?_);rintro e1 w4 ⟨he1,hk4⟩;obtain rfl:e1=_:=he1)
   go_ret;exact ⟨rfl,hk4⟩
def Xdr (K:Wk) (j:Nat) (w:World) (e:Ending) (w':World):Prop :=
 e=.returned (U7 (K.left.find? fun a=>a.thread == j))∧Kept (fun _=>False) w w'
def XgD (K:Wk) (j rb:Nat) (w:World) (i:Value) (wr:World):Prop:=∃ q:Nat,q≤K.left.length∧i=.int .i64 q∧Kept (fun _=>False) w wr∧Blk wr rb 172 #[.int .i64 0,.int .i8 0,.int .i64 0,.int .i64 0,.int .i64 0,.int .i64 0,.int .i64 0,.bool false]∧∀ x b,x < q→K.left[x]? = some b→b.thread≠j
theorem Xeo {K:Wk} {j:Nat} {w0 w:World} {act:Act} {g:Nat} {cs:Array Value} {b:Bool} {o:Option Xo} (h2:act.tmps.getD 2 undef=.pointer (some ⟨g,0,none⟩)) (h3:act.tmps.getD 3 undef=.bool b) (hd:act.defers = [])
 (hb:Blk w g 172 cs) (h8:cs.size=8) (ho:(K.left.find? fun a=>a.thread == j)=o) (hv:U7 o=.tuple #[.agg cs,.bool b]) (hkp:Kept (fun _=>False) w0 w) :
 bodyPost Try.prog Try.f96 (Xdr K j w0) .ret act w:=by
 refine bodyPost_ret (Yv rfl act.tmps w g 172 cs (0,0) _ h2 hb Try.underlying172 rfl (by rw [h8];exact VR)) hd ?_;rw [h3];exact ⟨by rw [ho,hv],hkp⟩
theorem Uq {K:Wk} {gv:List Bool} {w:World} {xb j:Nat} {out:Bool} {at':Nat} (hW:WAt K gv w) (hB:K.B≤w.heap.size) (hx:Blk w xb 55 (XD K.wb j out at')) :
 Calls Try.prog 96 #[.pointer (some ⟨xb,0,none⟩)] w (Xdr K j w):=by
 have hWk:∀ z,Kept (fun _=>False) w z→z.cell? ⟨K.wb,5,none⟩=some (.slice K.al K.left.length K.cl)∧XW z K.B K.al K.left∧K.wb < z.heap.size:=fun z hz =>
  ⟨(hz.cell (p:=⟨K.wb,5,none⟩) (Blk.lt hW.blk) id).trans (Blk.cell hW.blk 5),hW.lef.of fun q hq=>hz.block q (by omega) id,by have:=Blk.lt hW.blk;have:=hz.size;omega⟩
 have hsm:=hW.lef.small;have hxl:=Blk.lt hx;replace hWk:=Lib.hid hWk;replace hx:=Lib.hid hx;clear hW
 go_enter Try.func96,Try.ntmps96
 go_upto_region 1 with (fail)
 have hr0:Blk (w.alloc (.cells #[.int .i64 0,.int .i8 0,.int .i64 0,.int .i64 0,.int .i64 0,.int .i64 0,.int .i64 0,.bool false] 172)) w.heap.size 172 #[.int .i64 0,.int .i8 0,.int .i64 0,.int .i64 0,.int .i64 0,.int .i64 0,.int .i64 0,.bool false]:=Blk.new w _ _;have hk0:=(Kept.refl (fun _=>False) w).alloc (.cells #[.int .i64 0,.int .i8 0,.int .i64 0,.int .i64 0,.int .i64 0,.int .i64 0,.int .i64 0,.bool false] 172);generalize w.alloc (.cells #[.int .i64 0,.int .i8 0,.int .i64 0,.int .i64 0,.int .i64 0,.int .i64 0,.int .i64 0,.bool false] 172)=w0 at hr0 hk0 ⊢;generalize hrb:w.heap.size=rb at hr0 ⊢;replace hrb:=Lib.hid hrb;replace hr0:=Lib.hid hr0;replace hk0:=Lib.hid hk0
 go_upto_region 2 with (fail)
 go_loopw [4] (fun i wr=>XgD K j rb w i wr) (fun i _=>K.left.length - (intOf i).toNat)
 case atStart=>exact ⟨0,Nat.zero_le _,rfl,hk0.out,hr0.out,fun x b h=>by omega⟩
 case round =>
  obtain ⟨k,hkL,rfl,hkp,hrk,hno⟩:=hrel;obtain ⟨c5,hL,hwb⟩:=hWk.out wr hkp;have hxk:Blk wr xb 55 (XD K.wb j out at'):=hkp.blk hx.out id;have x0:wr.cell? ⟨xb,0,none⟩=some (.pointer (some ⟨K.wb,0,none⟩)):=Blk.cell hxk 0;have x1:wr.cell? ⟨xb,1,none⟩=some (.int .i64 j):=Blk.cell hxk 1;have hxlr:=Blk.lt hxk;have hrl:=Blk.lt hrk;replace hno:=Lib.hid hno;replace hkp:=Lib.hid hkp;replace hrk:=Lib.hid hrk;clear hxk
  by_cases hkn:k < K.left.length
  ·obtain ⟨a,ha⟩:∃ a,K.left[k]? = some a:=⟨_,List.getElem?_eq_getElem hkn⟩
   obtain ⟨g,off,hg,hgB,hA⟩:=hL.at_ k a ha;rw [hg] at c5;obtain ⟨q0,q1,q2,q3,q4,q5,q6,q7⟩:=Yt hA;clear hA hL;have hgl:g < wr.heap.size:=by have:=hkp.out.size;omega
   have y0:decide (k < K.left.length)=true:=by simpa using hkn
   have y1:decide ((k:Int) < K.left.length)=true:=by simp;omega
   have y2:(k:Int) < K.left.length:=by omega
   have y3:(0:Int)≤k:=by omega
   have hw0:IntKind.i64.wrap ((k:Int) + 1)=((k + 1:Nat):Int):=by rw [IntKind.wrap_i64];omega
   replace ha:=Lib.hid ha;replace hg:=Lib.hid hg
   go_upto_region 4 with (fail)
   by_cases hth:a.thread=j
   ·have d1:decide (a.thread=j)=true:=by simpa using hth
    have d2:(a.thread == j)=true:=by simp [hth]
    have d3:((a.thread:Int) == (j:Int))=true:=by simp [hth]
    replace hth:=Lib.hid hth
    go_region
    have m0:wr.cell? ⟨rb,0,none⟩=some (.int .i64 0):=Blk.cell hrk.out 0;have n0:wr.frozen? ⟨rb,0,none⟩=false:=Blk.frozen hrk.out 0;have m1:wr.cell? ⟨rb,1,none⟩=some (.int .i8 0):=Blk.cell hrk.out 1;have n1:wr.frozen? ⟨rb,1,none⟩=false:=Blk.frozen hrk.out 1;have m2:wr.cell? ⟨rb,2,none⟩=some (.int .i64 0):=Blk.cell hrk.out 2;have n2:wr.frozen? ⟨rb,2,none⟩=false:=Blk.frozen hrk.out 2;have m3:wr.cell? ⟨rb,3,none⟩=some (.int .i64 0):=Blk.cell hrk.out 3;have n3:wr.frozen? ⟨rb,3,none⟩=false:=Blk.frozen hrk.out 3;have m4:wr.cell? ⟨rb,4,none⟩=some (.int .i64 0):=Blk.cell hrk.out 4;have n4:wr.frozen? ⟨rb,4,none⟩=false:=Blk.frozen hrk.out 4;have m5:wr.cell? ⟨rb,5,none⟩=some (.int .i64 0):=Blk.cell hrk.out 5;have n5:wr.frozen? ⟨rb,5,none⟩=false:=Blk.frozen hrk.out 5;have m6:wr.cell? ⟨rb,6,none⟩=some (.int .i64 0):=Blk.cell hrk.out 6;have n6:wr.frozen? ⟨rb,6,none⟩=false:=Blk.frozen hrk.out 6;have m7:wr.cell? ⟨rb,7,none⟩=some (.bool false):=Blk.cell hrk.out 7;have n7:wr.frozen? ⟨rb,7,none⟩=false:=Blk.frozen hrk.out 7;have hgr:g≠rb:=by have:=hrb.out;omega
    go_wp2_with fail
    have hf:(K.left.find? fun a=>a.thread == j)=some a:=by
     rw [List.find?_eq_some_iff_getElem];refine ⟨by simp [hth.out],k,hkn,(List.getElem?_eq_some_iff.1 ha.out).2,fun i hi=>?_⟩
     have:=hno.out i _ hi (List.getElem?_eq_getElem (by omega))
     simpa using this
    have hb9:=((((((((Blk.set_ (w:=wr) hrk.out 0 (.int .i64 a.thread)).set_ 1 (.int .i8 a.op)).set_ 2 (.int .i64 a.cell)).set_ 3 (.int .i64 a.arg)).set_ 4 (.int .i64 a.new)).set_ 5 (.int .i64 a.was)).set_ 6 (.int .i64 a.now)).set_ 7 (.bool a.ok))
    simp only [ZJ] at hb9;replace hb9:=Blk.drew_ hb9;have hk9:Kept (fun _=>False) w (((((((((wr.setCell ⟨rb,0,none⟩ (.int .i64 a.thread)).setCell ⟨rb,1,none⟩ (.int .i8 a.op)).setCell ⟨rb,2,none⟩ (.int .i64 a.cell)).setCell ⟨rb,3,none⟩ (.int .i64 a.arg)).setCell ⟨rb,4,none⟩ (.int .i64 a.new)).setCell ⟨rb,5,none⟩ (.int .i64 a.was)).setCell ⟨rb,6,none⟩ (.int .i64 a.now)).setCell ⟨rb,7,none⟩ (.bool a.ok)).drew):=by
     refine Kept.shrink (T:=fun q=>q=rb) ?_ (fun q hq h=>absurd h (by have:=hrb.out;omega));exact (((((((((hkp.out.mono (T:=fun q=>q=rb) (fun q h=>h.elim)).set (p:=⟨rb,0,none⟩) rfl _).set (p:=⟨rb,1,none⟩) rfl _).set (p:=⟨rb,2,none⟩) rfl _).set (p:=⟨rb,3,none⟩) rfl _).set (p:=⟨rb,4,none⟩) rfl _).set (p:=⟨rb,5,none⟩) rfl _).set (p:=⟨rb,6,none⟩) rfl _).set (p:=⟨rb,7,none⟩) rfl _).drew
    generalize (((((((((wr.setCell ⟨rb,0,none⟩ (.int .i64 a.thread)).setCell ⟨rb,1,none⟩ (.int .i8 a.op)).setCell ⟨rb,2,none⟩ (.int .i64 a.cell)).setCell ⟨rb,3,none⟩ (.int .i64 a.arg)).setCell ⟨rb,4,none⟩ (.int .i64 a.new)).setCell ⟨rb,5,none⟩ (.int .i64 a.was)).setCell ⟨rb,6,none⟩ (.int .i64 a.now)).setCell ⟨rb,7,none⟩ (.bool a.ok)).drew)=w9 at hb9 hk9 ⊢;exact Xeo (by rfl) (by rfl) (by rfl) hb9 (by rfl) (hf) rfl hk9
   ·have d1:decide (a.thread=j)=false:=by simpa using hth
    have d2:(a.thread == j)=false:=by simpa using hth
    have d3:((a.thread:Int) == (j:Int))=false:=by simp;omega
    replace hth:=Lib.hid hth
    go_region
    go_wp2_with fail
    exact ⟨⟨k + 1,by omega,by first|rfl|simp,hkp.out.drew,hrk.out,fun i b h1 h3=>by
     by_cases e:i=k
     ·subst e;rw [ha.out] at h3;rw [← Option.some.inj h3];exact hth.out
     ·exact hno.out i b (by omega) h3⟩,by simp [intOf];omega⟩
  ·obtain rfl:k=K.left.length:=by omega
   have y0:decide (K.left.length < K.left.length)=false:=by simp
   have y1:decide ((K.left.length:Int) < K.left.length)=false:=by simp
   clear hL;have m0:wr.cell? ⟨rb,0,none⟩=some (.int .i64 0):=Blk.cell hrk.out 0;have n0:wr.frozen? ⟨rb,0,none⟩=false:=Blk.frozen hrk.out 0;have m1:wr.cell? ⟨rb,1,none⟩=some (.int .i8 0):=Blk.cell hrk.out 1;have n1:wr.frozen? ⟨rb,1,none⟩=false:=Blk.frozen hrk.out 1;have m2:wr.cell? ⟨rb,2,none⟩=some (.int .i64 0):=Blk.cell hrk.out 2;have n2:wr.frozen? ⟨rb,2,none⟩=false:=Blk.frozen hrk.out 2;have m3:wr.cell? ⟨rb,3,none⟩=some (.int .i64 0):=Blk.cell hrk.out 3;have n3:wr.frozen? ⟨rb,3,none⟩=false:=Blk.frozen hrk.out 3;have m4:wr.cell? ⟨rb,4,none⟩=some (.int .i64 0):=Blk.cell hrk.out 4;have n4:wr.frozen? ⟨rb,4,none⟩=false:=Blk.frozen hrk.out 4;have m5:wr.cell? ⟨rb,5,none⟩=some (.int .i64 0):=Blk.cell hrk.out 5;have n5:wr.frozen? ⟨rb,5,none⟩=false:=Blk.frozen hrk.out 5;have m6:wr.cell? ⟨rb,6,none⟩=some (.int .i64 0):=Blk.cell hrk.out 6;have n6:wr.frozen? ⟨rb,6,none⟩=false:=Blk.frozen hrk.out 6;have m7:wr.cell? ⟨rb,7,none⟩=some (.bool false):=Blk.cell hrk.out 7;have n7:wr.frozen? ⟨rb,7,none⟩=false:=Blk.frozen hrk.out 7
   go_wp2_with fail
   have hf:(K.left.find? fun a=>a.thread == j)=none:=by
    rw [List.find?_eq_none];intro b hm;obtain ⟨x,hx⟩:=List.getElem?_of_mem hm;simpa using hno.out x b (List.getElem?_eq_some_iff.1 hx).1 hx
   have hb9:=((((((((Blk.set_ (w:=wr) hrk.out 0 (.int .i64 0)).set_ 1 (.int .i8 0)).set_ 2 (.int .i64 0)).set_ 3 (.int .i64 0)).set_ 4 (.int .i64 0)).set_ 5 (.int .i64 0)).set_ 6 (.int .i64 0)).set_ 7 (.bool false))
   simp only [ZJ] at hb9;have hk9:Kept (fun _=>False) w ((((((((wr.setCell ⟨rb,0,none⟩ (.int .i64 0)).setCell ⟨rb,1,none⟩ (.int .i8 0)).setCell ⟨rb,2,none⟩ (.int .i64 0)).setCell ⟨rb,3,none⟩ (.int .i64 0)).setCell ⟨rb,4,none⟩ (.int .i64 0)).setCell ⟨rb,5,none⟩ (.int .i64 0)).setCell ⟨rb,6,none⟩ (.int .i64 0)).setCell ⟨rb,7,none⟩ (.bool false)):=by
    refine Kept.shrink (T:=fun q=>q=rb) ?_ (fun q hq h=>absurd h (by have:=hrb.out;omega));exact ((((((((hkp.out.mono (T:=fun q=>q=rb) (fun q h=>h.elim)).set (p:=⟨rb,0,none⟩) rfl _).set (p:=⟨rb,1,none⟩) rfl _).set (p:=⟨rb,2,none⟩) rfl _).set (p:=⟨rb,3,none⟩) rfl _).set (p:=⟨rb,4,none⟩) rfl _).set (p:=⟨rb,5,none⟩) rfl _).set (p:=⟨rb,6,none⟩) rfl _).set (p:=⟨rb,7,none⟩) rfl _
   generalize ((((((((wr.setCell ⟨rb,0,none⟩ (.int .i64 0)).setCell ⟨rb,1,none⟩ (.int .i8 0)).setCell ⟨rb,2,none⟩ (.int .i64 0)).setCell ⟨rb,3,none⟩ (.int .i64 0)).setCell ⟨rb,4,none⟩ (.int .i64 0)).setCell ⟨rb,5,none⟩ (.int .i64 0)).setCell ⟨rb,6,none⟩ (.int .i64 0)).setCell ⟨rb,7,none⟩ (.bool false))=w9 at hb9 hk9 ⊢;exact Xeo (by rfl) (by rfl) (by rfl) hb9 (by rfl) (hf) rfl hk9
def Ul (gv gv':List Bool):Prop:=∀ i,gv.getD i false=true→gv'.getD i false=true
theorem Ul.refl (gv:List Bool):Ul gv gv:=fun _ h=>h
theorem Ul.trans {a b c:List Bool} (h:Ul a b) (k:Ul b c):Ul a c:=fun i hi=>k i (h i hi)
theorem Ul.set (gv:List Bool) (m:Nat):Ul gv (gv.set m true):=fun i hi=>by
 rw [List.getD_eq_getElem?_getD] at hi ⊢;rw [List.getElem?_set]
 split
 ·rename_i e
  subst e
  split
  ·rfl
  ·rename_i h;rw [List.getElem?_eq_none (by omega)] at hi;cases hi
 ·exact hi
def UX {α:Type} (K:Wk) (gv:List Bool) (xb j at':Nat) (k:Told→Xm α) (l:List (Xm α)) (T:List α) (w:World) (e:Ending) (w':World):Prop :=
 ∃ gv',WAt K gv' w'∧Ul gv gv'∧Kept (fun q=>K.turns q∨q=xb) w w' ∧
  ((∃ q a,at'≤q∧K.L[q]? = some a∧a.thread=j∧(∀ x b,at'≤x→x < q→K.L[x]? = some b→b.thread≠j)∧gv'.getD a.cell.toNat false=true∧e=.returned (.agg (Yj a).toArray)∧Blk w' xb 55 (XD K.wb j false (q + 1))∧ZV K.L K.left K.names K.cells j (q + 1) (k ⟨a.was,a.now,a.ok⟩) l T) ∨
   ((∀ q a,at'≤q→K.L[q]? = some a→a.thread≠j)∧(∃ a,K.left.find? (fun a=>a.thread == j)=some a)∧e=.returned XfI∧Blk w' xb 55 (XD K.wb j true K.L.length)∧T = []))
theorem XaB {Post:Ending→World→Prop} {w:World} {act:Act} {g:Nat} {cs:Array Value} (h2:act.tmps.getD 10 undef=.pointer (some ⟨g,0,none⟩)) (hd:act.defers = [])
 (hb:Blk w g 172 cs) (h8:cs.size=8) (h:Post (.returned (.agg cs)) w) :
 bodyPost Try.prog Try.f137 Post .ret act w :=
 bodyPost_ret (results_cell_row (p:=10) rfl act.tmps w g 172 cs (0,0) _ h2 hb Try.underlying172 rfl (by rw [h8];exact VR)) hd h
theorem XcS {l:List Nat} {c:Nat} (h:c∈l):l[l.idxOf c]? = some c:=by
 have hlt:=List.idxOf_lt_length_of_mem h;rw [List.getElem?_eq_getElem hlt,List.getElem_idxOf hlt]
theorem WAt.away {K:Wk} {gv:List Bool} {w:World} (h:WAt K gv w) {b:Nat} {t:TypeId} {cs:Array Value} (hb:Blk w b t cs) (ht:t≠61∧t≠51∧t≠4∧t≠2) (hB:K.B≤b) :
 ¬ (b < K.B∨b=K.wb∨some b=K.vN.ownBlock∨some b=K.vG.ownBlock∨some b=K.v1.ownBlock∨some b=K.vH.ownBlock∨some b=K.vS.ownBlock):=by
 rintro (e|e|e|e|e|e|e)
 ·omega
 ·exact Blk.ne_ hb h.blk ht.1 e
 ·obtain ⟨_,a⟩:=Zq h.nms e.symm;exact Blk.ne_ hb a ht.2.1 rfl
 ·obtain ⟨_,a⟩:=Zq h.gvn e.symm;exact Blk.ne_ hb a ht.2.2.1 rfl
 ·obtain ⟨_,a⟩:=Zq h.fst e.symm;exact Blk.ne_ hb a ht.2.2.2 rfl
 ·obtain ⟨_,a⟩:=Zq h.hav e.symm;exact Blk.ne_ hb a ht.2.1 rfl
 ·obtain ⟨_,a⟩:=Zq h.hol e.symm;exact Blk.ne_ hb a ht.2.2.2 rfl
theorem WAt.turn_lt {K:Wk} {gv:List Bool} {w:World} (h:WAt K gv w) {q:Nat} (hq:K.turns q):q < w.heap.size:=by
 rcases hq with e|e
 ·exact own_lt h.nms e.symm
 ·exact own_lt h.gvn e.symm
theorem Xdb {α:Type} {K:Wk} {nc:Nat} (hK:K.OK nc) {gv:List Bool} {w:World} {xb j at':Nat} (hW:WAt K gv w) (hB:K.B≤w.heap.size) (hxB:K.B≤xb) (hx:Blk w xb 55 (XD K.wb j false at')) (hat:at'≤K.L.length)
 {r:Ask} {k:Told→Xm α} {l:List (Xm α)} {T:List α} {q:Nat} {a:Xo} (h1:at'≤q) (h2:K.L[q]? = some a) (h3:a.thread=j) (h4:∀ x b,at'≤x→x < q→K.L[x]? = some b→b.thread≠j) (h5:a.op=r.op∧a.arg=r.arg∧a.new=r.new) (h6:r.cell∈K.names∧a.cell=(K.names.idxOf r.cell:Nat)) (h7:ZV K.L K.left K.names K.cells j (q + 1) (k ⟨a.was,a.now,a.ok⟩) l T) :
 Calls Try.prog 137 #[.pointer (some ⟨xb,0,none⟩),.int .i8 r.op,nmV (K.nm r.cell),.int .i64 r.arg,.int .i64 r.new] w (UX K gv xb j at' k l T w):=by
 obtain ⟨e1,e2,e3⟩:=h5;rw [← e1,← e2,← e3];obtain ⟨m,hm⟩:∃ m,K.names.idxOf r.cell=m:=⟨_,rfl⟩
 have hmc:K.names[m]? = some r.cell:=by rw [← hm];exact XcS h6.1
 have hcell:a.cell=m:=by rw [h6.2,hm]
 have hml:m < K.names.length:=(List.getElem?_eq_some_iff.1 hmc).1;obtain ⟨n1,n2,hnm⟩:∃ n1 n2,K.nm r.cell=(n1,n2):=⟨_,_,rfl⟩
 have hstep:=Vf h1 h2 h3 h4;have hEnd:∀ w' gv',WAt K gv' w'→Ul gv gv'→Kept (fun q=>K.turns q∨q=xb) w w'→gv'.getD m false=true→Blk w' xb 55 (XD K.wb j false (q + 1))→UX K gv xb j at' k l T w (.returned (.agg #[.int .i64 a.thread,.int .i8 a.op,.int .i64 a.cell,.int .i64 a.arg,.int .i64 a.new,.int .i64 a.was,.int .i64 a.now,.bool a.ok])) w':=fun w' gv' q1 q2 q3 q4 q5 =>
  ⟨gv',q1,q2,q3,.inl ⟨q,a,h1,h2,h3,h4,by rw [hcell,Int.toNat_natCast];exact q4,rfl,q5,h7⟩⟩
 have hxl:=Blk.lt hx;have hxa:=hW.away hx (by decide) hxB;have HW:=Lib.hid hW;have HX:=Lib.hid hx;have HK:=Lib.hid hK;replace hmc:=Lib.hid hmc;replace hEnd:=Lib.hid hEnd;replace hstep:=Lib.hid hstep;rw [hnm];replace hnm:=Lib.hid hnm;clear hW hx hK h4 h7 h6 e1 e2 e3 hm h2 h3;unfold nmV
 go_enter Try.func137,Try.ntmps137
 go_upto_region 1 with (fail)
 have hp1:Blk ((w.alloc (.cells #[.int .i64 n1,.int .i64 n2] 51)).alloc (.cells #[.int .i64 0,.int .i8 0,.int .i64 0,.int .i64 0,.int .i64 0,.int .i64 0,.int .i64 0,.bool false] 172)) w.heap.size 51 #[.int .i64 n1,.int .i64 n2]:=(Blk.new w _ _).alloc _;have hr1:Blk ((w.alloc (.cells #[.int .i64 n1,.int .i64 n2] 51)).alloc (.cells #[.int .i64 0,.int .i8 0,.int .i64 0,.int .i64 0,.int .i64 0,.int .i64 0,.int .i64 0,.bool false] 172)) (w.heap.size + 1) 172 #[.int .i64 0,.int .i8 0,.int .i64 0,.int .i64 0,.int .i64 0,.int .i64 0,.int .i64 0,.bool false]:=Blk.new' _ _ _ _ (by simp);have hk1:=((Kept.refl (fun _=>False) w).alloc (.cells #[.int .i64 n1,.int .i64 n2] 51)).alloc (.cells #[.int .i64 0,.int .i8 0,.int .i64 0,.int .i64 0,.int .i64 0,.int .i64 0,.int .i64 0,.bool false] 172);have hs1:((w.alloc (.cells #[.int .i64 n1,.int .i64 n2] 51)).alloc (.cells #[.int .i64 0,.int .i8 0,.int .i64 0,.int .i64 0,.int .i64 0,.int .i64 0,.int .i64 0,.bool false] 172)).heap.size=w.heap.size + 2:=by simp
 generalize ((w.alloc (.cells #[.int .i64 n1,.int .i64 n2] 51)).alloc (.cells #[.int .i64 0,.int .i8 0,.int .i64 0,.int .i64 0,.int .i64 0,.int .i64 0,.int .i64 0,.bool false] 172))=w1 at hp1 hr1 hk1 hs1 ⊢;generalize hpb:w.heap.size=pb at hp1 hr1 hs1 hxl hB ⊢;generalize hrb:pb + 1=rb at hr1 ⊢;have hW1:=HW.out.kept (by omega) hk1 (fun _ h=>h.elim);have hx1:=hk1.blk HX.out id;have hB1:K.B≤w1.heap.size:=by omega
 have hnx:=Qr hW1 hB1 hxB hx1 hat;have x2:w1.cell? ⟨xb,2,none⟩=some (.bool false):=Blk.cell hx1 2;have hxl1:xb < w1.heap.size:=by omega
 have hrx:rb≠xb:=by omega
 have hpx:pb≠xb:=by omega
 replace hnx:=Lib.hid hnx;replace hW1:=Lib.hid hW1;replace hk1:=Lib.hid hk1;replace hp1:=Lib.hid hp1;replace hr1:=Lib.hid hr1;replace hpb:=Lib.hid hpb;replace hrb:=Lib.hid hrb;clear hx1
 go_upto_region 4 with (go_at_call 95;go_must (refine hnx.out.mono ?_);rintro e w2 ⟨o,ho,he,hx2,hk2⟩;rw [hstep.out] at ho;subst ho;obtain rfl:e=.returned (.tuple #[.agg #[.int .i64 a.thread,.int .i8 a.op,.int .i64 a.cell,.int .i64 a.arg,.int .i64 a.new,.int .i64 a.was,.int .i64 a.now,.bool a.ok],.bool true]):=he)
 replace hx2:Blk w2 xb 55 (XD K.wb j false (q + 1)):=hx2;have hW2:=hW1.out.kept hB1 hk2 (fun z e=>by rw [e];exact hxa);have hp2:=hk2.blk hp1.out hpx;have hr2:=hk2.blk hr1.out hrx;have hb3:Blk (w2.alloc (.cells #[.int .i64 a.thread,.int .i8 a.op,.int .i64 m,.int .i64 a.arg,.int .i64 a.new,.int .i64 a.was,.int .i64 a.now,.bool a.ok] 172)) w2.heap.size 172 #[.int .i64 a.thread,.int .i8 a.op,.int .i64 m,.int .i64 a.arg,.int .i64 a.new,.int .i64 a.was,.int .i64 a.now,.bool a.ok]:=Blk.new w2 _ _;have hx3:=Blk.alloc hx2 (.cells #[.int .i64 a.thread,.int .i8 a.op,.int .i64 m,.int .i64 a.arg,.int .i64 a.new,.int .i64 a.was,.int .i64 a.now,.bool a.ok] 172);have hp3:=Blk.alloc hp2 (.cells #[.int .i64 a.thread,.int .i8 a.op,.int .i64 m,.int .i64 a.arg,.int .i64 a.new,.int .i64 a.was,.int .i64 a.now,.bool a.ok] 172);have hr3:=Blk.alloc hr2 (.cells #[.int .i64 a.thread,.int .i8 a.op,.int .i64 m,.int .i64 a.arg,.int .i64 a.new,.int .i64 a.was,.int .i64 a.now,.bool a.ok] 172);have hk3:Kept (fun q=>q=xb) w (w2.alloc (.cells #[.int .i64 a.thread,.int .i8 a.op,.int .i64 m,.int .i64 a.arg,.int .i64 a.new,.int .i64 a.was,.int .i64 a.now,.bool a.ok] 172)):=((hk1.out.mono fun _ h=>h.elim).trans hk2).alloc _;have hk23:Kept (fun _=>False) w2 (w2.alloc (.cells #[.int .i64 a.thread,.int .i8 a.op,.int .i64 m,.int .i64 a.arg,.int .i64 a.new,.int .i64 a.was,.int .i64 a.now,.bool a.ok] 172)):=(Kept.refl _ w2).alloc _;have hs2:=hk2.size;have hW3:=hW2.kept (by omega) hk23 (fun _ h=>h.elim);have hpl:=Blk.lt hp2;have hrl:=Blk.lt hr2;have hxl2:=Blk.lt hx2;generalize (w2.alloc (.cells #[.int .i64 a.thread,.int .i8 a.op,.int .i64 m,.int .i64 a.arg,.int .i64 a.new,.int .i64 a.was,.int .i64 a.now,.bool a.ok] 172))=w3 at hb3 hx3 hp3 hr3 hk3 hk23 hW3 ⊢;generalize hab:w2.heap.size=ab at hb3 hpl hrl hxl2 ⊢;have hs3:ab≤w3.heap.size:=by have:=hk23.size;omega
 clear hx2 hp2 hr2 hk23 hW2 hk2 hs2;have tl:∀ b,K.turns b→b < pb:=fun b hb=>by have:=HW.out.turn_lt hb;have:=hpb.out;omega
 have na:¬ K.turns ab:=fun h=>by have:=tl ab h;omega
 have np:¬ K.turns pb:=fun h=>by have:=tl pb h;omega
 have nr:¬ K.turns rb:=fun h=>by have:=tl rb h;have:=hrb.out;omega
 have nx:¬ K.turns xb:=fun h=>hxa (h.elim (fun e=>.inr (.inr (.inl e))) fun e=>.inr (.inr (.inr (.inl e))));have hIs:∀ z,Kept (fun _=>False) w3 z→Calls Try.prog 156 #[.pointer (some ⟨K.wb,0,none⟩),.int .i64 m,.agg #[.int .i64 n1,.int .i64 n2]] z (fun e w'=>e=.returned (.bool true)∧WAt K (gv.set m true) w'∧Kept K.turns w3 w'):=fun z hz=>by
  have:=Xev HK.out (hW3.kept (by omega) hz (fun _ h=>h.elim)) (by have:=hz.size;omega) hmc.out
  rw [hnm.out] at this;refine this.mono ?_;rintro e w' ⟨a1,a2,a3⟩;exact ⟨a1,a2,(hz.mono fun _ h=>h.elim).trans a3⟩
 have c0:w3.cell? ⟨xb,0,none⟩=some (.pointer (some ⟨K.wb,0,none⟩)):=Blk.cell hx3 0;have p0:w3.cell? ⟨pb,0,none⟩=some (.int .i64 n1):=Blk.cell hp3 0;have p1:w3.cell? ⟨pb,1,none⟩=some (.int .i64 n2):=Blk.cell hp3 1;have s0:w3.cell? ⟨ab,0,none⟩=some (.int .i64 a.thread):=Blk.cell hb3 0;have s1:w3.cell? ⟨ab,1,none⟩=some (.int .i8 a.op):=Blk.cell hb3 1;have s2:w3.cell? ⟨ab,2,none⟩=some (.int .i64 m):=Blk.cell hb3 2;have s3:w3.cell? ⟨ab,3,none⟩=some (.int .i64 a.arg):=Blk.cell hb3 3;have s4:w3.cell? ⟨ab,4,none⟩=some (.int .i64 a.new):=Blk.cell hb3 4;have s5:w3.cell? ⟨ab,5,none⟩=some (.int .i64 a.was):=Blk.cell hb3 5;have s6:w3.cell? ⟨ab,6,none⟩=some (.int .i64 a.now):=Blk.cell hb3 6;have s7:w3.cell? ⟨ab,7,none⟩=some (.bool a.ok):=Blk.cell hb3 7;have hxl3:=Blk.lt hx3;have hpl3:=Blk.lt hp3;have hbl3:=Blk.lt hb3;replace hIs:=Lib.hid hIs;replace hx3:=Lib.hid hx3;replace hr3:=Lib.hid hr3;replace hb3:=Lib.hid hb3;replace hk3:=Lib.hid hk3;replace tl:=Lib.hid tl;replace na:=Lib.hid na;replace np:=Lib.hid np;replace nr:=Lib.hid nr;replace nx:=Lib.hid nx;replace hxa:=Lib.hid hxa;clear hW3 hp3
 go_upto_region 5 with (fail)
 go_region_held3 (fun w'=>w'.cell? ⟨ab,1,none⟩=some (.int .i8 a.op)∧w'.cell? ⟨ab,3,none⟩=some (.int .i64 a.arg)∧w'.cell? ⟨ab,4,none⟩=some (.int .i64 a.new)∧w'.cell? ⟨ab,2,none⟩=some (.int .i64 m)∧w'.cell? ⟨xb,0,none⟩=some (.pointer (some ⟨K.wb,0,none⟩))∧w'.cell? ⟨pb,0,none⟩=some (.int .i64 n1)∧w'.cell? ⟨pb,1,none⟩=some (.int .i64 n2))
  (first|exact ⟨s1,s3,s4,s2,c0,p0,p1⟩|exact ⟨j1,j2,j3,j4,j5,j6,j7⟩|go_keep)
  ((go_at_call 156;go_must (refine (hIs.out _ ((Kept.refl _ w3).drew)).mono ?_);rintro e4 w4 ⟨he4,hW4,hk4⟩;obtain rfl:e4=_:=he4;have j1:=(hk4.cell (p:=⟨ab,1,none⟩) hbl3 na.out).trans s1;have j2:=(hk4.cell (p:=⟨ab,3,none⟩) hbl3 na.out).trans s3;have j3:=(hk4.cell (p:=⟨ab,4,none⟩) hbl3 na.out).trans s4;have j4:=(hk4.cell (p:=⟨ab,2,none⟩) hbl3 na.out).trans s2;have j5:=(hk4.cell (p:=⟨xb,0,none⟩) hxl3 nx.out).trans c0;have j6:=(hk4.cell (p:=⟨pb,0,none⟩) hpl3 np.out).trans p0;have j7:=(hk4.cell (p:=⟨pb,1,none⟩) hpl3 np.out).trans p1))
 have hb4:=hk4.blk hb3.out na.out;have hr4:=hk4.blk hr3.out nr.out;have hx4:=hk4.blk hx3.out nx.out;have hk04:=(hk3.out.mono (fun q h=>(.inr h:K.turns q∨q=xb))).trans (hk4.mono fun q h=>.inl h);have hgv:(gv.set m true).getD m false=true:=by rw [List.getD_eq_getElem?_getD,List.getElem?_set_self (by rw [HW.out.len];exact hml)];rfl
 clear s0 s1 s2 s3 s4 s5 s6 s7 c0 p0 p1 j1 j2 j3 j4 j5 j6 j7 hbl3 hpl3 hxl3;have s0:w4.cell? ⟨ab,0,none⟩=some (.int .i64 a.thread):=Blk.cell hb4 0;have s1:w4.cell? ⟨ab,1,none⟩=some (.int .i8 a.op):=Blk.cell hb4 1;have s2:w4.cell? ⟨ab,2,none⟩=some (.int .i64 m):=Blk.cell hb4 2;have s3:w4.cell? ⟨ab,3,none⟩=some (.int .i64 a.arg):=Blk.cell hb4 3;have s4:w4.cell? ⟨ab,4,none⟩=some (.int .i64 a.new):=Blk.cell hb4 4;have s5:w4.cell? ⟨ab,5,none⟩=some (.int .i64 a.was):=Blk.cell hb4 5;have s6:w4.cell? ⟨ab,6,none⟩=some (.int .i64 a.now):=Blk.cell hb4 6;have s7:w4.cell? ⟨ab,7,none⟩=some (.bool a.ok):=Blk.cell hb4 7;have m0:w4.cell? ⟨rb,0,none⟩=some (.int .i64 0):=Blk.cell hr4 0;have n0:w4.frozen? ⟨rb,0,none⟩=false:=Blk.frozen hr4 0;have m1:w4.cell? ⟨rb,1,none⟩=some (.int .i8 0):=Blk.cell hr4 1;have n1:w4.frozen? ⟨rb,1,none⟩=false:=Blk.frozen hr4 1;have m2:w4.cell? ⟨rb,2,none⟩=some (.int .i64 0):=Blk.cell hr4 2;have n2:w4.frozen? ⟨rb,2,none⟩=false:=Blk.frozen hr4 2;have m3:w4.cell? ⟨rb,3,none⟩=some (.int .i64 0):=Blk.cell hr4 3;have n3:w4.frozen? ⟨rb,3,none⟩=false:=Blk.frozen hr4 3;have m4:w4.cell? ⟨rb,4,none⟩=some (.int .i64 0):=Blk.cell hr4 4;have n4:w4.frozen? ⟨rb,4,none⟩=false:=Blk.frozen hr4 4;have m5:w4.cell? ⟨rb,5,none⟩=some (.int .i64 0):=Blk.cell hr4 5;have n5:w4.frozen? ⟨rb,5,none⟩=false:=Blk.frozen hr4 5;have m6:w4.cell? ⟨rb,6,none⟩=some (.int .i64 0):=Blk.cell hr4 6;have n6:w4.frozen? ⟨rb,6,none⟩=false:=Blk.frozen hr4 6;have m7:w4.cell? ⟨rb,7,none⟩=some (.bool false):=Blk.cell hr4 7;have n7:w4.frozen? ⟨rb,7,none⟩=false:=Blk.frozen hr4 7;have hbl4:=Blk.lt hb4;have hrl4:=Blk.lt hr4;have hne:ab≠rb:=by omega
 have hne':rb≠ab:=by omega
 replace hb4:=Lib.hid hb4;replace hr4:=Lib.hid hr4;replace hx4:=Lib.hid hx4;replace hk04:=Lib.hid hk04;replace hW4:=Lib.hid hW4;replace hgv:=Lib.hid hgv;clear hk4
 go_wp2_with fail
 have hb9:=((((((((Blk.set_ (w:=w4) hr4.out 0 (.int .i64 a.thread)).set_ 1 (.int .i8 a.op)).set_ 2 (.int .i64 m)).set_ 3 (.int .i64 a.arg)).set_ 4 (.int .i64 a.new)).set_ 5 (.int .i64 a.was)).set_ 6 (.int .i64 a.now)).set_ 7 (.bool a.ok))
 simp only [ZJ] at hb9;have hx9:=(Blk.far (p:=⟨rb,7,none⟩) (Blk.far (p:=⟨rb,6,none⟩) (Blk.far (p:=⟨rb,5,none⟩) (Blk.far (p:=⟨rb,4,none⟩) (Blk.far (p:=⟨rb,3,none⟩) (Blk.far (p:=⟨rb,2,none⟩) (Blk.far (p:=⟨rb,1,none⟩) (Blk.far (p:=⟨rb,0,none⟩) hx4.out hrx.symm (.int .i64 a.thread)) hrx.symm (.int .i8 a.op)) hrx.symm (.int .i64 m)) hrx.symm (.int .i64 a.arg)) hrx.symm (.int .i64 a.new)) hrx.symm (.int .i64 a.was)) hrx.symm (.int .i64 a.now)) hrx.symm (.bool a.ok))
 have hW9:WAt K (gv.set m true) ((((((((w4.setCell ⟨rb,0,none⟩ (.int .i64 a.thread)).setCell ⟨rb,1,none⟩ (.int .i8 a.op)).setCell ⟨rb,2,none⟩ (.int .i64 m)).setCell ⟨rb,3,none⟩ (.int .i64 a.arg)).setCell ⟨rb,4,none⟩ (.int .i64 a.new)).setCell ⟨rb,5,none⟩ (.int .i64 a.was)).setCell ⟨rb,6,none⟩ (.int .i64 a.now)).setCell ⟨rb,7,none⟩ (.bool a.ok)):=hW4.out.frame fun b hb=>by
  have e:b≠rb:=fun e=>by
   subst e;rcases hb with h|h|h|h|h|h|h
   ·have:=hrb.out;omega
   ·have:=Blk.lt HW.out.blk;have:=hpb.out;have:=hrb.out;omega
   ·exact nr.out (.inl h)
   ·exact nr.out (.inr h)
   ·have:=own_lt HW.out.fst h.symm;have:=hpb.out;have:=hrb.out;omega
   ·have:=own_lt HW.out.hav h.symm;have:=hpb.out;have:=hrb.out;omega
   ·have:=own_lt HW.out.hol h.symm;have:=hpb.out;have:=hrb.out;omega
  rw [Below.heap_setCell _ _ _ b e,Below.heap_setCell _ _ _ b e,Below.heap_setCell _ _ _ b e,Below.heap_setCell _ _ _ b e,Below.heap_setCell _ _ _ b e,Below.heap_setCell _ _ _ b e,Below.heap_setCell _ _ _ b e,Below.heap_setCell _ _ _ b e]
 have hk9:Kept (fun q=>K.turns q∨q=xb) w ((((((((w4.setCell ⟨rb,0,none⟩ (.int .i64 a.thread)).setCell ⟨rb,1,none⟩ (.int .i8 a.op)).setCell ⟨rb,2,none⟩ (.int .i64 m)).setCell ⟨rb,3,none⟩ (.int .i64 a.arg)).setCell ⟨rb,4,none⟩ (.int .i64 a.new)).setCell ⟨rb,5,none⟩ (.int .i64 a.was)).setCell ⟨rb,6,none⟩ (.int .i64 a.now)).setCell ⟨rb,7,none⟩ (.bool a.ok)):=by
  refine Kept.shrink (T:=fun q=>(K.turns q∨q=xb)∨q=rb) ?_ (fun q hq h=>h.resolve_right (by have:=hpb.out;have:=hrb.out;omega));exact ((((((((hk04.out.mono (fun q h=>.inl h)).set (p:=⟨rb,0,none⟩) (.inr rfl) _).set (p:=⟨rb,1,none⟩) (.inr rfl) _).set (p:=⟨rb,2,none⟩) (.inr rfl) _).set (p:=⟨rb,3,none⟩) (.inr rfl) _).set (p:=⟨rb,4,none⟩) (.inr rfl) _).set (p:=⟨rb,5,none⟩) (.inr rfl) _).set (p:=⟨rb,6,none⟩) (.inr rfl) _).set (p:=⟨rb,7,none⟩) (.inr rfl) _
 generalize ((((((((w4.setCell ⟨rb,0,none⟩ (.int .i64 a.thread)).setCell ⟨rb,1,none⟩ (.int .i8 a.op)).setCell ⟨rb,2,none⟩ (.int .i64 m)).setCell ⟨rb,3,none⟩ (.int .i64 a.arg)).setCell ⟨rb,4,none⟩ (.int .i64 a.new)).setCell ⟨rb,5,none⟩ (.int .i64 a.was)).setCell ⟨rb,6,none⟩ (.int .i64 a.now)).setCell ⟨rb,7,none⟩ (.bool a.ok))=w9 at hb9 hx9 hW9 hk9 ⊢;exact XaB (by rfl) (by rfl) hb9 (by rfl) (by have:=hEnd.out w9 _ hW9 (Ul.set _ _) hk9 hgv.out hx9;rw [hcell] at this;exact this)

/- The run of scripts begins: nobody has been told anything; what each thread's script reads. -/
import Derived.Test.YtdhnggjmegilkaaSRnX
import Derived.Test.YtdhnggjmegilkaaSCpL
import Derived.Test.YtdhnggjmegilkaaSWkE
import Derived.Test.YtdhnggjmegilkaaSPlD
set_option linter.unusedSimpArgs false
set_option linter.unusedVariables false
set_option maxRecDepth 100000
set_option maxHeartbeats 16000000
namespace Go.Proofs.Ytdhnggjmegilkaa
open Go.Conc Go.RowKit
set_option maxRecDepth 100000
def XdL (l:List Int):List Value:=l.map fun x=>.int .i64 x
theorem XfB:(Try.prog.info? 3).map (fun i=>(i.zero,i.size,i.bytes))=some (some (.int .i64 0),1,8):=by kernel_rfl
theorem Xc4 (b:Option Addr) (cap:Nat) (hcap:b=none→cap=0) (L:List Int) (hl:L.length≤1000000) (w:World) (h:XS w b L):Calls Try.prog 19 #[.slice b L.length cap] w (fun e w'=>∃ v,e=.returned v∧w'.ownsRow w.heap.size 3 1 v L.length (XdL L)∧Xf w w'):=by
 obtain ⟨j0,hj0,hjz0,hjz1,hjz2⟩:=XI XfB
 have H:=HD h
 clear h
 cases b with
 | some ad =>
  have hc:∀ j u,(XdL L)[j]? = some u→w.cell? (ad.add j)=some u:=fun j u hu=>by
   unfold XdL at hu
   rw [List.getElem?_map] at hu
   cases hx:L[j]? with
   | none=>rw [hx] at hu;cases hu
   | some x =>
    rw [hx] at hu
    obtain ⟨g,off,e,hcell⟩:=H.out j x hx
    obtain rfl:ad=⟨g,off,none⟩:=OI e
    obtain rfl:Value.int .i64 x=u:=by simpa using hu
    rw [show (Addr.add ⟨g,off,none⟩ j)=⟨g,off + j,none⟩ by unfold Addr.add;split<;>simp_all]
    exact hcell
  have h1:∀ u∈XdL L,u.oneCell'=true:=fun u hu=>by
   obtain ⟨x,_,rfl⟩:=List.mem_map.1 hu
   rfl
  replace hc:=HD hc
  replace h1:=HD h1
  go_enter Try.func19,Try.ntmps19
  go_wp2_with (at_builtin;refine wpList_append_own _ rfl _ _ 24 rfl w.heap.size 3 j0 _ 1 8 Try.underlying24 hj0 hjz0 hjz1 hjz2 rfl (by decide) (.slice none 0 0) 0 [] rfl (World.ownsRow_nil _ _ _ _) ad L.length cap (XdL L) rfl (by simp [XdL]) hc.out h1.out (by unfold maxLen;omega) (by omega) (Nat.le_refl _) ?_;intro v1 w1 hh1 hh2 hh3;have HO:=HD hh1;have HG:=HD hh2;clear hh1 hh2 hh3)
  go_ret
  have h:=HO.out
  rw [Nat.zero_add,List.nil_append] at h
  exact ⟨_,rfl,h,HG.out.size,fun q hq=>HG.out.block q hq (by simp [Value.ownBlock])⟩
 | none =>
  have hL:L = []:=by
   cases L with
   | nil=>rfl
   | cons a L =>
    obtain ⟨g,off,e,_⟩:=H.out 0 a rfl
    cases e
  subst hL
  obtain rfl:=hcap rfl
  go_enter Try.func19,Try.ntmps19
  go_wp2_with fail
  go_ret
  exact ⟨_,rfl,World.ownsRow_nil _ _ _ _,Xf.refl _⟩
section
variable {Post:Value→World→Prop} {C:Ctx} {x:World} {c:Frame} {cs:List Frame}
theorem Xe5 {b:Option Addr} {cap:Nat} (hcap:b=none→cap=0) {L:List Int} (hl:L.length≤1000000) (hN:XS x b L) (h:∀ v y,Xf x y→y.ownsRow x.heap.size 3 1 v L.length (XdL L)→JG Try.prog Post C (G (c.finish v) cs) y) :
 JG Try.prog Post C (G (Frame.enter Try.prog 19 #[.slice b L.length cap] .normal) (c::cs)) x:=by
 refine JG.calls (F:=FX Vp) (Q:=fun u y=>y.ownsRow x.heap.size 3 1 u L.length (XdL L)∧Xf x y) (Zd _) (by kernel_rfl) (fun τ=>?_) (fun u y hq=>h u y hq.2 hq.1)
 refine (Xc4 b cap hcap L hl (under x τ 0) hN).mono ?_
 rintro e y ⟨v,rfl,h1,h2⟩
 exact ⟨_,rfl,h1,h2⟩
noncomputable def Xfv:List FuncId:=[13]
theorem XdZ (S:YK):Closed Try.prog S (FX Xfv):=Uy S (by kernel_rfl)
theorem XdJ {aC aS aP:Option Addr} {nC nS nP cC cS cP:Nat} {lens:Nat→Nat} (hL:Xen x aS nS lens) (hl:∀ i,i < nS→lens i≤1125899906842624) (hS:nS≤1125899906842624) (h:∀ b y,Xf x y→(b=false→nS≤8∧nP≤2000∧0 < nC∧nC≤40∧Xbb lens nS≤500)→JG Try.prog Post C (G (c.finish (.bool b)) cs) y) :
 JG Try.prog Post C (G (Frame.enter Try.prog 13 #[Xci (.slice aC nC cC) (.slice aS nS cS) (.slice aP nP cP)] .normal) (c::cs)) x:=by
 refine JG.calls (F:=FX Xfv) (Q:=fun u y=>∃ b,u=.bool b∧Xf x y∧(b=false→nS≤8∧nP≤2000∧0 < nC∧nC≤40∧Xbb lens nS≤500)) (XdZ _) (by kernel_rfl) (fun τ=>?_) (fun u y hq=>?_)
 ·refine (Xbr (w:=under x τ 0) hL hl hS).mono ?_
  rintro e y ⟨b,rfl,h1,h2⟩
  exact ⟨_,rfl,b,rfl,⟨h1.size,fun r hr=>h1.block r hr id⟩,h2⟩
 ·obtain ⟨b,rfl,h1,h2⟩:=hq
  exact h b y h1 h2
end
end Go.Proofs.Ytdhnggjmegilkaa
namespace Go.Proofs.Ytdhnggjmegilkaa
open Go.RowKit
set_option maxRecDepth 100000
def XfL (m:Nat) (w:World) (i:Value) (wr:World):Prop:=∃ k nd:Nat,1≤k∧(k≤m∨k=1)∧i=.int .i64 k∧wr=w.drewN nd
theorem Xcc {e:Int} {n nW nR:Nat} {aW aR al:Option Addr} {vL vP vT vC:Value} {cW cR cl cb B:Nat} {most last:Int} {left:List Xn} {w:World}
 (hb:Blk w cb 190 (ckA e n vL (.slice aW nW cW) (.slice aR nR cR) (.slice al left.length cl) (.slice none 0 0) vP most vT vC last)) (hl:XT w B al left) (hW:nW=n) (hR:nR=n) (hm:(n:Int)≤most) (hrise:∀ (i:Nat) (a b:Xn),left[i]? = some a→left[i + 1]? = some b→a.thread < b.thread) :
 Calls Try.prog 87 #[.pointer (some ⟨cb,0,none⟩)] w (fun e w'=>e=.returned (.bool true)∧∃ nd,w'=w.drewN nd):=by
 subst hW
 subst hR
 have c1:w.cell? ⟨cb,1,none⟩=some (.int .i64 nR):=Blk.cell hb 1
 have c3:w.cell? ⟨cb,3,none⟩=some (.slice aW nR cW):=Blk.cell hb 3
 have c4:w.cell? ⟨cb,4,none⟩=some (.slice aR nR cR):=Blk.cell hb 4
 have c5:w.cell? ⟨cb,5,none⟩=some (.slice al left.length cl):=Blk.cell hb 5
 have c6:w.cell? ⟨cb,6,none⟩=some (.slice none 0 0):=Blk.cell hb 6
 have c8:w.cell? ⟨cb,8,none⟩=some (.int .i64 most):=Blk.cell hb 8
 have hcb:=Blk.lt hb
 have d1:decide (most < (nR:Int))=false:=by simp;omega
 have HL:=HD hl
 have HR:=HD hrise
 clear hb hl hrise hm
 go_enter Try.func87,Try.ntmps87
 go_upto_region 1 with (fail)
 refine wp_region_quiet_lit (by kernel_rfl) (by kernel_rfl) ?_
 refine Xx 12 _ _ (fun K hK=>?_)
 simp only [List.take_succ_cons,List.take_zero]
 iterate 12 go_big_quiet_step (fail)
 refine wpQuiet_nil ?_
 refine hK _ ?_
 clear hK K
 simp only [List.drop_succ_cons,List.drop_zero]
 refine Xx 12 _ _ (fun K hK=>?_)
 simp only [List.take_succ_cons,List.take_zero]
 iterate 12 go_big_quiet_step (fail)
 refine wpQuiet_nil ?_
 refine hK _ ?_
 clear hK K
 simp only [List.drop_succ_cons,List.drop_zero]
 iterate 14 go_big_quiet_step (fail)
 refine wpQuiet_nil ?_
 rintro _ ⟨nd0,rfl⟩
 go_upto_region 4 with (fail)
 go_loopw [3] (fun i wr=>XfL left.length w i wr) (fun i _=>left.length - (intOf i).toNat)
 case atStart=>exact ⟨1,nd0,Nat.le_refl _,.inr rfl,rfl,rfl⟩
 case round =>
  obtain ⟨k,nd,hk1,hk,rfl,rfl⟩:=hrel
  by_cases hkn:k < left.length
  ·obtain ⟨b,hb⟩:∃ b,left[k]? = some b:=⟨_,List.getElem?_eq_getElem hkn⟩
   obtain ⟨a,ha⟩:∃ a,left[k - 1]? = some a:=⟨_,List.getElem?_eq_getElem (by omega)⟩
   have hlt:=HR.out (k - 1) a b ha (by rw [Nat.sub_add_cancel hk1];exact hb)
   obtain ⟨g,off,rfl,_,hA⟩:=HL.out.at_ k b hb
   obtain ⟨g2,off2,e2,_,hA2⟩:=HL.out.at_ (k - 1) a ha
   injection e2 with e2
   injection e2 with e3 e4
   subst e3 e4
   obtain ⟨q0,_⟩:=Yn hA
   obtain ⟨r0,_⟩:=Yn hA2
   clear hA hA2
   obtain ⟨j,rfl⟩:∃ j,k=j + 1:=⟨k - 1,by omega⟩
   simp only [Nat.add_sub_cancel] at r0 ha
   have x0:decide (j + 1 < left.length)=true:=by simpa using hkn
   have x1:decide (((j + 1:Nat):Int) < left.length)=true:=by simp;omega
   have x2:((j + 1:Nat):Int) < left.length:=by omega
   have x3:(0:Int)≤((j + 1:Nat):Int):=by omega
   have x4:(j:Int) < left.length:=by omega
   have x5:(0:Int)≤j:=by omega
   have hw1:IntKind.i64.wrap (((j + 1:Nat):Int) - 1)=(j:Int):=by rw [IntKind.wrap_i64];have:=HL.out.small;omega
   have hw2:IntKind.i64.wrap (((j + 1:Nat):Int) + 1)=((j + 2:Nat):Int):=by rw [IntKind.wrap_i64];have:=HL.out.small;omega
   have t1:decide ((b.thread:Int)≤(a.thread:Int))=false:=by simp;omega
   have t2:decide (b.thread≤a.thread)=false:=by simp;omega
   clear ha hb hlt
   generalize hjj:j + 1=k at q0 x0 x1 x2 x3 hw1 hw2 hkn hk1 hk ⊢
   have hnd:=HD hjj
   clear hjj
   go_upto_region 6 with (fail)
   go_region
   all_goals (
    go_wp2_with fail
    exact ⟨⟨k + 1,_,by omega,.inl (by omega),by rw [← hnd.out];first|rfl|simp|(congr 1;omega),rfl⟩,by simp [intOf];have:=hnd.out;omega⟩)
  ·have x0:decide (k < left.length)=false:=by simpa using hkn
   have x1:decide ((k:Int) < left.length)=false:=by simp;omega
   have x2:decide ((1:Int) < 0)=false:=by decide
   clear hkn hk hk1
   go_upto_region 9 with (fail)
   go_loopw [4] (fun i wr=>XfL 1 w i wr) (fun i _=>0)
   case atStart=>exact ⟨1,nd,Nat.le_refl _,.inr rfl,rfl,rfl⟩
   case round =>
    obtain ⟨k2,nd2,hk1,hk,rfl,rfl⟩:=hrel
    obtain rfl:k2=1:=by omega
    go_wp2_with fail
    go_ret
    exact ⟨rfl,_,rfl⟩
end Go.Proofs.Ytdhnggjmegilkaa
namespace Go.Proofs.Ytdhnggjmegilkaa
open Go.Conc Go.RowKit
open Go.ConcN (upd upd_same upd_ne)
set_option maxRecDepth 100000
section
variable {Post:Value→World→Prop} {tb rb:Nat} {cb:Frame} {w0:World} {Kp:Nat→Prop} {gt n:Nat} {A:Nat→Nat} {nc j:Nat} {L:List Op4} {bp bi bt bl gS oS gl cS cT cl cC:Nat} {aC:Option Addr} {inj:∀ a b,a < nc→b < nc→A a=A b→a=b} {hgt:gt < w0.heap.size} {hA:∀ i,i < nc→A i < w0.heap.size∧gt≠A i}
theorem Xe3 {u5:Value} (H:Scr w0 Kp gt n A nc j L bp bi bt bl gS oS gl cS cT cl cC aC):∀ (q k:Nat),k + q=L.length→∀ (m:Nat) (C:Ctx) (x0 x:World) (col:Nat→Prop) (sh:Nat→List Int) (cells:Nat→Int) (u7 u8 u9 B0 B1 B2 B3 B4 B5 B6 B7 B8 B9 D0 D1 D2 D3 D4 D5 D6 D7 D8 D9 E0 E1 E2 E3 E4 E5 E6 E7 E8 E9:Value),BSt Post (Zp w0 Kp gt n A nc inj hgt hA) gt n j tb rb cb m k C x0 x col sh cells ((Yj j ((L.drop k).map (Op4.d nc))).pass sh) →
 JG Try.prog Post C (G ((base 15).at ⟨List.toArray (P0 tb::P0 bp::P0 bi::P0 bt::P0 bl::u5::.int .i64 k::u7::u8::u9::B0::B1::B2::B3::B4::B5::B6::B7::B8::B9::D0::D1::D2::D3::D4::D5::D6::D7::D8::D9::E0::E1::E2::E3::E4::E5::E6::E7::E8::E9::[]),[]⟩ [.code (Code.nav (Try.f15.body.getD .skip) [1,0,0]),.inLoop (Code.nav (Try.f15.body.getD .skip) [1,0,0]),.inBlock 0]) [cb,Y0 Try.prog]) x:=by
 intro q
 induction q with
 | zero =>
  intro k hkq m C x0 x col sh cells u7 u8 u9 B0 B1 B2 B3 B4 B5 B6 B7 B8 B9 D0 D1 D2 D3 D4 D5 D6 D7 D8 D9 E0 E1 E2 E3 E4 E5 E6 E7 E8 E9 hB
  have hkl:k=L.length:=by omega
  obtain ⟨hv,hs⟩:=H.sees hB.I.2
  have y1:=hs.c1
  have y2:=hs.c2
  have y5:=hs.c5
  have hj':(j:Int) < n:=by have:=H.jn;omega
  have hR:=hB.reach
  rw [List.drop_eq_nil_of_le (by omega)] at hR
  have hE:=Reach.end0 (v0:=()) hR hB.own.size hB.own.col hB.I (fun i a hia hka=>by
   obtain ⟨h3,rfl⟩:=hka
   exact hB.own.keep i hia h3)
  replace hE:=HD hE
  clear hR hB hs H
  simp only [Try.f15,Option.getD_some,Code.nav]
  have hx:decide ((k:Int) < L.length)=false:=by simp;omega
  have hxN:decide (k < L.length)=false:=by simp;omega
  repeat first|refine jc rfl ?_|(first|refine ju rfl rfl ?_|(refine jv rfl rfl rfl fun K E f τ d=>?_;have f0:=uc τ d y1;have f1:=uc τ d y2;have f2:=uc τ d y5;go_simp;refine f _ _ _ _ ?_;clear f0 f1 f2 f K E τ d);try walk_nrm)
  refine JG.exit (by rfl) ?_
  repeat first|refine jc rfl ?_|(first|refine ju rfl rfl ?_|(refine jv rfl rfl rfl fun K E f τ d=>?_;go_simp;refine f _ _ _ _ ?_;clear f K E τ d);try walk_nrm)
  first|refine JG.fin ?_|refine JG.done (JG.fin ?_)
  exact JG.leave0 rfl rfl Try.func15 (by rfl) (hE.out _)
 | succ q ih =>
  intro k hkq m C x0 x col sh cells u7 u8 u9 B0 B1 B2 B3 B4 B5 B6 B7 B8 B9 D0 D1 D2 D3 D4 D5 D6 D7 D8 D9 E0 E1 E2 E3 E4 E5 E6 E7 E8 E9 hB
  have hkl:k < L.length:=by omega
  obtain ⟨c,hc⟩:∃ c,L[k]? = some c:=⟨_,List.getElem?_eq_getElem hkl⟩
  obtain ⟨hv,hs⟩:=H.sees hB.I.2
  have y1:=hs.c1
  have y2:=hs.c2
  have y5:=hs.c5
  have hj':(j:Int) < n:=by have:=H.jn;omega
  have hz:(0:Int) < nc:=by have:=H.nc0;omega
  have b1:=Int.emod_nonneg c.ce (show (nc:Int)≠0 by omega)
  have b2:=Int.emod_lt_of_pos c.ce hz
  obtain ⟨i,hi⟩:∃ i:Nat,c.ce % nc=(i:Int):=⟨(c.ce % nc).toNat,by omega⟩
  have hin:i < nc:=by omega
  have hd:L.drop k=c::L.drop (k + 1):=by
   rw [List.drop_eq_getElem_cons hkl]
   congr 1
   exact OI ((List.getElem?_eq_getElem hkl).symm.trans hc)
  rw [hd,List.map_cons,show Op4.d nc c=YG c.op i c.arg c.new from by unfold Op4.d;rw [hi];rfl] at hB
  have HB:=HD hB
  have IH:=HD ih
  have HH:=HD H
  clear hs hB ih b1 b2 hd hz H
  simp only [Try.f15,Option.getD_some,Code.nav]
  have hx:decide ((k:Int) < L.length)=true:=by simp;omega
  have hxN:decide (k < L.length)=true:=by simp;omega
  repeat first|refine jc rfl ?_|(first|refine ju rfl rfl ?_|(refine jv rfl rfl rfl fun K E f τ d=>?_;have f0:=uc τ d y1;have f1:=uc τ d y2;have f2:=uc τ d y5;go_simp;refine f _ _ _ _ ?_;clear f0 f1 f2 f K E τ d);try walk_nrm)
  refine Xcf HH.out hc hi hin HB.out (fun m' C' x0' y col' sh' cells' v7 v8 v9 v10 v11 v12 v13 v14 v15 v16 v17 v18 v19 v20 v21 v22 v23 v24 v25 v26 v27 v28 v29 v30 v31 v32 v33 v34 v35 v36 v37 v38 v39 hB'=>?_)
  have IH':=IH.out (k + 1) (by omega) m' C' x0' y col' sh' cells'
  simp only [Try.f15,Option.getD_some,Code.nav] at IH'
  replace IH':=HD IH'
  have hw:IntKind.i64.wrap ((k:Int) + 1)=((k + 1:Nat):Int):=by
   have:=HH.out.len
   rw [IntKind.wrap_i64];omega
  repeat first|refine jc rfl ?_|(first|refine ju rfl rfl ?_|(refine jv rfl rfl rfl fun K E f τ d=>?_;go_simp;refine f _ _ _ _ ?_;clear f K E τ d);try walk_nrm)
  refine JG.inLoop ?_
  rw [show ((k:Int) + 1)=((k + 1:Nat):Int) from rfl]
  exact IH'.out _ _ _ _ _ _ _ _ _ _ _ _ _ _ _ _ _ _ _ _ _ _ _ _ _ _ _ _ _ _ _ _ _ hB'
theorem Xe4 (H:Scr w0 Kp gt n A nc j L bp bi bt bl gS oS gl cS cT cl cC aC) (m:Nat):Q4 Post (Zp w0 Kp gt n A nc inj hgt hA) j m 15 #[P0 bp,P0 bi,P0 bt,P0 bl] (Qa j (L.map (Op4.d nc))):=by
 refine ⟨⟨_,Try.func15,by kernel_rfl,by kernel_rfl⟩,fun C x col sh cells tb rb cbf hd hL hct hcb hI R=>?_⟩
 by_cases he:sh j = []
 ·rw [Vh he] at R
  have hB:BSt Post (Zp w0 Kp gt n A nc inj hgt hA) gt n j tb rb cbf m 0 C x x col sh cells ((Yj j ((L.drop 0).map (Op4.d nc))).pass sh):=⟨hd,hL,hct,hcb,hI,Ze.refl,by rw [he];rfl,R⟩
  have HL:=HD (fun u5 u7 u8 u9 B0 B1 B2 B3 B4 B5 B6 B7 B8 B9 D0 D1 D2 D3 D4 D5 D6 D7 D8 D9 E0 E1 E2 E3 E4 E5 E6 E7 E8 E9=>Xe3 (u5:=u5) H L.length 0 (by omega) m C x x col sh cells u7 u8 u9 B0 B1 B2 B3 B4 B5 B6 B7 B8 B9 D0 D1 D2 D3 D4 D5 D6 D7 D8 D9 E0 E1 E2 E3 E4 E5 E6 E7 E8 E9 hB)
  clear R hB hI
  refine Xy Try.func15 (by rfl) (by rfl) ?_
  simp only [Try.f15,Option.getD_some]
  walk_nrm
  repeat first|refine jc rfl ?_|(first|refine ju rfl rfl ?_|(refine jv rfl rfl rfl fun K E f τ d=>?_;go_simp;refine f _ _ _ _ ?_;clear f K E τ d);try walk_nrm)
  refine JG.loop ?_
  have HL':=HL.out
  simp only [Try.f15,Option.getD_some,Code.nav] at HL'
  exact HL' _ _ _ _ _ _ _ _ _ _ _ _ _ _ _ _ _ _ _ _ _ _ _ _ _ _ _ _ _ _ _ _ _ _
 ·rw [XcN he] at R
  exact (R x none_ (Nat.le_refl _) (fun _ _=>rfl) (fun _ h=>h.elim) (by rw [VF];exact hI) (fun _ _ _ _=>rfl)).elim
end
end Go.Proofs.Ytdhnggjmegilkaa
namespace Go.Proofs.Ytdhnggjmegilkaa
open Go.Conc Go.RowKit
set_option maxRecDepth 100000
theorem Xfz:(Try.prog.info? 22).map (fun i=>(i.zero,i.size,i.bytes))=some (some (.slice none 0 0),1,24):=by kernel_rfl
theorem XdI (n:Nat) (hn:n≤8):madeCells (Value.slice none 0 0).cells n=(List.replicate n (Value.slice none 0 0)).toArray:=by
 rw [show (Value.slice none 0 0).cells=#[Value.slice none 0 0] from by rw [Value.cells.eq_def]]
 unfold madeCells
 apply Array.ext_getElem?
 intro i
 rcases Nat.lt_or_ge i n with h|h
 ·simp [h,Nat.mod_one]
 ·simp [Nat.not_lt.2 h]
section
variable {Post:Value→World→Prop} {C:Ctx} {cs:List Frame} {x:World} {bp nS cS:Nat} {aS:Option Addr} {kk:List Item}
theorem XbR {u0 u2 u3 u4 u5 u7 u8 u9 B0 B1 B2 B3 B4 B5 B6 B7 B8 B9 D0 D1 D2 D3 D4 D5 D6 D7 D8 D9 E0 E1 E2 E3 E4 E5 E6 E7 E8 E9 G0 G5 G6 G7 G8 G9 H4 H5 H6 H7 H8 H9 I0 I1 I2 I3 I4 I5 I6 I7 I8 I9 J0 J1 J2 J3 J4 J5 J6 J7 J8 J9 K0 K1 K3 K4 K5 K6 K7 K8 K9 L0 L1 L2 L3 L4 L5 L6 L7 L8 L9 M0 M1 M4 M5 M6 M7 M8 M9 N1 N5 N6 N7 N8 N9 O0 O1 O2 O3 O4 O5 O6 O7 O8 O9 R0 R1 R2 R3 R4 R5 R6 R7 R8 R9 S0 S1 S2 S3 S4 S5 S6 S7 S8 S9 T0 T1 T2 T3 T4 T5 T6 T7 T8 T9 U0 U1 U2 U3 U4 U5 U6 U7 U8 U9 V0 V1 V2 V3 V4 V5 V6 V7 V8 V9 W0 W1 W2 W3 u6 G1 G2 G3 G4:Value} (hp:x.cell? (th bp 1)=some (.slice aS nS cS)) (hn:nS≤8)
 (h:∀ (y:World) (gt bt:Nat) (G1 G2 G3 G4:Value),Xf x y→x.heap.size≤gt→x.heap.size≤bt→gt≠bt→y.heap[gt]? = some (.cells (List.replicate nS (Value.slice none 0 0)).toArray 22 (0,0))→y.heap[bt]? = some (.cells #[.slice (some ⟨gt,0,none⟩) nS nS] 31 (0,0)) →
   JG Try.prog Post C (G ((base 3).at ⟨List.toArray (u0::P0 bp::u2::u3::u4::u5::P0 bt::u7::u8::u9::B0::B1::B2::B3::B4::B5::B6::B7::B8::B9::D0::D1::D2::D3::D4::D5::D6::D7::D8::D9::E0::E1::E2::E3::E4::E5::E6::E7::E8::E9::G0::G1::G2::G3::G4::G5::G6::G7::G8::G9::H4::H5::H6::H7::H8::H9::I0::I1::I2::I3::I4::I5::I6::I7::I8::I9::J0::J1::J2::J3::J4::J5::J6::J7::J8::J9::K0::K1::K3::K4::K5::K6::K7::K8::K9::L0::L1::L2::L3::L4::L5::L6::L7::L8::L9::M0::M1::M4::M5::M6::M7::M8::M9::N1::N5::N6::N7::N8::N9::O0::O1::O2::O3::O4::O5::O6::O7::O8::O9::R0::R1::R2::R3::R4::R5::R6::R7::R8::R9::S0::S1::S2::S3::S4::S5::S6::S7::S8::S9::T0::T1::T2::T3::T4::T5::T6::T7::T8::T9::U0::U1::U2::U3::U4::U5::U6::U7::U8::U9::V0::V1::V2::V3::V4::V5::V6::V7::V8::V9::W0::W1::W2::W3::[]),[]⟩ kk) cs) y) :
 JG Try.prog Post C (G ((base 3).at ⟨List.toArray (u0::P0 bp::u2::u3::u4::u5::u6::u7::u8::u9::B0::B1::B2::B3::B4::B5::B6::B7::B8::B9::D0::D1::D2::D3::D4::D5::D6::D7::D8::D9::E0::E1::E2::E3::E4::E5::E6::E7::E8::E9::G0::G1::G2::G3::G4::G5::G6::G7::G8::G9::H4::H5::H6::H7::H8::H9::I0::I1::I2::I3::I4::I5::I6::I7::I8::I9::J0::J1::J2::J3::J4::J5::J6::J7::J8::J9::K0::K1::K3::K4::K5::K6::K7::K8::K9::L0::L1::L2::L3::L4::L5::L6::L7::L8::L9::M0::M1::M4::M5::M6::M7::M8::M9::N1::N5::N6::N7::N8::N9::O0::O1::O2::O3::O4::O5::O6::O7::O8::O9::R0::R1::R2::R3::R4::R5::R6::R7::R8::R9::S0::S1::S2::S3::S4::S5::S6::S7::S8::S9::T0::T1::T2::T3::T4::T5::T6::T7::T8::T9::U0::U1::U2::U3::U4::U5::U6::U7::U8::U9::V0::V1::V2::V3::V4::V5::V6::V7::V8::V9::W0::W1::W2::W3::[]),[]⟩ (.code (Code.nav (Try.f3.body.getD .skip) [1,1,1,1,1,0])::kk)) cs) x:=by
 have Hh:=HD h
 clear h
 simp only [Try.f3,Option.getD_some,Code.nav]
 repeat first|refine jc rfl ?_|(first|refine ju rfl rfl ?_|(refine jv rfl rfl rfl fun K E f τ d=>?_;have f0:=uc τ d hp;go_simp;refine f _ _ _ _ ?_;clear f0 f K E τ d);try walk_nrm)
 have x0:(0:Int)≤nS:=by omega
 have x1:(nS:Int)≤8:=by omega
 obtain ⟨i0,hi0,hz0,hz1,hz2⟩:=XI Xfz
 have hmk:∀ W:World,(Instr.makeSlice 31 (.int .i64 nS) (.int .i64 nS)).run Try.prog W=.ok (.slice (some ⟨W.heap.size,0,none⟩) nS nS) (W.alloc (.cells (List.replicate nS (Value.slice none 0 0)).toArray 22)):=fun W=>by
  have h:=run_makeSlice (P:=Try.prog) W 31 22 i0 _ Try.underlying31 hi0 hz0 .i64 .i64 nS nS x0 (Int.le_refl _) (by rw [hz1];omega) (by rw [hz2];omega) (by omega)
  rw [hz1,Int.toNat_natCast,Nat.mul_one,XdI nS hn] at h
  exact h
 refine jo rfl rfl rfl (by decide) fun K E hK hE τ d=>?_
 go_simp
 refine hK _ _ (jt (x:=x.alloc (.cells (List.replicate nS (Value.slice none 0 0)).toArray 22)) ?_)
 simp only [Xv]
 clear hK hE K E τ d hmk
 have g1:(x.alloc (.cells (List.replicate nS (Value.slice none 0 0)).toArray 22)).heap[x.heap.size]? = some (.cells (List.replicate nS (Value.slice none 0 0)).toArray 22 (0,0)):=heap_alloc_new _ _
 have o1:=(Xf.refl x).alloc (.cells (List.replicate nS (Value.slice none 0 0)).toArray 22)
 generalize x.alloc (.cells (List.replicate nS (Value.slice none 0 0)).toArray 22)=y1 at g1 o1 ⊢
 obtain ⟨gt,hgt⟩:∃ gt,gt=x.heap.size:=⟨_,rfl⟩
 rw [← hgt] at g1 ⊢
 replace hgt:=HD hgt
 replace g1:=HD g1
 replace o1:=HD o1
 refine jo rfl rfl rfl (by decide) fun K E hK hE τ d=>?_
 go_simp
 refine hK _ _ (jt (x:=y1.alloc (.cells #[.slice none 0 0] 31)) ?_)
 simp only [Xv]
 clear hK hE K E τ d
 have b1:(y1.alloc (.cells #[.slice none 0 0] 31)).heap[y1.heap.size]? = some (.cells #[.slice none 0 0] 31 (0,0)):=heap_alloc_new _ _
 have o2:=(Xf.refl y1).alloc (.cells #[.slice none 0 0] 31)
 generalize y1.alloc (.cells #[.slice none 0 0] 31)=y2 at b1 o2 ⊢
 obtain ⟨bt,hbt⟩:∃ bt,bt=y1.heap.size:=⟨_,rfl⟩
 rw [← hbt] at b1 ⊢
 replace hbt:=HD hbt
 replace o2:=HD o2
 refine jo rfl rfl rfl (by decide) fun K E hK hE τ d=>?_
 have hf:=ust (And.intro (Xa b1 0) (Xe b1 0)) τ d
 obtain ⟨hf,hg⟩:=hf
 go_simp
 refine hK _ _ ?_
 rw [Xd]
 refine jt ?_
 clear hf hg hK hE K E τ d
 try walk_nrm
 have b2:(y2.setCell (th bt 0) (.slice (some ⟨gt,0,none⟩) nS nS)).heap[bt]? = some (.cells #[.slice (some ⟨gt,0,none⟩) nS nS] 31 (0,0)):=by rw [Xc b1];rfl
 have hlt:gt < y1.heap.size:=(GE g1.out).1
 have o3:Xf y1 (y2.setCell (th bt 0) (.slice (some ⟨gt,0,none⟩) nS nS)):=o2.out.setNew (by show y1.heap.size≤bt;have:=hbt.out;omega)
 generalize y2.setCell (th bt 0) (.slice (some ⟨gt,0,none⟩) nS nS)=y3 at b2 o3 ⊢
 clear b1
 repeat first|refine jc rfl ?_|(first|refine ju rfl rfl ?_|(refine jv rfl rfl rfl fun K E f τ d=>?_;go_simp;refine f _ _ _ _ ?_;clear f K E τ d);try walk_nrm)
 exact Hh.out y3 gt bt _ _ _ _ (o1.out.trans o3) (by have:=hgt.out;omega) (by have:=hbt.out;have:=o1.out.1;omega) (by have:=hbt.out;omega) ((o3.2 gt hlt).trans g1.out) b2
end
theorem Rows.start {gt n N0:Nat} {col:Nat→Prop} {x:World} (h:x.heap[gt]? = some (.cells (List.replicate n (Value.slice none 0 0)).toArray 22 (0,0))):Rows gt n N0 col (fun _=>[]) (fun _=>.slice none 0 0) x:=by
 refine ⟨?_,fun j hj=>⟨by simp [XfE],.inl ⟨rfl,rfl⟩⟩,fun j hj g hg=>(by cases hg),fun i j _ _ _ g hg=>(by cases hg)⟩
 rw [h,List.map_const',List.length_range]
theorem WT.start {w0:World} {Kp:Nat→Prop} {gt n:Nat} {A:Nat→Nat} {nc:Nat} (h:w0.heap[gt]? = some (.cells (List.replicate n (Value.slice none 0 0)).toArray 22 (0,0))) (hk:¬ Kp gt):WT w0 Kp gt n A nc (fun _=>[]) Kp w0 :=
 ⟨Nat.le_refl _,fun r _ h2 _ _=>⟨h2,rfl⟩,hk,_,Rows.start h⟩
theorem Xbn {As:List Nat} (hn:As.Nodup):∀ a b,a < As.length→b < As.length→As.getD a 0=As.getD b 0→a=b:=fun a b ha hb e=>by
 rw [List.getD_eq_getElem?_getD,List.getD_eq_getElem?_getD,List.getElem?_eq_getElem ha,List.getElem?_eq_getElem hb] at e
 have a1:=hn.idxOf_getElem a ha
 have a2:=hn.idxOf_getElem b hb
 have e':As[a] = As[b]:=e
 rw [e'] at a1
 exact a1.symm.trans a2
end Go.Proofs.Ytdhnggjmegilkaa

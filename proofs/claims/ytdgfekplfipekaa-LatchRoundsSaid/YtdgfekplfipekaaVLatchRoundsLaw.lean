/- LatchRounds: for every input the law returns true and the argument reads behind the call as it read before. Conditions: the row's own (calm tapes; the clocks alone may advance). -/
import Derived.Test.YtdgfekplfipekaaRows
import Derived.Test.YtdgfekplfipekaaVLpI
import Derived.Test.YtdgfekplfipekaaVLrI
import Derived.Carry
import Derived.ChangeSame
import Derived.Lay
import Derived.Conc.HoldsTime
set_option linter.all false
set_option maxRecDepth 100000
set_option maxHeartbeats 16000000
namespace Go.Proofs.Ytdgfekplfipekaa.latchRounds
open Go.Joins Go.Deep Go.ChangeShapes Go.WideShapes Go.ChangeAt Go.RowKit Go.Conc Go.ConcM
theorem own:ownKnob Try.prog.godebug=none:=by kernel_rfl
theorem lifted (os:Os) (started:os.Started) (H:Type) (enc:TypeId × Value→H) (F:Stop.Interp) :
 ReturnsInLeavingWide Rows.latchRoundsRow.assume Try.checked os 4 .any (Rows.latchRoundsSpec.pre6 enc Try.prog Try.f4 Rows.latchRoundsRow.domain false) ((OpenSpec.ofChange Rows.latchRoundsSpec).postWith enc Try.prog Try.f4 F (outsideKept [.timePasses]) false true false):=by
 refine returnsInLeavingWide_of_change_time (C:=Try.checked) own started Try.func4
  (ChangeSpec.witness6c (enc:=enc) (C:=Try.checked) ⟨#[],#[.agg #[.int .i64 0,.int .i64 0,.slice none 0 0],.bool false],[]⟩ 8 (by kernel_rfl) (by kernel_rfl) (by kernel_rfl) (by kernel_rfl)) ?_
 intro W base args ds gs before hval0 hW _ hwt _;have hval:∀ (j:Nat) t v,Try.f4.params[j]? = some t→args[j]? = some v→Value.okWide Try.prog W .any base t v:=hval0;have hW':=hW;have hlt:∀ p∈before,p.block < W.heap.size:=fun p hp=>hW.lt p hp;obtain ⟨p,q,hA0,hV,rfl,_,_⟩:=hW;have hA:DataW.TrodAll enc Try.prog W 0 (fun _=>true) true Try.f4.params.toList args.toList ds p:=hA0;rw [Try.params4] at hA hval hwt;obtain ⟨v0,v1,d0,d1,p0,p1,rfl,rfl,rfl,h0,h1⟩:=trodAll_two hA;obtain ⟨rfl,rfl⟩:=trodVars_none hV;obtain ⟨lacks,rfl,rfl,rfl⟩:=open_bool Try.underlying4 (hval 1 4 _ rfl rfl) h1;obtain ⟨t,r,picks,aP,cP,rfl,ht,hr,hP⟩:=open_room (hval 0 24 _ rfl rfl) h0;clear hA0 hval0;simp only [List.append_nil] at hW' hlt;have hfine:XgT (fun u W'=>Rows.latchRoundsSpec.post enc Try.prog Try.f4 false true false false W #[.agg #[.int .i64 t,.int .i64 r,.slice aP picks.length cP],.bool lacks] u { W' with os:=W.os }∧OsLater W.os W'.os) { Ch:=fun _=>none,h:=0,d:=0,n:=1,lo:=W.heap.size,io:=XcR W } W:=fun w hio hsz hold=>by
  simp only [XcR,Prod.mk.injEq] at hio;have hb:Below W.heap.size W { w with os:=W.os,tape:=W.tape }:=⟨rfl,rfl,hio.2,hsz,hold⟩
  refine ⟨⟨_,_,_,[],p0,[],hW',trodAll_mk1 (shut_bool Try.underlying4 _),(by rw [← List.append_nil p0];exact trodAll_mk2 (DataW.Trod.of_heap (w:={ w with os:=W.os,tape:=W.tape }) (w':={ w with os:=W.os }) rfl (Below.trod (by kernel_rfl) (by kernel_rfl) (of_decide_eq_true (by kernel_rfl)) h0 hb hlt)) (shut_bool Try.underlying4 _)),rfl,⟨rfl,hio.2,fun i hi=>by
   show match W.heap[i]?,w.heap[i]? with|some (.cells c t fr),some (.cells c' t' fr')=>_|some (.map es clock),some (.map es' clock')=>_|o,o'=>_
   rw [hold i hi];split<;>simp_all⟩,fun h=>by cases h⟩,?_⟩
  rw [hio.1];exact OsLater.refl _
 have hJ:JG Try.prog (fun u W'=>Rows.latchRoundsSpec.post enc Try.prog Try.f4 false true false false W #[.agg #[.int .i64 t,.int .i64 r,.slice aP picks.length cP],.bool lacks] u { W' with os:=W.os }∧OsLater W.os W'.os) { Ch:=fun _=>none,h:=0,d:=0,n:=1,lo:=W.heap.size,io:=XcR W }
  (G (Frame.enter Try.prog 4 #[.agg #[.int .i64 t,.int .i64 r,.slice aP picks.length cP],.bool lacks] .normal) []) W:=by
  cases lacks with
  | false=>exact latchRoundsF ⟨rfl,rfl,rfl,fun _=>rfl,rfl⟩ hfine ht hr hP
  | true=>exact latchRoundsT ⟨rfl,rfl,rfl,fun _=>rfl,rfl⟩ hfine ht hr hP
 exact J.begin (hJ W (.self fun a ⟨i,s,v,hi,e,hv⟩=>by cases e))
theorem proved:Rows.LatchRoundsSaid :=
 OpenClaim.holds_of_wide_leaving_time 4 Try.f4 rfl rfl rfl rfl rfl rfl rfl ⟨rfl,rfl,rfl,rfl,rfl⟩ rfl rfl rfl rfl rfl (by kernel_rfl) Try.func4 (by kernel_rfl)
  (of_decide_eq_true (by kernel_rfl)) (by unfold Func.isWrapper;first|(rw [if_pos (by decide +kernel)];kernel_rfl)|(rw [if_neg (by decide +kernel)];exact ⟨rfl,rfl⟩))
  (fun os started H enc _ F=>lifted os started H enc F)

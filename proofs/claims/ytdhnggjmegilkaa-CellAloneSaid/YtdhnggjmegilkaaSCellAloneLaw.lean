/- CellAlone: for every input the law returns true and each argument reads behind the call as it read before. Conditions: the row's own (calm tapes; the clocks alone may advance). -/
import Derived.Test.YtdhnggjmegilkaaRows
import Derived.Test.YtdhnggjmegilkaaSFcF
import Derived.Test.YtdhnggjmegilkaaSFcG
import Derived.Carry
import Derived.ChangeSame
import Derived.Lay
import Derived.OpenShut
import Derived.Conc.HoldsTime
set_option linter.all false
set_option maxRecDepth 100000
set_option maxHeartbeats 16000000
namespace Go.Proofs.Ytdhnggjmegilkaa.cellAlone
open Go.Joins Go.Deep Go.ChangeShapes Go.WideShapes Go.ChangeAt Go.RowKit Go.Conc Go.ConcM
theorem own:ownKnob Try.prog.godebug=none:=by kernel_rfl
theorem lifted (os:Os) (started:os.Started) (H:Type) (enc:TypeId × Value→H) (F:Stop.Interp) :
 ReturnsInLeavingWide Rows.cellAloneRow.assume Try.checked os 4 .any (Rows.cellAloneSpec.pre6 enc Try.prog Try.f4 Rows.cellAloneRow.domain false) ((OpenSpec.ofChange Rows.cellAloneSpec).postWith enc Try.prog Try.f4 F (outsideKept [.timePasses]) false true false):=by
 refine returnsInLeavingWide_of_change_time (C:=Try.checked) own started Try.func4
  (ChangeSpec.witness6c (enc:=enc) (C:=Try.checked) ⟨#[],#[.int .i64 0,.slice none 0 0,.bool false],[]⟩ 8 (by kernel_rfl) (by kernel_rfl) (by kernel_rfl) (by kernel_rfl)) ?_
 intro W base args ds gs before hval0 hW _ _ _;have hval:∀ (j:Nat) t v,Try.f4.params[j]? = some t→args[j]? = some v→Value.okWide Try.prog W .any base t v:=hval0;have hW':=hW;have hlt:∀ p∈before,p.block < W.heap.size:=fun p hp=>hW.lt p hp;obtain ⟨p,q,hA0,hV,rfl,_,_⟩:=hW;have hA:DataW.TrodAll enc Try.prog W 0 (fun _=>true) true Try.f4.params.toList args.toList ds p:=hA0;rw [Try.params4] at hA hval;obtain ⟨v0,v1,v2,d0,d1,d2,p0,p1,p2,rfl,rfl,rfl,h0,h1,h2⟩:=trodAll_three hA;obtain ⟨rfl,rfl⟩:=trodVars_none hV;obtain ⟨a0,rfl,rfl,rfl,w0⟩:=open_int Try.underlying2 (hval 0 2 v0 rfl rfl) h0;obtain ⟨aL,n,cL,rfl⟩:=okWide_slice Try.underlying34 (hval 1 34 v1 rfl rfl);obtain ⟨fuel,hf⟩:=id h1;obtain ⟨a',n',c',op,ce,ar,ne,he,hops⟩:=open_callsC hf;injection he with e1 e2 e3
 subst e1 e2 e3;obtain ⟨en,rfl,rfl,rfl⟩:=open_bool Try.underlying4 (hval 2 4 v2 rfl rfl) h2;clear hA0 hval0 hf;simp only [List.append_nil,List.nil_append] at hW' hlt;have hfine:XgT (fun u W'=>Rows.cellAloneSpec.post enc Try.prog Try.f4 false true false false W #[.int .i64 a0,.slice aL n cL,.bool en] u { W' with os:=W.os }∧OsLater W.os W'.os) { Ch:=fun _=>none,h:=0,d:=0,n:=1,lo:=W.heap.size,io:=XcR W } W:=fun w hio hsz hold=>by
  simp only [XcR,Prod.mk.injEq] at hio;have hb:Below W.heap.size W { w with os:=W.os,tape:=W.tape }:=⟨rfl,rfl,hio.2,hsz,hold⟩
  refine ⟨⟨_,_,_,[],_,[],hW',trodAll_mk1 (shut_bool Try.underlying4 _),trodAll_mk3 (shut_int Try.underlying2 w0) (DataW.Trod.of_heap (w:={ w with os:=W.os,tape:=W.tape }) (w':={ w with os:=W.os }) rfl (Below.trod (by kernel_rfl) (by kernel_rfl) (of_decide_eq_true (by kernel_rfl)) h1 hb hlt)) (shut_bool Try.underlying4 _),rfl,⟨rfl,hio.2,fun i hi=>by
   show match W.heap[i]?,w.heap[i]? with|some (.cells c t fr),some (.cells c' t' fr')=>_|some (.map es clock),some (.map es' clock')=>_|o,o'=>_
   rw [hold i hi];split<;>simp_all⟩,fun h=>by cases h⟩,?_⟩
  rw [hio.1];exact OsLater.refl _
 have hJ:JG Try.prog (fun u W'=>Rows.cellAloneSpec.post enc Try.prog Try.f4 false true false false W #[.int .i64 a0,.slice aL n cL,.bool en] u { W' with os:=W.os }∧OsLater W.os W'.os) { Ch:=fun _=>none,h:=0,d:=0,n:=1,lo:=W.heap.size,io:=XcR W }
  (G (Frame.enter Try.prog 4 #[.int .i64 a0,.slice aL n cL,.bool en] .normal) []) W:=by
  exact cellAlone_all ⟨rfl,rfl,rfl,fun _=>rfl,rfl⟩ hfine hops
 exact J.begin (hJ W (.self fun a ⟨i,s,v,hi,e,hv⟩=>by cases e))
theorem proved:Rows.CellAloneSaid :=
 OpenClaim.holds_of_wide_leaving_time 4 Try.f4 rfl rfl rfl rfl rfl rfl rfl ⟨rfl,rfl,rfl,rfl,rfl⟩ rfl rfl rfl rfl rfl (by kernel_rfl) Try.func4 (by kernel_rfl)
  (of_decide_eq_true (by kernel_rfl)) (by unfold Func.isWrapper;first|(rw [if_pos (by decide +kernel)];kernel_rfl)|(rw [if_neg (by decide +kernel)];exact ⟨rfl,rfl⟩))
  (fun os started H enc _ F=>lifted os started H enc F)

/- CellPlays: for every input the law returns true and the argument reads behind the call as it read before. Conditions: the row's own (calm tapes; the clocks alone may advance). -/
import Derived.Test.YtdhnggjmegilkaaRows
import Derived.Test.YtdhnggjmegilkaaSCpX
import Derived.Carry
import Derived.ChangeSame
import Derived.Lay
import Derived.Conc.HoldsTime
set_option linter.unusedSimpArgs false
set_option linter.unusedVariables false
set_option maxRecDepth 100000
set_option maxHeartbeats 16000000
namespace Go.Proofs.Ytdhnggjmegilkaa.cellPlays
open Go.Joins Go.Deep Go.ChangeShapes Go.WideShapes Go.ChangeAt Go.RowKit Go.Conc Go.ConcM
theorem own:ownKnob Try.prog.godebug=none:=by kernel_rfl
theorem lifted (os:Os) (started:os.Started) (H:Type) (enc:TypeId × Value→H) (F:Stop.Interp) :
 ReturnsInLeavingWide Rows.cellPlaysRow.assume Try.checked os 3 .any (Rows.cellPlaysSpec.pre6 enc Try.prog Try.f3 Rows.cellPlaysRow.domain false) ((OpenSpec.ofChange Rows.cellPlaysSpec).postWith enc Try.prog Try.f3 F (outsideKept [.timePasses]) false true false):=by
 refine returnsInLeavingWide_of_change_time (C:=Try.checked) own started Try.func3
  (ChangeSpec.witness6c (enc:=enc) (C:=Try.checked) ⟨#[],#[.agg #[.slice none 0 0,.slice none 0 0,.slice none 0 0]],[]⟩ 8 (by kernel_rfl) (by kernel_rfl) (by kernel_rfl) (by kernel_rfl)) ?_
 intro W base args ds gs before hval0 hW _ hwt _
 have hval:∀ (j:Nat) t v,Try.f3.params[j]? = some t→args[j]? = some v→Value.okWide Try.prog W .any base t v:=hval0
 have hW':=hW
 have hlt:∀ p∈before,p.block < W.heap.size:=fun p hp=>hW.lt p hp
 obtain ⟨p,q,hA0,hV,rfl,_,_⟩:=hW
 have hA:DataW.TrodAll enc Try.prog W 0 (fun _=>true) true Try.f3.params.toList args.toList ds p:=hA0
 rw [Try.params3] at hA hval hwt
 obtain ⟨v0,d0,rfl,rfl,h0⟩:=trodAll_one hA
 obtain ⟨rfl,rfl⟩:=trodVars_none hV
 have hw0:(d0.weights Try.prog 26).all (·≤reachBytes)=true:=List.all_eq_true.2 fun n hn=>List.all_eq_true.1 hwt n (DataW.weights_mem_each (j:=0) rfl rfl n hn)
 obtain ⟨Cs,picks,Ss,aC,aS,aP,cC,cS,cP,rfl,hC,hP,hcap,hS,hl,hSl⟩:=Xco (hval 0 26 _ rfl rfl) h0 hw0
 clear hA0 hval0
 simp only [List.append_nil] at hW' hlt
 have hfine:Xgn (fun u W'=>Rows.cellPlaysSpec.post enc Try.prog Try.f3 false true false false W #[.agg #[.slice aC Cs.length cC,.slice aS Ss.length cS,.slice aP picks.length cP]] u { W' with os:=W.os }∧OsLater W.os W'.os) { Ch:=fun _=>none,h:=0,d:=0,n:=1,lo:=W.heap.size,io:=XcH W } W:=fun w hio hsz hold=>by
  simp only [XcH,Prod.mk.injEq] at hio
  have hb:Below W.heap.size W { w with os:=W.os,tape:=W.tape }:=⟨rfl,rfl,hio.2,hsz,hold⟩
  refine ⟨⟨_,_,_,[],p,[],hW',trodAll_mk1 (shut_bool Try.underlying4 _),trodAll_mk1 (DataW.Trod.of_heap (w:={ w with os:=W.os,tape:=W.tape }) (w':={ w with os:=W.os }) rfl (Below.trod (by kernel_rfl) (by kernel_rfl) (of_decide_eq_true (by kernel_rfl)) h0 hb hlt)),rfl,⟨rfl,hio.2,fun i hi=>by
   show match W.heap[i]?,w.heap[i]? with|some (.cells c t fr),some (.cells c' t' fr')=>_|some (.map es clock),some (.map es' clock')=>_|o,o'=>_
   rw [hold i hi];split<;>simp_all⟩,fun h=>by cases h⟩,?_⟩
  rw [hio.1];exact OsLater.refl _
 have hJ:JG Try.prog (fun u W'=>Rows.cellPlaysSpec.post enc Try.prog Try.f3 false true false false W #[.agg #[.slice aC Cs.length cC,.slice aS Ss.length cS,.slice aP picks.length cP]] u { W' with os:=W.os }∧OsLater W.os W'.os) { Ch:=fun _=>none,h:=0,d:=0,n:=1,lo:=W.heap.size,io:=XcH W }
  (G (Frame.enter Try.prog 3 #[.agg #[.slice aC Cs.length cC,.slice aS Ss.length cS,.slice aP picks.length cP]] .normal) []) W:=by
  exact VO ⟨rfl,rfl,rfl,fun _=>rfl,rfl⟩ hfine hC hP hcap hS hl hSl
 exact J.begin (hJ W (.self fun a ⟨i,s,v,hi,e,hv⟩=>by cases e))
theorem proved:Rows.CellPlaysSaid :=
 OpenClaim.holds_of_wide_leaving_time 3 Try.f3 rfl rfl rfl rfl rfl rfl rfl ⟨rfl,rfl,rfl,rfl,rfl⟩ rfl rfl rfl rfl rfl (by kernel_rfl) Try.func3 (by kernel_rfl)
  (of_decide_eq_true (by kernel_rfl)) (by unfold Func.isWrapper;first|(rw [if_pos (by decide +kernel)];kernel_rfl)|(rw [if_neg (by decide +kernel)];exact ⟨rfl,rfl⟩))
  (fun os started H enc _ F=>lifted os started H enc F)
end Go.Proofs.Ytdhnggjmegilkaa.cellPlays

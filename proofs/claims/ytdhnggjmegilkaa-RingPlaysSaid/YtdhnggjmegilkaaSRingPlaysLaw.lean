/- RingPlays: for every input the law returns true and the argument reads behind the call as it read before. Conditions: the row's own (calm tapes; the clocks alone may advance). -/
import Derived.Test.YtdhnggjmegilkaaRows
import Derived.Test.YtdhnggjmegilkaaSRgX
import Derived.Carry
import Derived.ChangeSame
import Derived.Lay
import Derived.Conc.HoldsTime
set_option linter.all false
set_option maxRecDepth 100000
set_option maxHeartbeats 16000000
namespace Go.Proofs.Ytdhnggjmegilkaa.ringPlays
open Go.Joins Go.Deep Go.ChangeShapes Go.WideShapes Go.ChangeAt Go.RowKit Go.Conc Go.ConcM
theorem own:ownKnob Try.prog.godebug=none:=by kernel_rfl
theorem lifted (os:Os) (started:os.Started) (H:Type) (enc:TypeId × Value→H) (F:Stop.Interp) :
 ReturnsInLeavingWide Rows.ringPlaysRow.assume Try.checked os 6 .any (Rows.ringPlaysSpec.pre6 enc Try.prog Try.f6 Rows.ringPlaysRow.domain false) ((OpenSpec.ofChange Rows.ringPlaysSpec).postWith enc Try.prog Try.f6 F (outsideKept [.timePasses]) false true false):=by
 refine returnsInLeavingWide_of_change_time (C:=Try.checked) own started Try.func6
  (ChangeSpec.witness6c (enc:=enc) (C:=Try.checked) ⟨#[],#[.agg #[.int .i64 0,.int .i64 0,.slice none 0 0,.slice none 0 0]],[]⟩ 8 (by kernel_rfl) (by kernel_rfl) (by kernel_rfl) (by kernel_rfl)) ?_
 intro W base args ds gs before hval0 hW _ hwt _;have hval:∀ (j:Nat) t v,Try.f6.params[j]? = some t→args[j]? = some v→Value.okWide Try.prog W .any base t v:=hval0;have hW':=hW;have hlt:∀ p∈before,p.block < W.heap.size:=fun p hp=>hW.lt p hp;obtain ⟨p,q,hA0,hV,rfl,_,_⟩:=hW;have hA:DataW.TrodAll enc Try.prog W 0 (fun _=>true) true Try.f6.params.toList args.toList ds p:=hA0;rw [Try.params6] at hA hval hwt;obtain ⟨v0,d0,rfl,rfl,h0⟩:=trodAll_one hA;obtain ⟨rfl,rfl⟩:=trodVars_none hV;have hw0:(d0.weights Try.prog 87).all (·≤reachBytes)=true:=List.all_eq_true.2 fun n hn=>List.all_eq_true.1 hwt n (DataW.weights_mem_each (j:=0) rfl rfl n hn);obtain ⟨n,fr,picks,Ss,aS,aP,cS,cP,rfl,hP,hcap,hS,hl,hSl⟩:=Xbr (hval 0 87 _ rfl rfl) h0 hw0;clear hA0 hval0;simp only [List.append_nil] at hW' hlt;have hfine:XgT (fun u W'=>Rows.ringPlaysSpec.post enc Try.prog Try.f6 false true false false W #[UF n fr (.slice aS Ss.length cS) (.slice aP picks.length cP)] u { W' with os:=W.os }∧OsLater W.os W'.os) { Ch:=fun _=>none,h:=0,d:=0,n:=1,lo:=W.heap.size,io:=XcR W } W:=fun w hio hsz hold=>by
  simp only [XcR,Prod.mk.injEq] at hio;have hb:Below W.heap.size W { w with os:=W.os,tape:=W.tape }:=⟨rfl,rfl,hio.2,hsz,hold⟩
  refine ⟨⟨_,_,_,[],p,[],hW',trodAll_mk1 (shut_bool Try.underlying4 _),trodAll_mk1 (DataW.Trod.of_heap (w:={ w with os:=W.os,tape:=W.tape }) (w':={ w with os:=W.os }) rfl (Below.trod (by kernel_rfl) (by kernel_rfl) (of_decide_eq_true (by kernel_rfl)) h0 hb hlt)),rfl,⟨rfl,hio.2,fun i hi=>by
   show match W.heap[i]?,w.heap[i]? with|some (.cells c t fr),some (.cells c' t' fr')=>_|some (.map es clock),some (.map es' clock')=>_|o,o'=>_
   rw [hold i hi];split<;>simp_all⟩,fun h=>by cases h⟩,?_⟩
  rw [hio.1];exact OsLater.refl _
 have hJ:JG Try.prog (fun u W'=>Rows.ringPlaysSpec.post enc Try.prog Try.f6 false true false false W #[UF n fr (.slice aS Ss.length cS) (.slice aP picks.length cP)] u { W' with os:=W.os }∧OsLater W.os W'.os) { Ch:=fun _=>none,h:=0,d:=0,n:=1,lo:=W.heap.size,io:=XcR W }
  (G (Frame.enter Try.prog 6 #[UF n fr (.slice aS Ss.length cS) (.slice aP picks.length cP)] .normal) []) W:=by
  exact VL ⟨rfl,rfl,rfl,fun _=>rfl,rfl⟩ hfine hP hcap hS hl hSl
 exact J.begin (hJ W (.self fun a ⟨i,s,v,hi,e,hv⟩=>by cases e))
theorem proved:Rows.RingPlaysSaid :=
 OpenClaim.holds_of_wide_leaving_time 6 Try.f6 rfl rfl rfl rfl rfl rfl rfl ⟨rfl,rfl,rfl,rfl,rfl⟩ rfl rfl rfl rfl rfl (by kernel_rfl) Try.func6 (by kernel_rfl)
  (of_decide_eq_true (by kernel_rfl)) (by unfold Func.isWrapper;first|(rw [if_pos (by decide +kernel)];kernel_rfl)|(rw [if_neg (by decide +kernel)];exact ⟨rfl,rfl⟩))
  (fun os started H enc _ F=>lifted os started H enc F)

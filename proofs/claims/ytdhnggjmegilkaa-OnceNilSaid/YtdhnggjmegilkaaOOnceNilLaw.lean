/- OnceNil: for every input the law returns true and each argument reads behind the call as it read before. Conditions: the row's own (calm tapes; the clocks alone may advance). -/
import Derived.Test.YtdhnggjmegilkaaRows
import Derived.Test.YtdhnggjmegilkaaOOnG
import Derived.Lib.SmallJoins
import Derived.ChangeSame
import Derived.Lay
import Derived.Conc.HoldsTime
set_option linter.all false
set_option maxRecDepth 100000
set_option maxHeartbeats 16000000
namespace Go.Proofs.Ytdhnggjmegilkaa.onceNil
open Go.Joins Go.Deep Go.ChangeShapes Go.WideShapes Go.ChangeAt Go.RowKit Go.Conc Go.ConcM
theorem own:ownKnob Try.prog.godebug=none:=by kernel_rfl
theorem lifted (os:Os) (started:os.Started) (H:Type) (enc:TypeId × Value→H) (F:Stop.Interp) :
 ReturnsInLeavingWide Rows.onceNilRow.assume Try.checked os 9 .any (Rows.onceNilSpec.pre6 enc Try.prog Try.f9 Rows.onceNilRow.domain false) ((OpenSpec.ofChange Rows.onceNilSpec).postWith enc Try.prog Try.f9 F (outsideKept [.timePasses]) false true false):=by
 refine returnsInLeavingWide_of_change_time (C:=Try.checked) own started Try.func9
  (ChangeSpec.witness6c (enc:=enc) (C:=Try.checked) ⟨#[],#[],[]⟩ 8 (by kernel_rfl) (by kernel_rfl) (by kernel_rfl) (by kernel_rfl)) ?_
 intro W base args ds gs before hval0 hW _ _ _;have hval:∀ (j:Nat) t v,Try.f9.params[j]? = some t→args[j]? = some v→Value.okWide Try.prog W .any base t v:=hval0;have hW':=hW;obtain ⟨p,q,hA0,hV,rfl,_,_⟩:=hW;have hA:DataW.TrodAll enc Try.prog W 0 (fun _=>true) true Try.f9.params.toList args.toList ds p:=hA0;rw [Try.params9] at hA hval;obtain ⟨rfl,rfl,rfl⟩:=trodAll_none hA;obtain ⟨rfl,rfl⟩:=trodVars_none hV;clear hA0 hval0;simp only [List.append_nil] at hW';have hfine:XgT (fun u W'=>Rows.onceNilSpec.post enc Try.prog Try.f9 false true false false W #[] u { W' with os:=W.os }∧OsLater W.os W'.os) { Ch:=fun _=>none,h:=0,d:=0,n:=1,lo:=W.heap.size,io:=XcR W } W:=fun w hio hsz hold=>by
  simp only [XcR,Prod.mk.injEq] at hio;refine ⟨⟨_,_,_,[],[],[],hW',trodAll_mk1 (shut_bool Try.underlying4 _),trodAll_mk0,rfl,⟨rfl,hio.2,fun i hi=>by
   show match W.heap[i]?,w.heap[i]? with|some (.cells c t fr),some (.cells c' t' fr')=>_|some (.map es clock),some (.map es' clock')=>_|o,o'=>_
   rw [hold i hi];split<;>simp_all⟩,fun h=>by cases h⟩,?_⟩
  rw [hio.1];exact OsLater.refl _
 have hJ:JG Try.prog (fun u W'=>Rows.onceNilSpec.post enc Try.prog Try.f9 false true false false W #[] u { W' with os:=W.os }∧OsLater W.os W'.os) { Ch:=fun _=>none,h:=0,d:=0,n:=1,lo:=W.heap.size,io:=XcR W }
  (G (Frame.enter Try.prog 9 #[] .normal) []) W:=by
  exact onceNil_all ⟨rfl,rfl,rfl,fun _=>rfl,rfl⟩ hfine
 exact J.begin (hJ W (.self fun a ⟨i,s,v,hi,e,hv⟩=>by cases e))
theorem proved:Rows.OnceNilSaid :=
 OpenClaim.holds_of_wide_leaving_time 9 Try.f9 rfl rfl rfl rfl rfl rfl rfl ⟨rfl,rfl,rfl,rfl,rfl⟩ rfl rfl rfl rfl rfl (by kernel_rfl) Try.func9 (by kernel_rfl)
  (of_decide_eq_true (by kernel_rfl)) (by unfold Func.isWrapper;first|(rw [if_pos (by decide +kernel)];kernel_rfl)|(rw [if_neg (by decide +kernel)];exact ⟨rfl,rfl⟩))
  (fun os started H enc _ F=>lifted os started H enc F)

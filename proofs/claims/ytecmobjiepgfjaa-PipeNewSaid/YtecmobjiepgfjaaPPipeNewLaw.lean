/- PipeNew: for every input the law returns true and each argument reads behind the call as it read before. Conditions: the row's own (calm tapes; the clocks alone may advance). -/
import Derived.Test.YtecmobjiepgfjaaRows
import Derived.Test.YtecmobjiepgfjaaPPpI
import Derived.Test.YtecmobjiepgfjaaPPpJ
import Derived.Lay
import Derived.Conc.HoldsTime
namespace Go.Proofs.Ytecmobjiepgfjaa.pipeNew
open Go.ChangeShapes Go.WideShapes Go.ChangeAt Go.RowKit Go.Conc Go.ConcM
theorem own : ownKnob Try.prog.godebug = none := by kernel_rfl
set_option maxRecDepth 100000 in
theorem lifted (os : Os) (started : os.Started) (H : Type) (enc : TypeId × Value → H) (F : Stop.Interp) :
    ReturnsInLeavingWide Rows.pipeNewRow.assume Try.checked os 10 .any (Rows.pipeNewSpec.pre6 enc Try.prog Try.f10 Rows.pipeNewRow.domain false) ((OpenSpec.ofChange Rows.pipeNewSpec).postWith enc Try.prog Try.f10 F (outsideKept [.timePasses]) false true false) := by
  refine returnsInLeavingWide_of_change_time (C := Try.checked) own started Try.func10
    (ChangeSpec.witness6c (enc := enc) (C := Try.checked) ⟨#[], #[.int .i64 0, .int .i64 0, .bool false], []⟩ 8 (by kernel_rfl) (by kernel_rfl) (by kernel_rfl) (by kernel_rfl)) ?_
  intro W base args ds gs before hval0 hW _ _ _
  have hval : ∀ (j : Nat) t v, Try.f10.params[j]? = some t → args[j]? = some v → Value.okWide Try.prog W .any base t v := hval0
  have hW' := hW
  obtain ⟨p, q, hA0, hV, rfl, _, _⟩ := hW
  have hA : DataW.TrodAll enc Try.prog W 0 (fun _ => true) true Try.f10.params.toList args.toList ds p := hA0
  rw [Try.params10] at hA hval
  obtain ⟨v0, v1, v2, d0, d1, d2, p0, p1, p2, rfl, rfl, rfl, h0, h1, h2⟩ := trodAll_three hA
  obtain ⟨rfl, rfl⟩ := trodVars_none hV
  obtain ⟨n, rfl, rfl, rfl, w0⟩ := open_int Try.underlying3 (hval 0 3 v0 rfl rfl) h0
  obtain ⟨v, rfl, rfl, rfl, w1⟩ := open_int Try.underlying2 (hval 1 2 v1 rfl rfl) h1
  obtain ⟨own', rfl, rfl, rfl⟩ := open_bool Try.underlying4 (hval 2 4 v2 rfl rfl) h2
  clear hA0 hval0
  simp only [List.append_nil] at hW'
  have hfine : Fine (fun u W' => Rows.pipeNewSpec.post enc Try.prog Try.f10 false true false false W #[.int .i64 n, .int .i64 v, .bool own'] u { W' with os := W.os } ∧ OsLater W.os W'.os) { Ch := fun _ => none, h := 0, d := 0, n := 1, lo := W.heap.size, io := ioOf W } W := fun w hio hsz hold => by
    simp only [ioOf, Prod.mk.injEq] at hio
    refine ⟨⟨_, _, _, [], [], [], hW', trodAll_mk1 (shut_bool Try.underlying4 _), trodAll_mk3 (shut_int Try.underlying3 w0) (shut_int Try.underlying2 w1) (shut_bool Try.underlying4 own'), rfl, ⟨rfl, hio.2, fun i hi => by
      show match W.heap[i]?, w.heap[i]? with | some (.cells c t fr), some (.cells c' t' fr') => _ | some (.map es clock), some (.map es' clock') => _ | o, o' => _
      rw [hold i hi]; split <;> simp_all⟩, fun h => by cases h⟩, ?_⟩
    rw [hio.1]; exact OsLater.refl _
  have hJ : JG Try.prog (fun u W' => Rows.pipeNewSpec.post enc Try.prog Try.f10 false true false false W #[.int .i64 n, .int .i64 v, .bool own'] u { W' with os := W.os } ∧ OsLater W.os W'.os) { Ch := fun _ => none, h := 0, d := 0, n := 1, lo := W.heap.size, io := ioOf W }
      (G (Frame.enter Try.prog 10 #[.int .i64 n, .int .i64 v, .bool own'] .normal) []) W := by
    have hC : First { Ch := fun _ => none, h := 0, d := 0, n := 1, lo := W.heap.size, io := ioOf W } W := ⟨rfl, rfl, rfl, fun _ => rfl, rfl⟩
    cases h1 : decide (n < 2) with
    | true => exact pipeNewF_J h1 rfl rfl rfl hC hfine
    | false =>
      cases h2 : decide (4096 < n) with
      | true => exact pipeNewF_J h1 h2 rfl rfl hC hfine
      | false =>
        cases h3 : (bits .and .i64 n (wrap64 (n - 1)) != 0) with
        | true => exact pipeNewF_J h1 h2 h3 rfl hC hfine
        | false =>
          have g1 : 2 ≤ n := by simpa using h1
          have g2 : n ≤ 4096 := by simpa using h2
          obtain ⟨m, rfl⟩ : ∃ m : Nat, n = (m : Int) := ⟨n.toNat, by omega⟩
          cases own' with
          | true => exact pipeNewT_J (by omega) (by omega) (by simpa using h3) hC hfine
          | false => exact pipeNewN_J (by omega) (by omega) (by simpa using h3) hC hfine
  exact J.begin (hJ W (.self fun a ⟨i, s, v, hi, e, hv⟩ => by cases e))
theorem proved : Rows.PipeNewSaid :=
  OpenClaim.holds_of_wide_leaving_time 10 Try.f10 rfl rfl rfl rfl rfl rfl rfl ⟨rfl, rfl, rfl, rfl, rfl⟩ rfl rfl rfl rfl rfl (by kernel_rfl) Try.func10 (by kernel_rfl)
    (of_decide_eq_true (by kernel_rfl)) (by unfold Func.isWrapper; first | (rw [if_pos (by decide +kernel)]; kernel_rfl) | (rw [if_neg (by decide +kernel)]; exact ⟨rfl, rfl⟩))
    (fun os started H enc _ F => lifted os started H enc F)
end Go.Proofs.Ytecmobjiepgfjaa.pipeNew

/- CellNil: for every input the law returns true and each argument reads behind the call as it read before. Conditions: the row's own (calm tapes; the clocks alone may advance). -/
import Derived.Test.YtecmobjiepgfjaaRows
import Derived.Test.YtecmobjiepgfjaaNRoK
import Derived.Lib.SmallJoins
import Derived.ChangeSame
import Derived.Lay
import Derived.Conc.HoldsTime
namespace Go.Proofs.Ytecmobjiepgfjaa.cellNil
open Go.Joins Go.Deep Go.ChangeShapes Go.WideShapes Go.ChangeAt Go.RowKit Go.Conc Go.ConcM
theorem own : ownKnob Try.prog.godebug = none := by kernel_rfl
set_option maxRecDepth 100000 in
theorem lifted (os : Os) (started : os.Started) (H : Type) (enc : TypeId × Value → H) (F : Stop.Interp) :
    ReturnsInLeavingWide Rows.cellNilRow.assume Try.checked os 5 .any (Rows.cellNilSpec.pre6 enc Try.prog Try.f5 Rows.cellNilRow.domain false) ((OpenSpec.ofChange Rows.cellNilSpec).postWith enc Try.prog Try.f5 F (outsideKept [.timePasses]) false true false) := by
  refine returnsInLeavingWide_of_change_time (C := Try.checked) own started Try.func5
    (ChangeSpec.witness6c (enc := enc) (C := Try.checked) ⟨#[], #[.agg #[.int .i8 0, .int .i64 0, .int .i64 0, .int .i64 0]], []⟩ 8 (by kernel_rfl) (by kernel_rfl) (by kernel_rfl) (by kernel_rfl)) ?_
  intro W base args ds gs before hval0 hW _ _ _
  have hval : ∀ (j : Nat) t v, Try.f5.params[j]? = some t → args[j]? = some v → Value.okWide Try.prog W .any base t v := hval0
  have hW' := hW
  obtain ⟨p, q, hA0, hV, rfl, _, _⟩ := hW
  have hA : DataW.TrodAll enc Try.prog W 0 (fun _ => true) true Try.f5.params.toList args.toList ds p := hA0
  rw [Try.params5] at hA hval
  obtain ⟨v0, d0, rfl, rfl, h0⟩ := trodAll_one hA
  obtain ⟨rfl, rfl⟩ := trodVars_none hV
  obtain ⟨a0, a1, a2, a3, y0, y1, y2, y3, nn, rfl, rfl, rfl, t0, t1, t2, t3⟩ := open_agg4 Try.underlying38 (by kernel_rfl) (by kernel_rfl) (hval 0 38 _ rfl rfl) h0
  obtain ⟨n0, e0, rfl, w0⟩ := DataW.trod_int Try.underlying36 t0
  obtain ⟨n1, e1, rfl, w1⟩ := DataW.trod_int Try.underlying3 t1
  obtain ⟨n2, e2, rfl, w2⟩ := DataW.trod_int Try.underlying2 t2
  obtain ⟨n3, e3, rfl, w3⟩ := DataW.trod_int Try.underlying2 t3
  obtain rfl : a0 = .int .i8 n0 := by simpa using e0
  obtain rfl : a1 = .int .i64 n1 := by simpa using e1
  obtain rfl : a2 = .int .i64 n2 := by simpa using e2
  obtain rfl : a3 = .int .i64 n3 := by simpa using e3
  clear t0 t1 t2 t3 e0 e1 e2 e3
  have hshut : ∀ (W' : World) (sp : Nat → Bool), DataW.Trod enc Try.prog W' 0 sp true 38 (.agg #[.int .i8 n0, .int .i64 n1, .int .i64 n2, .int .i64 n3]) (.agg [.lit (.int .i8 n0), .lit (.int .i64 n1), .lit (.int .i64 n2), .lit (.int .i64 n3)]) [] := fun W' sp =>
    ⟨2, trod_struct_mk (n := 1) (xs := [(.lit (.int .i8 n0), []), (.lit (.int .i64 n1), []), (.lit (.int .i64 n2), []), (.lit (.int .i64 n3), [])]) Try.underlying38 (by kernel_rfl) (by
      have q0 : Try.prog.cellsOf 36 = 1 := by kernel_rfl
      have q1 : Try.prog.cellsOf 3 = 1 := by kernel_rfl
      have q2 : Try.prog.cellsOf 2 = 1 := by kernel_rfl
      have r0 := trod_int_mk (enc := enc) (w := W') (base := 0) (spare := sp) (held := true) 0 Try.underlying36 w0
      have r1 := trod_int_mk (enc := enc) (w := W') (base := 0) (spare := sp) (held := true) 0 Try.underlying3 w1
      have r2 := trod_int_mk (enc := enc) (w := W') (base := 0) (spare := sp) (held := true) 0 Try.underlying2 w2
      have r3 := trod_int_mk (enc := enc) (w := W') (base := 0) (spare := sp) (held := true) 0 Try.underlying2 w3
      simp [Value.cells, q0, q1, q2, r0, r1, r2, r3])⟩
  clear hA0 hval0
  simp only [List.append_nil] at hW'
  have hfine : Fine (fun u W' => Rows.cellNilSpec.post enc Try.prog Try.f5 false true false false W #[.agg #[.int .i8 n0, .int .i64 n1, .int .i64 n2, .int .i64 n3]] u { W' with os := W.os } ∧ OsLater W.os W'.os) { Ch := fun _ => none, h := 0, d := 0, n := 1, lo := W.heap.size, io := ioOf W } W := fun w hio hsz hold => by
    simp only [ioOf, Prod.mk.injEq] at hio
    refine ⟨⟨_, _, _, [], [], [], hW', trodAll_mk1 (shut_bool Try.underlying4 _), trodAll_mk1 (hshut _ _), rfl, ⟨rfl, hio.2, fun i hi => by
      show match W.heap[i]?, w.heap[i]? with | some (.cells c t fr), some (.cells c' t' fr') => _ | some (.map es clock), some (.map es' clock') => _ | o, o' => _
      rw [hold i hi]; split <;> simp_all⟩, fun h => by cases h⟩, ?_⟩
    rw [hio.1]; exact OsLater.refl _
  have hJ : JG Try.prog (fun u W' => Rows.cellNilSpec.post enc Try.prog Try.f5 false true false false W #[.agg #[.int .i8 n0, .int .i64 n1, .int .i64 n2, .int .i64 n3]] u { W' with os := W.os } ∧ OsLater W.os W'.os) { Ch := fun _ => none, h := 0, d := 0, n := 1, lo := W.heap.size, io := ioOf W }
      (G (Frame.enter Try.prog 5 #[.agg #[.int .i8 n0, .int .i64 n1, .int .i64 n2, .int .i64 n3]] .normal) []) W := by
    exact cellNil_all ⟨rfl, rfl, rfl, fun _ => rfl, rfl⟩ hfine
  exact J.begin (hJ W (.self fun a ⟨i, s, v, hi, e, hv⟩ => by cases e))
theorem proved : Rows.CellNilSaid :=
  OpenClaim.holds_of_wide_leaving_time 5 Try.f5 rfl rfl rfl rfl rfl rfl rfl ⟨rfl, rfl, rfl, rfl, rfl⟩ rfl rfl rfl rfl rfl (by kernel_rfl) Try.func5 (by kernel_rfl)
    (of_decide_eq_true (by kernel_rfl)) (by unfold Func.isWrapper; first | (rw [if_pos (by decide +kernel)]; kernel_rfl) | (rw [if_neg (by decide +kernel)]; exact ⟨rfl, rfl⟩))
    (fun os started H enc _ F => lifted os started H enc F)
end Go.Proofs.Ytecmobjiepgfjaa.cellNil

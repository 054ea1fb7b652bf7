/- JudgeFinds: for every input the law returns true and each argument reads behind the call as it read before. No condition beyond the card's own (the listed tables of Go's library). -/
import Derived.Test.YtonnlgpjobfnmaaDoorRows
import Derived.Test.YtonnlgpjobfnmaaDoorTie
import Derived.Test.YtonnlgpjobfnmaaDoorCards
import Derived.Test.YtonnlgpjobfnmaaDoorLawKit
import Derived.Test.YtonnlgpjobfnmaaDoorOpenC
import Derived.Test.YtonnlgpjobfnmaaDoorFindK
import Derived.Lay
import Derived.SevenTiedAt
namespace Go.Proofs.YtonnlgpjobfnmaaDoor.judgeFinds
open Go.ChangeShapes Go.WideShapes Go.ChangeAt Go.RowKit
set_option maxRecDepth 100000 in
theorem lifted (os : Os) (started : os.Started) (H : Type) (enc : TypeId × Value → H) :
    ReturnsInHanded {} Tryd.checked os 4 .any (fun w args => (Rows.judgeFindsSpec.pre enc Tryd.prog Tryd.f4 Rows.judgeFindsRow.domain false w args ∧ laidMetH Tryd.prog laid3 w) ∧ sizedMet enc Tryd.prog Tryd.f4 (OpenSpec.ofChange Rows.judgeFindsSpec) false w args)
      (Rows.judgeFindsSpec.post enc Tryd.prog Tryd.f4 false true false false) := by
  refine returnsInHanded_of_change_and (C := Tryd.checked) (X := fun w _ => laidMetH Tryd.prog laid3 w) (fun _ _ _ hh h => h.of_heap hh) own started (by kernel_rfl) Tryd.func4
    (ChangeSpec.witness_shaped (enc := enc) (C := Tryd.checked) (os := os) (X := fun w _ => laidMetH Tryd.prog laid3 w) false (World.laidAll Tryd.prog os laid3) #[.int .i64 0, .slice none 0 0, .slice none 0 0, .slice none 0 0] 8 (World.laidAll_os _ _ _)
      (World.shaped_of_ZipB (by kernel_rfl) (by kernel_rfl)) (by kernel_rfl) (by kernel_rfl) (by kernel_rfl)
      (by rw [MakeChecks.laidMetH_plain _ _ _ (by kernel_rfl)]; exact laidMet_laidAll _ (by kernel_rfl) (by kernel_rfl))) ?_
  intro W base args ds gs before hval0 hW _ _ hL _
  have hval : ∀ (j : Nat) t v, Tryd.f4.params[j]? = some t → args[j]? = some v → Value.okWide Tryd.prog W .any base t v := hval0
  have hW' := hW
  have hlt : ∀ p ∈ before, p.block < W.heap.size := fun p hp => hW.lt p hp
  obtain ⟨p, q, hA0, hV, rfl, _, _⟩ := hW
  have hA : DataW.TrodAll enc Tryd.prog W 0 (fun _ => true) true Tryd.f4.params.toList args.toList ds p := hA0
  rw [Tryd.params4] at hA hval
  obtain ⟨v0, v1, v2, v3, d0, d1, d2, d3, p0, p1, p2, p3, rfl, rfl, rfl, h0, h1, h2, h3⟩ := trodAll_four hA
  obtain ⟨rfl, rfl⟩ := trodVars_none hV
  obtain ⟨k, rfl, rfl, rfl, hkw⟩ := open_int Tryd.underlying3 (hval 0 3 v0 rfl rfl) h0
  obtain ⟨a1, n1, c1, rfl⟩ := okWide_slice Tryd.underlying22 (hval 1 22 v1 rfl rfl)
  obtain ⟨a2, n2, c2, rfl⟩ := okWide_slice Tryd.underlying53 (hval 2 53 v2 rfl rfl)
  obtain ⟨a3, n3, c3, rfl⟩ := okWide_slice Tryd.underlying53 (hval 3 53 v3 rfl rfl)
  have h1' := h1
  obtain ⟨fuel1, hf1⟩ := h1'
  obtain ⟨L1, rfl, hc1, hm1, hlog⟩ := open_cals hf1
  have h2' := h2
  obtain ⟨fuel2, hf2⟩ := h2'
  obtain ⟨L2, rfl, hc2, hm2, hb2⟩ := open_u8s hf2
  have h3' := h3
  obtain ⟨fuel3, hf3⟩ := h3'
  obtain ⟨L3, rfl, hc3, hm3, hb3⟩ := open_u8s hf3
  clear hA0 hval0 hf1 hf2 hf3
  simp only [List.append_nil] at hW' hlt
  refine (finds_any k a1 a2 a3 c1 c2 c3 L1 L2 L3 W hlog hb2 hb3 (tens_of_laid hL)).mono fun e W' ⟨he, hb⟩ => ?_
  subst he
  have hl1 : ∀ p ∈ p1, p.block < W.heap.size := fun p hp => hlt p (by simp [hp])
  have hl2 : ∀ p ∈ p2, p.block < W.heap.size := fun p hp => hlt p (by simp [hp])
  have hl3 : ∀ p ∈ p3, p.block < W.heap.size := fun p hp => hlt p (by simp [hp])
  exact ⟨_, rfl, _, _, _, [], _, [], hW', trodAll_mk1 (shut_bool Tryd.underlying4 _), trodAll_mk4 (shut_int Tryd.underlying3 hkw) (Below.trod (by kernel_rfl) (by kernel_rfl) (of_decide_eq_true (by kernel_rfl)) h1 hb hl1) (Below.trod (by kernel_rfl) (by kernel_rfl) (of_decide_eq_true (by kernel_rfl)) h2 hb hl2) (Below.trod (by kernel_rfl) (by kernel_rfl) (of_decide_eq_true (by kernel_rfl)) h3 hb hl3), rfl, hb.frame _, fun h => by cases h⟩
theorem over : Rows.JudgeFindsSaid :=
  OpenClaim.holds_of_wide 4 Tryd.f4 rfl rfl rfl rfl rfl rfl rfl ⟨rfl, rfl, rfl, rfl, rfl⟩ rfl rfl rfl rfl rfl (by kernel_rfl) Tryd.func4 (by kernel_rfl)
    (of_decide_eq_true (by kernel_rfl)) (by unfold Func.isWrapper; first | (rw [if_pos (by decide +kernel)]; kernel_rfl) | (rw [if_neg (by decide +kernel)]; exact ⟨rfl, rfl⟩))
    (fun os started H enc _ => lifted os started H enc)
/-- The statement. -/
theorem proved : Rows.JudgeFindsCardSaid :=
  Claim7.holds_tied_plain_at .later [] [.data, .data, .data] true Rows.judgeFindsCard.stood.harness Rows.judgeFindsCard.stood.looks over (fun _ h => by cases h) (by kernel_rfl) (fun _ h => by cases h) judgeFinds_row_tie rfl ⟨rfl, rfl⟩ (by kernel_rfl) rfl
    (fun f fn hf hfn => by
      obtain rfl : f = 4 := Option.some.inj ((show Tryd.prog.funcNamed "treadle/treadlelaw26.JudgeFinds" = some 4 by kernel_rfl).symm.trans hf) |>.symm
      obtain rfl : fn = Tryd.f4 := (Option.some.inj (Tryd.func4.symm.trans hfn)).symm
      exact ⟨by kernel_rfl, fun j t ht => by
        rw [Tryd.params4] at ht
        have hm : t ∈ [3, 22, 53, 53] := by simpa using Array.mem_of_getElem? ht
        have hall : ([3, 22, 53, 53].all fun u => !Tryd.prog.wantsStandIn u) = true := by kernel_rfl
        exact (show Tryd.prog.wantsStandIn t = false by simpa using List.all_eq_true.1 hall t hm)⟩)
    (by kernel_rfl)
end Go.Proofs.YtonnlgpjobfnmaaDoor.judgeFinds

/- ChoiceFair: for every input the law returns true and each argument reads behind the call as it read before. No condition. -/
import Derived.Test.YtdbllffkpkkggaaRows
import Derived.Test.YtdbllffkpkkggaaFairG
import Derived.Test.YtdbllffkpkkggaaWrap
import Derived.WalkKit
import Derived.ProofKit
import Derived.OpenShut
import Derived.Deep.Grids
namespace Go.Proofs.Ytdbllffkpkkggaa.choiceFair
open Go.ChangeShapes Go.WideShapes Go.ChangeAt Go.RowKit Go.Deep

theorem own : ownKnob Try.prog.godebug = none := by kernel_rfl

/-- The slice of bools among the arguments. -/
theorem open_ready {H : Type} {enc : TypeId × Value → H} {w : World} {v : Value} {fuel : Nat} {x : DataW H × List MemPlace}
    (h : DataW.trod enc Try.prog w 0 (fun _ => true) true fuel 22 [v] = some x) : ∃ (a : Option Addr) (n cap : Nat) (rd : Nat → Bool), v = .slice a n cap ∧ BoolsAt w a n rd := by
  rcases open_bools Try.underlying22 Try.underlying4 (by kernel_rfl) h with ⟨hcs, _⟩ | ⟨a, len, cap, B, hcs, _, hl, _, _, hcell⟩
  · injection hcs with hcs
    exact ⟨none, 0, 0, fun _ => false, hcs, fun j hj => by omega⟩
  · injection hcs with hcs
    refine ⟨some a, len, cap, B, hcs, fun j hj => ?_⟩
    obtain ⟨g, off, spot⟩ := a
    have hs : spot = none := by
      have h1 := World.cell?_spot (hcell 0 (by omega))
      simpa [Addr.add] using h1
    subst hs
    have h0 := hcell j (by omega)
    have hadd : (⟨g, off, none⟩ : Addr).add j = ⟨g, off + j, none⟩ := by simp [Addr.add]
    rw [hadd] at h0
    exact ⟨g, off, rfl, World.block_lt_of_cell? w _ h0, h0⟩

set_option maxRecDepth 100000 in
theorem lifted (os : Os) (started : os.Started) (H : Type) (enc : TypeId × Value → H) :
    ReturnsInHanded {} Try.checked os 3 .any (Rows.choiceFairSpec.pre6 enc Try.prog Try.f3 Rows.choiceFairRow.domain false) (Rows.choiceFairSpec.post enc Try.prog Try.f3 false true false false) := by
  refine returnsInHanded_of_change (C := Try.checked) own started (by kernel_rfl) Try.func3
    (ChangeSpec.witness6 (enc := enc) (C := Try.checked) false ⟨#[], #[.int .i64 0, .int .i64 0, .slice none 0 0], []⟩ 8 (by kernel_rfl) (by kernel_rfl) (by kernel_rfl) (by kernel_rfl)) ?_
  intro W base args ds gs before hval0 hW hcnd _
  have hval : ∀ (j : Nat) t v, Try.f3.params[j]? = some t → args[j]? = some v → Value.okWide Try.prog W .any base t v := hval0
  have hW' := hW
  have hlt : ∀ p ∈ before, p.block < W.heap.size := fun p hp => hW.lt p hp
  obtain ⟨p, q, hA0, hV, rfl, hfz, hnd⟩ := hW
  have hA : DataW.TrodAll enc Try.prog W 0 (fun _ => true) true Try.f3.params.toList args.toList ds p := hA0
  rw [Try.params3] at hA hval
  obtain ⟨v0, v1, v2, d0, d1, d2, p0, p1, p2, rfl, rfl, rfl, h0, h1, h2⟩ := trodAll_three hA
  obtain ⟨rfl, rfl⟩ := trodVars_none hV
  obtain ⟨a0, rfl, rfl, rfl, w0⟩ := open_int Try.underlying3 (hval 0 3 v0 rfl rfl) h0
  obtain ⟨a1, rfl, rfl, rfl, w1⟩ := open_int Try.underlying3 (hval 1 3 v1 rfl rfl) h1
  obtain ⟨ra, n, rc, rfl⟩ := okWide_slice Try.underlying22 (hval 2 22 v2 rfl rfl)
  obtain ⟨fuel, hf⟩ := id h2
  obtain ⟨ra', n', rc', rd, he, hb⟩ := open_ready hf
  injection he with e1 e2 e3
  subst e1 e2 e3
  clear hA0 hval0 hf
  simp only [List.append_nil, List.nil_append] at hW' hlt
  refine (choiceFair_walk a0 a1 ra n rc rd W hb).mono fun e W' ⟨he, hg⟩ => ?_
  subst he
  exact ⟨_, rfl, _, _, _, [], _, [], hW', trodAll_mk1 (shut_bool Try.underlying4 _), trodAll_mk3 (shut_int Try.underlying3 w0) (shut_int Try.underlying3 w1) (Below.trod (by kernel_rfl) (by kernel_rfl) (of_decide_eq_true (by kernel_rfl)) h2 hg hlt), rfl, hg.frame _, fun h => by cases h⟩

theorem over : Rows.choiceFairRow.holds Try.pinned (OpenSpec.ofChange Rows.choiceFairSpec) :=
  OpenClaim.holds_of_wide 3 Try.f3 rfl rfl rfl rfl rfl rfl rfl ⟨rfl, rfl, rfl, rfl, rfl⟩ rfl rfl rfl rfl rfl (by kernel_rfl) Try.func3 (by kernel_rfl)
    (of_decide_eq_true (by kernel_rfl)) (by unfold Func.isWrapper; first | (rw [if_pos (by decide +kernel)]; kernel_rfl) | (rw [if_neg (by decide +kernel)]; exact ⟨rfl, rfl⟩))
    (fun os started H enc _ => lifted os started H enc)

/-- The statement. -/
theorem proved : Rows.ChoiceFairSaid :=
  over
end Go.Proofs.Ytdbllffkpkkggaa.choiceFair

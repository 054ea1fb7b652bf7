/- The ring: where a position lies. -/
import Derived.Test.YtecmobjiepgfjaaGtO
namespace Go.Proofs.Ytecmobjiepgfjaa
open Go.Conc Go.RowKit
open Go.ConcN (upd upd_same upd_ne)
set_option linter.unusedSimpArgs false
set_option linter.unusedVariables false
set_option maxRecDepth 100000
/-- Where a position lies among n places. -/
def ixZ (n : Nat) (p : Int) : Int := bits BinOp.and IntKind.u64 (IntKind.u64.wrap p) (IntKind.u64.wrap (wrap64 (↑n - 1)))
section
variable {Post : Value → World → Prop} {C : Ctx} {x : World} {c : Frame} {cs : List Frame} {rb pb n cap : Nat} {vi vo : Value} {p : Int}
set_option maxHeartbeats 1000000 in
theorem at_J (ho : x.heap[rb]? = some (.cells #[vi, vo, .slice (some ⟨pb, 0, none⟩) n cap] 115 (0, 0))) (hi0 : 0 ≤ ixZ n p) (hi1 : ixZ n p < n) (h : JG Try.prog Post C (G (c.finish (.pointer (some ⟨pb, (ixZ n p).toNat * 2, none⟩))) cs) x) :
    JG Try.prog Post C (G (Frame.enter Try.prog 111 #[P0 rb, .int .i64 p] .normal) (c :: cs)) x := by
  refine enterN Try.func111 (by rfl) (by rfl) ?_
  simp only [Try.f111, Option.getD_some]
  walk_nrm
  have h2 : x.cell? (th rb 2) = some (.slice (some ⟨pb, 0, none⟩) n cap) := cell_obj ho 2
  repeat first
    | refine JG.seq ?_
    | refine JG.skip ?_
    | refine JG.inBlock ?_
    | refine JG.block ?_
    | refine JG.done ?_
    | refine JG.label ?_
    | refine JG.condT rfl ?_
    | refine JG.condF rfl ?_
    | (refine JG.region ?_; simp only [List.size_toArray, List.length_cons, List.length_nil, Nat.reduceAdd, Nat.zero_add, List.range, List.range.loop])
    | (refine JG.unwanted rfl (by rfl) ?_; try walk_nrm)
    | (refine JG.op (F := F0) stands0 (fun h => by cases h) rfl rfl (by rfl) (by decide) (fun K E hK hE τ d => ?_); go_simp; refine hK _ _ (JG.tap ?_); clear hK hE K E τ d; try walk_nrm)
    | (refine JG.op (F := F0) stands0 (fun h => by cases h) rfl rfl (by rfl) (by decide) (fun K E hK hE τ d => ?_); have hfact := (under_cell _ τ d _).trans (h2); go_simp; refine hK _ _ (JG.tap ?_); clear hfact hK hE K E τ d; try walk_nrm)
  refine JG.code (closedG _) (by kernel_rfl) rfl (.inr (by kernel_rfl)) rfl (fun K R hK hR τ => ?_)
  replace hK := Lib.hid hK
  clear hR
  have k2 : (under x τ 0).cell? (th rb 2) = some (.slice (some ⟨pb, 0, none⟩) n cap) := h2
  have hrb : rb < (under x τ 0).heap.size := cell_lt k2
  unfold ixZ at hi0 hi1
  replace h := Lib.hid h
  go_region
  refine hK.out _ _ (JG.tap (x := x) (τ := τ) (d := 1) ?_)
  clear hK k2 hrb K R
  refine JG.ret ?_
  exact JG.leave rfl rfl Try.func111 (fun τ d => results_tmp (t := 4) rfl _ _ _) h.out
theorem rnone_J (ho : x.heap[rb]? = some (.cells #[.pointer (some ⟨pb, 0, none⟩), vo, vi] 115 (0, 0))) (h : JG Try.prog Post C (G (c.finish (.bool false)) cs) x) : JG Try.prog Post C (G (Frame.enter Try.prog 109 #[P0 rb] .normal) (c :: cs)) x := by
  refine enterN Try.func109 (by rfl) (by rfl) ?_
  simp only [Try.f109, Option.getD_some]
  walk_nrm
  have h0 : x.cell? (th rb 0) = some (.pointer (some ⟨pb, 0, none⟩)) := cell_obj ho 0
  repeat first
    | refine JG.seq ?_
    | refine JG.skip ?_
    | refine JG.inBlock ?_
    | refine JG.block ?_
    | refine JG.done ?_
    | refine JG.label ?_
    | refine JG.condT rfl ?_
    | refine JG.condF rfl ?_
    | (refine JG.region ?_; simp only [List.size_toArray, List.length_cons, List.length_nil, Nat.reduceAdd, Nat.zero_add, List.range, List.range.loop])
    | (refine JG.unwanted rfl (by rfl) ?_; try walk_nrm)
    | (refine JG.op (F := F0) stands0 (fun h => by cases h) rfl rfl (by rfl) (by decide) (fun K E hK hE τ d => ?_); go_simp; refine hK _ _ (JG.tap ?_); clear hK hE K E τ d; try walk_nrm)
    | (refine JG.op (F := F0) stands0 (fun h => by cases h) rfl rfl (by rfl) (by decide) (fun K E hK hE τ d => ?_); have hfact := (under_cell _ τ d _).trans (h0); go_simp; refine hK _ _ (JG.tap ?_); clear hfact hK hE K E τ d; try walk_nrm)
  refine JG.ret ?_
  exact JG.leave rfl rfl Try.func109 (fun τ d => results_tmp (t := 2) rfl _ _ _) h
end
end Go.Proofs.Ytecmobjiepgfjaa

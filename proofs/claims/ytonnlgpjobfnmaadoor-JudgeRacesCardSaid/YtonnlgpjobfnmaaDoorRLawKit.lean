/- What the rows of this seat share: the laid table of the powers of ten; the post where the walk says Below. No conditions. -/
import Derived.Test.YtonnlgpjobfnmaaDoorRows
import Derived.Test.YtonnlgpjobfnmaaDoorRJudgeH
import Derived.Lib.LaidTab
import Derived.LaidSub
import Derived.MakeChecks
import Derived.ProofKit
import Derived.Carry
namespace Go.Proofs.YtonnlgpjobfnmaaDoor
open Go.ChangeShapes Go.WideShapes Go.ChangeAt Go.RowKit
theorem own : ownKnob Tryd.prog.godebug = none := by kernel_rfl
def laid3 : List (String × DataW Unit) := [("math/bits.deBruijn32tab", Rows.laid_math_bits_deBruijn32tab), ("math/bits.deBruijn64tab", Rows.laid_math_bits_deBruijn64tab), ("internal/strconv.uint64pow10", Rows.laid_internal_strconv_uint64pow10)]
def isPow (x : String × DataW Unit) : Bool := x.1 == "internal/strconv.uint64pow10"
theorem laid3_pow : laid3.filter isPow = [("internal/strconv.uint64pow10", Lib.tabData .u64 Lib.pow10Tab)] := by kernel_rfl
theorem powB_true : (match Tryd.prog.globalNamed "internal/strconv.uint64pow10" with
  | some g => match (Tryd.prog.globals[g]?).map (·.type) with
    | some t => match Tryd.prog.underlying t with
      | some (.array n e) => (match Tryd.prog.underlying e with
        | some (.int .u64) => true
        | _ => false) && Tryd.prog.cellsOf e == 1 && Tryd.prog.cellsOf t == n
      | _ => false
    | _ => false
  | _ => false) = true := by kernel_rfl
theorem powG : ∃ g, Tryd.prog.globalNamed "internal/strconv.uint64pow10" = some g ∧ ∃ t, (Tryd.prog.globals[g]?).map (·.type) = some t ∧ ∃ n e, Tryd.prog.underlying t = some (.array n e) ∧ Tryd.prog.underlying e = some (.int .u64) ∧ Tryd.prog.cellsOf e = 1 ∧ Tryd.prog.cellsOf t = n := by
  have h := powB_true
  split at h
  · rename_i g hg
    split at h
    · rename_i t ht
      split at h
      · rename_i n e hn
        simp only [Bool.and_eq_true, beq_iff_eq] at h
        obtain ⟨⟨h1, h2⟩, h3⟩ := h
        split at h1
        · rename_i he
          exact ⟨g, hg, t, ht, n, e, hn, he, h2, h3⟩
        · cases h1
      · cases h
    · cases h
  · cases h
theorem tens_of_laid {W : World} (h : laidMetH Tryd.prog laid3 W) : Tens W := by
  have h1 := h.filter isPow
  rw [laid3_pow, MakeChecks.laidMetH_plain _ _ _ (by kernel_rfl)] at h1
  obtain ⟨g, hg, t, ht, n, e, hu, he, hc, hn⟩ := powG
  exact Lib.tabIs_of_head hg ht hu he hc hn h1
end Go.Proofs.YtonnlgpjobfnmaaDoor

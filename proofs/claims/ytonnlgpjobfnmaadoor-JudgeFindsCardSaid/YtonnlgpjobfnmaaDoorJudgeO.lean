/- The map of what has been: texts. Conditions: an own map. -/
import Derived.Test.YtonnlgpjobfnmaaDoorJudgeN
import Derived.Test.YtonnlgpjobfnmaaDoorJudgeD
namespace Go.Proofs.YtonnlgpjobfnmaaDoor
open Go.RowKit
set_option maxRecDepth 100000

def boolR : Value → Option (DataW Unit × List MemPlace)
  | .bool b => some (.lit (.bool b), [])
  | _ => none
theorem boolR_inv {v : Value} {b : Bool} {ps : List MemPlace} (h : boolR v = some (.lit (.bool b), ps)) : v = .bool b := by
  cases v <;> simp [boolR] at h
  rw [h.1]
theorem keyOf_str {s : List UInt8} (h : s.length ≤ maxLen) : keyOf Tryd.prog 9 (.string ⟨s.toArray⟩) = some (.string s) := by
  rw [keyOf_string Tryd.underlying9]
  simp only [mapKey, Tryd.underlying9]
  rw [if_pos (by simpa [ByteArray.size] using h)]
/-- Block M is a map from texts; those in seen are true; so many entries at most. -/
def SeenIn (w : World) (M n : Nat) (seen : List (List UInt8)) : Prop :=
  ∃ D, w.ownsMap Tryd.prog 9 boolR M n D ∧ Maps.IsMap D ∧ ∀ s, D.atKey (.string s) (.lit (.bool false)) = .lit (.bool (decide (s ∈ seen)))
theorem zeroBool (w : World) : (zeroValue 4).run Tryd.prog w = .ok (.bool false) w := by kernel_rfl
theorem SeenIn.look {w : World} {M n : Nat} {seen : List (List UInt8)} (h : SeenIn w M n seen) (s : List UInt8) (hs : s.length ≤ maxLen) : (Instr.lookup 91 (.map (some M)) (.string ⟨s.toArray⟩) false).run Tryd.prog w = .ok (.bool (decide (s ∈ seen))) w := by
  obtain ⟨D, h1, h2, h3⟩ := h
  obtain ⟨v, ps, hr, hR⟩ := h1.lookup (Maps.string_keyed Tryd.underlying9) Tryd.underlying91 (zeroBool w) (zd := .lit (.bool false)) (zp := []) rfl (keyOf_str hs)
  rw [h3 s] at hR
  rw [hr, boolR_inv hR]
theorem SeenIn.kept {w w' : World} {M n : Nat} {seen : List (List UInt8)} {S : Nat → Prop} (h : SeenIn w M n seen) (k : Kept S w w') (hs : ¬ S M) : SeenIn w' M n seen := by
  obtain ⟨D, h1, h2, h3⟩ := h
  refine ⟨D, ?_, h2, h3⟩
  obtain ⟨es, clock, hb, rest⟩ := h1
  exact ⟨es, clock, (k.block M (Array.getElem?_eq_some_iff.1 hb).1 hs).trans hb, rest⟩
theorem SeenIn.mono {w : World} {M n m : Nat} {seen : List (List UInt8)} (h : SeenIn w M n seen) (hm : n ≤ m) : SeenIn w M m seen := by
  obtain ⟨D, h1, h2, h3⟩ := h
  exact ⟨D, h1.mono hm, h2, h3⟩
theorem SeenIn.lt {w : World} {M n : Nat} {seen : List (List UInt8)} (h : SeenIn w M n seen) : M < w.heap.size := by
  obtain ⟨D, ⟨es, clock, hb, rest⟩, _⟩ := h
  exact (Array.getElem?_eq_some_iff.1 hb).1
theorem SeenIn.made (w : World) : SeenIn (w.alloc (.map #[] 0)) w.heap.size 0 [] := ⟨_, World.ownsMap_made _ _ _ _, Maps.isMap_empty, fun _ => rfl⟩
theorem SeenIn.put {w' : World} {M n : Nat} {seen : List (List UInt8)} {s : List UInt8} {D : DataW Unit} (h2 : Maps.IsMap D) (h3 : ∀ s, D.atKey (.string s) (.lit (.bool false)) = .lit (.bool (decide (s ∈ seen)))) (h : w'.ownsMap Tryd.prog 9 boolR M n (D.put (.string s) (.lit (.bool true)))) :
    SeenIn w' M n (s :: seen) := by
  refine ⟨_, h, ?_, fun y => ?_⟩
  · obtain ⟨es, rfl⟩ := h2; exact ⟨_, rfl⟩
  · by_cases e : y = s
    · subst e
      rw [Maps.atKey_put_same h2 (show WideAt.IsKeyLit (.string y) from trivial)]
      simp
    · rw [Maps.atKey_put_other (by intro h; injection h with h; exact e h), h3]
      simp [e]
end Go.Proofs.YtonnlgpjobfnmaaDoor

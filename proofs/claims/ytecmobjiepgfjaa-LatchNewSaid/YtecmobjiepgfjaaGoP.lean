/- A program without initialisers that wait: no step of initialisation is ever made early. -/
import Derived.Test.YtecmobjiepgfjaaGoM
namespace Go.Proofs.Ytecmobjiepgfjaa
open Go.Conc
/-- No text of the program readies a variable. -/
def noReady (P : Program) : Bool := P.funcs.toList.all fun f => match f.body.map readies with | some (_ :: _) => false | _ => true
theorem stepOf_none {P : Program} (h : noReady P = true) (g : Nat) : P.stepOf g = none := by
  unfold Program.stepOf
  rw [Array.findIdx?_eq_none_iff]
  intro f hf
  have := List.all_eq_true.1 h f (Array.mem_toList_iff.2 hf)
  cases e : f.body.map readies with
  | none => rfl
  | some l =>
    rw [e] at this
    cases l with
    | nil => simp
    | cons a l => cases this
end Go.Proofs.Ytecmobjiepgfjaa

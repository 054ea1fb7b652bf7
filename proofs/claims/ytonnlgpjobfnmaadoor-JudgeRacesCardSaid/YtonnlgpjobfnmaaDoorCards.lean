/-
  DERIVED. GIVEN WITH THE SEED: THE CARDS: each row of YtonnlgpjobfnmaaDoorRows.lean that lists a variable, with what it lists TIED to the program's text (the seventh form; the later family's looks); each row that meets fmt, with fmt's text TOLD by the authors' own Lean function (tested against real Go, not proved from fmt's source: count such statements apart). THE CARD IS WHAT COUNTS. Prove the row's statement (the work); the ties are given (YtonnlgpjobfnmaaDoorTie.lean); close each card by the builder's one call (the guide's Derived/Test/ToyasCard.lean, 'card_holds'). Laid BY PROGRAM, IN A SANDBOX (cutbox-door.mjs). By AI agents, Wed Nov 11 2026. No macro, syntax, notation, axiom, sorry.
-/
import Derived.Test.YtonnlgpjobfnmaaDoorRows
import GoSem.ClaimSeven
namespace Go.Proofs.YtonnlgpjobfnmaaDoor
namespace Rows

/-- THE TIED CARD OF 'treadlelaw26.JudgeLinear'. -/
def judgeLinearCard : Claim7 := { stood := { row := judgeLinearRow, standIns := [], harness := (true, "dd23c0347d74e19d93c397b017efb0a9ddbdbf5630e273326eab4b53ee4182c2"), looks := false }, kinds := [], alts := [], laidByText := true, laidKinds := [.data, .data, .data], laidTests := true, laidLooks := .later }
def JudgeLinearCardSaid : Prop := Claim7.holds Tryd.pinned (.plain (OpenSpec.ofChange judgeLinearSpec)) judgeLinearCard

/-- THE TIED CARD OF 'treadlelaw26.JudgeFinds'. -/
def judgeFindsCard : Claim7 := { stood := { row := judgeFindsRow, standIns := [], harness := (true, "dd23c0347d74e19d93c397b017efb0a9ddbdbf5630e273326eab4b53ee4182c2"), looks := false }, kinds := [], alts := [], laidByText := true, laidKinds := [.data, .data, .data], laidTests := true, laidLooks := .later }
def JudgeFindsCardSaid : Prop := Claim7.holds Tryd.pinned (.plain (OpenSpec.ofChange judgeFindsSpec)) judgeFindsCard

/-- THE TIED CARD OF 'treadlelaw26.JudgeOrder'. -/
def judgeOrderCard : Claim7 := { stood := { row := judgeOrderRow, standIns := [], harness := (true, "dd23c0347d74e19d93c397b017efb0a9ddbdbf5630e273326eab4b53ee4182c2"), looks := false }, kinds := [], alts := [], laidByText := true, laidKinds := [.data, .data, .data], laidTests := true, laidLooks := .later }
def JudgeOrderCardSaid : Prop := Claim7.holds Tryd.pinned (.plain (OpenSpec.ofChange judgeOrderSpec)) judgeOrderCard

/-- THE TIED CARD OF 'treadlelaw26.JudgeClocks'. -/
def judgeClocksCard : Claim7 := { stood := { row := judgeClocksRow, standIns := [], harness := (true, "dd23c0347d74e19d93c397b017efb0a9ddbdbf5630e273326eab4b53ee4182c2"), looks := false }, kinds := [], alts := [], laidByText := true, laidKinds := [.data, .data, .data], laidTests := true, laidLooks := .later }
def JudgeClocksCardSaid : Prop := Claim7.holds Tryd.pinned (.plain (OpenSpec.ofChange judgeClocksSpec)) judgeClocksCard

/-- THE TIED CARD OF 'treadlelaw26.JudgeRaces'. -/
def judgeRacesCard : Claim7 := { stood := { row := judgeRacesRow, standIns := [], harness := (true, "dd23c0347d74e19d93c397b017efb0a9ddbdbf5630e273326eab4b53ee4182c2"), looks := false }, kinds := [], alts := [], laidByText := true, laidKinds := [.data, .data, .data], laidTests := true, laidLooks := .later }
def JudgeRacesCardSaid : Prop := Claim7.holds Tryd.pinned (.plain (OpenSpec.ofChange judgeRacesSpec)) judgeRacesCard

/-- THE SECOND FORM's CARD OF 'treadlelaw26.JudgeLinear'. -/
def judgeLinearUptoCard : Claim7 := { stood := { row := judgeLinearUptoRow, standIns := [], harness := (true, "dd23c0347d74e19d93c397b017efb0a9ddbdbf5630e273326eab4b53ee4182c2"), looks := false }, kinds := [], alts := [], laidByText := true, laidKinds := [.data, .data, .data], laidTests := true, laidLooks := .later }
def JudgeLinearUptoCardSaid : Prop := Claim7.holds Tryd.pinned (.plain (OpenSpec.upto judgeLinearSpec)) judgeLinearUptoCard

/-- THE SECOND FORM's CARD OF 'treadlelaw26.JudgeFinds'. -/
def judgeFindsUptoCard : Claim7 := { stood := { row := judgeFindsUptoRow, standIns := [], harness := (true, "dd23c0347d74e19d93c397b017efb0a9ddbdbf5630e273326eab4b53ee4182c2"), looks := false }, kinds := [], alts := [], laidByText := true, laidKinds := [.data, .data, .data], laidTests := true, laidLooks := .later }
def JudgeFindsUptoCardSaid : Prop := Claim7.holds Tryd.pinned (.plain (OpenSpec.upto judgeFindsSpec)) judgeFindsUptoCard

/-- THE SECOND FORM's CARD OF 'treadlelaw26.JudgeOrder'. -/
def judgeOrderUptoCard : Claim7 := { stood := { row := judgeOrderUptoRow, standIns := [], harness := (true, "dd23c0347d74e19d93c397b017efb0a9ddbdbf5630e273326eab4b53ee4182c2"), looks := false }, kinds := [], alts := [], laidByText := true, laidKinds := [.data, .data, .data], laidTests := true, laidLooks := .later }
def JudgeOrderUptoCardSaid : Prop := Claim7.holds Tryd.pinned (.plain (OpenSpec.upto judgeOrderSpec)) judgeOrderUptoCard

/-- THE SECOND FORM's CARD OF 'treadlelaw26.JudgeClocks'. -/
def judgeClocksUptoCard : Claim7 := { stood := { row := judgeClocksUptoRow, standIns := [], harness := (true, "dd23c0347d74e19d93c397b017efb0a9ddbdbf5630e273326eab4b53ee4182c2"), looks := false }, kinds := [], alts := [], laidByText := true, laidKinds := [.data, .data, .data], laidTests := true, laidLooks := .later }
def JudgeClocksUptoCardSaid : Prop := Claim7.holds Tryd.pinned (.plain (OpenSpec.upto judgeClocksSpec)) judgeClocksUptoCard

/-- THE SECOND FORM's CARD OF 'treadlelaw26.JudgeRaces'. -/
def judgeRacesUptoCard : Claim7 := { stood := { row := judgeRacesUptoRow, standIns := [], harness := (true, "dd23c0347d74e19d93c397b017efb0a9ddbdbf5630e273326eab4b53ee4182c2"), looks := false }, kinds := [], alts := [], laidByText := true, laidKinds := [.data, .data, .data], laidTests := true, laidLooks := .later }
def JudgeRacesUptoCardSaid : Prop := Claim7.holds Tryd.pinned (.plain (OpenSpec.upto judgeRacesSpec)) judgeRacesUptoCard
end Rows
end Go.Proofs.YtonnlgpjobfnmaaDoor

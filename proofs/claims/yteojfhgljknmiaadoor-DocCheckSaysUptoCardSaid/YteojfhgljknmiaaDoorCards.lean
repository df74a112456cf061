/-
  DERIVED. GIVEN WITH THE SEED: THE CARDS: each row of YteojfhgljknmiaaDoorRows.lean that lists a variable, with what it lists TIED to the program's text (the seventh form; the later family's looks); each row that meets fmt, with fmt's text TOLD by the authors' own Lean function (tested against real Go, not proved from fmt's source: count such statements apart). THE CARD IS WHAT COUNTS. Prove the row's statement (the work); the ties are given (YteojfhgljknmiaaDoorTie.lean); close each card by the builder's one call (the guide's Derived/Test/ToyasCard.lean, 'card_holds'). Laid BY PROGRAM, IN A SANDBOX (cutbox-door.mjs). By AI agents, Wed Nov 11 2026. No macro, syntax, notation, axiom, sorry.
-/
import Derived.Test.YteojfhgljknmiaaDoorRows
import GoSem.ClaimSeven
namespace Go.Proofs.YteojfhgljknmiaaDoor
namespace Rows

/-- THE TIED CARD OF 'chancerylaw1.FlowOfMatches'. -/
def flowOfMatchesCard : Claim7 := { stood := { row := flowOfMatchesRow, standIns := [], harness := (true, "56ee2ee50a8be1dda00206cc4d0cb5ed0cfd42479d095f6f956d282727aa43a7"), looks := false }, kinds := [], alts := [], laidByText := true, laidKinds := [.data, .pinned], laidTests := true, laidLooks := .later }
def FlowOfMatchesCardSaid : Prop := Claim7.holds Tryd.pinned (.plain (OpenSpec.ofChange flowOfMatchesSpec)) flowOfMatchesCard

/-- THE TIED CARD OF 'chancerylaw1.FlowCheckSays'. -/
def flowCheckSaysCard : Claim7 := { stood := { row := flowCheckSaysRow, standIns := [], harness := (true, "56ee2ee50a8be1dda00206cc4d0cb5ed0cfd42479d095f6f956d282727aa43a7"), looks := false }, kinds := [], alts := [], laidByText := true, laidKinds := [.data, .pinned], laidTests := true, laidLooks := .later }
def FlowCheckSaysCardSaid : Prop := Claim7.holds Tryd.pinned (.plain (OpenSpec.ofChange flowCheckSaysSpec)) flowCheckSaysCard

/-- THE TIED CARD OF 'chancerylaw1.FlowTextMatches'. -/
def flowTextMatchesCard : Claim7 := { stood := { row := flowTextMatchesRow, standIns := [], harness := (true, "56ee2ee50a8be1dda00206cc4d0cb5ed0cfd42479d095f6f956d282727aa43a7"), looks := false }, kinds := [], alts := [], laidByText := true, laidKinds := [.data, .pinned], laidTests := true, laidLooks := .later }
def FlowTextMatchesCardSaid : Prop := Claim7.holds Tryd.pinned (.plain (OpenSpec.ofChange flowTextMatchesSpec)) flowTextMatchesCard

/-- THE TIED CARD OF 'chancerylaw1.FlowRangesMatch'. -/
def flowRangesMatchCard : Claim7 := { stood := { row := flowRangesMatchRow, standIns := [], harness := (true, "56ee2ee50a8be1dda00206cc4d0cb5ed0cfd42479d095f6f956d282727aa43a7"), looks := false }, kinds := [], alts := [], laidByText := true, laidKinds := [.data, .data, .pinned, .pinned, .pinned], laidTests := true, laidLooks := .later }
def FlowRangesMatchCardSaid : Prop := Claim7.holds Tryd.pinned (.plain (OpenSpec.ofChange flowRangesMatchSpec)) flowRangesMatchCard

/-- THE TIED CARD OF 'chancerylaw1.DocNodeMatches'. -/
def docNodeMatchesCard : Claim7 := { stood := { row := docNodeMatchesRow, standIns := [], harness := (true, "56ee2ee50a8be1dda00206cc4d0cb5ed0cfd42479d095f6f956d282727aa43a7"), looks := false }, kinds := [], alts := [], laidByText := true, laidKinds := [.data, .pinned], laidTests := true, laidLooks := .later }
def DocNodeMatchesCardSaid : Prop := Claim7.holds Tryd.pinned (.plain (OpenSpec.ofChange docNodeMatchesSpec)) docNodeMatchesCard

/-- THE TIED CARD OF 'chancerylaw1.DocCheckSays'. -/
def docCheckSaysCard : Claim7 := { stood := { row := docCheckSaysRow, standIns := [], harness := (true, "56ee2ee50a8be1dda00206cc4d0cb5ed0cfd42479d095f6f956d282727aa43a7"), looks := false }, kinds := [], alts := [], laidByText := true, laidKinds := [.data, .pinned], laidTests := true, laidLooks := .later }
def DocCheckSaysCardSaid : Prop := Claim7.holds Tryd.pinned (.plain (OpenSpec.ofChange docCheckSaysSpec)) docCheckSaysCard

/-- THE SECOND FORM's CARD OF 'chancerylaw1.FlowOfMatches'. -/
def flowOfMatchesUptoCard : Claim7 := { stood := { row := flowOfMatchesUptoRow, standIns := [], harness := (true, "56ee2ee50a8be1dda00206cc4d0cb5ed0cfd42479d095f6f956d282727aa43a7"), looks := false }, kinds := [], alts := [], laidByText := true, laidKinds := [.data, .pinned], laidTests := true, laidLooks := .later }
def FlowOfMatchesUptoCardSaid : Prop := Claim7.holds Tryd.pinned (.plain (OpenSpec.upto flowOfMatchesSpec)) flowOfMatchesUptoCard

/-- THE SECOND FORM's CARD OF 'chancerylaw1.FlowCheckSays'. -/
def flowCheckSaysUptoCard : Claim7 := { stood := { row := flowCheckSaysUptoRow, standIns := [], harness := (true, "56ee2ee50a8be1dda00206cc4d0cb5ed0cfd42479d095f6f956d282727aa43a7"), looks := false }, kinds := [], alts := [], laidByText := true, laidKinds := [.data, .pinned], laidTests := true, laidLooks := .later }
def FlowCheckSaysUptoCardSaid : Prop := Claim7.holds Tryd.pinned (.plain (OpenSpec.upto flowCheckSaysSpec)) flowCheckSaysUptoCard

/-- THE SECOND FORM's CARD OF 'chancerylaw1.FlowTextMatches'. -/
def flowTextMatchesUptoCard : Claim7 := { stood := { row := flowTextMatchesUptoRow, standIns := [], harness := (true, "56ee2ee50a8be1dda00206cc4d0cb5ed0cfd42479d095f6f956d282727aa43a7"), looks := false }, kinds := [], alts := [], laidByText := true, laidKinds := [.data, .pinned], laidTests := true, laidLooks := .later }
def FlowTextMatchesUptoCardSaid : Prop := Claim7.holds Tryd.pinned (.plain (OpenSpec.upto flowTextMatchesSpec)) flowTextMatchesUptoCard

/-- THE SECOND FORM's CARD OF 'chancerylaw1.FlowRangesMatch'. -/
def flowRangesMatchUptoCard : Claim7 := { stood := { row := flowRangesMatchUptoRow, standIns := [], harness := (true, "56ee2ee50a8be1dda00206cc4d0cb5ed0cfd42479d095f6f956d282727aa43a7"), looks := false }, kinds := [], alts := [], laidByText := true, laidKinds := [.data, .data, .pinned, .pinned, .pinned], laidTests := true, laidLooks := .later }
def FlowRangesMatchUptoCardSaid : Prop := Claim7.holds Tryd.pinned (.plain (OpenSpec.upto flowRangesMatchSpec)) flowRangesMatchUptoCard

/-- THE SECOND FORM's CARD OF 'chancerylaw1.DocNodeMatches'. -/
def docNodeMatchesUptoCard : Claim7 := { stood := { row := docNodeMatchesUptoRow, standIns := [], harness := (true, "56ee2ee50a8be1dda00206cc4d0cb5ed0cfd42479d095f6f956d282727aa43a7"), looks := false }, kinds := [], alts := [], laidByText := true, laidKinds := [.data, .pinned], laidTests := true, laidLooks := .later }
def DocNodeMatchesUptoCardSaid : Prop := Claim7.holds Tryd.pinned (.plain (OpenSpec.upto docNodeMatchesSpec)) docNodeMatchesUptoCard

/-- THE SECOND FORM's CARD OF 'chancerylaw1.DocCheckSays'. -/
def docCheckSaysUptoCard : Claim7 := { stood := { row := docCheckSaysUptoRow, standIns := [], harness := (true, "56ee2ee50a8be1dda00206cc4d0cb5ed0cfd42479d095f6f956d282727aa43a7"), looks := false }, kinds := [], alts := [], laidByText := true, laidKinds := [.data, .pinned], laidTests := true, laidLooks := .later }
def DocCheckSaysUptoCardSaid : Prop := Claim7.holds Tryd.pinned (.plain (OpenSpec.upto docCheckSaysSpec)) docCheckSaysUptoCard
end Rows
end Go.Proofs.YteojfhgljknmiaaDoor

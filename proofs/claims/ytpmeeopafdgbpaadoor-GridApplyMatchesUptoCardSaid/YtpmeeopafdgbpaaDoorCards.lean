/-
  DERIVED. GIVEN WITH THE SEED: THE CARDS: each row of YtpmeeopafdgbpaaDoorRows.lean that lists a variable, with what it lists TIED to the program's text (the seventh form; the later family's looks); each row that meets fmt, with fmt's text TOLD by the authors' own Lean function (tested against real Go, not proved from fmt's source: count such statements apart). THE CARD IS WHAT COUNTS. Prove the row's statement (the work); the ties are given (YtpmeeopafdgbpaaDoorTie.lean); close each card by the builder's one call (the guide's Derived/Test/ToyasCard.lean, 'card_holds'). Laid BY PROGRAM, IN A SANDBOX (cutbox-door.mjs). By AI agents, Wed Nov 11 2026. No macro, syntax, notation, axiom, sorry.
-/
import Derived.Test.YtpmeeopafdgbpaaDoorRows
import GoSem.ClaimSeven
namespace Go.Proofs.YtpmeeopafdgbpaaDoor
namespace Rows

/-- THE TIED CARD OF 'chancerylaw1.GridApplyMatches'. -/
def gridApplyMatchesCard : Claim7 := { stood := { row := gridApplyMatchesRow, standIns := [], harness := (true, "3fe0b4549b4f77a52c58b3c53e6c06f28e6994585d677c980ecd3e660ea802b5"), looks := false }, kinds := [], alts := [], laidByText := true, laidKinds := [.data, .pinned], laidTests := true, laidLooks := .later }
def GridApplyMatchesCardSaid : Prop := Claim7.holds Tryd.pinned (.plain (OpenSpec.ofChange gridApplyMatchesSpec)) gridApplyMatchesCard

/-- THE TIED CARD OF 'chancerylaw1.GridTextSays'. -/
def gridTextSaysCard : Claim7 := { stood := { row := gridTextSaysRow, standIns := [], harness := (true, "3fe0b4549b4f77a52c58b3c53e6c06f28e6994585d677c980ecd3e660ea802b5"), looks := false }, kinds := [], alts := [], laidByText := true, laidKinds := [.data, .pinned], laidTests := true, laidLooks := .later }
def GridTextSaysCardSaid : Prop := Claim7.holds Tryd.pinned (.plain (OpenSpec.ofChange gridTextSaysSpec)) gridTextSaysCard

/-- THE TIED CARD OF 'chancerylaw1.GridCheckSays'. -/
def gridCheckSaysCard : Claim7 := { stood := { row := gridCheckSaysRow, standIns := [], harness := (true, "3fe0b4549b4f77a52c58b3c53e6c06f28e6994585d677c980ecd3e660ea802b5"), looks := false }, kinds := [], alts := [], laidByText := true, laidKinds := [.data, .pinned], laidTests := true, laidLooks := .later }
def GridCheckSaysCardSaid : Prop := Claim7.holds Tryd.pinned (.plain (OpenSpec.ofChange gridCheckSaysSpec)) gridCheckSaysCard

/-- THE SECOND FORM's CARD OF 'chancerylaw1.GridApplyMatches'. -/
def gridApplyMatchesUptoCard : Claim7 := { stood := { row := gridApplyMatchesUptoRow, standIns := [], harness := (true, "3fe0b4549b4f77a52c58b3c53e6c06f28e6994585d677c980ecd3e660ea802b5"), looks := false }, kinds := [], alts := [], laidByText := true, laidKinds := [.data, .pinned], laidTests := true, laidLooks := .later }
def GridApplyMatchesUptoCardSaid : Prop := Claim7.holds Tryd.pinned (.plain (OpenSpec.upto gridApplyMatchesSpec)) gridApplyMatchesUptoCard

/-- THE SECOND FORM's CARD OF 'chancerylaw1.GridTextSays'. -/
def gridTextSaysUptoCard : Claim7 := { stood := { row := gridTextSaysUptoRow, standIns := [], harness := (true, "3fe0b4549b4f77a52c58b3c53e6c06f28e6994585d677c980ecd3e660ea802b5"), looks := false }, kinds := [], alts := [], laidByText := true, laidKinds := [.data, .pinned], laidTests := true, laidLooks := .later }
def GridTextSaysUptoCardSaid : Prop := Claim7.holds Tryd.pinned (.plain (OpenSpec.upto gridTextSaysSpec)) gridTextSaysUptoCard

/-- THE SECOND FORM's CARD OF 'chancerylaw1.GridCheckSays'. -/
def gridCheckSaysUptoCard : Claim7 := { stood := { row := gridCheckSaysUptoRow, standIns := [], harness := (true, "3fe0b4549b4f77a52c58b3c53e6c06f28e6994585d677c980ecd3e660ea802b5"), looks := false }, kinds := [], alts := [], laidByText := true, laidKinds := [.data, .pinned], laidTests := true, laidLooks := .later }
def GridCheckSaysUptoCardSaid : Prop := Claim7.holds Tryd.pinned (.plain (OpenSpec.upto gridCheckSaysSpec)) gridCheckSaysUptoCard
end Rows
end Go.Proofs.YtpmeeopafdgbpaaDoor

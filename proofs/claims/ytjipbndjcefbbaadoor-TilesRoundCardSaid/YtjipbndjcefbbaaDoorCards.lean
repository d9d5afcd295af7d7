/-
  DERIVED. GIVEN WITH THE SEED: THE CARDS: each row of YtjipbndjcefbbaaDoorRows.lean that lists a variable, with what it lists TIED to the program's text (the seventh form; the later family's looks); each row that meets fmt, with fmt's text TOLD by the authors' own Lean function (tested against real Go, not proved from fmt's source: count such statements apart). THE CARD IS WHAT COUNTS. Prove the row's statement (the work); the ties are given (YtjipbndjcefbbaaDoorTie.lean); close each card by the builder's one call (the guide's Derived/Test/ToyasCard.lean, 'card_holds'). Laid BY PROGRAM, IN A SANDBOX (cutbox-door.mjs). By AI agents, Wed Nov 11 2026. No macro, syntax, notation, axiom, sorry.
-/
import Derived.Test.YtjipbndjcefbbaaDoorRows
import GoSem.ClaimSeven
namespace Go.Proofs.YtjipbndjcefbbaaDoor
namespace Rows

/-- THE TIED CARD OF 'gouachelaw12.TilesOf'. -/
def tilesOfCard : Claim7 := { stood := { row := tilesOfRow, standIns := [], harness := (true, "de27509d325037469470173d53561b8951460573dea093a1ffb9aa3887d1f0d2"), looks := false }, kinds := [], alts := [], laidByText := true, laidKinds := [.data, .data], laidTests := true, laidLooks := .later }
def TilesOfCardSaid : Prop := Claim7.holds Tryd.pinned (.plain (OpenSpec.ofChange tilesOfSpec)) tilesOfCard

/-- THE TIED CARD OF 'gouachelaw12.TilesEdges'. -/
def tilesEdgesCard : Claim7 := { stood := { row := tilesEdgesRow, standIns := [], harness := (true, "de27509d325037469470173d53561b8951460573dea093a1ffb9aa3887d1f0d2"), looks := false }, kinds := [], alts := [], laidByText := true, laidKinds := [.data, .data], laidTests := true, laidLooks := .later }
def TilesEdgesCardSaid : Prop := Claim7.holds Tryd.pinned (.plain (OpenSpec.ofChange tilesEdgesSpec)) tilesEdgesCard

/-- THE TIED CARD OF 'gouachelaw12.TilesJoin'. -/
def tilesJoinCard : Claim7 := { stood := { row := tilesJoinRow, standIns := [], harness := (true, "de27509d325037469470173d53561b8951460573dea093a1ffb9aa3887d1f0d2"), looks := false }, kinds := [], alts := [], laidByText := true, laidKinds := [.data, .data], laidTests := true, laidLooks := .later }
def TilesJoinCardSaid : Prop := Claim7.holds Tryd.pinned (.plain (OpenSpec.ofChange tilesJoinSpec)) tilesJoinCard

/-- THE TIED CARD OF 'gouachelaw12.TilesUntold'. -/
def tilesUntoldCard : Claim7 := { stood := { row := tilesUntoldRow, standIns := [], harness := (true, "de27509d325037469470173d53561b8951460573dea093a1ffb9aa3887d1f0d2"), looks := false }, kinds := [], alts := [], laidByText := true, laidKinds := [.data, .data], laidTests := true, laidLooks := .later }
def TilesUntoldCardSaid : Prop := Claim7.holds Tryd.pinned (.plain (OpenSpec.ofChange tilesUntoldSpec)) tilesUntoldCard

/-- THE TIED CARD OF 'gouachelaw12.TilesRound'. -/
def tilesRoundCard : Claim7 := { stood := { row := tilesRoundRow, standIns := [], harness := (true, "de27509d325037469470173d53561b8951460573dea093a1ffb9aa3887d1f0d2"), looks := false }, kinds := [], alts := [], laidByText := true, laidKinds := [.data, .data], laidTests := true, laidLooks := .later }
def TilesRoundCardSaid : Prop := Claim7.holds Tryd.pinned (.plain (OpenSpec.ofChange tilesRoundSpec)) tilesRoundCard

/-- THE SECOND FORM's CARD OF 'gouachelaw12.TilesOf'. -/
def tilesOfUptoCard : Claim7 := { stood := { row := tilesOfUptoRow, standIns := [], harness := (true, "de27509d325037469470173d53561b8951460573dea093a1ffb9aa3887d1f0d2"), looks := false }, kinds := [], alts := [], laidByText := true, laidKinds := [.data, .data], laidTests := true, laidLooks := .later }
def TilesOfUptoCardSaid : Prop := Claim7.holds Tryd.pinned (.plain (OpenSpec.upto tilesOfSpec)) tilesOfUptoCard

/-- THE SECOND FORM's CARD OF 'gouachelaw12.TilesEdges'. -/
def tilesEdgesUptoCard : Claim7 := { stood := { row := tilesEdgesUptoRow, standIns := [], harness := (true, "de27509d325037469470173d53561b8951460573dea093a1ffb9aa3887d1f0d2"), looks := false }, kinds := [], alts := [], laidByText := true, laidKinds := [.data, .data], laidTests := true, laidLooks := .later }
def TilesEdgesUptoCardSaid : Prop := Claim7.holds Tryd.pinned (.plain (OpenSpec.upto tilesEdgesSpec)) tilesEdgesUptoCard

/-- THE SECOND FORM's CARD OF 'gouachelaw12.TilesJoin'. -/
def tilesJoinUptoCard : Claim7 := { stood := { row := tilesJoinUptoRow, standIns := [], harness := (true, "de27509d325037469470173d53561b8951460573dea093a1ffb9aa3887d1f0d2"), looks := false }, kinds := [], alts := [], laidByText := true, laidKinds := [.data, .data], laidTests := true, laidLooks := .later }
def TilesJoinUptoCardSaid : Prop := Claim7.holds Tryd.pinned (.plain (OpenSpec.upto tilesJoinSpec)) tilesJoinUptoCard

/-- THE SECOND FORM's CARD OF 'gouachelaw12.TilesUntold'. -/
def tilesUntoldUptoCard : Claim7 := { stood := { row := tilesUntoldUptoRow, standIns := [], harness := (true, "de27509d325037469470173d53561b8951460573dea093a1ffb9aa3887d1f0d2"), looks := false }, kinds := [], alts := [], laidByText := true, laidKinds := [.data, .data], laidTests := true, laidLooks := .later }
def TilesUntoldUptoCardSaid : Prop := Claim7.holds Tryd.pinned (.plain (OpenSpec.upto tilesUntoldSpec)) tilesUntoldUptoCard

/-- THE SECOND FORM's CARD OF 'gouachelaw12.TilesRound'. -/
def tilesRoundUptoCard : Claim7 := { stood := { row := tilesRoundUptoRow, standIns := [], harness := (true, "de27509d325037469470173d53561b8951460573dea093a1ffb9aa3887d1f0d2"), looks := false }, kinds := [], alts := [], laidByText := true, laidKinds := [.data, .data], laidTests := true, laidLooks := .later }
def TilesRoundUptoCardSaid : Prop := Claim7.holds Tryd.pinned (.plain (OpenSpec.upto tilesRoundSpec)) tilesRoundUptoCard
end Rows
end Go.Proofs.YtjipbndjcefbbaaDoor

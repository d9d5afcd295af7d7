/-
  DERIVED. GIVEN WITH THE SEED: THE CARDS: each row of YtannaanbadaflaaDoorRows.lean that lists a variable, with what it lists TIED to the program's text (the seventh form; the later family's looks); each row that meets fmt, with fmt's text TOLD by the authors' own Lean function (tested against real Go, not proved from fmt's source: count such statements apart). THE CARD IS WHAT COUNTS. Prove the row's statement (the work); the ties are given (YtannaanbadaflaaDoorTie.lean); close each card by the builder's one call (the guide's Derived/Test/ToyasCard.lean, 'card_holds'). Laid BY PROGRAM, IN A SANDBOX (cutbox-door.mjs). By AI agents, Wed Nov 11 2026. No macro, syntax, notation, axiom, sorry.
-/
import Derived.Test.YtannaanbadaflaaDoorRows
import GoSem.ClaimSeven
namespace Go.Proofs.YtannaanbadaflaaDoor
namespace Rows

/-- THE TIED CARD OF 'gouachelaw10.TriosOf'. -/
def triosOfCard : Claim7 := { stood := { row := triosOfRow, standIns := [], harness := (true, "93c421287cd3820a96588ed42f2ba1a8dc2f509687d1d354a781ad26af905f3c"), looks := false }, kinds := [], alts := [], laidByText := true, laidKinds := [.data], laidTests := true, laidLooks := .later }
def TriosOfCardSaid : Prop := Claim7.holds Tryd.pinned (.plain (OpenSpec.ofChange triosOfSpec)) triosOfCard

/-- THE TIED CARD OF 'gouachelaw10.TriosJoin'. -/
def triosJoinCard : Claim7 := { stood := { row := triosJoinRow, standIns := [], harness := (true, "93c421287cd3820a96588ed42f2ba1a8dc2f509687d1d354a781ad26af905f3c"), looks := false }, kinds := [], alts := [], laidByText := true, laidKinds := [.data], laidTests := true, laidLooks := .later }
def TriosJoinCardSaid : Prop := Claim7.holds Tryd.pinned (.plain (OpenSpec.ofChange triosJoinSpec)) triosJoinCard

/-- THE TIED CARD OF 'gouachelaw10.TriosShared'. -/
def triosSharedCard : Claim7 := { stood := { row := triosSharedRow, standIns := [], harness := (true, "93c421287cd3820a96588ed42f2ba1a8dc2f509687d1d354a781ad26af905f3c"), looks := false }, kinds := [], alts := [], laidByText := true, laidKinds := [.data], laidTests := true, laidLooks := .later }
def TriosSharedCardSaid : Prop := Claim7.holds Tryd.pinned (.plain (OpenSpec.ofChange triosSharedSpec)) triosSharedCard

/-- THE TIED CARD OF 'gouachelaw10.TriosRows'. -/
def triosRowsCard : Claim7 := { stood := { row := triosRowsRow, standIns := [], harness := (true, "93c421287cd3820a96588ed42f2ba1a8dc2f509687d1d354a781ad26af905f3c"), looks := false }, kinds := [], alts := [], laidByText := true, laidKinds := [.data], laidTests := true, laidLooks := .later }
def TriosRowsCardSaid : Prop := Claim7.holds Tryd.pinned (.plain (OpenSpec.ofChange triosRowsSpec)) triosRowsCard

/-- THE TIED CARD OF 'gouachelaw10.TriosRefused'. -/
def triosRefusedCard : Claim7 := { stood := { row := triosRefusedRow, standIns := [], harness := (true, "93c421287cd3820a96588ed42f2ba1a8dc2f509687d1d354a781ad26af905f3c"), looks := false }, kinds := [], alts := [], laidByText := true, laidKinds := [.data], laidTests := true, laidLooks := .later }
def TriosRefusedCardSaid : Prop := Claim7.holds Tryd.pinned (.plain (OpenSpec.ofChange triosRefusedSpec)) triosRefusedCard

/-- THE SECOND FORM's CARD OF 'gouachelaw10.TriosOf'. -/
def triosOfUptoCard : Claim7 := { stood := { row := triosOfUptoRow, standIns := [], harness := (true, "93c421287cd3820a96588ed42f2ba1a8dc2f509687d1d354a781ad26af905f3c"), looks := false }, kinds := [], alts := [], laidByText := true, laidKinds := [.data], laidTests := true, laidLooks := .later }
def TriosOfUptoCardSaid : Prop := Claim7.holds Tryd.pinned (.plain (OpenSpec.upto triosOfSpec)) triosOfUptoCard

/-- THE SECOND FORM's CARD OF 'gouachelaw10.TriosJoin'. -/
def triosJoinUptoCard : Claim7 := { stood := { row := triosJoinUptoRow, standIns := [], harness := (true, "93c421287cd3820a96588ed42f2ba1a8dc2f509687d1d354a781ad26af905f3c"), looks := false }, kinds := [], alts := [], laidByText := true, laidKinds := [.data], laidTests := true, laidLooks := .later }
def TriosJoinUptoCardSaid : Prop := Claim7.holds Tryd.pinned (.plain (OpenSpec.upto triosJoinSpec)) triosJoinUptoCard

/-- THE SECOND FORM's CARD OF 'gouachelaw10.TriosShared'. -/
def triosSharedUptoCard : Claim7 := { stood := { row := triosSharedUptoRow, standIns := [], harness := (true, "93c421287cd3820a96588ed42f2ba1a8dc2f509687d1d354a781ad26af905f3c"), looks := false }, kinds := [], alts := [], laidByText := true, laidKinds := [.data], laidTests := true, laidLooks := .later }
def TriosSharedUptoCardSaid : Prop := Claim7.holds Tryd.pinned (.plain (OpenSpec.upto triosSharedSpec)) triosSharedUptoCard

/-- THE SECOND FORM's CARD OF 'gouachelaw10.TriosRows'. -/
def triosRowsUptoCard : Claim7 := { stood := { row := triosRowsUptoRow, standIns := [], harness := (true, "93c421287cd3820a96588ed42f2ba1a8dc2f509687d1d354a781ad26af905f3c"), looks := false }, kinds := [], alts := [], laidByText := true, laidKinds := [.data], laidTests := true, laidLooks := .later }
def TriosRowsUptoCardSaid : Prop := Claim7.holds Tryd.pinned (.plain (OpenSpec.upto triosRowsSpec)) triosRowsUptoCard

/-- THE SECOND FORM's CARD OF 'gouachelaw10.TriosRefused'. -/
def triosRefusedUptoCard : Claim7 := { stood := { row := triosRefusedUptoRow, standIns := [], harness := (true, "93c421287cd3820a96588ed42f2ba1a8dc2f509687d1d354a781ad26af905f3c"), looks := false }, kinds := [], alts := [], laidByText := true, laidKinds := [.data], laidTests := true, laidLooks := .later }
def TriosRefusedUptoCardSaid : Prop := Claim7.holds Tryd.pinned (.plain (OpenSpec.upto triosRefusedSpec)) triosRefusedUptoCard
end Rows
end Go.Proofs.YtannaanbadaflaaDoor

/-
  DERIVED. GIVEN WITH THE SEED: THE CARDS: each row of YtlipbopmdfpobaaDoorRows.lean that lists a variable, with what it lists TIED to the program's text (the seventh form; the later family's looks); each row that meets fmt, with fmt's text TOLD by the authors' own Lean function (tested against real Go, not proved from fmt's source: count such statements apart). THE CARD IS WHAT COUNTS. Prove the row's statement (the work); the ties are given (YtlipbopmdfpobaaDoorTie.lean); close each card by the builder's one call (the guide's Derived/Test/ToyasCard.lean, 'card_holds'). Laid BY PROGRAM, IN A SANDBOX (cutbox-door.mjs). By AI agents, Wed Nov 11 2026. No macro, syntax, notation, axiom, sorry.
-/
import Derived.Test.YtlipbopmdfpobaaDoorRows
import GoSem.ClaimSeven
namespace Go.Proofs.YtlipbopmdfpobaaDoor
namespace Rows

/-- THE TIED CARD OF 'gouachelaw08.LayoutsOf'. -/
def layoutsOfCard : Claim7 := { stood := { row := layoutsOfRow, standIns := [], harness := (true, "bf506b897436455e95c78f1d196a38ba5dbcdf72f5b7fd7c3a9638628bda3b6d"), looks := false }, kinds := [], alts := [], laidByText := true, laidKinds := [.data], laidTests := true, laidLooks := .later }
def LayoutsOfCardSaid : Prop := Claim7.holds Tryd.pinned (.plain (OpenSpec.ofChange layoutsOfSpec)) layoutsOfCard

/-- THE TIED CARD OF 'gouachelaw08.LayoutsFields'. -/
def layoutsFieldsCard : Claim7 := { stood := { row := layoutsFieldsRow, standIns := [], harness := (true, "bf506b897436455e95c78f1d196a38ba5dbcdf72f5b7fd7c3a9638628bda3b6d"), looks := false }, kinds := [], alts := [], laidByText := true, laidKinds := [.data], laidTests := true, laidLooks := .later }
def LayoutsFieldsCardSaid : Prop := Claim7.holds Tryd.pinned (.plain (OpenSpec.ofChange layoutsFieldsSpec)) layoutsFieldsCard

/-- THE TIED CARD OF 'gouachelaw08.LayoutsSizes'. -/
def layoutsSizesCard : Claim7 := { stood := { row := layoutsSizesRow, standIns := [], harness := (true, "bf506b897436455e95c78f1d196a38ba5dbcdf72f5b7fd7c3a9638628bda3b6d"), looks := false }, kinds := [], alts := [], laidByText := true, laidKinds := [.data], laidTests := true, laidLooks := .later }
def LayoutsSizesCardSaid : Prop := Claim7.holds Tryd.pinned (.plain (OpenSpec.ofChange layoutsSizesSpec)) layoutsSizesCard

/-- THE TIED CARD OF 'gouachelaw08.LayoutsMore'. -/
def layoutsMoreCard : Claim7 := { stood := { row := layoutsMoreRow, standIns := [], harness := (true, "bf506b897436455e95c78f1d196a38ba5dbcdf72f5b7fd7c3a9638628bda3b6d"), looks := false }, kinds := [], alts := [], laidByText := true, laidKinds := [.data], laidTests := true, laidLooks := .later }
def LayoutsMoreCardSaid : Prop := Claim7.holds Tryd.pinned (.plain (OpenSpec.ofChange layoutsMoreSpec)) layoutsMoreCard

/-- THE SECOND FORM's CARD OF 'gouachelaw08.LayoutsOf'. -/
def layoutsOfUptoCard : Claim7 := { stood := { row := layoutsOfUptoRow, standIns := [], harness := (true, "bf506b897436455e95c78f1d196a38ba5dbcdf72f5b7fd7c3a9638628bda3b6d"), looks := false }, kinds := [], alts := [], laidByText := true, laidKinds := [.data], laidTests := true, laidLooks := .later }
def LayoutsOfUptoCardSaid : Prop := Claim7.holds Tryd.pinned (.plain (OpenSpec.upto layoutsOfSpec)) layoutsOfUptoCard

/-- THE SECOND FORM's CARD OF 'gouachelaw08.LayoutsFields'. -/
def layoutsFieldsUptoCard : Claim7 := { stood := { row := layoutsFieldsUptoRow, standIns := [], harness := (true, "bf506b897436455e95c78f1d196a38ba5dbcdf72f5b7fd7c3a9638628bda3b6d"), looks := false }, kinds := [], alts := [], laidByText := true, laidKinds := [.data], laidTests := true, laidLooks := .later }
def LayoutsFieldsUptoCardSaid : Prop := Claim7.holds Tryd.pinned (.plain (OpenSpec.upto layoutsFieldsSpec)) layoutsFieldsUptoCard

/-- THE SECOND FORM's CARD OF 'gouachelaw08.LayoutsSizes'. -/
def layoutsSizesUptoCard : Claim7 := { stood := { row := layoutsSizesUptoRow, standIns := [], harness := (true, "bf506b897436455e95c78f1d196a38ba5dbcdf72f5b7fd7c3a9638628bda3b6d"), looks := false }, kinds := [], alts := [], laidByText := true, laidKinds := [.data], laidTests := true, laidLooks := .later }
def LayoutsSizesUptoCardSaid : Prop := Claim7.holds Tryd.pinned (.plain (OpenSpec.upto layoutsSizesSpec)) layoutsSizesUptoCard

/-- THE SECOND FORM's CARD OF 'gouachelaw08.LayoutsMore'. -/
def layoutsMoreUptoCard : Claim7 := { stood := { row := layoutsMoreUptoRow, standIns := [], harness := (true, "bf506b897436455e95c78f1d196a38ba5dbcdf72f5b7fd7c3a9638628bda3b6d"), looks := false }, kinds := [], alts := [], laidByText := true, laidKinds := [.data], laidTests := true, laidLooks := .later }
def LayoutsMoreUptoCardSaid : Prop := Claim7.holds Tryd.pinned (.plain (OpenSpec.upto layoutsMoreSpec)) layoutsMoreUptoCard
end Rows
end Go.Proofs.YtlipbopmdfpobaaDoor

/-
  NARROWER THAN 'FOR EVERY INPUT', by the rows' own cells (each row's printed sentence says how): LayoutsOf: laid · LayoutsFields: laid · LayoutsSizes: laid · LayoutsMore: laid.
  DERIVED. THE GIVEN ROWS OF THIS SEAT. 4 by the template 'for every input the law returns true; each argument reads behind the call as it read before'; 0 by the template 'total and deterministic' (their statements: YtlipbopmdfpobaaDoorTotals.lean).
  GIVEN WITH THE SEED: the statements are not yours to turn. If you find one false, say at which input.
  Laid BY PROGRAM, IN A SANDBOX (cutbox-rows.mjs): the forced cells as the released guide's own fill.sh prints them over the translation c09aea754efd9053… (all of the seat's roots in one cut). By AI agents, Wed Nov 11 2026. No macro, syntax, notation, axiom, sorry.
-/
import Derived.Test.YtlipbopmdfpobaaDoorChecked
import GoSem.Claim
import GoSem.ClaimJoined
import GoSem.ClaimMapViews
import Derived.JoinedTies
import Derived.KernelRfl
namespace Go.Proofs.YtlipbopmdfpobaaDoor
/- THE CELL 'sum', in the pinned program and in every row, IS THE sha256 OF THE DUMP (.gsa) THAT YtlipbopmdfpobaaDoorProg.lean LOADS. Nothing in Lean hashes anything: it is a label: what it is worth is what the hold of that sum in a sandbox is worth. -/
noncomputable def Tryd.pinned : Pinned := { name := "ytlipbopmdfpobaadoor", sum := "c09aea754efd9053c6199076462af25ab690efcf91e852ab102a2bfe9207184f", checked := Tryd.checked }
namespace Rows
def none {H : Type} : Left H := { results := [], args := [] }

/- WHAT THE LISTED PACKAGE-LEVEL VARIABLES READ AS WHEN THE CALL BEGINS. Each datum BY PROGRAM (the guide's laid-datum.mjs) off the statement by which the dump's own 'gosem.cut.vars' lays the variable. In a bare row this is a premise. The card (YtlipbopmdfpobaaDoorCards.lean) ties it to the program's text. -/
def laid_gouache_layouts_sets {H : Type} : DataW H := .agg [.lit (.int .u64 4311814422), .lit (.int .u64 69910), .lit (.int .u64 276)]

/-- 'gouachelaw08.LayoutsOf': WHATEVER THE INPUT: true; the input reads as it did. -/
def layoutsOfSpec : ChangeSpec := { name := "layoutsOf", fn := fun _ => fun
  | [d1, d2] => { results := [.lit (.bool true)], args := [d1, d2] }
  | _ => none }
def layoutsOfRow : OpenClaim := { program := "ytlipbopmdfpobaadoor", sum := "c09aea754efd9053c6199076462af25ab690efcf91e852ab102a2bfe9207184f", func := "gouache/gouachelaw08.LayoutsOf", spec := "layoutsOf", named := ["gouache/layouts.sets"], apart := false, laid := [("gouache/layouts.sets", laid_gouache_layouts_sets)] }
def LayoutsOfSaid : Prop := layoutsOfRow.holds Tryd.pinned (OpenSpec.ofChange layoutsOfSpec)

/-- ITS FALSE NEIGHBOUR: 'it returns false'. Refute it at one input. -/
def layoutsOfWrong : ChangeSpec := { name := "layoutsOf", fn := fun _ => fun
  | [d1, d2] => { results := [.lit (.bool false)], args := [d1, d2] }
  | _ => none }
def LayoutsOfWrongFalsely : Prop := layoutsOfRow.holds Tryd.pinned (OpenSpec.ofChange layoutsOfWrong)

/-- 'gouachelaw08.LayoutsFields': WHATEVER THE INPUT: true; the input reads as it did. -/
def layoutsFieldsSpec : ChangeSpec := { name := "layoutsFields", fn := fun _ => fun
  | [d] => { results := [.lit (.bool true)], args := [d] }
  | _ => none }
def layoutsFieldsRow : OpenClaim := { program := "ytlipbopmdfpobaadoor", sum := "c09aea754efd9053c6199076462af25ab690efcf91e852ab102a2bfe9207184f", func := "gouache/gouachelaw08.LayoutsFields", spec := "layoutsFields", named := ["gouache/layouts.sets"], apart := false, laid := [("gouache/layouts.sets", laid_gouache_layouts_sets)] }
def LayoutsFieldsSaid : Prop := layoutsFieldsRow.holds Tryd.pinned (OpenSpec.ofChange layoutsFieldsSpec)

/-- ITS FALSE NEIGHBOUR: 'it returns false'. Refute it at one input. -/
def layoutsFieldsWrong : ChangeSpec := { name := "layoutsFields", fn := fun _ => fun
  | [d] => { results := [.lit (.bool false)], args := [d] }
  | _ => none }
def LayoutsFieldsWrongFalsely : Prop := layoutsFieldsRow.holds Tryd.pinned (OpenSpec.ofChange layoutsFieldsWrong)

/-- 'gouachelaw08.LayoutsSizes': WHATEVER THE INPUT: true; the input reads as it did. -/
def layoutsSizesSpec : ChangeSpec := { name := "layoutsSizes", fn := fun _ => fun
  | [d1, d2] => { results := [.lit (.bool true)], args := [d1, d2] }
  | _ => none }
def layoutsSizesRow : OpenClaim := { program := "ytlipbopmdfpobaadoor", sum := "c09aea754efd9053c6199076462af25ab690efcf91e852ab102a2bfe9207184f", func := "gouache/gouachelaw08.LayoutsSizes", spec := "layoutsSizes", named := ["gouache/layouts.sets"], apart := false, laid := [("gouache/layouts.sets", laid_gouache_layouts_sets)] }
def LayoutsSizesSaid : Prop := layoutsSizesRow.holds Tryd.pinned (OpenSpec.ofChange layoutsSizesSpec)

/-- ITS FALSE NEIGHBOUR: 'it returns false'. Refute it at one input. -/
def layoutsSizesWrong : ChangeSpec := { name := "layoutsSizes", fn := fun _ => fun
  | [d1, d2] => { results := [.lit (.bool false)], args := [d1, d2] }
  | _ => none }
def LayoutsSizesWrongFalsely : Prop := layoutsSizesRow.holds Tryd.pinned (OpenSpec.ofChange layoutsSizesWrong)

/-- 'gouachelaw08.LayoutsMore': WHATEVER THE INPUT: true; the input reads as it did. -/
def layoutsMoreSpec : ChangeSpec := { name := "layoutsMore", fn := fun _ => fun
  | [d1, d2] => { results := [.lit (.bool true)], args := [d1, d2] }
  | _ => none }
def layoutsMoreRow : OpenClaim := { program := "ytlipbopmdfpobaadoor", sum := "c09aea754efd9053c6199076462af25ab690efcf91e852ab102a2bfe9207184f", func := "gouache/gouachelaw08.LayoutsMore", spec := "layoutsMore", named := ["gouache/layouts.sets"], apart := false, laid := [("gouache/layouts.sets", laid_gouache_layouts_sets)] }
def LayoutsMoreSaid : Prop := layoutsMoreRow.holds Tryd.pinned (OpenSpec.ofChange layoutsMoreSpec)

/-- ITS FALSE NEIGHBOUR: 'it returns false'. Refute it at one input. -/
def layoutsMoreWrong : ChangeSpec := { name := "layoutsMore", fn := fun _ => fun
  | [d1, d2] => { results := [.lit (.bool false)], args := [d1, d2] }
  | _ => none }
def LayoutsMoreWrongFalsely : Prop := layoutsMoreRow.holds Tryd.pinned (OpenSpec.ofChange layoutsMoreWrong)

/- THE SECOND FORM. 'bulk': how many values and letters a reading holds, each counted each time it is reached (what is shared counts as often as it is met; a slice's spare places count too). A statement '..UptoSaid' is the law's where the arguments, and the package variables that the reading takes, are together of bulk at most 1048576: NARROWER than '..Said'. Prove '..Said' where nothing that the law and all that it calls make is longer than what came in: it says more and counts as full. Else prove '..UptoSaid'. A law counts once. -/
mutual
def uptoBulk {H : Type} : DataW H → Nat
  | .lit (.string bytes) => bytes.length + 1
  | .lit _ => 1
  | .nil => 1
  | .ptr d => uptoBulk d + 1
  | .slice elems spare => uptoBulkAll elems + uptoBulkAll spare + 1
  | .agg parts => uptoBulkAll parts + 1
  | .iface _ d => uptoBulk d + 1
  | .map entries => uptoBulkEntries entries + 1
  | .held _ => 1
def uptoBulkAll {H : Type} : List (DataW H) → Nat
  | [] => 0
  | d :: r => uptoBulk d + uptoBulkAll r
def uptoBulkEntries {H : Type} : List (Lit × DataW H) → Nat
  | [] => 0
  | x :: r => uptoBulkEntry x + uptoBulkEntries r
def uptoBulkEntry {H : Type} : Lit × DataW H → Nat
  | (.string bytes, d) => bytes.length + uptoBulk d + 1
  | (_, d) => uptoBulk d + 1
 end
def uptoSmall : (H : Type) → List (DataW H) → Bool := fun _ ds => decide (uptoBulkAll ds ≤ 1048576)
def OpenSpec.upto (s : _root_.Go.ChangeSpec) : _root_.Go.OpenSpec := { _root_.Go.OpenSpec.ofChange s with cond := some uptoSmall }

/-- 'gouachelaw08.LayoutsOf', WHERE WHAT IT READS IS OF BULK AT MOST 1048576: true; the input reads as it did. -/
def layoutsOfUptoRow : OpenClaim := { program := "ytlipbopmdfpobaadoor", sum := "c09aea754efd9053c6199076462af25ab690efcf91e852ab102a2bfe9207184f", func := "gouache/gouachelaw08.LayoutsOf", spec := "layoutsOf", named := ["gouache/layouts.sets"], apart := false, laid := [("gouache/layouts.sets", laid_gouache_layouts_sets)], narrowed := true }
def LayoutsOfUptoSaid : Prop := layoutsOfUptoRow.holds Tryd.pinned (OpenSpec.upto layoutsOfSpec)

/-- 'gouachelaw08.LayoutsFields', WHERE WHAT IT READS IS OF BULK AT MOST 1048576: true; the input reads as it did. -/
def layoutsFieldsUptoRow : OpenClaim := { program := "ytlipbopmdfpobaadoor", sum := "c09aea754efd9053c6199076462af25ab690efcf91e852ab102a2bfe9207184f", func := "gouache/gouachelaw08.LayoutsFields", spec := "layoutsFields", named := ["gouache/layouts.sets"], apart := false, laid := [("gouache/layouts.sets", laid_gouache_layouts_sets)], narrowed := true }
def LayoutsFieldsUptoSaid : Prop := layoutsFieldsUptoRow.holds Tryd.pinned (OpenSpec.upto layoutsFieldsSpec)

/-- 'gouachelaw08.LayoutsSizes', WHERE WHAT IT READS IS OF BULK AT MOST 1048576: true; the input reads as it did. -/
def layoutsSizesUptoRow : OpenClaim := { program := "ytlipbopmdfpobaadoor", sum := "c09aea754efd9053c6199076462af25ab690efcf91e852ab102a2bfe9207184f", func := "gouache/gouachelaw08.LayoutsSizes", spec := "layoutsSizes", named := ["gouache/layouts.sets"], apart := false, laid := [("gouache/layouts.sets", laid_gouache_layouts_sets)], narrowed := true }
def LayoutsSizesUptoSaid : Prop := layoutsSizesUptoRow.holds Tryd.pinned (OpenSpec.upto layoutsSizesSpec)

/-- 'gouachelaw08.LayoutsMore', WHERE WHAT IT READS IS OF BULK AT MOST 1048576: true; the input reads as it did. -/
def layoutsMoreUptoRow : OpenClaim := { program := "ytlipbopmdfpobaadoor", sum := "c09aea754efd9053c6199076462af25ab690efcf91e852ab102a2bfe9207184f", func := "gouache/gouachelaw08.LayoutsMore", spec := "layoutsMore", named := ["gouache/layouts.sets"], apart := false, laid := [("gouache/layouts.sets", laid_gouache_layouts_sets)], narrowed := true }
def LayoutsMoreUptoSaid : Prop := layoutsMoreUptoRow.holds Tryd.pinned (OpenSpec.upto layoutsMoreSpec)

end Rows
end Go.Proofs.YtlipbopmdfpobaaDoor

/-
  NARROWER THAN 'FOR EVERY INPUT', by the rows' own cells (each row's printed sentence says how): SheetsGet: laid · SheetsPut: laid · SheetsBack: laid · SheetsAgain: laid · SheetsJoin: laid · SheetsRoom: laid.
  DERIVED. THE GIVEN ROWS OF THIS SEAT. 6 by the template 'for every input the law returns true; each argument reads behind the call as it read before'; 0 by the template 'total and deterministic' (their statements: YtlmbpdlobpcahaaDoorTotals.lean).
  GIVEN WITH THE SEED: the statements are not yours to turn. If you find one false, say at which input.
  Laid BY PROGRAM, IN A SANDBOX (cutbox-rows.mjs): the forced cells as the released guide's own fill.sh prints them over the translation 0d29a910322bcbb3… (all of the seat's roots in one cut). By AI agents, Wed Nov 11 2026. No macro, syntax, notation, axiom, sorry.
-/
import Derived.Test.YtlmbpdlobpcahaaDoorChecked
import GoSem.Claim
import GoSem.ClaimJoined
import GoSem.ClaimMapViews
import Derived.JoinedTies
import Derived.KernelRfl
namespace Go.Proofs.YtlmbpdlobpcahaaDoor
/- THE CELL 'sum', in the pinned program and in every row, IS THE sha256 OF THE DUMP (.gsa) THAT YtlmbpdlobpcahaaDoorProg.lean LOADS. Nothing in Lean hashes anything: it is a label: what it is worth is what the hold of that sum in a sandbox is worth. -/
noncomputable def Tryd.pinned : Pinned := { name := "ytlmbpdlobpcahaadoor", sum := "0d29a910322bcbb3274b97a9745f4cd3f9e2b5f782127eec74357f2df8196e2f", checked := Tryd.checked }
namespace Rows
def none {H : Type} : Left H := { results := [], args := [] }

/- WHAT THE LISTED PACKAGE-LEVEL VARIABLES READ AS WHEN THE CALL BEGINS. Each datum BY PROGRAM (the guide's laid-datum.mjs) off the statement by which the dump's own 'gosem.cut.vars' lays the variable. In a bare row this is a premise. The card (YtlmbpdlobpcahaaDoorCards.lean) ties it to the program's text. -/
def laid_gouache_layouts_sets {H : Type} : DataW H := .agg [.lit (.int .u64 4311814422), .lit (.int .u64 69910), .lit (.int .u64 276)]

/-- 'gouachelaw11.SheetsGet': WHATEVER THE INPUT: true; the input reads as it did. -/
def sheetsGetSpec : ChangeSpec := { name := "sheetsGet", fn := fun _ => fun
  | [d1, d2] => { results := [.lit (.bool true)], args := [d1, d2] }
  | _ => none }
def sheetsGetRow : OpenClaim := { program := "ytlmbpdlobpcahaadoor", sum := "0d29a910322bcbb3274b97a9745f4cd3f9e2b5f782127eec74357f2df8196e2f", func := "gouache/gouachelaw11.SheetsGet", spec := "sheetsGet", unfollowed := true, recurses := true, named := ["gouache/layouts.sets"], apart := false, laid := [("gouache/layouts.sets", laid_gouache_layouts_sets)] }
def SheetsGetSaid : Prop := sheetsGetRow.holds Tryd.pinned (OpenSpec.ofChange sheetsGetSpec)

/-- ITS FALSE NEIGHBOUR: 'it returns false'. Refute it at one input. -/
def sheetsGetWrong : ChangeSpec := { name := "sheetsGet", fn := fun _ => fun
  | [d1, d2] => { results := [.lit (.bool false)], args := [d1, d2] }
  | _ => none }
def SheetsGetWrongFalsely : Prop := sheetsGetRow.holds Tryd.pinned (OpenSpec.ofChange sheetsGetWrong)

/-- 'gouachelaw11.SheetsPut': WHATEVER THE INPUT: true; the input reads as it did. -/
def sheetsPutSpec : ChangeSpec := { name := "sheetsPut", fn := fun _ => fun
  | [d1, d2] => { results := [.lit (.bool true)], args := [d1, d2] }
  | _ => none }
def sheetsPutRow : OpenClaim := { program := "ytlmbpdlobpcahaadoor", sum := "0d29a910322bcbb3274b97a9745f4cd3f9e2b5f782127eec74357f2df8196e2f", func := "gouache/gouachelaw11.SheetsPut", spec := "sheetsPut", unfollowed := true, recurses := true, named := ["gouache/layouts.sets"], apart := false, laid := [("gouache/layouts.sets", laid_gouache_layouts_sets)] }
def SheetsPutSaid : Prop := sheetsPutRow.holds Tryd.pinned (OpenSpec.ofChange sheetsPutSpec)

/-- ITS FALSE NEIGHBOUR: 'it returns false'. Refute it at one input. -/
def sheetsPutWrong : ChangeSpec := { name := "sheetsPut", fn := fun _ => fun
  | [d1, d2] => { results := [.lit (.bool false)], args := [d1, d2] }
  | _ => none }
def SheetsPutWrongFalsely : Prop := sheetsPutRow.holds Tryd.pinned (OpenSpec.ofChange sheetsPutWrong)

/-- 'gouachelaw11.SheetsBack': WHATEVER THE INPUT: true; the input reads as it did. -/
def sheetsBackSpec : ChangeSpec := { name := "sheetsBack", fn := fun _ => fun
  | [d1, d2, d3] => { results := [.lit (.bool true)], args := [d1, d2, d3] }
  | _ => none }
def sheetsBackRow : OpenClaim := { program := "ytlmbpdlobpcahaadoor", sum := "0d29a910322bcbb3274b97a9745f4cd3f9e2b5f782127eec74357f2df8196e2f", func := "gouache/gouachelaw11.SheetsBack", spec := "sheetsBack", unfollowed := true, recurses := true, named := ["gouache/layouts.sets"], apart := false, laid := [("gouache/layouts.sets", laid_gouache_layouts_sets)] }
def SheetsBackSaid : Prop := sheetsBackRow.holds Tryd.pinned (OpenSpec.ofChange sheetsBackSpec)

/-- ITS FALSE NEIGHBOUR: 'it returns false'. Refute it at one input. -/
def sheetsBackWrong : ChangeSpec := { name := "sheetsBack", fn := fun _ => fun
  | [d1, d2, d3] => { results := [.lit (.bool false)], args := [d1, d2, d3] }
  | _ => none }
def SheetsBackWrongFalsely : Prop := sheetsBackRow.holds Tryd.pinned (OpenSpec.ofChange sheetsBackWrong)

/-- 'gouachelaw11.SheetsAgain': WHATEVER THE INPUT: true; the input reads as it did. -/
def sheetsAgainSpec : ChangeSpec := { name := "sheetsAgain", fn := fun _ => fun
  | [d1, d2] => { results := [.lit (.bool true)], args := [d1, d2] }
  | _ => none }
def sheetsAgainRow : OpenClaim := { program := "ytlmbpdlobpcahaadoor", sum := "0d29a910322bcbb3274b97a9745f4cd3f9e2b5f782127eec74357f2df8196e2f", func := "gouache/gouachelaw11.SheetsAgain", spec := "sheetsAgain", unfollowed := true, recurses := true, named := ["gouache/layouts.sets"], apart := false, laid := [("gouache/layouts.sets", laid_gouache_layouts_sets)] }
def SheetsAgainSaid : Prop := sheetsAgainRow.holds Tryd.pinned (OpenSpec.ofChange sheetsAgainSpec)

/-- ITS FALSE NEIGHBOUR: 'it returns false'. Refute it at one input. -/
def sheetsAgainWrong : ChangeSpec := { name := "sheetsAgain", fn := fun _ => fun
  | [d1, d2] => { results := [.lit (.bool false)], args := [d1, d2] }
  | _ => none }
def SheetsAgainWrongFalsely : Prop := sheetsAgainRow.holds Tryd.pinned (OpenSpec.ofChange sheetsAgainWrong)

/-- 'gouachelaw11.SheetsJoin': WHATEVER THE INPUT: true; the input reads as it did. -/
def sheetsJoinSpec : ChangeSpec := { name := "sheetsJoin", fn := fun _ => fun
  | [d1, d2, d3] => { results := [.lit (.bool true)], args := [d1, d2, d3] }
  | _ => none }
def sheetsJoinRow : OpenClaim := { program := "ytlmbpdlobpcahaadoor", sum := "0d29a910322bcbb3274b97a9745f4cd3f9e2b5f782127eec74357f2df8196e2f", func := "gouache/gouachelaw11.SheetsJoin", spec := "sheetsJoin", unfollowed := true, recurses := true, named := ["gouache/layouts.sets"], apart := false, laid := [("gouache/layouts.sets", laid_gouache_layouts_sets)] }
def SheetsJoinSaid : Prop := sheetsJoinRow.holds Tryd.pinned (OpenSpec.ofChange sheetsJoinSpec)

/-- ITS FALSE NEIGHBOUR: 'it returns false'. Refute it at one input. -/
def sheetsJoinWrong : ChangeSpec := { name := "sheetsJoin", fn := fun _ => fun
  | [d1, d2, d3] => { results := [.lit (.bool false)], args := [d1, d2, d3] }
  | _ => none }
def SheetsJoinWrongFalsely : Prop := sheetsJoinRow.holds Tryd.pinned (OpenSpec.ofChange sheetsJoinWrong)

/-- 'gouachelaw11.SheetsRoom': WHATEVER THE INPUT: true; the input reads as it did. -/
def sheetsRoomSpec : ChangeSpec := { name := "sheetsRoom", fn := fun _ => fun
  | [d1, d2, d3] => { results := [.lit (.bool true)], args := [d1, d2, d3] }
  | _ => none }
def sheetsRoomRow : OpenClaim := { program := "ytlmbpdlobpcahaadoor", sum := "0d29a910322bcbb3274b97a9745f4cd3f9e2b5f782127eec74357f2df8196e2f", func := "gouache/gouachelaw11.SheetsRoom", spec := "sheetsRoom", unfollowed := true, recurses := true, named := ["gouache/layouts.sets"], apart := false, laid := [("gouache/layouts.sets", laid_gouache_layouts_sets)] }
def SheetsRoomSaid : Prop := sheetsRoomRow.holds Tryd.pinned (OpenSpec.ofChange sheetsRoomSpec)

/-- ITS FALSE NEIGHBOUR: 'it returns false'. Refute it at one input. -/
def sheetsRoomWrong : ChangeSpec := { name := "sheetsRoom", fn := fun _ => fun
  | [d1, d2, d3] => { results := [.lit (.bool false)], args := [d1, d2, d3] }
  | _ => none }
def SheetsRoomWrongFalsely : Prop := sheetsRoomRow.holds Tryd.pinned (OpenSpec.ofChange sheetsRoomWrong)

/- THE SECOND FORM. 'bulk': how many values and letters a reading holds, each counted each time it is reached (what is shared counts as often as it is met; a slice's spare places count too). A statement '..UptoSaid' is the law's where the arguments, and the package variables that the reading takes, are together of bulk at most 1048576: NARROWER than '..Said'. Prove '..Said' where nothing that the law and all that it calls make is longer than what came in: it says more and counts as full. Else prove '..UptoSaid'. A law counts once. -/
mutual
def uptoBulk {H : Type} : DataW H → Nat
  | .lit (.string bytes) => bytes.length + 1
  | .lit _ => 1
  | .nil => 1
  | .ptr d => uptoBulk d + 1
  | .slice elems spare => uptoBulkAll elems + uptoBulkAll spare + 1
  | .agg parts => uptoBulkAll parts + 1
  | .iface _ d => uptoBulk d + 1
  | .map entries => uptoBulkEntries entries + 1
  | .held _ => 1
def uptoBulkAll {H : Type} : List (DataW H) → Nat
  | [] => 0
  | d :: r => uptoBulk d + uptoBulkAll r
def uptoBulkEntries {H : Type} : List (Lit × DataW H) → Nat
  | [] => 0
  | x :: r => uptoBulkEntry x + uptoBulkEntries r
def uptoBulkEntry {H : Type} : Lit × DataW H → Nat
  | (.string bytes, d) => bytes.length + uptoBulk d + 1
  | (_, d) => uptoBulk d + 1
 end
def uptoSmall : (H : Type) → List (DataW H) → Bool := fun _ ds => decide (uptoBulkAll ds ≤ 1048576)
def OpenSpec.upto (s : _root_.Go.ChangeSpec) : _root_.Go.OpenSpec := { _root_.Go.OpenSpec.ofChange s with cond := some uptoSmall }

/-- 'gouachelaw11.SheetsGet', WHERE WHAT IT READS IS OF BULK AT MOST 1048576: true; the input reads as it did. -/
def sheetsGetUptoRow : OpenClaim := { program := "ytlmbpdlobpcahaadoor", sum := "0d29a910322bcbb3274b97a9745f4cd3f9e2b5f782127eec74357f2df8196e2f", func := "gouache/gouachelaw11.SheetsGet", spec := "sheetsGet", unfollowed := true, recurses := true, named := ["gouache/layouts.sets"], apart := false, laid := [("gouache/layouts.sets", laid_gouache_layouts_sets)], narrowed := true }
def SheetsGetUptoSaid : Prop := sheetsGetUptoRow.holds Tryd.pinned (OpenSpec.upto sheetsGetSpec)

/-- 'gouachelaw11.SheetsPut', WHERE WHAT IT READS IS OF BULK AT MOST 1048576: true; the input reads as it did. -/
def sheetsPutUptoRow : OpenClaim := { program := "ytlmbpdlobpcahaadoor", sum := "0d29a910322bcbb3274b97a9745f4cd3f9e2b5f782127eec74357f2df8196e2f", func := "gouache/gouachelaw11.SheetsPut", spec := "sheetsPut", unfollowed := true, recurses := true, named := ["gouache/layouts.sets"], apart := false, laid := [("gouache/layouts.sets", laid_gouache_layouts_sets)], narrowed := true }
def SheetsPutUptoSaid : Prop := sheetsPutUptoRow.holds Tryd.pinned (OpenSpec.upto sheetsPutSpec)

/-- 'gouachelaw11.SheetsBack', WHERE WHAT IT READS IS OF BULK AT MOST 1048576: true; the input reads as it did. -/
def sheetsBackUptoRow : OpenClaim := { program := "ytlmbpdlobpcahaadoor", sum := "0d29a910322bcbb3274b97a9745f4cd3f9e2b5f782127eec74357f2df8196e2f", func := "gouache/gouachelaw11.SheetsBack", spec := "sheetsBack", unfollowed := true, recurses := true, named := ["gouache/layouts.sets"], apart := false, laid := [("gouache/layouts.sets", laid_gouache_layouts_sets)], narrowed := true }
def SheetsBackUptoSaid : Prop := sheetsBackUptoRow.holds Tryd.pinned (OpenSpec.upto sheetsBackSpec)

/-- 'gouachelaw11.SheetsAgain', WHERE WHAT IT READS IS OF BULK AT MOST 1048576: true; the input reads as it did. -/
def sheetsAgainUptoRow : OpenClaim := { program := "ytlmbpdlobpcahaadoor", sum := "0d29a910322bcbb3274b97a9745f4cd3f9e2b5f782127eec74357f2df8196e2f", func := "gouache/gouachelaw11.SheetsAgain", spec := "sheetsAgain", unfollowed := true, recurses := true, named := ["gouache/layouts.sets"], apart := false, laid := [("gouache/layouts.sets", laid_gouache_layouts_sets)], narrowed := true }
def SheetsAgainUptoSaid : Prop := sheetsAgainUptoRow.holds Tryd.pinned (OpenSpec.upto sheetsAgainSpec)

/-- 'gouachelaw11.SheetsJoin', WHERE WHAT IT READS IS OF BULK AT MOST 1048576: true; the input reads as it did. -/
def sheetsJoinUptoRow : OpenClaim := { program := "ytlmbpdlobpcahaadoor", sum := "0d29a910322bcbb3274b97a9745f4cd3f9e2b5f782127eec74357f2df8196e2f", func := "gouache/gouachelaw11.SheetsJoin", spec := "sheetsJoin", unfollowed := true, recurses := true, named := ["gouache/layouts.sets"], apart := false, laid := [("gouache/layouts.sets", laid_gouache_layouts_sets)], narrowed := true }
def SheetsJoinUptoSaid : Prop := sheetsJoinUptoRow.holds Tryd.pinned (OpenSpec.upto sheetsJoinSpec)

/-- 'gouachelaw11.SheetsRoom', WHERE WHAT IT READS IS OF BULK AT MOST 1048576: true; the input reads as it did. -/
def sheetsRoomUptoRow : OpenClaim := { program := "ytlmbpdlobpcahaadoor", sum := "0d29a910322bcbb3274b97a9745f4cd3f9e2b5f782127eec74357f2df8196e2f", func := "gouache/gouachelaw11.SheetsRoom", spec := "sheetsRoom", unfollowed := true, recurses := true, named := ["gouache/layouts.sets"], apart := false, laid := [("gouache/layouts.sets", laid_gouache_layouts_sets)], narrowed := true }
def SheetsRoomUptoSaid : Prop := sheetsRoomUptoRow.holds Tryd.pinned (OpenSpec.upto sheetsRoomSpec)

end Rows
end Go.Proofs.YtlmbpdlobpcahaaDoor

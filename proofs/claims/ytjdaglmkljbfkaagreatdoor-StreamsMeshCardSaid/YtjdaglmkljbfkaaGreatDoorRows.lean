/-
  NARROWER THAN 'FOR EVERY INPUT', by the rows' own cells (each row's printed sentence says how): StreamsDecode: laid · StreamsMesh: laid.
  DERIVED. THE GIVEN ROWS OF THIS SEAT. 2 by the template 'for every input the law returns true; each argument reads behind the call as it read before'; 0 by the template 'total and deterministic' (their statements: YtjdaglmkljbfkaaGreatDoorTotals.lean).
  GIVEN WITH THE SEED: the statements are not yours to turn. If you find one false, say at which input.
  Laid BY PROGRAM, IN A SANDBOX (cutbox-rows.mjs): the forced cells as the released guide's own fill.sh prints them over the translation 3f76df16d62bf76d… (all of the seat's roots in one cut). By AI agents, Wed Nov 11 2026. No macro, syntax, notation, axiom, sorry.
-/
import Derived.Test.YtjdaglmkljbfkaaGreatDoorChecked
import GoSem.Claim
import GoSem.ClaimJoined
import GoSem.ClaimMapViews
import Derived.JoinedTies
import Derived.KernelRfl
namespace Go.Proofs.YtjdaglmkljbfkaaGreatDoor
/- THE CELL 'sum', in the pinned program and in every row, IS THE sha256 OF THE DUMP (.gsa) THAT YtjdaglmkljbfkaaGreatDoorProg.lean LOADS. Nothing in Lean hashes anything: it is a label: what it is worth is what the hold of that sum in a sandbox is worth. -/
noncomputable def Tryz.pinned : Pinned := { name := "ytjdaglmkljbfkaagreatdoor", sum := "3f76df16d62bf76dfa7be083e3d0c38aea63bb7960582f32e6e965b353bc15ed", checked := Tryz.checked }
namespace Rows
def none {H : Type} : Left H := { results := [], args := [] }

/- WHAT THE LISTED PACKAGE-LEVEL VARIABLES READ AS WHEN THE CALL BEGINS. Each datum BY PROGRAM (the guide's laid-datum.mjs) off the statement by which the dump's own 'gosem.cut.vars' lays the variable. In a bare row this is a premise. The card (YtjdaglmkljbfkaaGreatDoorCards.lean) ties it to the program's text. -/
def laid_gouache_layouts_sets {H : Type} : DataW H := .agg [.lit (.int .u64 4311814422), .lit (.int .u64 69910), .lit (.int .u64 276)]
def laid_gouache_tiles_edges {H : Type} : DataW H := .agg [.agg [.agg [.agg [.lit (.int .i64 0), .lit (.int .i64 0), .lit (.int .i64 0), .lit (.int .i64 0)]], .agg [.lit (.int .i64 0), .lit (.int .i64 0)]], .agg [.agg [.agg [.lit (.int .i64 3), .lit (.int .i64 4), .lit (.int .i64 5), .lit (.int .i64 6)]], .agg [.lit (.int .i64 1), .lit (.int .i64 2)]], .agg [.agg [.agg [.lit (.int .i64 6), .lit (.int .i64 7), .lit (.int .i64 8), .lit (.int .i64 9)]], .agg [.lit (.int .i64 2), .lit (.int .i64 3)]], .agg [.agg [.agg [.lit (.int .i64 9), .lit (.int .i64 10), .lit (.int .i64 11), .lit (.int .i64 0)]], .agg [.lit (.int .i64 3), .lit (.int .i64 0)]]]

/-- 'gouachelaw13.StreamsDecode': WHATEVER THE INPUT: true; the input reads as it did. -/
def streamsDecodeSpec : ChangeSpec := { name := "streamsDecode", fn := fun _ => fun
  | [d1, d2] => { results := [.lit (.bool true)], args := [d1, d2] }
  | _ => none }
def streamsDecodeRow : OpenClaim := { program := "ytjdaglmkljbfkaagreatdoor", sum := "3f76df16d62bf76dfa7be083e3d0c38aea63bb7960582f32e6e965b353bc15ed", func := "gouache/gouachelaw13.StreamsDecode", spec := "streamsDecode", unfollowed := true, recurses := true, named := ["gouache/layouts.sets", "gouache/tiles.edges"], apart := false, laid := [("gouache/layouts.sets", laid_gouache_layouts_sets), ("gouache/tiles.edges", laid_gouache_tiles_edges)] }
def StreamsDecodeSaid : Prop := streamsDecodeRow.holds Tryz.pinned (OpenSpec.ofChange streamsDecodeSpec)

/-- ITS FALSE NEIGHBOUR: 'it returns false'. Refute it at one input. -/
def streamsDecodeWrong : ChangeSpec := { name := "streamsDecode", fn := fun _ => fun
  | [d1, d2] => { results := [.lit (.bool false)], args := [d1, d2] }
  | _ => none }
def StreamsDecodeWrongFalsely : Prop := streamsDecodeRow.holds Tryz.pinned (OpenSpec.ofChange streamsDecodeWrong)

/-- 'gouachelaw13.StreamsMesh': WHATEVER THE INPUT: true; the input reads as it did. -/
def streamsMeshSpec : ChangeSpec := { name := "streamsMesh", fn := fun _ => fun
  | [d1, d2] => { results := [.lit (.bool true)], args := [d1, d2] }
  | _ => none }
def streamsMeshRow : OpenClaim := { program := "ytjdaglmkljbfkaagreatdoor", sum := "3f76df16d62bf76dfa7be083e3d0c38aea63bb7960582f32e6e965b353bc15ed", func := "gouache/gouachelaw13.StreamsMesh", spec := "streamsMesh", unfollowed := true, recurses := true, named := ["gouache/layouts.sets", "gouache/tiles.edges"], apart := false, laid := [("gouache/layouts.sets", laid_gouache_layouts_sets), ("gouache/tiles.edges", laid_gouache_tiles_edges)] }
def StreamsMeshSaid : Prop := streamsMeshRow.holds Tryz.pinned (OpenSpec.ofChange streamsMeshSpec)

/-- ITS FALSE NEIGHBOUR: 'it returns false'. Refute it at one input. -/
def streamsMeshWrong : ChangeSpec := { name := "streamsMesh", fn := fun _ => fun
  | [d1, d2] => { results := [.lit (.bool false)], args := [d1, d2] }
  | _ => none }
def StreamsMeshWrongFalsely : Prop := streamsMeshRow.holds Tryz.pinned (OpenSpec.ofChange streamsMeshWrong)

/- THE SECOND FORM. 'bulk': how many values and letters a reading holds, each counted each time it is reached (what is shared counts as often as it is met; a slice's spare places count too). A statement '..UptoSaid' is the law's where the arguments, and the package variables that the reading takes, are together of bulk at most 1048576: NARROWER than '..Said'. Prove '..Said' where nothing that the law and all that it calls make is longer than what came in: it says more and counts as full. Else prove '..UptoSaid'. A law counts once. -/
mutual
def uptoBulk {H : Type} : DataW H → Nat
  | .lit (.string bytes) => bytes.length + 1
  | .lit _ => 1
  | .nil => 1
  | .ptr d => uptoBulk d + 1
  | .slice elems spare => uptoBulkAll elems + uptoBulkAll spare + 1
  | .agg parts => uptoBulkAll parts + 1
  | .iface _ d => uptoBulk d + 1
  | .map entries => uptoBulkEntries entries + 1
  | .held _ => 1
def uptoBulkAll {H : Type} : List (DataW H) → Nat
  | [] => 0
  | d :: r => uptoBulk d + uptoBulkAll r
def uptoBulkEntries {H : Type} : List (Lit × DataW H) → Nat
  | [] => 0
  | x :: r => uptoBulkEntry x + uptoBulkEntries r
def uptoBulkEntry {H : Type} : Lit × DataW H → Nat
  | (.string bytes, d) => bytes.length + uptoBulk d + 1
  | (_, d) => uptoBulk d + 1
 end
def uptoSmall : (H : Type) → List (DataW H) → Bool := fun _ ds => decide (uptoBulkAll ds ≤ 1048576)
def OpenSpec.upto (s : _root_.Go.ChangeSpec) : _root_.Go.OpenSpec := { _root_.Go.OpenSpec.ofChange s with cond := some uptoSmall }

/-- 'gouachelaw13.StreamsDecode', WHERE WHAT IT READS IS OF BULK AT MOST 1048576: true; the input reads as it did. -/
def streamsDecodeUptoRow : OpenClaim := { program := "ytjdaglmkljbfkaagreatdoor", sum := "3f76df16d62bf76dfa7be083e3d0c38aea63bb7960582f32e6e965b353bc15ed", func := "gouache/gouachelaw13.StreamsDecode", spec := "streamsDecode", unfollowed := true, recurses := true, named := ["gouache/layouts.sets", "gouache/tiles.edges"], apart := false, laid := [("gouache/layouts.sets", laid_gouache_layouts_sets), ("gouache/tiles.edges", laid_gouache_tiles_edges)], narrowed := true }
def StreamsDecodeUptoSaid : Prop := streamsDecodeUptoRow.holds Tryz.pinned (OpenSpec.upto streamsDecodeSpec)

/-- 'gouachelaw13.StreamsMesh', WHERE WHAT IT READS IS OF BULK AT MOST 1048576: true; the input reads as it did. -/
def streamsMeshUptoRow : OpenClaim := { program := "ytjdaglmkljbfkaagreatdoor", sum := "3f76df16d62bf76dfa7be083e3d0c38aea63bb7960582f32e6e965b353bc15ed", func := "gouache/gouachelaw13.StreamsMesh", spec := "streamsMesh", unfollowed := true, recurses := true, named := ["gouache/layouts.sets", "gouache/tiles.edges"], apart := false, laid := [("gouache/layouts.sets", laid_gouache_layouts_sets), ("gouache/tiles.edges", laid_gouache_tiles_edges)], narrowed := true }
def StreamsMeshUptoSaid : Prop := streamsMeshUptoRow.holds Tryz.pinned (OpenSpec.upto streamsMeshSpec)

end Rows
end Go.Proofs.YtjdaglmkljbfkaaGreatDoor

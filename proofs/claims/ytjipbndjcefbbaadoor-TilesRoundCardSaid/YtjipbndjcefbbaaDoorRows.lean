/-
  NARROWER THAN 'FOR EVERY INPUT', by the rows' own cells (each row's printed sentence says how): TilesOf: laid · TilesEdges: laid · TilesJoin: laid · TilesUntold: laid · TilesRound: laid.
  DERIVED. THE GIVEN ROWS OF THIS SEAT. 5 by the template 'for every input the law returns true; each argument reads behind the call as it read before'; 0 by the template 'total and deterministic' (their statements: YtjipbndjcefbbaaDoorTotals.lean).
  GIVEN WITH THE SEED: the statements are not yours to turn. If you find one false, say at which input.
  Laid BY PROGRAM, IN A SANDBOX (cutbox-rows.mjs): the forced cells as the released guide's own fill.sh prints them over the translation f5e966ab5a0187e9… (all of the seat's roots in one cut). By AI agents, Wed Nov 11 2026. No macro, syntax, notation, axiom, sorry.
-/
import Derived.Test.YtjipbndjcefbbaaDoorChecked
import GoSem.Claim
import GoSem.ClaimJoined
import GoSem.ClaimMapViews
import Derived.JoinedTies
import Derived.KernelRfl
namespace Go.Proofs.YtjipbndjcefbbaaDoor
/- THE CELL 'sum', in the pinned program and in every row, IS THE sha256 OF THE DUMP (.gsa) THAT YtjipbndjcefbbaaDoorProg.lean LOADS. Nothing in Lean hashes anything: it is a label: what it is worth is what the hold of that sum in a sandbox is worth. -/
noncomputable def Tryd.pinned : Pinned := { name := "ytjipbndjcefbbaadoor", sum := "f5e966ab5a0187e9495a82804d445e810ed72f4c7aae0e2752b9dfc939bedd6f", checked := Tryd.checked }
namespace Rows
def none {H : Type} : Left H := { results := [], args := [] }

/- WHAT THE LISTED PACKAGE-LEVEL VARIABLES READ AS WHEN THE CALL BEGINS. Each datum BY PROGRAM (the guide's laid-datum.mjs) off the statement by which the dump's own 'gosem.cut.vars' lays the variable. In a bare row this is a premise. The card (YtjipbndjcefbbaaDoorCards.lean) ties it to the program's text. -/
def laid_gouache_layouts_sets {H : Type} : DataW H := .agg [.lit (.int .u64 4311814422), .lit (.int .u64 69910), .lit (.int .u64 276)]
def laid_gouache_tiles_edges {H : Type} : DataW H := .agg [.agg [.agg [.agg [.lit (.int .i64 0), .lit (.int .i64 0), .lit (.int .i64 0), .lit (.int .i64 0)]], .agg [.lit (.int .i64 0), .lit (.int .i64 0)]], .agg [.agg [.agg [.lit (.int .i64 3), .lit (.int .i64 4), .lit (.int .i64 5), .lit (.int .i64 6)]], .agg [.lit (.int .i64 1), .lit (.int .i64 2)]], .agg [.agg [.agg [.lit (.int .i64 6), .lit (.int .i64 7), .lit (.int .i64 8), .lit (.int .i64 9)]], .agg [.lit (.int .i64 2), .lit (.int .i64 3)]], .agg [.agg [.agg [.lit (.int .i64 9), .lit (.int .i64 10), .lit (.int .i64 11), .lit (.int .i64 0)]], .agg [.lit (.int .i64 3), .lit (.int .i64 0)]]]

/-- 'gouachelaw12.TilesOf': WHATEVER THE INPUT: true; the input reads as it did. -/
def tilesOfSpec : ChangeSpec := { name := "tilesOf", fn := fun _ => fun
  | [d1, d2] => { results := [.lit (.bool true)], args := [d1, d2] }
  | _ => none }
def tilesOfRow : OpenClaim := { program := "ytjipbndjcefbbaadoor", sum := "f5e966ab5a0187e9495a82804d445e810ed72f4c7aae0e2752b9dfc939bedd6f", func := "gouache/gouachelaw12.TilesOf", spec := "tilesOf", unfollowed := true, recurses := true, named := ["gouache/layouts.sets", "gouache/tiles.edges"], apart := false, laid := [("gouache/layouts.sets", laid_gouache_layouts_sets), ("gouache/tiles.edges", laid_gouache_tiles_edges)] }
def TilesOfSaid : Prop := tilesOfRow.holds Tryd.pinned (OpenSpec.ofChange tilesOfSpec)

/-- ITS FALSE NEIGHBOUR: 'it returns false'. Refute it at one input. -/
def tilesOfWrong : ChangeSpec := { name := "tilesOf", fn := fun _ => fun
  | [d1, d2] => { results := [.lit (.bool false)], args := [d1, d2] }
  | _ => none }
def TilesOfWrongFalsely : Prop := tilesOfRow.holds Tryd.pinned (OpenSpec.ofChange tilesOfWrong)

/-- 'gouachelaw12.TilesEdges': WHATEVER THE INPUT: true; the input reads as it did. -/
def tilesEdgesSpec : ChangeSpec := { name := "tilesEdges", fn := fun _ => fun
  | [d1, d2] => { results := [.lit (.bool true)], args := [d1, d2] }
  | _ => none }
def tilesEdgesRow : OpenClaim := { program := "ytjipbndjcefbbaadoor", sum := "f5e966ab5a0187e9495a82804d445e810ed72f4c7aae0e2752b9dfc939bedd6f", func := "gouache/gouachelaw12.TilesEdges", spec := "tilesEdges", unfollowed := true, recurses := true, named := ["gouache/layouts.sets", "gouache/tiles.edges"], apart := false, laid := [("gouache/layouts.sets", laid_gouache_layouts_sets), ("gouache/tiles.edges", laid_gouache_tiles_edges)] }
def TilesEdgesSaid : Prop := tilesEdgesRow.holds Tryd.pinned (OpenSpec.ofChange tilesEdgesSpec)

/-- ITS FALSE NEIGHBOUR: 'it returns false'. Refute it at one input. -/
def tilesEdgesWrong : ChangeSpec := { name := "tilesEdges", fn := fun _ => fun
  | [d1, d2] => { results := [.lit (.bool false)], args := [d1, d2] }
  | _ => none }
def TilesEdgesWrongFalsely : Prop := tilesEdgesRow.holds Tryd.pinned (OpenSpec.ofChange tilesEdgesWrong)

/-- 'gouachelaw12.TilesJoin': WHATEVER THE INPUT: true; the input reads as it did. -/
def tilesJoinSpec : ChangeSpec := { name := "tilesJoin", fn := fun _ => fun
  | [d1, d2, d3] => { results := [.lit (.bool true)], args := [d1, d2, d3] }
  | _ => none }
def tilesJoinRow : OpenClaim := { program := "ytjipbndjcefbbaadoor", sum := "f5e966ab5a0187e9495a82804d445e810ed72f4c7aae0e2752b9dfc939bedd6f", func := "gouache/gouachelaw12.TilesJoin", spec := "tilesJoin", unfollowed := true, recurses := true, named := ["gouache/layouts.sets", "gouache/tiles.edges"], apart := false, laid := [("gouache/layouts.sets", laid_gouache_layouts_sets), ("gouache/tiles.edges", laid_gouache_tiles_edges)] }
def TilesJoinSaid : Prop := tilesJoinRow.holds Tryd.pinned (OpenSpec.ofChange tilesJoinSpec)

/-- ITS FALSE NEIGHBOUR: 'it returns false'. Refute it at one input. -/
def tilesJoinWrong : ChangeSpec := { name := "tilesJoin", fn := fun _ => fun
  | [d1, d2, d3] => { results := [.lit (.bool false)], args := [d1, d2, d3] }
  | _ => none }
def TilesJoinWrongFalsely : Prop := tilesJoinRow.holds Tryd.pinned (OpenSpec.ofChange tilesJoinWrong)

/-- 'gouachelaw12.TilesUntold': WHATEVER THE INPUT: true; the input reads as it did. -/
def tilesUntoldSpec : ChangeSpec := { name := "tilesUntold", fn := fun _ => fun
  | [d1, d2, d3] => { results := [.lit (.bool true)], args := [d1, d2, d3] }
  | _ => none }
def tilesUntoldRow : OpenClaim := { program := "ytjipbndjcefbbaadoor", sum := "f5e966ab5a0187e9495a82804d445e810ed72f4c7aae0e2752b9dfc939bedd6f", func := "gouache/gouachelaw12.TilesUntold", spec := "tilesUntold", unfollowed := true, recurses := true, named := ["gouache/layouts.sets", "gouache/tiles.edges"], apart := false, laid := [("gouache/layouts.sets", laid_gouache_layouts_sets), ("gouache/tiles.edges", laid_gouache_tiles_edges)] }
def TilesUntoldSaid : Prop := tilesUntoldRow.holds Tryd.pinned (OpenSpec.ofChange tilesUntoldSpec)

/-- ITS FALSE NEIGHBOUR: 'it returns false'. Refute it at one input. -/
def tilesUntoldWrong : ChangeSpec := { name := "tilesUntold", fn := fun _ => fun
  | [d1, d2, d3] => { results := [.lit (.bool false)], args := [d1, d2, d3] }
  | _ => none }
def TilesUntoldWrongFalsely : Prop := tilesUntoldRow.holds Tryd.pinned (OpenSpec.ofChange tilesUntoldWrong)

/-- 'gouachelaw12.TilesRound': WHATEVER THE INPUT: true; the input reads as it did. -/
def tilesRoundSpec : ChangeSpec := { name := "tilesRound", fn := fun _ => fun
  | [d1, d2] => { results := [.lit (.bool true)], args := [d1, d2] }
  | _ => none }
def tilesRoundRow : OpenClaim := { program := "ytjipbndjcefbbaadoor", sum := "f5e966ab5a0187e9495a82804d445e810ed72f4c7aae0e2752b9dfc939bedd6f", func := "gouache/gouachelaw12.TilesRound", spec := "tilesRound", unfollowed := true, recurses := true, named := ["gouache/layouts.sets", "gouache/tiles.edges"], apart := false, laid := [("gouache/layouts.sets", laid_gouache_layouts_sets), ("gouache/tiles.edges", laid_gouache_tiles_edges)] }
def TilesRoundSaid : Prop := tilesRoundRow.holds Tryd.pinned (OpenSpec.ofChange tilesRoundSpec)

/-- ITS FALSE NEIGHBOUR: 'it returns false'. Refute it at one input. -/
def tilesRoundWrong : ChangeSpec := { name := "tilesRound", fn := fun _ => fun
  | [d1, d2] => { results := [.lit (.bool false)], args := [d1, d2] }
  | _ => none }
def TilesRoundWrongFalsely : Prop := tilesRoundRow.holds Tryd.pinned (OpenSpec.ofChange tilesRoundWrong)

/- THE SECOND FORM. 'bulk': how many values and letters a reading holds, each counted each time it is reached (what is shared counts as often as it is met; a slice's spare places count too). A statement '..UptoSaid' is the law's where the arguments, and the package variables that the reading takes, are together of bulk at most 1048576: NARROWER than '..Said'. Prove '..Said' where nothing that the law and all that it calls make is longer than what came in: it says more and counts as full. Else prove '..UptoSaid'. A law counts once. -/
mutual
def uptoBulk {H : Type} : DataW H → Nat
  | .lit (.string bytes) => bytes.length + 1
  | .lit _ => 1
  | .nil => 1
  | .ptr d => uptoBulk d + 1
  | .slice elems spare => uptoBulkAll elems + uptoBulkAll spare + 1
  | .agg parts => uptoBulkAll parts + 1
  | .iface _ d => uptoBulk d + 1
  | .map entries => uptoBulkEntries entries + 1
  | .held _ => 1
def uptoBulkAll {H : Type} : List (DataW H) → Nat
  | [] => 0
  | d :: r => uptoBulk d + uptoBulkAll r
def uptoBulkEntries {H : Type} : List (Lit × DataW H) → Nat
  | [] => 0
  | x :: r => uptoBulkEntry x + uptoBulkEntries r
def uptoBulkEntry {H : Type} : Lit × DataW H → Nat
  | (.string bytes, d) => bytes.length + uptoBulk d + 1
  | (_, d) => uptoBulk d + 1
 end
def uptoSmall : (H : Type) → List (DataW H) → Bool := fun _ ds => decide (uptoBulkAll ds ≤ 1048576)
def OpenSpec.upto (s : _root_.Go.ChangeSpec) : _root_.Go.OpenSpec := { _root_.Go.OpenSpec.ofChange s with cond := some uptoSmall }

/-- 'gouachelaw12.TilesOf', WHERE WHAT IT READS IS OF BULK AT MOST 1048576: true; the input reads as it did. -/
def tilesOfUptoRow : OpenClaim := { program := "ytjipbndjcefbbaadoor", sum := "f5e966ab5a0187e9495a82804d445e810ed72f4c7aae0e2752b9dfc939bedd6f", func := "gouache/gouachelaw12.TilesOf", spec := "tilesOf", unfollowed := true, recurses := true, named := ["gouache/layouts.sets", "gouache/tiles.edges"], apart := false, laid := [("gouache/layouts.sets", laid_gouache_layouts_sets), ("gouache/tiles.edges", laid_gouache_tiles_edges)], narrowed := true }
def TilesOfUptoSaid : Prop := tilesOfUptoRow.holds Tryd.pinned (OpenSpec.upto tilesOfSpec)

/-- 'gouachelaw12.TilesEdges', WHERE WHAT IT READS IS OF BULK AT MOST 1048576: true; the input reads as it did. -/
def tilesEdgesUptoRow : OpenClaim := { program := "ytjipbndjcefbbaadoor", sum := "f5e966ab5a0187e9495a82804d445e810ed72f4c7aae0e2752b9dfc939bedd6f", func := "gouache/gouachelaw12.TilesEdges", spec := "tilesEdges", unfollowed := true, recurses := true, named := ["gouache/layouts.sets", "gouache/tiles.edges"], apart := false, laid := [("gouache/layouts.sets", laid_gouache_layouts_sets), ("gouache/tiles.edges", laid_gouache_tiles_edges)], narrowed := true }
def TilesEdgesUptoSaid : Prop := tilesEdgesUptoRow.holds Tryd.pinned (OpenSpec.upto tilesEdgesSpec)

/-- 'gouachelaw12.TilesJoin', WHERE WHAT IT READS IS OF BULK AT MOST 1048576: true; the input reads as it did. -/
def tilesJoinUptoRow : OpenClaim := { program := "ytjipbndjcefbbaadoor", sum := "f5e966ab5a0187e9495a82804d445e810ed72f4c7aae0e2752b9dfc939bedd6f", func := "gouache/gouachelaw12.TilesJoin", spec := "tilesJoin", unfollowed := true, recurses := true, named := ["gouache/layouts.sets", "gouache/tiles.edges"], apart := false, laid := [("gouache/layouts.sets", laid_gouache_layouts_sets), ("gouache/tiles.edges", laid_gouache_tiles_edges)], narrowed := true }
def TilesJoinUptoSaid : Prop := tilesJoinUptoRow.holds Tryd.pinned (OpenSpec.upto tilesJoinSpec)

/-- 'gouachelaw12.TilesUntold', WHERE WHAT IT READS IS OF BULK AT MOST 1048576: true; the input reads as it did. -/
def tilesUntoldUptoRow : OpenClaim := { program := "ytjipbndjcefbbaadoor", sum := "f5e966ab5a0187e9495a82804d445e810ed72f4c7aae0e2752b9dfc939bedd6f", func := "gouache/gouachelaw12.TilesUntold", spec := "tilesUntold", unfollowed := true, recurses := true, named := ["gouache/layouts.sets", "gouache/tiles.edges"], apart := false, laid := [("gouache/layouts.sets", laid_gouache_layouts_sets), ("gouache/tiles.edges", laid_gouache_tiles_edges)], narrowed := true }
def TilesUntoldUptoSaid : Prop := tilesUntoldUptoRow.holds Tryd.pinned (OpenSpec.upto tilesUntoldSpec)

/-- 'gouachelaw12.TilesRound', WHERE WHAT IT READS IS OF BULK AT MOST 1048576: true; the input reads as it did. -/
def tilesRoundUptoRow : OpenClaim := { program := "ytjipbndjcefbbaadoor", sum := "f5e966ab5a0187e9495a82804d445e810ed72f4c7aae0e2752b9dfc939bedd6f", func := "gouache/gouachelaw12.TilesRound", spec := "tilesRound", unfollowed := true, recurses := true, named := ["gouache/layouts.sets", "gouache/tiles.edges"], apart := false, laid := [("gouache/layouts.sets", laid_gouache_layouts_sets), ("gouache/tiles.edges", laid_gouache_tiles_edges)], narrowed := true }
def TilesRoundUptoSaid : Prop := tilesRoundUptoRow.holds Tryd.pinned (OpenSpec.upto tilesRoundSpec)

end Rows
end Go.Proofs.YtjipbndjcefbbaaDoor

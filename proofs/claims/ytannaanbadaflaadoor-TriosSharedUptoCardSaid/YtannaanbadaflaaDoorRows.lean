/-
  NARROWER THAN 'FOR EVERY INPUT', by the rows' own cells (each row's printed sentence says how): TriosOf: laid · TriosJoin: laid · TriosShared: laid · TriosRows: laid · TriosRefused: laid.
  DERIVED. THE GIVEN ROWS OF THIS SEAT. 5 by the template 'for every input the law returns true; each argument reads behind the call as it read before'; 0 by the template 'total and deterministic' (their statements: YtannaanbadaflaaDoorTotals.lean).
  GIVEN WITH THE SEED: the statements are not yours to turn. If you find one false, say at which input.
  Laid BY PROGRAM, IN A SANDBOX (cutbox-rows.mjs): the forced cells as the released guide's own fill.sh prints them over the translation c58d954bfdd371cd… (all of the seat's roots in one cut). By AI agents, Wed Nov 11 2026. No macro, syntax, notation, axiom, sorry.
-/
import Derived.Test.YtannaanbadaflaaDoorChecked
import GoSem.Claim
import GoSem.ClaimJoined
import GoSem.ClaimMapViews
import Derived.JoinedTies
import Derived.KernelRfl
namespace Go.Proofs.YtannaanbadaflaaDoor
/- THE CELL 'sum', in the pinned program and in every row, IS THE sha256 OF THE DUMP (.gsa) THAT YtannaanbadaflaaDoorProg.lean LOADS. Nothing in Lean hashes anything: it is a label: what it is worth is what the hold of that sum in a sandbox is worth. -/
noncomputable def Tryd.pinned : Pinned := { name := "ytannaanbadaflaadoor", sum := "c58d954bfdd371cdd1acdde0d008b31e09a74a6e98f8b86f03c3fbd9d88cb543", checked := Tryd.checked }
namespace Rows
def none {H : Type} : Left H := { results := [], args := [] }

/- WHAT THE LISTED PACKAGE-LEVEL VARIABLES READ AS WHEN THE CALL BEGINS. Each datum BY PROGRAM (the guide's laid-datum.mjs) off the statement by which the dump's own 'gosem.cut.vars' lays the variable. In a bare row this is a premise. The card (YtannaanbadaflaaDoorCards.lean) ties it to the program's text. -/
def laid_gouache_layouts_sets {H : Type} : DataW H := .agg [.lit (.int .u64 4311814422), .lit (.int .u64 69910), .lit (.int .u64 276)]

/-- 'gouachelaw10.TriosOf': WHATEVER THE INPUT: true; the input reads as it did. -/
def triosOfSpec : ChangeSpec := { name := "triosOf", fn := fun _ => fun
  | [d1, d2] => { results := [.lit (.bool true)], args := [d1, d2] }
  | _ => none }
def triosOfRow : OpenClaim := { program := "ytannaanbadaflaadoor", sum := "c58d954bfdd371cdd1acdde0d008b31e09a74a6e98f8b86f03c3fbd9d88cb543", func := "gouache/gouachelaw10.TriosOf", spec := "triosOf", named := ["gouache/layouts.sets"], apart := false, laid := [("gouache/layouts.sets", laid_gouache_layouts_sets)] }
def TriosOfSaid : Prop := triosOfRow.holds Tryd.pinned (OpenSpec.ofChange triosOfSpec)

/-- ITS FALSE NEIGHBOUR: 'it returns false'. Refute it at one input. -/
def triosOfWrong : ChangeSpec := { name := "triosOf", fn := fun _ => fun
  | [d1, d2] => { results := [.lit (.bool false)], args := [d1, d2] }
  | _ => none }
def TriosOfWrongFalsely : Prop := triosOfRow.holds Tryd.pinned (OpenSpec.ofChange triosOfWrong)

/-- 'gouachelaw10.TriosJoin': WHATEVER THE INPUT: true; the input reads as it did. -/
def triosJoinSpec : ChangeSpec := { name := "triosJoin", fn := fun _ => fun
  | [d1, d2, d3] => { results := [.lit (.bool true)], args := [d1, d2, d3] }
  | _ => none }
def triosJoinRow : OpenClaim := { program := "ytannaanbadaflaadoor", sum := "c58d954bfdd371cdd1acdde0d008b31e09a74a6e98f8b86f03c3fbd9d88cb543", func := "gouache/gouachelaw10.TriosJoin", spec := "triosJoin", named := ["gouache/layouts.sets"], apart := false, laid := [("gouache/layouts.sets", laid_gouache_layouts_sets)] }
def TriosJoinSaid : Prop := triosJoinRow.holds Tryd.pinned (OpenSpec.ofChange triosJoinSpec)

/-- ITS FALSE NEIGHBOUR: 'it returns false'. Refute it at one input. -/
def triosJoinWrong : ChangeSpec := { name := "triosJoin", fn := fun _ => fun
  | [d1, d2, d3] => { results := [.lit (.bool false)], args := [d1, d2, d3] }
  | _ => none }
def TriosJoinWrongFalsely : Prop := triosJoinRow.holds Tryd.pinned (OpenSpec.ofChange triosJoinWrong)

/-- 'gouachelaw10.TriosShared': WHATEVER THE INPUT: true; the input reads as it did. -/
def triosSharedSpec : ChangeSpec := { name := "triosShared", fn := fun _ => fun
  | [d1, d2] => { results := [.lit (.bool true)], args := [d1, d2] }
  | _ => none }
def triosSharedRow : OpenClaim := { program := "ytannaanbadaflaadoor", sum := "c58d954bfdd371cdd1acdde0d008b31e09a74a6e98f8b86f03c3fbd9d88cb543", func := "gouache/gouachelaw10.TriosShared", spec := "triosShared", named := ["gouache/layouts.sets"], apart := false, laid := [("gouache/layouts.sets", laid_gouache_layouts_sets)] }
def TriosSharedSaid : Prop := triosSharedRow.holds Tryd.pinned (OpenSpec.ofChange triosSharedSpec)

/-- ITS FALSE NEIGHBOUR: 'it returns false'. Refute it at one input. -/
def triosSharedWrong : ChangeSpec := { name := "triosShared", fn := fun _ => fun
  | [d1, d2] => { results := [.lit (.bool false)], args := [d1, d2] }
  | _ => none }
def TriosSharedWrongFalsely : Prop := triosSharedRow.holds Tryd.pinned (OpenSpec.ofChange triosSharedWrong)

/-- 'gouachelaw10.TriosRows': WHATEVER THE INPUT: true; the input reads as it did. -/
def triosRowsSpec : ChangeSpec := { name := "triosRows", fn := fun _ => fun
  | [d1, d2] => { results := [.lit (.bool true)], args := [d1, d2] }
  | _ => none }
def triosRowsRow : OpenClaim := { program := "ytannaanbadaflaadoor", sum := "c58d954bfdd371cdd1acdde0d008b31e09a74a6e98f8b86f03c3fbd9d88cb543", func := "gouache/gouachelaw10.TriosRows", spec := "triosRows", named := ["gouache/layouts.sets"], apart := false, laid := [("gouache/layouts.sets", laid_gouache_layouts_sets)] }
def TriosRowsSaid : Prop := triosRowsRow.holds Tryd.pinned (OpenSpec.ofChange triosRowsSpec)

/-- ITS FALSE NEIGHBOUR: 'it returns false'. Refute it at one input. -/
def triosRowsWrong : ChangeSpec := { name := "triosRows", fn := fun _ => fun
  | [d1, d2] => { results := [.lit (.bool false)], args := [d1, d2] }
  | _ => none }
def TriosRowsWrongFalsely : Prop := triosRowsRow.holds Tryd.pinned (OpenSpec.ofChange triosRowsWrong)

/-- 'gouachelaw10.TriosRefused': WHATEVER THE INPUT: true; the input reads as it did. -/
def triosRefusedSpec : ChangeSpec := { name := "triosRefused", fn := fun _ => fun
  | [d1, d2] => { results := [.lit (.bool true)], args := [d1, d2] }
  | _ => none }
def triosRefusedRow : OpenClaim := { program := "ytannaanbadaflaadoor", sum := "c58d954bfdd371cdd1acdde0d008b31e09a74a6e98f8b86f03c3fbd9d88cb543", func := "gouache/gouachelaw10.TriosRefused", spec := "triosRefused", named := ["gouache/layouts.sets"], apart := false, laid := [("gouache/layouts.sets", laid_gouache_layouts_sets)] }
def TriosRefusedSaid : Prop := triosRefusedRow.holds Tryd.pinned (OpenSpec.ofChange triosRefusedSpec)

/-- ITS FALSE NEIGHBOUR: 'it returns false'. Refute it at one input. -/
def triosRefusedWrong : ChangeSpec := { name := "triosRefused", fn := fun _ => fun
  | [d1, d2] => { results := [.lit (.bool false)], args := [d1, d2] }
  | _ => none }
def TriosRefusedWrongFalsely : Prop := triosRefusedRow.holds Tryd.pinned (OpenSpec.ofChange triosRefusedWrong)

/- THE SECOND FORM. 'bulk': how many values and letters a reading holds, each counted each time it is reached (what is shared counts as often as it is met; a slice's spare places count too). A statement '..UptoSaid' is the law's where the arguments, and the package variables that the reading takes, are together of bulk at most 1048576: NARROWER than '..Said'. Prove '..Said' where nothing that the law and all that it calls make is longer than what came in: it says more and counts as full. Else prove '..UptoSaid'. A law counts once. -/
mutual
def uptoBulk {H : Type} : DataW H → Nat
  | .lit (.string bytes) => bytes.length + 1
  | .lit _ => 1
  | .nil => 1
  | .ptr d => uptoBulk d + 1
  | .slice elems spare => uptoBulkAll elems + uptoBulkAll spare + 1
  | .agg parts => uptoBulkAll parts + 1
  | .iface _ d => uptoBulk d + 1
  | .map entries => uptoBulkEntries entries + 1
  | .held _ => 1
def uptoBulkAll {H : Type} : List (DataW H) → Nat
  | [] => 0
  | d :: r => uptoBulk d + uptoBulkAll r
def uptoBulkEntries {H : Type} : List (Lit × DataW H) → Nat
  | [] => 0
  | x :: r => uptoBulkEntry x + uptoBulkEntries r
def uptoBulkEntry {H : Type} : Lit × DataW H → Nat
  | (.string bytes, d) => bytes.length + uptoBulk d + 1
  | (_, d) => uptoBulk d + 1
 end
def uptoSmall : (H : Type) → List (DataW H) → Bool := fun _ ds => decide (uptoBulkAll ds ≤ 1048576)
def OpenSpec.upto (s : _root_.Go.ChangeSpec) : _root_.Go.OpenSpec := { _root_.Go.OpenSpec.ofChange s with cond := some uptoSmall }

/-- 'gouachelaw10.TriosOf', WHERE WHAT IT READS IS OF BULK AT MOST 1048576: true; the input reads as it did. -/
def triosOfUptoRow : OpenClaim := { program := "ytannaanbadaflaadoor", sum := "c58d954bfdd371cdd1acdde0d008b31e09a74a6e98f8b86f03c3fbd9d88cb543", func := "gouache/gouachelaw10.TriosOf", spec := "triosOf", named := ["gouache/layouts.sets"], apart := false, laid := [("gouache/layouts.sets", laid_gouache_layouts_sets)], narrowed := true }
def TriosOfUptoSaid : Prop := triosOfUptoRow.holds Tryd.pinned (OpenSpec.upto triosOfSpec)

/-- 'gouachelaw10.TriosJoin', WHERE WHAT IT READS IS OF BULK AT MOST 1048576: true; the input reads as it did. -/
def triosJoinUptoRow : OpenClaim := { program := "ytannaanbadaflaadoor", sum := "c58d954bfdd371cdd1acdde0d008b31e09a74a6e98f8b86f03c3fbd9d88cb543", func := "gouache/gouachelaw10.TriosJoin", spec := "triosJoin", named := ["gouache/layouts.sets"], apart := false, laid := [("gouache/layouts.sets", laid_gouache_layouts_sets)], narrowed := true }
def TriosJoinUptoSaid : Prop := triosJoinUptoRow.holds Tryd.pinned (OpenSpec.upto triosJoinSpec)

/-- 'gouachelaw10.TriosShared', WHERE WHAT IT READS IS OF BULK AT MOST 1048576: true; the input reads as it did. -/
def triosSharedUptoRow : OpenClaim := { program := "ytannaanbadaflaadoor", sum := "c58d954bfdd371cdd1acdde0d008b31e09a74a6e98f8b86f03c3fbd9d88cb543", func := "gouache/gouachelaw10.TriosShared", spec := "triosShared", named := ["gouache/layouts.sets"], apart := false, laid := [("gouache/layouts.sets", laid_gouache_layouts_sets)], narrowed := true }
def TriosSharedUptoSaid : Prop := triosSharedUptoRow.holds Tryd.pinned (OpenSpec.upto triosSharedSpec)

/-- 'gouachelaw10.TriosRows', WHERE WHAT IT READS IS OF BULK AT MOST 1048576: true; the input reads as it did. -/
def triosRowsUptoRow : OpenClaim := { program := "ytannaanbadaflaadoor", sum := "c58d954bfdd371cdd1acdde0d008b31e09a74a6e98f8b86f03c3fbd9d88cb543", func := "gouache/gouachelaw10.TriosRows", spec := "triosRows", named := ["gouache/layouts.sets"], apart := false, laid := [("gouache/layouts.sets", laid_gouache_layouts_sets)], narrowed := true }
def TriosRowsUptoSaid : Prop := triosRowsUptoRow.holds Tryd.pinned (OpenSpec.upto triosRowsSpec)

/-- 'gouachelaw10.TriosRefused', WHERE WHAT IT READS IS OF BULK AT MOST 1048576: true; the input reads as it did. -/
def triosRefusedUptoRow : OpenClaim := { program := "ytannaanbadaflaadoor", sum := "c58d954bfdd371cdd1acdde0d008b31e09a74a6e98f8b86f03c3fbd9d88cb543", func := "gouache/gouachelaw10.TriosRefused", spec := "triosRefused", named := ["gouache/layouts.sets"], apart := false, laid := [("gouache/layouts.sets", laid_gouache_layouts_sets)], narrowed := true }
def TriosRefusedUptoSaid : Prop := triosRefusedUptoRow.holds Tryd.pinned (OpenSpec.upto triosRefusedSpec)

end Rows
end Go.Proofs.YtannaanbadaflaaDoor

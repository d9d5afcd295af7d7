/-
  No cell of these rows narrows 'for every input' (looked for: loops, veiled, ifaces, maps, wideKeys, modest, calm, conditions, laid).
  DERIVED. THE GIVEN ROWS OF THIS SEAT. 7 by the template 'for every input the law returns true; each argument reads behind the call as it read before'; 0 by the template 'total and deterministic' (their statements: YtkkdpbjfkncpbaaTotals.lean).
  GIVEN WITH THE SEED: the statements are not yours to turn. If you find one false, say at which input.
  Laid BY PROGRAM, IN A SANDBOX (cutbox-rows.mjs): the forced cells as the released guide's own fill.sh prints them over the translation 324be272c2745acd… (all of the seat's roots in one cut). By AI agents, Wed Nov 11 2026. No macro, syntax, notation, axiom, sorry.
-/
import Derived.Test.YtkkdpbjfkncpbaaChecked
import GoSem.Claim
import GoSem.ClaimJoined
import GoSem.ClaimMapViews
import Derived.JoinedTies
import Derived.KernelRfl
namespace Go.Proofs.Ytkkdpbjfkncpbaa
/- THE CELL 'sum', in the pinned program and in every row, IS THE sha256 OF THE DUMP (.gsa) THAT YtkkdpbjfkncpbaaProg.lean LOADS. Nothing in Lean hashes anything: it is a label: what it is worth is what the hold of that sum in a sandbox is worth. -/
noncomputable def Try.pinned : Pinned := { name := "ytkkdpbjfkncpbaa", sum := "324be272c2745acd5bb4ce35abd253cbdfa52e801051a121c97dbe16eacc2e40", checked := Try.checked }
namespace Rows
def none {H : Type} : Left H := { results := [], args := [] }

/-- 'gouachelaw06.BitsGet': WHATEVER THE INPUT: true; the input reads as it did. -/
def bitsGetSpec : ChangeSpec := { name := "bitsGet", fn := fun _ => fun
  | [d1, d2, d3] => { results := [.lit (.bool true)], args := [d1, d2, d3] }
  | _ => none }
def bitsGetRow : OpenClaim := { program := "ytkkdpbjfkncpbaa", sum := "324be272c2745acd5bb4ce35abd253cbdfa52e801051a121c97dbe16eacc2e40", func := "gouache/gouachelaw06.BitsGet", spec := "bitsGet", apart := false }
def BitsGetSaid : Prop := bitsGetRow.holds Try.pinned (OpenSpec.ofChange bitsGetSpec)

/-- ITS FALSE NEIGHBOUR: 'it returns false'. Refute it at one input. -/
def bitsGetWrong : ChangeSpec := { name := "bitsGet", fn := fun _ => fun
  | [d1, d2, d3] => { results := [.lit (.bool false)], args := [d1, d2, d3] }
  | _ => none }
def BitsGetWrongFalsely : Prop := bitsGetRow.holds Try.pinned (OpenSpec.ofChange bitsGetWrong)

/-- 'gouachelaw06.BitsRow': WHATEVER THE INPUT: true; the input reads as it did. -/
def bitsRowSpec : ChangeSpec := { name := "bitsRow", fn := fun _ => fun
  | [d] => { results := [.lit (.bool true)], args := [d] }
  | _ => none }
def bitsRowRow : OpenClaim := { program := "ytkkdpbjfkncpbaa", sum := "324be272c2745acd5bb4ce35abd253cbdfa52e801051a121c97dbe16eacc2e40", func := "gouache/gouachelaw06.BitsRow", spec := "bitsRow", apart := false }
def BitsRowSaid : Prop := bitsRowRow.holds Try.pinned (OpenSpec.ofChange bitsRowSpec)

/-- ITS FALSE NEIGHBOUR: 'it returns false'. Refute it at one input. -/
def bitsRowWrong : ChangeSpec := { name := "bitsRow", fn := fun _ => fun
  | [d] => { results := [.lit (.bool false)], args := [d] }
  | _ => none }
def BitsRowWrongFalsely : Prop := bitsRowRow.holds Try.pinned (OpenSpec.ofChange bitsRowWrong)

/-- 'gouachelaw06.BitsVoid': WHATEVER THE INPUT: true; the input reads as it did. -/
def bitsVoidSpec : ChangeSpec := { name := "bitsVoid", fn := fun _ => fun
  | [d1, d2] => { results := [.lit (.bool true)], args := [d1, d2] }
  | _ => none }
def bitsVoidRow : OpenClaim := { program := "ytkkdpbjfkncpbaa", sum := "324be272c2745acd5bb4ce35abd253cbdfa52e801051a121c97dbe16eacc2e40", func := "gouache/gouachelaw06.BitsVoid", spec := "bitsVoid", apart := false }
def BitsVoidSaid : Prop := bitsVoidRow.holds Try.pinned (OpenSpec.ofChange bitsVoidSpec)

/-- ITS FALSE NEIGHBOUR: 'it returns false'. Refute it at one input. -/
def bitsVoidWrong : ChangeSpec := { name := "bitsVoid", fn := fun _ => fun
  | [d1, d2] => { results := [.lit (.bool false)], args := [d1, d2] }
  | _ => none }
def BitsVoidWrongFalsely : Prop := bitsVoidRow.holds Try.pinned (OpenSpec.ofChange bitsVoidWrong)

/-- 'gouachelaw06.BitsBack': WHATEVER THE INPUT: true; the input reads as it did. -/
def bitsBackSpec : ChangeSpec := { name := "bitsBack", fn := fun _ => fun
  | [d] => { results := [.lit (.bool true)], args := [d] }
  | _ => none }
def bitsBackRow : OpenClaim := { program := "ytkkdpbjfkncpbaa", sum := "324be272c2745acd5bb4ce35abd253cbdfa52e801051a121c97dbe16eacc2e40", func := "gouache/gouachelaw06.BitsBack", spec := "bitsBack", apart := false }
def BitsBackSaid : Prop := bitsBackRow.holds Try.pinned (OpenSpec.ofChange bitsBackSpec)

/-- ITS FALSE NEIGHBOUR: 'it returns false'. Refute it at one input. -/
def bitsBackWrong : ChangeSpec := { name := "bitsBack", fn := fun _ => fun
  | [d] => { results := [.lit (.bool false)], args := [d] }
  | _ => none }
def BitsBackWrongFalsely : Prop := bitsBackRow.holds Try.pinned (OpenSpec.ofChange bitsBackWrong)

/-- 'gouachelaw06.BitsParts': WHATEVER THE INPUT: true; the input reads as it did. -/
def bitsPartsSpec : ChangeSpec := { name := "bitsParts", fn := fun _ => fun
  | [d1, d2, d3] => { results := [.lit (.bool true)], args := [d1, d2, d3] }
  | _ => none }
def bitsPartsRow : OpenClaim := { program := "ytkkdpbjfkncpbaa", sum := "324be272c2745acd5bb4ce35abd253cbdfa52e801051a121c97dbe16eacc2e40", func := "gouache/gouachelaw06.BitsParts", spec := "bitsParts", apart := false }
def BitsPartsSaid : Prop := bitsPartsRow.holds Try.pinned (OpenSpec.ofChange bitsPartsSpec)

/-- ITS FALSE NEIGHBOUR: 'it returns false'. Refute it at one input. -/
def bitsPartsWrong : ChangeSpec := { name := "bitsParts", fn := fun _ => fun
  | [d1, d2, d3] => { results := [.lit (.bool false)], args := [d1, d2, d3] }
  | _ => none }
def BitsPartsWrongFalsely : Prop := bitsPartsRow.holds Try.pinned (OpenSpec.ofChange bitsPartsWrong)

/-- 'gouachelaw06.BitsBytes': WHATEVER THE INPUT: true; the input reads as it did. -/
def bitsBytesSpec : ChangeSpec := { name := "bitsBytes", fn := fun _ => fun
  | [d1, d2] => { results := [.lit (.bool true)], args := [d1, d2] }
  | _ => none }
def bitsBytesRow : OpenClaim := { program := "ytkkdpbjfkncpbaa", sum := "324be272c2745acd5bb4ce35abd253cbdfa52e801051a121c97dbe16eacc2e40", func := "gouache/gouachelaw06.BitsBytes", spec := "bitsBytes", apart := false }
def BitsBytesSaid : Prop := bitsBytesRow.holds Try.pinned (OpenSpec.ofChange bitsBytesSpec)

/-- ITS FALSE NEIGHBOUR: 'it returns false'. Refute it at one input. -/
def bitsBytesWrong : ChangeSpec := { name := "bitsBytes", fn := fun _ => fun
  | [d1, d2] => { results := [.lit (.bool false)], args := [d1, d2] }
  | _ => none }
def BitsBytesWrongFalsely : Prop := bitsBytesRow.holds Try.pinned (OpenSpec.ofChange bitsBytesWrong)

/-- 'gouachelaw06.BitsFull': WHATEVER THE INPUT: true; the input reads as it did. -/
def bitsFullSpec : ChangeSpec := { name := "bitsFull", fn := fun _ => fun
  | [d1, d2] => { results := [.lit (.bool true)], args := [d1, d2] }
  | _ => none }
def bitsFullRow : OpenClaim := { program := "ytkkdpbjfkncpbaa", sum := "324be272c2745acd5bb4ce35abd253cbdfa52e801051a121c97dbe16eacc2e40", func := "gouache/gouachelaw06.BitsFull", spec := "bitsFull", apart := false }
def BitsFullSaid : Prop := bitsFullRow.holds Try.pinned (OpenSpec.ofChange bitsFullSpec)

/-- ITS FALSE NEIGHBOUR: 'it returns false'. Refute it at one input. -/
def bitsFullWrong : ChangeSpec := { name := "bitsFull", fn := fun _ => fun
  | [d1, d2] => { results := [.lit (.bool false)], args := [d1, d2] }
  | _ => none }
def BitsFullWrongFalsely : Prop := bitsFullRow.holds Try.pinned (OpenSpec.ofChange bitsFullWrong)

/- THE SECOND FORM. 'bulk': how many values and letters a reading holds, each counted each time it is reached (what is shared counts as often as it is met; a slice's spare places count too). A statement '..UptoSaid' is the law's where the arguments, and the package variables that the reading takes, are together of bulk at most 1048576: NARROWER than '..Said'. Prove '..Said' where nothing that the law and all that it calls make is longer than what came in: it says more and counts as full. Else prove '..UptoSaid'. A law counts once. -/
mutual
def uptoBulk {H : Type} : DataW H → Nat
  | .lit (.string bytes) => bytes.length + 1
  | .lit _ => 1
  | .nil => 1
  | .ptr d => uptoBulk d + 1
  | .slice elems spare => uptoBulkAll elems + uptoBulkAll spare + 1
  | .agg parts => uptoBulkAll parts + 1
  | .iface _ d => uptoBulk d + 1
  | .map entries => uptoBulkEntries entries + 1
  | .held _ => 1
def uptoBulkAll {H : Type} : List (DataW H) → Nat
  | [] => 0
  | d :: r => uptoBulk d + uptoBulkAll r
def uptoBulkEntries {H : Type} : List (Lit × DataW H) → Nat
  | [] => 0
  | x :: r => uptoBulkEntry x + uptoBulkEntries r
def uptoBulkEntry {H : Type} : Lit × DataW H → Nat
  | (.string bytes, d) => bytes.length + uptoBulk d + 1
  | (_, d) => uptoBulk d + 1
 end
def uptoSmall : (H : Type) → List (DataW H) → Bool := fun _ ds => decide (uptoBulkAll ds ≤ 1048576)
def OpenSpec.upto (s : _root_.Go.ChangeSpec) : _root_.Go.OpenSpec := { _root_.Go.OpenSpec.ofChange s with cond := some uptoSmall }

/-- 'gouachelaw06.BitsGet', WHERE WHAT IT READS IS OF BULK AT MOST 1048576: true; the input reads as it did. -/
def bitsGetUptoRow : OpenClaim := { program := "ytkkdpbjfkncpbaa", sum := "324be272c2745acd5bb4ce35abd253cbdfa52e801051a121c97dbe16eacc2e40", func := "gouache/gouachelaw06.BitsGet", spec := "bitsGet", apart := false, narrowed := true }
def BitsGetUptoSaid : Prop := bitsGetUptoRow.holds Try.pinned (OpenSpec.upto bitsGetSpec)

/-- 'gouachelaw06.BitsRow', WHERE WHAT IT READS IS OF BULK AT MOST 1048576: true; the input reads as it did. -/
def bitsRowUptoRow : OpenClaim := { program := "ytkkdpbjfkncpbaa", sum := "324be272c2745acd5bb4ce35abd253cbdfa52e801051a121c97dbe16eacc2e40", func := "gouache/gouachelaw06.BitsRow", spec := "bitsRow", apart := false, narrowed := true }
def BitsRowUptoSaid : Prop := bitsRowUptoRow.holds Try.pinned (OpenSpec.upto bitsRowSpec)

/-- 'gouachelaw06.BitsVoid', WHERE WHAT IT READS IS OF BULK AT MOST 1048576: true; the input reads as it did. -/
def bitsVoidUptoRow : OpenClaim := { program := "ytkkdpbjfkncpbaa", sum := "324be272c2745acd5bb4ce35abd253cbdfa52e801051a121c97dbe16eacc2e40", func := "gouache/gouachelaw06.BitsVoid", spec := "bitsVoid", apart := false, narrowed := true }
def BitsVoidUptoSaid : Prop := bitsVoidUptoRow.holds Try.pinned (OpenSpec.upto bitsVoidSpec)

/-- 'gouachelaw06.BitsBack', WHERE WHAT IT READS IS OF BULK AT MOST 1048576: true; the input reads as it did. -/
def bitsBackUptoRow : OpenClaim := { program := "ytkkdpbjfkncpbaa", sum := "324be272c2745acd5bb4ce35abd253cbdfa52e801051a121c97dbe16eacc2e40", func := "gouache/gouachelaw06.BitsBack", spec := "bitsBack", apart := false, narrowed := true }
def BitsBackUptoSaid : Prop := bitsBackUptoRow.holds Try.pinned (OpenSpec.upto bitsBackSpec)

/-- 'gouachelaw06.BitsParts', WHERE WHAT IT READS IS OF BULK AT MOST 1048576: true; the input reads as it did. -/
def bitsPartsUptoRow : OpenClaim := { program := "ytkkdpbjfkncpbaa", sum := "324be272c2745acd5bb4ce35abd253cbdfa52e801051a121c97dbe16eacc2e40", func := "gouache/gouachelaw06.BitsParts", spec := "bitsParts", apart := false, narrowed := true }
def BitsPartsUptoSaid : Prop := bitsPartsUptoRow.holds Try.pinned (OpenSpec.upto bitsPartsSpec)

/-- 'gouachelaw06.BitsBytes', WHERE WHAT IT READS IS OF BULK AT MOST 1048576: true; the input reads as it did. -/
def bitsBytesUptoRow : OpenClaim := { program := "ytkkdpbjfkncpbaa", sum := "324be272c2745acd5bb4ce35abd253cbdfa52e801051a121c97dbe16eacc2e40", func := "gouache/gouachelaw06.BitsBytes", spec := "bitsBytes", apart := false, narrowed := true }
def BitsBytesUptoSaid : Prop := bitsBytesUptoRow.holds Try.pinned (OpenSpec.upto bitsBytesSpec)

/-- 'gouachelaw06.BitsFull', WHERE WHAT IT READS IS OF BULK AT MOST 1048576: true; the input reads as it did. -/
def bitsFullUptoRow : OpenClaim := { program := "ytkkdpbjfkncpbaa", sum := "324be272c2745acd5bb4ce35abd253cbdfa52e801051a121c97dbe16eacc2e40", func := "gouache/gouachelaw06.BitsFull", spec := "bitsFull", apart := false, narrowed := true }
def BitsFullUptoSaid : Prop := bitsFullUptoRow.holds Try.pinned (OpenSpec.upto bitsFullSpec)

end Rows
end Go.Proofs.Ytkkdpbjfkncpbaa

/-
  NARROWER THAN 'FOR EVERY INPUT', by the rows' own cells (each row's printed sentence says how): RecordsGet: laid · RecordsPut: laid · RecordsBack: laid · RecordsAgain: laid · RecordsEach: laid · RecordsRoom: laid.
  DERIVED. THE GIVEN ROWS OF THIS SEAT. 6 by the template 'for every input the law returns true; each argument reads behind the call as it read before'; 0 by the template 'total and deterministic' (their statements: YtjehicncbpljaaaDoorTotals.lean).
  GIVEN WITH THE SEED: the statements are not yours to turn. If you find one false, say at which input.
  Laid BY PROGRAM, IN A SANDBOX (cutbox-rows.mjs): the forced cells as the released guide's own fill.sh prints them over the translation cf16382d6d46d544… (all of the seat's roots in one cut). By AI agents, Wed Nov 11 2026. No macro, syntax, notation, axiom, sorry.
-/
import Derived.Test.YtjehicncbpljaaaDoorChecked
import GoSem.Claim
import GoSem.ClaimJoined
import GoSem.ClaimMapViews
import Derived.JoinedTies
import Derived.KernelRfl
namespace Go.Proofs.YtjehicncbpljaaaDoor
/- THE CELL 'sum', in the pinned program and in every row, IS THE sha256 OF THE DUMP (.gsa) THAT YtjehicncbpljaaaDoorProg.lean LOADS. Nothing in Lean hashes anything: it is a label: what it is worth is what the hold of that sum in a sandbox is worth. -/
noncomputable def Tryd.pinned : Pinned := { name := "ytjehicncbpljaaadoor", sum := "cf16382d6d46d54464cb35b39be567679fec28f32c383e3f5fe507065eafbff1", checked := Tryd.checked }
namespace Rows
def none {H : Type} : Left H := { results := [], args := [] }

/- WHAT THE LISTED PACKAGE-LEVEL VARIABLES READ AS WHEN THE CALL BEGINS. Each datum BY PROGRAM (the guide's laid-datum.mjs) off the statement by which the dump's own 'gosem.cut.vars' lays the variable. In a bare row this is a premise. The card (YtjehicncbpljaaaDoorCards.lean) ties it to the program's text. -/
def laid_gouache_layouts_sets {H : Type} : DataW H := .agg [.lit (.int .u64 4311814422), .lit (.int .u64 69910), .lit (.int .u64 276)]

/-- 'gouachelaw09.RecordsGet': WHATEVER THE INPUT: true; the input reads as it did. -/
def recordsGetSpec : ChangeSpec := { name := "recordsGet", fn := fun _ => fun
  | [d1, d2] => { results := [.lit (.bool true)], args := [d1, d2] }
  | _ => none }
def recordsGetRow : OpenClaim := { program := "ytjehicncbpljaaadoor", sum := "cf16382d6d46d54464cb35b39be567679fec28f32c383e3f5fe507065eafbff1", func := "gouache/gouachelaw09.RecordsGet", spec := "recordsGet", unfollowed := true, recurses := true, named := ["gouache/layouts.sets"], apart := false, laid := [("gouache/layouts.sets", laid_gouache_layouts_sets)] }
def RecordsGetSaid : Prop := recordsGetRow.holds Tryd.pinned (OpenSpec.ofChange recordsGetSpec)

/-- ITS FALSE NEIGHBOUR: 'it returns false'. Refute it at one input. -/
def recordsGetWrong : ChangeSpec := { name := "recordsGet", fn := fun _ => fun
  | [d1, d2] => { results := [.lit (.bool false)], args := [d1, d2] }
  | _ => none }
def RecordsGetWrongFalsely : Prop := recordsGetRow.holds Tryd.pinned (OpenSpec.ofChange recordsGetWrong)

/-- 'gouachelaw09.RecordsPut': WHATEVER THE INPUT: true; the input reads as it did. -/
def recordsPutSpec : ChangeSpec := { name := "recordsPut", fn := fun _ => fun
  | [d1, d2] => { results := [.lit (.bool true)], args := [d1, d2] }
  | _ => none }
def recordsPutRow : OpenClaim := { program := "ytjehicncbpljaaadoor", sum := "cf16382d6d46d54464cb35b39be567679fec28f32c383e3f5fe507065eafbff1", func := "gouache/gouachelaw09.RecordsPut", spec := "recordsPut", unfollowed := true, recurses := true, named := ["gouache/layouts.sets"], apart := false, laid := [("gouache/layouts.sets", laid_gouache_layouts_sets)] }
def RecordsPutSaid : Prop := recordsPutRow.holds Tryd.pinned (OpenSpec.ofChange recordsPutSpec)

/-- ITS FALSE NEIGHBOUR: 'it returns false'. Refute it at one input. -/
def recordsPutWrong : ChangeSpec := { name := "recordsPut", fn := fun _ => fun
  | [d1, d2] => { results := [.lit (.bool false)], args := [d1, d2] }
  | _ => none }
def RecordsPutWrongFalsely : Prop := recordsPutRow.holds Tryd.pinned (OpenSpec.ofChange recordsPutWrong)

/-- 'gouachelaw09.RecordsBack': WHATEVER THE INPUT: true; the input reads as it did. -/
def recordsBackSpec : ChangeSpec := { name := "recordsBack", fn := fun _ => fun
  | [d1, d2] => { results := [.lit (.bool true)], args := [d1, d2] }
  | _ => none }
def recordsBackRow : OpenClaim := { program := "ytjehicncbpljaaadoor", sum := "cf16382d6d46d54464cb35b39be567679fec28f32c383e3f5fe507065eafbff1", func := "gouache/gouachelaw09.RecordsBack", spec := "recordsBack", unfollowed := true, recurses := true, named := ["gouache/layouts.sets"], apart := false, laid := [("gouache/layouts.sets", laid_gouache_layouts_sets)] }
def RecordsBackSaid : Prop := recordsBackRow.holds Tryd.pinned (OpenSpec.ofChange recordsBackSpec)

/-- ITS FALSE NEIGHBOUR: 'it returns false'. Refute it at one input. -/
def recordsBackWrong : ChangeSpec := { name := "recordsBack", fn := fun _ => fun
  | [d1, d2] => { results := [.lit (.bool false)], args := [d1, d2] }
  | _ => none }
def RecordsBackWrongFalsely : Prop := recordsBackRow.holds Tryd.pinned (OpenSpec.ofChange recordsBackWrong)

/-- 'gouachelaw09.RecordsAgain': WHATEVER THE INPUT: true; the input reads as it did. -/
def recordsAgainSpec : ChangeSpec := { name := "recordsAgain", fn := fun _ => fun
  | [d1, d2] => { results := [.lit (.bool true)], args := [d1, d2] }
  | _ => none }
def recordsAgainRow : OpenClaim := { program := "ytjehicncbpljaaadoor", sum := "cf16382d6d46d54464cb35b39be567679fec28f32c383e3f5fe507065eafbff1", func := "gouache/gouachelaw09.RecordsAgain", spec := "recordsAgain", unfollowed := true, recurses := true, named := ["gouache/layouts.sets"], apart := false, laid := [("gouache/layouts.sets", laid_gouache_layouts_sets)] }
def RecordsAgainSaid : Prop := recordsAgainRow.holds Tryd.pinned (OpenSpec.ofChange recordsAgainSpec)

/-- ITS FALSE NEIGHBOUR: 'it returns false'. Refute it at one input. -/
def recordsAgainWrong : ChangeSpec := { name := "recordsAgain", fn := fun _ => fun
  | [d1, d2] => { results := [.lit (.bool false)], args := [d1, d2] }
  | _ => none }
def RecordsAgainWrongFalsely : Prop := recordsAgainRow.holds Tryd.pinned (OpenSpec.ofChange recordsAgainWrong)

/-- 'gouachelaw09.RecordsEach': WHATEVER THE INPUT: true; the input reads as it did. -/
def recordsEachSpec : ChangeSpec := { name := "recordsEach", fn := fun _ => fun
  | [d1, d2] => { results := [.lit (.bool true)], args := [d1, d2] }
  | _ => none }
def recordsEachRow : OpenClaim := { program := "ytjehicncbpljaaadoor", sum := "cf16382d6d46d54464cb35b39be567679fec28f32c383e3f5fe507065eafbff1", func := "gouache/gouachelaw09.RecordsEach", spec := "recordsEach", unfollowed := true, recurses := true, named := ["gouache/layouts.sets"], apart := false, laid := [("gouache/layouts.sets", laid_gouache_layouts_sets)] }
def RecordsEachSaid : Prop := recordsEachRow.holds Tryd.pinned (OpenSpec.ofChange recordsEachSpec)

/-- ITS FALSE NEIGHBOUR: 'it returns false'. Refute it at one input. -/
def recordsEachWrong : ChangeSpec := { name := "recordsEach", fn := fun _ => fun
  | [d1, d2] => { results := [.lit (.bool false)], args := [d1, d2] }
  | _ => none }
def RecordsEachWrongFalsely : Prop := recordsEachRow.holds Tryd.pinned (OpenSpec.ofChange recordsEachWrong)

/-- 'gouachelaw09.RecordsRoom': WHATEVER THE INPUT: true; the input reads as it did. -/
def recordsRoomSpec : ChangeSpec := { name := "recordsRoom", fn := fun _ => fun
  | [d1, d2, d3] => { results := [.lit (.bool true)], args := [d1, d2, d3] }
  | _ => none }
def recordsRoomRow : OpenClaim := { program := "ytjehicncbpljaaadoor", sum := "cf16382d6d46d54464cb35b39be567679fec28f32c383e3f5fe507065eafbff1", func := "gouache/gouachelaw09.RecordsRoom", spec := "recordsRoom", unfollowed := true, recurses := true, named := ["gouache/layouts.sets"], apart := false, laid := [("gouache/layouts.sets", laid_gouache_layouts_sets)] }
def RecordsRoomSaid : Prop := recordsRoomRow.holds Tryd.pinned (OpenSpec.ofChange recordsRoomSpec)

/-- ITS FALSE NEIGHBOUR: 'it returns false'. Refute it at one input. -/
def recordsRoomWrong : ChangeSpec := { name := "recordsRoom", fn := fun _ => fun
  | [d1, d2, d3] => { results := [.lit (.bool false)], args := [d1, d2, d3] }
  | _ => none }
def RecordsRoomWrongFalsely : Prop := recordsRoomRow.holds Tryd.pinned (OpenSpec.ofChange recordsRoomWrong)

/- THE SECOND FORM. 'bulk': how many values and letters a reading holds, each counted each time it is reached (what is shared counts as often as it is met; a slice's spare places count too). A statement '..UptoSaid' is the law's where the arguments, and the package variables that the reading takes, are together of bulk at most 1048576: NARROWER than '..Said'. Prove '..Said' where nothing that the law and all that it calls make is longer than what came in: it says more and counts as full. Else prove '..UptoSaid'. A law counts once. -/
mutual
def uptoBulk {H : Type} : DataW H → Nat
  | .lit (.string bytes) => bytes.length + 1
  | .lit _ => 1
  | .nil => 1
  | .ptr d => uptoBulk d + 1
  | .slice elems spare => uptoBulkAll elems + uptoBulkAll spare + 1
  | .agg parts => uptoBulkAll parts + 1
  | .iface _ d => uptoBulk d + 1
  | .map entries => uptoBulkEntries entries + 1
  | .held _ => 1
def uptoBulkAll {H : Type} : List (DataW H) → Nat
  | [] => 0
  | d :: r => uptoBulk d + uptoBulkAll r
def uptoBulkEntries {H : Type} : List (Lit × DataW H) → Nat
  | [] => 0
  | x :: r => uptoBulkEntry x + uptoBulkEntries r
def uptoBulkEntry {H : Type} : Lit × DataW H → Nat
  | (.string bytes, d) => bytes.length + uptoBulk d + 1
  | (_, d) => uptoBulk d + 1
 end
def uptoSmall : (H : Type) → List (DataW H) → Bool := fun _ ds => decide (uptoBulkAll ds ≤ 1048576)
def OpenSpec.upto (s : _root_.Go.ChangeSpec) : _root_.Go.OpenSpec := { _root_.Go.OpenSpec.ofChange s with cond := some uptoSmall }

/-- 'gouachelaw09.RecordsGet', WHERE WHAT IT READS IS OF BULK AT MOST 1048576: true; the input reads as it did. -/
def recordsGetUptoRow : OpenClaim := { program := "ytjehicncbpljaaadoor", sum := "cf16382d6d46d54464cb35b39be567679fec28f32c383e3f5fe507065eafbff1", func := "gouache/gouachelaw09.RecordsGet", spec := "recordsGet", unfollowed := true, recurses := true, named := ["gouache/layouts.sets"], apart := false, laid := [("gouache/layouts.sets", laid_gouache_layouts_sets)], narrowed := true }
def RecordsGetUptoSaid : Prop := recordsGetUptoRow.holds Tryd.pinned (OpenSpec.upto recordsGetSpec)

/-- 'gouachelaw09.RecordsPut', WHERE WHAT IT READS IS OF BULK AT MOST 1048576: true; the input reads as it did. -/
def recordsPutUptoRow : OpenClaim := { program := "ytjehicncbpljaaadoor", sum := "cf16382d6d46d54464cb35b39be567679fec28f32c383e3f5fe507065eafbff1", func := "gouache/gouachelaw09.RecordsPut", spec := "recordsPut", unfollowed := true, recurses := true, named := ["gouache/layouts.sets"], apart := false, laid := [("gouache/layouts.sets", laid_gouache_layouts_sets)], narrowed := true }
def RecordsPutUptoSaid : Prop := recordsPutUptoRow.holds Tryd.pinned (OpenSpec.upto recordsPutSpec)

/-- 'gouachelaw09.RecordsBack', WHERE WHAT IT READS IS OF BULK AT MOST 1048576: true; the input reads as it did. -/
def recordsBackUptoRow : OpenClaim := { program := "ytjehicncbpljaaadoor", sum := "cf16382d6d46d54464cb35b39be567679fec28f32c383e3f5fe507065eafbff1", func := "gouache/gouachelaw09.RecordsBack", spec := "recordsBack", unfollowed := true, recurses := true, named := ["gouache/layouts.sets"], apart := false, laid := [("gouache/layouts.sets", laid_gouache_layouts_sets)], narrowed := true }
def RecordsBackUptoSaid : Prop := recordsBackUptoRow.holds Tryd.pinned (OpenSpec.upto recordsBackSpec)

/-- 'gouachelaw09.RecordsAgain', WHERE WHAT IT READS IS OF BULK AT MOST 1048576: true; the input reads as it did. -/
def recordsAgainUptoRow : OpenClaim := { program := "ytjehicncbpljaaadoor", sum := "cf16382d6d46d54464cb35b39be567679fec28f32c383e3f5fe507065eafbff1", func := "gouache/gouachelaw09.RecordsAgain", spec := "recordsAgain", unfollowed := true, recurses := true, named := ["gouache/layouts.sets"], apart := false, laid := [("gouache/layouts.sets", laid_gouache_layouts_sets)], narrowed := true }
def RecordsAgainUptoSaid : Prop := recordsAgainUptoRow.holds Tryd.pinned (OpenSpec.upto recordsAgainSpec)

/-- 'gouachelaw09.RecordsEach', WHERE WHAT IT READS IS OF BULK AT MOST 1048576: true; the input reads as it did. -/
def recordsEachUptoRow : OpenClaim := { program := "ytjehicncbpljaaadoor", sum := "cf16382d6d46d54464cb35b39be567679fec28f32c383e3f5fe507065eafbff1", func := "gouache/gouachelaw09.RecordsEach", spec := "recordsEach", unfollowed := true, recurses := true, named := ["gouache/layouts.sets"], apart := false, laid := [("gouache/layouts.sets", laid_gouache_layouts_sets)], narrowed := true }
def RecordsEachUptoSaid : Prop := recordsEachUptoRow.holds Tryd.pinned (OpenSpec.upto recordsEachSpec)

/-- 'gouachelaw09.RecordsRoom', WHERE WHAT IT READS IS OF BULK AT MOST 1048576: true; the input reads as it did. -/
def recordsRoomUptoRow : OpenClaim := { program := "ytjehicncbpljaaadoor", sum := "cf16382d6d46d54464cb35b39be567679fec28f32c383e3f5fe507065eafbff1", func := "gouache/gouachelaw09.RecordsRoom", spec := "recordsRoom", unfollowed := true, recurses := true, named := ["gouache/layouts.sets"], apart := false, laid := [("gouache/layouts.sets", laid_gouache_layouts_sets)], narrowed := true }
def RecordsRoomUptoSaid : Prop := recordsRoomUptoRow.holds Tryd.pinned (OpenSpec.upto recordsRoomSpec)

end Rows
end Go.Proofs.YtjehicncbpljaaaDoor

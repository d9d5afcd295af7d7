/- WHAT THE ROWS OF THE PATCHES LIST: the sets of numbers of bits, the edges; a parameter of sheets. -/
import Derived.Test.YtjipbndjcefbbaaDoorL08o
import Derived.Test.YtjipbndjcefbbaaDoorT12a
namespace Go.Proofs.YtjipbndjcefbbaaDoor
open Go Go.Gx Go.RowKit Go.ChangeShapes Go.WideShapes Go.ChangeAt
set_option maxRecDepth 100000

def laid12 : List (String × DataW Unit) := [("gouache/layouts.sets", Rows.laid_gouache_layouts_sets), ("gouache/tiles.edges", Rows.laid_gouache_tiles_edges)]
theorem laid12_met {W : World} (h : laidMetH Tryd.prog laid12 W) : laidMet Tryd.prog laid12 W := by
  rw [MakeChecks.laidMetH_plain _ _ _ (by kernel_rfl)] at h
  exact h
theorem door12 (os : Os) (args : Array Value) : laidMetH Tryd.prog laid12 ((World.doorLaid Tryd.prog 400 os).forCall (fun _ _ => 0) ⟨#[], args, []⟩).memory :=
  laidMetH_of_parts3 (fuel := 8) (laidMet_of_run' 8 (by kernel_rfl) (by kernel_rfl)) (by kernel_rfl) (by kernel_rfl)
theorem sets12 {W : World} (h : laidMetH Tryd.prog laid12 W) : Sets W := sets_of (laid12_met h) (List.mem_cons_self ..)
def edgesK : List IntKind := List.replicate 24 .i64
theorem gEdges : Tryd.prog.globalNamed "gouache/tiles.edges" = some 0 := by kernel_rfl
theorem edges12 {W : World} (h : laidMetH Tryd.prog laid12 W) : Edges W :=
  laid_flat (name := "gouache/tiles.edges") (d := Rows.laid_gouache_tiles_edges) (ks := edgesK) (laid12_met h) (List.mem_cons_of_mem _ (List.mem_cons_self ..)) gEdges (by kernel_rfl) (show flat Tryd.prog 8 145 = some edgesK by kernel_rfl) (intsB_ok _ _ (by kernel_rfl)) (by kernel_rfl)
theorem flat_Sheet : flat Tryd.prog 8 64 = some sheetK := by kernel_rfl
end Go.Proofs.YtjipbndjcefbbaaDoor

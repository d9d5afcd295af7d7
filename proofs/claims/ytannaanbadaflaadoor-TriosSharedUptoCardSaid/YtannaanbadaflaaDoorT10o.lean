/- WHAT THE ROWS OF THE TRIANGLES LIST: the sets of numbers of bits; a parameter of vertices. -/
import Derived.Test.YtannaanbadaflaaDoorL08o
import Derived.Test.YtannaanbadaflaaDoorT10a
namespace Go.Proofs.YtannaanbadaflaaDoor
open Go Go.Gx Go.RowKit Go.ChangeShapes Go.WideShapes Go.ChangeAt
set_option maxRecDepth 100000

def laid10 : List (String × DataW Unit) := [("gouache/layouts.sets", Rows.laid_gouache_layouts_sets)]
theorem laid10_met {W : World} (h : laidMetH Tryd.prog laid10 W) : laidMet Tryd.prog laid10 W := by
  rw [MakeChecks.laidMetH_plain _ _ _ (by kernel_rfl)] at h
  exact h
theorem door10 (os : Os) (args : Array Value) : laidMetH Tryd.prog laid10 ((World.doorLaid Tryd.prog 400 os).forCall (fun _ _ => 0) ⟨#[], args, []⟩).memory :=
  laidMetH_of_parts3 (fuel := 8) (laidMet_of_run' 8 (by kernel_rfl) (by kernel_rfl)) (by kernel_rfl) (by kernel_rfl)
theorem sets10 {W : World} (h : laidMetH Tryd.prog laid10 W) : Sets W := sets_of (laid10_met h) (List.mem_cons_self ..)
theorem flat_Rec : flat Tryd.prog 8 63 = some recK := by kernel_rfl
theorem open_recs {w0 : World} {sv : Value} {n : Nat} {xs : List Value} (hs : SlA (St w0 []) sv 7 n xs) (hi : Ints (rep n recK) xs) : ∃ rs, rs.length = n ∧ SlA (St w0 []) sv 7 rs.length rs.flatten ∧ All7 rs := by
  obtain ⟨rs, rfl, hl, ha⟩ := recs_of hi
  exact ⟨rs, hl, by rw [hl]; exact hs, ha⟩
end Go.Proofs.YtannaanbadaflaaDoor

/- A LIST's COPY WITH MARKS BEHIND IT, and whether it is still as it was. -/
import Derived.Test.YtkkdpbjfkncpbaaG01a
namespace Go.Proofs.Ytkkdpbjfkncpbaa
open Go Go.Gx Go.RowKit
set_option maxRecDepth 100000

theorem two_rooms (rest xs mm : List Value) (n s : Nat) (h : xs.length = n * s) (hr : rest.length = (n + 3) * s) (hm : mm.length = 3 * s) :
    (rest.take (0 * s) ++ xs ++ rest.drop (0 * s + xs.length)).take ((0 + n) * s) ++ mm ++ (rest.take (0 * s) ++ xs ++ rest.drop (0 * s + xs.length)).drop ((0 + n) * s + mm.length) = xs ++ mm := by
  simp only [Nat.zero_mul, List.take_zero, List.nil_append, Nat.zero_add, ← h]
  rw [List.take_left, List.drop_append, List.drop_of_length_le (by omega), List.nil_append, List.drop_drop, List.drop_of_length_le (by rw [hr, h, hm, Nat.add_mul]; omega), List.append_nil]

def zs (ks : List IntKind) : List Value := ks.map fun k => .int k 0
theorem zs_ints : ∀ ks : List IntKind, Ints ks (zs ks)
  | [] => .nil
  | k :: ks => .cons (by cases k <;> rfl) (zs_ints ks)
end Go.Proofs.Ytkkdpbjfkncpbaa

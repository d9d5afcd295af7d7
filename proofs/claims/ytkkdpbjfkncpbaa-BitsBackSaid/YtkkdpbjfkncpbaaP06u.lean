/- A PARAMETER OF NUMBERS, each in so many bits. -/
import Derived.Test.YtkkdpbjfkncpbaaP06i
import Derived.Test.YtkkdpbjfkncpbaaP06o
namespace Go.Proofs.Ytkkdpbjfkncpbaa
open Go Go.Gx Go.RowKit Go.ChangeShapes Go.WideShapes Go.ChangeAt
set_option maxRecDepth 100000

theorem open_lds {H : Type} {enc : TypeId × Value → H} {W : World} {base b0 : Nat} {spare : Nat → Bool} {held : Bool} {r : Reach} {v : Value} {d : DataW H} {p : List MemPlace}
    (hv : Value.okWide Try.prog W r b0 31 v) (h : DataW.Trod enc Try.prog W base spare held 31 v d p) :
    ∃ ls : List (Nat × Int), SlA (St W []) v 2 ls.length (ldV ls) ∧ Lds ls := by
  obtain ⟨fuel, hf⟩ := h
  obtain ⟨a1, len1, cap1, rfl⟩ := okWide_slice Try.underlying31 hv
  obtain ⟨v', n, xs, hcs, hs, hi, _⟩ := open_slc Try.underlying31 (show flat Try.prog 8 52 = some [.u32, .i64] by kernel_rfl) (by decide) hf
  have e1 : Value.slice a1 len1 cap1 = v' := by simpa [Value.cells] using hcs
  subst e1
  obtain ⟨ls, rfl, rfl, hb⟩ := ldV_of hi
  exact ⟨ls, hs, hb⟩

end Go.Proofs.Ytkkdpbjfkncpbaa

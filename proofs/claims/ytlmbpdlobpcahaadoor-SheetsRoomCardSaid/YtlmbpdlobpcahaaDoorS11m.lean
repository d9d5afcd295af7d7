/- WHAT THE ROWS OF THE SHEETS ARE OPENED BY: a byte, two bytes. -/
import Derived.Test.YtlmbpdlobpcahaaDoorS11o
namespace Go.Proofs.YtlmbpdlobpcahaaDoor
open Go Go.Gx Go.RowKit Go.ChangeShapes Go.WideShapes Go.ChangeAt
set_option maxRecDepth 100000
theorem wfB {z : Int} (h : (Lit.int .u8 z).wf = true) : ∃ v : Nat, z = (v : Int) ∧ v ≤ 255 := by
  obtain ⟨x, hx, h2⟩ := wfU (.inl rfl) h
  rw [if_pos rfl] at h2
  exact ⟨x, hx, by omega⟩
/-- two bytes in an array by value -/
theorem open_two {H : Type} {enc : TypeId × Value → H} {W : World} {base b0 : Nat} {spare : Nat → Bool} {held : Bool} {r : Reach} {v : Value} {d : DataW H} {p : List MemPlace} {t : TypeId} (ha : Tryd.prog.underlying t = some (.array 2 5)) (hk : flat Tryd.prog 8 t = some [.u8, .u8])
    (hv : Value.okWide Tryd.prog W r b0 t v) (h : DataW.Trod enc Tryd.prog W base spare held t v d p) :
    ∃ x y : Nat, v = .agg #[.int .u8 (x : Int), .int .u8 (y : Int)] ∧ x ≤ 255 ∧ y ≤ 255 := by
  obtain ⟨cs, rfl⟩ : ∃ cs, v = .agg cs := by
    simp only [Value.okWide, ha] at hv
    cases v <;> simp_all
  obtain ⟨fuel, hf⟩ := h
  have hi := trod_flat 8 t _ hk fuel _ _ hf
  obtain ⟨z0, c1, e1, w1, hi⟩ := hi.inv
  obtain ⟨z1, c2, e2, w2, hi⟩ := hi.inv
  obtain rfl := hi.inv_nil
  subst e2
  obtain ⟨x, rfl, hx⟩ := wfB w1
  obtain ⟨y, rfl, hy⟩ := wfB w2
  exact ⟨x, y, congrArg Value.agg (Array.ext' (by simpa [Value.cells] using e1)), hx, hy⟩
end Go.Proofs.YtlmbpdlobpcahaaDoor

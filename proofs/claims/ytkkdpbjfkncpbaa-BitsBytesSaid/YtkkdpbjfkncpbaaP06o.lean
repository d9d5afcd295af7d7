/- WHAT THE ROWS OF BITS ARE OPENED BY: a parameter of bytes. -/
import Derived.Test.YtkkdpbjfkncpbaaP06b
import Derived.Test.YtkkdpbjfkncpbaaH
import Derived.Test.YtkkdpbjfkncpbaaRows
namespace Go.Proofs.Ytkkdpbjfkncpbaa
open Go Go.Gx Go.RowKit Go.ChangeShapes Go.WideShapes Go.ChangeAt
set_option maxRecDepth 100000

theorem own : ownKnob Try.prog.godebug = none := by kernel_rfl
theorem laidOut : laidOutB Try.prog = true := by kernel_rfl
theorem flat_Byte : flat Try.prog 8 5 = some byteK := by kernel_rfl
theorem open_bytesB {H : Type} {enc : TypeId × Value → H} {W : World} {base b0 : Nat} {spare : Nat → Bool} {held : Bool} {r : Reach} {v : Value} {d : DataW H} {p : List MemPlace}
    (hv : Value.okWide Try.prog W r b0 22 v) (h : DataW.Trod enc Try.prog W base spare held 22 v d p) (hw : ∀ m ∈ d.weights Try.prog 22, m ≤ reachBytes) :
    ∃ bs : List Nat, SlA (St W []) v 1 bs.length (byV bs) ∧ (∀ c ∈ bs, c < 256) ∧ bs.length ≤ 140737488351232 := by
  obtain ⟨n, xs, hs, hi, hn⟩ := open_slw Try.underlying22 flat_Byte (by decide) (show Try.prog.bytesOf 5 = 1 by kernel_rfl) hv h hw
  obtain ⟨bs, rfl, rfl, hb⟩ := byV_of hi
  exact ⟨bs, hs, hb, by omega⟩
theorem wf_u32' {z : Int} (h : (Lit.int .u32 z).wf = true) : ∃ v : Nat, z = (v : Int) ∧ v < 4294967296 := by
  have hz := wf_u32 h
  obtain ⟨v, rfl⟩ := Int.eq_ofNat_of_zero_le hz.1
  exact ⟨v, rfl, by omega⟩
theorem wf_u8' {z : Int} (h : (Lit.int .u8 z).wf = true) : ∃ v : Nat, z = (v : Int) ∧ v ≤ 255 := by
  have hz := wf_u8 h
  obtain ⟨v, rfl⟩ := Int.eq_ofNat_of_zero_le hz.1
  exact ⟨v, rfl, by omega⟩
theorem wf_u16' {z : Int} (h : (Lit.int .u16 z).wf = true) : ∃ v : Nat, z = (v : Int) ∧ v ≤ 65535 := by
  have hz := wf_u16 h
  obtain ⟨v, rfl⟩ := Int.eq_ofNat_of_zero_le hz.1
  exact ⟨v, rfl, by omega⟩
/-- two bytes in an array by value -/
theorem open_two {H : Type} {enc : TypeId × Value → H} {W : World} {base b0 : Nat} {spare : Nat → Bool} {held : Bool} {r : Reach} {v : Value} {d : DataW H} {p : List MemPlace} {t : TypeId} (ha : Try.prog.underlying t = some (.array 2 5)) (hk : flat Try.prog 8 t = some [.u8, .u8])
    (hv : Value.okWide Try.prog W r b0 t v) (h : DataW.Trod enc Try.prog W base spare held t v d p) :
    ∃ x y : Nat, v = .agg #[.int .u8 (x : Int), .int .u8 (y : Int)] ∧ x ≤ 255 ∧ y ≤ 255 := by
  obtain ⟨cs, rfl⟩ : ∃ cs, v = .agg cs := by
    simp only [Value.okWide, ha] at hv
    cases v <;> simp_all
  obtain ⟨fuel, hf⟩ := h
  have hi := trod_flat 8 t _ hk fuel _ _ hf
  obtain ⟨z0, c1, e1, w1, hi⟩ := hi.inv
  obtain ⟨z1, c2, e2, w2, hi⟩ := hi.inv
  obtain rfl := hi.inv_nil
  subst e2
  obtain ⟨x, rfl, hx⟩ := wf_u8' w1
  obtain ⟨y, rfl, hy⟩ := wf_u8' w2
  exact ⟨x, y, congrArg Value.agg (Array.ext' (by simpa [Value.cells] using e1)), hx, hy⟩
end Go.Proofs.Ytkkdpbjfkncpbaa

/- OPENERS: what a row lists of the sets of numbers of bits, and a layout by value. -/
import Derived.Test.YtjehicncbpljaaaDoorL08a
import Derived.Test.YtjehicncbpljaaaDoorH
import Derived.Test.YtjehicncbpljaaaDoorI
namespace Go.Proofs.YtjehicncbpljaaaDoor
open Go Go.Gx Go.RowKit Go.ChangeShapes Go.WideShapes Go.ChangeAt
set_option maxRecDepth 100000

theorem own : ownKnob Tryd.prog.godebug = none := by kernel_rfl
theorem laidOut : laidOutB Tryd.prog = true := by kernel_rfl
def LayK : List IntKind := [.i64, .i64, .i64, .i64, .i64, .i64, .i32, .i32, .i32, .i32, .i32, .i32, .i32, .i32, .i32, .i32, .i32, .i32]
theorem flat_lay : flat Tryd.prog 8 27 = some LayK := by kernel_rfl
structure Lay.Wf (L : Lay) : Prop where
  ty : I64 L.ty
  co : I64 L.co
  cm : I64 L.cm
  fl : I64 L.fl
  cs : I64 L.cs
  ro : I64 L.ro

theorem lay_of {cs : List Value} (h : Ints LayK cs) : ∃ L : Lay, Value.agg cs.toArray = L.val ∧ L.Wf := by
  obtain ⟨a0, _, rfl, w0, h⟩ := h.inv
  obtain ⟨a1, _, rfl, w1, h⟩ := h.inv
  obtain ⟨a2, _, rfl, w2, h⟩ := h.inv
  obtain ⟨a3, _, rfl, w3, h⟩ := h.inv
  obtain ⟨a4, _, rfl, w4, h⟩ := h.inv
  obtain ⟨a5, _, rfl, w5, h⟩ := h.inv
  obtain ⟨b0, _, rfl, _, h⟩ := h.inv
  obtain ⟨b1, _, rfl, _, h⟩ := h.inv
  obtain ⟨b2, _, rfl, _, h⟩ := h.inv
  obtain ⟨b3, _, rfl, _, h⟩ := h.inv
  obtain ⟨b4, _, rfl, _, h⟩ := h.inv
  obtain ⟨b5, _, rfl, _, h⟩ := h.inv
  obtain ⟨b6, _, rfl, _, h⟩ := h.inv
  obtain ⟨b7, _, rfl, _, h⟩ := h.inv
  obtain ⟨b8, _, rfl, _, h⟩ := h.inv
  obtain ⟨b9, _, rfl, _, h⟩ := h.inv
  obtain ⟨b10, _, rfl, _, h⟩ := h.inv
  obtain ⟨b11, _, rfl, _, h⟩ := h.inv
  obtain rfl := h.inv_nil
  exact ⟨⟨a0, a1, a2, a3, a4, a5, fun i => [b0, b1, b2, b3, b4, b5, b6, b7, b8, b9, b10, b11].getD i 0⟩, rfl, wf_i64 w0, wf_i64 w1, wf_i64 w2, wf_i64 w3, wf_i64 w4, wf_i64 w5⟩

theorem open_lay {H : Type} {enc : TypeId × Value → H} {W : World} {base b0 : Nat} {spare : Nat → Bool} {held : Bool} {r : Reach} {v : Value} {d : DataW H} {p : List MemPlace}
    (hv : Value.okWide Tryd.prog W r b0 27 v) (h : DataW.Trod enc Tryd.prog W base spare held 27 v d p) : ∃ L : Lay, v = L.val ∧ L.Wf := by
  obtain ⟨cs, rfl, hi⟩ := open_flat Tryd.underlying27 flat_lay hv h
  exact lay_of hi

theorem gSets : Tryd.prog.globalNamed "gouache/layouts.sets" = some 0 := by kernel_rfl
def setsK : List IntKind := [.u64, .u64, .u64]
theorem sets_of {W : World} {laid : List (String × DataW Unit)} (h : laidMet Tryd.prog laid W) (hm : ("gouache/layouts.sets", Rows.laid_gouache_layouts_sets) ∈ laid) : Sets W :=
  laid_flat (ks := setsK) h hm gSets (by kernel_rfl) (show flat Tryd.prog 8 205 = some setsK by kernel_rfl) (intsB_ok _ _ (by kernel_rfl)) (by kernel_rfl)

def layZ : List Value := [.int .i64 0, .int .i64 0, .int .i64 0, .int .i64 0, .int .i64 0, .int .i64 0, .int .i32 0, .int .i32 0, .int .i32 0, .int .i32 0, .int .i32 0, .int .i32 0, .int .i32 0, .int .i32 0, .int .i32 0, .int .i32 0, .int .i32 0, .int .i32 0]


end Go.Proofs.YtjehicncbpljaaaDoor

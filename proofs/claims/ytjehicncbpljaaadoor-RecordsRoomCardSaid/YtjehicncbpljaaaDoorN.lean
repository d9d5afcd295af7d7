/- STRINGS: their length, one of their bytes, two joined, two compared. Program-independent. -/
import Derived.Test.YtjehicncbpljaaaDoorK
namespace Go.Gx
open Go Go.RowKit
section
variable {P : Program} {n : Nat} {ops : Array Oper} {o : Oper} {σ : Slots} {A : World → Prop} {g : Bool} {v : Value} {x y z : Operand} {c c1 c2 c3 : Bool} {t t2 : TypeId} {k : IntKind} {p q : Int}
theorem bsize (l : List UInt8) : (⟨l.toArray⟩ : ByteArray).size = l.length := rfl
theorem QT_lenStr {l : List UInt8} (hg : gdc ops σ o = some g) (hop : o.op = .call { callee := .builtin .len, args := #[x], argTypes := #[t] }) (hu : P.underlying t = some .string) (hx : ev σ x = some (c, .string ⟨l.toArray⟩))
    (hc : g = true → c = true := by first | exact fun _ => rfl | exact id | (intro h; first | grind | simp_all)) : QT P n ops o σ A g (.int .i64 (l.length : Int)) :=
  QT.mk hg fun a w hf _ h => by simp [execOp, hop, hf.eval hx (hc h), resolve, invoke, builtin, Builtin.len_, run_underlying hu, goInt, bsize]
theorem QT_indexStr {l : List UInt8} {b : UInt8} (j : Nat) (hg : gdc ops σ o = some g) (hop : o.op = .index t x y) (hu : P.underlying t = some .string)
    (hx : ev σ x = some (c1, .string ⟨l.toArray⟩)) (hy : ev σ y = some (c2, .int k p)) (hp : p = (j : Int)) (hv : g = true → l[j]? = some b)
    (hc : g = true → c1 = true ∧ c2 = true := by first | exact fun _ => ⟨rfl, rfl⟩ | (intro h; first | grind | simp_all)) : QT P n ops o σ A g (.int .u8 (b.toNat : Int)) :=
  QT.mk hg fun a w hf _ h => by
    subst hp
    have hv' := hv h
    have hb : (⟨l.toArray⟩ : ByteArray)[j]? = some b := by
      have hlt : j < l.length := by
        rcases Nat.lt_or_ge j l.length with h | h
        · exact h
        · rw [List.getElem?_eq_none h] at hv'; cases hv'
      have hs : j < (⟨l.toArray⟩ : ByteArray).size := by rw [bsize]; exact hlt
      rw [getElem?_pos (⟨l.toArray⟩ : ByteArray) j hs]
      rw [List.getElem?_eq_getElem hlt] at hv'
      rw [← Option.some.inj hv']
      rfl
    simp [execOp, hop, hf.eval hx (hc h).1, hf.eval hy (hc h).2, Instr.index, asIntOf, run_underlying hu, hb]
theorem QT_addStr {l l' : List UInt8} (hg : gdc ops σ o = some g) (hop : o.op = .binOp .add t x y t2) (hx : ev σ x = some (c1, .string ⟨l.toArray⟩)) (hy : ev σ y = some (c2, .string ⟨l'.toArray⟩)) (hn : l.length + l'.length ≤ 9223372036854775807)
    (hc : g = true → c1 = true ∧ c2 = true := by first | exact fun _ => ⟨rfl, rfl⟩ | (intro h; first | grind | simp_all)) : QT P n ops o σ A g (.string ⟨(l ++ l').toArray⟩) :=
  QT.mk hg fun a w hf _ h => by
    have he : (⟨l.toArray⟩ : ByteArray) ++ ⟨l'.toArray⟩ = ⟨(l ++ l').toArray⟩ := by
      apply ByteArray.ext
      simp
    have hle : (l.length : Int) + (l'.length : Int) ≤ 9223372036854775807 := by omega
    simp [execOp, hop, hf.eval hx (hc h).1, hf.eval hy (hc h).2, eqGuard, binOp, Op.stringOp, bsize, hle, he]
theorem QT_eqStr {l l' : List UInt8} (hg : gdc ops σ o = some g) (hop : o.op = .binOp .eql t x y t2) (hx : ev σ x = some (c1, .string ⟨l.toArray⟩)) (hy : ev σ y = some (c2, .string ⟨l'.toArray⟩))
    (hc : g = true → c1 = true ∧ c2 = true := by first | exact fun _ => ⟨rfl, rfl⟩ | (intro h; first | grind | simp_all)) : QT P n ops o σ A g (.bool (l == l')) :=
  QT.mk hg fun a w hf _ h => by
    simp [execOp, hop, hf.eval hx (hc h).1, hf.eval hy (hc h).2, eqGuard, binOp, Op.stringOp]
end
end Go.Gx

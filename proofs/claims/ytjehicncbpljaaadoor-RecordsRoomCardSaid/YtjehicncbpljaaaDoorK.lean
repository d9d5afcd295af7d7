/- COMPARISONS WITH nil; a string of bytes. Program-independent. -/
import Derived.Test.YtjehicncbpljaaaDoorI
import Derived.Laws.IdiomStrings
namespace Go.Gx
open Go Go.RowKit
section
variable {P : Program} {n : Nat} {ops : Array Oper} {o : Oper} {σ : Slots} {A : World → Prop} {g : Bool} {v : Value} {x y z : Operand} {c c1 c2 c3 : Bool} {t t2 : TypeId} {k : IntKind} {p q : Int}

theorem run_eqNilP {w : World} {e : TypeId} {ad : Option Addr} (hu : P.underlying t = some (.pointer e)) : (Op.equal t (.pointer ad) (.pointer none)).run P w = .ok ad.isNone w := by
  have h : ∀ d, (Op.equalIn (d + 1) t (.pointer ad) (.pointer none)).run P w = .ok ad.isNone w := fun d => by
    cases ad <;> simp [Op.equalIn, Sem.run_bind, run_underlying hu]
  exact h 9999
theorem run_eqNilS {w : World} {e : TypeId} {ad : Option Addr} {l cap : Nat} (hu : P.underlying t = some (.slice e)) : (Op.equal t (.slice ad l cap) (.slice none 0 0)).run P w = .ok ad.isNone w := by
  have h : ∀ d, (Op.equalIn (d + 1) t (.slice ad l cap) (.slice none 0 0)).run P w = .ok ad.isNone w := fun d => by
    cases ad <;> simp [Op.equalIn, Sem.run_bind, run_underlying hu]
  exact h 9999
theorem QT_neNilP {e : TypeId} {ad : Option Addr} (hg : gdc ops σ o = some g) (hop : o.op = .binOp .neq t x y t2) (hu : P.underlying t = some (.pointer e)) (hx : ev σ x = some (c1, .pointer ad)) (hy : ev σ y = some (c2, .pointer none))
    (hc : g = true → c1 = true ∧ c2 = true := by first | exact fun _ => ⟨rfl, rfl⟩ | (intro h; first | grind | simp_all)) : QT P n ops o σ A g (.bool (!ad.isNone)) :=
  QT.mk hg fun a w hf _ h => by
    have h1 := run_binNe (P := P) (w := w) rfl (run_eqNilP (ad := ad) hu)
    simp only [execOp, hop, hf.eval hx (hc h).1, hf.eval hy (hc h).2, eqGuard, Sem.run_bind]
    simp [h1]
theorem QT_eqNilS {e : TypeId} {ad : Option Addr} {l cap : Nat} (hg : gdc ops σ o = some g) (hop : o.op = .binOp .eql t x y t2) (hu : P.underlying t = some (.slice e)) (hx : ev σ x = some (c1, .slice ad l cap)) (hy : ev σ y = some (c2, .slice none 0 0))
    (hc : g = true → c1 = true ∧ c2 = true := by first | exact fun _ => ⟨rfl, rfl⟩ | (intro h; first | grind | simp_all)) : QT P n ops o σ A g (.bool ad.isNone) :=
  QT.mk hg fun a w hf _ h => by
    have h1 := run_binEq (P := P) (w := w) rfl (run_eqNilS (ad := ad) (l := l) (cap := cap) hu)
    simp only [execOp, hop, hf.eval hx (hc h).1, hf.eval hy (hc h).2, eqGuard, Sem.run_bind]
    simp [h1]
theorem QT_neStr {s s' : ByteArray} (hg : gdc ops σ o = some g) (hop : o.op = .binOp .neq t x y t2) (hx : ev σ x = some (c1, .string s)) (hy : ev σ y = some (c2, .string s'))
    (hc : g = true → c1 = true ∧ c2 = true := by first | exact fun _ => ⟨rfl, rfl⟩ | (intro h; first | grind | simp_all)) : QT P n ops o σ A g (.bool (!(s.toList == s'.toList))) :=
  QT.mk hg fun a w hf _ h => by
    simp [execOp, hop, hf.eval hx (hc h).1, hf.eval hy (hc h).2, eqGuard, binOp, Op.stringOp]
/-- string(b) -/
theorem QT_convBS {src dst e : TypeId} {len cap : Nat} {ad : Option Addr} {l : List UInt8} (hg : gdc ops σ o = some g) (hop : o.op = .convert src dst x) (hsrc : P.underlying src = some (.slice e)) (he : P.underlying e = some (.int .u8)) (hdst : P.underlying dst = some .string)
    (hx : ev σ x = some (c, .slice ad len cap)) (hs : g = true → SlA A (.slice ad len cap) 1 len (l.map fun b => .int .u8 (b.toNat : Int)))
    (hc : g = true → c = true := by first | exact fun _ => rfl | exact id | (intro h; first | grind | simp_all)) : QT P n ops o σ A g (.string ⟨l.toArray⟩) :=
  QT.mk hg fun a w hf hA h => by
    obtain ⟨hl, ad', cap', hv, _, hr⟩ := hs h
    obtain ⟨rfl, _, rfl⟩ := Value.slice.inj hv
    have hll : l.length = len := by simpa using hl
    have hrun : (convert src dst (.slice ad len cap)).run P w = .ok (.string ⟨l.toArray⟩) w := by
      cases ad with
      | none =>
        have : len = 0 := by rcases hr with h0 | ⟨b, off, h0, _⟩; exact h0; cases h0
        subst this
        have : l = [] := List.eq_nil_of_length_eq_zero hll
        subst this
        rw [run_convert_bytes_string w src dst e none 0 cap hsrc he hdst]
        rfl
      | some a0 =>
        have := run_convert_bytes_back (P := P) w src dst e a0 cap l hsrc he hdst (fun j hj => by
          rcases hr with h0 | ⟨b, off, h0, hrd⟩
          · omega
          · cases h0
            rw [add_mk]
            exact hrd w hA j _ (by simp [hj]))
        rw [hll] at this
        exact this
    simp [execOp, hop, hf.eval hx (hc h), hrun]
end
end Go.Gx

/- FROM A ROW TO A WALK: what a parameter of integers, laid flat, reads as; the arguments read again behind the call. Program-independent. -/
import Derived.Test.YtjehicncbpljaaaDoorC
import Derived.ProofKit
import Derived.LaidMore
import Derived.OpenShut
import Derived.Stop.Joined
import Derived.Lib.LaidTab
import Derived.MakeChecks
namespace Go.Gx
open Go Go.RowKit Go.ChangeShapes Go.WideShapes

/-- cells that are integers of these kinds, each well formed -/
inductive Ints : List IntKind → List Value → Prop
  | nil : Ints [] []
  | cons {k : IntKind} {z : Int} {ks : List IntKind} {cs : List Value} (hw : (Lit.int k z).wf = true) (h : Ints ks cs) : Ints (k :: ks) (.int k z :: cs)

theorem Ints.append {ks ks' : List IntKind} {cs cs' : List Value} (h : Ints ks cs) (h' : Ints ks' cs') : Ints (ks ++ ks') (cs ++ cs') := by
  induction h with
  | nil => exact h'
  | cons hw _ ih => exact .cons hw ih
theorem Ints.inv {k : IntKind} {ks : List IntKind} {cs : List Value} (h : Ints (k :: ks) cs) : ∃ z cs', cs = .int k z :: cs' ∧ (Lit.int k z).wf = true ∧ Ints ks cs' := by
  cases h with
  | cons hw h => exact ⟨_, _, rfl, hw, h⟩
theorem Ints.inv_nil {cs : List Value} (h : Ints [] cs) : cs = [] := by cases h; rfl
theorem Ints.length {ks : List IntKind} {cs : List Value} (h : Ints ks cs) : cs.length = ks.length := by
  induction h with
  | nil => rfl
  | cons _ _ ih => simp [ih]

def flatF (f : TypeId → Option (List IntKind)) : List Field → Option (List IntKind)
  | [] => some []
  | x :: r => match f x.type, flatF f r with
    | some a, some b => some (a ++ b)
    | _, _ => none
/-- the kinds of a type's cells, if all are integers -/
def flat (P : Program) : Nat → TypeId → Option (List IntKind)
  | 0, _ => none
  | d + 1, t => match P.underlying t with
    | some (.int k) => bif Nat.beq (P.cellsOf t) 1 then some [k] else none
    | some (.struct fs) =>
      bif contig (fs.toList.map fun f => (f.offset, P.cellsOf f.type)) 0 && Nat.beq (sumSz (fs.toList.map fun f => (f.offset, P.cellsOf f.type))) (P.cellsOf t) then flatF (flat P d) fs.toList else none
    | some (.array n e) => bif Nat.beq (n * P.cellsOf e) (P.cellsOf t) then (match flat P d e with
        | some ks => some ((List.replicate n ks).flatten)
        | none => none) else none
    | _ => none

theorem pieces : ∀ (pl : List (Nat × Nat)) (k : Nat) (cs : List Value), contig pl k = true → cs.length = k + sumSz pl → cs.drop k = (pl.map fun x => (cs.drop x.1).take x.2).flatten
  | [], k, cs, _, h => by simp [sumSz] at h; simp [h]
  | (o, s) :: r, k, cs, hc, h => by
    simp only [contig, Bool.and_eq_true] at hc
    obtain ⟨ho, hc⟩ := hc
    obtain rfl : o = k := Nat.eq_of_beq_eq_true ho
    simp only [sumSz] at h
    have ih := pieces r (o + s) cs hc (by omega)
    simp only [List.map_cons, List.flatten_cons, ← ih]
    conv => lhs; rw [← List.take_append_drop s (cs.drop o), List.drop_drop]

section
variable {H : Type} {enc : TypeId × Value → H} {P : Program} {w : World} {base : Nat} {spare : Nat → Bool} {held : Bool}
theorem trod_flat : ∀ (d : Nat) (t : TypeId) (ks : List IntKind), flat P d t = some ks → ∀ (fuel : Nat) (cs : List Value) (x : DataW H × List MemPlace), DataW.trod enc P w base spare held fuel t cs = some x → Ints ks cs
  | 0, t, ks, h, _, _, _, _ => by simp [flat] at h
  | d + 1, t, ks, h, fuel, cs, x, hx => by
    simp only [flat] at h
    cases hu : P.underlying t with
    | none => simp [hu] at h
    | some D =>
      cases D with
      | int k =>
        simp only [hu] at h
        cases hb : Nat.beq (P.cellsOf t) 1 with
        | false => simp [hb] at h
        | true =>
          simp only [hb, cond_true, Option.some.injEq] at h
          subst h
          obtain ⟨n, rfl, _, hw⟩ := DataW.trod_int hu hx
          exact .cons hw .nil
      | struct fs =>
        simp only [hu] at h
        cases hb : (contig (fs.toList.map fun f => (f.offset, P.cellsOf f.type)) 0 && Nat.beq (sumSz (fs.toList.map fun f => (f.offset, P.cellsOf f.type))) (P.cellsOf t)) with
        | false => simp [hb] at h
        | true =>
          rw [hb, cond_true] at h
          simp only [Bool.and_eq_true] at hb
          obtain ⟨xs, n, rfl, _, hlen, hxl, hel⟩ := DataW.trod_struct hu hx
          have hp := pieces _ 0 cs hb.1 (by rw [hlen, Nat.zero_add, Nat.eq_of_beq_eq_true hb.2])
          rw [List.drop_zero, List.map_map] at hp
          rw [hp]
          have hel' : ∀ (l : List Field), (∀ f ∈ l, ∃ x, DataW.trod enc P w base spare held n f.type ((cs.drop f.offset).take (P.cellsOf f.type)) = some x) → ∀ ks, flatF (flat P d) l = some ks →
              Ints ks (l.map ((fun x => (cs.drop x.1).take x.2) ∘ fun f => (f.offset, P.cellsOf f.type))).flatten := by
            intro l
            induction l with
            | nil => intro _ ks h; simp [flatF] at h; subst h; exact .nil
            | cons f l ih =>
              intro hl ks h
              simp only [flatF] at h
              cases hf : flat P d f.type with
              | none => simp [hf] at h
              | some a =>
                cases hr : flatF (flat P d) l with
                | none => simp [hf, hr] at h
                | some b =>
                  simp [hf, hr] at h
                  subst h
                  obtain ⟨x, hx⟩ := hl f (List.mem_cons_self ..)
                  simp only [List.map_cons, List.flatten_cons]
                  exact (trod_flat d f.type a hf n _ x hx).append (ih (fun f hf => hl f (List.mem_cons_of_mem _ hf)) b hr)
          refine hel' fs.toList (fun f hf => ?_) ks h
          obtain ⟨i, hi, he⟩ := List.getElem_of_mem hf
          have hfi : fs[i]? = some f := by
            rw [← Array.getElem?_toList, List.getElem?_eq_getElem hi, he]
          rw [hel i f hfi]
          have : i < xs.length := by rw [hxl]; simpa using hi
          exact ⟨_, List.getElem?_eq_getElem this⟩
      | array m e =>
        simp only [hu] at h
        cases hb : Nat.beq (m * P.cellsOf e) (P.cellsOf t) with
        | false => simp [hb] at h
        | true =>
          rw [hb, cond_true] at h
          cases hf : flat P d e with
          | none => simp [hf] at h
          | some a =>
            simp only [hf, Option.some.injEq] at h
            subst h
            obtain ⟨xs, n, rfl, _, hlen, hxl, hel⟩ := DataW.trod_array hu hx
            have hb' := Nat.eq_of_beq_eq_true hb
            have key : ∀ (j k : Nat), j + k = m → Ints ((List.replicate j a).flatten) (cs.drop (k * P.cellsOf e)) := by
              intro j
              induction j with
              | zero =>
                intro k hk
                have : cs.drop (k * P.cellsOf e) = [] := by
                  apply List.drop_eq_nil_of_le
                  rw [hlen, ← hb', ← hk, Nat.zero_add]
                  exact Nat.le_refl _
                rw [this]; exact .nil
              | succ j ih =>
                intro k hk
                rw [List.replicate_succ, List.flatten_cons]
                have h1 := hel k (by omega)
                have hkx : k < xs.length := by omega
                rw [List.getElem?_eq_getElem hkx] at h1
                have h2 := trod_flat d e a hf n _ _ h1
                have h3 := ih (k + 1) (by omega)
                have h4 := h2.append h3
                have e4 : (cs.drop (k * P.cellsOf e)).take (P.cellsOf e) ++ cs.drop ((k + 1) * P.cellsOf e) = cs.drop (k * P.cellsOf e) := by
                  conv => rhs; rw [← List.take_append_drop (P.cellsOf e) (cs.drop (k * P.cellsOf e)), List.drop_drop]
                  rw [Nat.add_mul, Nat.one_mul]
                rwa [e4] at h4
            have := key m 0 (by omega)
            simpa using this
      | _ => simp [hu] at h

/-- A parameter by value of integers laid flat. -/
theorem open_flat {t : TypeId} {ks : List IntKind} {v : Value} {d : DataW H} {p : List MemPlace} {fs : Array Field} {r : Reach} {b0 : Nat} (hs : P.underlying t = some (.struct fs)) (hk : flat P 8 t = some ks) (hv : Value.okWide P w r b0 t v) (h : DataW.Trod enc P w base spare held t v d p) :
    ∃ cs : List Value, v = .agg cs.toArray ∧ Ints ks cs := by
  obtain ⟨cs, rfl, _⟩ := okWide_struct hs hv
  obtain ⟨fuel, hf⟩ := h
  exact ⟨cs.toList, by simp, trod_flat 8 t ks hk fuel _ _ hf⟩

/-- The arguments read behind the call as they did: below the old heap's size nothing has turned. -/
theorem trodAll_stay (hl : laidOutB P = true) {W W' : World} (hb : Below W.heap.size W W') : ∀ (ts : List TypeId) (vs : List Value) (ds : List (DataW H)) (ps : List MemPlace), (ts.all fun t => P.readableRec t && decide (t < P.types.size)) = true →
    DataW.TrodAll enc P W 0 (fun _ => true) true ts vs ds ps → (∀ x ∈ ps, x.block < W.heap.size) → DataW.TrodAll enc P W' 0 (fun b => decide (b < W.heap.size)) true ts vs ds ps
  | [], vs, ds, ps, _, h, _ => by
    cases vs <;> cases ds <;> simp [DataW.TrodAll] at h ⊢
    exact h
  | t :: ts, vs, ds, ps, hr, h, hlt => by
    obtain ⟨v, vs', d, ds', p, q, rfl, rfl, rfl, h1, h2⟩ := trodAll_cons h
    simp only [List.all_cons, Bool.and_eq_true, decide_eq_true_eq] at hr
    exact trodAll_cons_mk (Below.trod hl hr.1.1 hr.1.2 h1 hb (fun x hx => hlt x (List.mem_append_left _ hx)))
      (trodAll_stay hl hb ts vs' ds' q hr.2 h2 (fun x hx => hlt x (List.mem_append_right _ hx)))

theorem wf_u8 {z : Int} (h : (Lit.int .u8 z).wf = true) : 0 ≤ z ∧ z ≤ 255 := by
  have h1 : IntKind.u8.min = 0 := rfl
  have h2 : IntKind.u8.max = 255 := rfl
  simp only [Lit.wf, Bool.and_eq_true, decide_eq_true_eq] at h
  omega
theorem wf_u16 {z : Int} (h : (Lit.int .u16 z).wf = true) : 0 ≤ z ∧ z ≤ 65535 := by
  have h1 : IntKind.u16.min = 0 := rfl
  have h2 : IntKind.u16.max = 65535 := rfl
  simp only [Lit.wf, Bool.and_eq_true, decide_eq_true_eq] at h
  omega
theorem wf_u32 {z : Int} (h : (Lit.int .u32 z).wf = true) : 0 ≤ z ∧ z ≤ 4294967295 := by
  have h1 : IntKind.u32.min = 0 := rfl
  have h2 : IntKind.u32.max = 4294967295 := rfl
  simp only [Lit.wf, Bool.and_eq_true, decide_eq_true_eq] at h
  omega
theorem wf_i64 {z : Int} (h : (Lit.int .i64 z).wf = true) : I64 z := by
  have h1 : IntKind.i64.min = -9223372036854775808 := rfl
  have h2 : IntKind.i64.max = 9223372036854775807 := rfl
  simp only [Lit.wf, Bool.and_eq_true, decide_eq_true_eq] at h
  exact ⟨by omega, by omega⟩

/-- What a law's walk gives. -/
theorem law_end {f : FuncId} {vs : List Value} {W : World} (h : CallsT P f vs (St W []) fun v A' => v = .bool true ∧ A' = St W []) : Calls P f vs.toArray W fun e w' => e = .returned (.bool true) ∧ Below W.heap.size W w' :=
  (h W (St.start W)).mono fun e w' ⟨v, A', he, ⟨hv, hA⟩, hA'⟩ => by subst hv hA; exact ⟨he, hA'.below.plain⟩
end
end Go.Gx

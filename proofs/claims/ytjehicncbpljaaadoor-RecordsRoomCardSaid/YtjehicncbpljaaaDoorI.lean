/- SMALL RULES MORE: an index of an array by value; a call of a function's value; lists told by a table. Program-independent. -/
import Derived.Test.YtjehicncbpljaaaDoorG
namespace Go.Gx
open Go Go.RowKit
section
variable {P : Program} {n : Nat} {ops : Array Oper} {o : Oper} {σ : Slots} {A : World → Prop} {g : Bool} {v : Value} {x y z : Operand} {c c1 c2 c3 : Bool} {t t2 : TypeId} {k : IntKind} {p q : Int}

/-- a[j], where a is an array's value of single cells -/
theorem QT_indexV {e len : Nat} {d : TypeDesc} {xs : List Value} (j : Nat) (hg : gdc ops σ o = some g) (hop : o.op = .index t x y) (hu : P.underlying t = some (.array len e)) (he : P.underlying e = some d) (hd : isAggD d = false) (hm : Sz P e 1)
    (hx : ev σ x = some (c1, .agg xs.toArray)) (hy : ev σ y = some (c2, .int k p)) (hp : p = (j : Int)) (hj : g = true → j < len) (hv : g = true → xs[j]? = some v)
    (hc : g = true → c1 = true ∧ c2 = true := by first | exact fun _ => ⟨rfl, rfl⟩ | (intro h; first | grind | simp_all)) : QT P n ops o σ A g v :=
  QT.mk hg fun a w hf _ h => by
    subst hp
    have hj' := hj h
    have hv' := hv h
    simp [execOp, hop, hf.eval hx (hc h).1, hf.eval hy (hc h).2, Instr.index, asIntOf, run_underlying hu, hj', run_sizeOf hm, part, run_isAgg he, hd, hv']

theorem QT_convN {src dst : TypeId} {k' : IntKind} {ds : TypeDesc} (hg : gdc ops σ o = some g) (hop : o.op = .convert src dst x) (hsrc : P.underlying src = some ds) (hdst : P.underlying dst = some (.int k')) (hx : ev σ x = some (c, .int k p)) (hw : k'.wrap p = q)
    (hc : g = true → c = true := by first | exact fun _ => rfl | exact id | (intro h; first | grind | simp_all)) : QT P n ops o σ A g (.int k' q) := by
  subst hw; exact QT_conv hg hop hsrc hdst hx hc
/-- an array written out -/
theorem QT_buildArr {ps : Array (Nat × Operand)} {cps : List (Bool × Nat × Value)} {zs : Value} {len e m : Nat} {out : List Value} (hg : gdc ops σ o = some g) (hop : o.op = .build t ps) (hz : ZeroOk P t zs) (hu : P.underlying t = some (.array len e)) (hm : Sz P e m)
    (he : evp σ ps.toList = some cps) (hct : (contig ((List.range len).map fun i => (i * m, m)) 0 && Nat.beq zs.cells.toList.length (sumSz ((List.range len).map fun i => (i * m, m)))) = true) (hseg : segs ((List.range len).map fun i => (i * m, m)) zs.cells.toList (cps.map (·.2)) 0 = some out)
    (hc : g = true → cps.all (·.1) = true := by first | exact fun _ => rfl | (intro h; first | grind | simp_all)) : QT P n ops o σ A g (.agg out.toArray) :=
  QT.mk hg fun a w hf _ h => by
    have h1 : (ps.map fun (i, x) => (i, a.eval x)).toList = cps.map (·.2) := by
      rw [Array.toList_map]; exact evp_map hf he (hc h)
    simp only [Bool.and_eq_true] at hct
    have hfill := segs_fill (fun i => some (i * m, m)) _ zs.cells.toList (cps.map (·.2)) 0 [] out (fun k x hk => by
      rw [List.getElem?_map] at hk
      cases hr : (List.range len)[k]? with
      | none => simp [hr] at hk
      | some y =>
        obtain ⟨hlt, hy⟩ := List.getElem?_eq_some_iff.1 hr
        simp only [List.getElem_range] at hy
        simp [hr] at hk
        simp [← hk, hy]) hct.1 (Nat.eq_of_beq_eq_true hct.2) hseg
    have h2 := fill_eq (fun i => some (i * m, m)) _ zs.cells out hfill
    simp only [execOp, hop, Instr.build, Sem.run_bind, run_zeroValue hz, Result.andThen_ok, run_underlying hu, run_sizeOf hm, h1]
    rw [h2]
    rfl

/-- A call of a function's value that holds nothing. -/
theorem ET_callV {f : FuncId} {cx : Operand} {xs : Array Operand} {ts : Array TypeId} {cvs : List (Bool × Value)} {R : Value → (World → Prop) → Prop} (hop : o.op = .call { callee := .value cx, args := xs, argTypes := ts })
    (hcx : ev σ cx = some (true, .func (.func f) #[] #[])) (hcal : CalleeOk P f) (hvs : evs σ xs.toList = some cvs) (h : CallsT P f (cvs.map (·.2)) A R) (hc : cvs.all (·.1) = true := by first | exact rfl | simp_all) : ET P n o σ A R := by
  intro a w hf hA K Q hK
  unfold Oper.wp
  have e0 := run_call (o := { o with op := .call { callee := .value (.func f), args := xs, argTypes := ts } }) rfl hcal hvs hc hf w
  have e : a.eval (.func f) = .func (.func f) #[] #[] := rfl
  have e1 : (execOp a.eval o).run P w = .ok (.enter f (cvs.map (·.2)).toArray) w := by
    rw [← e0]
    simp only [execOp, hop, resolve, e, hf.eval hcx rfl]
  rw [e1, Oper.upon_enter]
  refine (h w hA).mono fun e w' ⟨v, A', he, hR, hA'⟩ => ?_
  subst he
  exact hK v A' w' hR hA'
end

theorem Ints.drop {ks : List IntKind} {cs : List Value} (h : Ints ks cs) : ∀ n, Ints (ks.drop n) (cs.drop n) := by
  induction h with
  | nil => intro n; simpa using Ints.nil
  | cons hw h ih =>
    intro n
    cases n with
    | zero => exact .cons hw h
    | succ n => exact ih n
theorem Ints.take {ks : List IntKind} {cs : List Value} (h : Ints ks cs) : ∀ n, Ints (ks.take n) (cs.take n) := by
  induction h with
  | nil => intro n; simpa using Ints.nil
  | cons hw h ih =>
    intro n
    cases n with
    | zero => exact .nil
    | succ n => exact .cons hw (ih n)
theorem Ints.zeros {k : IntKind} (hk : (Lit.int k 0).wf = true) : ∀ n, Ints (List.replicate n k) (List.replicate n (.int k 0))
  | 0 => .nil
  | n + 1 => .cons hk (Ints.zeros hk n)
/-- is it a list of these integers? -/
def intsB : List IntKind → List Value → Bool
  | [], [] => true
  | k :: ks, .int k' z :: cs => (k == k') && (Lit.int k z).wf && intsB ks cs
  | _, _ => false
theorem intsB_ok : ∀ (ks : List IntKind) (cs : List Value), intsB ks cs = true → Ints ks cs
  | [], [], _ => .nil
  | k :: ks, v :: cs, h => by
    cases v <;> simp only [intsB, Bool.and_eq_true, Bool.false_eq_true] at h
    obtain ⟨⟨h1, h2⟩, h3⟩ := h
    obtain rfl := eq_of_beq h1
    exact .cons h2 (intsB_ok ks cs h3)
  | [], _ :: _, h => by simp [intsB] at h
  | _ :: _, [], h => by simp [intsB] at h
theorem Frag.within {w0 : Base} {e size : Nat} {v : Value} {n : Nat} {xs : List Value} {H η : Heap} (h : Frag e size v n xs H) (hc : ∀ p : Blk → Bool, H.countP p ≤ η.countP p) : SlA (St w0 η) v size n xs :=
  (h.sla (w0 := w0) (η := [])).mono fun _ hw => hw.cnt fun p => by rw [List.append_nil]; exact hc p
theorem SlA.front {A : World → Prop} {ad : Option Addr} {n cap s k : Nat} {cs : List Value} (h : SlA A (.slice ad n cap) s n cs) (hk : k ≤ n) : SlA A (.slice ad k cap) s k (cs.take (k * s)) := by
  obtain ⟨hl, ad', cap', hv, hc, hr⟩ := h
  obtain ⟨rfl, _, rfl⟩ := Value.slice.inj hv
  have hks : k * s ≤ n * s := Nat.mul_le_mul_right _ hk
  refine ⟨by rw [List.length_take]; omega, _, _, rfl, ⟨by omega, hc.2⟩, ?_⟩
  rcases hr with h0 | ⟨b, off, rfl, hrd⟩
  · exact .inl (by omega)
  · refine .inr ⟨b, off, rfl, fun w hw j v hv => hrd w hw j v ?_⟩
    rw [List.getElem?_take] at hv
    split at hv
    · exact hv
    · cases hv
theorem SlA.back {A : World → Prop} {ad : Option Addr} {n cap s k : Nat} {cs : List Value} (h : SlA A (.slice ad n cap) s n cs) (hk : k ≤ n) : SlA A (.slice (if cap = k then ad else ad.map (·.add (k * s))) (n - k) (cap - k)) s (n - k) (cs.drop (k * s)) := by
  obtain ⟨hl, ad', cap', hv, hc, hr⟩ := h
  obtain ⟨rfl, _, rfl⟩ := Value.slice.inj hv
  refine ⟨by rw [List.length_drop, hl, Nat.sub_mul], _, _, rfl, ⟨by omega, by omega⟩, ?_⟩
  by_cases h0 : n = k
  · exact .inl (by omega)
  · right
    rw [if_neg (by omega)]
    obtain ⟨b, off, rfl, hrd⟩ := hr.resolve_left (by omega)
    refine ⟨b, off + k * s, by simp [add_mk], fun w hw j v hv => ?_⟩
    rw [Nat.add_assoc]
    exact hrd w hw _ v (by rw [← List.getElem?_drop]; exact hv)
theorem map_at {α : Type} {m k : Nat} {F G : Nat → α} (h : (List.range m).map F = (List.range m).map G) (hk : k < m) : F k = G k := by
  have := congrArg (fun l => l[k]?) h
  simpa [hk] using this
theorem tab {α : Type} {n : Nat} {d : α} (s : List α) (h : s.length = n) : s = (List.range n).map fun i => s.getD i d := by
  refine List.ext_getElem (by simp [h]) fun i h1 h2 => ?_
  simp [List.getD, List.getElem?_eq_getElem h1]
theorem tab' {α : Type} {n : Nat} (d : α) (s : List α) (h : s.length = n) : ∃ g : Nat → α, s = (List.range n).map g := ⟨_, tab (d := d) s h⟩
end Go.Gx

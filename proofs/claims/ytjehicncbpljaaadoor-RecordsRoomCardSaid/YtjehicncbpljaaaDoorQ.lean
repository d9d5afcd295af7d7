/- CALLS OF FUNCTION VALUES AND OF METHODS OF INTERFACE VALUES. Program-independent. -/
import Derived.Test.YtjehicncbpljaaaDoorK
namespace Go.Gx
open Go Go.RowKit
section
variable {P : Program} {n : Nat} {ops : Array Oper} {o : Oper} {σ : Slots} {A : World → Prop} {g : Bool}
/-- What a call enters. -/
def Goes (P : Program) (n : Nat) (o : Oper) (σ : Slots) (f : FuncId) (vs : List Value) : Prop :=
  ∀ a, Fr n σ a → ∀ w, (execOp a.eval o).run P w = .ok (.enter f vs.toArray) w
theorem run_callFunc {f : FuncId} (hcal : CalleeOk P f) (args : Array Value) (w : World) : (callFunc f args).run P w = .ok (.enter f args) w := by
  obtain ⟨fn, hf', hb, hnm⟩ := hcal
  unfold callFunc
  rw [Sem.run_bind, run_program, Result.andThen_ok]
  simp only [hf', hnm, hb, Bool.false_eq_true, if_false]
  rfl
theorem args_of {a : Act} {xs : Array Operand} {cvs : List (Bool × Value)} (hvs : evs σ xs.toList = some cvs) (hc : cvs.all (·.1) = true) (hf : Fr n σ a) : xs.map a.eval = (cvs.map (·.2)).toArray := by
  apply Array.ext'
  rw [Array.toList_map]
  have : ∀ (l : List Operand) (vs : List (Bool × Value)), l.map (ev σ) = vs.map some → vs.all (·.1) = true → l.map a.eval = vs.map (·.2) := by
    intro l
    induction l with
    | nil => intro vs h _; cases vs <;> simp_all
    | cons y l ih =>
      intro vs h hc
      cases vs with
      | nil => simp at h
      | cons u vs =>
        simp only [List.map_cons, List.cons.injEq] at h ⊢
        simp only [List.all_cons, Bool.and_eq_true] at hc
        exact ⟨hf.eval (c := u.1) (v := u.2) h.1 hc.1, ih vs h.2 hc.2⟩
  exact this _ _ (evs_map hvs) hc
/-- a function's value, with what it has captured -/
theorem Goes.value {f : FuncId} {x : Operand} {xs : Array Operand} {ts : Array TypeId} {cvs : List (Bool × Value)} {cap : Array Value} (hop : o.op = .call { callee := .value x, args := xs, argTypes := ts })
    (hx : ev σ x = some (true, .func (.func f) #[] cap)) (hcal : CalleeOk P f) (hvs : evs σ xs.toList = some cvs) (hc : cvs.all (·.1) = true := by first | exact rfl | simp_all) : Goes P n o σ f (cvs.map (·.2) ++ cap.toList) := by
  intro a hf w
  have h1 := args_of hvs hc hf
  have h2 := hf.eval hx rfl
  simp only [execOp, hop, resolve, h2, Deferred.ofValue, h1, Sem.run_bind, Sem.run_pure, Result.andThen_ok, invoke]
  rw [run_callFunc hcal]
  have : (#[] ++ (cvs.map (·.2)).toArray ++ cap : Array Value) = (cvs.map (·.2) ++ cap.toList).toArray := by apply Array.ext'; simp
  rw [this]
/-- a method of an interface's value -/
theorem Goes.invoke {f : FuncId} {t : TypeId} {v r : Value} {name : String} {x : Operand} {xs : Array Operand} {ts : Array TypeId} {cvs : List (Bool × Value)} (hop : o.op = .call { callee := .invoke x name, args := xs, argTypes := ts })
    (hx : ev σ x = some (true, .iface t v)) (hm : ∀ w, (method (P.types.size + Made.depth) t v name).run P w = .ok (f, r) w) (hcal : CalleeOk P f) (hvs : evs σ xs.toList = some cvs) (hc : cvs.all (·.1) = true := by first | exact rfl | simp_all) : Goes P n o σ f (r :: cvs.map (·.2)) := by
  intro a hf w
  have h1 := args_of hvs hc hf
  have h2 := hf.eval hx rfl
  have eA : #[Value.iface t v] ++ xs.map a.eval = (Value.iface t v :: cvs.map (·.2)).toArray := by rw [h1]; apply Array.ext'; simp
  have e0 : (#[Value.iface t v] ++ xs.map a.eval)[0]? = some (.iface t v) := by rw [eA]; rfl
  have e1 : (#[Value.iface t v] ++ xs.map a.eval).extract 1 (#[Value.iface t v] ++ xs.map a.eval).size = (cvs.map (·.2)).toArray := by
    rw [eA]; apply Array.ext'; simp
    exact List.take_of_length_le (by simp)
  simp only [execOp, hop, resolve, h2, Sem.run_bind, Sem.run_pure, Result.andThen_ok, Go.invoke, e0, e1, callMethod, run_program, hm w]
  rw [run_callFunc hcal]
  have : (#[r] ++ (cvs.map (·.2)).toArray : Array Value) = (r :: cvs.map (·.2)).toArray := by apply Array.ext'; simp
  rw [this]
theorem method_of {t : TypeId} {name : String} {f : FuncId} (h : ((P.info? t).bind fun i => (i.methods.find? (·.name == name)).map fun m => (m.path.size, m.func)) = some (0, some (f, true))) :
    ∃ i m, P.info? t = some i ∧ i.methods.find? (·.name == name) = some m ∧ m.path = #[] ∧ m.func = some (f, true) := by
  obtain ⟨i, hi, h⟩ := Option.bind_eq_some_iff.1 h
  obtain ⟨m, hm, h⟩ := Option.map_eq_some_iff.1 h
  injection h with h1 h2
  exact ⟨i, m, hi, hm, Array.size_eq_zero_iff.1 h1, h2⟩
/-- a pointer's own method -/
theorem method_ptr {t e : TypeId} {v : Value} {name : String} {f : FuncId} {m : Method} {i : TypeInfo} (hi : P.info? t = some i) (hm : i.methods.find? (·.name == name) = some m) (hp : m.path = #[]) (hf : m.func = some (f, true)) (hu : P.underlying t = some (.pointer e)) :
    ∀ w, (method (P.types.size + Made.depth) t v name).run P w = .ok (f, v) w := by
  intro w
  have h0 : 0 < Made.depth := by decide
  obtain ⟨k, hk⟩ : ∃ k, P.types.size + Made.depth = k + 1 := ⟨P.types.size + Made.depth - 1, by omega⟩
  rw [hk]
  simp only [method, typeInfo, run_program, Sem.run_bind, Result.andThen_ok, hi, Sem.run_pure, hm, hp, hf, follow, receiverAt, run_underlying hu, Place.get]
theorem ET_goes {f : FuncId} {vs : List Value} {R : Value → (World → Prop) → Prop} (hg : Goes P n o σ f vs) (h : CallsT P f vs A R) : ET P n o σ A R := by
  intro a w hf hA K Q hK
  unfold Oper.wp
  rw [hg a hf w, Oper.upon_enter]
  refine (h w hA).mono fun e w' ⟨v, A', he, hR, hA'⟩ => ?_
  subst he
  exact hK v A' w' hR hA'
theorem TL_gq {f : FuncId} {vs : List Value} {d : Nat} {u : Value} {rest : List Oper} {Q : Exit → Act → World → Prop} (hd : o.dst = some d) (hn : Nat.ble (d + 1) n = true) (hg : gdc ops σ o = some g)
    (hgo : g = true → Goes P n o σ f vs) (h : g = true → CallsT P f vs A fun v A' => v = u ∧ A' = A) (k : TL P n ops Q rest ((d, g, u) :: σ) A) : TL P n ops Q (o :: rest) σ A := by
  intro a w hf hA
  have hw := wanted_of_gdc (ops := ops) hf hg
  unfold wpList
  cases g with
  | true =>
    rw [if_pos hw]
    refine .inl ?_
    unfold Oper.wp
    rw [hgo rfl a hf w, Oper.upon_enter]
    refine (h rfl w hA).mono fun e w' ⟨v, A', he, ⟨hv, hA1⟩, hA'⟩ => ?_
    subst he hv hA1
    rw [hd]
    exact k _ _ (hf.put hn rfl) hA'
  | false =>
    rw [if_neg (by simp [hw]), hd]
    exact k _ _ (hf.put hn rfl) hA
theorem TV_gq {i : Nat} {r : List (Nat × Nat)} {V V₂ : Held} {f : FuncId} {vs : List Value} {d : Nat} {u : Value} {Q : Exit → Act → World → Prop} (ho : ops[i]? = some o) (hd : o.dst = some d) (hn : Nat.ble (d + 1) n = true) (hg : gdc ops σ o = some g)
    (hgo : g = true → Goes P n o σ f vs) (h : g = true → CallsT P f vs A fun v A' => v = u ∧ A' = A) (hK : KeepTo P n ops i A V V₂) (k : TV P n ops Q r V₂ ((d, g, u) :: σ) A) : TV P n ops Q ((i, 1) :: r) V σ A := by
  intro hs hnp hcc a w V' hf hA hm
  obtain ⟨hr, hc', hrdy⟩ := chk_cons1 hcc
  have hw := wanted_of_gdc (ops := ops) hf hg
  refine ⟨fun h => (by rw [hrdy] at h; cases h), fun j hj => ?_⟩
  rw [hrdy] at hj
  obtain rfl : j = i := by simpa using hj
  unfold wpOp
  simp only [ho]
  cases g with
  | true =>
    rw [if_pos hw]
    refine .inl ?_
    unfold Oper.wp
    rw [hgo rfl a hf w, Oper.upon_enter]
    refine (h rfl w hA).mono fun e w' ⟨v, A', he, ⟨hv, hA1⟩, hA'⟩ => ?_
    subst he hv hA1
    obtain ⟨h1, h2⟩ := hm.keep hK hA'
    rw [hd, listedOf_step hr]
    exact ⟨h1, k hs hnp hc' _ w' _ (hf.put hn rfl) hA' h2⟩
  | false =>
    rw [if_neg (by simp [hw])]
    obtain ⟨h1, h2⟩ := hm.keep hK hA
    rw [hd, listedOf_step hr]
    exact ⟨h1, k hs hnp hc' _ w _ (hf.put hn rfl) hA h2⟩
/-- of a pointer's own method nothing nil stands ahead -/
theorem nilAhead_ptr {t : TypeId} {v : Value} {name : String} {f : FuncId} {m : Method} {i : TypeInfo} (hi : P.info? t = some i) (hm : i.methods.find? (·.name == name) = some m) (hp : m.path = #[]) (hf : m.func = some (f, true)) :
    ∀ w, (nilAhead (P.types.size + Made.depth) t v name).run P w = .ok (some false) w := by
  intro w
  have h0 : 0 < Made.depth := by decide
  obtain ⟨k, hk⟩ : ∃ k, P.types.size + Made.depth = k + 1 := ⟨P.types.size + Made.depth - 1, by omega⟩
  rw [hk]
  simp only [nilAhead, typeInfo, run_program, Sem.run_bind, Result.andThen_ok, hi, Sem.run_pure, hm, hp, hf, followBlind]
theorem QT_nilCheckM {x : Operand} {c : Bool} {t : TypeId} {v : Value} {name : String} {cap : Array Value} (hg : gdc ops σ o = some g) (hop : o.op = .nilCheck x) (hx : ev σ x = some (c, .func (.method name) #[.iface t v] cap))
    (hm : ∀ w, (nilAhead (P.types.size + Made.depth) t v name).run P w = .ok (some false) w)
    (hc : g = true → c = true := by first | exact fun _ => rfl | exact id | (intro h; first | grind | simp_all)) : QT P n ops o σ A g (.func (.method name) #[.iface t v] cap) :=
  QT.mk hg fun a w hf _ h => by
    have e := hf.eval hx (hc h)
    have e0 : (#[Value.iface t v] : Array Value)[0]? = some (.iface t v) := rfl
    simp [execOp, hop, e, e0, run_program, hm w]
/-- the value of a function with what it has captured -/
theorem QT_makeFunc {fn : Fn} {first captured : Array Operand} {cvs cws : List (Bool × Value)} (hg : gdc ops σ o = some g) (hop : o.op = .makeFunc fn first captured) (hvs : evs σ first.toList = some cvs) (hws : evs σ captured.toList = some cws)
    (hc : g = true → cvs.all (·.1) = true ∧ cws.all (·.1) = true := by first | exact fun _ => ⟨rfl, rfl⟩ | (intro h; first | grind | simp_all)) : QT P n ops o σ A g (.func fn (cvs.map (·.2)).toArray (cws.map (·.2)).toArray) :=
  QT.mk hg fun a w hf _ h => by
    have h1 := args_of hvs (hc h).1 hf
    have h2 := args_of hws (hc h).2 hf
    simp [execOp, hop, h1, h2, Instr.makeFunc]
theorem QT_makeIface {t : TypeId} {d : TypeDesc} {x : Operand} {c : Bool} {v : Value} (hg : gdc ops σ o = some g) (hop : o.op = .makeInterface t x) (hu : P.underlying t = some d) (hd : (match d with | .interface _ => true | _ => false) = false) (hx : ev σ x = some (c, v))
    (hc : g = true → c = true := by first | exact fun _ => rfl | exact id | (intro h; first | grind | simp_all)) : QT P n ops o σ A g (.iface t v) :=
  QT.mk hg fun a w hf _ h => by
    have e := hf.eval hx (hc h)
    cases d <;> simp_all [execOp, Instr.makeInterface, run_underlying hu]
end
end Go.Gx

/- CALLS OF FUNCTION VALUES AND OF METHODS OF INTERFACE VALUES. Program-independent. RANGES OVER A FUNCTION: walks within a round, of an iterator, and behind the loop. Program-independent. RANGES OVER A FUNCTION: the rules of the walks. Program-independent. RANGES OVER A FUNCTION: the statement, and what stands behind it. Program-independent. SEVERAL ALLOCATIONS THAT MAY COME UP IN ANY ORDER, in a drawn region. Program-independent. STRINGS: their length, one of their bytes, two joined, two compared. Program-independent. MAPS: one that the call makes, fills and reads. Program-independent. THE CONTRACTS OF THE LAYER OF LAYOUTS: which numbers of bits may be; whether a layout may be; how many bytes a record has. OPENERS: what a row lists of the sets of numbers of bits, and a layout by value. THE CONTRACTS OF THE DOCUMENT's ANSWER FOR LAYOUTS, and of the law's own helpers. LISTS OF BYTES: are two the same; a copy with marks behind it, and whether it is still as it was. NUMBERS AND ROWS OF BITS, in plain Lean: what a run of bits is as a number; a row laid byte by byte. A NUMBER OF SO MANY BITS, FROM ONE ON: the program's own Get, and the document's. A ROW OF BITS, the program's own: a number more, noughts up to a whole byte, its bytes, how many bits. A ROW OF BITS: a number more, laid piece by piece. A ROW OF BITS: Put, each answer; the document's row. -/
import Derived.Test.YtjdaglmkljbfkaaGreatDoorME01
import Derived.RangeFuncIn
import Derived.RangeFuncLeaves
import Derived.RangeFuncCalls
import Derived.RangeFuncRecord
import Derived.OrdersIn
import Derived.MapKept
import Derived.Test.YtjdaglmkljbfkaaGreatDoorRows
import Derived.Laws.BitsAllLaws
namespace Go.Gx
open Go Go.RowKit
section
variable {P : Program} {n : Nat} {ops : Array Oper} {o : Oper} {σ : Slots} {A : World → Prop} {g : Bool}
/-- What a call enters. -/
def Goes (P : Program) (n : Nat) (o : Oper) (σ : Slots) (f : FuncId) (vs : List Value) : Prop :=
 ∀ a, Fr n σ a → ∀ w, (execOp a.eval o).run P w = .ok (.enter f vs.toArray) w
theorem run_callFunc {f : FuncId} (hcal : CalleeOk P f) (args : Array Value) (w : World) : (callFunc f args).run P w = .ok (.enter f args) w := by
 obtain ⟨fn, hf', hb, hnm⟩ := hcal
 unfold callFunc
 rw [Sem.run_bind, run_program, Result.andThen_ok]
 simp only [hf', hnm, hb, Bool.false_eq_true, if_false]
 rfl
theorem args_of {a : Act} {xs : Array Operand} {cvs : List (Bool × Value)} (hvs : evs σ xs.toList = some cvs) (hc : cvs.all (·.1) = true) (hf : Fr n σ a) : xs.map a.eval = (cvs.map (·.2)).toArray := by
 apply Array.ext'
 rw [Array.toList_map]
 have : ∀ (l : List Operand) (vs : List (Bool × Value)), l.map (ev σ) = vs.map some → vs.all (·.1) = true → l.map a.eval = vs.map (·.2) := by
  intro l
  induction l with
  | nil => intro vs h _; cases vs <;> simp_all
  | cons y l ih =>
   intro vs h hc
   cases vs with
   | nil => simp at h
   | cons u vs =>
    simp only [List.map_cons, List.cons.injEq] at h ⊢
    simp only [List.all_cons, Bool.and_eq_true] at hc
    exact ⟨hf.eval (c := u.1) (v := u.2) h.1 hc.1, ih vs h.2 hc.2⟩
 exact this _ _ (evs_map hvs) hc
/-- a function's value, with what it has captured -/
theorem Goes.value {f : FuncId} {x : Operand} {xs : Array Operand} {ts : Array TypeId} {cvs : List (Bool × Value)} {cap : Array Value} (hop : o.op = .call { callee := .value x, args := xs, argTypes := ts })
    (hx : ev σ x = some (true, .func (.func f) #[] cap)) (hcal : CalleeOk P f) (hvs : evs σ xs.toList = some cvs) (hc : cvs.all (·.1) = true := by first | exact rfl | simp_all) : Goes P n o σ f (cvs.map (·.2) ++ cap.toList) := by
  intro a hf w
  have h1 := args_of hvs hc hf
  have h2 := hf.eval hx rfl
  simp only [execOp, hop, resolve, h2, Deferred.ofValue, h1, Sem.run_bind, Sem.run_pure, Result.andThen_ok, invoke]
  rw [run_callFunc hcal]
  have : (#[] ++ (cvs.map (·.2)).toArray ++ cap : Array Value) = (cvs.map (·.2) ++ cap.toList).toArray := by apply Array.ext'; simp
  rw [this]
/-- a method of an interface's value -/
theorem Goes.invoke {f : FuncId} {t : TypeId} {v r : Value} {name : String} {x : Operand} {xs : Array Operand} {ts : Array TypeId} {cvs : List (Bool × Value)} (hop : o.op = .call { callee := .invoke x name, args := xs, argTypes := ts })
    (hx : ev σ x = some (true, .iface t v)) (hm : ∀ w, (method (P.types.size + Made.depth) t v name).run P w = .ok (f, r) w) (hcal : CalleeOk P f) (hvs : evs σ xs.toList = some cvs) (hc : cvs.all (·.1) = true := by first | exact rfl | simp_all) : Goes P n o σ f (r :: cvs.map (·.2)) := by
  intro a hf w
  have h1 := args_of hvs hc hf
  have h2 := hf.eval hx rfl
  have eA : #[Value.iface t v] ++ xs.map a.eval = (Value.iface t v :: cvs.map (·.2)).toArray := by rw [h1]; apply Array.ext'; simp
  have e0 : (#[Value.iface t v] ++ xs.map a.eval)[0]? = some (.iface t v) := by rw [eA]; rfl
  have e1 : (#[Value.iface t v] ++ xs.map a.eval).extract 1 (#[Value.iface t v] ++ xs.map a.eval).size = (cvs.map (·.2)).toArray := by
    rw [eA]; apply Array.ext'; simp
    exact List.take_of_length_le (by simp)
  simp only [execOp, hop, resolve, h2, Sem.run_bind, Sem.run_pure, Result.andThen_ok, Go.invoke, e0, e1, callMethod, run_program, hm w]
  rw [run_callFunc hcal]
  have : (#[r] ++ (cvs.map (·.2)).toArray : Array Value) = (r :: cvs.map (·.2)).toArray := by apply Array.ext'; simp
  rw [this]
theorem method_of {t : TypeId} {name : String} {f : FuncId} (h : ((P.info? t).bind fun i => (i.methods.find? (·.name == name)).map fun m => (m.path.size, m.func)) = some (0, some (f, true))) :
  ∃ i m, P.info? t = some i ∧ i.methods.find? (·.name == name) = some m ∧ m.path = #[] ∧ m.func = some (f, true) := by
 obtain ⟨i, hi, h⟩ := Option.bind_eq_some_iff.1 h
 obtain ⟨m, hm, h⟩ := Option.map_eq_some_iff.1 h
 injection h with h1 h2
 exact ⟨i, m, hi, hm, Array.size_eq_zero_iff.1 h1, h2⟩
/-- a pointer's own method -/
theorem method_ptr {t e : TypeId} {v : Value} {name : String} {f : FuncId} {m : Method} {i : TypeInfo} (hi : P.info? t = some i) (hm : i.methods.find? (·.name == name) = some m) (hp : m.path = #[]) (hf : m.func = some (f, true)) (hu : P.underlying t = some (.pointer e)) :
    ∀ w, (method (P.types.size + Made.depth) t v name).run P w = .ok (f, v) w := by
  intro w
  have h0 : 0 < Made.depth := by decide
  obtain ⟨k, hk⟩ : ∃ k, P.types.size + Made.depth = k + 1 := ⟨P.types.size + Made.depth - 1, by omega⟩
  rw [hk]
  simp only [method, typeInfo, run_program, Sem.run_bind, Result.andThen_ok, hi, Sem.run_pure, hm, hp, hf, follow, receiverAt, run_underlying hu, Place.get]
theorem ET_goes {f : FuncId} {vs : List Value} {R : Value → (World → Prop) → Prop} (hg : Goes P n o σ f vs) (h : CallsT P f vs A R) : ET P n o σ A R := by
 intro a w hf hA K Q hK
 unfold Oper.wp
 rw [hg a hf w, Oper.upon_enter]
 refine (h w hA).mono fun e w' ⟨v, A', he, hR, hA'⟩ => ?_
 subst he
 exact hK v A' w' hR hA'
theorem TL_gq {f : FuncId} {vs : List Value} {d : Nat} {u : Value} {rest : List Oper} {Q : Exit → Act → World → Prop} (hd : o.dst = some d) (hn : Nat.ble (d + 1) n = true) (hg : gdc ops σ o = some g)
  (hgo : g = true → Goes P n o σ f vs) (h : g = true → CallsT P f vs A fun v A' => v = u ∧ A' = A) (k : TL P n ops Q rest ((d, g, u) :: σ) A) : TL P n ops Q (o :: rest) σ A := by
 intro a w hf hA
 have hw := wanted_of_gdc (ops := ops) hf hg
 unfold wpList
 cases g with
 | true =>
  rw [if_pos hw]
  refine .inl ?_
  unfold Oper.wp
  rw [hgo rfl a hf w, Oper.upon_enter]
  refine (h rfl w hA).mono fun e w' ⟨v, A', he, ⟨hv, hA1⟩, hA'⟩ => ?_
  subst he hv hA1
  rw [hd]
  exact k _ _ (hf.put hn rfl) hA'
 | false =>
  rw [if_neg (by simp [hw]), hd]
  exact k _ _ (hf.put hn rfl) hA
theorem TV_gq {i : Nat} {r : List (Nat × Nat)} {V V₂ : Held} {f : FuncId} {vs : List Value} {d : Nat} {u : Value} {Q : Exit → Act → World → Prop} (ho : ops[i]? = some o) (hd : o.dst = some d) (hn : Nat.ble (d + 1) n = true) (hg : gdc ops σ o = some g)
  (hgo : g = true → Goes P n o σ f vs) (h : g = true → CallsT P f vs A fun v A' => v = u ∧ A' = A) (hK : KeepTo P n ops i A V V₂) (k : TV P n ops Q r V₂ ((d, g, u) :: σ) A) : TV P n ops Q ((i, 1) :: r) V σ A := by
 intro hs hnp hcc a w V' hf hA hm
 obtain ⟨hr, hc', hrdy⟩ := chk_cons1 hcc
 have hw := wanted_of_gdc (ops := ops) hf hg
 refine ⟨fun h => (by rw [hrdy] at h; cases h), fun j hj => ?_⟩
 rw [hrdy] at hj
 obtain rfl : j = i := by simpa using hj
 unfold wpOp
 simp only [ho]
 cases g with
 | true =>
  rw [if_pos hw]
  refine .inl ?_
  unfold Oper.wp
  rw [hgo rfl a hf w, Oper.upon_enter]
  refine (h rfl w hA).mono fun e w' ⟨v, A', he, ⟨hv, hA1⟩, hA'⟩ => ?_
  subst he hv hA1
  obtain ⟨h1, h2⟩ := hm.keep hK hA'
  rw [hd, listedOf_step hr]
  exact ⟨h1, k hs hnp hc' _ w' _ (hf.put hn rfl) hA' h2⟩
 | false =>
  rw [if_neg (by simp [hw])]
  obtain ⟨h1, h2⟩ := hm.keep hK hA
  rw [hd, listedOf_step hr]
  exact ⟨h1, k hs hnp hc' _ w _ (hf.put hn rfl) hA h2⟩
/-- of a pointer's own method nothing nil stands ahead -/
theorem nilAhead_ptr {t : TypeId} {v : Value} {name : String} {f : FuncId} {m : Method} {i : TypeInfo} (hi : P.info? t = some i) (hm : i.methods.find? (·.name == name) = some m) (hp : m.path = #[]) (hf : m.func = some (f, true)) :
    ∀ w, (nilAhead (P.types.size + Made.depth) t v name).run P w = .ok (some false) w := by
  intro w
  have h0 : 0 < Made.depth := by decide
  obtain ⟨k, hk⟩ : ∃ k, P.types.size + Made.depth = k + 1 := ⟨P.types.size + Made.depth - 1, by omega⟩
  rw [hk]
  simp only [nilAhead, typeInfo, run_program, Sem.run_bind, Result.andThen_ok, hi, Sem.run_pure, hm, hp, hf, followBlind]
theorem QT_nilCheckM {x : Operand} {c : Bool} {t : TypeId} {v : Value} {name : String} {cap : Array Value} (hg : gdc ops σ o = some g) (hop : o.op = .nilCheck x) (hx : ev σ x = some (c, .func (.method name) #[.iface t v] cap))
  (hm : ∀ w, (nilAhead (P.types.size + Made.depth) t v name).run P w = .ok (some false) w)
  (hc : g = true → c = true := by first | exact fun _ => rfl | exact id | (intro h; first | grind | simp_all)) : QT P n ops o σ A g (.func (.method name) #[.iface t v] cap) :=
 QT.mk hg fun a w hf _ h => by
  have e := hf.eval hx (hc h)
  have e0 : (#[Value.iface t v] : Array Value)[0]? = some (.iface t v) := rfl
  simp [execOp, hop, e, e0, run_program, hm w]
/-- the value of a function with what it has captured -/
theorem QT_makeFunc {fn : Fn} {first captured : Array Operand} {cvs cws : List (Bool × Value)} (hg : gdc ops σ o = some g) (hop : o.op = .makeFunc fn first captured) (hvs : evs σ first.toList = some cvs) (hws : evs σ captured.toList = some cws)
    (hc : g = true → cvs.all (·.1) = true ∧ cws.all (·.1) = true := by first | exact fun _ => ⟨rfl, rfl⟩ | (intro h; first | grind | simp_all)) : QT P n ops o σ A g (.func fn (cvs.map (·.2)).toArray (cws.map (·.2)).toArray) :=
  QT.mk hg fun a w hf _ h => by
    have h1 := args_of hvs (hc h).1 hf
    have h2 := args_of hws (hc h).2 hf
    simp [execOp, hop, h1, h2, Instr.makeFunc]
theorem QT_makeIface {t : TypeId} {d : TypeDesc} {x : Operand} {c : Bool} {v : Value} (hg : gdc ops σ o = some g) (hop : o.op = .makeInterface t x) (hu : P.underlying t = some d) (hd : (match d with | .interface _ => true | _ => false) = false) (hx : ev σ x = some (c, v))
  (hc : g = true → c = true := by first | exact fun _ => rfl | exact id | (intro h; first | grind | simp_all)) : QT P n ops o σ A g (.iface t v) :=
 QT.mk hg fun a w hf _ h => by
  have e := hf.eval hx (hc h)
  cases d <;> simp_all [execOp, Instr.makeInterface, run_underlying hu]
end
end Go.Gx
namespace Go.Gx
open Go Go.RowKit
/-- the wide fence, within a round or not -/
def FR (ro : Option Nat) : Fence := { Fence.wide with round := ro }
theorem callsIn_FR {ro : Option Nat} {m : Nat} {P : Program} {f : FuncId} {args : Array Value} {w : World} {R : Ending → World → Prop} (h : Calls P f args w R) : CallsIn (FR ro) m P f args w R := (callsIn_wide (n := m)).2 h
theorem rowsIn_FR {ro : Option Nat} {m : Nat} {P : Program} {row : String} {args : Array Value} {w : World} {R : Value → World → Prop} (h : Rows P row args w R) : RowsIn (FR ro) m P row args w R :=
 fun c cs _ => let ⟨v, w', r, s⟩ := h c cs; ⟨v, w', r, (stepsIn_wide (P := P)).2 s⟩
section
variable {P : Program} {n m : Nat} {ro : Option Nat} {ops : Array Oper} {o : Oper} {σ : Slots} {A : World → Prop} {Q : Exit → Act → World → Prop} {rest : List Oper}
def NoOut (Q : Exit → Act → World → Prop) : Prop := ∀ a w, ¬ Q .outgrown a w
def noDef (o : Oper) : Bool := match o.op with | .defer _ => false | _ => true
theorem noDef_ne {o : Oper} (h : noDef o = true) : ∀ c, o.op ≠ .defer c := by
 intro c e
 unfold noDef at h
 rw [e] at h
 exact Bool.noConfusion h
theorem wp_In {a : Act} {w : World} {K : Act → World → Prop} (hd : noDef o = true) (h : o.wp P a w K Q) : o.wpIn (FR ro) m P a w K Q := by
 refine ⟨fun _ _ => trivial, ?_⟩
 rw [Oper.semAt_eq _ _ _ (noDef_ne hd)]
 unfold Oper.wp at h
 generalize (execOp a.eval o).run P w = r at h
 cases r with
 | ok x w' =>
  cases x <;> first | exact h | exact h.elim | exact ⟨(fun hx => Bool.noConfusion hx), callsIn_FR h⟩ | exact ⟨(fun hx => Bool.noConfusion hx), rowsIn_FR h⟩
 | halt x w' => cases x <;> first | exact h | exact h.elim
theorem wpList_In (hn : NoOut Q) : ∀ {l : List Oper} {a : Act} {w : World}, l.all noDef = true → wpList P ops Q l a w → wpListIn (FR ro) m P ops Q l a w
  | [], _, _, _, h => h
  | o :: rest, a, w, hd, h => by
    simp only [List.all_cons, Bool.and_eq_true] at hd
    unfold wpList at h
    unfold wpListIn
    split
    · rename_i hw
      rw [if_pos hw] at h
      rcases h with h | ⟨_, a1, w1, h1⟩
      · exact Oper.wpIn_mono (fun a w h => wpList_In hn hd.2 h) (wp_In hd.1 h)
      · exact absurd h1 (hn a1 w1)
    · rename_i hw
      rw [if_neg hw] at h
      exact ⟨fun _ _ => trivial, wpList_In hn hd.2 h⟩
end
end Go.Gx
namespace Go.Gx
open Go Go.RowKit
section
variable {P : Program} {n m : Nat} {ro : Option Nat} {ops : Array Oper} {o : Oper} {σ : Slots} {A : World → Prop} {Q : Exit → Act → World → Prop} {rest : List Oper}
def TCI (P : Program) (n : Nat) (ro : Option Nat) (m : Nat) (c : Code) (Q : Exit → Act → World → Prop) (σ : Slots) (A : World → Prop) : Prop := NoOut Q → ∀ a w, Fr n σ a → A w → c.wpIn (FR ro) m P Q a w
def GoOn (P : Program) (ro : Option Nat) (m : Nat) (y : Code) (Q : Exit → Act → World → Prop) (a : Act) (w : World) : Prop := NoOut Q → y.wpIn (FR ro) m P Q a w
theorem TCI_seq {x y : Code} (k : TCI P n ro m x (Exit.then (GoOn P ro m y Q) Q) σ A) : TCI P n ro m (.seq x y) Q σ A := fun hn a w hf hA =>
 wpIn_seq (wpIn_mono (k (fun a w h => hn a w h) a w hf hA) fun e a w h => by cases e <;> first | exact h hn | exact h)
theorem TXI_then {y : Code} {Q' : Exit → Act → World → Prop} (k : TCI P n ro m y Q σ A) : TX n (Exit.then (GoOn P ro m y Q) Q') .normal σ A := fun a w hf hA hn => k hn a w hf hA
theorem TCI_skip (k : TX n Q .normal σ A) : TCI P n ro m .skip Q σ A := fun _ a w hf hA => wpIn_skip (k a w hf hA)
theorem TCI_exit {id : Nat} (k : TX n Q (.exit id) σ A) : TCI P n ro m (.exit id) Q σ A := fun _ a w hf hA => wpIn_exit (k a w hf hA)
theorem TCI_block {id : Nat} {c : Code} (k : TCI P n ro m c (Exit.inBlock id Q) σ A) : TCI P n ro m (.block id c) Q σ A := fun hn a w hf hA => wpIn_block (k (fun a w h => hn a w h) a w hf hA)
theorem TCI_cond {c : Operand} {x y : Code} {b : Bool} (hc : ev σ c = some (true, .bool b)) (h1 : b = true → TCI P n ro m x Q σ A) (h2 : b = false → TCI P n ro m y Q σ A) : TCI P n ro m (.cond c x y) Q σ A := by
 intro hn a w hf hA
 refine wpIn_cond (hf.eval hc rfl) ?_
 cases b with
 | true => exact h1 rfl hn a w hf hA
 | false => exact h2 rfl hn a w hf hA
theorem TCI_cond_dec {c : Operand} {x y : Code} {p : Prop} [Decidable p] (hc : ev σ c = some (true, .bool (decide p))) (h1 : p → TCI P n ro m x Q σ A) (h2 : ¬p → TCI P n ro m y Q σ A) : TCI P n ro m (.cond c x y) Q σ A :=
 TCI_cond hc (fun h => h1 (of_decide_eq_true h)) (fun h => h2 (of_decide_eq_false h))
theorem TCI_A {c : Code} (A' : World → Prop) (hA : ∀ w, A w → A' w) (k : TCI P n ro m c Q σ A') : TCI P n ro m c Q σ A := fun hn a w hf h => k hn a w hf (hA w h)
theorem TCI_reg {id : Nat} {l : List Oper} (k : TL P n l.toArray Q l σ A) (hd : l.all noDef = true := by rfl) : TCI P n ro m (.region id l.toArray false) Q σ A := fun hn a w hf hA => wpIn_region_lit (wpList_In hn hd (k a w hf hA))
theorem TCI_loop {γ : Type} {c : Code} (σ' : γ → Slots) (A' : γ → World → Prop) (μ : γ → Nat) (t0 : γ) (hs : Sub (σ' t0) σ) (hA : ∀ w, A w → A' t0 w)
    (round : ∀ t, TCI P n ro m c (Exit.then (Next n σ' A' μ (μ t)) Q) (σ' t) (A' t)) : TCI P n ro m (.loop c) Q σ A := by
  intro hn a w hf h b k cs hro hb hr
  have key : ∀ (j : Nat) (t : γ), μ t = j → ∀ a w, Fr n (σ' t) a → A' t w →
      ∃ e a' w', Q e a' w' ∧ ArrivesIn (Machine.fenced P (FR ro)) P (lone (b.atR a (.code c :: .inLoop c :: k)) cs w) b k cs e a' w' := by
    intro j
    induction j using Nat.strongRecOn with
    | _ j ih =>
      intro t hm a w hf h
      obtain ⟨e, a₁, w₁, hq, harr⟩ := round t (fun a w h => hn a w h) a w hf h b (.inLoop c :: k) cs hro hb hr
      cases e with
      | normal =>
        obtain ⟨t', hlt, hf', h'⟩ := hq
        obtain ⟨e₂, a₂, w₂, hq₂, harr₂⟩ := ih (μ t') (hm ▸ hlt) t' rfl a₁ w₁ hf' h'
        exact ⟨e₂, a₂, w₂, hq₂, .of_steps (StepsIn.trans harr (.one (fenced_calm hb hr rfl) stepR_inLoop)) harr₂⟩
      | exit id => exact ⟨_, a₁, w₁, hq, .pass (x := .inLoop c) rfl (fun _ _ => .inl (by simp)) harr⟩
      | goto l => exact ⟨_, a₁, w₁, hq, .pass (x := .inLoop c) rfl (fun _ _ => .inl (by simp)) harr⟩
      | ret => exact ⟨_, a₁, w₁, hq, .pass (x := .inLoop c) rfl (fun _ _ => .inl (by simp)) harr⟩
      | panic ch => exact ⟨_, a₁, w₁, hq, .pass (x := .inLoop c) rfl (fun _ _ => .inl (by simp)) harr⟩
      | outgrown => exact ⟨_, a₁, w₁, hq, .pass (x := .inLoop c) rfl (fun _ _ => .inl (by simp)) harr⟩
  obtain ⟨e, a', w', hq, harr⟩ := key _ t0 rfl a w (hf.weaken hs.spec) (hA w h)
  exact ⟨e, a', w', hq, .of_steps (.one (fenced_calm hb hr rfl) stepR_loop) harr⟩
theorem wpOps_In (hn : NoOut Q) (hd : ops.all noDef = true) : ∀ {l : List Nat} {a : Act} {w : World}, wpOps P ops Q l a w → wpOpsIn (FR ro) m P ops Q l a w
  | [], _, _, h => h
  | i :: rest, a, w, h => by
    unfold wpOps at h
    unfold wpOpsIn
    cases ho : ops[i]? with
    | none => rw [ho] at h; exact wpOps_In hn hd h
    | some o =>
      rw [ho] at h
      simp only at h ⊢
      have hdo : noDef o = true := by
        obtain ⟨hi, he⟩ := Array.getElem?_eq_some_iff.1 ho
        exact he ▸ (Array.all_eq_true.1 hd i hi)
      split
      · rename_i hw
        rw [if_pos hw] at h
        rcases h with h | ⟨_, a1, w1, h1⟩
        · exact Oper.wpIn_mono (fun a w h => wpOps_In hn hd h) (wp_In hdo h)
        · exact absurd h1 (hn a1 w1)
      · rename_i hw
        rw [if_neg hw] at h
        exact ⟨fun _ _ => trivial, wpOps_In hn hd h⟩
theorem TCI_draw {id : Nat} {l : List Oper} (ord : List (Nat × Nat)) (hm : P.follows .mixedOrders = true) (h0 : chk0 l.toArray ord = true) (hA : Calm A)
    (k : TV P n l.toArray (noPanic Q) ord [] σ A) (hd : l.all noDef = true := by rfl) : TCI P n ro m (.region id l.toArray true) Q σ A := by
  intro hn a w hf h
  simp only [chk0, Bool.and_eq_true, beq_iff_eq] at h0
  obtain ⟨⟨⟨hs, hlen⟩, hall⟩, hc⟩ := h0
  have hl : Array.replicate l.toArray.size false = listedOf l.toArray.size ord := by
    apply Array.ext'
    simp only [listedOf, Array.toList_replicate]
    apply List.ext_getElem?
    intro j
    rw [List.getElem?_map, List.getElem?_replicate]
    by_cases hj : j < l.toArray.size
    · have := List.all_eq_true.1 hall j (List.mem_range.2 hj)
      rw [if_pos hj, List.getElem?_range hj]
      simp [this]
    · rw [if_neg hj, List.getElem?_eq_none (by simpa using hj)]
      rfl
  have hk := k hs (fun c a w h => h) hc a w.drew [] hf (hA w h) rfl
  refine wpIn_mono (wpIn_region_draw (Q := noPanic Q) fun t => wpOps_In (Q := noPanic Q) (ops := l.toArray) (fun a w h => hn a w h) (by rw [← Array.all_toList]; exact hd) ?_) (fun e a w h => by cases e <;> first | exact h | exact h.elim)
  simp only [Region.schedule, hm, Bool.true_or, if_true]
  refine wpAny_sound l.toArray.size t _ a _ (wpAny_of_V _ [] _ _ _ ?_)
  rw [hl, ← hlen]
  rw [← hlen] at hk
  exact hk
/-! regions in which yield is called -/
def TLI (P : Program) (n m : Nat) (ops : Array Oper) (Q : Exit → Act → World → Prop) (rest : List Oper) (σ : Slots) (A : World → Prop) : Prop := ∀ a w, Fr n σ a → A w → wpListIn (FR none) m P ops Q rest a w
theorem TLI_nil (k : TX n Q .normal σ A) : TLI P n m ops Q [] σ A := fun a w hf hA => k a w hf hA
theorem TLI_q {d : Nat} {g : Bool} {v : Value} (hd : o.dst = some d) (hn : Nat.ble (d + 1) n = true) (hq : QT P n ops o σ A g v) (k : TLI P n m ops Q rest ((d, g, v) :: σ) A) : TLI P n m ops Q (o :: rest) σ A := by
 intro a w hf hA
 obtain ⟨hw, hr⟩ := hq a w hf hA
 unfold wpListIn
 cases g with
 | true =>
  rw [if_pos hw]
  refine ⟨fun _ _ => trivial, ?_⟩
  show Oper.uponIn _ _ _ _ _ _ _ ((execOp a.eval o).run P w)
  rw [hr rfl, Oper.uponIn_value, hd]
  exact k _ _ (hf.put hn rfl) hA
 | false =>
  rw [if_neg (by simp [hw]), hd]
  exact ⟨fun _ _ => trivial, k _ _ (hf.put hn rfl) hA⟩
theorem TLI_yield {A' : World → Prop} {d l : Nat} {x y : Operand} {u : Value} {ts : Array TypeId} (hd : o.dst = some d) (hn : Nat.ble (d + 1) n = true) (hg : gdc ops σ o = some true) (hop : o.op = .call { callee := .value x, args := #[y], argTypes := ts })
  (hx : ev σ x = some (true, .func (.yield l) #[] #[])) (hy : ev σ y = some (true, u))
  (hr : ∀ W, A W → ∃ fn tmps assign body, (Instr.yield l #[u]).run P W = .ok (.round l fn tmps assign body) W ∧ ∀ m', RoundIn (FR none) m' P l fn tmps assign body W fun e W' => e = .returned (.bool true) ∧ A' W')
  (k : TLI P n m ops Q rest ((d, true, .bool true) :: σ) A') : TLI P n m ops Q (o :: rest) σ A := by
 intro a w hf hA
 have hw := wanted_of_gdc (ops := ops) hf hg
 obtain ⟨fn, tmps, assign, body, h1, h2⟩ := hr w hA
 unfold wpListIn
 rw [if_pos hw]
 refine ⟨fun _ _ => trivial, ?_⟩
 show Oper.uponIn _ _ _ _ _ _ _ ((execOp a.eval o).run P w)
 have e1 := hf.eval hx rfl
 have e2 := hf.eval hy rfl
 have e3 : (execOp a.eval o).run P w = .ok (.round l fn tmps assign body) w := by
  simp only [execOp, hop, resolve, e1, Deferred.ofValue, Sem.run_bind, Sem.run_pure, Result.andThen_ok, invoke]
  simpa [e2] using h1
 rw [e3, Oper.uponIn_round]
 refine ⟨fun hx => Bool.noConfusion hx, (h2 _).mono ?_⟩
 rintro e W' ⟨rfl, hA'⟩
 simp only [hd]
 exact k _ _ (hf.put hn rfl) hA'
theorem TCI_regI {id : Nat} {l : List Oper} (k : TLI P n m l.toArray Q l σ A) : TCI P n none m (.region id l.toArray false) Q σ A := fun _ a w hf hA => wpIn_region_lit (k a w hf hA)
end
end Go.Gx
namespace Go.Gx
open Go Go.RowKit
/-- while a loop runs: what lay below the call's beginning, and the loop's own two objects, are kept; all else may be written -/
def loopBase (w0 : Base) (w : World) (o : Obj) : Base := { w := (w.alloc (.deferred (some []))).alloc o, hole := fun k => !(k == w.heap.size) && !(k == w.heap.size + 1) && (w0.hole k || decide (w0.w.heap.size ≤ k)) }
structure Under (w0 B : Base) : Prop where
 back : ∀ {η : Heap} {w : World}, St B η w → St w0 η w
 cell : ∀ {a : Addr} {v : Value}, w0.cell? a = some v → B.cell? a = some v
section
variable {w0 : Base} {η : Heap} {w : World} {o o' : Obj}
theorem loopBase_size : (loopBase w0 w o).w.heap.size = w.heap.size + 2 := by simp [loopBase]
theorem loopBase_old {k : Nat} (h : k < w.heap.size) : (loopBase w0 w o).w.heap[k]? = w.heap[k]? := by
 show ((w.alloc (.deferred (some []))).alloc o).heap[k]? = _
 rw [Below.heap_alloc _ _ _ (by simp; omega), Below.heap_alloc _ _ _ h]
theorem loopBase_D : (loopBase w0 w o).w.heap[w.heap.size]? = some (.deferred (some [])) := by
 show ((w.alloc (.deferred (some []))).alloc o).heap[w.heap.size]? = _
 rw [Below.heap_alloc _ _ _ (by simp)]
 exact World.alloc_heap_new w _
theorem loopBase_l : (loopBase w0 w o).w.heap[w.heap.size + 1]? = some o := by
 have := World.alloc_heap_new (w.alloc (.deferred (some []))) o
 rwa [World.size_alloc] at this
theorem loopBase_st (h : St w0 η w) : St (loopBase w0 w o) η ((w.alloc (.deferred (some []))).alloc o) := by
  refine ⟨⟨rfl, rfl, rfl, Nat.le_refl _, fun _ _ _ => rfl⟩, fun x hx => ?_, fun x hx => .inr ?_, h.nodup⟩
  · have := loopBase_old (w0 := w0) (o := o) (h.lt hx)
    exact this.trans (h.blk x hx)
  · have hl := h.lt hx
    have ho := h.own x hx
    simp only [loopBase, Bool.and_eq_true, Bool.not_eq_true', beq_eq_false_iff_ne, Bool.or_eq_true, decide_eq_true_eq]
    exact ⟨⟨by omega, by omega⟩, ho.symm⟩
theorem loopBase_under (h : St w0 η w) : Under w0 (loopBase w0 w o) := by
  have hs := h.below.size
  have hh : ∀ k, k < w0.w.heap.size → w0.hole k = false → (loopBase w0 w o).hole k = false := fun k hk hk0 => by
    simp only [loopBase, hk0, Bool.false_or]
    rw [show decide (w0.w.heap.size ≤ k) = false by simpa using hk, Bool.and_false]
  constructor
  · intro η' w' hw
    have hsz := hw.below.size
    rw [loopBase_size] at hsz
    refine ⟨⟨hw.below.os.trans h.below.os, hw.below.tape.trans h.below.tape, hw.below.output.trans h.below.output, by omega, fun k hk hk0 => ?_⟩, hw.blk, fun x hx => ?_, hw.nodup⟩
    · exact (hw.below.block k (by rw [loopBase_size]; omega) (hh k hk hk0)).trans ((loopBase_old (by omega)).trans (h.below.block k hk hk0))
    · rcases hw.own x hx with h1 | h1
      · rw [loopBase_size] at h1; exact .inl (by omega)
      · simp only [loopBase, Bool.and_eq_true, Bool.or_eq_true, decide_eq_true_eq] at h1
        exact h1.2.symm
  · intro a v ha
    unfold Base.cell? at ha ⊢
    cases hk : w0.hole a.block with
    | true => simp [hk] at ha
    | false =>
      simp only [hk, cond_false] at ha
      have hlt := block_lt_of_cell ha
      rw [hh _ hlt hk, cond_false, ← ha]
      exact World.cell?_of_block (w := w0.w) ((loopBase_old (by omega)).trans (h.below.block _ hlt hk))
theorem loopBase_at {W : World} (h : St (loopBase w0 w o) η W) : W.heap[w.heap.size + 1]? = some o ∧ W.heap[w.heap.size]? = some (.deferred (some [])) := by
 constructor
 · exact (h.below.block _ (by rw [loopBase_size]; omega) (by simp [loopBase])).trans loopBase_l
 · exact (h.below.block _ (by rw [loopBase_size]; omega) (by simp [loopBase])).trans loopBase_D
theorem loopBase_put {W : World} (h : St (loopBase w0 w o) η W) : St (loopBase w0 w o') η (W.putObj (w.heap.size + 1) o') := by
  have hsz := h.below.size
  rw [loopBase_size] at hsz
  have hne : ∀ x ∈ η, x.1 ≠ w.heap.size + 1 := fun x hx e => by
    rcases h.own x hx with h1 | h1
    · rw [loopBase_size] at h1; omega
    · simp only [loopBase, Bool.and_eq_true, Bool.not_eq_true', beq_eq_false_iff_ne] at h1
      exact h1.1.2 e
  refine ⟨⟨h.below.os, h.below.tape, h.below.output, by rw [loopBase_size]; simp [World.putObj]; omega, fun k hk hh => ?_⟩, fun x hx => (World.putObj_heap_other (hne x hx)).trans (h.blk x hx), fun x hx => ?_, h.nodup⟩
  · rw [loopBase_size] at hk
    by_cases e : k = w.heap.size + 1
    · subst e
      exact (World.putObj_heap_same (by omega)).trans loopBase_l.symm
    · refine (World.putObj_heap_other e).trans ((h.below.block k (by rw [loopBase_size]; omega) hh).trans ?_)
      by_cases e2 : k = w.heap.size
      · subst e2; exact loopBase_D.trans loopBase_D.symm
      · exact (loopBase_old (by omega)).trans (loopBase_old (by omega)).symm
  · rcases h.own x hx with h1 | h1
    · rw [loopBase_size] at h1; exact .inl (by rw [loopBase_size]; omega)
    · exact .inr h1
theorem St.putDef {D : Nat} {x y : Option (List Deferred)} (h : St w0 η w) (hD : w.heap[D]? = some (.deferred x)) (h0 : w0.w.heap.size ≤ D) : St w0 η (w.putObj D (.deferred y)) := by
 refine ⟨⟨h.below.os, h.below.tape, h.below.output, by have := h.below.size; simp [World.putObj]; omega, fun k hk hh => (World.putObj_heap_other (by omega)).trans (h.below.block k hk hh)⟩, fun z hz => (World.putObj_heap_other ?_).trans (h.blk z hz), h.own, h.nodup⟩
 intro e
 have := h.blk z hz
 rw [e, hD] at this
 exact absurd this (by simp)
end
section
variable {P : Program} {n m : Nat} {ops : Array Oper} {o : Oper} {σ : Slots} {A : World → Prop} {Q : Exit → Act → World → Prop} {rest : List Oper}
/-- a round's end -/
def RQ (X : World → Prop) : Exit → Act → World → Prop := fun e _ w => e = .normal ∧ X w
theorem RQ_out (X : World → Prop) : NoOut (RQ X) := fun _ _ h => Exit.noConfusion h.1
theorem TX_RQ {X : World → Prop} (h : ∀ w, A w → X w) : TX n (RQ X) .normal σ A := fun _ w _ hA => ⟨rfl, h w hA⟩
def AQ (n : Nat) (σ' : Slots) (X : World → Prop) : Exit → Act → World → Prop := Exit.then (fun a w => Fr n σ' a ∧ X w) (fun _ _ _ => False)
theorem AQ_out (σ' : Slots) (X : World → Prop) : NoOut (AQ n σ' X) := fun _ _ h => h
theorem TX_AQ {σ' : Slots} {X : World → Prop} (hs : Sub σ' σ) (h : ∀ w, A w → X w) : TX n (AQ n σ' X) .normal σ A := fun _ w hf hA => ⟨hf.weaken hs.spec, h w hA⟩
/-- an iterator's contract: N rounds, each handed its value -/
def IterOk (P : Program) (gf : FuncId) (lb : Array Value) (N : Nat) (cv : Nat → Value) (l : Nat) (X : Nat → World → Prop) : Prop :=
 ∀ w, X 0 w → (∀ k W, k < N → X k W → ∃ fn tmps assign body, (Instr.yield l #[cv k]).run P W = .ok (.round l fn tmps assign body) W ∧ ∀ m', RoundIn (FR none) m' P l fn tmps assign body W fun e W' => e = .returned (.bool true) ∧ X (k + 1) W') →
  ∀ m', CallsIn (FR none) m' P gf (#[.func (.yield l) #[] #[]] ++ lb) w fun e W' => (∃ v, e = .returned v) ∧ X N W'
/-- known slots where a mark stands among the deferred calls -/
def TXD (n : Nat) (Q : Exit → Act → World → Prop) (e : Exit) (σ : Slots) (A : World → Prop) (ds : List Deferred) : Prop := ∀ a w, Fr n σ { a with defers := [] } → a.defers = ds → A w → Q e a w
def TCD (P : Program) (n : Nat) (c : Code) (Q : Exit → Act → World → Prop) (σ : Slots) (A : World → Prop) (ds : List Deferred) : Prop := ∀ a w, Fr n σ { a with defers := [] } → a.defers = ds → A w → c.wp P Q a w
def TLD (P : Program) (n : Nat) (ops : Array Oper) (Q : Exit → Act → World → Prop) (rest : List Oper) (σ : Slots) (A : World → Prop) (ds : List Deferred) : Prop := ∀ a w, Fr n σ { a with defers := [] } → a.defers = ds → A w → wpList P ops Q rest a w
variable {ds : List Deferred}
theorem TXD_block {id : Nat} (k : TXD n Q .normal σ A ds) : TXD n (Exit.inBlock id Q) .normal σ A ds := fun a w hf hd hA => k a w hf hd hA
theorem TXD_then {y : Code} {Q' : Exit → Act → World → Prop} (k : TCD P n y Q σ A ds) : TXD n (Exit.then (y.wp P Q) Q') .normal σ A ds := fun a w hf hd hA => k a w hf hd hA
theorem TCD_seq {x y : Code} (k : TCD P n x (Exit.then (y.wp P Q) Q) σ A ds) : TCD P n (.seq x y) Q σ A ds := fun a w hf hd hA => wp_seq (k a w hf hd hA)
theorem TCD_reg {id : Nat} {l : List Oper} (k : TLD P n l.toArray Q l σ A ds) : TCD P n (.region id l.toArray false) Q σ A ds := fun a w hf hd hA => wp_region_lit (k a w hf hd hA)
theorem TCD_ret (k : TXD n Q .ret σ A ds) : TCD P n .ret Q σ A ds := fun a w hf hd hA => wp_ret (k a w hf hd hA)
theorem TLD_nil (k : TXD n Q .normal σ A ds) : TLD P n ops Q [] σ A ds := fun a w hf hd hA => k a w hf hd hA
theorem TLD_q {d : Nat} {g : Bool} {v : Value} (hd : o.dst = some d) (hn : Nat.ble (d + 1) n = true) (hq : QT P n ops o σ A g v) (k : TLD P n ops Q rest ((d, g, v) :: σ) A ds) : TLD P n ops Q (o :: rest) σ A ds := by
 intro a w hf hds hA
 obtain ⟨hw, hr⟩ := hq _ w hf hA
 unfold wpList
 cases g with
 | true =>
  rw [if_pos hw]
  refine .inl ?_
  unfold Oper.wp
  have hr' : (execOp a.eval o).run P w = .ok (.value v) w := hr rfl
  rw [hr', Oper.upon_value, hd]
  exact k _ _ (hf.put hn rfl) hds hA
 | false =>
  rw [if_neg (by simp [show Region.wanted o (yielded ops a.tmps) = false from hw]), hd]
  exact k _ _ (hf.put hn rfl) hds hA
theorem QT_under {A' : World → Prop} {g : Bool} {v : Value} (h : QT P n ops o σ A' g v) (hs : ∀ w, A w → A' w) : QT P n ops o σ A g v := fun a w hf hA => h a w hf (hs w hA)
/-- a function's end, a mark or none -/
theorem TX_retM {e : Exit} {fn : Func} {R : Value → (World → Prop) → Prop} {v : Value} (hk : e = .ret ∨ e = .normal) (hres : ∀ a w, Fr n σ a → A w → (results fn a.tmps).run P w = .ok v w) (hR : ∃ A', R v A' ∧ ∀ w, A w → A' w) :
    TX n (bodyPostM Fence.wide m P fn fun e w' => ∃ v A', e = .returned v ∧ R v A' ∧ A' w') e σ A := by
  intro a w hf hA
  obtain ⟨A', h1, h2⟩ := hR
  rcases hk with rfl | rfl
  · show LeavesInM _ _ _ _ _ _ a.defers _ _
    rw [hf.defers]
    exact ⟨v, hres a w hf hA, v, A', rfl, h1, h2 w hA⟩
  · show LeavesInM _ _ _ _ _ _ a.defers _ _
    rw [hf.defers]
    exact ⟨v, hres a w hf hA, v, A', rfl, h1, h2 w hA⟩
theorem TXD_ret {w0 : Base} {η : Heap} {D : Nat} {fn : Func} {R : Value → (World → Prop) → Prop} {v : Value} (hres : ∀ a w, Fr n σ a → (results fn a.tmps).run P w = .ok v w) (hR : R v (St w0 η)) :
  TXD n (bodyPostM Fence.wide m P fn fun e w' => ∃ v A', e = .returned v ∧ R v A' ∧ A' w') .ret σ (fun w => St w0 η w ∧ w.heap[D]? = some (.deferred (some [])) ∧ w0.w.heap.size ≤ D) [{ target := .collected D, args := #[] }] := by
 intro a w hf hds hA
 show LeavesInM _ _ _ _ _ _ a.defers _ _
 rw [hds]
 refine ⟨by simp, .inl ⟨D, _, rfl, run_takeDeferred hA.2.1, ?_⟩⟩
 exact ⟨v, hres { a with defers := [] } _ hf, v, St w0 η, rfl, hR, hA.1.putDef hA.2.1 hA.2.2⟩
theorem CallsT.bodyM {f : FuncId} {fn : Func} {c : Code} {vs : List Value} {R : Value → (World → Prop) → Prop} (hf : P.funcs[f]? = some fn) (hb : fn.body = some c) (hn : Nat.ble vs.length fn.ntmps = true)
    (k : TC P fn.ntmps c (bodyPostM Fence.wide 0 P fn fun e w' => ∃ v A', e = .returned v ∧ R v A' ∧ A' w') (slotsOf vs 0) A) : CallsT P f vs A R := by
  intro w hA
  refine (callsIn_wide (n := 0)).1 (callsIn_of_wp_marks hf hb trivial (wpIn_wide.2 (k _ w ⟨?_, rfl, fun t c v h => ?_⟩ hA)))
  · have := Nat.le_of_ble_eq_true hn
    simp; omega
  · obtain ⟨rfl, _, h3⟩ := look_slotsOf vs 0 t c v h
    simp only [Nat.sub_zero] at h3
    have hlt : t < vs.length := (List.getElem?_eq_some_iff.1 h3).1
    simp only [Array.getD_eq_getD_getElem?, cond_true]
    rw [Array.getElem?_append_left (by simpa using hlt)]
    simp [h3]
/-- 'for x := range f { .. }', where each round goes on -/
theorem TC_range {w0 : Base} {η0 : Heap} {g : Operand} {p : Nat} {assign body : Code} {gf : FuncId} {lb : Array Value} (N : Nat) (cv : Nat → Value) (Kx : Nat → Heap → Prop) (σr : Nat → Slots)
    (hg : ev σ g = some (true, .func (.func gf) #[] lb)) (hcal : CalleeOk P gf) (h0 : Kx 0 η0) (hp : Nat.ble (p + 1) n = true)
    (hseq : ∀ B, Under w0 B → ∀ l, IterOk P gf lb N cv l fun k w => ∃ η, Kx k η ∧ St B η w)
    (hassign : ∀ (B : Base) (l k : Nat) (η : Heap), Under w0 B → k < N → Kx k η → TCI P n (some l) m assign (AQ n (σr k) (St B η)) ((p, true, cv k) :: σ) (St B η))
    (hbody : ∀ (B : Base) (l k : Nat) (η : Heap), Under w0 B → k < N → Kx k η → TCI P n (some l) m body (RQ fun w => ∃ η', Kx (k + 1) η' ∧ St B η' w) (σr k) (St B η))
    (hdone : ∀ (D : Nat) (η : Heap), Kx N η → TXD n Q .normal σ (fun w => St w0 η w ∧ w.heap[D]? = some (.deferred (some [])) ∧ w0.w.heap.size ≤ D) [{ target := .collected D, args := #[] }]) :
    TC P n (.rangeFunc g #[p] assign body) Q σ (St w0 η0) := by
  intro a w hf hA
  refine (wpIn_wide (n := m)).1 (wpIn_rangeFunc ?_)
  intro fn _
  obtain ⟨rec, hrec⟩ : ∃ rec : LoopState → Loop, rec = fun st => { state := st, pending := none, fn, tmps := a.tmps, params := #[p], assign, body, defers := w.heap.size } := ⟨_, rfl⟩
  have hU := fun st => loopBase_under (o := .loop (rec st)) hA
  have hev := hf.eval hg rfl
  refine ⟨w.heap.size + 1, [{ target := .collected w.heap.size, args := #[] }], (w.alloc (.deferred (some []))).alloc (.loop (rec .ready)), { target := .fn (.func gf) lb, args := #[.func (.yield (w.heap.size + 1)) #[] #[]] }, (w.alloc (.deferred (some []))).alloc (.loop (rec .ready)), gf,
    #[.func (.yield (w.heap.size + 1)) #[] #[]] ++ lb, (w.alloc (.deferred (some []))).alloc (.loop (rec .ready)), ?_, ?_, fun _ _ => trivial, ?_, fun hx => Bool.noConfusion hx, ?_⟩
  · rw [hrec]; exact run_enterLoop_outer _ _ _ _ _
  · have e1 : a.eval (.const (.func (.yield (w.heap.size + 1)) #[] #[])) = .func (.yield (w.heap.size + 1)) #[] #[] := rfl
    simp [resolve, rangeCall, hev, Deferred.ofValue, e1]
  · simp only [invoke]; exact run_callFunc hcal _ _
  · refine (hseq _ (hU .ready) (w.heap.size + 1) _ ⟨η0, h0, loopBase_st hA⟩ ?_ _).mono ?_
    · rintro k W hk ⟨η, hK, hS⟩
      obtain ⟨hl, hD⟩ := loopBase_at hS
      have hy := run_yield (P := P) (args := #[cv k]) hl (by rw [hrec]; rfl)
      rw [hrec] at hy
      refine ⟨fn, _, assign, body, hy, fun m' => ?_⟩
      have hF1 : Fr n ((p, true, cv k) :: σ) { tmps := (#[p].zip #[cv k]).foldl (fun t (q : Nat × Value) => t.setIfInBounds q.1 q.2) a.tmps, defers := [] } := by
        have := hf.put (d := p) (c := true) (v := cv k) (u := cv k) hp rfl
        simpa [Act.put, hf.defers] using this
      have ha := hassign _ (w.heap.size + 1) k η (hU .ready) hk hK (AQ_out _ _) _ W hF1 hS
      refine roundIn_of_wpIn (F := FR none) trivial (wpIn_mono (n := m') (F := FR (some (w.heap.size + 1))) (Q := AQ n (σr k) (St (loopBase w0 w (.loop (rec .ready))) η)) (fun b k' cs hro hb hr => ha b k' cs hro hb (fun d hd => by cases hd)) fun e a1 w1 h1 => ?_)
      cases e with
      | normal =>
        obtain ⟨hf1, hS1⟩ := h1
        obtain ⟨hl1, _⟩ := loopBase_at hS1
        refine ⟨_, run_beginRound hl1 (by rw [hrec]), ?_⟩
        have hS2 : St (loopBase w0 w (.loop (rec .busy))) η (w1.putObj (w.heap.size + 1) (.loop (rec .busy))) := loopBase_put hS1
        have hb := hbody _ (w.heap.size + 1) k η (hU .busy) hk hK (RQ_out _) a1 _ hf1 hS2
        have he : (.loop { rec .ready with state := .busy } : Obj) = .loop (rec .busy) := by rw [hrec]
        rw [he]
        refine wpIn_mono (n := m') (F := FR (some (w.heap.size + 1))) (fun b k' cs hro hb' hr => hb b k' cs hro hb' (fun d hd => by cases hd)) fun e2 a2 w2 h2 => ?_
        obtain ⟨rfl, η', hK', hS3⟩ := h2
        obtain ⟨hl3, _⟩ := loopBase_at hS3
        refine ⟨_, _, run_endRound none hl3, rfl, η', hK', ?_⟩
        have : (.loop { rec .busy with state := if Option.isNone (none : Option Code) = true then .ready else .done, pending := none } : Obj) = .loop (rec .ready) := by rw [hrec]; rfl
        rw [this]
        exact loopBase_put hS3
      | exit id => exact h1
      | goto id => exact h1
      | ret => exact h1
      | panic c => exact h1
      | outgrown => exact h1
    · rintro e W ⟨⟨v, rfl⟩, η, hK, hS⟩
      obtain ⟨hl, hD⟩ := loopBase_at hS
      have hend : (Instr.endLoop (w.heap.size + 1)).run P W = .ok none (W.putObj (w.heap.size + 1) (.loop (rec .exhausted))) := by
        have := run_endLoop (P := P) hl (by rw [hrec]; simp)
        rw [hrec] at this ⊢
        exact this
      refine ⟨_, _, hend, ?_⟩
      have hS2 : St (loopBase w0 w (.loop (rec .exhausted))) η (W.putObj (w.heap.size + 1) (.loop (rec .exhausted))) := loopBase_put hS
      refine hdone w.heap.size η hK _ _ ?_ (by simp [hf.defers]) ⟨(hU .exhausted).back hS2, (loopBase_at hS2).2, hA.below.size⟩
      have := hf.defers
      obtain ⟨t, d⟩ := a
      simp only at this
      subst this
      exact hf
end
end Go.Gx
namespace Go.Gx
open Go Go.RowKit
structure AI where
 i : Nat
 d : Nat
 T : Nat
 z : Value
def ordA (L : List AI) : List (Nat × Nat) := L.map fun x => (x.i, 2)
def blkA (β : Nat → Nat) (x : AI) : Blk := (β x.d, x.T, x.z.cells.toList)
def slotA (β : Nat → Nat) (x : AI) : Nat × Bool × Value := (x.d, true, .pointer (some ⟨β x.d, 0, none⟩))
def chkA (ops : Array Oper) (r : List (Nat × Nat)) : Nat → List AI → Bool
  | 0, L => L.isEmpty && chk ops r
  | f + 1, L => (L.isEmpty && chk ops r) || ((Region.ready .any ops (listedOf ops.size (ordA L ++ r)) == L.map (·.i)) &&
      L.all fun x => sameB ((listedOf ops.size (ordA L ++ r)).setIfInBounds x.i true) (listedOf ops.size (ordA (L.filter fun y => !(y.d == x.d)) ++ r)) && chkA ops r f (L.filter fun y => !(y.d == x.d)))
section
variable {P : Program} {n : Nat} {ops : Array Oper} {Q : Exit → Act → World → Prop}
theorem filter_len : ∀ {L : List AI} {x : AI}, x ∈ L → (L.map (·.d)).Nodup → (L.filter fun y => !(y.d == x.d)).length + 1 = L.length ∧ L.Perm (x :: L.filter fun y => !(y.d == x.d))
  | [], _, h, _ => absurd h List.not_mem_nil
  | y :: L, x, h, hn => by
    rw [List.map_cons, List.nodup_cons] at hn
    rcases List.mem_cons.1 h with rfl | h
    · have e : (x :: L).filter (fun y => !(y.d == x.d)) = L := by
        rw [List.filter_cons]
        simp only [beq_self_eq_true, Bool.not_true, Bool.false_eq_true, if_false]
        rw [List.filter_eq_self]
        intro z hz
        have : z.d ≠ x.d := fun e => hn.1 (by rw [← e]; exact List.mem_map_of_mem hz)
        simpa using this
      rw [e]
      exact ⟨rfl, List.Perm.refl _⟩
    · have hne : y.d ≠ x.d := fun e => hn.1 (by rw [e]; exact List.mem_map_of_mem h)
      have e : (y :: L).filter (fun y => !(y.d == x.d)) = y :: L.filter (fun y => !(y.d == x.d)) := by
        rw [List.filter_cons, if_pos (by simpa using hne)]
      obtain ⟨h1, h2⟩ := filter_len h hn.2
      rw [e]
      exact ⟨by simp only [List.length_cons]; omega, (h2.cons y).trans (List.Perm.swap x y _)⟩
theorem look_A {β : Nat → Nat} {σ : Slots} {t : Nat} : ∀ {L : List AI} {c : Bool} {v : Value}, look (L.map (slotA β) ++ σ) t = some (c, v) → (∃ x ∈ L, x.d = t ∧ c = true ∧ v = .pointer (some ⟨β t, 0, none⟩)) ∨ look σ t = some (c, v)
 | [], _, _, h => .inr h
 | x :: L, c, v, h => by
  simp only [List.map_cons, List.cons_append, look, slotA] at h
  cases hb : Nat.beq x.d t with
  | true =>
   have hdt : x.d = t := Nat.eq_of_beq_eq_true hb
   simp only [hb, cond_true, Option.some.injEq, Prod.mk.injEq] at h
   obtain ⟨rfl, rfl⟩ := h
   exact .inl ⟨x, List.mem_cons_self .., hdt, rfl, by rw [hdt]⟩
  | false =>
   simp only [hb, cond_false] at h
   rcases look_A h with ⟨y, hy, h1⟩ | h1
   · exact .inl ⟨y, List.mem_cons_of_mem _ hy, h1⟩
   · exact .inr h1
theorem TV_allocs {w0 : Base} {η : Heap} {σ : Slots} {V : Held} (all : List AI) (r : List (Nat × Nat)) (hc : chkA ops r all.length all = true) (hnd : (all.map (·.d)).Nodup)
    (ho : ∀ x ∈ all, ∃ o, ops[x.i]? = some o ∧ o.dst = some x.d ∧ o.guard = none ∧ o.op = .alloc x.T ∧ ZeroOk P x.T x.z ∧ Nat.ble (x.d + 1) n = true)
    (hσ : ∀ x ∈ all, look σ x.d = none)
    (hk : ∀ x ∈ all, ∀ X : Heap, KeepTo P n ops x.i (St w0 (X ++ η)) V V)
    (k : ∀ β : Nat → Nat, TV P n ops Q r V (all.map (slotA β) ++ σ) (St w0 (all.map (blkA β) ++ η))) : TV P n ops Q (ordA all ++ r) V σ (St w0 η) := by
  intro hs hnp _ a w V' hf hA hm
  have key : ∀ (f : Nat) (L S : List AI), L.length = f → chkA ops r f L = true → (S ++ L).Perm all → ∀ (a : Act) (w : World) (V' : Pend) (β : Nat → Nat), Fr n σ a → (∀ x ∈ S, a.tmps.getD x.d undef = .pointer (some ⟨β x.d, 0, none⟩)) → St w0 (S.map (blkA β) ++ η) w → Match P n ops w V V' →
      wpAnyV P ops Q (ordA L ++ r).length V' (listedOf ops.size (ordA L ++ r)) a w := by
    intro f
    induction f with
    | zero =>
      intro L S hL hc hp a w V' β hf hsl hw hm
      obtain rfl := List.eq_nil_of_length_eq_zero hL
      rw [List.append_nil] at hp
      simp only [chkA, Bool.and_eq_true] at hc
      have hF : Fr n (all.map (slotA β) ++ σ) a := by
        refine ⟨hf.size, hf.defers, fun t c v h => ?_⟩
        rcases look_A h with ⟨x, hx, rfl, rfl, rfl⟩ | h
        · exact hsl x (hp.symm.subset hx)
        · exact hf.known t c v h
      exact k β hs hnp hc.2 a w V' hF (hw.perm ((hp.symm.map _).append_right _)) hm
    | succ f ih =>
      intro L S hL hc hp a w V' β hf hsl hw hm
      have hne : L.isEmpty = false := by cases L with | nil => simp at hL | cons _ _ => rfl
      simp only [chkA, hne, Bool.false_and, Bool.false_or, Bool.and_eq_true, beq_iff_eq, List.all_eq_true] at hc
      obtain ⟨hrdy, hall⟩ := hc
      have hLn : (L.map (·.d)).Nodup := by
        have h1 := (hp.map (·.d)).nodup_iff.2 hnd
        rw [List.map_append] at h1
        exact (List.nodup_append.1 h1).2.1
      have hlen : (ordA L ++ r).length = (ordA (L.drop 1) ++ r).length + 1 := by
        simp only [ordA, List.length_append, List.length_map, List.length_drop]; omega
      rw [hlen]
      refine ⟨fun h => ?_, fun j hj => ?_⟩
      · rw [hrdy] at h
        cases L with
        | nil => simp at hL
        | cons y L => simp at h
      · rw [hrdy] at hj
        obtain ⟨x, hx, rfl⟩ := List.mem_map.1 hj
        obtain ⟨hsame, hc'⟩ := hall x hx
        have hxa : x ∈ all := hp.subset (List.mem_append_right _ hx)
        obtain ⟨o, ho1, hd, hgd, hop, hz, hble⟩ := ho x hxa
        obtain ⟨hfl, hfp⟩ := filter_len hx hLn
        have hg : gdc ops σ o = some true := by unfold gdc; rw [hgd]
        unfold wpOp
        simp only [ho1]
        rw [if_pos (wanted_of_gdc hf hg)]
        refine .inl (ET_alloc hop hz a w hf hw _ _ fun v A' w' ⟨b, hv, hA'⟩ hw' => ?_)
        subst hv hA'
        obtain ⟨h1, h2⟩ := hm.keep (hk x hxa ((b, x.T, x.z.cells.toList) :: S.map (blkA β))) hw'
        rw [hd]
        refine ⟨h1, ?_⟩
        have hlen2 : (ordA (L.drop 1) ++ r).length = (ordA (L.filter fun y => !(y.d == x.d)) ++ r).length := by
          simp only [ordA, List.length_append, List.length_map, List.length_drop]; omega
        rw [hlen2, show (listedOf ops.size (ordA L ++ r)).setIfInBounds x.i true = listedOf ops.size (ordA (L.filter fun y => !(y.d == x.d)) ++ r) from Array.ext' (by simpa [sameB] using hsame)]
        have hxS : ∀ y ∈ S, y.d ≠ x.d := fun y hy e => by
          have h1 := (hp.map (·.d)).nodup_iff.2 hnd
          rw [List.map_append] at h1
          exact (List.nodup_append.1 h1).2.2 _ (List.mem_map_of_mem hy) _ (List.mem_map_of_mem hx) e
        refine ih (L.filter fun y => !(y.d == x.d)) (x :: S) (by omega) hc' ?_ _ w' _ (fun t => if t = x.d then b else β t) ?_ (fun y hy => ?_) ?_ h2
        · exact (List.Perm.trans (by
            have := (hfp.symm.append_left S)
            exact (List.perm_middle.symm.trans this)) hp)
        · have h3 := hf.put (d := x.d) (c := true) (v := .pointer (some ⟨b, 0, none⟩)) (u := .pointer (some ⟨b, 0, none⟩)) hble rfl
          exact h3.weaken fun t c v h => by
            have : t ≠ x.d := fun e => by rw [e, hσ x hxa] at h; cases h
            simp only [look]
            have hb : Nat.beq x.d t = false := by
              cases hb : Nat.beq x.d t with
              | true => exact absurd (Nat.eq_of_beq_eq_true hb).symm this
              | false => rfl
            rw [hb]
            exact h
        · rcases List.mem_cons.1 hy with rfl | hy
          · have h3 := (hf.put (d := y.d) (c := true) (v := .pointer (some ⟨b, 0, none⟩)) (u := .pointer (some ⟨b, 0, none⟩)) hble rfl).known y.d true (.pointer (some ⟨b, 0, none⟩)) (by simp only [look]; rw [Nat.beq_refl]; rfl)
            rw [h3]
            simp
          · have hne := hxS y hy
            have := hsl y hy
            rw [if_neg hne, ← this]
            simp [Act.put, Array.getElem?_setIfInBounds_ne (Ne.symm hne)]
        · have e : (x :: S).map (blkA fun t => if t = x.d then b else β t) = (b, x.T, x.z.cells.toList) :: S.map (blkA β) := by
            rw [List.map_cons]
            congr 1
            · simp [blkA]
            · refine List.map_congr_left fun y hy => ?_
              simp [blkA, hxS y hy]
          rw [e]
          exact hw'
  have hp : ([] ++ all).Perm all := List.Perm.refl all
  exact key all.length all [] rfl hc hp a w V' (fun _ => 0) hf (fun x hx => absurd hx List.not_mem_nil) hA hm
end
/-- the blocks behind others are still there -/
theorem Rd.deep {w0 : Base} {η η' : Heap} {sb so : Nat} {cs : List Value} (h : Rd (St w0 η) sb so cs) (hd : ∀ w, St w0 η' w → St w0 η w) : Rd (St w0 η') sb so cs := h.mono hd
end Go.Gx
namespace Go.Gx
open Go Go.RowKit
section
variable {P : Program} {n : Nat} {ops : Array Oper} {o : Oper} {σ : Slots} {A : World → Prop} {g : Bool} {v : Value} {x y z : Operand} {c c1 c2 c3 : Bool} {t t2 : TypeId} {k : IntKind} {p q : Int}
end
end Go.Gx
namespace Go.Gx
open Go Go.RowKit
/-- memory with a map beside -/
def StM (w0 : Base) (η : Heap) (r : Nat) (es : List MapEntry) (clock : Nat) (w : World) : Prop := St w0 η w ∧ w.heap[r]? = some (.map es.toArray clock) ∧ w0.w.heap.size ≤ r
theorem St.allocO {w0 : Base} {η : Heap} {w : World} (h : St w0 η w) (o : Obj) : St w0 η (w.alloc o) :=
 ⟨h.below.alloc h.below.size _, fun x hx => by rw [Below.heap_alloc w _ _ (h.lt hx)]; exact h.blk x hx, h.own, h.nodup⟩
theorem St.setMap {w0 : Base} {η : Heap} {w : World} {r clock : Nat} {es : Array MapEntry} {o' : Obj} (h : St w0 η w) (hD : w.heap[r]? = some (.map es clock)) (h0 : w0.w.heap.size ≤ r) : St w0 η { w with heap := w.heap.setIfInBounds r o' } := by
  refine ⟨⟨h.below.os, h.below.tape, h.below.output, by have := h.below.size; simpa using this, fun k hk hh => ?_⟩, fun z hz => ?_, h.own, h.nodup⟩
  · exact ((MapKept.heap_set (o' := o') hD).2 k (by omega)).trans (h.below.block k hk hh)
  · refine ((MapKept.heap_set (o' := o') hD).2 z.1 ?_).trans (h.blk z hz)
    intro e
    have := h.blk z hz
    rw [e, hD] at this
    exact absurd this (by simp)
section
variable {P : Program} {n : Nat} {ops : Array Oper} {o : Oper} {σ : Slots} {g : Bool} {v key : Value} {x y z : Operand} {c c1 c2 : Bool} {t kt et : TypeId} {d : TypeDesc}
theorem ET_makeMap {w0 : Base} {η : Heap} (hop : o.op = .makeMap t none) : ET P n o σ (St w0 η) fun r A' => ∃ m, r = .map (some m) ∧ A' = StM w0 η m [] 0 := by
 intro a w hf hA K Q hK
 unfold Oper.wp
 have : (execOp a.eval o).run P w = .ok (.value (.map (some w.heap.size))) (w.alloc (.map #[] 0)) := by
  simp [execOp, hop, Instr.makeMap]
 rw [this, Oper.upon_value]
 exact hK _ _ _ ⟨_, rfl, rfl⟩ ⟨hA.allocO _, heap_alloc_new w _, hA.below.size⟩
theorem ET_insert {w0 : Base} {η : Heap} {m clock : Nat} {es : List MapEntry} (hop : o.op = .insert t x y z) (hx : ev σ x = some (true, .map (some m))) (hy : ev σ y = some (true, key)) (hz : ev σ z = some (true, v))
  (hu : P.underlying t = some (.map kt et)) (hk : P.underlying kt = some d) (hkey : MapKept.IsKey d key) (hnew : Instr.findNow d key es 0 = some none) :
  ET P n o σ (StM w0 η m es clock) fun r A' => r = undef ∧ A' = StM w0 η m (es ++ [{ key := key, val := v, born := clock }]) (clock + 1) := by
 intro a w hf hA K Q hK
 unfold Oper.wp
 obtain ⟨h1, h2, h3⟩ := hA
 have : (execOp a.eval o).run P w = .ok .skip { w with heap := w.heap.setIfInBounds m (.map (es ++ [({ key := key, val := v, born := clock } : MapEntry)]).toArray (clock + 1)) } := by
  have e1 : (es.toArray.push ({ key := key, val := v, born := clock } : MapEntry)) = (es ++ [({ key := key, val := v, born := clock } : MapEntry)]).toArray := by simp
  simp [execOp, hop, hf.eval hx rfl, hf.eval hy rfl, hf.eval hz rfl, Instr.mapUpdate, run_underlying hu, MapKept.run_getObj_map h2, MapKept.run_checkKey (n := 9999) hk hkey, MapKept.run_findKey hk hnew, MapKept.run_setObj_map _ h2]
 rw [this, Oper.upon_skip]
 exact hK _ _ _ ⟨rfl, rfl⟩ ⟨h1.setMap h2 h3, (MapKept.heap_set h2).1, h3⟩
theorem QT_lookup {w0 : Base} {η : Heap} {m clock j : Nat} {es : List MapEntry} (hg : gdc ops σ o = some g) (hop : o.op = .lookup t x y false) (hx : ev σ x = some (c1, .map (some m))) (hy : ev σ y = some (c2, key))
  (hu : P.underlying t = some (.map kt et)) (hk : P.underlying kt = some d) (hkey : MapKept.IsKey d key) (hf : Instr.findNow d key es 0 = some (some (j, v)))
  (hc : g = true → c1 = true ∧ c2 = true := by first | exact fun _ => ⟨rfl, rfl⟩ | (intro h; first | grind | simp_all)) : QT P n ops o σ (StM w0 η m es clock) g v :=
 QT.mk hg fun a w hfr hA h => by
  simp [execOp, hop, hfr.eval hx (hc h).1, hfr.eval hy (hc h).2, Instr.lookup, run_underlying hu, MapKept.run_getObj_map hA.2.1, MapKept.run_checkKey (n := 9999) hk hkey, MapKept.run_findKey hk hf]
end
/-- a call that leaves its memory as it was, whatever stands beside, leaves a map as it was -/
theorem callsT_map {P : Program} {f : FuncId} {vs : List Value} {u : Value} {w0 : Base} {η : Heap} {m clock : Nat} {es : List MapEntry} (h : ∀ B : Base, CallsT P f vs (St B η) fun v A' => v = u ∧ A' = St B η) :
    CallsT P f vs (StM w0 η m es clock) fun v A' => v = u ∧ A' = StM w0 η m es clock := by
  rintro w ⟨hS, hm, h0⟩
  obtain ⟨B, hB⟩ : ∃ B : Base, B = ⟨w, fun k => !(k == m) && (w0.hole k || decide (w0.w.heap.size ≤ k))⟩ := ⟨_, rfl⟩
  have hBw : B.w = w := by rw [hB]
  have hBh : ∀ k, B.hole k = (!(k == m) && (w0.hole k || decide (w0.w.heap.size ≤ k))) := fun k => by rw [hB]
  have hs : St B η w := by
    refine ⟨⟨by rw [hBw], by rw [hBw], by rw [hBw], by rw [hBw]; exact Nat.le_refl _, fun k _ _ => by rw [hBw]⟩, hS.blk, fun x hx => .inr ?_, hS.nodup⟩
    have ho := hS.own x hx
    have hne : x.1 ≠ m := fun e => by
      have := hS.blk x hx
      rw [e, hm] at this
      exact absurd this (by simp)
    rw [hBh]
    simp only [Bool.and_eq_true, Bool.not_eq_true', beq_eq_false_iff_ne, Bool.or_eq_true, decide_eq_true_eq]
    exact ⟨hne, ho.symm⟩
  refine (h B w hs).mono ?_
  rintro e w' ⟨v, A', rfl, ⟨rfl, rfl⟩, hS'⟩
  have hlt : m < w.heap.size := lt_of_heap hm
  refine ⟨_, _, rfl, ⟨rfl, rfl⟩, ⟨⟨?_, ?_, ?_, ?_, ?_⟩, hS'.blk, hS.own, hS.nodup⟩, ?_, h0⟩
  · rw [hS'.below.os, hBw]; exact hS.below.os
  · rw [hS'.below.tape, hBw]; exact hS.below.tape
  · rw [hS'.below.output, hBw]; exact hS.below.output
  · have h1 := hS'.below.size
    rw [hBw] at h1
    have := hS.below.size
    omega
  · intro k hk hh
    have hz := hS.below.size
    rw [hS'.below.block k (by rw [hBw]; omega) (by rw [hBh, hh]; simp; omega), hBw]
    exact hS.below.block k hk hh
  · rw [hS'.below.block m (by rw [hBw]; exact hlt) (by rw [hBh]; simp), hBw]
    exact hm
end Go.Gx
namespace Go.Proofs.YtjdaglmkljbfkaaGreatDoor
open Go Go.Gx Go.RowKit
set_option maxRecDepth 100000
/-- the sets of numbers of bits, as the program lays them -/
def setsL : List Value := [.int .u64 4311814422, .int .u64 69910, .int .u64 276]
def setN : Nat → Int
 | 0 => 4311814422
 | 1 => 69910
 | _ => 276
def Sets (w0 : Base) : Prop := ∀ j v, setsL[j]? = some v → w0.cell? ⟨0, 0 + j, none⟩ = some v
def mayB (f : Nat) (n : Int) : Bool := ((decide (0 ≤ n) && decide (n < 64)) && decide (bitsOf .and .u64 ((setN f).fdiv (2 ^ (min n.toNat IntKind.u64.bits))) 1 = 1))
theorem may_spec (w0 : Base) (η : Heap) (hG : Sets w0) (f : Nat) (hf : f < 3) (m : Int) :
  CallsT Tryz.prog 90 [.int .i64 (f : Int), .int .i64 m] (St w0 η) fun v A' => v = .bool (mayB f m) ∧ A' = St w0 η := by
 have hR := Rd.start (η := η) (hG)
 have hS : setsL[f * 1]? = some (.int .u64 (setN f)) := by
  match f, hf with
  | 0, _ => rfl
  | 1, _ => rfl
  | 2, _ => rfl
 refine CallsT.body Tryz.func90 rfl rfl ?_
 simp only [Tryz.ntmps90, slotsOf, Nat.reduceAdd]
 refine Qe (Qg ?_)
 refine Qa rfl rfl (Qd rfl rfl rfl) ?_
 refine Qf (Qb (Qe (Qg ?_)))
 refine Qa rfl rfl (Qc rfl rfl rfl) ?_
 refine Qa rfl rfl (QT_geq rfl rfl rfl rfl) ?_
 refine Qa rfl rfl (Qc rfl rfl rfl) ?_
 refine Qa rfl rfl (Qc rfl rfl rfl) ?_
 refine Qa rfl rfl (QT_lss rfl rfl rfl rfl) ?_
 refine Qa rfl rfl (QT_and rfl rfl rfl rfl) ?_
 refine Qa rfl rfl (Qc rfl rfl rfl) ?_
 refine Qa rfl rfl (Qc rfl rfl rfl) ?_
 refine Qa rfl rfl (QT_indexArr (f) rfl rfl Tryz.underlying231 KF.sz_230 rfl rfl (rfl) (fun _ => hf)) ?_
 refine Qa rfl rfl (QT_loadR rfl rfl Tryz.underlying230 rfl hR rfl (fun _ => hS)) ?_
 refine Qa rfl rfl (Qc rfl rfl rfl) ?_
 refine Qa rfl rfl (QT_shr rfl rfl rfl rfl (fun h => by simp at h; omega)) ?_
 refine Qa rfl rfl (QT_bits rfl rfl (by decide) rfl rfl) ?_
 refine Qa rfl rfl (QT_eql rfl rfl rfl rfl) ?_
 refine Qa rfl rfl (QT_and rfl rfl rfl rfl) ?_
 refine Qa rfl rfl (Qd rfl rfl rfl) ?_
 refine Qf (Qb ?_)
 refine Qu ?_
 refine Qs (.inl rfl) (res1 rfl rfl) ⟨_, ⟨rfl, rfl⟩, fun _ h => h⟩
/-- A layout: its numbers; its ranges, whatever they are. -/
structure Lay where
 ty : Int
 co : Int
 cm : Int
 fl : Int
 cs : Int
 ro : Int
 r : Nat → Int
def Lay.cells (L : Lay) : List Value := [.int .i64 L.ty, .int .i64 L.co, .int .i64 L.cm, .int .i64 L.fl, .int .i64 L.cs, .int .i64 L.ro, .int .i32 (L.r 0), .int .i32 (L.r 1), .int .i32 (L.r 2), .int .i32 (L.r 3), .int .i32 (L.r 4), .int .i32 (L.r 5), .int .i32 (L.r 6), .int .i32 (L.r 7), .int .i32 (L.r 8), .int .i32 (L.r 9), .int .i32 (L.r 10), .int .i32 (L.r 11)]
def Lay.val (L : Lay) : Value := .agg L.cells.toArray
def base (L : Lay) : Bool := ((mayB 0 L.co && mayB 1 L.cm) && decide (1 ≤ L.cs)) && decide (L.cs ≤ 4)
def okB (L : Lay) : Bool := if L.ty = 5 then base L && decide (2 ≤ L.ro) else if L.ty = 4 ∨ L.ty = 6 ∨ L.ty = 7 then base L && mayB 2 L.fl else false
def errOf (L : Lay) : Int := if okB L = true then 0 else 4
theorem err4 {L : Lay} {b : Bool} (h : okB L = b) (h' : (!b) = true) : Value.int .i64 4 = .int .i64 (errOf L) := by
 subst h; unfold errOf; rw [if_neg (by simpa using h')]
theorem err0 {L : Lay} {b : Bool} (h : okB L = b) (h' : (!b) = false) : Value.int .i64 0 = .int .i64 (errOf L) := by
 subst h; unfold errOf; rw [if_pos (by simpa using h')]
theorem check_spec (w0 : Base) (η : Heap) (hG : Sets w0) (L : Lay) :
  CallsT Tryz.prog 26 [L.val] (St w0 η) fun v A' => v = .int .i64 (errOf L) ∧ A' = St w0 η := by
 refine CallsT.body Tryz.func26 rfl rfl ?_
 simp only [Tryz.ntmps26, slotsOf]
 refine Qe (Qg ?_)
 refine TL_e rfl rfl rfl (rfl) (ET_box rfl rfl) ?_
 rintro _ _ ⟨b1, rfl, rfl⟩
 refine Qa rfl rfl (Qd rfl rfl rfl) ?_
 refine Qf (Qb (Qe (Qg ?_)))
 refine Qa rfl rfl (Qh rfl rfl KF.fld_27_1 rfl) ?_
 refine Qa rfl rfl (Qj 0 rfl rfl Tryz.underlying3 rfl rfl rfl (fun _ => rfl)) ?_
 refine TL_cq rfl rfl rfl rfl KF.cal_90 rfl (fun _ => may_spec w0 _ hG 0 (by decide) L.co) ?_
 refine Qa rfl rfl (Qc rfl rfl rfl) ?_
 refine Qa rfl rfl (Qh rfl rfl KF.fld_27_2 rfl) ?_
 refine Qa rfl rfl (Qj 0 rfl rfl Tryz.underlying3 rfl rfl rfl (fun _ => rfl)) ?_
 refine TL_cq rfl rfl rfl rfl KF.cal_90 rfl (fun _ => may_spec w0 _ hG 1 (by decide) L.cm) ?_
 refine Qa rfl rfl (QT_and rfl rfl rfl rfl) ?_
 refine Qa rfl rfl (Qc rfl rfl rfl) ?_
 refine Qa rfl rfl (Qh rfl rfl KF.fld_27_4 rfl) ?_
 refine Qa rfl rfl (Qj 0 rfl rfl Tryz.underlying3 rfl rfl rfl (fun _ => rfl)) ?_
 refine Qa rfl rfl (QT_geq rfl rfl rfl rfl) ?_
 refine Qa rfl rfl (QT_and rfl rfl rfl rfl) ?_
 refine Qa rfl rfl (Qc rfl rfl rfl) ?_
 refine Qa rfl rfl (Qh rfl rfl KF.fld_27_4 rfl) ?_
 refine Qa rfl rfl (Qj 0 rfl rfl Tryz.underlying3 rfl rfl rfl (fun _ => rfl)) ?_
 refine Qa rfl rfl (QT_leq rfl rfl rfl rfl) ?_
 refine Qa rfl rfl (QT_and rfl rfl rfl rfl) ?_
 refine Qa rfl rfl (Qd rfl rfl rfl) ?_
 refine Qf (Qb (Qe (Qe (Qg ?_))))
 refine Qa rfl rfl (Qh rfl rfl KF.fld_27_0 rfl) ?_
 refine Qa rfl rfl (Qj 0 rfl rfl Tryz.underlying3 rfl rfl rfl (fun _ => rfl)) ?_
 refine Qf (Qb (Qr (Qe (Qg ?_))))
 refine Qa rfl rfl (QT_eql rfl rfl rfl rfl) ?_
 refine Qa rfl rfl (Qd rfl rfl rfl) ?_
 refine Qf (Qb ?_)
 refine Qm rfl (fun h24 => ?_) (fun h24 => ?_)
 ·
  refine Qg ?_
  refine Qa rfl rfl (Qc rfl rfl rfl) ?_
  refine Qa rfl rfl (Qc rfl rfl rfl) ?_
  refine Qa rfl rfl (Qh rfl rfl KF.fld_27_5 rfl) ?_
  refine Qa rfl rfl (Qj 0 rfl rfl Tryz.underlying3 rfl rfl rfl (fun _ => rfl)) ?_
  refine Qa rfl rfl (QT_geq rfl rfl rfl rfl) ?_
  refine Qa rfl rfl (QT_and rfl rfl rfl rfl) ?_
  refine Qa rfl rfl (Qd rfl rfl rfl) ?_
  refine Qf ?_
  refine Qo ?_
  refine Qb (Qe (Qe (Qg ?_)))
  refine Qa rfl rfl (Qc rfl rfl rfl) ?_
  refine Qa rfl rfl (QT_not rfl rfl rfl) ?_
  refine Qf (Qb ?_)
  refine TC_cond rfl (fun h43 => ?_) (fun h43 => ?_)
  ·
   refine Qe (Qg ?_)
   refine Qa rfl rfl (Qd rfl rfl rfl) ?_
   refine Qf (Qb ?_)
   refine Qu ?_
   refine Qn ?_
   exact Qs (.inl rfl) (res1 rfl rfl) ⟨_, ⟨by first | exact err4 (by clear h43; simp_all [okB, base]) h43 | exact err0 (by clear h43; simp_all [okB, base]) h43, rfl⟩, fun _ h => h.tail⟩
  ·
   refine Qt (Qb (Qe (Qg ?_)))
   refine Qa rfl rfl (Qd rfl rfl rfl) ?_
   refine Qf (Qb ?_)
   refine Qu ?_
   exact Qs (.inl rfl) (res1 rfl rfl) ⟨_, ⟨by first | exact err4 (by clear h43; simp_all [okB, base]) h43 | exact err0 (by clear h43; simp_all [okB, base]) h43, rfl⟩, fun _ h => h.tail⟩
 ·
  refine Qe (Qe (Qg ?_))
  refine Qa rfl rfl (QT_eql rfl rfl rfl rfl) ?_
  refine Qa rfl rfl (Qd rfl rfl rfl) ?_
  refine Qf (Qb ?_)
  refine Qm rfl (fun h32 => ?_) (fun h32 => ?_)
  ·
   refine Qt (Qb ?_)
   refine Qm rfl (fun h32 => ?_) (fun h32 => ?_)
   ·
    refine Qg ?_
    refine Qa rfl rfl (Qc rfl rfl rfl) ?_
    refine Qa rfl rfl (Qc rfl rfl rfl) ?_
    refine Qa rfl rfl (Qh rfl rfl KF.fld_27_3 rfl) ?_
    refine Qa rfl rfl (Qj 0 rfl rfl Tryz.underlying3 rfl rfl rfl (fun _ => rfl)) ?_
    refine TL_cq rfl rfl rfl rfl KF.cal_90 rfl (fun _ => may_spec w0 _ hG 2 (by decide) L.fl) ?_
    refine Qa rfl rfl (QT_and rfl rfl rfl rfl) ?_
    refine Qa rfl rfl (Qd rfl rfl rfl) ?_
    refine Qf ?_
    refine Qo ?_
    refine Qb (Qe (Qe (Qg ?_)))
    refine Qa rfl rfl (Qc rfl rfl rfl) ?_
    refine Qa rfl rfl (QT_not rfl rfl rfl) ?_
    refine Qf (Qb ?_)
    refine TC_cond rfl (fun h43 => ?_) (fun h43 => ?_)
    ·
     refine Qe (Qg ?_)
     refine Qa rfl rfl (Qd rfl rfl rfl) ?_
     refine Qf (Qb ?_)
     refine Qu ?_
     refine Qn ?_
     exact Qs (.inl rfl) (res1 rfl rfl) ⟨_, ⟨by first | exact err4 (by clear h43; simp_all [okB, base]) h43 | exact err0 (by clear h43; simp_all [okB, base]) h43, rfl⟩, fun _ h => h.tail⟩
    ·
     refine Qt (Qb (Qe (Qg ?_)))
     refine Qa rfl rfl (Qd rfl rfl rfl) ?_
     refine Qf (Qb ?_)
     refine Qu ?_
     exact Qs (.inl rfl) (res1 rfl rfl) ⟨_, ⟨by first | exact err4 (by clear h43; simp_all [okB, base]) h43 | exact err0 (by clear h43; simp_all [okB, base]) h43, rfl⟩, fun _ h => h.tail⟩
   ·
    refine Qg ?_
    refine Qa rfl rfl (Qd rfl rfl rfl) ?_
    refine Qf ?_
    refine Qo ?_
    refine Qb (Qe (Qe (Qg ?_)))
    refine Qa rfl rfl (Qc rfl rfl rfl) ?_
    refine Qa rfl rfl (QT_not rfl rfl rfl) ?_
    refine Qf (Qb ?_)
    refine TC_cond rfl (fun h43 => ?_) (fun h43 => ?_)
    ·
     refine Qe (Qg ?_)
     refine Qa rfl rfl (Qd rfl rfl rfl) ?_
     refine Qf (Qb ?_)
     refine Qu ?_
     refine Qn ?_
     exact Qs (.inl rfl) (res1 rfl rfl) ⟨_, ⟨by first | exact err4 (by clear h43; simp_all [okB, base]) h43 | exact err0 (by clear h43; simp_all [okB, base]) h43, rfl⟩, fun _ h => h.tail⟩
    ·
     refine Qt (Qb (Qe (Qg ?_)))
     refine Qa rfl rfl (Qd rfl rfl rfl) ?_
     refine Qf (Qb ?_)
     refine Qu ?_
     exact Qs (.inl rfl) (res1 rfl rfl) ⟨_, ⟨by first | exact err4 (by clear h43; simp_all [okB, base]) h43 | exact err0 (by clear h43; simp_all [okB, base]) h43, rfl⟩, fun _ h => h.tail⟩
  ·
   refine Qe (Qg ?_)
   refine Qa rfl rfl (QT_eql rfl rfl rfl rfl) ?_
   refine Qa rfl rfl (Qd rfl rfl rfl) ?_
   refine Qf (Qb ?_)
   refine Qm rfl (fun h32 => ?_) (fun h32 => ?_)
   ·
    refine Qt (Qb ?_)
    refine Qm rfl (fun h32 => ?_) (fun h32 => ?_)
    ·
     refine Qg ?_
     refine Qa rfl rfl (Qc rfl rfl rfl) ?_
     refine Qa rfl rfl (Qc rfl rfl rfl) ?_
     refine Qa rfl rfl (Qh rfl rfl KF.fld_27_3 rfl) ?_
     refine Qa rfl rfl (Qj 0 rfl rfl Tryz.underlying3 rfl rfl rfl (fun _ => rfl)) ?_
     refine TL_cq rfl rfl rfl rfl KF.cal_90 rfl (fun _ => may_spec w0 _ hG 2 (by decide) L.fl) ?_
     refine Qa rfl rfl (QT_and rfl rfl rfl rfl) ?_
     refine Qa rfl rfl (Qd rfl rfl rfl) ?_
     refine Qf ?_
     refine Qo ?_
     refine Qb (Qe (Qe (Qg ?_)))
     refine Qa rfl rfl (Qc rfl rfl rfl) ?_
     refine Qa rfl rfl (QT_not rfl rfl rfl) ?_
     refine Qf (Qb ?_)
     refine TC_cond rfl (fun h43 => ?_) (fun h43 => ?_)
     ·
      refine Qe (Qg ?_)
      refine Qa rfl rfl (Qd rfl rfl rfl) ?_
      refine Qf (Qb ?_)
      refine Qu ?_
      refine Qn ?_
      exact Qs (.inl rfl) (res1 rfl rfl) ⟨_, ⟨by first | exact err4 (by clear h43; simp_all [okB, base]) h43 | exact err0 (by clear h43; simp_all [okB, base]) h43, rfl⟩, fun _ h => h.tail⟩
     ·
      refine Qt (Qb (Qe (Qg ?_)))
      refine Qa rfl rfl (Qd rfl rfl rfl) ?_
      refine Qf (Qb ?_)
      refine Qu ?_
      exact Qs (.inl rfl) (res1 rfl rfl) ⟨_, ⟨by first | exact err4 (by clear h43; simp_all [okB, base]) h43 | exact err0 (by clear h43; simp_all [okB, base]) h43, rfl⟩, fun _ h => h.tail⟩
    ·
     refine Qg ?_
     refine Qa rfl rfl (Qd rfl rfl rfl) ?_
     refine Qf ?_
     refine Qo ?_
     refine Qb (Qe (Qe (Qg ?_)))
     refine Qa rfl rfl (Qc rfl rfl rfl) ?_
     refine Qa rfl rfl (QT_not rfl rfl rfl) ?_
     refine Qf (Qb ?_)
     refine TC_cond rfl (fun h43 => ?_) (fun h43 => ?_)
     ·
      refine Qe (Qg ?_)
      refine Qa rfl rfl (Qd rfl rfl rfl) ?_
      refine Qf (Qb ?_)
      refine Qu ?_
      refine Qn ?_
      exact Qs (.inl rfl) (res1 rfl rfl) ⟨_, ⟨by first | exact err4 (by clear h43; simp_all [okB, base]) h43 | exact err0 (by clear h43; simp_all [okB, base]) h43, rfl⟩, fun _ h => h.tail⟩
     ·
      refine Qt (Qb (Qe (Qg ?_)))
      refine Qa rfl rfl (Qd rfl rfl rfl) ?_
      refine Qf (Qb ?_)
      refine Qu ?_
      exact Qs (.inl rfl) (res1 rfl rfl) ⟨_, ⟨by first | exact err4 (by clear h43; simp_all [okB, base]) h43 | exact err0 (by clear h43; simp_all [okB, base]) h43, rfl⟩, fun _ h => h.tail⟩
   ·
    refine Qg ?_
    refine Qa rfl rfl (QT_eql rfl rfl rfl rfl) ?_
    refine Qa rfl rfl (Qd rfl rfl rfl) ?_
    refine Qf (Qb ?_)
    refine Qm rfl (fun h32 => ?_) (fun h32 => ?_)
    ·
     refine Qg ?_
     refine Qa rfl rfl (Qc rfl rfl rfl) ?_
     refine Qa rfl rfl (Qc rfl rfl rfl) ?_
     refine Qa rfl rfl (Qh rfl rfl KF.fld_27_3 rfl) ?_
     refine Qa rfl rfl (Qj 0 rfl rfl Tryz.underlying3 rfl rfl rfl (fun _ => rfl)) ?_
     refine TL_cq rfl rfl rfl rfl KF.cal_90 rfl (fun _ => may_spec w0 _ hG 2 (by decide) L.fl) ?_
     refine Qa rfl rfl (QT_and rfl rfl rfl rfl) ?_
     refine Qa rfl rfl (Qd rfl rfl rfl) ?_
     refine Qf ?_
     refine Qo ?_
     refine Qb (Qe (Qe (Qg ?_)))
     refine Qa rfl rfl (Qc rfl rfl rfl) ?_
     refine Qa rfl rfl (QT_not rfl rfl rfl) ?_
     refine Qf (Qb ?_)
     refine TC_cond rfl (fun h43 => ?_) (fun h43 => ?_)
     ·
      refine Qe (Qg ?_)
      refine Qa rfl rfl (Qd rfl rfl rfl) ?_
      refine Qf (Qb ?_)
      refine Qu ?_
      refine Qn ?_
      exact Qs (.inl rfl) (res1 rfl rfl) ⟨_, ⟨by first | exact err4 (by clear h43; simp_all [okB, base]) h43 | exact err0 (by clear h43; simp_all [okB, base]) h43, rfl⟩, fun _ h => h.tail⟩
     ·
      refine Qt (Qb (Qe (Qg ?_)))
      refine Qa rfl rfl (Qd rfl rfl rfl) ?_
      refine Qf (Qb ?_)
      refine Qu ?_
      exact Qs (.inl rfl) (res1 rfl rfl) ⟨_, ⟨by first | exact err4 (by clear h43; simp_all [okB, base]) h43 | exact err0 (by clear h43; simp_all [okB, base]) h43, rfl⟩, fun _ h => h.tail⟩
    ·
     refine Qg ?_
     refine Qa rfl rfl (Qd rfl rfl rfl) ?_
     refine Qf ?_
     refine Qo ?_
     refine Qb (Qe (Qe (Qg ?_)))
     refine Qa rfl rfl (Qc rfl rfl rfl) ?_
     refine Qa rfl rfl (QT_not rfl rfl rfl) ?_
     refine Qf (Qb ?_)
     refine TC_cond rfl (fun h43 => ?_) (fun h43 => ?_)
     ·
      refine Qe (Qg ?_)
      refine Qa rfl rfl (Qd rfl rfl rfl) ?_
      refine Qf (Qb ?_)
      refine Qu ?_
      refine Qn ?_
      exact Qs (.inl rfl) (res1 rfl rfl) ⟨_, ⟨by first | exact err4 (by clear h43; simp_all [okB, base]) h43 | exact err0 (by clear h43; simp_all [okB, base]) h43, rfl⟩, fun _ h => h.tail⟩
     ·
      refine Qt (Qb (Qe (Qg ?_)))
      refine Qa rfl rfl (Qd rfl rfl rfl) ?_
      refine Qf (Qb ?_)
      refine Qu ?_
      exact Qs (.inl rfl) (res1 rfl rfl) ⟨_, ⟨by first | exact err4 (by clear h43; simp_all [okB, base]) h43 | exact err0 (by clear h43; simp_all [okB, base]) h43, rfl⟩, fun _ h => h.tail⟩
/-- the flag's bits, the points, the colours of a record -/
def flb (L : Lay) : Int := if L.ty = 5 then 0 else L.fl
def ptsZ (L : Lay) (f : Int) : Int := if L.ty = 7 then (if f = 0 then 16 else 12) else if L.ty = 6 then (if f = 0 then 12 else 8) else 1
def colZ (L : Lay) (f : Int) : Int := if L.ty = 7 ∨ L.ty = 6 then (if f = 0 then 4 else 2) else 1
def bitsZ (L : Lay) (f : Int) : Int := flb L + (2 * ptsZ L f * L.co + colZ L f * L.cs * L.cm)
def sizeZ (L : Lay) (f : Int) : Int := if okB L = true then (bitsZ L f + 7) / 8 else 0
theorem mayB_0 {m : Int} (h : mayB 0 m = true) : 1 ≤ m ∧ m ≤ 32 := by
 unfold mayB at h
 simp only [Bool.and_eq_true, decide_eq_true_eq] at h
 obtain ⟨⟨h0, h1⟩, h2⟩ := h
 obtain ⟨k, rfl⟩ := Int.eq_ofNat_of_zero_le h0
 have hk : k < 64 := by omega
 have : ∀ k : Fin 64, bitsOf .and .u64 ((setN 0).fdiv (2 ^ (min (k.1 : Int).toNat IntKind.u64.bits))) 1 = 1 → 1 ≤ (k.1 : Int) ∧ (k.1 : Int) ≤ 32 := by decide +kernel
 exact this ⟨k, hk⟩ h2
theorem mayB_1 {m : Int} (h : mayB 1 m = true) : 1 ≤ m ∧ m ≤ 16 := by
 unfold mayB at h
 simp only [Bool.and_eq_true, decide_eq_true_eq] at h
 obtain ⟨⟨h0, h1⟩, h2⟩ := h
 obtain ⟨k, rfl⟩ := Int.eq_ofNat_of_zero_le h0
 have hk : k < 64 := by omega
 have : ∀ k : Fin 64, bitsOf .and .u64 ((setN 1).fdiv (2 ^ (min (k.1 : Int).toNat IntKind.u64.bits))) 1 = 1 → 1 ≤ (k.1 : Int) ∧ (k.1 : Int) ≤ 16 := by decide +kernel
 exact this ⟨k, hk⟩ h2
theorem mayB_2 {m : Int} (h : mayB 2 m = true) : 2 ≤ m ∧ m ≤ 8 := by
 unfold mayB at h
 simp only [Bool.and_eq_true, decide_eq_true_eq] at h
 obtain ⟨⟨h0, h1⟩, h2⟩ := h
 obtain ⟨k, rfl⟩ := Int.eq_ofNat_of_zero_le h0
 have hk : k < 64 := by omega
 have : ∀ k : Fin 64, bitsOf .and .u64 ((setN 2).fdiv (2 ^ (min (k.1 : Int).toNat IntKind.u64.bits))) 1 = 1 → 2 ≤ (k.1 : Int) ∧ (k.1 : Int) ≤ 8 := by decide +kernel
 exact this ⟨k, hk⟩ h2
theorem okB_bounds {L : Lay} (h : okB L = true) : (1 ≤ L.co ∧ L.co ≤ 32) ∧ (1 ≤ L.cm ∧ L.cm ≤ 16) ∧ (1 ≤ L.cs ∧ L.cs ≤ 4) ∧ (L.ty = 4 ∨ L.ty = 5 ∨ L.ty = 6 ∨ L.ty = 7) ∧ (L.ty = 5 → 2 ≤ L.ro) ∧ (L.ty ≠ 5 → 2 ≤ L.fl ∧ L.fl ≤ 8) := by
  unfold okB base at h
  by_cases h5 : L.ty = 5
  · rw [if_pos h5] at h
    simp only [Bool.and_eq_true, decide_eq_true_eq] at h
    obtain ⟨⟨⟨⟨a, b⟩, c⟩, d⟩, e⟩ := h
    exact ⟨mayB_0 a, mayB_1 b, ⟨c, d⟩, .inr (.inl h5), fun _ => e, fun h => absurd h5 h⟩
  · rw [if_neg h5] at h
    by_cases h7 : L.ty = 4 ∨ L.ty = 6 ∨ L.ty = 7
    · rw [if_pos h7] at h
      simp only [Bool.and_eq_true, decide_eq_true_eq] at h
      obtain ⟨⟨⟨⟨a, b⟩, c⟩, d⟩, e⟩ := h
      exact ⟨mayB_0 a, mayB_1 b, ⟨c, d⟩, by omega, fun h => absurd h h5, fun _ => mayB_2 e⟩
    · rw [if_neg h7] at h; cases h
theorem mul_bd {a b : Int} (h1 : 1 ≤ a) (h2 : a ≤ 4) (h3 : 1 ≤ b) (h4 : b ≤ 16) : 1 ≤ a * b ∧ a * b ≤ 64 := by
 have h : a = 1 ∨ a = 2 ∨ a = 3 ∨ a = 4 := by omega
 rcases h with rfl | rfl | rfl | rfl <;> omega
theorem size_spec (w0 : Base) (η : Heap) (hG : Sets w0) (L : Lay) (f : Int) (h0 : 0 ≤ f) :
  CallsT Tryz.prog 136 [L.val, .int .u8 f] (St w0 η) fun v A' => v = .int .i64 (sizeZ L f) ∧ A' = St w0 η := by
 refine CallsT.body Tryz.func136 rfl rfl ?_
 simp only [Tryz.ntmps136, slotsOf, Nat.reduceAdd]
 refine Qe (Qg ?_)
 refine TL_e rfl rfl rfl (rfl) (ET_box rfl rfl) ?_
 rintro _ _ ⟨b2, rfl, rfl⟩
 refine Qa rfl rfl (Qd rfl rfl rfl) ?_
 refine Qf (Qb (Qe (Qe (Qg ?_))))
 refine Qa rfl rfl (Ql 0 rfl rfl Tryz.underlying27 rfl rfl rfl KF.sz_27) ?_
 refine TL_cq rfl rfl rfl rfl KF.cal_26 rfl (fun _ => check_spec w0 _ hG L) ?_
 refine Qa rfl rfl (QT_neq rfl rfl rfl rfl) ?_
 refine Qf (Qb ?_)
 refine Qm rfl (fun h10 => ?_) (fun h10 => ?_)
 ·
  refine Qe (Qg ?_)
  refine Qa rfl rfl (Qd rfl rfl rfl) ?_
  refine Qf (Qb ?_)
  refine Qu ?_
  refine Qn ?_
  exact Qs (.inl rfl) (res1 rfl rfl) ⟨_, ⟨by simp_all [sizeZ, errOf], rfl⟩, fun _ h => h.tail⟩
 ·
  have hok : okB L = true := by
   unfold errOf at h10
   by_cases h : okB L = true
   · exact h
   · simp [h] at h10
  obtain ⟨⟨c1, c2⟩, ⟨m1, m2⟩, ⟨s1, s2⟩, hty, hro, hfl⟩ := okB_bounds hok
  have hp := mul_bd s1 s2 m1 m2
  have e1 : 1 * L.cs * L.cm = L.cs * L.cm := by rw [Int.one_mul]
  have e2 : 2 * L.cs * L.cm = 2 * (L.cs * L.cm) := Int.mul_assoc ..
  have e4 : 4 * L.cs * L.cm = 4 * (L.cs * L.cm) := Int.mul_assoc ..
  refine Qt (Qb (Qe ?_))
  refine TC_draw [(0, 0), (1, 0), (2, 0), (3, 0), (4, 0)] KF.mixed (by kernel_rfl) (St.calm _ _) ?_
  refine Qk rfl rfl rfl (fun _ => Qh rfl rfl KF.fld_27_3 rfl) ?_
  refine Qz rfl rfl rfl (Qj 0 rfl rfl Tryz.underlying3 rfl rfl rfl (fun _ => rfl)) ?_
  refine Qk rfl rfl rfl (fun _ => Qd rfl rfl rfl) ?_
  refine Qk rfl rfl rfl (fun _ => Qd rfl rfl rfl) ?_
  refine Qk rfl rfl rfl (fun _ => Qd rfl rfl rfl) ?_
  refine TV_end (Qb (Qe (Qe (Qg ?_))))
  refine Qa rfl rfl (Qh rfl rfl KF.fld_27_0 rfl) ?_
  refine Qa rfl rfl (Qj 0 rfl rfl Tryz.underlying3 rfl rfl rfl (fun _ => rfl)) ?_
  refine Qf (Qb (Qr (Qe (Qr (Qe (Qr (Qe (Qr (Qe (Qe (Qe (Qg ?_))))))))))))
  refine Qa rfl rfl (QT_eql rfl rfl rfl rfl) ?_
  refine Qa rfl rfl (Qd rfl rfl rfl) ?_
  refine Qf (Qb ?_)
  refine Qm rfl (fun h15 => ?_) (fun h15 => ?_)
  ·
   refine Zd ?_
   refine Qi (Qi ?_)
   refine Qp ?_
   refine Qb (Qe (Qg ?_))
   refine Qa rfl rfl (Qd rfl rfl rfl) ?_
   refine Qf (Qb ?_)
   refine Zd ?_
   refine TX_block_past rfl ?_
   refine Qi ?_
   refine TX_block_past rfl ?_
   refine Qi ?_
   refine Qp ?_
   refine Qb (Qe (Qg ?_))
   refine Qa rfl rfl (Qc rfl rfl rfl) ?_
   refine Qa rfl rfl (Qc rfl rfl rfl) ?_
   refine Qa rfl rfl (QT_mul rfl rfl rfl rfl (fun _ => ⟨by omega, by omega⟩)) ?_
   refine Qa rfl rfl (Qh rfl rfl KF.fld_27_1 rfl) ?_
   refine Qa rfl rfl (Qj 0 rfl rfl Tryz.underlying3 rfl rfl rfl (fun _ => rfl)) ?_
   refine Qa rfl rfl (QT_mul rfl rfl rfl rfl (fun _ => ⟨by omega, by omega⟩)) ?_
   refine Qa rfl rfl (Qc rfl rfl rfl) ?_
   refine Qa rfl rfl (Qh rfl rfl KF.fld_27_4 rfl) ?_
   refine Qa rfl rfl (Qj 0 rfl rfl Tryz.underlying3 rfl rfl rfl (fun _ => rfl)) ?_
   refine Qa rfl rfl (QT_mul rfl rfl rfl rfl (fun _ => ⟨by omega, by omega⟩)) ?_
   refine Qa rfl rfl (Qh rfl rfl KF.fld_27_2 rfl) ?_
   refine Qa rfl rfl (Qj 0 rfl rfl Tryz.underlying3 rfl rfl rfl (fun _ => rfl)) ?_
   refine Qa rfl rfl (QT_mul rfl rfl rfl rfl (fun _ => ⟨by omega, by omega⟩)) ?_
   refine Qa rfl rfl (Zb rfl rfl rfl rfl (fun _ => ⟨by omega, by omega⟩)) ?_
   refine Qa rfl rfl (Zb rfl rfl rfl rfl (fun _ => ⟨by omega, by omega⟩)) ?_
   refine Qa rfl rfl (Qd rfl rfl rfl) ?_
   refine Qf (Qb (Qe (Qg ?_)))
   refine Qa rfl rfl (Qc rfl rfl rfl) ?_
   refine Qa rfl rfl (Zb rfl rfl rfl rfl (fun _ => ⟨by omega, by omega⟩)) ?_
   refine Qa rfl rfl (QT_quo rfl rfl rfl rfl (fun _ => ⟨by omega, by omega, by omega⟩)) ?_
   refine Qa rfl rfl (Qd rfl rfl rfl) ?_
   refine Qf (Qb ?_)
   refine Qu ?_
   exact Qs (.inl rfl) (res1 rfl rfl) ⟨_, ⟨by simp_all [sizeZ, bitsZ, flb, ptsZ, colZ], rfl⟩, fun _ h => h.tail⟩
  ·
   refine Qt (Qb (Qe (Qe (Qg ?_))))
   refine Qa rfl rfl (QT_eql rfl rfl rfl rfl) ?_
   refine Qa rfl rfl (Qd rfl rfl rfl) ?_
   refine Qf (Qb ?_)
   refine Qm rfl (fun h17 => ?_) (fun h17 => ?_)
   ·
    refine Zd ?_
    refine Qi (Qi ?_)
    refine TX_block_past rfl ?_
    refine Qi ?_
    refine Qp ?_
    refine Qb (Qg ?_)
    refine Qa rfl rfl (Qc rfl rfl rfl) ?_
    refine Qa rfl rfl (Zb rfl rfl rfl rfl (fun _ => ⟨by omega, by omega⟩)) ?_
    refine Qa rfl rfl (Qd rfl rfl rfl) ?_
    refine Qf ?_
    refine Qo ?_
    refine Qb (Qe (Qe (Qg ?_)))
    refine Qa rfl rfl (Qc rfl rfl rfl) ?_
    refine Qa rfl rfl (Zb rfl rfl rfl rfl (fun _ => ⟨by omega, by omega⟩)) ?_
    refine Qa rfl rfl (Qd rfl rfl rfl) ?_
    refine Qa rfl rfl (Qd rfl rfl rfl) ?_
    refine Qf (Qb (Qe (Qg ?_)))
    refine Qa rfl rfl (Qc rfl rfl rfl) ?_
    refine Qa rfl rfl (QT_eql rfl rfl rfl rfl) ?_
    refine Qf (Qb ?_)
    refine Qm rfl (fun h26 => ?_) (fun h26 => ?_)
    ·
     refine Qg ?_
     refine Qa rfl rfl (Qc rfl rfl rfl) ?_
     refine Qa rfl rfl (Zb rfl rfl rfl rfl (fun _ => ⟨by omega, by omega⟩)) ?_
     refine Qa rfl rfl (Qd rfl rfl rfl) ?_
     refine Qa rfl rfl (Qd rfl rfl rfl) ?_
     refine Qf (Qb ?_)
     refine Zd ?_
     refine Qp ?_
     refine Qb (Qe (Qg ?_))
     refine Qa rfl rfl (Qc rfl rfl rfl) ?_
     refine Qa rfl rfl (Qc rfl rfl rfl) ?_
     refine Qa rfl rfl (QT_mul rfl rfl rfl rfl (fun _ => ⟨by omega, by omega⟩)) ?_
     refine Qa rfl rfl (Qh rfl rfl KF.fld_27_1 rfl) ?_
     refine Qa rfl rfl (Qj 0 rfl rfl Tryz.underlying3 rfl rfl rfl (fun _ => rfl)) ?_
     refine Qa rfl rfl (QT_mul rfl rfl rfl rfl (fun _ => ⟨by omega, by omega⟩)) ?_
     refine Qa rfl rfl (Qc rfl rfl rfl) ?_
     refine Qa rfl rfl (Qh rfl rfl KF.fld_27_4 rfl) ?_
     refine Qa rfl rfl (Qj 0 rfl rfl Tryz.underlying3 rfl rfl rfl (fun _ => rfl)) ?_
     refine Qa rfl rfl (QT_mul rfl rfl rfl rfl (fun _ => ⟨by omega, by omega⟩)) ?_
     refine Qa rfl rfl (Qh rfl rfl KF.fld_27_2 rfl) ?_
     refine Qa rfl rfl (Qj 0 rfl rfl Tryz.underlying3 rfl rfl rfl (fun _ => rfl)) ?_
     refine Qa rfl rfl (QT_mul rfl rfl rfl rfl (fun _ => ⟨by omega, by omega⟩)) ?_
     refine Qa rfl rfl (Zb rfl rfl rfl rfl (fun _ => ⟨by omega, by omega⟩)) ?_
     refine Qa rfl rfl (Zb rfl rfl rfl rfl (fun _ => ⟨by omega, by omega⟩)) ?_
     refine Qa rfl rfl (Qd rfl rfl rfl) ?_
     refine Qf (Qb (Qe (Qg ?_)))
     refine Qa rfl rfl (Qc rfl rfl rfl) ?_
     refine Qa rfl rfl (Zb rfl rfl rfl rfl (fun _ => ⟨by omega, by omega⟩)) ?_
     refine Qa rfl rfl (QT_quo rfl rfl rfl rfl (fun _ => ⟨by omega, by omega, by omega⟩)) ?_
     refine Qa rfl rfl (Qd rfl rfl rfl) ?_
     refine Qf (Qb ?_)
     refine Qu ?_
     exact Qs (.inl rfl) (res1 rfl rfl) ⟨_, ⟨by simp_all [sizeZ, bitsZ, flb, ptsZ, colZ], rfl⟩, fun _ h => h.tail⟩
    ·
     refine Qt (Qb ?_)
     refine Zd ?_
     refine Qp ?_
     refine Qb (Qe (Qg ?_))
     refine Qa rfl rfl (Qc rfl rfl rfl) ?_
     refine Qa rfl rfl (Qc rfl rfl rfl) ?_
     refine Qa rfl rfl (QT_mul rfl rfl rfl rfl (fun _ => ⟨by omega, by omega⟩)) ?_
     refine Qa rfl rfl (Qh rfl rfl KF.fld_27_1 rfl) ?_
     refine Qa rfl rfl (Qj 0 rfl rfl Tryz.underlying3 rfl rfl rfl (fun _ => rfl)) ?_
     refine Qa rfl rfl (QT_mul rfl rfl rfl rfl (fun _ => ⟨by omega, by omega⟩)) ?_
     refine Qa rfl rfl (Qc rfl rfl rfl) ?_
     refine Qa rfl rfl (Qh rfl rfl KF.fld_27_4 rfl) ?_
     refine Qa rfl rfl (Qj 0 rfl rfl Tryz.underlying3 rfl rfl rfl (fun _ => rfl)) ?_
     refine Qa rfl rfl (QT_mul rfl rfl rfl rfl (fun _ => ⟨by omega, by omega⟩)) ?_
     refine Qa rfl rfl (Qh rfl rfl KF.fld_27_2 rfl) ?_
     refine Qa rfl rfl (Qj 0 rfl rfl Tryz.underlying3 rfl rfl rfl (fun _ => rfl)) ?_
     refine Qa rfl rfl (QT_mul rfl rfl rfl rfl (fun _ => ⟨by omega, by omega⟩)) ?_
     refine Qa rfl rfl (Zb rfl rfl rfl rfl (fun _ => ⟨by omega, by omega⟩)) ?_
     refine Qa rfl rfl (Zb rfl rfl rfl rfl (fun _ => ⟨by omega, by omega⟩)) ?_
     refine Qa rfl rfl (Qd rfl rfl rfl) ?_
     refine Qf (Qb (Qe (Qg ?_)))
     refine Qa rfl rfl (Qc rfl rfl rfl) ?_
     refine Qa rfl rfl (Zb rfl rfl rfl rfl (fun _ => ⟨by omega, by omega⟩)) ?_
     refine Qa rfl rfl (QT_quo rfl rfl rfl rfl (fun _ => ⟨by omega, by omega, by omega⟩)) ?_
     refine Qa rfl rfl (Qd rfl rfl rfl) ?_
     refine Qf (Qb ?_)
     refine Qu ?_
     exact Qs (.inl rfl) (res1 rfl rfl) ⟨_, ⟨by simp_all [sizeZ, bitsZ, flb, ptsZ, colZ], rfl⟩, fun _ h => h.tail⟩
   ·
    refine Qt (Qb (Qe (Qg ?_)))
    refine Qa rfl rfl (QT_eql rfl rfl rfl rfl) ?_
    refine Qa rfl rfl (Qd rfl rfl rfl) ?_
    refine Qf (Qb ?_)
    refine Qm rfl (fun h19 => ?_) (fun h19 => ?_)
    ·
     refine Zd ?_
     refine Qi ?_
     refine TX_block_past rfl ?_
     refine Qi ?_
     refine TX_block_past rfl ?_
     refine Qi ?_
     refine Qp ?_
     refine Qb (Qe (Qe (Qg ?_)))
     refine Qa rfl rfl (Qc rfl rfl rfl) ?_
     refine Qa rfl rfl (Zb rfl rfl rfl rfl (fun _ => ⟨by omega, by omega⟩)) ?_
     refine Qa rfl rfl (Qd rfl rfl rfl) ?_
     refine Qa rfl rfl (Qd rfl rfl rfl) ?_
     refine Qf (Qb (Qe (Qg ?_)))
     refine Qa rfl rfl (Qc rfl rfl rfl) ?_
     refine Qa rfl rfl (QT_eql rfl rfl rfl rfl) ?_
     refine Qf (Qb ?_)
     refine Qm rfl (fun h26 => ?_) (fun h26 => ?_)
     ·
      refine Qg ?_
      refine Qa rfl rfl (Qc rfl rfl rfl) ?_
      refine Qa rfl rfl (Zb rfl rfl rfl rfl (fun _ => ⟨by omega, by omega⟩)) ?_
      refine Qa rfl rfl (Qd rfl rfl rfl) ?_
      refine Qa rfl rfl (Qd rfl rfl rfl) ?_
      refine Qf (Qb ?_)
      refine Zd ?_
      refine Qp ?_
      refine Qb (Qe (Qg ?_))
      refine Qa rfl rfl (Qc rfl rfl rfl) ?_
      refine Qa rfl rfl (Qc rfl rfl rfl) ?_
      refine Qa rfl rfl (QT_mul rfl rfl rfl rfl (fun _ => ⟨by omega, by omega⟩)) ?_
      refine Qa rfl rfl (Qh rfl rfl KF.fld_27_1 rfl) ?_
      refine Qa rfl rfl (Qj 0 rfl rfl Tryz.underlying3 rfl rfl rfl (fun _ => rfl)) ?_
      refine Qa rfl rfl (QT_mul rfl rfl rfl rfl (fun _ => ⟨by omega, by omega⟩)) ?_
      refine Qa rfl rfl (Qc rfl rfl rfl) ?_
      refine Qa rfl rfl (Qh rfl rfl KF.fld_27_4 rfl) ?_
      refine Qa rfl rfl (Qj 0 rfl rfl Tryz.underlying3 rfl rfl rfl (fun _ => rfl)) ?_
      refine Qa rfl rfl (QT_mul rfl rfl rfl rfl (fun _ => ⟨by omega, by omega⟩)) ?_
      refine Qa rfl rfl (Qh rfl rfl KF.fld_27_2 rfl) ?_
      refine Qa rfl rfl (Qj 0 rfl rfl Tryz.underlying3 rfl rfl rfl (fun _ => rfl)) ?_
      refine Qa rfl rfl (QT_mul rfl rfl rfl rfl (fun _ => ⟨by omega, by omega⟩)) ?_
      refine Qa rfl rfl (Zb rfl rfl rfl rfl (fun _ => ⟨by omega, by omega⟩)) ?_
      refine Qa rfl rfl (Zb rfl rfl rfl rfl (fun _ => ⟨by omega, by omega⟩)) ?_
      refine Qa rfl rfl (Qd rfl rfl rfl) ?_
      refine Qf (Qb (Qe (Qg ?_)))
      refine Qa rfl rfl (Qc rfl rfl rfl) ?_
      refine Qa rfl rfl (Zb rfl rfl rfl rfl (fun _ => ⟨by omega, by omega⟩)) ?_
      refine Qa rfl rfl (QT_quo rfl rfl rfl rfl (fun _ => ⟨by omega, by omega, by omega⟩)) ?_
      refine Qa rfl rfl (Qd rfl rfl rfl) ?_
      refine Qf (Qb ?_)
      refine Qu ?_
      exact Qs (.inl rfl) (res1 rfl rfl) ⟨_, ⟨by simp_all [sizeZ, bitsZ, flb, ptsZ, colZ], rfl⟩, fun _ h => h.tail⟩
     ·
      refine Qt (Qb ?_)
      refine Zd ?_
      refine Qp ?_
      refine Qb (Qe (Qg ?_))
      refine Qa rfl rfl (Qc rfl rfl rfl) ?_
      refine Qa rfl rfl (Qc rfl rfl rfl) ?_
      refine Qa rfl rfl (QT_mul rfl rfl rfl rfl (fun _ => ⟨by omega, by omega⟩)) ?_
      refine Qa rfl rfl (Qh rfl rfl KF.fld_27_1 rfl) ?_
      refine Qa rfl rfl (Qj 0 rfl rfl Tryz.underlying3 rfl rfl rfl (fun _ => rfl)) ?_
      refine Qa rfl rfl (QT_mul rfl rfl rfl rfl (fun _ => ⟨by omega, by omega⟩)) ?_
      refine Qa rfl rfl (Qc rfl rfl rfl) ?_
      refine Qa rfl rfl (Qh rfl rfl KF.fld_27_4 rfl) ?_
      refine Qa rfl rfl (Qj 0 rfl rfl Tryz.underlying3 rfl rfl rfl (fun _ => rfl)) ?_
      refine Qa rfl rfl (QT_mul rfl rfl rfl rfl (fun _ => ⟨by omega, by omega⟩)) ?_
      refine Qa rfl rfl (Qh rfl rfl KF.fld_27_2 rfl) ?_
      refine Qa rfl rfl (Qj 0 rfl rfl Tryz.underlying3 rfl rfl rfl (fun _ => rfl)) ?_
      refine Qa rfl rfl (QT_mul rfl rfl rfl rfl (fun _ => ⟨by omega, by omega⟩)) ?_
      refine Qa rfl rfl (Zb rfl rfl rfl rfl (fun _ => ⟨by omega, by omega⟩)) ?_
      refine Qa rfl rfl (Zb rfl rfl rfl rfl (fun _ => ⟨by omega, by omega⟩)) ?_
      refine Qa rfl rfl (Qd rfl rfl rfl) ?_
      refine Qf (Qb (Qe (Qg ?_)))
      refine Qa rfl rfl (Qc rfl rfl rfl) ?_
      refine Qa rfl rfl (Zb rfl rfl rfl rfl (fun _ => ⟨by omega, by omega⟩)) ?_
      refine Qa rfl rfl (QT_quo rfl rfl rfl rfl (fun _ => ⟨by omega, by omega, by omega⟩)) ?_
      refine Qa rfl rfl (Qd rfl rfl rfl) ?_
      refine Qf (Qb ?_)
      refine Qu ?_
      exact Qs (.inl rfl) (res1 rfl rfl) ⟨_, ⟨by simp_all [sizeZ, bitsZ, flb, ptsZ, colZ], rfl⟩, fun _ h => h.tail⟩
    ·
     refine Qt (Qb ?_)
     refine Zd ?_
     refine TX_block_past rfl ?_
     refine Qi ?_
     refine TX_block_past rfl ?_
     refine Qi ?_
     refine TX_block_past rfl ?_
     refine Qi ?_
     refine Qp ?_
     refine Qb (Qe (Qg ?_))
     refine Qa rfl rfl (Qc rfl rfl rfl) ?_
     refine Qa rfl rfl (Qc rfl rfl rfl) ?_
     refine Qa rfl rfl (QT_mul rfl rfl rfl rfl (fun _ => ⟨by omega, by omega⟩)) ?_
     refine Qa rfl rfl (Qh rfl rfl KF.fld_27_1 rfl) ?_
     refine Qa rfl rfl (Qj 0 rfl rfl Tryz.underlying3 rfl rfl rfl (fun _ => rfl)) ?_
     refine Qa rfl rfl (QT_mul rfl rfl rfl rfl (fun _ => ⟨by omega, by omega⟩)) ?_
     refine Qa rfl rfl (Qc rfl rfl rfl) ?_
     refine Qa rfl rfl (Qh rfl rfl KF.fld_27_4 rfl) ?_
     refine Qa rfl rfl (Qj 0 rfl rfl Tryz.underlying3 rfl rfl rfl (fun _ => rfl)) ?_
     refine Qa rfl rfl (QT_mul rfl rfl rfl rfl (fun _ => ⟨by omega, by omega⟩)) ?_
     refine Qa rfl rfl (Qh rfl rfl KF.fld_27_2 rfl) ?_
     refine Qa rfl rfl (Qj 0 rfl rfl Tryz.underlying3 rfl rfl rfl (fun _ => rfl)) ?_
     refine Qa rfl rfl (QT_mul rfl rfl rfl rfl (fun _ => ⟨by omega, by omega⟩)) ?_
     refine Qa rfl rfl (Zb rfl rfl rfl rfl (fun _ => ⟨by omega, by omega⟩)) ?_
     refine Qa rfl rfl (Zb rfl rfl rfl rfl (fun _ => ⟨by omega, by omega⟩)) ?_
     refine Qa rfl rfl (Qd rfl rfl rfl) ?_
     refine Qf (Qb (Qe (Qg ?_)))
     refine Qa rfl rfl (Qc rfl rfl rfl) ?_
     refine Qa rfl rfl (Zb rfl rfl rfl rfl (fun _ => ⟨by omega, by omega⟩)) ?_
     refine Qa rfl rfl (QT_quo rfl rfl rfl rfl (fun _ => ⟨by omega, by omega, by omega⟩)) ?_
     refine Qa rfl rfl (Qd rfl rfl rfl) ?_
     refine Qf (Qb ?_)
     refine Qu ?_
     exact Qs (.inl rfl) (res1 rfl rfl) ⟨_, ⟨by simp_all [sizeZ, bitsZ, flb, ptsZ, colZ], rfl⟩, fun _ h => h.tail⟩
end Go.Proofs.YtjdaglmkljbfkaaGreatDoor
namespace Go.Proofs.YtjdaglmkljbfkaaGreatDoor
open Go Go.Gx Go.RowKit Go.ChangeShapes Go.WideShapes Go.ChangeAt
set_option maxRecDepth 100000
theorem own : ownKnob Tryz.prog.godebug = none := by kernel_rfl
theorem laidOut : laidOutB Tryz.prog = true := by kernel_rfl
def LayK : List IntKind := [.i64, .i64, .i64, .i64, .i64, .i64, .i32, .i32, .i32, .i32, .i32, .i32, .i32, .i32, .i32, .i32, .i32, .i32]
theorem flat_lay : flat Tryz.prog 8 27 = some LayK := by kernel_rfl
structure Lay.Wf (L : Lay) : Prop where
 ty : I64 L.ty
 co : I64 L.co
 cm : I64 L.cm
 fl : I64 L.fl
 cs : I64 L.cs
 ro : I64 L.ro
theorem lay_of {cs : List Value} (h : Ints LayK cs) : ∃ L : Lay, Value.agg cs.toArray = L.val ∧ L.Wf := by
 obtain ⟨a0, _, rfl, w0, h⟩ := h.inv
 obtain ⟨a1, _, rfl, w1, h⟩ := h.inv
 obtain ⟨a2, _, rfl, w2, h⟩ := h.inv
 obtain ⟨a3, _, rfl, w3, h⟩ := h.inv
 obtain ⟨a4, _, rfl, w4, h⟩ := h.inv
 obtain ⟨a5, _, rfl, w5, h⟩ := h.inv
 obtain ⟨b0, _, rfl, _, h⟩ := h.inv
 obtain ⟨b1, _, rfl, _, h⟩ := h.inv
 obtain ⟨b2, _, rfl, _, h⟩ := h.inv
 obtain ⟨b3, _, rfl, _, h⟩ := h.inv
 obtain ⟨b4, _, rfl, _, h⟩ := h.inv
 obtain ⟨b5, _, rfl, _, h⟩ := h.inv
 obtain ⟨b6, _, rfl, _, h⟩ := h.inv
 obtain ⟨b7, _, rfl, _, h⟩ := h.inv
 obtain ⟨b8, _, rfl, _, h⟩ := h.inv
 obtain ⟨b9, _, rfl, _, h⟩ := h.inv
 obtain ⟨b10, _, rfl, _, h⟩ := h.inv
 obtain ⟨b11, _, rfl, _, h⟩ := h.inv
 obtain rfl := h.inv_nil
 exact ⟨⟨a0, a1, a2, a3, a4, a5, fun i => [b0, b1, b2, b3, b4, b5, b6, b7, b8, b9, b10, b11].getD i 0⟩, rfl, wf_i64 w0, wf_i64 w1, wf_i64 w2, wf_i64 w3, wf_i64 w4, wf_i64 w5⟩
theorem open_lay {H : Type} {enc : TypeId × Value → H} {W : World} {base b0 : Nat} {spare : Nat → Bool} {held : Bool} {r : Reach} {v : Value} {d : DataW H} {p : List MemPlace}
  (hv : Value.okWide Tryz.prog W r b0 27 v) (h : DataW.Trod enc Tryz.prog W base spare held 27 v d p) : ∃ L : Lay, v = L.val ∧ L.Wf := by
 obtain ⟨cs, rfl, hi⟩ := open_flat Tryz.underlying27 flat_lay hv h
 exact lay_of hi
theorem gSets : Tryz.prog.globalNamed "gouache/layouts.sets" = some 0 := by kernel_rfl
def setsK : List IntKind := [.u64, .u64, .u64]
theorem sets_of {W : World} {laid : List (String × DataW Unit)} (h : laidMet Tryz.prog laid W) (hm : ("gouache/layouts.sets", Rows.laid_gouache_layouts_sets) ∈ laid) : Sets W :=
 laid_flat (ks := setsK) h hm gSets (by kernel_rfl) (show flat Tryz.prog 8 231 = some setsK by kernel_rfl) (intsB_ok _ _ (by kernel_rfl)) (by kernel_rfl)
def layZ : List Value := [.int .i64 0, .int .i64 0, .int .i64 0, .int .i64 0, .int .i64 0, .int .i64 0, .int .i32 0, .int .i32 0, .int .i32 0, .int .i32 0, .int .i32 0, .int .i32 0, .int .i32 0, .int .i32 0, .int .i32 0, .int .i32 0, .int .i32 0, .int .i32 0]
end Go.Proofs.YtjdaglmkljbfkaaGreatDoor
namespace Go.Proofs.YtjdaglmkljbfkaaGreatDoor
open Go Go.Gx Go.RowKit
set_option maxRecDepth 100000
theorem in_spec (w0 : Base) (η : Heap) (m : Int) (xs : List Int) (b cap : Nat) (hl : xs.length ≤ 1000) (hR : Rd (St w0 η) b 0 (xs.map fun x => .int .i64 x)) :
    CallsT Tryz.prog 103 [.int .i64 m, .slice (some ⟨b, 0, none⟩) xs.length cap] (St w0 η) fun v A' => v = .bool (decide (m ∈ xs)) ∧ A' = St w0 η := by
  refine CallsT.body Tryz.func103 rfl rfl ?_
  simp only [Tryz.ntmps103, slotsOf, Nat.reduceAdd]
  refine Qe (Qg ?_)
  refine Qa rfl rfl (Qd rfl rfl rfl) ?_
  refine Qf (Qb (Qe (Qe (Qg ?_))))
  refine Qa rfl rfl (Qd rfl rfl rfl) ?_
  refine Qf (Qb (Qr ?_))
  refine TC_loop (γ := { i : Nat // i ≤ xs.length ∧ ∀ j, j < i → xs[j]? ≠ some m }) (fun t => [(0, true, .int .i64 m), (1, true, .slice (some ⟨b, 0, none⟩) xs.length cap), (5, true, .int .i64 (t.1 : Int))]) (fun _ => St w0 η) (fun t => xs.length - t.1) ⟨0, by omega, fun j h => by omega⟩ ⟨rfl, rfl, rfl, trivial⟩ (fun _ h => h) ?_
  rintro ⟨i, hi, hx⟩
  dsimp only
  refine Qe (Qe (Qg ?_))
  refine Qa rfl rfl (Qc rfl rfl rfl) ?_
  refine Qa rfl rfl (Qc rfl rfl rfl) ?_
  refine Qa rfl rfl (Za rfl rfl Tryz.underlying175 rfl) ?_
  refine Qa rfl rfl (QT_lss rfl rfl rfl rfl) ?_
  refine Qf (Qb ?_)
  refine Qm rfl (fun h9 => ?_) (fun h9 => ?_)
  ·
    have hi' : i < xs.length := by omega
    have hget : (xs.map fun x => Value.int .i64 x)[i * 1]? = some (.int .i64 xs[i]) := by simp [hi']
    refine Qt (Qb (Qe (Qr (Qe (Qg ?_)))))
    refine Qa rfl rfl (Qc rfl rfl rfl) ?_
    refine Qa rfl rfl (Qc rfl rfl rfl) ?_
    refine Qa rfl rfl (Qq (i) rfl rfl Tryz.underlying175 KF.sz_3 rfl rfl (rfl) (fun _ => hi')) ?_
    refine Qa rfl rfl (QT_loadR rfl rfl Tryz.underlying3 rfl hR rfl (fun _ => hget)) ?_
    refine Qa rfl rfl (Qc rfl rfl rfl) ?_
    refine Qa rfl rfl (QT_eql rfl rfl rfl rfl) ?_
    refine Qf (Qb ?_)
    refine Qm rfl (fun h17 => ?_) (fun h17 => ?_)
    ·
      refine Qe (Qg ?_)
      refine Qa rfl rfl (Qd rfl rfl rfl) ?_
      refine Qf (Qb ?_)
      refine Qu ?_
      refine Zc ?_
      refine Qn ?_
      refine Qn ?_
      refine Zc ?_
      refine Qn ?_
      exact Qs (.inl rfl) (res1 rfl rfl) ⟨_, ⟨by rw [decide_eq_true]; exact h17 ▸ List.getElem_mem hi', rfl⟩, fun _ h => h⟩
    ·
      refine Qt ?_
      refine Qo ?_
      refine Qb (Qg ?_)
      refine Qa rfl rfl (Qc rfl rfl rfl) ?_
      refine Qa rfl rfl (Zb rfl rfl rfl rfl (fun _ => ⟨by omega, by omega⟩)) ?_
      refine Qa rfl rfl (Qd rfl rfl rfl) ?_
      refine Qf ?_
      exact TX_round ⟨i + 1, by omega, fun j hj => by
        by_cases h : j < i
        · exact hx j h
        · obtain rfl : j = i := by omega
          rw [List.getElem?_eq_getElem hi']
          intro e
          exact h17 (Option.some.inj e)⟩ (by show xs.length - (i + 1) < xs.length - i; omega) ⟨rfl, rfl, rfl, trivial⟩ (fun _ h => h)
  ·
    refine Zd ?_
    refine Qi (Qi ?_)
    refine Qp ?_
    refine Qb (Qe (Qg ?_))
    refine Qa rfl rfl (Qd rfl rfl rfl) ?_
    refine Qf (Qb ?_)
    refine Qu ?_
    exact Qs (.inl rfl) (res1 rfl rfl) ⟨_, ⟨by
      rw [decide_eq_false]
      intro hm
      obtain ⟨j, hj, he⟩ := List.getElem_of_mem hm
      exact hx j (by omega) (by rw [List.getElem?_eq_getElem hj, he]), rfl⟩, fun _ h => h⟩
theorem mayB_eq (f : Nat) (xs : List Int) (hb : ∀ x ∈ xs, 0 ≤ x ∧ x < 64) (h : ∀ k : Fin 64, bitsOf .and .u64 ((setN f).fdiv (2 ^ (min (k.1 : Int).toNat IntKind.u64.bits))) 1 = 1 ↔ (k.1 : Int) ∈ xs) (m : Int) : mayB f m = decide (m ∈ xs) := by
  unfold mayB
  rw [Bool.eq_iff_iff]
  simp only [Bool.and_eq_true, decide_eq_true_eq]
  constructor
  · rintro ⟨⟨h0, h1⟩, h2⟩
    obtain ⟨k, rfl⟩ := Int.eq_ofNat_of_zero_le h0
    exact (h ⟨k, by omega⟩).1 h2
  · intro hm
    obtain ⟨h0, h1⟩ := hb m hm
    obtain ⟨k, rfl⟩ := Int.eq_ofNat_of_zero_le h0
    exact ⟨⟨h0, h1⟩, (h ⟨k, by omega⟩).2 hm⟩
theorem mayB_co (m : Int) : mayB 0 m = decide (m ∈ [1, 2, 4, 8, 12, 16, 24, 32]) := mayB_eq 0 _ (by decide) (by decide +kernel) m
theorem mayB_cm (m : Int) : mayB 1 m = decide (m ∈ [1, 2, 4, 8, 12, 16]) := mayB_eq 1 _ (by decide) (by decide +kernel) m
theorem mayB_fl (m : Int) : mayB 2 m = decide (m ∈ [2, 4, 8]) := mayB_eq 2 _ (by decide) (by decide +kernel) m
theorem rcheck_spec (w0 : Base) (η : Heap) (L : Lay) :
    CallsT Tryz.prog 28 [L.val] (St w0 η) fun v A' => v = .int .i64 (errOf L) ∧ A' = St w0 η := by
  refine CallsT.body Tryz.func28 rfl rfl ?_
  simp only [Tryz.ntmps28, slotsOf, Nat.reduceAdd]
  refine Qe (Qg ?_)
  refine TL_e rfl rfl rfl (rfl) (ET_box rfl rfl) ?_
  rintro _ _ ⟨b1, rfl, rfl⟩
  refine Qa rfl rfl (Qd rfl rfl rfl) ?_
  refine Qf (Qb (Qe (Qe (Qg ?_))))
  refine Qa rfl rfl (Qh rfl rfl KF.fld_27_0 rfl) ?_
  refine Qa rfl rfl (Qj 0 rfl rfl Tryz.underlying3 rfl rfl rfl (fun _ => rfl)) ?_
  refine TL_e rfl rfl rfl (rfl) (ET_buildSlice rfl Tryz.underlying175 KF.sz_3 KF.zero_3 rfl rfl rfl) ?_
  rintro _ _ ⟨b5, rfl, rfl⟩
  refine TL_cq rfl rfl rfl rfl KF.cal_103 rfl (fun _ => in_spec w0 _ L.ty [4, 5, 6, 7] _ 4 (by decide) (Rd.own 0 rfl)) ?_
  refine Qa rfl rfl (QT_not rfl rfl rfl) ?_
  refine Qa rfl rfl (Qc rfl rfl rfl) ?_
  refine Qa rfl rfl (Qh rfl rfl KF.fld_27_1 rfl) ?_
  refine Qa rfl rfl (Qj 1 rfl rfl Tryz.underlying3 rfl rfl rfl (fun _ => rfl)) ?_
  refine TL_split (r := 8) rfl (fun g11 => ?_) (fun g11 => ?_)
  ·
    refine TL_skip rfl rfl rfl rfl ?_
    refine TL_skip rfl rfl rfl rfl ?_
    refine TL_skip rfl rfl rfl rfl ?_
    refine Qa rfl rfl (QT_or_t rfl rfl rfl (fun _ => rfl)) ?_
    refine Qa rfl rfl (Qc rfl rfl rfl) ?_
    refine TL_skip rfl rfl rfl rfl ?_
    first
      | refine TL_skip rfl rfl rfl rfl ?_
      | (
         first
           | refine Qa rfl rfl (Qj 0 rfl rfl Tryz.underlying3 rfl rfl rfl (fun _ => rfl)) ?_
           | refine Qa rfl rfl (Qj 1 rfl rfl Tryz.underlying3 rfl rfl rfl (fun _ => rfl)) ?_
           | refine Qa rfl rfl (Qj 2 rfl rfl Tryz.underlying3 rfl rfl rfl (fun _ => rfl)) ?_
           | refine Qa rfl rfl (Qj 3 rfl rfl Tryz.underlying3 rfl rfl rfl (fun _ => rfl)) ?_
           | refine Qa rfl rfl (Qj 4 rfl rfl Tryz.underlying3 rfl rfl rfl (fun _ => rfl)) ?_
           | refine Qa rfl rfl (Qj 5 rfl rfl Tryz.underlying3 rfl rfl rfl (fun _ => rfl)) ?_)
    refine TL_skip rfl rfl rfl rfl ?_
    refine TL_skip rfl rfl rfl rfl ?_
    refine TL_skip rfl rfl rfl rfl ?_
    refine Qa rfl rfl (QT_or_t rfl rfl rfl (fun _ => rfl)) ?_
    refine Qa rfl rfl (Qc rfl rfl rfl) ?_
    refine TL_skip rfl rfl rfl rfl ?_
    first
      | refine TL_skip rfl rfl rfl rfl ?_
      | (
         first
           | refine Qa rfl rfl (Qj 0 rfl rfl Tryz.underlying3 rfl rfl rfl (fun _ => rfl)) ?_
           | refine Qa rfl rfl (Qj 1 rfl rfl Tryz.underlying3 rfl rfl rfl (fun _ => rfl)) ?_
           | refine Qa rfl rfl (Qj 2 rfl rfl Tryz.underlying3 rfl rfl rfl (fun _ => rfl)) ?_
           | refine Qa rfl rfl (Qj 3 rfl rfl Tryz.underlying3 rfl rfl rfl (fun _ => rfl)) ?_
           | refine Qa rfl rfl (Qj 4 rfl rfl Tryz.underlying3 rfl rfl rfl (fun _ => rfl)) ?_
           | refine Qa rfl rfl (Qj 5 rfl rfl Tryz.underlying3 rfl rfl rfl (fun _ => rfl)) ?_)
    refine TL_skip rfl rfl rfl rfl ?_
    refine Qa rfl rfl (QT_or_t rfl rfl rfl (fun _ => rfl)) ?_
    refine Qa rfl rfl (Qc rfl rfl rfl) ?_
    refine TL_skip rfl rfl rfl rfl ?_
    first
      | refine TL_skip rfl rfl rfl rfl ?_
      | (
         first
           | refine Qa rfl rfl (Qj 0 rfl rfl Tryz.underlying3 rfl rfl rfl (fun _ => rfl)) ?_
           | refine Qa rfl rfl (Qj 1 rfl rfl Tryz.underlying3 rfl rfl rfl (fun _ => rfl)) ?_
           | refine Qa rfl rfl (Qj 2 rfl rfl Tryz.underlying3 rfl rfl rfl (fun _ => rfl)) ?_
           | refine Qa rfl rfl (Qj 3 rfl rfl Tryz.underlying3 rfl rfl rfl (fun _ => rfl)) ?_
           | refine Qa rfl rfl (Qj 4 rfl rfl Tryz.underlying3 rfl rfl rfl (fun _ => rfl)) ?_
           | refine Qa rfl rfl (Qj 5 rfl rfl Tryz.underlying3 rfl rfl rfl (fun _ => rfl)) ?_)
    refine TL_skip rfl rfl rfl rfl ?_
    refine Qa rfl rfl (QT_or_t rfl rfl rfl (fun _ => rfl)) ?_
    refine Qf (Qb ?_)
    refine TC_cond rfl (fun h31 => ?_) (fun h31 => ?_)
    ·
      refine Qe (Qg ?_)
      refine Qa rfl rfl (Qd rfl rfl rfl) ?_
      refine Qf (Qb ?_)
      refine Qu ?_
      refine Qn ?_
      exact Qs (.inl rfl) (res1 rfl rfl) ⟨_, ⟨by unfold errOf okB base; rw [mayB_co, mayB_cm, mayB_fl]; grind, rfl⟩, (fun _ h => by first | exact h | exact h.tail | exact h.tail.tail | exact h.tail.tail.tail | exact h.tail.tail.tail.tail | exact h.tail.tail.tail.tail.tail | exact h.tail.tail.tail.tail.tail.tail | exact h.tail.tail.tail.tail.tail.tail.tail | exact h.tail.tail.tail.tail.tail.tail.tail.tail | exact h.tail.tail.tail.tail.tail.tail.tail.tail.tail | exact h.tail.tail.tail.tail.tail.tail.tail.tail.tail.tail | exact h.tail.tail.tail.tail.tail.tail.tail.tail.tail.tail.tail | exact h.tail.tail.tail.tail.tail.tail.tail.tail.tail.tail.tail.tail | exact h.tail.tail.tail.tail.tail.tail.tail.tail.tail.tail.tail.tail.tail)⟩
    ·
      refine Qt (Qb (Qe (Qe (Qg ?_))))
      refine Qa rfl rfl (Qh rfl rfl KF.fld_27_0 rfl) ?_
      refine Qa rfl rfl (Qj 1 rfl rfl Tryz.underlying3 rfl rfl rfl (fun _ => rfl)) ?_
      refine Qa rfl rfl (QT_neq rfl rfl rfl rfl) ?_
      refine Qa rfl rfl (Qc rfl rfl rfl) ?_
      refine Qa rfl rfl (Qh rfl rfl KF.fld_27_3 rfl) ?_
      refine Qa rfl rfl (Qj 1 rfl rfl Tryz.underlying3 rfl rfl rfl (fun _ => rfl)) ?_
      refine TL_split (r := 35) rfl (fun g38 => ?_) (fun g38 => ?_)
      ·
        refine TL_e rfl rfl rfl (rfl) (ET_buildSlice rfl Tryz.underlying175 KF.sz_3 KF.zero_3 rfl rfl rfl) ?_
        rintro _ _ ⟨b38, rfl, rfl⟩
        refine TL_cq rfl rfl rfl rfl KF.cal_103 rfl (fun _ => in_spec w0 _ L.fl [2, 4, 8] _ 3 (by decide) (Rd.own 0 rfl)) ?_
        refine Qa rfl rfl (QT_not rfl rfl rfl) ?_
        refine Qa rfl rfl (QT_and rfl rfl rfl rfl) ?_
        refine Qa rfl rfl (Qc rfl rfl rfl) ?_
        refine Qa rfl rfl (Qh rfl rfl KF.fld_27_0 rfl) ?_
        refine Qa rfl rfl (Qj 2 rfl rfl Tryz.underlying3 rfl rfl rfl (fun _ => rfl)) ?_
        refine Qa rfl rfl (QT_eql rfl rfl rfl rfl) ?_
        refine Qa rfl rfl (Qc rfl rfl rfl) ?_
        refine Qa rfl rfl (Qh rfl rfl KF.fld_27_5 rfl) ?_
        refine Qa rfl rfl (Qj 2 rfl rfl Tryz.underlying3 rfl rfl rfl (fun _ => rfl)) ?_
        refine Qa rfl rfl (QT_lss rfl rfl rfl rfl) ?_
        refine Qa rfl rfl (QT_and rfl rfl rfl rfl) ?_
        refine Qa rfl rfl (QT_or rfl rfl rfl rfl) ?_
        refine Qf (Qb ?_)
        refine TC_cond rfl (fun h51 => ?_) (fun h51 => ?_)
        ·
          refine Qe (Qg ?_)
          refine Qa rfl rfl (Qd rfl rfl rfl) ?_
          refine Qf (Qb ?_)
          refine Qu ?_
          refine Qn ?_
          exact Qs (.inl rfl) (res1 rfl rfl) ⟨_, ⟨by unfold errOf okB base; rw [mayB_co, mayB_cm, mayB_fl]; grind, rfl⟩, (fun _ h => by first | exact h | exact h.tail | exact h.tail.tail | exact h.tail.tail.tail | exact h.tail.tail.tail.tail | exact h.tail.tail.tail.tail.tail | exact h.tail.tail.tail.tail.tail.tail | exact h.tail.tail.tail.tail.tail.tail.tail | exact h.tail.tail.tail.tail.tail.tail.tail.tail | exact h.tail.tail.tail.tail.tail.tail.tail.tail.tail | exact h.tail.tail.tail.tail.tail.tail.tail.tail.tail.tail | exact h.tail.tail.tail.tail.tail.tail.tail.tail.tail.tail.tail | exact h.tail.tail.tail.tail.tail.tail.tail.tail.tail.tail.tail.tail | exact h.tail.tail.tail.tail.tail.tail.tail.tail.tail.tail.tail.tail.tail)⟩
        ·
          refine Qt (Qb (Qe (Qg ?_)))
          refine Qa rfl rfl (Qd rfl rfl rfl) ?_
          refine Qf (Qb ?_)
          refine Qu ?_
          exact Qs (.inl rfl) (res1 rfl rfl) ⟨_, ⟨by unfold errOf okB base; rw [mayB_co, mayB_cm, mayB_fl]; grind, rfl⟩, (fun _ h => by first | exact h | exact h.tail | exact h.tail.tail | exact h.tail.tail.tail | exact h.tail.tail.tail.tail | exact h.tail.tail.tail.tail.tail | exact h.tail.tail.tail.tail.tail.tail | exact h.tail.tail.tail.tail.tail.tail.tail | exact h.tail.tail.tail.tail.tail.tail.tail.tail | exact h.tail.tail.tail.tail.tail.tail.tail.tail.tail | exact h.tail.tail.tail.tail.tail.tail.tail.tail.tail.tail | exact h.tail.tail.tail.tail.tail.tail.tail.tail.tail.tail.tail | exact h.tail.tail.tail.tail.tail.tail.tail.tail.tail.tail.tail.tail | exact h.tail.tail.tail.tail.tail.tail.tail.tail.tail.tail.tail.tail.tail)⟩
      ·
        refine TL_skip rfl rfl rfl rfl ?_
        refine TL_skip rfl rfl rfl rfl ?_
        refine TL_skip rfl rfl rfl rfl ?_
        refine Qa rfl rfl (QT_and_f rfl rfl rfl (fun _ => rfl)) ?_
        refine Qa rfl rfl (Qc rfl rfl rfl) ?_
        refine Qa rfl rfl (Qh rfl rfl KF.fld_27_0 rfl) ?_
        first
          | refine TL_skip rfl rfl rfl rfl ?_
          | (
             first
               | refine Qa rfl rfl (Qj 0 rfl rfl Tryz.underlying3 rfl rfl rfl (fun _ => rfl)) ?_
               | refine Qa rfl rfl (Qj 1 rfl rfl Tryz.underlying3 rfl rfl rfl (fun _ => rfl)) ?_
               | refine Qa rfl rfl (Qj 2 rfl rfl Tryz.underlying3 rfl rfl rfl (fun _ => rfl)) ?_
               | refine Qa rfl rfl (Qj 3 rfl rfl Tryz.underlying3 rfl rfl rfl (fun _ => rfl)) ?_
               | refine Qa rfl rfl (Qj 4 rfl rfl Tryz.underlying3 rfl rfl rfl (fun _ => rfl)) ?_
               | refine Qa rfl rfl (Qj 5 rfl rfl Tryz.underlying3 rfl rfl rfl (fun _ => rfl)) ?_)
        refine Qa rfl rfl (QT_eql rfl rfl rfl rfl) ?_
        refine Qa rfl rfl (Qc rfl rfl rfl) ?_
        refine Qa rfl rfl (Qh rfl rfl KF.fld_27_5 rfl) ?_
        first
          | refine TL_skip rfl rfl rfl rfl ?_
          | (
             first
               | refine Qa rfl rfl (Qj 0 rfl rfl Tryz.underlying3 rfl rfl rfl (fun _ => rfl)) ?_
               | refine Qa rfl rfl (Qj 1 rfl rfl Tryz.underlying3 rfl rfl rfl (fun _ => rfl)) ?_
               | refine Qa rfl rfl (Qj 2 rfl rfl Tryz.underlying3 rfl rfl rfl (fun _ => rfl)) ?_
               | refine Qa rfl rfl (Qj 3 rfl rfl Tryz.underlying3 rfl rfl rfl (fun _ => rfl)) ?_
               | refine Qa rfl rfl (Qj 4 rfl rfl Tryz.underlying3 rfl rfl rfl (fun _ => rfl)) ?_
               | refine Qa rfl rfl (Qj 5 rfl rfl Tryz.underlying3 rfl rfl rfl (fun _ => rfl)) ?_)
        refine Qa rfl rfl (QT_lss rfl rfl rfl rfl) ?_
        refine Qa rfl rfl (QT_and rfl rfl rfl rfl) ?_
        refine Qa rfl rfl (QT_or rfl rfl rfl rfl) ?_
        refine Qf (Qb ?_)
        refine TC_cond rfl (fun h51 => ?_) (fun h51 => ?_)
        ·
          refine Qe (Qg ?_)
          refine Qa rfl rfl (Qd rfl rfl rfl) ?_
          refine Qf (Qb ?_)
          refine Qu ?_
          refine Qn ?_
          exact Qs (.inl rfl) (res1 rfl rfl) ⟨_, ⟨by unfold errOf okB base; rw [mayB_co, mayB_cm, mayB_fl]; grind, rfl⟩, (fun _ h => by first | exact h | exact h.tail | exact h.tail.tail | exact h.tail.tail.tail | exact h.tail.tail.tail.tail | exact h.tail.tail.tail.tail.tail | exact h.tail.tail.tail.tail.tail.tail | exact h.tail.tail.tail.tail.tail.tail.tail | exact h.tail.tail.tail.tail.tail.tail.tail.tail | exact h.tail.tail.tail.tail.tail.tail.tail.tail.tail | exact h.tail.tail.tail.tail.tail.tail.tail.tail.tail.tail | exact h.tail.tail.tail.tail.tail.tail.tail.tail.tail.tail.tail | exact h.tail.tail.tail.tail.tail.tail.tail.tail.tail.tail.tail.tail | exact h.tail.tail.tail.tail.tail.tail.tail.tail.tail.tail.tail.tail.tail)⟩
        ·
          refine Qt (Qb (Qe (Qg ?_)))
          refine Qa rfl rfl (Qd rfl rfl rfl) ?_
          refine Qf (Qb ?_)
          refine Qu ?_
          exact Qs (.inl rfl) (res1 rfl rfl) ⟨_, ⟨by unfold errOf okB base; rw [mayB_co, mayB_cm, mayB_fl]; grind, rfl⟩, (fun _ h => by first | exact h | exact h.tail | exact h.tail.tail | exact h.tail.tail.tail | exact h.tail.tail.tail.tail | exact h.tail.tail.tail.tail.tail | exact h.tail.tail.tail.tail.tail.tail | exact h.tail.tail.tail.tail.tail.tail.tail | exact h.tail.tail.tail.tail.tail.tail.tail.tail | exact h.tail.tail.tail.tail.tail.tail.tail.tail.tail | exact h.tail.tail.tail.tail.tail.tail.tail.tail.tail.tail | exact h.tail.tail.tail.tail.tail.tail.tail.tail.tail.tail.tail | exact h.tail.tail.tail.tail.tail.tail.tail.tail.tail.tail.tail.tail | exact h.tail.tail.tail.tail.tail.tail.tail.tail.tail.tail.tail.tail.tail)⟩
  ·
    refine TL_e rfl rfl rfl (rfl) (ET_buildSlice rfl Tryz.underlying175 KF.sz_3 KF.zero_3 rfl rfl rfl) ?_
    rintro _ _ ⟨b11, rfl, rfl⟩
    refine TL_cq rfl rfl rfl rfl KF.cal_103 rfl (fun _ => in_spec w0 _ L.co [1, 2, 4, 8, 12, 16, 24, 32] _ 8 (by decide) (Rd.own 0 rfl)) ?_
    refine Qa rfl rfl (QT_not rfl rfl rfl) ?_
    refine Qa rfl rfl (QT_or rfl rfl rfl rfl) ?_
    refine Qa rfl rfl (Qc rfl rfl rfl) ?_
    refine Qa rfl rfl (Qh rfl rfl KF.fld_27_2 rfl) ?_
    refine Qa rfl rfl (Qj 2 rfl rfl Tryz.underlying3 rfl rfl rfl (fun _ => rfl)) ?_
    refine TL_split (r := 15) rfl (fun g18 => ?_) (fun g18 => ?_)
    ·
      refine TL_skip rfl rfl rfl rfl ?_
      refine TL_skip rfl rfl rfl rfl ?_
      refine TL_skip rfl rfl rfl rfl ?_
      refine Qa rfl rfl (QT_or_t rfl rfl rfl (fun _ => rfl)) ?_
      refine Qa rfl rfl (Qc rfl rfl rfl) ?_
      refine TL_skip rfl rfl rfl rfl ?_
      first
        | refine TL_skip rfl rfl rfl rfl ?_
        | (
           first
             | refine Qa rfl rfl (Qj 0 rfl rfl Tryz.underlying3 rfl rfl rfl (fun _ => rfl)) ?_
             | refine Qa rfl rfl (Qj 1 rfl rfl Tryz.underlying3 rfl rfl rfl (fun _ => rfl)) ?_
             | refine Qa rfl rfl (Qj 2 rfl rfl Tryz.underlying3 rfl rfl rfl (fun _ => rfl)) ?_
             | refine Qa rfl rfl (Qj 3 rfl rfl Tryz.underlying3 rfl rfl rfl (fun _ => rfl)) ?_
             | refine Qa rfl rfl (Qj 4 rfl rfl Tryz.underlying3 rfl rfl rfl (fun _ => rfl)) ?_
             | refine Qa rfl rfl (Qj 5 rfl rfl Tryz.underlying3 rfl rfl rfl (fun _ => rfl)) ?_)
      refine TL_skip rfl rfl rfl rfl ?_
      refine Qa rfl rfl (QT_or_t rfl rfl rfl (fun _ => rfl)) ?_
      refine Qa rfl rfl (Qc rfl rfl rfl) ?_
      refine TL_skip rfl rfl rfl rfl ?_
      first
        | refine TL_skip rfl rfl rfl rfl ?_
        | (
           first
             | refine Qa rfl rfl (Qj 0 rfl rfl Tryz.underlying3 rfl rfl rfl (fun _ => rfl)) ?_
             | refine Qa rfl rfl (Qj 1 rfl rfl Tryz.underlying3 rfl rfl rfl (fun _ => rfl)) ?_
             | refine Qa rfl rfl (Qj 2 rfl rfl Tryz.underlying3 rfl rfl rfl (fun _ => rfl)) ?_
             | refine Qa rfl rfl (Qj 3 rfl rfl Tryz.underlying3 rfl rfl rfl (fun _ => rfl)) ?_
             | refine Qa rfl rfl (Qj 4 rfl rfl Tryz.underlying3 rfl rfl rfl (fun _ => rfl)) ?_
             | refine Qa rfl rfl (Qj 5 rfl rfl Tryz.underlying3 rfl rfl rfl (fun _ => rfl)) ?_)
      refine TL_skip rfl rfl rfl rfl ?_
      refine Qa rfl rfl (QT_or_t rfl rfl rfl (fun _ => rfl)) ?_
      refine Qf (Qb ?_)
      refine TC_cond rfl (fun h31 => ?_) (fun h31 => ?_)
      ·
        refine Qe (Qg ?_)
        refine Qa rfl rfl (Qd rfl rfl rfl) ?_
        refine Qf (Qb ?_)
        refine Qu ?_
        refine Qn ?_
        exact Qs (.inl rfl) (res1 rfl rfl) ⟨_, ⟨by unfold errOf okB base; rw [mayB_co, mayB_cm, mayB_fl]; grind, rfl⟩, (fun _ h => by first | exact h | exact h.tail | exact h.tail.tail | exact h.tail.tail.tail | exact h.tail.tail.tail.tail | exact h.tail.tail.tail.tail.tail | exact h.tail.tail.tail.tail.tail.tail | exact h.tail.tail.tail.tail.tail.tail.tail | exact h.tail.tail.tail.tail.tail.tail.tail.tail | exact h.tail.tail.tail.tail.tail.tail.tail.tail.tail | exact h.tail.tail.tail.tail.tail.tail.tail.tail.tail.tail | exact h.tail.tail.tail.tail.tail.tail.tail.tail.tail.tail.tail | exact h.tail.tail.tail.tail.tail.tail.tail.tail.tail.tail.tail.tail | exact h.tail.tail.tail.tail.tail.tail.tail.tail.tail.tail.tail.tail.tail)⟩
      ·
        refine Qt (Qb (Qe (Qe (Qg ?_))))
        refine Qa rfl rfl (Qh rfl rfl KF.fld_27_0 rfl) ?_
        refine Qa rfl rfl (Qj 2 rfl rfl Tryz.underlying3 rfl rfl rfl (fun _ => rfl)) ?_
        refine Qa rfl rfl (QT_neq rfl rfl rfl rfl) ?_
        refine Qa rfl rfl (Qc rfl rfl rfl) ?_
        refine Qa rfl rfl (Qh rfl rfl KF.fld_27_3 rfl) ?_
        refine Qa rfl rfl (Qj 2 rfl rfl Tryz.underlying3 rfl rfl rfl (fun _ => rfl)) ?_
        refine TL_split (r := 35) rfl (fun g38 => ?_) (fun g38 => ?_)
        ·
          refine TL_e rfl rfl rfl (rfl) (ET_buildSlice rfl Tryz.underlying175 KF.sz_3 KF.zero_3 rfl rfl rfl) ?_
          rintro _ _ ⟨b38, rfl, rfl⟩
          refine TL_cq rfl rfl rfl rfl KF.cal_103 rfl (fun _ => in_spec w0 _ L.fl [2, 4, 8] _ 3 (by decide) (Rd.own 0 rfl)) ?_
          refine Qa rfl rfl (QT_not rfl rfl rfl) ?_
          refine Qa rfl rfl (QT_and rfl rfl rfl rfl) ?_
          refine Qa rfl rfl (Qc rfl rfl rfl) ?_
          refine Qa rfl rfl (Qh rfl rfl KF.fld_27_0 rfl) ?_
          refine Qa rfl rfl (Qj 3 rfl rfl Tryz.underlying3 rfl rfl rfl (fun _ => rfl)) ?_
          refine Qa rfl rfl (QT_eql rfl rfl rfl rfl) ?_
          refine Qa rfl rfl (Qc rfl rfl rfl) ?_
          refine Qa rfl rfl (Qh rfl rfl KF.fld_27_5 rfl) ?_
          refine Qa rfl rfl (Qj 3 rfl rfl Tryz.underlying3 rfl rfl rfl (fun _ => rfl)) ?_
          refine Qa rfl rfl (QT_lss rfl rfl rfl rfl) ?_
          refine Qa rfl rfl (QT_and rfl rfl rfl rfl) ?_
          refine Qa rfl rfl (QT_or rfl rfl rfl rfl) ?_
          refine Qf (Qb ?_)
          refine TC_cond rfl (fun h51 => ?_) (fun h51 => ?_)
          ·
            refine Qe (Qg ?_)
            refine Qa rfl rfl (Qd rfl rfl rfl) ?_
            refine Qf (Qb ?_)
            refine Qu ?_
            refine Qn ?_
            exact Qs (.inl rfl) (res1 rfl rfl) ⟨_, ⟨by unfold errOf okB base; rw [mayB_co, mayB_cm, mayB_fl]; grind, rfl⟩, (fun _ h => by first | exact h | exact h.tail | exact h.tail.tail | exact h.tail.tail.tail | exact h.tail.tail.tail.tail | exact h.tail.tail.tail.tail.tail | exact h.tail.tail.tail.tail.tail.tail | exact h.tail.tail.tail.tail.tail.tail.tail | exact h.tail.tail.tail.tail.tail.tail.tail.tail | exact h.tail.tail.tail.tail.tail.tail.tail.tail.tail | exact h.tail.tail.tail.tail.tail.tail.tail.tail.tail.tail | exact h.tail.tail.tail.tail.tail.tail.tail.tail.tail.tail.tail | exact h.tail.tail.tail.tail.tail.tail.tail.tail.tail.tail.tail.tail | exact h.tail.tail.tail.tail.tail.tail.tail.tail.tail.tail.tail.tail.tail)⟩
          ·
            refine Qt (Qb (Qe (Qg ?_)))
            refine Qa rfl rfl (Qd rfl rfl rfl) ?_
            refine Qf (Qb ?_)
            refine Qu ?_
            exact Qs (.inl rfl) (res1 rfl rfl) ⟨_, ⟨by unfold errOf okB base; rw [mayB_co, mayB_cm, mayB_fl]; grind, rfl⟩, (fun _ h => by first | exact h | exact h.tail | exact h.tail.tail | exact h.tail.tail.tail | exact h.tail.tail.tail.tail | exact h.tail.tail.tail.tail.tail | exact h.tail.tail.tail.tail.tail.tail | exact h.tail.tail.tail.tail.tail.tail.tail | exact h.tail.tail.tail.tail.tail.tail.tail.tail | exact h.tail.tail.tail.tail.tail.tail.tail.tail.tail | exact h.tail.tail.tail.tail.tail.tail.tail.tail.tail.tail | exact h.tail.tail.tail.tail.tail.tail.tail.tail.tail.tail.tail | exact h.tail.tail.tail.tail.tail.tail.tail.tail.tail.tail.tail.tail | exact h.tail.tail.tail.tail.tail.tail.tail.tail.tail.tail.tail.tail.tail)⟩
        ·
          refine TL_skip rfl rfl rfl rfl ?_
          refine TL_skip rfl rfl rfl rfl ?_
          refine TL_skip rfl rfl rfl rfl ?_
          refine Qa rfl rfl (QT_and_f rfl rfl rfl (fun _ => rfl)) ?_
          refine Qa rfl rfl (Qc rfl rfl rfl) ?_
          refine Qa rfl rfl (Qh rfl rfl KF.fld_27_0 rfl) ?_
          first
            | refine TL_skip rfl rfl rfl rfl ?_
            | (
               first
                 | refine Qa rfl rfl (Qj 0 rfl rfl Tryz.underlying3 rfl rfl rfl (fun _ => rfl)) ?_
                 | refine Qa rfl rfl (Qj 1 rfl rfl Tryz.underlying3 rfl rfl rfl (fun _ => rfl)) ?_
                 | refine Qa rfl rfl (Qj 2 rfl rfl Tryz.underlying3 rfl rfl rfl (fun _ => rfl)) ?_
                 | refine Qa rfl rfl (Qj 3 rfl rfl Tryz.underlying3 rfl rfl rfl (fun _ => rfl)) ?_
                 | refine Qa rfl rfl (Qj 4 rfl rfl Tryz.underlying3 rfl rfl rfl (fun _ => rfl)) ?_
                 | refine Qa rfl rfl (Qj 5 rfl rfl Tryz.underlying3 rfl rfl rfl (fun _ => rfl)) ?_)
          refine Qa rfl rfl (QT_eql rfl rfl rfl rfl) ?_
          refine Qa rfl rfl (Qc rfl rfl rfl) ?_
          refine Qa rfl rfl (Qh rfl rfl KF.fld_27_5 rfl) ?_
          first
            | refine TL_skip rfl rfl rfl rfl ?_
            | (
               first
                 | refine Qa rfl rfl (Qj 0 rfl rfl Tryz.underlying3 rfl rfl rfl (fun _ => rfl)) ?_
                 | refine Qa rfl rfl (Qj 1 rfl rfl Tryz.underlying3 rfl rfl rfl (fun _ => rfl)) ?_
                 | refine Qa rfl rfl (Qj 2 rfl rfl Tryz.underlying3 rfl rfl rfl (fun _ => rfl)) ?_
                 | refine Qa rfl rfl (Qj 3 rfl rfl Tryz.underlying3 rfl rfl rfl (fun _ => rfl)) ?_
                 | refine Qa rfl rfl (Qj 4 rfl rfl Tryz.underlying3 rfl rfl rfl (fun _ => rfl)) ?_
                 | refine Qa rfl rfl (Qj 5 rfl rfl Tryz.underlying3 rfl rfl rfl (fun _ => rfl)) ?_)
          refine Qa rfl rfl (QT_lss rfl rfl rfl rfl) ?_
          refine Qa rfl rfl (QT_and rfl rfl rfl rfl) ?_
          refine Qa rfl rfl (QT_or rfl rfl rfl rfl) ?_
          refine Qf (Qb ?_)
          refine TC_cond rfl (fun h51 => ?_) (fun h51 => ?_)
          ·
            refine Qe (Qg ?_)
            refine Qa rfl rfl (Qd rfl rfl rfl) ?_
            refine Qf (Qb ?_)
            refine Qu ?_
            refine Qn ?_
            exact Qs (.inl rfl) (res1 rfl rfl) ⟨_, ⟨by unfold errOf okB base; rw [mayB_co, mayB_cm, mayB_fl]; grind, rfl⟩, (fun _ h => by first | exact h | exact h.tail | exact h.tail.tail | exact h.tail.tail.tail | exact h.tail.tail.tail.tail | exact h.tail.tail.tail.tail.tail | exact h.tail.tail.tail.tail.tail.tail | exact h.tail.tail.tail.tail.tail.tail.tail | exact h.tail.tail.tail.tail.tail.tail.tail.tail | exact h.tail.tail.tail.tail.tail.tail.tail.tail.tail | exact h.tail.tail.tail.tail.tail.tail.tail.tail.tail.tail | exact h.tail.tail.tail.tail.tail.tail.tail.tail.tail.tail.tail | exact h.tail.tail.tail.tail.tail.tail.tail.tail.tail.tail.tail.tail | exact h.tail.tail.tail.tail.tail.tail.tail.tail.tail.tail.tail.tail.tail)⟩
          ·
            refine Qt (Qb (Qe (Qg ?_)))
            refine Qa rfl rfl (Qd rfl rfl rfl) ?_
            refine Qf (Qb ?_)
            refine Qu ?_
            exact Qs (.inl rfl) (res1 rfl rfl) ⟨_, ⟨by unfold errOf okB base; rw [mayB_co, mayB_cm, mayB_fl]; grind, rfl⟩, (fun _ h => by first | exact h | exact h.tail | exact h.tail.tail | exact h.tail.tail.tail | exact h.tail.tail.tail.tail | exact h.tail.tail.tail.tail.tail | exact h.tail.tail.tail.tail.tail.tail | exact h.tail.tail.tail.tail.tail.tail.tail | exact h.tail.tail.tail.tail.tail.tail.tail.tail | exact h.tail.tail.tail.tail.tail.tail.tail.tail.tail | exact h.tail.tail.tail.tail.tail.tail.tail.tail.tail.tail | exact h.tail.tail.tail.tail.tail.tail.tail.tail.tail.tail.tail | exact h.tail.tail.tail.tail.tail.tail.tail.tail.tail.tail.tail.tail | exact h.tail.tail.tail.tail.tail.tail.tail.tail.tail.tail.tail.tail.tail)⟩
    ·
      refine TL_e rfl rfl rfl (rfl) (ET_buildSlice rfl Tryz.underlying175 KF.sz_3 KF.zero_3 rfl rfl rfl) ?_
      rintro _ _ ⟨b18, rfl, rfl⟩
      refine TL_cq rfl rfl rfl rfl KF.cal_103 rfl (fun _ => in_spec w0 _ L.cm [1, 2, 4, 8, 12, 16] _ 6 (by decide) (Rd.own 0 rfl)) ?_
      refine Qa rfl rfl (QT_not rfl rfl rfl) ?_
      refine Qa rfl rfl (QT_or rfl rfl rfl rfl) ?_
      refine Qa rfl rfl (Qc rfl rfl rfl) ?_
      refine Qa rfl rfl (Qh rfl rfl KF.fld_27_4 rfl) ?_
      refine Qa rfl rfl (Qj 3 rfl rfl Tryz.underlying3 rfl rfl rfl (fun _ => rfl)) ?_
      refine Qa rfl rfl (QT_lss rfl rfl rfl rfl) ?_
      refine Qa rfl rfl (QT_or rfl rfl rfl rfl) ?_
      refine Qa rfl rfl (Qc rfl rfl rfl) ?_
      refine Qa rfl rfl (Qh rfl rfl KF.fld_27_4 rfl) ?_
      refine Qa rfl rfl (Qj 3 rfl rfl Tryz.underlying3 rfl rfl rfl (fun _ => rfl)) ?_
      refine Qa rfl rfl (QT_gtr rfl rfl rfl rfl) ?_
      refine Qa rfl rfl (QT_or rfl rfl rfl rfl) ?_
      refine Qf (Qb ?_)
      refine TC_cond rfl (fun h31 => ?_) (fun h31 => ?_)
      ·
        refine Qe (Qg ?_)
        refine Qa rfl rfl (Qd rfl rfl rfl) ?_
        refine Qf (Qb ?_)
        refine Qu ?_
        refine Qn ?_
        exact Qs (.inl rfl) (res1 rfl rfl) ⟨_, ⟨by unfold errOf okB base; rw [mayB_co, mayB_cm, mayB_fl]; grind, rfl⟩, (fun _ h => by first | exact h | exact h.tail | exact h.tail.tail | exact h.tail.tail.tail | exact h.tail.tail.tail.tail | exact h.tail.tail.tail.tail.tail | exact h.tail.tail.tail.tail.tail.tail | exact h.tail.tail.tail.tail.tail.tail.tail | exact h.tail.tail.tail.tail.tail.tail.tail.tail | exact h.tail.tail.tail.tail.tail.tail.tail.tail.tail | exact h.tail.tail.tail.tail.tail.tail.tail.tail.tail.tail | exact h.tail.tail.tail.tail.tail.tail.tail.tail.tail.tail.tail | exact h.tail.tail.tail.tail.tail.tail.tail.tail.tail.tail.tail.tail | exact h.tail.tail.tail.tail.tail.tail.tail.tail.tail.tail.tail.tail.tail)⟩
      ·
        refine Qt (Qb (Qe (Qe (Qg ?_))))
        refine Qa rfl rfl (Qh rfl rfl KF.fld_27_0 rfl) ?_
        refine Qa rfl rfl (Qj 3 rfl rfl Tryz.underlying3 rfl rfl rfl (fun _ => rfl)) ?_
        refine Qa rfl rfl (QT_neq rfl rfl rfl rfl) ?_
        refine Qa rfl rfl (Qc rfl rfl rfl) ?_
        refine Qa rfl rfl (Qh rfl rfl KF.fld_27_3 rfl) ?_
        refine Qa rfl rfl (Qj 3 rfl rfl Tryz.underlying3 rfl rfl rfl (fun _ => rfl)) ?_
        refine TL_split (r := 35) rfl (fun g38 => ?_) (fun g38 => ?_)
        ·
          refine TL_e rfl rfl rfl (rfl) (ET_buildSlice rfl Tryz.underlying175 KF.sz_3 KF.zero_3 rfl rfl rfl) ?_
          rintro _ _ ⟨b38, rfl, rfl⟩
          refine TL_cq rfl rfl rfl rfl KF.cal_103 rfl (fun _ => in_spec w0 _ L.fl [2, 4, 8] _ 3 (by decide) (Rd.own 0 rfl)) ?_
          refine Qa rfl rfl (QT_not rfl rfl rfl) ?_
          refine Qa rfl rfl (QT_and rfl rfl rfl rfl) ?_
          refine Qa rfl rfl (Qc rfl rfl rfl) ?_
          refine Qa rfl rfl (Qh rfl rfl KF.fld_27_0 rfl) ?_
          refine Qa rfl rfl (Qj 4 rfl rfl Tryz.underlying3 rfl rfl rfl (fun _ => rfl)) ?_
          refine Qa rfl rfl (QT_eql rfl rfl rfl rfl) ?_
          refine Qa rfl rfl (Qc rfl rfl rfl) ?_
          refine Qa rfl rfl (Qh rfl rfl KF.fld_27_5 rfl) ?_
          refine Qa rfl rfl (Qj 4 rfl rfl Tryz.underlying3 rfl rfl rfl (fun _ => rfl)) ?_
          refine Qa rfl rfl (QT_lss rfl rfl rfl rfl) ?_
          refine Qa rfl rfl (QT_and rfl rfl rfl rfl) ?_
          refine Qa rfl rfl (QT_or rfl rfl rfl rfl) ?_
          refine Qf (Qb ?_)
          refine TC_cond rfl (fun h51 => ?_) (fun h51 => ?_)
          ·
            refine Qe (Qg ?_)
            refine Qa rfl rfl (Qd rfl rfl rfl) ?_
            refine Qf (Qb ?_)
            refine Qu ?_
            refine Qn ?_
            exact Qs (.inl rfl) (res1 rfl rfl) ⟨_, ⟨by unfold errOf okB base; rw [mayB_co, mayB_cm, mayB_fl]; grind, rfl⟩, (fun _ h => by first | exact h | exact h.tail | exact h.tail.tail | exact h.tail.tail.tail | exact h.tail.tail.tail.tail | exact h.tail.tail.tail.tail.tail | exact h.tail.tail.tail.tail.tail.tail | exact h.tail.tail.tail.tail.tail.tail.tail | exact h.tail.tail.tail.tail.tail.tail.tail.tail | exact h.tail.tail.tail.tail.tail.tail.tail.tail.tail | exact h.tail.tail.tail.tail.tail.tail.tail.tail.tail.tail | exact h.tail.tail.tail.tail.tail.tail.tail.tail.tail.tail.tail | exact h.tail.tail.tail.tail.tail.tail.tail.tail.tail.tail.tail.tail | exact h.tail.tail.tail.tail.tail.tail.tail.tail.tail.tail.tail.tail.tail)⟩
          ·
            refine Qt (Qb (Qe (Qg ?_)))
            refine Qa rfl rfl (Qd rfl rfl rfl) ?_
            refine Qf (Qb ?_)
            refine Qu ?_
            exact Qs (.inl rfl) (res1 rfl rfl) ⟨_, ⟨by unfold errOf okB base; rw [mayB_co, mayB_cm, mayB_fl]; grind, rfl⟩, (fun _ h => by first | exact h | exact h.tail | exact h.tail.tail | exact h.tail.tail.tail | exact h.tail.tail.tail.tail | exact h.tail.tail.tail.tail.tail | exact h.tail.tail.tail.tail.tail.tail | exact h.tail.tail.tail.tail.tail.tail.tail | exact h.tail.tail.tail.tail.tail.tail.tail.tail | exact h.tail.tail.tail.tail.tail.tail.tail.tail.tail | exact h.tail.tail.tail.tail.tail.tail.tail.tail.tail.tail | exact h.tail.tail.tail.tail.tail.tail.tail.tail.tail.tail.tail | exact h.tail.tail.tail.tail.tail.tail.tail.tail.tail.tail.tail.tail | exact h.tail.tail.tail.tail.tail.tail.tail.tail.tail.tail.tail.tail.tail)⟩
        ·
          refine TL_skip rfl rfl rfl rfl ?_
          refine TL_skip rfl rfl rfl rfl ?_
          refine TL_skip rfl rfl rfl rfl ?_
          refine Qa rfl rfl (QT_and_f rfl rfl rfl (fun _ => rfl)) ?_
          refine Qa rfl rfl (Qc rfl rfl rfl) ?_
          refine Qa rfl rfl (Qh rfl rfl KF.fld_27_0 rfl) ?_
          first
            | refine TL_skip rfl rfl rfl rfl ?_
            | (
               first
                 | refine Qa rfl rfl (Qj 0 rfl rfl Tryz.underlying3 rfl rfl rfl (fun _ => rfl)) ?_
                 | refine Qa rfl rfl (Qj 1 rfl rfl Tryz.underlying3 rfl rfl rfl (fun _ => rfl)) ?_
                 | refine Qa rfl rfl (Qj 2 rfl rfl Tryz.underlying3 rfl rfl rfl (fun _ => rfl)) ?_
                 | refine Qa rfl rfl (Qj 3 rfl rfl Tryz.underlying3 rfl rfl rfl (fun _ => rfl)) ?_
                 | refine Qa rfl rfl (Qj 4 rfl rfl Tryz.underlying3 rfl rfl rfl (fun _ => rfl)) ?_
                 | refine Qa rfl rfl (Qj 5 rfl rfl Tryz.underlying3 rfl rfl rfl (fun _ => rfl)) ?_)
          refine Qa rfl rfl (QT_eql rfl rfl rfl rfl) ?_
          refine Qa rfl rfl (Qc rfl rfl rfl) ?_
          refine Qa rfl rfl (Qh rfl rfl KF.fld_27_5 rfl) ?_
          first
            | refine TL_skip rfl rfl rfl rfl ?_
            | (
               first
                 | refine Qa rfl rfl (Qj 0 rfl rfl Tryz.underlying3 rfl rfl rfl (fun _ => rfl)) ?_
                 | refine Qa rfl rfl (Qj 1 rfl rfl Tryz.underlying3 rfl rfl rfl (fun _ => rfl)) ?_
                 | refine Qa rfl rfl (Qj 2 rfl rfl Tryz.underlying3 rfl rfl rfl (fun _ => rfl)) ?_
                 | refine Qa rfl rfl (Qj 3 rfl rfl Tryz.underlying3 rfl rfl rfl (fun _ => rfl)) ?_
                 | refine Qa rfl rfl (Qj 4 rfl rfl Tryz.underlying3 rfl rfl rfl (fun _ => rfl)) ?_
                 | refine Qa rfl rfl (Qj 5 rfl rfl Tryz.underlying3 rfl rfl rfl (fun _ => rfl)) ?_)
          refine Qa rfl rfl (QT_lss rfl rfl rfl rfl) ?_
          refine Qa rfl rfl (QT_and rfl rfl rfl rfl) ?_
          refine Qa rfl rfl (QT_or rfl rfl rfl rfl) ?_
          refine Qf (Qb ?_)
          refine TC_cond rfl (fun h51 => ?_) (fun h51 => ?_)
          ·
            refine Qe (Qg ?_)
            refine Qa rfl rfl (Qd rfl rfl rfl) ?_
            refine Qf (Qb ?_)
            refine Qu ?_
            refine Qn ?_
            exact Qs (.inl rfl) (res1 rfl rfl) ⟨_, ⟨by unfold errOf okB base; rw [mayB_co, mayB_cm, mayB_fl]; grind, rfl⟩, (fun _ h => by first | exact h | exact h.tail | exact h.tail.tail | exact h.tail.tail.tail | exact h.tail.tail.tail.tail | exact h.tail.tail.tail.tail.tail | exact h.tail.tail.tail.tail.tail.tail | exact h.tail.tail.tail.tail.tail.tail.tail | exact h.tail.tail.tail.tail.tail.tail.tail.tail | exact h.tail.tail.tail.tail.tail.tail.tail.tail.tail | exact h.tail.tail.tail.tail.tail.tail.tail.tail.tail.tail | exact h.tail.tail.tail.tail.tail.tail.tail.tail.tail.tail.tail | exact h.tail.tail.tail.tail.tail.tail.tail.tail.tail.tail.tail.tail | exact h.tail.tail.tail.tail.tail.tail.tail.tail.tail.tail.tail.tail.tail)⟩
          ·
            refine Qt (Qb (Qe (Qg ?_)))
            refine Qa rfl rfl (Qd rfl rfl rfl) ?_
            refine Qf (Qb ?_)
            refine Qu ?_
            exact Qs (.inl rfl) (res1 rfl rfl) ⟨_, ⟨by unfold errOf okB base; rw [mayB_co, mayB_cm, mayB_fl]; grind, rfl⟩, (fun _ h => by first | exact h | exact h.tail | exact h.tail.tail | exact h.tail.tail.tail | exact h.tail.tail.tail.tail | exact h.tail.tail.tail.tail.tail | exact h.tail.tail.tail.tail.tail.tail | exact h.tail.tail.tail.tail.tail.tail.tail | exact h.tail.tail.tail.tail.tail.tail.tail.tail | exact h.tail.tail.tail.tail.tail.tail.tail.tail.tail | exact h.tail.tail.tail.tail.tail.tail.tail.tail.tail.tail | exact h.tail.tail.tail.tail.tail.tail.tail.tail.tail.tail.tail | exact h.tail.tail.tail.tail.tail.tail.tail.tail.tail.tail.tail.tail | exact h.tail.tail.tail.tail.tail.tail.tail.tail.tail.tail.tail.tail.tail)⟩
theorem parts_spec (w0 : Base) (η : Heap) (L : Lay) (f : Int) (hty : L.ty = 4 ∨ L.ty = 5 ∨ L.ty = 6 ∨ L.ty = 7) :
  CallsT Tryz.prog 110 [L.val, .int .u8 f] (St w0 η) fun v A' => v = .tuple #[.int .i64 (ptsZ L f), .int .i64 (colZ L f)] ∧ A' = St w0 η := by
 refine CallsT.body Tryz.func110 rfl rfl ?_
 simp only [Tryz.ntmps110, slotsOf, Nat.reduceAdd]
 refine Qe (Qg ?_)
 refine TL_e rfl rfl rfl (rfl) (ET_box rfl rfl) ?_
 rintro _ _ ⟨b2, rfl, rfl⟩
 refine Qa rfl rfl (Qd rfl rfl rfl) ?_
 refine Qa rfl rfl (Qd rfl rfl rfl) ?_
 refine Qf (Qb (Qe (Qe (Qg ?_))))
 refine Qa rfl rfl (Qh rfl rfl KF.fld_27_0 rfl) ?_
 refine Qa rfl rfl (Qj 0 rfl rfl Tryz.underlying3 rfl rfl rfl (fun _ => rfl)) ?_
 refine Qa rfl rfl (QT_lss rfl rfl rfl rfl) ?_
 refine Qf (Qb ?_)
 refine Qm rfl (fun h9 => ?_) (fun h9 => ?_)
 ·
  refine Qe (Qg ?_)
  refine Qa rfl rfl (Qd rfl rfl rfl) ?_
  refine Qa rfl rfl (Qd rfl rfl rfl) ?_
  refine Qf (Qb ?_)
  refine Qu ?_
  refine Qn ?_
  exact Qs (.inl rfl) (res2 rfl rfl rfl) ⟨_, ⟨by unfold ptsZ colZ; grind, rfl⟩, (fun _ h => by first | exact h | exact h.tail | exact h.tail.tail | exact h.tail.tail.tail | exact h.tail.tail.tail.tail | exact h.tail.tail.tail.tail.tail | exact h.tail.tail.tail.tail.tail.tail | exact h.tail.tail.tail.tail.tail.tail.tail | exact h.tail.tail.tail.tail.tail.tail.tail.tail | exact h.tail.tail.tail.tail.tail.tail.tail.tail.tail | exact h.tail.tail.tail.tail.tail.tail.tail.tail.tail.tail | exact h.tail.tail.tail.tail.tail.tail.tail.tail.tail.tail.tail | exact h.tail.tail.tail.tail.tail.tail.tail.tail.tail.tail.tail.tail | exact h.tail.tail.tail.tail.tail.tail.tail.tail.tail.tail.tail.tail.tail)⟩
 ·
  refine Qt (Qb (Qe (Qg ?_)))
  refine Qa rfl rfl (Qd rfl rfl rfl) ?_
  refine Qf (Qb (Qe (Qe (Qg ?_))))
  refine Qa rfl rfl (Qh rfl rfl KF.fld_27_0 rfl) ?_
  refine Qa rfl rfl (Qj 0 rfl rfl Tryz.underlying3 rfl rfl rfl (fun _ => rfl)) ?_
  refine Qa rfl rfl (QT_eql rfl rfl rfl rfl) ?_
  refine Qf (Qb ?_)
  refine Qm rfl (fun h12 => ?_) (fun h12 => ?_)
  ·
   refine Qg ?_
   refine Qa rfl rfl (Qd rfl rfl rfl) ?_
   refine Qf (Qb (Qe (Qe (Qg ?_))))
   refine Qa rfl rfl (Qc rfl rfl rfl) ?_
   refine Qa rfl rfl (QT_eql rfl rfl rfl rfl) ?_
   refine Qf (Qb ?_)
   refine Qm rfl (fun h14 => ?_) (fun h14 => ?_)
   ·
    refine Qe (Qg ?_)
    refine Qa rfl rfl (Qc rfl rfl rfl) ?_
    refine Qa rfl rfl (Zb rfl rfl rfl rfl (fun _ => ⟨by omega, by omega⟩)) ?_
    refine Qa rfl rfl (Qd rfl rfl rfl) ?_
    refine Qa rfl rfl (Qd rfl rfl rfl) ?_
    refine Qf (Qb ?_)
    refine Qu ?_
    refine Qn ?_
    exact Qs (.inl rfl) (res2 rfl rfl rfl) ⟨_, ⟨by unfold ptsZ colZ; grind, rfl⟩, (fun _ h => by first | exact h | exact h.tail | exact h.tail.tail | exact h.tail.tail.tail | exact h.tail.tail.tail.tail | exact h.tail.tail.tail.tail.tail | exact h.tail.tail.tail.tail.tail.tail | exact h.tail.tail.tail.tail.tail.tail.tail | exact h.tail.tail.tail.tail.tail.tail.tail.tail | exact h.tail.tail.tail.tail.tail.tail.tail.tail.tail | exact h.tail.tail.tail.tail.tail.tail.tail.tail.tail.tail | exact h.tail.tail.tail.tail.tail.tail.tail.tail.tail.tail.tail | exact h.tail.tail.tail.tail.tail.tail.tail.tail.tail.tail.tail.tail | exact h.tail.tail.tail.tail.tail.tail.tail.tail.tail.tail.tail.tail.tail)⟩
   ·
    refine Qt (Qb (Qe (Qg ?_)))
    refine Qa rfl rfl (Qc rfl rfl rfl) ?_
    refine Qa rfl rfl (Zb rfl rfl rfl rfl (fun _ => ⟨by omega, by omega⟩)) ?_
    refine Qa rfl rfl (Qd rfl rfl rfl) ?_
    refine Qa rfl rfl (Qd rfl rfl rfl) ?_
    refine Qf (Qb ?_)
    refine Qu ?_
    exact Qs (.inl rfl) (res2 rfl rfl rfl) ⟨_, ⟨by unfold ptsZ colZ; grind, rfl⟩, (fun _ h => by first | exact h | exact h.tail | exact h.tail.tail | exact h.tail.tail.tail | exact h.tail.tail.tail.tail | exact h.tail.tail.tail.tail.tail | exact h.tail.tail.tail.tail.tail.tail | exact h.tail.tail.tail.tail.tail.tail.tail | exact h.tail.tail.tail.tail.tail.tail.tail.tail | exact h.tail.tail.tail.tail.tail.tail.tail.tail.tail | exact h.tail.tail.tail.tail.tail.tail.tail.tail.tail.tail | exact h.tail.tail.tail.tail.tail.tail.tail.tail.tail.tail.tail | exact h.tail.tail.tail.tail.tail.tail.tail.tail.tail.tail.tail.tail | exact h.tail.tail.tail.tail.tail.tail.tail.tail.tail.tail.tail.tail.tail)⟩
  ·
   refine Qt (Qb (Qe (Qe (Qg ?_))))
   refine Qa rfl rfl (Qc rfl rfl rfl) ?_
   refine Qa rfl rfl (QT_eql rfl rfl rfl rfl) ?_
   refine Qf (Qb ?_)
   refine Qm rfl (fun h14 => ?_) (fun h14 => ?_)
   ·
    refine Qe (Qg ?_)
    refine Qa rfl rfl (Qc rfl rfl rfl) ?_
    refine Qa rfl rfl (Zb rfl rfl rfl rfl (fun _ => ⟨by omega, by omega⟩)) ?_
    refine Qa rfl rfl (Qd rfl rfl rfl) ?_
    refine Qa rfl rfl (Qd rfl rfl rfl) ?_
    refine Qf (Qb ?_)
    refine Qu ?_
    refine Qn ?_
    exact Qs (.inl rfl) (res2 rfl rfl rfl) ⟨_, ⟨by unfold ptsZ colZ; grind, rfl⟩, (fun _ h => by first | exact h | exact h.tail | exact h.tail.tail | exact h.tail.tail.tail | exact h.tail.tail.tail.tail | exact h.tail.tail.tail.tail.tail | exact h.tail.tail.tail.tail.tail.tail | exact h.tail.tail.tail.tail.tail.tail.tail | exact h.tail.tail.tail.tail.tail.tail.tail.tail | exact h.tail.tail.tail.tail.tail.tail.tail.tail.tail | exact h.tail.tail.tail.tail.tail.tail.tail.tail.tail.tail | exact h.tail.tail.tail.tail.tail.tail.tail.tail.tail.tail.tail | exact h.tail.tail.tail.tail.tail.tail.tail.tail.tail.tail.tail.tail | exact h.tail.tail.tail.tail.tail.tail.tail.tail.tail.tail.tail.tail.tail)⟩
   ·
    refine Qt (Qb (Qe (Qg ?_)))
    refine Qa rfl rfl (Qc rfl rfl rfl) ?_
    refine Qa rfl rfl (Zb rfl rfl rfl rfl (fun _ => ⟨by omega, by omega⟩)) ?_
    refine Qa rfl rfl (Qd rfl rfl rfl) ?_
    refine Qa rfl rfl (Qd rfl rfl rfl) ?_
    refine Qf (Qb ?_)
    refine Qu ?_
    exact Qs (.inl rfl) (res2 rfl rfl rfl) ⟨_, ⟨by unfold ptsZ colZ; grind, rfl⟩, (fun _ h => by first | exact h | exact h.tail | exact h.tail.tail | exact h.tail.tail.tail | exact h.tail.tail.tail.tail | exact h.tail.tail.tail.tail.tail | exact h.tail.tail.tail.tail.tail.tail | exact h.tail.tail.tail.tail.tail.tail.tail | exact h.tail.tail.tail.tail.tail.tail.tail.tail | exact h.tail.tail.tail.tail.tail.tail.tail.tail.tail | exact h.tail.tail.tail.tail.tail.tail.tail.tail.tail.tail | exact h.tail.tail.tail.tail.tail.tail.tail.tail.tail.tail.tail | exact h.tail.tail.tail.tail.tail.tail.tail.tail.tail.tail.tail.tail | exact h.tail.tail.tail.tail.tail.tail.tail.tail.tail.tail.tail.tail.tail)⟩
theorem flag_spec (w0 : Base) (η : Heap) (L : Lay) :
  CallsT Tryz.prog 107 [L.val] (St w0 η) fun v A' => v = .int .i64 (flb L) ∧ A' = St w0 η := by
 refine CallsT.body Tryz.func107 rfl rfl ?_
 simp only [Tryz.ntmps107, slotsOf, Nat.reduceAdd]
 refine Qe (Qg ?_)
 refine TL_e rfl rfl rfl (rfl) (ET_box rfl rfl) ?_
 rintro _ _ ⟨b1, rfl, rfl⟩
 refine Qa rfl rfl (Qd rfl rfl rfl) ?_
 refine Qf (Qb (Qe (Qe (Qg ?_))))
 refine Qa rfl rfl (Qh rfl rfl KF.fld_27_0 rfl) ?_
 refine Qa rfl rfl (Qj 0 rfl rfl Tryz.underlying3 rfl rfl rfl (fun _ => rfl)) ?_
 refine Qa rfl rfl (QT_eql rfl rfl rfl rfl) ?_
 refine Qf (Qb ?_)
 refine Qm rfl (fun h5 => ?_) (fun h5 => ?_)
 ·
  refine Qe (Qg ?_)
  refine Qa rfl rfl (Qd rfl rfl rfl) ?_
  refine Qf (Qb ?_)
  refine Qu ?_
  refine Qn ?_
  exact Qs (.inl rfl) (res1 rfl rfl) ⟨_, ⟨by unfold flb; grind, rfl⟩, (fun _ h => by first | exact h | exact h.tail | exact h.tail.tail | exact h.tail.tail.tail | exact h.tail.tail.tail.tail | exact h.tail.tail.tail.tail.tail | exact h.tail.tail.tail.tail.tail.tail | exact h.tail.tail.tail.tail.tail.tail.tail | exact h.tail.tail.tail.tail.tail.tail.tail.tail | exact h.tail.tail.tail.tail.tail.tail.tail.tail.tail | exact h.tail.tail.tail.tail.tail.tail.tail.tail.tail.tail | exact h.tail.tail.tail.tail.tail.tail.tail.tail.tail.tail.tail | exact h.tail.tail.tail.tail.tail.tail.tail.tail.tail.tail.tail.tail | exact h.tail.tail.tail.tail.tail.tail.tail.tail.tail.tail.tail.tail.tail)⟩
 ·
  refine Qt (Qb (Qe (Qg ?_)))
  refine Qa rfl rfl (Qh rfl rfl KF.fld_27_3 rfl) ?_
  refine Qa rfl rfl (Qj 0 rfl rfl Tryz.underlying3 rfl rfl rfl (fun _ => rfl)) ?_
  refine Qa rfl rfl (Qd rfl rfl rfl) ?_
  refine Qf (Qb ?_)
  refine Qu ?_
  exact Qs (.inl rfl) (res1 rfl rfl) ⟨_, ⟨by unfold flb; grind, rfl⟩, (fun _ h => by first | exact h | exact h.tail | exact h.tail.tail | exact h.tail.tail.tail | exact h.tail.tail.tail.tail | exact h.tail.tail.tail.tail.tail | exact h.tail.tail.tail.tail.tail.tail | exact h.tail.tail.tail.tail.tail.tail.tail | exact h.tail.tail.tail.tail.tail.tail.tail.tail | exact h.tail.tail.tail.tail.tail.tail.tail.tail.tail | exact h.tail.tail.tail.tail.tail.tail.tail.tail.tail.tail | exact h.tail.tail.tail.tail.tail.tail.tail.tail.tail.tail.tail | exact h.tail.tail.tail.tail.tail.tail.tail.tail.tail.tail.tail.tail | exact h.tail.tail.tail.tail.tail.tail.tail.tail.tail.tail.tail.tail.tail)⟩
theorem pts_bd (L : Lay) (f : Int) : 1 ≤ ptsZ L f ∧ ptsZ L f ≤ 16 := by unfold ptsZ; grind
theorem col_bd (L : Lay) (f : Int) : 1 ≤ colZ L f ∧ colZ L f ≤ 4 := by unfold colZ; grind
theorem rsize_spec (w0 : Base) (η : Heap) (L : Lay) (f : Int) (h0 : 0 ≤ f) :
  CallsT Tryz.prog 105 [L.val, .int .u8 f] (St w0 η) fun v A' => v = .int .i64 (sizeZ L f) ∧ A' = St w0 η := by
 refine CallsT.body Tryz.func105 rfl rfl ?_
 simp only [Tryz.ntmps105, slotsOf, Nat.reduceAdd]
 refine Qe (Qg ?_)
 refine TL_e rfl rfl rfl (rfl) (ET_box rfl rfl) ?_
 rintro _ _ ⟨b2, rfl, rfl⟩
 refine Qa rfl rfl (Qd rfl rfl rfl) ?_
 refine Qf (Qb (Qe (Qe (Qg ?_))))
 refine Qa rfl rfl (Ql 0 rfl rfl Tryz.underlying27 rfl rfl rfl KF.sz_27) ?_
 refine TL_cq rfl rfl rfl rfl KF.cal_28 rfl (fun _ => rcheck_spec w0 _ L) ?_
 refine Qa rfl rfl (QT_neq rfl rfl rfl rfl) ?_
 refine Qf (Qb ?_)
 refine Qm rfl (fun h12 => ?_) (fun h12 => ?_)
 ·
  refine Qe (Qg ?_)
  refine Qa rfl rfl (Qd rfl rfl rfl) ?_
  refine Qf (Qb ?_)
  refine Qu ?_
  refine Qn ?_
  exact Qs (.inl rfl) (res1 rfl rfl) ⟨_, ⟨by simp_all [sizeZ, errOf], rfl⟩, (fun _ h => by first | exact h | exact h.tail | exact h.tail.tail | exact h.tail.tail.tail | exact h.tail.tail.tail.tail | exact h.tail.tail.tail.tail.tail | exact h.tail.tail.tail.tail.tail.tail | exact h.tail.tail.tail.tail.tail.tail.tail | exact h.tail.tail.tail.tail.tail.tail.tail.tail | exact h.tail.tail.tail.tail.tail.tail.tail.tail.tail | exact h.tail.tail.tail.tail.tail.tail.tail.tail.tail.tail | exact h.tail.tail.tail.tail.tail.tail.tail.tail.tail.tail.tail | exact h.tail.tail.tail.tail.tail.tail.tail.tail.tail.tail.tail.tail | exact h.tail.tail.tail.tail.tail.tail.tail.tail.tail.tail.tail.tail.tail)⟩
 ·
  have hok : okB L = true := by
   unfold errOf at h12
   by_cases h : okB L = true
   · exact h
   · simp [h] at h12
  obtain ⟨⟨c1, c2⟩, ⟨m1, m2⟩, ⟨s1, s2⟩, hty, hro, hfl⟩ := okB_bounds hok
  have hp := mul_bd s1 s2 m1 m2
  have hpt := pts_bd L f
  have hcl := col_bd L f
  obtain ⟨np, hnp⟩ := Int.eq_ofNat_of_zero_le (show 0 ≤ ptsZ L f by omega)
  obtain ⟨nc, hnc⟩ := Int.eq_ofNat_of_zero_le (show 0 ≤ colZ L f by omega)
  have hfb : 0 ≤ flb L ∧ flb L ≤ 8 := by unfold flb; split <;> omega
  refine Qt (Qb (Qe (Qg ?_)))
  refine Qa rfl rfl (Ql 0 rfl rfl Tryz.underlying27 rfl rfl rfl KF.sz_27) ?_
  refine Qa rfl rfl (Qc rfl rfl rfl) ?_
  refine TL_cq rfl rfl rfl rfl KF.cal_110 rfl (fun _ => parts_spec w0 _ L f (by omega)) ?_
  refine Qa rfl rfl (Qc rfl rfl rfl) ?_
  refine Qa rfl rfl (Qx rfl rfl rfl rfl) ?_
  refine Qa rfl rfl (Qx rfl rfl rfl rfl) ?_
  refine Qa rfl rfl (Qd rfl rfl rfl) ?_
  refine Qa rfl rfl (Qd rfl rfl rfl) ?_
  refine Qf (Qb (Qe (Qg ?_)))
  refine Qa rfl rfl (Ql 0 rfl rfl Tryz.underlying27 rfl rfl rfl KF.sz_27) ?_
  refine TL_cq rfl rfl rfl rfl KF.cal_107 rfl (fun _ => flag_spec w0 _ L) ?_
  refine Qa rfl rfl (Qd rfl rfl rfl) ?_
  refine Qf (Qb (Qe (Qe (Qg ?_))))
  refine Qa rfl rfl (Qd rfl rfl rfl) ?_
  refine Qf (Qb (Qr ?_))
  refine TC_loop (γ := { i : Nat // i ≤ np }) (fun t => [(1, true, .int .u8 f), (2, true, .pointer (some ⟨b2, 0, none⟩)), (5, true, .int .i64 (ptsZ L f)), (6, true, .int .i64 (colZ L f)), (7, true, .int .i64 (flb L + 2 * (t.1 : Int) * L.co)), (8, true, .int .i64 (t.1 : Int))]) (fun _ => St w0 ((b2, _, L.cells) :: η)) (fun t => np - t.1) ⟨0, by omega⟩ ⟨rfl, rfl, rfl, rfl, slotI rfl (by simp), rfl, trivial⟩ (fun _ h => h) ?_
  rintro ⟨i, hi⟩
  dsimp only
  have hi' : i ≤ np := hi
  have hic : 0 ≤ (i : Int) * L.co ∧ (i : Int) * L.co ≤ 16 * 32 := ⟨Int.mul_nonneg (by omega) (by omega), Int.mul_le_mul (by omega) (by omega) (by omega) (by omega)⟩
  have hic2 : 2 * (i : Int) * L.co = 2 * ((i : Int) * L.co) := Int.mul_assoc ..
  refine Qe (Qe (Qg ?_))
  refine Qa rfl rfl (Qc rfl rfl rfl) ?_
  refine Qa rfl rfl (Qc rfl rfl rfl) ?_
  refine Qa rfl rfl (QT_lss rfl rfl rfl rfl) ?_
  refine Qf (Qb ?_)
  refine Qm rfl (fun h23 => ?_) (fun h23 => ?_)
  ·
   refine Qt (Qb (Qe (Qr (Qg ?_))))
   refine Qa rfl rfl (Qc rfl rfl rfl) ?_
   refine Qa rfl rfl (Qh rfl rfl KF.fld_27_1 rfl) ?_
   refine Qa rfl rfl (Qj 0 rfl rfl Tryz.underlying3 rfl rfl rfl (fun _ => rfl)) ?_
   refine Qa rfl rfl (Zb rfl rfl rfl rfl (fun _ => ⟨by omega, by omega⟩)) ?_
   refine Qa rfl rfl (Qh rfl rfl KF.fld_27_1 rfl) ?_
   refine Qa rfl rfl (Qj 0 rfl rfl Tryz.underlying3 rfl rfl rfl (fun _ => rfl)) ?_
   refine Qa rfl rfl (Zb rfl rfl rfl rfl (fun _ => ⟨by omega, by omega⟩)) ?_
   refine Qa rfl rfl (Qd rfl rfl rfl) ?_
   refine Qf ?_
   refine Qo ?_
   refine Qb (Qg ?_)
   refine Qa rfl rfl (Qc rfl rfl rfl) ?_
   refine Qa rfl rfl (Zb rfl rfl rfl rfl (fun _ => ⟨by omega, by omega⟩)) ?_
   refine Qa rfl rfl (Qd rfl rfl rfl) ?_
   refine Qf ?_
   have hst : 2 * ((i + 1 : Nat) : Int) * L.co = 2 * (i : Int) * L.co + L.co + L.co := by
    rw [Int.mul_assoc, Int.mul_assoc, Int.natCast_add, Int.add_mul]; omega
   exact TX_round ⟨i + 1, by omega⟩ (by show np - (i + 1) < np - i; omega) ⟨rfl, rfl, rfl, rfl, slotI rfl (by dsimp only; omega), rfl, trivial⟩ (fun _ h => h)
  ·
   refine Zd ?_
   refine Qi (Qi ?_)
   refine Qp ?_
   refine Qb (Qe (Qe (Qg ?_)))
   refine Qa rfl rfl (Qd rfl rfl rfl) ?_
   refine Qf (Qb (Qr ?_))
   obtain rfl : i = np := by omega
   refine TC_loop (γ := { j : Nat // j ≤ nc }) (fun t => [(1, true, .int .u8 f), (2, true, .pointer (some ⟨b2, 0, none⟩)), (6, true, .int .i64 (colZ L f)), (7, true, .int .i64 (flb L + 2 * (i : Int) * L.co + (t.1 : Int) * (L.cs * L.cm))), (9, true, .int .i64 (t.1 : Int))]) (fun _ => St w0 ((b2, _, L.cells) :: η)) (fun t => nc - t.1) ⟨0, by omega⟩ ⟨rfl, rfl, rfl, slotI rfl (by simp), rfl, trivial⟩ (fun _ h => h) ?_
   rintro ⟨j, hj⟩
   dsimp only
   have hjc : 0 ≤ (j : Int) * (L.cs * L.cm) ∧ (j : Int) * (L.cs * L.cm) ≤ 4 * 64 := ⟨Int.mul_nonneg (by omega) (by omega), Int.mul_le_mul (by omega) (by omega) (by omega) (by omega)⟩
   refine Qe (Qe (Qg ?_))
   refine Qa rfl rfl (Qc rfl rfl rfl) ?_
   refine Qa rfl rfl (Qc rfl rfl rfl) ?_
   refine Qa rfl rfl (QT_lss rfl rfl rfl rfl) ?_
   refine Qf (Qb ?_)
   refine Qm rfl (fun h35 => ?_) (fun h35 => ?_)
   ·
    refine Qt (Qb (Qe (Qr (Qg ?_))))
    refine Qa rfl rfl (Qc rfl rfl rfl) ?_
    refine Qa rfl rfl (Qh rfl rfl KF.fld_27_4 rfl) ?_
    refine Qa rfl rfl (Qj 0 rfl rfl Tryz.underlying3 rfl rfl rfl (fun _ => rfl)) ?_
    refine Qa rfl rfl (Qh rfl rfl KF.fld_27_2 rfl) ?_
    refine Qa rfl rfl (Qj 0 rfl rfl Tryz.underlying3 rfl rfl rfl (fun _ => rfl)) ?_
    refine Qa rfl rfl (QT_mul rfl rfl rfl rfl (fun _ => ⟨by omega, by omega⟩)) ?_
    refine Qa rfl rfl (Zb rfl rfl rfl rfl (fun _ => ⟨by omega, by omega⟩)) ?_
    refine Qa rfl rfl (Qd rfl rfl rfl) ?_
    refine Qf ?_
    refine Qo ?_
    refine Qb (Qg ?_)
    refine Qa rfl rfl (Qc rfl rfl rfl) ?_
    refine Qa rfl rfl (Zb rfl rfl rfl rfl (fun _ => ⟨by omega, by omega⟩)) ?_
    refine Qa rfl rfl (Qd rfl rfl rfl) ?_
    refine Qf ?_
    have hst : ((j + 1 : Nat) : Int) * (L.cs * L.cm) = (j : Int) * (L.cs * L.cm) + L.cs * L.cm := by
     rw [Int.natCast_add, Int.add_mul]; omega
    exact TX_round ⟨j + 1, by omega⟩ (by show nc - (j + 1) < nc - j; omega) ⟨rfl, rfl, rfl, slotI rfl (by dsimp only; omega), rfl, trivial⟩ (fun _ h => h)
   ·
    refine Zd ?_
    refine Qi (Qi ?_)
    refine Qp ?_
    refine Qb (Qe (Qr ?_))
    obtain rfl : j = nc := by omega
    have hbits : bitsZ L f = flb L + 2 * (i : Int) * L.co + (j : Int) * (L.cs * L.cm) := by
     unfold bitsZ; rw [hnp, hnc]; rw [Int.mul_assoc (j : Int)]; omega
    rw [← hbits]
    have hb0 : 0 ≤ bitsZ L f ∧ bitsZ L f ≤ 2000 := by omega
    refine TC_loop (γ := { z : Int // bitsZ L f ≤ z ∧ z ≤ 8 * ((bitsZ L f + 7) / 8) }) (fun t => [(7, true, .int .i64 t.1)]) (fun _ => St w0 ((b2, _, L.cells) :: η)) (fun t => (8 * ((bitsZ L f + 7) / 8) - t.1).toNat) ⟨bitsZ L f, by omega⟩ ⟨rfl, trivial⟩ (fun _ h => h) ?_
    rintro ⟨z, hz⟩
    dsimp only
    refine Qe (Qe (Qg ?_))
    refine Qa rfl rfl (Qc rfl rfl rfl) ?_
    refine Qa rfl rfl (QT_rem rfl rfl rfl rfl (fun _ => ⟨by omega, by omega⟩)) ?_
    refine Qa rfl rfl (QT_neq rfl rfl rfl rfl) ?_
    refine Qf (Qb ?_)
    refine Qm rfl (fun h47 => ?_) (fun h47 => ?_)
    ·
     refine Qt (Qb (Qr (Qg ?_)))
     refine Qa rfl rfl (Qc rfl rfl rfl) ?_
     refine Qa rfl rfl (Zb rfl rfl rfl rfl (fun _ => ⟨by omega, by omega⟩)) ?_
     refine Qa rfl rfl (Qd rfl rfl rfl) ?_
     refine Qf ?_
     refine Qo ?_
     exact TX_round ⟨z + 1, by omega⟩ (by show (8 * ((bitsZ L f + 7) / 8) - (z + 1)).toNat < (8 * ((bitsZ L f + 7) / 8) - z).toNat; omega) ⟨rfl, trivial⟩ (fun _ h => h)
    ·
     refine Zd ?_
     refine Qi (Qi ?_)
     refine Qp ?_
     refine Qb (Qe (Qg ?_))
     refine Qa rfl rfl (Qc rfl rfl rfl) ?_
     refine Qa rfl rfl (QT_quo rfl rfl rfl rfl (fun _ => ⟨by omega, by omega, by omega⟩)) ?_
     refine Qa rfl rfl (Qd rfl rfl rfl) ?_
     refine Qf (Qb ?_)
     refine Qu ?_
     exact Qs (.inl rfl) (res1 rfl rfl) ⟨_, ⟨by unfold sizeZ; rw [if_pos hok]; congr 1; omega, rfl⟩, (fun _ h => by first | exact h | exact h.tail | exact h.tail.tail | exact h.tail.tail.tail | exact h.tail.tail.tail.tail | exact h.tail.tail.tail.tail.tail | exact h.tail.tail.tail.tail.tail.tail | exact h.tail.tail.tail.tail.tail.tail.tail | exact h.tail.tail.tail.tail.tail.tail.tail.tail | exact h.tail.tail.tail.tail.tail.tail.tail.tail.tail | exact h.tail.tail.tail.tail.tail.tail.tail.tail.tail.tail | exact h.tail.tail.tail.tail.tail.tail.tail.tail.tail.tail.tail | exact h.tail.tail.tail.tail.tail.tail.tail.tail.tail.tail.tail.tail | exact h.tail.tail.tail.tail.tail.tail.tail.tail.tail.tail.tail.tail.tail)⟩
end Go.Proofs.YtjdaglmkljbfkaaGreatDoor
namespace Go.Proofs.YtjdaglmkljbfkaaGreatDoor
open Go Go.Gx Go.RowKit
set_option maxRecDepth 100000
def byteK : List IntKind := [.u8]
theorem el_Byte : ElemOk Tryz.prog 5 1 1 (.int .u8 0) := .of KF.sz_5 (by kernel_rfl) (by unfold ZeroOk; kernel_rfl) (by kernel_rfl) (by decide)
theorem byte_at {n i : Nat} {xs : List Value} (h : Ints (rep n byteK) xs) (hi : i < n) : ∃ z : Int, elem xs 1 i = [.int .u8 z] ∧ xs[i * 1]? = some (.int .u8 z) ∧ 0 ≤ z ∧ z ≤ 255 := by
 have he : Ints byteK (elem xs 1 i) := h.elem hi
 obtain ⟨z, cs', e, hw, h2⟩ := (show Ints (.u8 :: []) (elem xs 1 i) from he).inv
 obtain rfl := h2.inv_nil
 have hz := wf_u8 hw
 refine ⟨z, e, ?_, hz.1, hz.2⟩
 have h0 : (elem xs 1 i)[0]? = xs[i * 1]? := by
  unfold elem
  rw [List.getElem?_take_of_lt (by decide), List.getElem?_drop, Nat.add_zero]
 rw [← h0, e]; rfl
theorem same_Byte (w0 : Base) (η : Heap) (va vb : Value) (n m : Nat) (xs ys : List Value) (ha : SlA (St w0 η) va 1 n xs) (hb : SlA (St w0 η) vb 1 m ys) (hia : Ints (rep n byteK) xs) (hib : Ints (rep m byteK) ys) :
    CallsT Tryz.prog 85 [va, vb] (St w0 η) fun v A' => v = .bool (eqC xs ys) ∧ A' = St w0 η := by
  obtain ⟨hal, ada, ca, rfl, ⟨hca, hca2⟩, hra⟩ := ha
  obtain ⟨hbl, adb, cb, rfl, ⟨hcb, hcb2⟩, hrb⟩ := hb
  refine CallsT.body Tryz.func85 rfl rfl ?_
  simp only [Tryz.ntmps85, slotsOf, Nat.reduceAdd]
  refine Qe (Qg ?_)
  refine Qa rfl rfl (Qd rfl rfl rfl) ?_
  refine Qf (Qb (Qe (Qe (Qg ?_))))
  refine Qa rfl rfl (Qc rfl rfl rfl) ?_
  refine Qa rfl rfl (Za rfl rfl Tryz.underlying28 rfl) ?_
  refine Qa rfl rfl (Qc rfl rfl rfl) ?_
  refine Qa rfl rfl (Za rfl rfl Tryz.underlying28 rfl) ?_
  refine Qa rfl rfl (QT_neq rfl rfl rfl rfl) ?_
  refine Qf (Qb ?_)
  refine Qm rfl (fun h10 => ?_) (fun h10 => ?_)
  ·
    refine Qe (Qg ?_)
    refine Qa rfl rfl (Qd rfl rfl rfl) ?_
    refine Qf (Qb ?_)
    refine Qu ?_
    refine Qn ?_
    exact Qs (.inl rfl) (res1 rfl rfl) ⟨_, ⟨by rw [eqC_ne_len (by omega)], rfl⟩, (fun _ h => by first | exact h | exact h.tail | exact h.tail.tail | exact h.tail.tail.tail | exact h.tail.tail.tail.tail | exact h.tail.tail.tail.tail.tail | exact h.tail.tail.tail.tail.tail.tail | exact h.tail.tail.tail.tail.tail.tail.tail | exact h.tail.tail.tail.tail.tail.tail.tail.tail | exact h.tail.tail.tail.tail.tail.tail.tail.tail.tail | exact h.tail.tail.tail.tail.tail.tail.tail.tail.tail.tail | exact h.tail.tail.tail.tail.tail.tail.tail.tail.tail.tail.tail | exact h.tail.tail.tail.tail.tail.tail.tail.tail.tail.tail.tail.tail | exact h.tail.tail.tail.tail.tail.tail.tail.tail.tail.tail.tail.tail.tail)⟩
  ·
    obtain rfl : n = m := by omega
    refine Qt (Qb (Qe (Qe (Qg ?_))))
    refine Qa rfl rfl (Qd rfl rfl rfl) ?_
    refine Qf (Qb (Qr ?_))
    refine TC_loop (γ := {i : Nat // i ≤ n ∧ xs.take (i * 1) = ys.take (i * 1)}) (fun t => [(0, true, .slice ada n ca), (1, true, .slice adb n cb), (5, true, .int .i64 (t.1 : Int))]) (fun _ => St w0 η) (fun t => n - t.1) ⟨0, by omega, by simp⟩ ⟨rfl, rfl, rfl, trivial⟩ (fun _ h => h) ?_
    rintro ⟨i, hi, he⟩
    dsimp only
    refine Qe (Qe (Qg ?_))
    refine Qa rfl rfl (Qc rfl rfl rfl) ?_
    refine Qa rfl rfl (Qc rfl rfl rfl) ?_
    refine Qa rfl rfl (Za rfl rfl Tryz.underlying28 rfl) ?_
    refine Qa rfl rfl (QT_lss rfl rfl rfl rfl) ?_
    refine Qf (Qb ?_)
    refine Qm rfl (fun h14 => ?_) (fun h14 => ?_)
    ·
      refine Qt (Qb (Qe (Qr (Qe ?_))))
      have hin : i < n := by omega
      obtain ⟨ba, oa, rfl, hrA⟩ := hra.resolve_left (by omega)
      obtain ⟨bb, ob, rfl, hrB⟩ := hrb.resolve_left (by omega)
      obtain ⟨za, hea, hxa, _⟩ := byte_at hia hin
      obtain ⟨zb, heb, hxb, _⟩ := byte_at hib hin
      refine TC_draw [(0, 0), (1, 0), (2, 0), (3, 0), (4, 0), (5, 0), (6, 0), (7, 0), (8, 0)] KF.mixed (by kernel_rfl) (St.calm _ _) ?_
      refine Qk rfl rfl rfl (fun _ => Qc rfl rfl rfl) ?_
      refine Qk rfl rfl rfl (fun _ => Qc rfl rfl rfl) ?_
      refine Qk rfl rfl rfl (fun _ => Qq (i) rfl rfl Tryz.underlying28 KF.sz_5 rfl rfl (rfl) (fun _ => hin)) ?_
      refine Qz rfl rfl rfl (Qw (i * 1) rfl rfl Tryz.underlying5 rfl hrA rfl (fun _ => hxa)) ?_
      refine Qk rfl rfl rfl (fun _ => Qc rfl rfl rfl) ?_
      refine Qk rfl rfl rfl (fun _ => Qc rfl rfl rfl) ?_
      refine Qk rfl rfl rfl (fun _ => Qq (i) rfl rfl Tryz.underlying28 KF.sz_5 rfl rfl (rfl) (fun _ => hin)) ?_
      refine Qz rfl rfl rfl (Qw (i * 1) rfl rfl Tryz.underlying5 rfl hrB rfl (fun _ => hxb)) ?_
      refine Qk rfl rfl rfl (fun _ => QT_neq rfl rfl rfl rfl) ?_
      refine TV_end (Qb ?_)
      refine Qm rfl (fun h25 => ?_) (fun h25 => ?_)
      ·
        refine Qe (Qg ?_)
        refine Qa rfl rfl (Qd rfl rfl rfl) ?_
        refine Qf (Qb ?_)
        refine Qu ?_
        refine Zc ?_
        refine Qn ?_
        refine Qn ?_
        refine Zc ?_
        refine Qn ?_
        exact Qs (.inl rfl) (res1 rfl rfl) ⟨_, ⟨(by
         rw [eqC_ne hia hib]
         intro e
         subst e
         rw [hea] at heb
         injection heb with h1 _
         injection h1 with _ h2
         exact h25 h2), rfl⟩, (fun _ h => by first | exact h | exact h.tail | exact h.tail.tail | exact h.tail.tail.tail | exact h.tail.tail.tail.tail | exact h.tail.tail.tail.tail.tail | exact h.tail.tail.tail.tail.tail.tail | exact h.tail.tail.tail.tail.tail.tail.tail | exact h.tail.tail.tail.tail.tail.tail.tail.tail | exact h.tail.tail.tail.tail.tail.tail.tail.tail.tail | exact h.tail.tail.tail.tail.tail.tail.tail.tail.tail.tail | exact h.tail.tail.tail.tail.tail.tail.tail.tail.tail.tail.tail | exact h.tail.tail.tail.tail.tail.tail.tail.tail.tail.tail.tail.tail | exact h.tail.tail.tail.tail.tail.tail.tail.tail.tail.tail.tail.tail.tail)⟩
      ·
        refine Qt ?_
        refine Qo ?_
        refine Qb (Qg ?_)
        refine Qa rfl rfl (Qc rfl rfl rfl) ?_
        refine Qa rfl rfl (Zb rfl rfl rfl rfl (fun _ => ⟨by omega, by omega⟩)) ?_
        refine Qa rfl rfl (Qd rfl rfl rfl) ?_
        refine Qf ?_
        refine TX_round ⟨i + 1, by omega, ?_⟩ (by dsimp only; omega) ⟨rfl, rfl, slotI rfl (by dsimp only; omega), trivial⟩ (fun _ h => h)
        rw [take_succ_elem, take_succ_elem, he, hea, heb, Classical.not_not.1 h25]
    ·
      refine Zd ?_
      refine Qi (Qi ?_)
      refine Qp ?_
      refine Qb (Qe (Qg ?_))
      refine Qa rfl rfl (Qd rfl rfl rfl) ?_
      refine Qf (Qb ?_)
      refine Qu ?_
      exact Qs (.inl rfl) (res1 rfl rfl) ⟨_, ⟨(by
       have hin : i = n := by omega
       subst hin
       rw [List.take_of_length_le (by omega), List.take_of_length_le (by omega)] at he
       subst he
       rw [eqC_refl hia]), rfl⟩, (fun _ h => by first | exact h | exact h.tail | exact h.tail.tail | exact h.tail.tail.tail | exact h.tail.tail.tail.tail | exact h.tail.tail.tail.tail.tail | exact h.tail.tail.tail.tail.tail.tail | exact h.tail.tail.tail.tail.tail.tail.tail | exact h.tail.tail.tail.tail.tail.tail.tail.tail | exact h.tail.tail.tail.tail.tail.tail.tail.tail.tail | exact h.tail.tail.tail.tail.tail.tail.tail.tail.tail.tail | exact h.tail.tail.tail.tail.tail.tail.tail.tail.tail.tail.tail | exact h.tail.tail.tail.tail.tail.tail.tail.tail.tail.tail.tail.tail | exact h.tail.tail.tail.tail.tail.tail.tail.tail.tail.tail.tail.tail.tail)⟩
theorem same_Bytes (w0 : Base) (η : Heap) (va vb : Value) (n m : Nat) (xs ys : List Value) (ha : SlA (St w0 η) va 1 n xs) (hb : SlA (St w0 η) vb 1 m ys) (hia : Ints (rep n byteK) xs) (hib : Ints (rep m byteK) ys) :
  CallsT Tryz.prog 21 [va, vb] (St w0 η) fun v A' => v = .bool (eqC xs ys) ∧ A' = St w0 η := by
 refine CallsT.body Tryz.func21 rfl rfl ?_
 simp only [Tryz.ntmps21, slotsOf, Nat.reduceAdd]
 refine Qe (Qg ?_)
 refine Qa rfl rfl (Qd rfl rfl rfl) ?_
 refine Qf (Qb (Qe (Qg ?_)))
 refine Qa rfl rfl (Qc rfl rfl rfl) ?_
 refine Qa rfl rfl (Qc rfl rfl rfl) ?_
 refine TL_cq rfl rfl rfl rfl KF.cal_85 rfl (fun _ => same_Byte w0 _ va vb n m xs ys ha hb hia hib) ?_
 refine Qa rfl rfl (Qd rfl rfl rfl) ?_
 refine Qf (Qb ?_)
 refine Qu ?_
 exact Qs (.inl rfl) (res1 rfl rfl) ⟨_, ⟨rfl, rfl⟩, (fun _ h => by first | exact h | exact h.tail | exact h.tail.tail | exact h.tail.tail.tail | exact h.tail.tail.tail.tail | exact h.tail.tail.tail.tail.tail | exact h.tail.tail.tail.tail.tail.tail | exact h.tail.tail.tail.tail.tail.tail.tail | exact h.tail.tail.tail.tail.tail.tail.tail.tail | exact h.tail.tail.tail.tail.tail.tail.tail.tail.tail | exact h.tail.tail.tail.tail.tail.tail.tail.tail.tail.tail | exact h.tail.tail.tail.tail.tail.tail.tail.tail.tail.tail.tail | exact h.tail.tail.tail.tail.tail.tail.tail.tail.tail.tail.tail.tail | exact h.tail.tail.tail.tail.tail.tail.tail.tail.tail.tail.tail.tail.tail)⟩
theorem sameOk_Bytes (w0 : Base) (η : Heap) (va vb : Value) (n : Nat) (xs : List Value) (ha : SlA (St w0 η) va 1 n xs) (hb : SlA (St w0 η) vb 1 n xs) (hi : Ints (rep n byteK) xs) :
  CallsT Tryz.prog 21 [va, vb] (St w0 η) fun v A' => v = .bool true ∧ A' = St w0 η := by
 have h := same_Bytes w0 η va vb n n xs xs ha hb hi hi
 rwa [eqC_refl hi] at h
end Go.Proofs.YtjdaglmkljbfkaaGreatDoor
namespace Go.Gx
open Go Go.RowKit
theorem snoc_ind {α : Type} {P : List α → Prop} (h0 : P []) (h1 : ∀ l x, P l → P (l ++ [x])) (l : List α) : P l := by
 rw [← List.reverse_reverse l]
 induction l.reverse with
 | nil => exact h0
 | cons x r ih => rw [List.reverse_cons]; exact h1 _ _ ih
def num (l : List Bool) : Nat := l.foldl (fun v b => 2 * v + b.toNat) 0
def bitsN : Nat → Nat → List Bool
 | 0, _ => []
 | n + 1, v => bitsN n (v / 2) ++ [v % 2 == 1]
def byB (bs : List Nat) : List Bool := bs.flatMap (bitsN 8)
theorem num_snoc (l : List Bool) (b : Bool) : num (l ++ [b]) = 2 * num l + b.toNat := by simp [num]
theorem bitsN_len : ∀ n v, (bitsN n v).length = n
 | 0, _ => rfl
 | n + 1, v => by rw [bitsN, List.length_append, bitsN_len n]; rfl
theorem num_append (a : List Bool) : ∀ b : List Bool, num (a ++ b) = num a * 2 ^ b.length + num b := by
 intro b
 induction b using snoc_ind with
 | h0 => simp [num]
 | h1 b x ih =>
  rw [← List.append_assoc, num_snoc, ih, num_snoc, List.length_append, List.length_singleton, Nat.pow_succ]
  rw [Nat.mul_add, Nat.add_assoc, show num a * (2 ^ b.length * 2) = 2 * (num a * 2 ^ b.length) by rw [← Nat.mul_assoc, Nat.mul_comm]]
theorem num_lt : ∀ l : List Bool, num l < 2 ^ l.length := by
 intro l
 induction l using snoc_ind with
 | h0 => simp [num]
 | h1 l x ih =>
  rw [num_snoc, List.length_append, List.length_singleton, Nat.pow_succ]
  cases x <;> simp <;> omega
theorem num_bitsN : ∀ n v, num (bitsN n v) = v % 2 ^ n
 | 0, v => by simp [bitsN, num, Nat.mod_one]
 | n + 1, v => by
  rw [bitsN, num_snoc, num_bitsN n, Nat.pow_succ, Nat.mul_comm (2 ^ n) 2, Nat.mod_mul]
  rcases Nat.mod_two_eq_zero_or_one v with h | h <;> simp [h] <;> omega
theorem bitsN_num : ∀ l : List Bool, bitsN l.length (num l) = l := by
 intro l
 induction l using snoc_ind with
 | h0 => rfl
 | h1 l x ih =>
  rw [num_snoc, List.length_append, List.length_singleton, bitsN]
  have h1 : (2 * num l + x.toNat) / 2 = num l := by cases x <;> simp <;> omega
  have h2 : ((2 * num l + x.toNat) % 2 == 1) = x := by cases x <;> simp
  rw [h1, h2, ih]
theorem bitsN_add (a v : Nat) : ∀ b, bitsN (a + b) v = bitsN a (v / 2 ^ b) ++ bitsN b v := by
 intro b
 induction b generalizing v with
 | zero => simp [bitsN]
 | succ b ih =>
  rw [show a + (b + 1) = (a + b) + 1 by omega, bitsN, ih, bitsN, List.append_assoc, Nat.div_div_eq_div_mul, Nat.pow_succ, Nat.mul_comm (2 ^ b) 2]
theorem bitsN_mod : ∀ n v, bitsN n (v % 2 ^ n) = bitsN n v
 | 0, _ => rfl
 | n + 1, v => by
  rw [bitsN, bitsN, Nat.pow_succ, Nat.mul_comm (2 ^ n) 2]
  have h1 : v % (2 * 2 ^ n) / 2 = v / 2 % 2 ^ n := by rw [Nat.mod_mul_right_div_self]
  have h2 : v % (2 * 2 ^ n) % 2 = v % 2 := Nat.mod_mul_right_mod ..
  rw [h1, h2, bitsN_mod n]
theorem num_zeros : ∀ n, num (List.replicate n false) = 0
 | 0 => rfl
 | n + 1 => by rw [List.replicate_succ', num_snoc, num_zeros n]; rfl
theorem byB_len : ∀ bs : List Nat, (byB bs).length = 8 * bs.length
 | [] => rfl
 | b :: bs => by
  have := byB_len bs
  simp only [byB, List.flatMap_cons, List.length_append, bitsN_len, List.length_cons] at this ⊢
  omega
theorem byB_append (a b : List Nat) : byB (a ++ b) = byB a ++ byB b := by simp [byB]
theorem byB_one (b : Nat) : byB [b] = bitsN 8 b := by simp [byB]
theorem byB_drop (bs : List Nat) (k : Nat) : byB (bs.drop k) = (byB bs).drop (8 * k) := by
  by_cases h : k ≤ bs.length
  · have e : byB bs = byB (bs.take k) ++ byB (bs.drop k) := by rw [← byB_append, List.take_append_drop]
    have hl : (byB (bs.take k)).length = 8 * k := by rw [byB_len, List.length_take]; omega
    rw [e, ← hl, List.drop_left]
  · rw [List.drop_of_length_le (by omega), List.drop_of_length_le (by rw [byB_len]; omega)]
    rfl
theorem byB_take (bs : List Nat) (k : Nat) : byB (bs.take k) = (byB bs).take (8 * k) := by
  by_cases h : k ≤ bs.length
  · have e : byB bs = byB (bs.take k) ++ byB (bs.drop k) := by rw [← byB_append, List.take_append_drop]
    have hl : (byB (bs.take k)).length = 8 * k := by rw [byB_len, List.length_take]; omega
    conv => rhs; rw [e, ← hl, List.take_left]
  · rw [List.take_of_length_le (by omega), List.take_of_length_le (by rw [byB_len]; omega)]
/-- a run of bits of bytes, from the bytes that bear it -/
theorem get_num {bs : List Nat} {p n : Nat} (hn : 0 < n) (h : p + n ≤ 8 * bs.length) :
    num (byB ((bs.take ((p + n + 7) / 8)).drop (p / 8))) / 2 ^ (8 * ((p + n + 7) / 8) - (p + n)) % 2 ^ n = num (((byB bs).drop p).take n) := by
  have h1 : byB ((bs.take ((p + n + 7) / 8)).drop (p / 8)) = (((byB bs).drop (8 * (p / 8))).take (p - 8 * (p / 8)) ++ ((byB bs).drop p).take n) ++ ((byB bs).drop (p + n)).take (8 * ((p + n + 7) / 8) - (p + n)) := by
    rw [byB_drop, byB_take, List.drop_take]
    have e1 : 8 * ((p + n + 7) / 8) - 8 * (p / 8) = (p - 8 * (p / 8)) + (n + (8 * ((p + n + 7) / 8) - (p + n))) := by omega
    rw [e1, List.take_add, List.take_add, List.drop_drop, List.drop_drop, show 8 * (p / 8) + (p - 8 * (p / 8)) = p by omega, List.append_assoc]
  have hpost : (((byB bs).drop (p + n)).take (8 * ((p + n + 7) / 8) - (p + n))).length = 8 * ((p + n + 7) / 8) - (p + n) := by
    rw [List.length_take, List.length_drop, byB_len]; omega
  have hw : (((byB bs).drop p).take n).length = n := by rw [List.length_take, List.length_drop, byB_len]; omega
  rw [h1, num_append, hpost]
  have hlt := num_lt (((byB bs).drop (p + n)).take (8 * ((p + n + 7) / 8) - (p + n)))
  rw [hpost] at hlt
  have hd : ∀ a k b : Nat, b < 2 ^ k → (a * 2 ^ k + b) / 2 ^ k = a := fun a k b hb => by
    rw [Nat.mul_comm, Nat.mul_add_div (Nat.two_pow_pos k), Nat.div_eq_of_lt hb, Nat.add_zero]
  rw [hd _ _ _ hlt, num_append, hw, Nat.mul_comm, Nat.mul_add_mod]
  have := num_lt (((byB bs).drop p).take n)
  rw [hw] at this
  exact Nat.mod_eq_of_lt this
/-- A row: its bytes; how many bits are free in the last one; the bits that were laid. -/
structure Packed (bs : List Nat) (free : Nat) (l : List Bool) : Prop where
 eq : byB bs = l ++ List.replicate free false
 small : ∀ c ∈ bs, c < 256
 le : free ≤ 8
theorem Packed.len {bs : List Nat} {free : Nat} {l : List Bool} (h : Packed bs free l) : 8 * bs.length = l.length + free := by
 have := congrArg List.length h.eq
 rw [byB_len, List.length_append, List.length_replicate] at this
 exact this
theorem Packed.nil : Packed [] 0 [] := ⟨rfl, fun _ h => absurd h List.not_mem_nil, by omega⟩
theorem Packed.more {bs : List Nat} {l : List Bool} (h : Packed bs 0 l) : Packed (bs ++ [0]) 8 l := by
  refine ⟨?_, fun c hc => ?_, by omega⟩
  · rw [byB_append, h.eq, byB_one]; simp [bitsN]
  · rcases List.mem_append.1 hc with hc | hc
    · exact h.small c hc
    · rw [List.mem_singleton.1 hc]; omega
theorem Packed.last {bs : List Nat} {B free : Nat} {l : List Bool} (h : Packed (bs ++ [B]) free l) : l = byB bs ++ l.drop (8 * bs.length) ∧ bitsN 8 B = l.drop (8 * bs.length) ++ List.replicate free false := by
 have he := h.eq
 have hle := h.le
 have hlen := h.len
 rw [List.length_append, List.length_singleton] at hlen
 rw [byB_append, byB_one] at he
 have hb : (byB bs).length = 8 * bs.length := byB_len bs
 have h1 : byB bs = l.take (8 * bs.length) := by
  have := congrArg (List.take (8 * bs.length)) he
  rw [← hb, List.take_left, hb, List.take_append_of_le_length (by omega)] at this
  exact this
 have h2 : bitsN 8 B = l.drop (8 * bs.length) ++ List.replicate free false := by
  have := congrArg (List.drop (8 * bs.length)) he
  rw [← hb, List.drop_left, hb, List.drop_append_of_le_length (by omega)] at this
  exact this
 exact ⟨by rw [h1, List.take_append_drop], h2⟩
theorem Packed.lay {bs : List Nat} {B free many p : Nat} {l : List Bool} (h : Packed (bs ++ [B]) free l) (hm : many ≤ free) (hp : p < 2 ^ many) :
    B ||| (p <<< (free - many)) < 256 ∧ Packed (bs ++ [B ||| (p <<< (free - many))]) (free - many) (l ++ bitsN many p) := by
  obtain ⟨h1, h2⟩ := h.last
  have hle := h.le
  have hlen := h.len
  rw [List.length_append, List.length_singleton] at hlen
  have hB : B < 256 := h.small B (by simp)
  have hl2 : (l.drop (8 * bs.length)).length = 8 - free := by rw [List.length_drop]; omega
  generalize hq : l.drop (8 * bs.length) = q at h1 h2 hl2
  have hBn : B = num q * 2 ^ free := by
    have := congrArg num h2
    rw [num_bitsN, Nat.mod_eq_of_lt hB, num_append, num_zeros, List.length_replicate, Nat.add_zero] at this
    exact this
  have hk : p <<< (free - many) = p * 2 ^ (free - many) := Nat.shiftLeft_eq ..
  have hpk : p * 2 ^ (free - many) < 2 ^ free := by
    have : 2 ^ free = 2 ^ many * 2 ^ (free - many) := by rw [← Nat.pow_add]; congr 1; omega
    rw [this]
    exact Nat.mul_lt_mul_of_pos_right hp (Nat.two_pow_pos _)
  have hor : B ||| (p <<< (free - many)) = num (q ++ bitsN many p ++ List.replicate (free - many) false) := by
    rw [hk, hBn, ← Nat.shiftLeft_eq, ← Nat.shiftLeft_add_eq_or_of_lt hpk, Nat.shiftLeft_eq, num_append, num_append, num_zeros, List.length_replicate, bitsN_len, num_bitsN, Nat.mod_eq_of_lt hp, Nat.add_zero, Nat.add_mul, Nat.mul_assoc, ← Nat.pow_add, show many + (free - many) = free by omega]
  have hL : (q ++ bitsN many p ++ List.replicate (free - many) false).length = 8 := by
    rw [List.length_append, List.length_append, hl2, bitsN_len, List.length_replicate]; omega
  have hlt : B ||| (p <<< (free - many)) < 256 := by
    rw [hor]
    have := num_lt (q ++ bitsN many p ++ List.replicate (free - many) false)
    rw [hL] at this
    exact this
  refine ⟨hlt, ?_, ?_, by omega⟩
  · rw [byB_append, byB_one, hor]
    have := bitsN_num (q ++ bitsN many p ++ List.replicate (free - many) false)
    rw [hL] at this
    rw [this, h1]
    simp only [List.append_assoc]
  · intro c hc
    rcases List.mem_append.1 hc with hc | hc
    · exact h.small c (by simp [hc])
    · rw [List.mem_singleton.1 hc]; exact hlt
/-! ### the machine's own operations on what is not negative -/
theorem fdiv_nat (a b : Nat) : (a : Int).fdiv (b : Int) = ((a / b : Nat) : Int) := by
 rw [Int.fdiv_eq_ediv_of_nonneg _ (by omega)]; simp
theorem shr_nat {k : IntKind} {v n : Nat} (h : n ≤ k.bits) : (v : Int).fdiv (2 ^ (min (n : Int).toNat k.bits)) = ((v / 2 ^ n : Nat) : Int) := by
 rw [Int.toNat_natCast, Nat.min_eq_left h, ← fdiv_nat]; simp
theorem or_u8 {a b : Nat} (ha : a < 256) (hb : b < 256) (h : a ||| b < 256) : bitsOf .or .u8 (a : Int) (b : Int) = ((a ||| b : Nat) : Int) := by
 show IntKind.u8.wrap ((BitVec.ofInt 8 (a : Int) ||| BitVec.ofInt 8 (b : Int)).toNat : Int) = _
 rw [BitVec.toNat_or, ofInt_u8 a ha, ofInt_u8 b hb]
 exact IntWalk.u8_in ((a ||| b : Nat) : Int) ⟨by omega, by omega⟩
theorem and_u32 {a b : Nat} (ha : a < 4294967296) (hb : b < 4294967296) : bitsOf .and .u32 (a : Int) (b : Int) = ((a &&& b : Nat) : Int) := by
 have h : a &&& b ≤ a := Nat.and_le_left
 show IntKind.u32.wrap ((BitVec.ofInt 32 (a : Int) &&& BitVec.ofInt 32 (b : Int)).toNat : Int) = _
 rw [BitVec.toNat_and, ofInt_u32 a ha, ofInt_u32 b hb]
 exact IntWalk.u32_in ((a &&& b : Nat) : Int) ⟨by omega, by omega⟩
theorem and_u64 {a b : Nat} (ha : a < 18446744073709551616) (hb : b < 18446744073709551616) : bitsOf .and .u64 (a : Int) (b : Int) = ((a &&& b : Nat) : Int) := by
 have h : a &&& b ≤ a := Nat.and_le_left
 show IntKind.u64.wrap ((BitVec.ofInt 64 (a : Int) &&& BitVec.ofInt 64 (b : Int)).toNat : Int) = _
 rw [BitVec.toNat_and, ofInt_u64 a ha, ofInt_u64 b hb]
 exact IntWalk.u64_in ((a &&& b : Nat) : Int) ⟨by omega, by omega⟩
theorem or_u64 {a b : Nat} (ha : a < 18446744073709551616) (hb : b < 18446744073709551616) (h : a ||| b < 18446744073709551616) : bitsOf .or .u64 (a : Int) (b : Int) = ((a ||| b : Nat) : Int) := by
 show IntKind.u64.wrap ((BitVec.ofInt 64 (a : Int) ||| BitVec.ofInt 64 (b : Int)).toNat : Int) = _
 rw [BitVec.toNat_or, ofInt_u64 a ha, ofInt_u64 b hb]
 exact IntWalk.u64_in ((a ||| b : Nat) : Int) ⟨by omega, by omega⟩
theorem neg7 {e : Nat} (h : e ≤ 9223372036854775807) : bitsOf .and .i64 (0 - (e : Int)) 7 = ((8 * ((e + 7) / 8) - e : Nat) : Int) := by
 show IntKind.i64.wrap ((BitVec.ofInt 64 (0 - (e : Int)) &&& BitVec.ofInt 64 7).toNat : Int) = _
 rw [BitVec.toNat_and, BitVec.toNat_ofInt, BitVec.toNat_ofInt]
 have h7 : ((7 : Int) % ((2 ^ 64 : Nat) : Int)).toNat = 2 ^ 3 - 1 := by decide
 rw [h7, Nat.and_two_pow_sub_one_eq_mod]
 have e1 : ((0 - (e : Int)) % ((2 ^ 64 : Nat) : Int)).toNat % 2 ^ 3 = 8 * ((e + 7) / 8) - e := by
  have : ((2 ^ 64 : Nat) : Int) = 18446744073709551616 := by decide
  rw [this]
  omega
 rw [e1]
 exact wrap_i64 ⟨by omega, by omega⟩
end Go.Gx
namespace Go.Proofs.YtjdaglmkljbfkaaGreatDoor
open Go Go.Gx Go.RowKit
set_option maxRecDepth 100000
theorem QT_to {P : Program} {n : Nat} {ops : Array Oper} {o : Oper} {σ : Slots} {A : World → Prop} {g : Bool} {k : IntKind} {z z' : Int} (h : QT P n ops o σ A g (.int k z)) (e : z = z') : QT P n ops o σ A g (.int k z') := e ▸ h
def byV (bs : List Nat) : List Value := bs.map fun (c : Nat) => Value.int .u8 (c : Int)
theorem byV_len (bs : List Nat) : (byV bs).length = bs.length := by simp [byV]
theorem byV_at {bs : List Nat} {i c : Nat} (h : bs[i]? = some c) : (byV bs)[i]? = some (.int .u8 (c : Int)) := by simp [byV, h]
theorem wf_byte {c : Nat} (h : c < 256) : (Lit.int .u8 (c : Int)).wf = true := by
 have h1 : IntKind.u8.min = 0 := rfl
 have h2 : IntKind.u8.max = 255 := rfl
 simp only [Lit.wf, Bool.and_eq_true, decide_eq_true_eq]
 omega
theorem byV_ints : ∀ {bs : List Nat}, (∀ c ∈ bs, c < 256) → Ints (rep bs.length byteK) (byV bs)
 | [], _ => by show Ints (rep 0 byteK) []; simpa [rep] using Ints.nil
 | c :: bs, h => by
  show Ints (rep (bs.length + 1) byteK) _
  rw [rep_succ]
  exact .cons (wf_byte (h c (List.mem_cons_self ..))) (byV_ints fun x hx => h x (List.mem_cons_of_mem _ hx))
theorem byV_take (bs : List Nat) (k : Nat) : (byV bs).take (k * 1) = byV (bs.take k) := by rw [Nat.mul_one]; simp [byV, List.map_take]
theorem byV_drop (bs : List Nat) (k : Nat) : (byV bs).drop (k * 1) = byV (bs.drop k) := by rw [Nat.mul_one]; simp [byV, List.map_drop]
theorem byV_append (a b : List Nat) : byV (a ++ b) = byV a ++ byV b := by simp [byV]
def getE (len : Nat) (p n : Int) : Int := if p < 0 ∨ n < 0 ∨ 32 < n then 1 else if 8 * (len : Int) - n < p then 5 else 0
def getV (bs : List Nat) (p n : Int) : Nat := if getE bs.length p n = 0 then num (((byB bs).drop p.toNat).take n.toNat) else 0
theorem shl8 {O c : Nat} (hO : O < 4294967296) (hc : c < 256) : bitsOf .or .u64 (IntKind.u64.wrap ((O : Int) * 2 ^ (min (8 : Int).toNat IntKind.u64.bits))) (IntKind.u64.wrap (c : Int)) = ((O * 256 + c : Nat) : Int) := by
 have e1 : (O : Int) * 2 ^ (min (8 : Int).toNat IntKind.u64.bits) = ((O * 256 : Nat) : Int) := by
  have : (2 : Int) ^ (min (8 : Int).toNat IntKind.u64.bits) = 256 := by decide
  rw [this]; simp
 rw [e1, IntWalk.u64_in _ ⟨by omega, by omega⟩, IntWalk.u64_in (c : Int) ⟨by omega, by omega⟩]
 have h2 : O * 256 ||| c = O * 256 + c := by
  have := (Nat.shiftLeft_add_eq_or_of_lt (show c < 2 ^ 8 from hc) O).symm
  rwa [Nat.shiftLeft_eq] at this
 rw [or_u64 (by omega) (by omega) (by omega), h2]
theorem two_u64 {m : Nat} (h : m ≤ 32) : IntKind.u64.wrap (1 * 2 ^ (min (m : Int).toNat IntKind.u64.bits)) = ((2 ^ m : Nat) : Int) := by
 have hp : 2 ^ m ≤ 2 ^ 32 := Nat.pow_le_pow_right (by decide) h
 have e : (1 : Int) * 2 ^ (min (m : Int).toNat IntKind.u64.bits) = ((2 ^ m : Nat) : Int) := by
  rw [Int.toNat_natCast, Nat.min_eq_left (show m ≤ IntKind.u64.bits by show m ≤ 64; omega), Int.one_mul]; simp
 rw [e]
 clear e
 generalize 2 ^ m = X at hp
 exact IntWalk.u64_in (X : Int) ⟨by omega, by omega⟩
theorem pow_b {m : Nat} (h : m ≤ 32) : 0 < 2 ^ m ∧ 2 ^ m ≤ 4294967296 := ⟨Nat.two_pow_pos m, Nat.pow_le_pow_right (by decide) h⟩
theorem mask_u64 {X m : Nat} (h : m ≤ 32) (hX : X < 18446744073709551616) : bitsOf .and .u64 (X : Int) (((2 ^ m - 1 : Nat) : Int)) = ((X % 2 ^ m : Nat) : Int) := by
 have := pow_b h
 rw [and_u64 hX (by omega), Nat.and_two_pow_sub_one_eq_mod]
theorem take_one_more {bs : List Nat} {i c : Nat} (h : bs[i]? = some c) : bs.take (i + 1) = bs.take i ++ [c] := by
 rw [List.take_add_one, h]; rfl
theorem num_more {bs : List Nat} {i c : Nat} (h : bs[i]? = some c) (hc : c < 256) : num (byB (bs.take (i + 1))) = num (byB (bs.take i)) * 256 + c := by
 rw [take_one_more h, byB_append, byB_one, num_append, bitsN_len, num_bitsN, Nat.mod_eq_of_lt hc]
theorem num_bytes_lt (bs : List Nat) : num (byB bs) < 2 ^ (8 * bs.length) := by
 have := num_lt (byB bs)
 rwa [byB_len] at this
theorem get_spec (w0 : Base) (η : Heap) (sv : Value) (bs : List Nat) (p n : Int) (hs : SlA (St w0 η) sv 1 bs.length (byV bs)) (hb : ∀ c ∈ bs, c < 256) (hp : I64 p) (hn : I64 n) (hl : bs.length ≤ 140737488355328) :
  CallsT Tryz.prog 157 [sv, .int .i64 p, .int .i64 n] (St w0 η) fun v A' => v = .tuple #[.int .u32 ((getV bs p n : Nat) : Int), .int .i64 (getE bs.length p n)] ∧ A' = St w0 η := by
 have hs0 := hs
 obtain ⟨_, ad, cap, rfl, hcap, _⟩ := hs
 refine CallsT.body Tryz.func157 rfl rfl ?_
 simp only [Tryz.ntmps157, slotsOf, Nat.reduceAdd]
 refine Qe (Qg ?_)
 refine Qa rfl rfl (Qd rfl rfl rfl) ?_
 refine Qa rfl rfl (Qd rfl rfl rfl) ?_
 refine Qf (Qb (Qe (Qr (Qe (Qg ?_)))))
 refine Qa rfl rfl (Qc rfl rfl rfl) ?_
 refine Qa rfl rfl (QT_lss rfl rfl rfl rfl) ?_
 refine Qa rfl rfl (Qc rfl rfl rfl) ?_
 refine Qa rfl rfl (Qc rfl rfl rfl) ?_
 refine Qa rfl rfl (QT_lss rfl rfl rfl rfl) ?_
 refine Qa rfl rfl (QT_or rfl rfl rfl rfl) ?_
 refine Qa rfl rfl (Qc rfl rfl rfl) ?_
 refine Qa rfl rfl (Qc rfl rfl rfl) ?_
 refine Qa rfl rfl (QT_gtr rfl rfl rfl rfl) ?_
 refine Qa rfl rfl (QT_or rfl rfl rfl rfl) ?_
 refine Qa rfl rfl (Qd rfl rfl rfl) ?_
 refine Qf (Qb ?_)
 refine TC_cond rfl (fun h12 => ?_) (fun h12 => ?_)
 ·
  refine Qe (Qg ?_)
  refine Qa rfl rfl (Qd rfl rfl rfl) ?_
  refine Qa rfl rfl (Qd rfl rfl rfl) ?_
  refine Qf (Qb ?_)
  refine Qu ?_
  refine Zc ?_
  refine Qn ?_
  have e : getE bs.length p n = 1 := by
   simp only [Bool.or_eq_true, decide_eq_true_eq] at h12
   unfold getE; rw [if_pos (by omega)]
  exact Qs (.inl rfl) (res2 rfl rfl rfl) ⟨_, ⟨by unfold getV; rw [e, if_neg (by decide)]; rfl, rfl⟩, fun _ h => h⟩
 ·
  refine Qe ?_
  have h12' : 0 ≤ p ∧ 0 ≤ n ∧ n ≤ 32 := by
   simp only [Bool.or_eq_false_iff, decide_eq_false_iff_not] at h12
   omega
  refine Qg ?_
  refine Qa rfl rfl (Qc rfl rfl rfl) ?_
  refine Qa rfl rfl (Qc rfl rfl rfl) ?_
  refine Qa rfl rfl (Za rfl rfl Tryz.underlying28 rfl) ?_
  refine Qa rfl rfl (QT_mul rfl rfl rfl rfl (fun _ => ⟨by omega, by omega⟩)) ?_
  refine Qa rfl rfl (Qc rfl rfl rfl) ?_
  refine Qa rfl rfl (QT_sub rfl rfl rfl rfl (fun _ => ⟨by omega, by omega⟩)) ?_
  refine Qa rfl rfl (QT_gtr rfl rfl rfl rfl) ?_
  refine Qa rfl rfl (Qd rfl rfl rfl) ?_
  refine Qf (Qb ?_)
  refine Qm rfl (fun h23 => ?_) (fun h23 => ?_)
  ·
   refine Qe (Qg ?_)
   refine Qa rfl rfl (Qd rfl rfl rfl) ?_
   refine Qa rfl rfl (Qd rfl rfl rfl) ?_
   refine Qf (Qb ?_)
   refine Qu ?_
   refine Zc ?_
   refine Qn ?_
   have e : getE bs.length p n = 5 := by unfold getE; rw [if_neg (by omega), if_pos h23]
   exact Qs (.inl rfl) (res2 rfl rfl rfl) ⟨_, ⟨by unfold getV; rw [e, if_neg (by decide)]; rfl, rfl⟩, fun _ h => h⟩
  ·
   refine Qe ?_
   have e0 : getE bs.length p n = 0 := by unfold getE; rw [if_neg (by omega), if_neg h23]
   have hv : getV bs p n = num (((byB bs).drop p.toNat).take n.toNat) := by unfold getV; rw [if_pos e0]
   rw [e0, hv]
   obtain ⟨q, rfl⟩ := Int.eq_ofNat_of_zero_le h12'.1
   obtain ⟨m, rfl⟩ := Int.eq_ofNat_of_zero_le h12'.2.1
   rw [Int.toNat_natCast, Int.toNat_natCast]
   refine Qg ?_
   refine Qa rfl rfl (Qc rfl rfl rfl) ?_
   refine Qa rfl rfl (QT_eql rfl rfl rfl rfl) ?_
   refine Qa rfl rfl (Qd rfl rfl rfl) ?_
   refine Qf (Qb ?_)
   refine Qm rfl (fun h31 => ?_) (fun h31 => ?_)
   ·
    refine Qe (Qg ?_)
    refine Qa rfl rfl (Qd rfl rfl rfl) ?_
    refine Qa rfl rfl (Qd rfl rfl rfl) ?_
    refine Qf (Qb ?_)
    refine Qu ?_
    refine Zc ?_
    refine Qn ?_
    obtain rfl : m = 0 := by omega
    exact Qs (.inl rfl) (res2 rfl rfl rfl) ⟨_, ⟨by rw [List.take_zero]; rfl, rfl⟩, fun _ h => h⟩
   ·
    refine Qt ?_
    refine Qo ?_
    refine Qb (Qe ?_)
    have hqm : q + m ≤ 8 * bs.length := by omega
    have hm0 : 0 < m := by omega
    have hm32 : m ≤ 32 := by omega
    have hseg := (hs0.front (show (q + m + 7) / 8 ≤ bs.length by omega)).back (show q / 8 ≤ (q + m + 7) / 8 by omega)
    rw [byV_take, byV_drop] at hseg
    generalize hsg : ((bs.take ((q + m + 7) / 8)).drop (q / 8)) = sg at hseg
    have hsb : ∀ c ∈ sg, c < 256 := fun c hc => hb c (by subst hsg; exact List.mem_of_mem_take (List.mem_of_mem_drop hc))
    have hsl : sg.length = (q + m + 7) / 8 - q / 8 := by subst hsg; rw [List.length_drop, List.length_take]; omega
    have hs5 : sg.length ≤ 5 := by omega
    obtain ⟨_, sad, scap, sb, soff, heq, _, hsad, hsr⟩ := hseg.some
    obtain ⟨rfl, _, _⟩ := Value.slice.inj heq
    refine Qg ?_
    refine Qa rfl rfl (Qc rfl rfl rfl) ?_
    refine Qa rfl rfl (Qc rfl rfl rfl) ?_
    refine Qa rfl rfl (QT_to (Zb rfl rfl rfl rfl (fun _ => ⟨by omega, by omega⟩)) (show (q : Int) + (m : Int) = ((q + m : Nat) : Int) by simp)) ?_
    refine Qa rfl rfl (Qd rfl rfl rfl) ?_
    refine Qa rfl rfl (Qd rfl rfl rfl) ?_
    refine Qf (Qb (Qe (Qe (Qg ?_))))
    refine Qa rfl rfl (Qc rfl rfl rfl) ?_
    refine Qa rfl rfl (Qc rfl rfl rfl) ?_
    refine Qa rfl rfl (QT_quo rfl rfl rfl rfl (fun _ => ⟨by omega, by omega, by omega⟩)) ?_
    refine Qa rfl rfl (Qc rfl rfl rfl) ?_
    refine Qa rfl rfl (Zb rfl rfl rfl rfl (fun _ => ⟨by omega, by omega⟩)) ?_
    refine Qa rfl rfl (QT_sub rfl rfl rfl rfl (fun _ => ⟨by omega, by omega⟩)) ?_
    refine Qa rfl rfl (QT_quo rfl rfl rfl rfl (fun _ => ⟨by omega, by omega, by omega⟩)) ?_
    refine Qa rfl rfl (QT_slcLH (q / 8) ((q + m + 7) / 8) rfl rfl rfl Tryz.underlying28 KF.sz_5 rfl rfl rfl (by omega) (by omega) (fun _ => ⟨by omega, by omega⟩)) ?_
    refine Qa rfl rfl (Za rfl rfl Tryz.underlying28 rfl) ?_
    refine Qa rfl rfl (Qc rfl rfl rfl) ?_
    refine Qf (Qb (Qr ?_))
    refine TC_loop (γ := { i : Nat // i ≤ sg.length }) (fun t => [(2, true, .int .i64 (m : Int)), (8, true, .int .u64 ((num (byB (sg.take t.1)) : Nat) : Int)), (9, true, .int .i64 ((q + m : Nat) : Int)), (44, true, .slice (if cap = q / 8 then ad else ad.map (·.add (q / 8 * 1))) ((q + m + 7) / 8 - q / 8) (cap - q / 8)), (45, true, .int .i64 (sg.length : Int)), (46, true, .int .i64 (t.1 : Int))]) (fun _ => St w0 η) (fun t => sg.length - t.1) ⟨0, by omega⟩ ⟨rfl, rfl, rfl, rfl, slotI rfl (by omega), rfl, trivial⟩ (fun _ h => h) ?_
    rintro ⟨i, hi⟩
    dsimp only
    refine Qe (Qg ?_)
    refine Qa rfl rfl (QT_lss rfl rfl rfl rfl) ?_
    refine Qf (Qb (Qe ?_))
    refine Qm rfl (fun h47 => ?_) (fun h47 => ?_)
    ·
     have hi' : i < sg.length := by omega
     obtain ⟨c, hc⟩ : ∃ c, sg[i]? = some c := ⟨_, List.getElem?_eq_getElem hi'⟩
     have hcb := hsb c (List.mem_of_getElem? hc)
     have hO : num (byB (sg.take i)) < 4294967296 := by
      have h1 := num_bytes_lt (sg.take i)
      have h2 : (sg.take i).length ≤ 4 := by rw [List.length_take]; omega
      have h3 : 2 ^ (8 * (sg.take i).length) ≤ 2 ^ 32 := Nat.pow_le_pow_right (by decide) (by omega)
      omega
     refine Qt (Qb (Qe (Qr (Qe (Qg ?_)))))
     refine Qa rfl rfl (QT_indexG i rfl rfl Tryz.underlying28 KF.sz_5 rfl rfl rfl (fun _ => by omega) (fun _ => hsad (by omega))) ?_
     refine Qa rfl rfl (Qw i rfl rfl Tryz.underlying5 rfl hsr rfl (fun _ => byV_at hc)) ?_
     refine Qa rfl rfl (Qd rfl rfl rfl) ?_
     refine Qf (Qb (Qg ?_))
     refine Qa rfl rfl (Qc rfl rfl rfl) ?_
     refine Qa rfl rfl (QT_shl rfl rfl rfl rfl (fun _ => by omega)) ?_
     refine Qa rfl rfl (Qc rfl rfl rfl) ?_
     refine Qa rfl rfl (QT_conv rfl rfl Tryz.underlying5 Tryz.underlying230 rfl) ?_
     refine Qa rfl rfl (QT_to (QT_bits rfl rfl (by decide) rfl rfl) (shl8 hO hcb)) ?_
     refine Qa rfl rfl (Qd rfl rfl rfl) ?_
     refine Qf ?_
     refine Qo ?_
     refine Qb (Qg ?_)
     refine Qa rfl rfl (Zb rfl rfl rfl rfl (fun _ => ⟨by omega, by omega⟩)) ?_
     refine Qa rfl rfl (Qc rfl rfl rfl) ?_
     refine Qf ?_
     exact TX_round ⟨i + 1, by omega⟩ (by show sg.length - (i + 1) < sg.length - i; omega) ⟨rfl, slotI rfl (by rw [num_more hc hcb]), rfl, rfl, rfl, rfl, trivial⟩ (fun _ h => h)
    ·
     refine Zd ?_
     refine Qi (Qi ?_)
     refine Qp ?_
     refine Qb (Qe ?_)
     obtain rfl : i = sg.length := by omega
     have hX : num (byB sg) < 1099511627776 := by
      have h1 := num_bytes_lt sg
      have h3 : 2 ^ (8 * sg.length) ≤ 2 ^ 40 := Nat.pow_le_pow_right (by decide) (by omega)
      omega
     have hpb := pow_b hm32
     have hX2 : num (byB sg) / 2 ^ (8 * ((q + m + 7) / 8) - (q + m)) ≤ num (byB sg) := Nat.div_le_self ..
     have hfin := get_num (bs := bs) hm0 hqm
     rw [hsg] at hfin
     have hXm : num (byB sg) / 2 ^ (8 * ((q + m + 7) / 8) - (q + m)) % 2 ^ m < 2 ^ m := Nat.mod_lt _ hpb.1
     refine TC_draw [(0, 0), (1, 0), (2, 0), (3, 0), (4, 0), (5, 0), (6, 0), (7, 0), (8, 0), (9, 0), (10, 0), (11, 0)] KF.mixed (by kernel_rfl) (St.calm _ _) ?_
     refine Qk rfl rfl rfl (fun _ => QT_to (Qc rfl rfl rfl) (by rw [List.take_of_length_le (Nat.le_refl _)])) ?_
     refine Qk rfl rfl rfl (fun _ => Qc rfl rfl rfl) ?_
     refine Qk rfl rfl rfl (fun _ => QT_neg rfl rfl rfl (fun _ => ⟨by omega, by omega⟩)) ?_
     refine Qk rfl rfl rfl (fun _ => QT_to (QT_bits rfl rfl (by decide) rfl rfl) (neg7 (e := q + m) (by omega))) ?_
     refine Qk rfl rfl rfl (fun _ => QT_to (QT_shr rfl rfl rfl rfl (fun _ => by omega)) (shr_nat (k := .u64) (by show 8 * ((q + m + 7) / 8) - (q + m) ≤ 64; omega))) ?_
     refine Qk rfl rfl rfl (fun _ => Qc rfl rfl rfl) ?_
     refine Qk rfl rfl rfl (fun _ => QT_to (QT_shl rfl rfl rfl rfl (fun _ => by omega)) (two_u64 hm32)) ?_
     refine Qk rfl rfl rfl (fun _ => QT_to (QT_subw rfl rfl rfl rfl) (show IntKind.u64.wrap (((2 ^ m : Nat) : Int) - 1) = ((2 ^ m - 1 : Nat) : Int) by rw [IntWalk.u64_in _ ⟨by omega, by omega⟩]; omega)) ?_
     refine Qk rfl rfl rfl (fun _ => QT_to (QT_bits rfl rfl (by decide) rfl rfl) (mask_u64 hm32 (by omega))) ?_
     refine Qk rfl rfl rfl (fun _ => QT_convN rfl rfl Tryz.underlying230 Tryz.underlying70 rfl (IntWalk.u32_in _ ⟨by omega, by omega⟩)) ?_
     refine Qk rfl rfl rfl (fun _ => Qd rfl rfl rfl) ?_
     refine Qk rfl rfl rfl (fun _ => Qd rfl rfl rfl) ?_
     refine TV_end (Qb ?_)
     refine Qu ?_
     exact Qs (.inl rfl) (res2 rfl rfl rfl) ⟨_, ⟨by rw [← hfin], rfl⟩, fun _ h => h⟩
theorem toNat_bit (a : Nat) : (a % 2 == 1).toNat = a % 2 := by rcases Nat.mod_two_eq_zero_or_one a with h | h <;> rw [h] <;> rfl
end Go.Proofs.YtjdaglmkljbfkaaGreatDoor
namespace Go.Proofs.YtjdaglmkljbfkaaGreatDoor
open Go Go.Gx Go.RowKit
set_option maxRecDepth 100000
def rowC (bv : Value) (free made : Int) : List Value := [bv, .int .i64 free, .int .i64 made]
theorem new_spec (w0 : Base) (η : Heap) :
  CallsT Tryz.prog 141 [] (St w0 η) fun v A' => ∃ rb, v = .pointer (some ⟨rb, 0, none⟩) ∧ A' = St w0 ((rb, 272, rowC (.slice none 0 0) 0 1) :: η) := by
 refine CallsT.body Tryz.func141 rfl rfl ?_
 simp only [Tryz.ntmps141, slotsOf, Nat.reduceAdd]
 refine Qe (Qg ?_)
 refine Qa rfl rfl (Qd rfl rfl rfl) ?_
 refine Qf (Qb (Qe (Qg ?_)))
 refine Qa rfl rfl (QT_build rfl rfl KF.zero_272 KF.pl_272 rfl rfl rfl) ?_
 refine TL_e rfl rfl rfl (rfl) (ET_box rfl rfl) ?_
 rintro _ _ ⟨b2, rfl, rfl⟩
 refine Qa rfl rfl (Qd rfl rfl rfl) ?_
 refine Qf (Qb ?_)
 refine Qu ?_
 exact Qs (.inl rfl) (res1 rfl rfl) ⟨_, ⟨b2, rfl, rfl⟩, fun _ h => h⟩
theorem there_spec (w0 : Base) (η : Heap) (rb : Nat) (bv : Value) (free made : Int) :
  CallsT Tryz.prog 158 [.pointer (some ⟨rb, 0, none⟩)] (St w0 ((rb, 272, rowC bv free made) :: η)) fun v A' => v = .bool (decide (made = 1)) ∧ A' = St w0 ((rb, 272, rowC bv free made) :: η) := by
 refine CallsT.body Tryz.func158 rfl rfl ?_
 simp only [Tryz.ntmps158, slotsOf, Nat.reduceAdd]
 refine Qe (Qg ?_)
 refine Qa rfl rfl (Qd rfl rfl rfl) ?_
 refine Qf (Qb (Qe (Qg ?_)))
 refine Qa rfl rfl (Qc rfl rfl rfl) ?_
 refine Qa rfl rfl (QT_neNilP rfl rfl Tryz.underlying258 rfl rfl) ?_
 refine Qa rfl rfl (Qc rfl rfl rfl) ?_
 refine Qa rfl rfl (Qc rfl rfl rfl) ?_
 refine Qa rfl rfl (Qv rfl rfl rfl) ?_
 refine Qa rfl rfl (Qh rfl rfl KF.fld_272_1 rfl) ?_
 refine Qa rfl rfl (Qj 0 rfl rfl Tryz.underlying3 rfl rfl rfl (fun _ => rfl)) ?_
 refine Qa rfl rfl (QT_eql rfl rfl rfl rfl) ?_
 refine Qa rfl rfl (QT_and rfl rfl rfl rfl) ?_
 refine Qa rfl rfl (Qd rfl rfl rfl) ?_
 refine Qf (Qb ?_)
 refine Qu ?_
 exact Qs (.inl rfl) (res1 rfl rfl) ⟨_, ⟨by simp, rfl⟩, fun _ h => h⟩
theorem len_spec (w0 : Base) (η : Heap) (rb : Nat) (ad : Option Addr) (n cap free : Nat) (hn : n ≤ 140737488355328) (hf : free ≤ 8) :
  CallsT Tryz.prog 159 [.pointer (some ⟨rb, 0, none⟩)] (St w0 ((rb, 272, rowC (.slice ad n cap) free 1) :: η)) fun v A' => v = .int .i64 (8 * (n : Int) - (free : Int)) ∧ A' = St w0 ((rb, 272, rowC (.slice ad n cap) free 1) :: η) := by
 refine CallsT.body Tryz.func159 rfl rfl ?_
 simp only [Tryz.ntmps159, slotsOf, Nat.reduceAdd]
 refine Qe (Qg ?_)
 refine Qa rfl rfl (Qd rfl rfl rfl) ?_
 refine Qf (Qb (Qe (Qe (Qg ?_))))
 refine Qa rfl rfl (Qc rfl rfl rfl) ?_
 refine TL_cq rfl rfl rfl rfl KF.cal_158 rfl (fun _ => there_spec w0 η rb _ free 1) ?_
 refine Qa rfl rfl (QT_not rfl rfl rfl) ?_
 refine Qf (Qb ?_)
 refine TC_cond rfl (fun h => absurd (h.symm.trans ((show (_ : Bool) = false by rfl))) (by decide)) (fun _ => ?_)
 refine Qt (Qb (Qe ?_))
 refine TC_draw [(0, 0), (1, 0), (2, 0), (3, 0), (4, 0), (5, 0), (6, 0), (7, 0), (8, 0), (9, 0), (10, 0), (11, 0), (12, 0), (13, 0)] KF.mixed (by kernel_rfl) (St.calm _ _) ?_
 refine Qk rfl rfl rfl (fun _ => Qc rfl rfl rfl) ?_
 refine Qk rfl rfl rfl (fun _ => Qv rfl rfl rfl) ?_
 refine Qk rfl rfl rfl (fun _ => Qh rfl rfl KF.fld_272_0 rfl) ?_
 refine Qk rfl rfl rfl (fun _ => Qh rfl rfl KF.fld_270_0 rfl) ?_
 refine Qz rfl rfl rfl (Qj 0 rfl rfl Tryz.underlying28 rfl rfl rfl (fun _ => rfl)) ?_
 refine Qk rfl rfl rfl (fun _ => Za rfl rfl Tryz.underlying28 rfl) ?_
 refine Qk rfl rfl rfl (fun _ => QT_mul rfl rfl rfl rfl (fun _ => ⟨by omega, by omega⟩)) ?_
 refine Qk rfl rfl rfl (fun _ => Qc rfl rfl rfl) ?_
 refine Qk rfl rfl rfl (fun _ => Qv rfl rfl rfl) ?_
 refine Qk rfl rfl rfl (fun _ => Qh rfl rfl KF.fld_272_0 rfl) ?_
 refine Qk rfl rfl rfl (fun _ => Qh rfl rfl KF.fld_270_1 rfl) ?_
 refine Qz rfl rfl rfl (Qj 0 rfl rfl Tryz.underlying3 rfl rfl rfl (fun _ => rfl)) ?_
 refine Qk rfl rfl rfl (fun _ => QT_sub rfl rfl rfl rfl (fun _ => ⟨by omega, by omega⟩)) ?_
 refine Qk rfl rfl rfl (fun _ => Qd rfl rfl rfl) ?_
 refine TV_end (Qb ?_)
 refine Qu ?_
 exact Qs (.inl rfl) (res1 rfl rfl) ⟨_, ⟨rfl, rfl⟩, fun _ h => h⟩
theorem clipB_spec (w0 : Base) (η H : Heap) (v : Value) (n : Nat) (xs : List Value) (hF : Frag 5 1 v n xs H) :
    CallsT Tryz.prog 144 [v] (St w0 (H ++ η)) fun v A' => Frag 5 1 v n xs H ∧ A' = St w0 (H ++ η) := by
  obtain ⟨hl, hF⟩ := hF
  rcases hF with ⟨rfl, rfl, rfl⟩ | ⟨b, cap, rest, rfl, hc, hlen, rfl⟩
  · refine CallsT.body Tryz.func144 rfl rfl ?_
    simp only [Tryz.ntmps144, slotsOf, Nat.reduceAdd]
    refine Qe (Qg ?_)
    refine Qa rfl rfl (Qd rfl rfl rfl) ?_
    refine Qf (Qb (Qe (Qg ?_)))
    refine Qa rfl rfl (Qc rfl rfl rfl) ?_
    refine Qa rfl rfl (Qc rfl rfl rfl) ?_
    refine Qa rfl rfl (Za rfl rfl Tryz.underlying28 rfl) ?_
    refine Qa rfl rfl (Qc rfl rfl rfl) ?_
    refine Qa rfl rfl (Za rfl rfl Tryz.underlying28 rfl) ?_
    refine Qa rfl rfl (QT_slcHM (0) (0) rfl rfl rfl Tryz.underlying28 KF.sz_5 rfl rfl rfl rfl rfl (fun _ => ⟨by omega, by omega⟩)) ?_
    refine Qa rfl rfl (Qd rfl rfl rfl) ?_
    refine Qf (Qb ?_)
    refine Qu ?_
    exact Qs (.inl rfl) (res1 rfl rfl) ⟨_, ⟨⟨hl, .inl ⟨rfl, rfl, rfl⟩⟩, rfl⟩, fun _ h => h⟩
  · refine CallsT.body Tryz.func144 rfl rfl ?_
    simp only [Tryz.ntmps144, slotsOf, Nat.reduceAdd]
    refine Qe (Qg ?_)
    refine Qa rfl rfl (Qd rfl rfl rfl) ?_
    refine Qf (Qb (Qe (Qg ?_)))
    refine Qa rfl rfl (Qc rfl rfl rfl) ?_
    refine Qa rfl rfl (Qc rfl rfl rfl) ?_
    refine Qa rfl rfl (Za rfl rfl Tryz.underlying28 rfl) ?_
    refine Qa rfl rfl (Qc rfl rfl rfl) ?_
    refine Qa rfl rfl (Za rfl rfl Tryz.underlying28 rfl) ?_
    refine Qa rfl rfl (QT_slcHM (n) (n) rfl rfl rfl Tryz.underlying28 KF.sz_5 rfl rfl rfl rfl rfl (fun _ => ⟨by omega, by omega⟩)) ?_
    refine Qa rfl rfl (Qd rfl rfl rfl) ?_
    refine Qf (Qb ?_)
    refine Qu ?_
    exact Qs (.inl rfl) (res1 rfl rfl) ⟨_, ⟨⟨hl, .inr ⟨b, n, rest, rfl, ⟨Nat.le_refl _, by omega⟩, Nat.le_trans (Nat.mul_le_mul_right _ hc.1) hlen, rfl⟩⟩, rfl⟩, fun _ h => h⟩
theorem clone_spec (w0 : Base) (η : Heap) (sv : Value) (n : Nat) (xs : List Value) (hs : SlA (St w0 η) sv 1 n xs) (hi : Ints (rep n byteK) xs) (hn : n ≤ 140737488355328) :
  CallsT Tryz.prog 161 [sv] (St w0 η) fun v A' => ∃ H, Frag 5 1 v n xs H ∧ A' = St w0 (H ++ η) := by
 have hs0 := hs
 obtain ⟨hl, ad, cap, rfl, hcap, hr⟩ := hs
 refine CallsT.body Tryz.func161 rfl rfl ?_
 simp only [Tryz.ntmps161, slotsOf, Nat.reduceAdd]
 refine Qe (Qg ?_)
 refine Qa rfl rfl (Qd rfl rfl rfl) ?_
 refine Qf (Qb (Qe (Qe (Qg ?_))))
 refine Qa rfl rfl (Qc rfl rfl rfl) ?_
 refine Qa rfl rfl (QT_eqNilS rfl rfl Tryz.underlying28 rfl rfl) ?_
 refine Qf (Qb ?_)
 refine TC_cond rfl (fun h4 => ?_) (fun h4 => ?_)
 ·
  refine Qe (Qg ?_)
  refine Qa rfl rfl (Qd rfl rfl rfl) ?_
  refine Qf (Qb ?_)
  refine Qu ?_
  refine Qn ?_
  have h0 : n = 0 ∧ xs = [] := by
   rcases hr with h | ⟨b, off, rfl, _⟩
   · subst h; exact ⟨rfl, List.eq_nil_of_length_eq_zero (by simpa using hl)⟩
   · simp at h4
  obtain ⟨rfl, rfl⟩ := h0
  exact Qs (.inl rfl) (res1 rfl rfl) ⟨_, ⟨[], Frag.nil _ _, rfl⟩, fun _ h => h⟩
 ·
  refine Qt (Qb (Qe (Qg ?_)))
  refine TL_e rfl rfl rfl (rfl) (ET_buildN [] rfl Tryz.underlying28 KF.sz_5 KF.zero_5 rfl rfl rfl (fun v hv => absurd hv List.not_mem_nil)) ?_
  rintro _ _ ⟨b5, rfl, rfl⟩
  refine Qa rfl rfl (Qc rfl rfl rfl) ?_
  refine TL_e rfl rfl rfl (rfl) (ET_appendL (η := η) (L := []) (H := [(b5, 5, [] ++ [])]) rfl Tryz.underlying28 el_Byte rfl rfl ⟨rfl, .inr ⟨b5, 0, [], rfl, ⟨Nat.le_refl _, by omega⟩, Nat.le_refl _, rfl⟩⟩ (fun _ h => h) hs0.tail hi.oneCell (by omega) (by omega)) ?_
  rintro cv _ ⟨H', hF', rfl⟩
  refine Qa rfl rfl (Qd rfl rfl rfl) ?_
  refine Qf (Qb ?_)
  refine Qu ?_
  rw [Nat.zero_add, List.nil_append] at hF'
  exact Qs (.inl rfl) (res1 rfl rfl) ⟨_, ⟨H', hF', rfl⟩, fun _ h => h⟩
theorem bytes_spec (w0 : Base) (η H : Heap) (rb : Nat) (bv : Value) (free : Int) (n : Nat) (xs : List Value) (hF : Frag 5 1 bv n xs H) (hi : Ints (rep n byteK) xs) (hn : n ≤ 140737488355328) :
  CallsT Tryz.prog 143 [.pointer (some ⟨rb, 0, none⟩)] (St w0 ((rb, 272, rowC bv free 1) :: (H ++ η))) fun v A' => ∃ H2, Frag 5 1 v n xs H2 ∧ A' = St w0 (H2 ++ ((rb, 272, rowC bv free 1) :: (H ++ η))) := by
 refine CallsT.body Tryz.func143 rfl rfl ?_
 simp only [Tryz.ntmps143, slotsOf, Nat.reduceAdd]
 refine Qe (Qg ?_)
 refine Qa rfl rfl (Qd rfl rfl rfl) ?_
 refine Qf (Qb (Qe (Qe (Qg ?_))))
 refine Qa rfl rfl (Qc rfl rfl rfl) ?_
 refine TL_cq rfl rfl rfl rfl KF.cal_158 rfl (fun _ => there_spec w0 (H ++ η) rb _ free 1) ?_
 refine Qa rfl rfl (QT_not rfl rfl rfl) ?_
 refine Qf (Qb ?_)
 refine TC_cond rfl (fun h => absurd (h.symm.trans ((show (_ : Bool) = false by rfl))) (by decide)) (fun _ => ?_)
 refine Qt (Qb (Qe (Qg ?_)))
 refine Qa rfl rfl (Qc rfl rfl rfl) ?_
 refine Qa rfl rfl (Qv rfl rfl rfl) ?_
 refine Qa rfl rfl (Qh rfl rfl KF.fld_272_0 rfl) ?_
 refine Qa rfl rfl (Qh rfl rfl KF.fld_270_0 rfl) ?_
 refine Qa rfl rfl (Qj 0 rfl rfl Tryz.underlying28 rfl rfl rfl (fun _ => rfl)) ?_
 refine TL_e rfl rfl rfl (rfl) (ET_call rfl KF.cal_161 rfl (clone_spec w0 _ bv n xs (hF.within fun p => by simp only [List.countP_append, List.countP_cons]; omega) hi hn)) ?_
 rintro cv _ ⟨H2, hF2, rfl⟩
 refine TL_e rfl rfl rfl (rfl) (ET_call rfl KF.cal_144 rfl (clipB_spec w0 _ H2 cv n xs hF2)) ?_
 rintro rv _ ⟨hF3, rfl⟩
 refine Qa rfl rfl (Qd rfl rfl rfl) ?_
 refine Qf (Qb ?_)
 refine Qu ?_
 exact Qs (.inl rfl) (res1 rfl rfl) ⟨_, ⟨H2, hF3, rfl⟩, fun _ h => h⟩
end Go.Proofs.YtjdaglmkljbfkaaGreatDoor
namespace Go.Proofs.YtjdaglmkljbfkaaGreatDoor
open Go Go.Gx Go.RowKit
set_option maxRecDepth 100000
theorem two_u32 {m : Nat} (h : m ≤ 8) : IntKind.u32.wrap (1 * 2 ^ (min (m : Int).toNat IntKind.u32.bits)) = ((2 ^ m : Nat) : Int) := by
 have hp : 2 ^ m ≤ 2 ^ 8 := Nat.pow_le_pow_right (by decide) h
 have e : (1 : Int) * 2 ^ (min (m : Int).toNat IntKind.u32.bits) = ((2 ^ m : Nat) : Int) := by
  rw [Int.toNat_natCast, Nat.min_eq_left (show m ≤ IntKind.u32.bits by show m ≤ 32; omega), Int.one_mul]; simp
 rw [e]
 clear e
 generalize 2 ^ m = X at hp
 exact IntWalk.u32_in (X : Int) ⟨by omega, by omega⟩
theorem shl_u8 {p m : Nat} (hm : m ≤ 8) (h : p <<< m < 256) : IntKind.u8.wrap ((p : Int) * 2 ^ (min (m : Int).toNat IntKind.u8.bits)) = ((p <<< m : Nat) : Int) := by
 have e : (p : Int) * 2 ^ (min (m : Int).toNat IntKind.u8.bits) = ((p <<< m : Nat) : Int) := by
  rw [Int.toNat_natCast, Nat.min_eq_left (show m ≤ IntKind.u8.bits from hm), Nat.shiftLeft_eq]; simp
 rw [e]
 clear e
 generalize p <<< m = X at h
 exact IntWalk.u8_in (X : Int) ⟨by omega, by omega⟩
theorem shl_lt {p many k : Nat} (hp : p < 2 ^ many) (h : many + k ≤ 8) : p <<< k < 256 := by
 rw [Nat.shiftLeft_eq]
 have h1 : p * 2 ^ k < 2 ^ many * 2 ^ k := Nat.mul_lt_mul_of_pos_right hp (Nat.two_pow_pos k)
 rw [← Nat.pow_add] at h1
 have h2 : 2 ^ (many + k) ≤ 2 ^ 8 := Nat.pow_le_pow_right (by decide) h
 omega
theorem set_last {bs : List Nat} {B : Nat} {rest : List Value} (v : Value) : setAt (byV (bs ++ [B]) ++ rest) (0 + ((bs ++ [B]).length - 1) * 1) [v] = byV bs ++ [v] ++ rest := by
 have h1 : (byV bs).length = bs.length := byV_len bs
 have e : byV (bs ++ [B]) ++ rest = byV bs ++ [.int .u8 (B : Int)] ++ rest := by rw [byV_append]; rfl
 rw [e, List.length_append, List.length_singleton, show 0 + (bs.length + 1 - 1) * 1 = (byV bs).length by omega]
 exact setAt_mid [v] (byV bs) [.int .u8 (B : Int)] rest rfl
theorem lay_bits (l : List Bool) (a many v n : Nat) (hm : many ≤ n) : l ++ bitsN a (v / 2 ^ n) ++ bitsN many (v / 2 ^ (n - many) % 2 ^ many) = l ++ bitsN (a + many) (v / 2 ^ (n - many)) := by
 rw [bitsN_mod, bitsN_add, Nat.div_div_eq_div_mul, ← Nat.pow_add, show n - many + many = n by omega, List.append_assoc]
theorem lays_spec (w0 : Base) (η H0 : Heap) (rb : Nat) (bv0 : Value) (bs0 : List Nat) (free0 : Nat) (l0 : List Bool) (v n0 : Nat) (hF0 : Frag 5 1 bv0 bs0.length (byV bs0) H0) (hP0 : Packed bs0 free0 l0) (h80 : free0 < 8) (hv : v < 4294967296) (hn0 : n0 ≤ 32) (hl0 : l0.length ≤ 1000000) :
    CallsT Tryz.prog 160 [.pointer (some ⟨rb, 0, none⟩), .int .u32 (v : Int), .int .i64 (n0 : Int)] (St w0 ((rb, 272, rowC bv0 free0 1) :: (H0 ++ η))) fun _ A' => ∃ bs bv free H, Frag 5 1 bv bs.length (byV bs) H ∧ Packed bs free (l0 ++ bitsN n0 v) ∧ free < 8 ∧ A' = St w0 ((rb, 272, rowC bv free 1) :: (H ++ η)) := by
  refine CallsT.body Tryz.func160 rfl rfl ?_
  simp only [Tryz.ntmps160, slotsOf, Nat.reduceAdd]
  refine TC_jumps (γ := { t : Nat × List Nat × Value × Nat × Heap // t.1 ≤ n0 ∧ Frag 5 1 t.2.2.1 t.2.1.length (byV t.2.1) t.2.2.2.2 ∧ Packed t.2.1 t.2.2.2.1 (l0 ++ bitsN (n0 - t.1) (v / 2 ^ t.1)) ∧ t.2.2.2.1 < 8 }) (fun t => [(0, true, .pointer (some ⟨rb, 0, none⟩)), (1, true, .int .u32 (v : Int)), (2, true, .int .i64 (t.1.1 : Int))]) (fun t => St w0 ((rb, 272, rowC t.1.2.2.1 t.1.2.2.2.1 1) :: (t.1.2.2.2.2 ++ η))) (fun t => t.1.1) ⟨(n0, bs0, bv0, free0, H0), Nat.le_refl _, hF0, by rw [Nat.sub_self]; show Packed bs0 free0 (l0 ++ []); rw [List.append_nil]; exact hP0, h80⟩ ⟨rfl, rfl, rfl, trivial⟩ (fun _ h => h) ?_
  rintro ⟨⟨n, bs, bv, free, H⟩, hn, hF, hP, h8f⟩
  dsimp only at hn hF hP h8f ⊢
  have hln := hP.len
  rw [List.length_append, bitsN_len] at hln
  have hfl := hP.le
  refine Qe (Qe (Qg ?_))
  refine Qa rfl rfl (Qc rfl rfl rfl) ?_
  refine Qa rfl rfl (QT_eql rfl rfl rfl rfl) ?_
  refine Qf (Qb ?_)
  refine Qm rfl (fun h8 => ?_) (fun h8 => ?_)
  ·
    refine Qu ?_
    refine Qn ?_
    refine TX_jump_ret ?_
    obtain rfl : n = 0 := by omega
    refine Qs (.inl rfl) (res0 rfl) ⟨_, ⟨bs, bv, free, H, hF, ?_, h8f, rfl⟩, fun _ h => h⟩
    rw [Nat.sub_zero, Nat.pow_zero, Nat.div_one] at hP
    exact hP
  ·
    refine Qt (Qb ?_)
    refine TC_cut (γ := { t : List Nat × Value × Nat × Heap // (0 < t.2.2.1 ∧ 0 < n) ∧ Frag 5 1 t.2.1 t.1.length (byV t.1) t.2.2.2 ∧ Packed t.1 t.2.2.1 (l0 ++ bitsN (n0 - n) (v / 2 ^ n)) }) (fun _ => [(0, true, .pointer (some ⟨rb, 0, none⟩)), (1, true, .int .u32 (v : Int)), (2, true, .int .i64 (n : Int))]) (fun t => St w0 ((rb, 272, rowC t.1.2.1 t.1.2.2.1 1) :: (t.1.2.2.2 ++ η))) ?_ ?_
    ·
      refine Qe (Qg ?_)
      refine Qa rfl rfl (Qc rfl rfl rfl) ?_
      refine Qa rfl rfl (Qv rfl rfl rfl) ?_
      refine Qa rfl rfl (Qh rfl rfl KF.fld_270_1 rfl) ?_
      refine Qa rfl rfl (Qj 0 rfl rfl Tryz.underlying3 rfl rfl rfl (fun _ => rfl)) ?_
      refine Qa rfl rfl (QT_eql rfl rfl rfl rfl) ?_
      refine Qf (Qb ?_)
      refine Qm rfl (fun h13 => ?_) (fun h13 => ?_)
      ·
        refine Qg ?_
        refine Qa rfl rfl (Qc rfl rfl rfl) ?_
        refine Qa rfl rfl (Qc rfl rfl rfl) ?_
        refine Qa rfl rfl (Qc rfl rfl rfl) ?_
        refine Qa rfl rfl (Qv rfl rfl rfl) ?_
        refine Qa rfl rfl (Qh rfl rfl KF.fld_270_0 rfl) ?_
        refine Qa rfl rfl (Qj 0 rfl rfl Tryz.underlying28 rfl rfl rfl (fun _ => rfl)) ?_
        refine TL_e rfl rfl rfl (rfl) (ET_buildSlice rfl Tryz.underlying28 KF.sz_5 KF.zero_5 rfl rfl rfl) ?_
        rintro _ _ ⟨b20, rfl, rfl⟩
        refine TL_e rfl rfl rfl (rfl) (ET_appendL (L := [_, _]) rfl Tryz.underlying28 el_Byte rfl rfl hF (fun _ h => h) (SlA.own (n := 1) (xs := [.int .u8 0]) 0 rfl rfl (Nat.le_refl _) (by omega)) (fun u hu => by cases List.mem_singleton.1 hu; rfl) (by omega) (by omega)) ?_
        rintro cv _ ⟨H', hF', rfl⟩
        obtain ⟨cad, ccap, rfl, _, _⟩ := hF'.slice
        refine Qa rfl rfl (Qv rfl rfl rfl) ?_
        refine Qa rfl rfl (Qh rfl rfl KF.fld_270_0 rfl) ?_
        refine TL_e0 rfl rfl (rfl) (ET_store 1 rfl rfl rfl rfl KF.sz_28 rfl rfl rfl) ?_
        rintro _ _ ⟨rfl, rfl⟩
        refine Qa rfl rfl (Qv rfl rfl rfl) ?_
        refine Qa rfl rfl (Qh rfl rfl KF.fld_270_1 rfl) ?_
        refine TL_e0 rfl rfl (rfl) (ET_store 1 rfl rfl rfl rfl KF.sz_3 rfl rfl rfl) ?_
        rintro _ _ ⟨rfl, rfl⟩
        refine Qf ?_
        obtain rfl : free = 0 := by omega
        exact TX_cut ⟨(bs ++ [0], .slice cad (bs.length + 1) ccap, 8, H'), ⟨by show 0 < 8; decide, by omega⟩, by rw [List.length_append, byV_append]; exact hF', hP.more⟩ ⟨rfl, rfl, rfl, trivial⟩ (fun _ h => h.tail)
      ·
        refine Qt ?_
        exact TX_cut ⟨(bs, bv, free, H), ⟨by show 0 < free; omega, by omega⟩, hF, hP⟩ ⟨rfl, rfl, rfl, trivial⟩ (fun _ h => h)
    clear hF hP hln hfl h8f bs bv free H
    rintro ⟨⟨bs, bv, free, H⟩, ⟨hf0, hn1⟩, hF, hP⟩
    dsimp only at hf0 hF hP ⊢
    have hln := hP.len
    rw [List.length_append, bitsN_len] at hln
    have hfl := hP.le
    obtain ⟨many, hmany⟩ : ∃ many, many = min n free := ⟨_, rfl⟩
    have hm1 : many ≤ n := by omega
    have hm2 : many ≤ free := by omega
    have hm0 : 0 < many := by omega
    refine Qe (Qg ?_)
    refine Qa rfl rfl (Qc rfl rfl rfl) ?_
    refine Qa rfl rfl (Qc rfl rfl rfl) ?_
    refine Qa rfl rfl (Qv rfl rfl rfl) ?_
    refine Qa rfl rfl (Qh rfl rfl KF.fld_270_1 rfl) ?_
    refine Qa rfl rfl (Qj 0 rfl rfl Tryz.underlying3 rfl rfl rfl (fun _ => rfl)) ?_
    refine Qa rfl rfl (QT_to (QT_min rfl rfl rfl rfl) (z' := (many : Int)) (by omega)) ?_
    refine Qa rfl rfl (Qd rfl rfl rfl) ?_
    refine Qf (Qb (Qe ?_))
    refine TC_draw [(0, 0), (1, 0), (2, 0), (3, 0), (4, 0), (5, 0), (6, 0), (7, 0), (8, 0), (9, 0), (10, 0), (11, 0), (12, 0), (13, 1)] KF.mixed (by kernel_rfl) (St.calm _ _) ?_
    refine Qk rfl rfl rfl (fun _ => Qc rfl rfl rfl) ?_
    refine Qk rfl rfl rfl (fun _ => Qc rfl rfl rfl) ?_
    refine Qk rfl rfl rfl (fun _ => Qc rfl rfl rfl) ?_
    refine Qk rfl rfl rfl (fun _ => QT_to (QT_sub rfl rfl rfl rfl (fun _ => ⟨by omega, by omega⟩)) (show (n : Int) - (many : Int) = ((n - many : Nat) : Int) by omega)) ?_
    refine Qk rfl rfl rfl (fun _ => Qc rfl rfl rfl) ?_
    refine Qk rfl rfl rfl (fun _ => Qv rfl rfl rfl) ?_
    refine Qk rfl rfl rfl (fun _ => Qh rfl rfl KF.fld_270_1 rfl) ?_
    refine Qz rfl rfl rfl (Qj 0 rfl rfl Tryz.underlying3 rfl rfl rfl (fun _ => rfl)) ?_
    refine Qk rfl rfl rfl (fun _ => Qc rfl rfl rfl) ?_
    refine Qk rfl rfl rfl (fun _ => QT_to (QT_sub rfl rfl rfl rfl (fun _ => ⟨by omega, by omega⟩)) (show (free : Int) - (many : Int) = ((free - many : Nat) : Int) by omega)) ?_
    refine Qk rfl rfl rfl (fun _ => Qd rfl rfl rfl) ?_
    refine Qk rfl rfl rfl (fun _ => Qv rfl rfl rfl) ?_
    refine Qk rfl rfl rfl (fun _ => Qh rfl rfl KF.fld_270_1 rfl) ?_
    refine TV_e0 rfl rfl rfl (rfl) (ET_store 0 rfl rfl rfl rfl KF.sz_3 rfl rfl rfl) ?_
    rintro _ _ ⟨rfl, rfl⟩
    refine ⟨_, .drop (by kernel_rfl) (.nil), ?_⟩
    refine TV_end (Qb (Qe ?_))
    obtain ⟨bs1, B, rfl⟩ : ∃ bs1 B, bs = bs1 ++ [B] := by
      rcases List.eq_nil_or_concat bs with h | ⟨a, b, h⟩
      · subst h; simp at hln; omega
      · exact ⟨a, b, by rw [h]; simp⟩
    obtain ⟨bad, bcap, rfl, hbc, hbb⟩ := hF.slice
    obtain ⟨bb, rest, rfl, rfl⟩ := hbb (by simp)
    obtain ⟨hlt, hlay⟩ := hP.lay (many := many) (p := v / 2 ^ (n - many) % 2 ^ many) hm2 (Nat.mod_lt _ (Nat.two_pow_pos _))
    rw [lay_bits l0 (n0 - n) many v n hm1] at hlay
    have hB : B < 256 := hP.small B (by simp)
    have hm8 : many ≤ 8 := by omega
    have hp8 := pow_b (m := many) (by omega)
    have hpm : v / 2 ^ (n - many) % 2 ^ many < 2 ^ many := Nat.mod_lt _ hp8.1
    have hp256 : 2 ^ many ≤ 2 ^ 8 := Nat.pow_le_pow_right (by decide) hm8
    have hvd : v / 2 ^ (n - many) ≤ v := Nat.div_le_self ..
    have hsl := shl_lt (k := free - many) hpm (by omega)
    have hBat : (byV (bs1 ++ [B]) ++ rest)[0 + ((bs1 ++ [B]).length - 1) * 1]? = some (.int .u8 (B : Int)) := by
      rw [byV_append, List.append_assoc, List.getElem?_append_right (by rw [byV_len]; simp), byV_len]
      simp [byV]
    have hble : 0 + ((bs1 ++ [B]).length - 1) * 1 + 1 ≤ (byV (bs1 ++ [B]) ++ rest).length := by
      have e1 : (byV (bs1 ++ [B]) ++ rest).length = (bs1 ++ [B]).length + rest.length := by rw [List.length_append, byV_len]
      have e2 : 0 < (bs1 ++ [B]).length := by simp
      omega
    refine TC_draw [(0, 0), (1, 0), (2, 0), (3, 0), (4, 0), (5, 0), (6, 0), (7, 0), (8, 0), (9, 0), (10, 0), (11, 0), (12, 0), (13, 0), (14, 0), (15, 0), (16, 0), (17, 0), (18, 0), (19, 0), (20, 0), (21, 0), (22, 0), (23, 0), (24, 0), (25, 0), (26, 0), (27, 1)] KF.mixed (by kernel_rfl) (St.calm _ _) ?_
    refine Qk rfl rfl rfl (fun _ => Qc rfl rfl rfl) ?_
    refine Qk rfl rfl rfl (fun _ => Qv rfl rfl rfl) ?_
    refine Qk rfl rfl rfl (fun _ => Qh rfl rfl KF.fld_270_0 rfl) ?_
    refine Qz rfl rfl rfl (Qj 0 rfl rfl Tryz.underlying28 rfl rfl rfl (fun _ => rfl)) ?_
    refine Qk rfl rfl rfl (fun _ => Qc rfl rfl rfl) ?_
    refine Qk rfl rfl rfl (fun _ => Qv rfl rfl rfl) ?_
    refine Qk rfl rfl rfl (fun _ => Qh rfl rfl KF.fld_270_0 rfl) ?_
    refine Qz rfl rfl rfl (Qj 0 rfl rfl Tryz.underlying28 rfl rfl rfl (fun _ => rfl)) ?_
    refine Qk rfl rfl rfl (fun _ => Za rfl rfl Tryz.underlying28 rfl) ?_
    refine Qk rfl rfl rfl (fun _ => QT_to (QT_sub rfl rfl rfl rfl (fun _ => ⟨by omega, by omega⟩)) (show (((bs1 ++ [B]).length : Nat) : Int) - 1 = (((bs1 ++ [B]).length - 1 : Nat) : Int) by simp)) ?_
    refine Qk rfl rfl rfl (fun _ => Qq ((bs1 ++ [B]).length - 1) rfl rfl Tryz.underlying28 KF.sz_5 rfl rfl (rfl) (fun _ => by simp)) ?_
    refine Qz rfl rfl rfl (Qj 1 rfl rfl Tryz.underlying5 rfl rfl rfl (fun _ => hBat)) ?_
    refine Qk rfl rfl rfl (fun _ => Qc rfl rfl rfl) ?_
    refine Qk rfl rfl rfl (fun _ => Qc rfl rfl rfl) ?_
    refine Qk rfl rfl rfl (fun _ => QT_to (QT_shr rfl rfl rfl rfl (fun _ => by omega)) (shr_nat (k := .u32) (by show n - many ≤ 32; omega))) ?_
    refine Qk rfl rfl rfl (fun _ => Qc rfl rfl rfl) ?_
    refine Qk rfl rfl rfl (fun _ => QT_to (QT_shl rfl rfl rfl rfl (fun _ => by omega)) (two_u32 hm8)) ?_
    refine Qk rfl rfl rfl (fun _ => QT_to (QT_subw rfl rfl rfl rfl) (show IntKind.u32.wrap (((2 ^ many : Nat) : Int) - 1) = ((2 ^ many - 1 : Nat) : Int) by rw [IntWalk.u32_in _ ⟨by omega, by omega⟩]; omega)) ?_
    refine Qk rfl rfl rfl (fun _ => QT_to (QT_bits rfl rfl (by decide) rfl rfl) (show bitsOf .and .u32 ((v / 2 ^ (n - many) : Nat) : Int) ((2 ^ many - 1 : Nat) : Int) = ((v / 2 ^ (n - many) % 2 ^ many : Nat) : Int) by rw [and_u32 (by omega) (by omega), Nat.and_two_pow_sub_one_eq_mod])) ?_
    refine Qk rfl rfl rfl (fun _ => QT_convN rfl rfl Tryz.underlying70 Tryz.underlying5 rfl (IntWalk.u8_in _ ⟨by omega, by omega⟩)) ?_
    refine Qk rfl rfl rfl (fun _ => Qc rfl rfl rfl) ?_
    refine Qk rfl rfl rfl (fun _ => Qv rfl rfl rfl) ?_
    refine Qk rfl rfl rfl (fun _ => Qh rfl rfl KF.fld_270_1 rfl) ?_
    refine Qz rfl rfl rfl (Qj 0 rfl rfl Tryz.underlying3 rfl rfl rfl (fun _ => rfl)) ?_
    refine Qk rfl rfl rfl (fun _ => QT_to (QT_shl rfl rfl rfl rfl (fun _ => by omega)) (shl_u8 (by omega) hsl)) ?_
    refine Qk rfl rfl rfl (fun _ => QT_to (QT_bits rfl rfl (by decide) rfl rfl) (or_u8 hB hsl hlt)) ?_
    refine Qk rfl rfl rfl (fun _ => Qq ((bs1 ++ [B]).length - 1) rfl rfl Tryz.underlying28 KF.sz_5 rfl rfl (rfl) (fun _ => by simp)) ?_
    refine TV_e0 rfl rfl rfl (rfl) (ET_store (vs := [.int .u8 ((B ||| ((v / 2 ^ (n - many) % 2 ^ many) <<< (free - many)) : Nat) : Int)]) 1 rfl rfl rfl rfl KF.sz_5 rfl rfl (Nat.ble_eq_true_of_le hble)) ?_
    rintro _ _ ⟨rfl, rfl⟩
    refine ⟨_, .drop (by kernel_rfl) (.drop (by kernel_rfl) (.drop (by kernel_rfl) (.drop (by kernel_rfl) (.nil)))), ?_⟩
    refine TV_end (Qb ?_)
    refine TC_goto ?_
    refine TX_jump_round ⟨(n - many, bs1 ++ [B ||| ((v / 2 ^ (n - many) % 2 ^ many) <<< (free - many))], .slice (some ⟨bb, 0, none⟩) (bs1 ++ [B]).length bcap, free - many, [(bb, 5, byV (bs1 ++ [B ||| ((v / 2 ^ (n - many) % 2 ^ many) <<< (free - many))]) ++ rest)]), by dsimp only; omega, ?_, ?_, by dsimp only; omega⟩ (by dsimp only; omega) ⟨rfl, rfl, rfl, trivial⟩ (fun w h => ?_)
    · dsimp only
      obtain ⟨_, hFr⟩ := hF
      rcases hFr with ⟨h, _, _⟩ | ⟨b2, cap2, rest2, hv2, hc2, hl2, hH2⟩
      · cases h
      · obtain ⟨h1, _, rfl⟩ := Value.slice.inj hv2
        simp only [List.cons.injEq, Prod.mk.injEq, true_and, and_true] at hH2
        obtain ⟨rfl, hr⟩ := hH2
        refine ⟨by rw [byV_len, Nat.mul_one], .inr ⟨bb, bcap, rest, by simp, by simpa using hc2, ?_, rfl⟩⟩
        have := List.append_cancel_left hr
        subst this
        simpa [byV_len] using hl2
    · dsimp only
      rw [show n0 - (n - many) = n0 - n + many by omega]
      exact hlay
    · have e := set_last (bs := bs1) (B := B) (rest := rest) (.int .u8 ((B ||| ((v / 2 ^ (n - many) % 2 ^ many) <<< (free - many)) : Nat) : Int))
      have e2 : byV (bs1 ++ [B ||| ((v / 2 ^ (n - many) % 2 ^ many) <<< (free - many))]) ++ rest = byV bs1 ++ [.int .u8 ((B ||| ((v / 2 ^ (n - many) % 2 ^ many) <<< (free - many)) : Nat) : Int)] ++ rest := by rw [byV_append]; rfl
      dsimp only
      rw [e2, ← e]
      exact h
end Go.Proofs.YtjdaglmkljbfkaaGreatDoor
namespace Go.Proofs.YtjdaglmkljbfkaaGreatDoor
open Go Go.Gx Go.RowKit
set_option maxRecDepth 100000
def putE (len v : Nat) (n : Int) : Int := if n < 0 ∨ 32 < n ∨ 0 < v / 2 ^ n.toNat then 1 else if 524288 < (len : Int) + n then 3 else 0
def putL (l : List Bool) (v : Nat) (n : Int) : List Bool := if putE l.length v n = 0 then l ++ bitsN n.toNat v else l
theorem shr64 {v : Nat} {n : Int} (hv : v < 4294967296) (h0 : 0 ≤ n) : (v : Int).fdiv (2 ^ (min n.toNat IntKind.u64.bits)) = ((v / 2 ^ n.toNat : Nat) : Int) := by
  obtain ⟨m, rfl⟩ := Int.eq_ofNat_of_zero_le h0
  by_cases h : m ≤ 64
  · exact shr_nat (k := .u64) h
  · have h1 : v / 2 ^ m = 0 := Nat.div_eq_of_lt (Nat.lt_of_lt_of_le hv (Nat.le_trans (show 4294967296 ≤ 2 ^ 32 by decide) (Nat.pow_le_pow_right (show 0 < 2 by decide) (show 32 ≤ m by omega))))
    have h2 : v / 2 ^ 64 = 0 := Nat.div_eq_of_lt (by omega)
    rw [Int.toNat_natCast, Nat.min_eq_right (show IntKind.u64.bits ≤ m by show 64 ≤ m; omega), h1]
    show (v : Int).fdiv ((2 ^ 64 : Nat) : Int) = _
    rw [fdiv_nat, h2]
theorem shr32 {v : Nat} {n : Int} (hv : v < 4294967296) (h0 : 0 ≤ n) : (v : Int).fdiv (2 ^ (min n.toNat IntKind.u32.bits)) = ((v / 2 ^ n.toNat : Nat) : Int) := by
  obtain ⟨m, rfl⟩ := Int.eq_ofNat_of_zero_le h0
  by_cases h : m ≤ 32
  · exact shr_nat (k := .u32) h
  · have h1 : v / 2 ^ m = 0 := Nat.div_eq_of_lt (Nat.lt_of_lt_of_le hv (Nat.le_trans (show 4294967296 ≤ 2 ^ 32 by decide) (Nat.pow_le_pow_right (show 0 < 2 by decide) (show 32 ≤ m by omega))))
    have h2 : v / 2 ^ 32 = 0 := Nat.div_eq_of_lt (by omega)
    rw [Int.toNat_natCast, Nat.min_eq_right (show IntKind.u32.bits ≤ m by show 32 ≤ m; omega), h1]
    show (v : Int).fdiv ((2 ^ 32 : Nat) : Int) = _
    rw [fdiv_nat, h2]
/-- the row's memory: its block, its bytes' block -/
def RowAt (rb : Nat) (l : List Bool) (K : Heap) : Prop := ∃ bs bv free H, Frag 5 1 bv bs.length (byV bs) H ∧ Packed bs free l ∧ free < 8 ∧ K = (rb, 272, rowC bv free 1) :: H
theorem put_spec (w0 : Base) (η K : Heap) (rb : Nat) (l : List Bool) (v : Nat) (n : Int) (hK : RowAt rb l K) (hv : v < 4294967296) (hn : I64 n) (hl : l.length ≤ 524288) :
    CallsT Tryz.prog 142 [.pointer (some ⟨rb, 0, none⟩), .int .u32 (v : Int), .int .i64 n] (St w0 (K ++ η)) fun r A' => ∃ K', r = .int .i64 (putE l.length v n) ∧ RowAt rb (putL l v n) K' ∧ A' = St w0 (K' ++ η) := by
  obtain ⟨bs, bv, free, H, hF, hP, h8f, rfl⟩ := hK
  obtain ⟨bad, bcap, rfl, _, _⟩ := hF.slice
  have hln := hP.len
  have hfl := hP.le
  have hw64 : IntKind.u64.wrap (v : Int) = (v : Int) := IntWalk.u64_in _ ⟨by omega, by omega⟩
  have hsame : ∀ {e : Int}, putE l.length v n = e → e ≠ 0 → RowAt rb (putL l v n) ((rb, 272, rowC (.slice bad bs.length bcap) free 1) :: H) := fun h h0 => by
    unfold putL
    rw [if_neg (by rw [h]; exact h0)]
    exact ⟨bs, _, free, H, hF, hP, h8f, rfl⟩
  refine CallsT.body Tryz.func142 rfl rfl ?_
  simp only [Tryz.ntmps142, slotsOf, Nat.reduceAdd]
  refine Qe (Qg ?_)
  refine Qa rfl rfl (Qd rfl rfl rfl) ?_
  refine Qf (Qb (Qe (Qr (Qe (Qg ?_)))))
  refine Qa rfl rfl (Qc rfl rfl rfl) ?_
  refine TL_cq rfl rfl rfl rfl KF.cal_158 rfl (fun _ => there_spec w0 (H ++ η) rb _ free 1) ?_
  refine Qa rfl rfl (QT_not rfl rfl rfl) ?_
  refine Qa rfl rfl (Qd rfl rfl rfl) ?_
  refine Qf (Qb ?_)
  refine TC_cond rfl (fun h => absurd (h.symm.trans ((show (_ : Bool) = false by rfl))) (by decide)) (fun _ => ?_)
  refine Qe (Qg ?_)
  refine Qa rfl rfl (Qc rfl rfl rfl) ?_
  refine Qa rfl rfl (QT_lss rfl rfl rfl rfl) ?_
  refine Qa rfl rfl (Qc rfl rfl rfl) ?_
  refine Qa rfl rfl (Qc rfl rfl rfl) ?_
  refine Qa rfl rfl (QT_gtr rfl rfl rfl rfl) ?_
  refine Qa rfl rfl (QT_or rfl rfl rfl rfl) ?_
  refine Qa rfl rfl (Qc rfl rfl rfl) ?_
  refine Qa rfl rfl (Qc rfl rfl rfl) ?_
  refine Qa rfl rfl (QT_convN rfl rfl Tryz.underlying70 Tryz.underlying230 rfl hw64) ?_
  refine Qa rfl rfl (Qc rfl rfl rfl) ?_
  refine Qa rfl rfl (QT_shr rfl rfl rfl rfl (fun h => by simp at h; omega)) ?_
  refine Qa rfl rfl (QT_gtr rfl rfl rfl rfl) ?_
  refine Qa rfl rfl (QT_or rfl rfl rfl rfl) ?_
  refine Qa rfl rfl (Qd rfl rfl rfl) ?_
  refine Qf (Qb ?_)
  refine TC_cond rfl (fun h11 => ?_) (fun h11 => ?_)
  ·
    refine Qe (Qg ?_)
    refine Qa rfl rfl (Qd rfl rfl rfl) ?_
    refine Qf (Qb ?_)
    refine Qu ?_
    refine Zc ?_
    refine Qn ?_
    have e1 : putE l.length v n = 1 := by
      unfold putE
      rw [if_pos]
      by_cases h0 : n < 0
      · exact .inl h0
      · by_cases h1 : 32 < n
        · exact .inr (.inl h1)
        · right; right
          rw [shr64 hv (by omega)] at h11
          simp only [Bool.or_eq_true, decide_eq_true_eq] at h11
          omega
    exact Qs (.inl rfl) (res1 rfl rfl) ⟨_, ⟨_, by rw [e1], hsame e1 (by decide), rfl⟩, fun _ h => h⟩
  ·
    refine Qe ?_
    have hgood : ¬ (n < 0 ∨ 32 < n ∨ 0 < v / 2 ^ n.toNat) := by
      have h0 : 0 ≤ n := by
        simp only [Bool.or_eq_false_iff, decide_eq_false_iff_not] at h11
        omega
      rw [shr64 hv h0] at h11
      simp only [Bool.or_eq_false_iff, decide_eq_false_iff_not] at h11
      omega
    refine Qg ?_
    refine Qa rfl rfl (Qc rfl rfl rfl) ?_
    refine TL_cq rfl rfl rfl rfl KF.cal_159 rfl (fun _ => len_spec w0 (H ++ η) rb bad bs.length bcap free (by omega) hfl) ?_
    refine Qa rfl rfl (Qc rfl rfl rfl) ?_
    refine Qa rfl rfl (Zb rfl rfl rfl rfl (fun _ => ⟨by omega, by omega⟩)) ?_
    refine Qa rfl rfl (QT_gtr rfl rfl rfl rfl) ?_
    refine Qa rfl rfl (Qd rfl rfl rfl) ?_
    refine Qf (Qb ?_)
    refine Qm rfl (fun h25 => ?_) (fun h25 => ?_)
    ·
      refine Qe (Qg ?_)
      refine Qa rfl rfl (Qd rfl rfl rfl) ?_
      refine Qf (Qb ?_)
      refine Qu ?_
      refine Zc ?_
      refine Qn ?_
      have e3 : putE l.length v n = 3 := by unfold putE; rw [if_neg hgood, if_pos (by omega)]
      exact Qs (.inl rfl) (res1 rfl rfl) ⟨_, ⟨_, by rw [e3], hsame e3 (by decide), rfl⟩, fun _ h => h⟩
    ·
      refine Qt ?_
      refine Qo ?_
      refine Qb (Qe ?_)
      have e0 : putE l.length v n = 0 := by unfold putE; rw [if_neg hgood, if_neg (by omega)]
      obtain ⟨m, rfl⟩ := Int.eq_ofNat_of_zero_le (show 0 ≤ n by omega)
      refine Qg ?_
      refine Qa rfl rfl (Qc rfl rfl rfl) ?_
      refine Qa rfl rfl (Qv rfl rfl rfl) ?_
      refine Qa rfl rfl (Qh rfl rfl KF.fld_272_0 rfl) ?_
      refine Qa rfl rfl (Qc rfl rfl rfl) ?_
      refine Qa rfl rfl (Qc rfl rfl rfl) ?_
      refine TL_e rfl rfl rfl (rfl) (ET_call rfl KF.cal_160 rfl (lays_spec w0 η H rb _ bs free l v m hF hP h8f hv (by omega) (by omega))) ?_
      rintro _ _ ⟨bs', bv', free', H', hF', hP', h8', rfl⟩
      refine Qf (Qb (Qe (Qg ?_)))
      refine Qa rfl rfl (Qd rfl rfl rfl) ?_
      refine Qf (Qb ?_)
      refine Qu ?_
      refine Qs (.inl rfl) (res1 rfl rfl) ⟨_, ⟨(rb, 272, rowC bv' free' 1) :: H', by rw [e0], ?_, rfl⟩, fun _ h => h⟩
      unfold putL
      rw [if_pos e0, Int.toNat_natCast]
      exact ⟨bs', bv', free', H', hF', hP', h8', rfl⟩
theorem RowAt.bytes {w0 : Base} {rb : Nat} {l : List Bool} {K : Heap} (η : Heap) (hK : RowAt rb l K) (hl : l.length ≤ 600000) :
  CallsT Tryz.prog 143 [.pointer (some ⟨rb, 0, none⟩)] (St w0 (K ++ η)) fun v A' => ∃ bs H2, Frag 5 1 v bs.length (byV bs) H2 ∧ (byB bs = l ++ List.replicate (8 * ((l.length + 7) / 8) - l.length) false ∧ ∀ c ∈ bs, c < 256) ∧ A' = St w0 (H2 ++ (K ++ η)) := by
 obtain ⟨bs, bv, free, H, hF, hP, h8f, rfl⟩ := hK
 have hln := hP.len
 refine (bytes_spec w0 η H rb bv free bs.length (byV bs) hF (byV_ints hP.small) (by omega)).mono fun v A' ⟨H2, hF2, hA⟩ => ⟨_, ⟨bs, H2, hF2, ⟨?_, hP.small⟩, rfl⟩, fun w h => by rw [hA] at h; exact h⟩
 rw [hP.eq, show free = 8 * ((l.length + 7) / 8) - l.length by omega]
end Go.Proofs.YtjdaglmkljbfkaaGreatDoor

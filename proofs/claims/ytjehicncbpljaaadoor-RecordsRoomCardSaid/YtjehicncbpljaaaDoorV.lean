/- RANGES OVER A FUNCTION: the rules of the walks. Program-independent. -/
import Derived.Test.YtjehicncbpljaaaDoorR
namespace Go.Gx
open Go Go.RowKit
section
variable {P : Program} {n m : Nat} {ro : Option Nat} {ops : Array Oper} {o : Oper} {σ : Slots} {A : World → Prop} {Q : Exit → Act → World → Prop} {rest : List Oper}
def TCI (P : Program) (n : Nat) (ro : Option Nat) (m : Nat) (c : Code) (Q : Exit → Act → World → Prop) (σ : Slots) (A : World → Prop) : Prop := NoOut Q → ∀ a w, Fr n σ a → A w → c.wpIn (FR ro) m P Q a w
def GoOn (P : Program) (ro : Option Nat) (m : Nat) (y : Code) (Q : Exit → Act → World → Prop) (a : Act) (w : World) : Prop := NoOut Q → y.wpIn (FR ro) m P Q a w
theorem TCI_seq {x y : Code} (k : TCI P n ro m x (Exit.then (GoOn P ro m y Q) Q) σ A) : TCI P n ro m (.seq x y) Q σ A := fun hn a w hf hA =>
  wpIn_seq (wpIn_mono (k (fun a w h => hn a w h) a w hf hA) fun e a w h => by cases e <;> first | exact h hn | exact h)
theorem TXI_then {y : Code} {Q' : Exit → Act → World → Prop} (k : TCI P n ro m y Q σ A) : TX n (Exit.then (GoOn P ro m y Q) Q') .normal σ A := fun a w hf hA hn => k hn a w hf hA
theorem TCI_skip (k : TX n Q .normal σ A) : TCI P n ro m .skip Q σ A := fun _ a w hf hA => wpIn_skip (k a w hf hA)
theorem TCI_exit {id : Nat} (k : TX n Q (.exit id) σ A) : TCI P n ro m (.exit id) Q σ A := fun _ a w hf hA => wpIn_exit (k a w hf hA)
theorem TCI_ret (k : TX n Q .ret σ A) : TCI P n ro m .ret Q σ A := fun _ a w hf hA => wpIn_ret (k a w hf hA)
theorem TCI_block {id : Nat} {c : Code} (k : TCI P n ro m c (Exit.inBlock id Q) σ A) : TCI P n ro m (.block id c) Q σ A := fun hn a w hf hA => wpIn_block (k (fun a w h => hn a w h) a w hf hA)
theorem TCI_cond {c : Operand} {x y : Code} {b : Bool} (hc : ev σ c = some (true, .bool b)) (h1 : b = true → TCI P n ro m x Q σ A) (h2 : b = false → TCI P n ro m y Q σ A) : TCI P n ro m (.cond c x y) Q σ A := by
  intro hn a w hf hA
  refine wpIn_cond (hf.eval hc rfl) ?_
  cases b with
  | true => exact h1 rfl hn a w hf hA
  | false => exact h2 rfl hn a w hf hA
theorem TCI_cond_dec {c : Operand} {x y : Code} {p : Prop} [Decidable p] (hc : ev σ c = some (true, .bool (decide p))) (h1 : p → TCI P n ro m x Q σ A) (h2 : ¬p → TCI P n ro m y Q σ A) : TCI P n ro m (.cond c x y) Q σ A :=
  TCI_cond hc (fun h => h1 (of_decide_eq_true h)) (fun h => h2 (of_decide_eq_false h))
theorem TCI_A {c : Code} (A' : World → Prop) (hA : ∀ w, A w → A' w) (k : TCI P n ro m c Q σ A') : TCI P n ro m c Q σ A := fun hn a w hf h => k hn a w hf (hA w h)
theorem TCI_weaken {c : Code} {σ' : Slots} {A' : World → Prop} (hs : Sub σ' σ) (hA : ∀ w, A w → A' w) (k : TCI P n ro m c Q σ' A') : TCI P n ro m c Q σ A :=
  fun hn a w hf h => k hn a w (hf.weaken hs.spec) (hA w h)
theorem TCI_cut {γ : Type} {x y : Code} (σ' : γ → Slots) (A' : γ → World → Prop) (h1 : TCI P n ro m x (Exit.then (fun a w => ∃ t, Fr n (σ' t) a ∧ A' t w) Q) σ A) (h2 : ∀ t, TCI P n ro m y Q (σ' t) (A' t)) : TCI P n ro m (.seq x y) Q σ A :=
  fun hn a w hf hA => wpIn_seq (wpIn_mono (h1 (fun a w h => hn a w h) a w hf hA) fun e a w h => by
    cases e <;> first | exact (let ⟨t, h1, h3⟩ := h; h2 t hn a w h1 h3) | exact h)
theorem TCI_reg {id : Nat} {l : List Oper} (k : TL P n l.toArray Q l σ A) (hd : l.all noDef = true := by rfl) : TCI P n ro m (.region id l.toArray false) Q σ A := fun hn a w hf hA => wpIn_region_lit (wpList_In hn hd (k a w hf hA))
theorem TCI_loop {γ : Type} {c : Code} (σ' : γ → Slots) (A' : γ → World → Prop) (μ : γ → Nat) (t0 : γ) (hs : Sub (σ' t0) σ) (hA : ∀ w, A w → A' t0 w)
    (round : ∀ t, TCI P n ro m c (Exit.then (Next n σ' A' μ (μ t)) Q) (σ' t) (A' t)) : TCI P n ro m (.loop c) Q σ A := by
  intro hn a w hf h b k cs hro hb hr
  have key : ∀ (j : Nat) (t : γ), μ t = j → ∀ a w, Fr n (σ' t) a → A' t w →
      ∃ e a' w', Q e a' w' ∧ ArrivesIn (Machine.fenced P (FR ro)) P (lone (b.atR a (.code c :: .inLoop c :: k)) cs w) b k cs e a' w' := by
    intro j
    induction j using Nat.strongRecOn with
    | _ j ih =>
      intro t hm a w hf h
      obtain ⟨e, a₁, w₁, hq, harr⟩ := round t (fun a w h => hn a w h) a w hf h b (.inLoop c :: k) cs hro hb hr
      cases e with
      | normal =>
        obtain ⟨t', hlt, hf', h'⟩ := hq
        obtain ⟨e₂, a₂, w₂, hq₂, harr₂⟩ := ih (μ t') (hm ▸ hlt) t' rfl a₁ w₁ hf' h'
        exact ⟨e₂, a₂, w₂, hq₂, .of_steps (StepsIn.trans harr (.one (fenced_calm hb hr rfl) stepR_inLoop)) harr₂⟩
      | exit id => exact ⟨_, a₁, w₁, hq, .pass (x := .inLoop c) rfl (fun _ _ => .inl (by simp)) harr⟩
      | goto l => exact ⟨_, a₁, w₁, hq, .pass (x := .inLoop c) rfl (fun _ _ => .inl (by simp)) harr⟩
      | ret => exact ⟨_, a₁, w₁, hq, .pass (x := .inLoop c) rfl (fun _ _ => .inl (by simp)) harr⟩
      | panic ch => exact ⟨_, a₁, w₁, hq, .pass (x := .inLoop c) rfl (fun _ _ => .inl (by simp)) harr⟩
      | outgrown => exact ⟨_, a₁, w₁, hq, .pass (x := .inLoop c) rfl (fun _ _ => .inl (by simp)) harr⟩
  obtain ⟨e, a', w', hq, harr⟩ := key _ t0 rfl a w (hf.weaken hs.spec) (hA w h)
  exact ⟨e, a', w', hq, .of_steps (.one (fenced_calm hb hr rfl) stepR_loop) harr⟩
theorem wpOps_In (hn : NoOut Q) (hd : ops.all noDef = true) : ∀ {l : List Nat} {a : Act} {w : World}, wpOps P ops Q l a w → wpOpsIn (FR ro) m P ops Q l a w
  | [], _, _, h => h
  | i :: rest, a, w, h => by
    unfold wpOps at h
    unfold wpOpsIn
    cases ho : ops[i]? with
    | none => rw [ho] at h; exact wpOps_In hn hd h
    | some o =>
      rw [ho] at h
      simp only at h ⊢
      have hdo : noDef o = true := by
        obtain ⟨hi, he⟩ := Array.getElem?_eq_some_iff.1 ho
        exact he ▸ (Array.all_eq_true.1 hd i hi)
      split
      · rename_i hw
        rw [if_pos hw] at h
        rcases h with h | ⟨_, a1, w1, h1⟩
        · exact Oper.wpIn_mono (fun a w h => wpOps_In hn hd h) (wp_In hdo h)
        · exact absurd h1 (hn a1 w1)
      · rename_i hw
        rw [if_neg hw] at h
        exact ⟨fun _ _ => trivial, wpOps_In hn hd h⟩
theorem TCI_draw {id : Nat} {l : List Oper} (ord : List (Nat × Nat)) (hm : P.follows .mixedOrders = true) (h0 : chk0 l.toArray ord = true) (hA : Calm A)
    (k : TV P n l.toArray (noPanic Q) ord [] σ A) (hd : l.all noDef = true := by rfl) : TCI P n ro m (.region id l.toArray true) Q σ A := by
  intro hn a w hf h
  simp only [chk0, Bool.and_eq_true, beq_iff_eq] at h0
  obtain ⟨⟨⟨hs, hlen⟩, hall⟩, hc⟩ := h0
  have hl : Array.replicate l.toArray.size false = listedOf l.toArray.size ord := by
    apply Array.ext'
    simp only [listedOf, Array.toList_replicate]
    apply List.ext_getElem?
    intro j
    rw [List.getElem?_map, List.getElem?_replicate]
    by_cases hj : j < l.toArray.size
    · have := List.all_eq_true.1 hall j (List.mem_range.2 hj)
      rw [if_pos hj, List.getElem?_range hj]
      simp [this]
    · rw [if_neg hj, List.getElem?_eq_none (by simpa using hj)]
      rfl
  have hk := k hs (fun c a w h => h) hc a w.drew [] hf (hA w h) rfl
  refine wpIn_mono (wpIn_region_draw (Q := noPanic Q) fun t => wpOps_In (Q := noPanic Q) (ops := l.toArray) (fun a w h => hn a w h) (by rw [← Array.all_toList]; exact hd) ?_) (fun e a w h => by cases e <;> first | exact h | exact h.elim)
  simp only [Region.schedule, hm, Bool.true_or, if_true]
  refine wpAny_sound l.toArray.size t _ a _ (wpAny_of_V _ [] _ _ _ ?_)
  rw [hl, ← hlen]
  rw [← hlen] at hk
  exact hk

/-! regions in which yield is called -/
def TLI (P : Program) (n m : Nat) (ops : Array Oper) (Q : Exit → Act → World → Prop) (rest : List Oper) (σ : Slots) (A : World → Prop) : Prop := ∀ a w, Fr n σ a → A w → wpListIn (FR none) m P ops Q rest a w
theorem TLI_nil (k : TX n Q .normal σ A) : TLI P n m ops Q [] σ A := fun a w hf hA => k a w hf hA
theorem TLI_q {d : Nat} {g : Bool} {v : Value} (hd : o.dst = some d) (hn : Nat.ble (d + 1) n = true) (hq : QT P n ops o σ A g v) (k : TLI P n m ops Q rest ((d, g, v) :: σ) A) : TLI P n m ops Q (o :: rest) σ A := by
  intro a w hf hA
  obtain ⟨hw, hr⟩ := hq a w hf hA
  unfold wpListIn
  cases g with
  | true =>
    rw [if_pos hw]
    refine ⟨fun _ _ => trivial, ?_⟩
    show Oper.uponIn _ _ _ _ _ _ _ ((execOp a.eval o).run P w)
    rw [hr rfl, Oper.uponIn_value, hd]
    exact k _ _ (hf.put hn rfl) hA
  | false =>
    rw [if_neg (by simp [hw]), hd]
    exact ⟨fun _ _ => trivial, k _ _ (hf.put hn rfl) hA⟩
theorem TLI_yield {A' : World → Prop} {d l : Nat} {x y : Operand} {u : Value} {ts : Array TypeId} (hd : o.dst = some d) (hn : Nat.ble (d + 1) n = true) (hg : gdc ops σ o = some true) (hop : o.op = .call { callee := .value x, args := #[y], argTypes := ts })
    (hx : ev σ x = some (true, .func (.yield l) #[] #[])) (hy : ev σ y = some (true, u))
    (hr : ∀ W, A W → ∃ fn tmps assign body, (Instr.yield l #[u]).run P W = .ok (.round l fn tmps assign body) W ∧ ∀ m', RoundIn (FR none) m' P l fn tmps assign body W fun e W' => e = .returned (.bool true) ∧ A' W')
    (k : TLI P n m ops Q rest ((d, true, .bool true) :: σ) A') : TLI P n m ops Q (o :: rest) σ A := by
  intro a w hf hA
  have hw := wanted_of_gdc (ops := ops) hf hg
  obtain ⟨fn, tmps, assign, body, h1, h2⟩ := hr w hA
  unfold wpListIn
  rw [if_pos hw]
  refine ⟨fun _ _ => trivial, ?_⟩
  show Oper.uponIn _ _ _ _ _ _ _ ((execOp a.eval o).run P w)
  have e1 := hf.eval hx rfl
  have e2 := hf.eval hy rfl
  have e3 : (execOp a.eval o).run P w = .ok (.round l fn tmps assign body) w := by
    simp only [execOp, hop, resolve, e1, Deferred.ofValue, Sem.run_bind, Sem.run_pure, Result.andThen_ok, invoke]
    simpa [e2] using h1
  rw [e3, Oper.uponIn_round]
  refine ⟨fun hx => Bool.noConfusion hx, (h2 _).mono ?_⟩
  rintro e W' ⟨rfl, hA'⟩
  simp only [hd]
  exact k _ _ (hf.put hn rfl) hA'
theorem TCI_regI {id : Nat} {l : List Oper} (k : TLI P n m l.toArray Q l σ A) : TCI P n none m (.region id l.toArray false) Q σ A := fun _ a w hf hA => wpIn_region_lit (k a w hf hA)
end
end Go.Gx

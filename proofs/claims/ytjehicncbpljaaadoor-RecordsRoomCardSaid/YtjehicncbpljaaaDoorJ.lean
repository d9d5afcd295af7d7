/- JUMPS BACK TO A LABEL. Program-independent. -/
import Derived.Test.YtjehicncbpljaaaDoorI
import Derived.ScopeJumps
namespace Go.Gx
open Go Go.RowKit
/-- A scope that begins with its one label, to which the run jumps back: an invariant, a measure. -/
theorem TC_jumps {P : Program} {n : Nat} {Q : Exit → Act → World → Prop} {σ : Slots} {A : World → Prop} {γ : Type} {l : Nat} {R : Code} (σ' : γ → Slots) (A' : γ → World → Prop) (μ : γ → Nat) (t0 : γ) (hs : Sub (σ' t0) σ) (hA : ∀ w, A w → A' t0 w)
    (round : ∀ t, TC P n R (Exit.jump l (Next n σ' A' μ (μ t)) Q) (σ' t) (A' t)) : TC P n (.scope (.seq (.label l) R)) Q σ A := by
  intro a w hf h b k cs
  have hg : gotoIn l (.inScope (.seq (.label l) R) :: k) = some (.code (.seq .skip R) :: .inScope (.seq (.label l) R) :: k) := by simp [gotoIn, findLabel]
  have key : ∀ (m : Nat) (t : γ), μ t = m → ∀ a w, Fr n (σ' t) a → A' t w →
      ∃ e a' w', Q e a' w' ∧ Arrives P (lone (b.at a (.code (.seq .skip R) :: .inScope (.seq (.label l) R) :: k)) cs w) b k cs e a' w' := by
    intro m
    induction m using Nat.strongRecOn with
    | _ m ih =>
      intro t hm a w hf h
      obtain ⟨e, a₁, w₁, hq, harr⟩ := (wp_seq (wp_skip (round t a w hf h)) : (Code.seq .skip R).wp P (Exit.jump l (Next n σ' A' μ (μ t)) Q) a w) b (.inScope (.seq (.label l) R) :: k) cs
      cases e with
      | normal => exact ⟨.normal, a₁, w₁, hq, Steps.trans harr (.one step_inScope)⟩
      | exit id => exact ⟨.exit id, a₁, w₁, hq, fun k' hk => harr k' (by simp [exitTo, hk])⟩
      | goto l' =>
        obtain ⟨rfl, t', hlt, hf', h'⟩ := hq
        obtain ⟨e₂, a₂, w₂, hq₂, harr₂⟩ := ih (μ t') (hm ▸ hlt) t' rfl a₁ w₁ hf' h'
        exact ⟨e₂, a₂, w₂, hq₂, .of_steps (harr _ hg) harr₂⟩
      | ret => exact ⟨_, a₁, w₁, hq, harr⟩
      | panic ch => exact ⟨_, a₁, w₁, hq, harr⟩
      | outgrown => exact ⟨_, a₁, w₁, hq, harr⟩
  obtain ⟨e, a₁, w₁, hq, harr⟩ := (wp_seq (wp_label (round t0 a w (hf.weaken hs.spec) (hA w h))) : (Code.seq (.label l) R).wp P (Exit.jump l (Next n σ' A' μ (μ t0)) Q) a w) b (.inScope (.seq (.label l) R) :: k) cs
  cases e with
  | normal => exact ⟨.normal, a₁, w₁, hq, .head step_scope (Steps.trans harr (.one step_inScope))⟩
  | exit id => exact ⟨.exit id, a₁, w₁, hq, fun k' hk => .head step_scope (harr k' (by simp [exitTo, hk]))⟩
  | goto l' =>
    obtain ⟨rfl, t', _, hf', h'⟩ := hq
    obtain ⟨e₂, a₂, w₂, hq₂, harr₂⟩ := key _ t' rfl a₁ w₁ hf' h'
    exact ⟨e₂, a₂, w₂, hq₂, .of_steps (.head step_scope (harr _ hg)) harr₂⟩
  | ret => exact ⟨_, a₁, w₁, hq, .of_steps (.one step_scope) harr⟩
  | panic ch => exact ⟨_, a₁, w₁, hq, .of_steps (.one step_scope) harr⟩
  | outgrown => exact ⟨_, a₁, w₁, hq, .of_steps (.one step_scope) harr⟩
theorem TX_jump_ret {n : Nat} {Q : Exit → Act → World → Prop} {σ : Slots} {A : World → Prop} {l : Nat} {J : Act → World → Prop} (k : TX n Q .ret σ A) : TX n (Exit.jump l J Q) .ret σ A := fun a w hf hA => k a w hf hA
theorem TX_jump_normal {n : Nat} {Q : Exit → Act → World → Prop} {σ : Slots} {A : World → Prop} {l : Nat} {J : Act → World → Prop} (k : TX n Q .normal σ A) : TX n (Exit.jump l J Q) .normal σ A := fun a w hf hA => k a w hf hA
theorem TX_jump_round {n : Nat} {Q : Exit → Act → World → Prop} {σ : Slots} {A : World → Prop} {γ : Type} {l : Nat} {σ' : γ → Slots} {A' : γ → World → Prop} {μ : γ → Nat} {m : Nat} (t' : γ) (hμ : μ t' < m) (hs : Sub (σ' t') σ) (hA : ∀ w, A w → A' t' w) :
    TX n (Exit.jump l (Next n σ' A' μ m) Q) (.goto l) σ A := fun a w hf h => ⟨rfl, t', hμ, hf.weaken hs.spec, hA w h⟩
end Go.Gx

/- RANGES OVER A FUNCTION: walks within a round, of an iterator, and behind the loop. Program-independent. -/
import Derived.RangeFuncIn
import Derived.RangeFuncLeaves
import Derived.RangeFuncCalls
import Derived.RangeFuncRecord
import Derived.OrdersIn
import Derived.Test.YtjehicncbpljaaaDoorQ
namespace Go.Gx
open Go Go.RowKit
/-- the wide fence, within a round or not -/
def FR (ro : Option Nat) : Fence := { Fence.wide with round := ro }
theorem callsIn_FR {ro : Option Nat} {m : Nat} {P : Program} {f : FuncId} {args : Array Value} {w : World} {R : Ending → World → Prop} (h : Calls P f args w R) : CallsIn (FR ro) m P f args w R := (callsIn_wide (n := m)).2 h
theorem calls_FR {ro : Option Nat} {m : Nat} {P : Program} {f : FuncId} {args : Array Value} {w : World} {R : Ending → World → Prop} (h : CallsIn (FR ro) m P f args w R) : Calls P f args w R := (callsIn_wide (n := m)).1 h
theorem rowsIn_FR {ro : Option Nat} {m : Nat} {P : Program} {row : String} {args : Array Value} {w : World} {R : Value → World → Prop} (h : Rows P row args w R) : RowsIn (FR ro) m P row args w R :=
  fun c cs _ => let ⟨v, w', r, s⟩ := h c cs; ⟨v, w', r, (stepsIn_wide (P := P)).2 s⟩
section
variable {P : Program} {n m : Nat} {ro : Option Nat} {ops : Array Oper} {o : Oper} {σ : Slots} {A : World → Prop} {Q : Exit → Act → World → Prop} {rest : List Oper}
def NoOut (Q : Exit → Act → World → Prop) : Prop := ∀ a w, ¬ Q .outgrown a w
def noDef (o : Oper) : Bool := match o.op with | .defer _ => false | _ => true
theorem noDef_ne {o : Oper} (h : noDef o = true) : ∀ c, o.op ≠ .defer c := by
  intro c e
  unfold noDef at h
  rw [e] at h
  exact Bool.noConfusion h
theorem wp_In {a : Act} {w : World} {K : Act → World → Prop} (hd : noDef o = true) (h : o.wp P a w K Q) : o.wpIn (FR ro) m P a w K Q := by
  refine ⟨fun _ _ => trivial, ?_⟩
  rw [Oper.semAt_eq _ _ _ (noDef_ne hd)]
  unfold Oper.wp at h
  generalize (execOp a.eval o).run P w = r at h
  cases r with
  | ok x w' =>
    cases x <;> first | exact h | exact h.elim | exact ⟨(fun hx => Bool.noConfusion hx), callsIn_FR h⟩ | exact ⟨(fun hx => Bool.noConfusion hx), rowsIn_FR h⟩
  | halt x w' => cases x <;> first | exact h | exact h.elim
theorem wpList_In (hn : NoOut Q) : ∀ {l : List Oper} {a : Act} {w : World}, l.all noDef = true → wpList P ops Q l a w → wpListIn (FR ro) m P ops Q l a w
  | [], _, _, _, h => h
  | o :: rest, a, w, hd, h => by
    simp only [List.all_cons, Bool.and_eq_true] at hd
    unfold wpList at h
    unfold wpListIn
    split
    · rename_i hw
      rw [if_pos hw] at h
      rcases h with h | ⟨_, a1, w1, h1⟩
      · exact Oper.wpIn_mono (fun a w h => wpList_In hn hd.2 h) (wp_In hd.1 h)
      · exact absurd h1 (hn a1 w1)
    · rename_i hw
      rw [if_neg hw] at h
      exact ⟨fun _ _ => trivial, wpList_In hn hd.2 h⟩
end
end Go.Gx

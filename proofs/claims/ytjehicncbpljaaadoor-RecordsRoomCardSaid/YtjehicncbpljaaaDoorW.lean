/- RANGES OVER A FUNCTION: the statement, and what stands behind it. Program-independent. -/
import Derived.Test.YtjehicncbpljaaaDoorV
namespace Go.Gx
open Go Go.RowKit
/-- while a loop runs: what lay below the call's beginning, and the loop's own two objects, are kept; all else may be written -/
def loopBase (w0 : Base) (w : World) (o : Obj) : Base := { w := (w.alloc (.deferred (some []))).alloc o, hole := fun k => !(k == w.heap.size) && !(k == w.heap.size + 1) && (w0.hole k || decide (w0.w.heap.size ≤ k)) }
structure Under (w0 B : Base) : Prop where
  back : ∀ {η : Heap} {w : World}, St B η w → St w0 η w
  cell : ∀ {a : Addr} {v : Value}, w0.cell? a = some v → B.cell? a = some v
section
variable {w0 : Base} {η : Heap} {w : World} {o o' : Obj}
theorem loopBase_size : (loopBase w0 w o).w.heap.size = w.heap.size + 2 := by simp [loopBase]
theorem loopBase_old {k : Nat} (h : k < w.heap.size) : (loopBase w0 w o).w.heap[k]? = w.heap[k]? := by
  show ((w.alloc (.deferred (some []))).alloc o).heap[k]? = _
  rw [Below.heap_alloc _ _ _ (by simp; omega), Below.heap_alloc _ _ _ h]
theorem loopBase_D : (loopBase w0 w o).w.heap[w.heap.size]? = some (.deferred (some [])) := by
  show ((w.alloc (.deferred (some []))).alloc o).heap[w.heap.size]? = _
  rw [Below.heap_alloc _ _ _ (by simp)]
  exact World.alloc_heap_new w _
theorem loopBase_l : (loopBase w0 w o).w.heap[w.heap.size + 1]? = some o := by
  have := World.alloc_heap_new (w.alloc (.deferred (some []))) o
  rwa [World.size_alloc] at this
theorem loopBase_st (h : St w0 η w) : St (loopBase w0 w o) η ((w.alloc (.deferred (some []))).alloc o) := by
  refine ⟨⟨rfl, rfl, rfl, Nat.le_refl _, fun _ _ _ => rfl⟩, fun x hx => ?_, fun x hx => .inr ?_, h.nodup⟩
  · have := loopBase_old (w0 := w0) (o := o) (h.lt hx)
    exact this.trans (h.blk x hx)
  · have hl := h.lt hx
    have ho := h.own x hx
    simp only [loopBase, Bool.and_eq_true, Bool.not_eq_true', beq_eq_false_iff_ne, Bool.or_eq_true, decide_eq_true_eq]
    exact ⟨⟨by omega, by omega⟩, ho.symm⟩
theorem loopBase_under (h : St w0 η w) : Under w0 (loopBase w0 w o) := by
  have hs := h.below.size
  have hh : ∀ k, k < w0.w.heap.size → w0.hole k = false → (loopBase w0 w o).hole k = false := fun k hk hk0 => by
    simp only [loopBase, hk0, Bool.false_or]
    rw [show decide (w0.w.heap.size ≤ k) = false by simpa using hk, Bool.and_false]
  constructor
  · intro η' w' hw
    have hsz := hw.below.size
    rw [loopBase_size] at hsz
    refine ⟨⟨hw.below.os.trans h.below.os, hw.below.tape.trans h.below.tape, hw.below.output.trans h.below.output, by omega, fun k hk hk0 => ?_⟩, hw.blk, fun x hx => ?_, hw.nodup⟩
    · exact (hw.below.block k (by rw [loopBase_size]; omega) (hh k hk hk0)).trans ((loopBase_old (by omega)).trans (h.below.block k hk hk0))
    · rcases hw.own x hx with h1 | h1
      · rw [loopBase_size] at h1; exact .inl (by omega)
      · simp only [loopBase, Bool.and_eq_true, Bool.or_eq_true, decide_eq_true_eq] at h1
        exact h1.2.symm
  · intro a v ha
    unfold Base.cell? at ha ⊢
    cases hk : w0.hole a.block with
    | true => simp [hk] at ha
    | false =>
      simp only [hk, cond_false] at ha
      have hlt := block_lt_of_cell ha
      rw [hh _ hlt hk, cond_false, ← ha]
      exact World.cell?_of_block (w := w0.w) ((loopBase_old (by omega)).trans (h.below.block _ hlt hk))
theorem loopBase_at {W : World} (h : St (loopBase w0 w o) η W) : W.heap[w.heap.size + 1]? = some o ∧ W.heap[w.heap.size]? = some (.deferred (some [])) := by
  constructor
  · exact (h.below.block _ (by rw [loopBase_size]; omega) (by simp [loopBase])).trans loopBase_l
  · exact (h.below.block _ (by rw [loopBase_size]; omega) (by simp [loopBase])).trans loopBase_D
theorem loopBase_put {W : World} (h : St (loopBase w0 w o) η W) : St (loopBase w0 w o') η (W.putObj (w.heap.size + 1) o') := by
  have hsz := h.below.size
  rw [loopBase_size] at hsz
  have hne : ∀ x ∈ η, x.1 ≠ w.heap.size + 1 := fun x hx e => by
    rcases h.own x hx with h1 | h1
    · rw [loopBase_size] at h1; omega
    · simp only [loopBase, Bool.and_eq_true, Bool.not_eq_true', beq_eq_false_iff_ne] at h1
      exact h1.1.2 e
  refine ⟨⟨h.below.os, h.below.tape, h.below.output, by rw [loopBase_size]; simp [World.putObj]; omega, fun k hk hh => ?_⟩, fun x hx => (World.putObj_heap_other (hne x hx)).trans (h.blk x hx), fun x hx => ?_, h.nodup⟩
  · rw [loopBase_size] at hk
    by_cases e : k = w.heap.size + 1
    · subst e
      exact (World.putObj_heap_same (by omega)).trans loopBase_l.symm
    · refine (World.putObj_heap_other e).trans ((h.below.block k (by rw [loopBase_size]; omega) hh).trans ?_)
      by_cases e2 : k = w.heap.size
      · subst e2; exact loopBase_D.trans loopBase_D.symm
      · exact (loopBase_old (by omega)).trans (loopBase_old (by omega)).symm
  · rcases h.own x hx with h1 | h1
    · rw [loopBase_size] at h1; exact .inl (by rw [loopBase_size]; omega)
    · exact .inr h1
theorem St.putDef {D : Nat} {x y : Option (List Deferred)} (h : St w0 η w) (hD : w.heap[D]? = some (.deferred x)) (h0 : w0.w.heap.size ≤ D) : St w0 η (w.putObj D (.deferred y)) := by
  refine ⟨⟨h.below.os, h.below.tape, h.below.output, by have := h.below.size; simp [World.putObj]; omega, fun k hk hh => (World.putObj_heap_other (by omega)).trans (h.below.block k hk hh)⟩, fun z hz => (World.putObj_heap_other ?_).trans (h.blk z hz), h.own, h.nodup⟩
  intro e
  have := h.blk z hz
  rw [e, hD] at this
  exact absurd this (by simp)
end
section
variable {P : Program} {n m : Nat} {ops : Array Oper} {o : Oper} {σ : Slots} {A : World → Prop} {Q : Exit → Act → World → Prop} {rest : List Oper}
/-- a round's end -/
def RQ (X : World → Prop) : Exit → Act → World → Prop := fun e _ w => e = .normal ∧ X w
theorem RQ_out (X : World → Prop) : NoOut (RQ X) := fun _ _ h => Exit.noConfusion h.1
theorem TX_RQ {X : World → Prop} (h : ∀ w, A w → X w) : TX n (RQ X) .normal σ A := fun _ w _ hA => ⟨rfl, h w hA⟩
def AQ (n : Nat) (σ' : Slots) (X : World → Prop) : Exit → Act → World → Prop := Exit.then (fun a w => Fr n σ' a ∧ X w) (fun _ _ _ => False)
theorem AQ_out (σ' : Slots) (X : World → Prop) : NoOut (AQ n σ' X) := fun _ _ h => h
theorem TX_AQ {σ' : Slots} {X : World → Prop} (hs : Sub σ' σ) (h : ∀ w, A w → X w) : TX n (AQ n σ' X) .normal σ A := fun _ w hf hA => ⟨hf.weaken hs.spec, h w hA⟩
/-- an iterator's contract: N rounds, each handed its value -/
def IterOk (P : Program) (gf : FuncId) (lb : Array Value) (N : Nat) (cv : Nat → Value) (l : Nat) (X : Nat → World → Prop) : Prop :=
  ∀ w, X 0 w → (∀ k W, k < N → X k W → ∃ fn tmps assign body, (Instr.yield l #[cv k]).run P W = .ok (.round l fn tmps assign body) W ∧ ∀ m', RoundIn (FR none) m' P l fn tmps assign body W fun e W' => e = .returned (.bool true) ∧ X (k + 1) W') →
    ∀ m', CallsIn (FR none) m' P gf (#[.func (.yield l) #[] #[]] ++ lb) w fun e W' => (∃ v, e = .returned v) ∧ X N W'
/-- known slots where a mark stands among the deferred calls -/
def TXD (n : Nat) (Q : Exit → Act → World → Prop) (e : Exit) (σ : Slots) (A : World → Prop) (ds : List Deferred) : Prop := ∀ a w, Fr n σ { a with defers := [] } → a.defers = ds → A w → Q e a w
def TCD (P : Program) (n : Nat) (c : Code) (Q : Exit → Act → World → Prop) (σ : Slots) (A : World → Prop) (ds : List Deferred) : Prop := ∀ a w, Fr n σ { a with defers := [] } → a.defers = ds → A w → c.wp P Q a w
def TLD (P : Program) (n : Nat) (ops : Array Oper) (Q : Exit → Act → World → Prop) (rest : List Oper) (σ : Slots) (A : World → Prop) (ds : List Deferred) : Prop := ∀ a w, Fr n σ { a with defers := [] } → a.defers = ds → A w → wpList P ops Q rest a w
variable {ds : List Deferred}
theorem TXD_block {id : Nat} (k : TXD n Q .normal σ A ds) : TXD n (Exit.inBlock id Q) .normal σ A ds := fun a w hf hd hA => k a w hf hd hA
theorem TXD_then {y : Code} {Q' : Exit → Act → World → Prop} (k : TCD P n y Q σ A ds) : TXD n (Exit.then (y.wp P Q) Q') .normal σ A ds := fun a w hf hd hA => k a w hf hd hA
theorem TCD_seq {x y : Code} (k : TCD P n x (Exit.then (y.wp P Q) Q) σ A ds) : TCD P n (.seq x y) Q σ A ds := fun a w hf hd hA => wp_seq (k a w hf hd hA)
theorem TCD_reg {id : Nat} {l : List Oper} (k : TLD P n l.toArray Q l σ A ds) : TCD P n (.region id l.toArray false) Q σ A ds := fun a w hf hd hA => wp_region_lit (k a w hf hd hA)
theorem TCD_ret (k : TXD n Q .ret σ A ds) : TCD P n .ret Q σ A ds := fun a w hf hd hA => wp_ret (k a w hf hd hA)
theorem TLD_nil (k : TXD n Q .normal σ A ds) : TLD P n ops Q [] σ A ds := fun a w hf hd hA => k a w hf hd hA
theorem TLD_q {d : Nat} {g : Bool} {v : Value} (hd : o.dst = some d) (hn : Nat.ble (d + 1) n = true) (hq : QT P n ops o σ A g v) (k : TLD P n ops Q rest ((d, g, v) :: σ) A ds) : TLD P n ops Q (o :: rest) σ A ds := by
  intro a w hf hds hA
  obtain ⟨hw, hr⟩ := hq _ w hf hA
  unfold wpList
  cases g with
  | true =>
    rw [if_pos hw]
    refine .inl ?_
    unfold Oper.wp
    have hr' : (execOp a.eval o).run P w = .ok (.value v) w := hr rfl
    rw [hr', Oper.upon_value, hd]
    exact k _ _ (hf.put hn rfl) hds hA
  | false =>
    rw [if_neg (by simp [show Region.wanted o (yielded ops a.tmps) = false from hw]), hd]
    exact k _ _ (hf.put hn rfl) hds hA
theorem QT_under {A' : World → Prop} {g : Bool} {v : Value} (h : QT P n ops o σ A' g v) (hs : ∀ w, A w → A' w) : QT P n ops o σ A g v := fun a w hf hA => h a w hf (hs w hA)
/-- a function's end, a mark or none -/
theorem TX_retM {e : Exit} {fn : Func} {R : Value → (World → Prop) → Prop} {v : Value} (hk : e = .ret ∨ e = .normal) (hres : ∀ a w, Fr n σ a → A w → (results fn a.tmps).run P w = .ok v w) (hR : ∃ A', R v A' ∧ ∀ w, A w → A' w) :
    TX n (bodyPostM Fence.wide m P fn fun e w' => ∃ v A', e = .returned v ∧ R v A' ∧ A' w') e σ A := by
  intro a w hf hA
  obtain ⟨A', h1, h2⟩ := hR
  rcases hk with rfl | rfl
  · show LeavesInM _ _ _ _ _ _ a.defers _ _
    rw [hf.defers]
    exact ⟨v, hres a w hf hA, v, A', rfl, h1, h2 w hA⟩
  · show LeavesInM _ _ _ _ _ _ a.defers _ _
    rw [hf.defers]
    exact ⟨v, hres a w hf hA, v, A', rfl, h1, h2 w hA⟩
theorem TXD_ret {w0 : Base} {η : Heap} {D : Nat} {fn : Func} {R : Value → (World → Prop) → Prop} {v : Value} (hres : ∀ a w, Fr n σ a → (results fn a.tmps).run P w = .ok v w) (hR : R v (St w0 η)) :
    TXD n (bodyPostM Fence.wide m P fn fun e w' => ∃ v A', e = .returned v ∧ R v A' ∧ A' w') .ret σ (fun w => St w0 η w ∧ w.heap[D]? = some (.deferred (some [])) ∧ w0.w.heap.size ≤ D) [{ target := .collected D, args := #[] }] := by
  intro a w hf hds hA
  show LeavesInM _ _ _ _ _ _ a.defers _ _
  rw [hds]
  refine ⟨by simp, .inl ⟨D, _, rfl, run_takeDeferred hA.2.1, ?_⟩⟩
  exact ⟨v, hres { a with defers := [] } _ hf, v, St w0 η, rfl, hR, hA.1.putDef hA.2.1 hA.2.2⟩
theorem CallsT.bodyM {f : FuncId} {fn : Func} {c : Code} {vs : List Value} {R : Value → (World → Prop) → Prop} (hf : P.funcs[f]? = some fn) (hb : fn.body = some c) (hn : Nat.ble vs.length fn.ntmps = true)
    (k : TC P fn.ntmps c (bodyPostM Fence.wide 0 P fn fun e w' => ∃ v A', e = .returned v ∧ R v A' ∧ A' w') (slotsOf vs 0) A) : CallsT P f vs A R := by
  intro w hA
  refine (callsIn_wide (n := 0)).1 (callsIn_of_wp_marks hf hb trivial (wpIn_wide.2 (k _ w ⟨?_, rfl, fun t c v h => ?_⟩ hA)))
  · have := Nat.le_of_ble_eq_true hn
    simp; omega
  · obtain ⟨rfl, _, h3⟩ := look_slotsOf vs 0 t c v h
    simp only [Nat.sub_zero] at h3
    have hlt : t < vs.length := (List.getElem?_eq_some_iff.1 h3).1
    simp only [Array.getD_eq_getD_getElem?, cond_true]
    rw [Array.getElem?_append_left (by simpa using hlt)]
    simp [h3]
/-- 'for x := range f { .. }', where each round goes on -/
theorem TC_range {w0 : Base} {η0 : Heap} {g : Operand} {p : Nat} {assign body : Code} {gf : FuncId} {lb : Array Value} (N : Nat) (cv : Nat → Value) (Kx : Nat → Heap → Prop) (σr : Nat → Slots)
    (hg : ev σ g = some (true, .func (.func gf) #[] lb)) (hcal : CalleeOk P gf) (h0 : Kx 0 η0) (hp : Nat.ble (p + 1) n = true)
    (hseq : ∀ B, Under w0 B → ∀ l, IterOk P gf lb N cv l fun k w => ∃ η, Kx k η ∧ St B η w)
    (hassign : ∀ (B : Base) (l k : Nat) (η : Heap), Under w0 B → k < N → Kx k η → TCI P n (some l) m assign (AQ n (σr k) (St B η)) ((p, true, cv k) :: σ) (St B η))
    (hbody : ∀ (B : Base) (l k : Nat) (η : Heap), Under w0 B → k < N → Kx k η → TCI P n (some l) m body (RQ fun w => ∃ η', Kx (k + 1) η' ∧ St B η' w) (σr k) (St B η))
    (hdone : ∀ (D : Nat) (η : Heap), Kx N η → TXD n Q .normal σ (fun w => St w0 η w ∧ w.heap[D]? = some (.deferred (some [])) ∧ w0.w.heap.size ≤ D) [{ target := .collected D, args := #[] }]) :
    TC P n (.rangeFunc g #[p] assign body) Q σ (St w0 η0) := by
  intro a w hf hA
  refine (wpIn_wide (n := m)).1 (wpIn_rangeFunc ?_)
  intro fn _
  obtain ⟨rec, hrec⟩ : ∃ rec : LoopState → Loop, rec = fun st => { state := st, pending := none, fn, tmps := a.tmps, params := #[p], assign, body, defers := w.heap.size } := ⟨_, rfl⟩
  have hU := fun st => loopBase_under (o := .loop (rec st)) hA
  have hev := hf.eval hg rfl
  refine ⟨w.heap.size + 1, [{ target := .collected w.heap.size, args := #[] }], (w.alloc (.deferred (some []))).alloc (.loop (rec .ready)), { target := .fn (.func gf) lb, args := #[.func (.yield (w.heap.size + 1)) #[] #[]] }, (w.alloc (.deferred (some []))).alloc (.loop (rec .ready)), gf,
    #[.func (.yield (w.heap.size + 1)) #[] #[]] ++ lb, (w.alloc (.deferred (some []))).alloc (.loop (rec .ready)), ?_, ?_, fun _ _ => trivial, ?_, fun hx => Bool.noConfusion hx, ?_⟩
  · rw [hrec]; exact run_enterLoop_outer _ _ _ _ _
  · have e1 : a.eval (.const (.func (.yield (w.heap.size + 1)) #[] #[])) = .func (.yield (w.heap.size + 1)) #[] #[] := rfl
    simp [resolve, rangeCall, hev, Deferred.ofValue, e1]
  · simp only [invoke]; exact run_callFunc hcal _ _
  · refine (hseq _ (hU .ready) (w.heap.size + 1) _ ⟨η0, h0, loopBase_st hA⟩ ?_ _).mono ?_
    · rintro k W hk ⟨η, hK, hS⟩
      obtain ⟨hl, hD⟩ := loopBase_at hS
      have hy := run_yield (P := P) (args := #[cv k]) hl (by rw [hrec]; rfl)
      rw [hrec] at hy
      refine ⟨fn, _, assign, body, hy, fun m' => ?_⟩
      have hF1 : Fr n ((p, true, cv k) :: σ) { tmps := (#[p].zip #[cv k]).foldl (fun t (q : Nat × Value) => t.setIfInBounds q.1 q.2) a.tmps, defers := [] } := by
        have := hf.put (d := p) (c := true) (v := cv k) (u := cv k) hp rfl
        simpa [Act.put, hf.defers] using this
      have ha := hassign _ (w.heap.size + 1) k η (hU .ready) hk hK (AQ_out _ _) _ W hF1 hS
      refine roundIn_of_wpIn (F := FR none) trivial (wpIn_mono (n := m') (F := FR (some (w.heap.size + 1))) (Q := AQ n (σr k) (St (loopBase w0 w (.loop (rec .ready))) η)) (fun b k' cs hro hb hr => ha b k' cs hro hb (fun d hd => by cases hd)) fun e a1 w1 h1 => ?_)
      cases e with
      | normal =>
        obtain ⟨hf1, hS1⟩ := h1
        obtain ⟨hl1, _⟩ := loopBase_at hS1
        refine ⟨_, run_beginRound hl1 (by rw [hrec]), ?_⟩
        have hS2 : St (loopBase w0 w (.loop (rec .busy))) η (w1.putObj (w.heap.size + 1) (.loop (rec .busy))) := loopBase_put hS1
        have hb := hbody _ (w.heap.size + 1) k η (hU .busy) hk hK (RQ_out _) a1 _ hf1 hS2
        have he : (.loop { rec .ready with state := .busy } : Obj) = .loop (rec .busy) := by rw [hrec]
        rw [he]
        refine wpIn_mono (n := m') (F := FR (some (w.heap.size + 1))) (fun b k' cs hro hb' hr => hb b k' cs hro hb' (fun d hd => by cases hd)) fun e2 a2 w2 h2 => ?_
        obtain ⟨rfl, η', hK', hS3⟩ := h2
        obtain ⟨hl3, _⟩ := loopBase_at hS3
        refine ⟨_, _, run_endRound none hl3, rfl, η', hK', ?_⟩
        have : (.loop { rec .busy with state := if Option.isNone (none : Option Code) = true then .ready else .done, pending := none } : Obj) = .loop (rec .ready) := by rw [hrec]; rfl
        rw [this]
        exact loopBase_put hS3
      | exit id => exact h1
      | goto id => exact h1
      | ret => exact h1
      | panic c => exact h1
      | outgrown => exact h1
    · rintro e W ⟨⟨v, rfl⟩, η, hK, hS⟩
      obtain ⟨hl, hD⟩ := loopBase_at hS
      have hend : (Instr.endLoop (w.heap.size + 1)).run P W = .ok none (W.putObj (w.heap.size + 1) (.loop (rec .exhausted))) := by
        have := run_endLoop (P := P) hl (by rw [hrec]; simp)
        rw [hrec] at this ⊢
        exact this
      refine ⟨_, _, hend, ?_⟩
      have hS2 : St (loopBase w0 w (.loop (rec .exhausted))) η (W.putObj (w.heap.size + 1) (.loop (rec .exhausted))) := loopBase_put hS
      refine hdone w.heap.size η hK _ _ ?_ (by simp [hf.defers]) ⟨(hU .exhausted).back hS2, (loopBase_at hS2).2, hA.below.size⟩
      have := hf.defers
      obtain ⟨t, d⟩ := a
      simp only at this
      subst this
      exact hf
end
end Go.Gx

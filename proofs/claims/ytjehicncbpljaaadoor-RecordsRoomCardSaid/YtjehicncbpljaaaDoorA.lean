/- THE CORE OF A SMALL LOGIC FOR WALKS: known slots, quiet operations, effects, regions in order and regions that draw their order. Program-independent. -/
import Derived.WalkKit
import Derived.OrdersHeld
namespace Go.Gx
open Go

abbrev Slots := List (Nat × Bool × Value)
def look : Slots → Nat → Option (Bool × Value)
  | [], _ => none
  | (k, c, v) :: r, t => bif Nat.beq k t then some (c, v) else look r t

/-- The slots that are known: slot t holds v where c, nothing where not c. -/
structure Fr (n : Nat) (σ : Slots) (a : Act) : Prop where
  size : a.tmps.size = n
  defers : a.defers = []
  known : ∀ t c v, look σ t = some (c, v) → a.tmps.getD t undef = bif c then v else undef

def ev (σ : Slots) : Operand → Option (Bool × Value)
  | .tmp t => look σ t
  | .const v => some (true, v)
  | .global g => some (true, .pointer (some ⟨g, 0, none⟩))
  | .func f => some (true, .func (.func f) #[] #[])

theorem Fr.eval {n : Nat} {σ : Slots} {a : Act} {x : Operand} {c : Bool} {v : Value} (h : Fr n σ a) (he : ev σ x = some (c, v)) (hc : c = true) : a.eval x = v := by
  subst hc
  cases x with
  | tmp t => exact (h.known t true v he).trans rfl
  | const u => simp only [ev, Option.some.injEq, Prod.mk.injEq, true_and] at he; exact he
  | global g => simp only [ev, Option.some.injEq, Prod.mk.injEq, true_and] at he; exact he
  | func f => simp only [ev, Option.some.injEq, Prod.mk.injEq, true_and] at he; exact he

theorem Fr.put {n : Nat} {σ : Slots} {a : Act} {d : Nat} {c : Bool} {v u : Value} (h : Fr n σ a) (hd : Nat.ble (d + 1) n = true) (hu : u = bif c then v else undef) :
    Fr n ((d, c, v) :: σ) (a.put (some d) u) := by
  subst hu
  have hlt : d < a.tmps.size := by rw [h.size]; exact Nat.le_of_ble_eq_true hd
  refine ⟨by simp [Act.put, h.size], h.defers, fun t c' v' hl => ?_⟩
  simp only [look] at hl
  cases hb : Nat.beq d t with
  | true =>
    have hdt : d = t := Nat.eq_of_beq_eq_true hb
    subst hdt
    simp only [hb, cond_true, Option.some.injEq, Prod.mk.injEq] at hl
    obtain ⟨rfl, rfl⟩ := hl
    simp [Act.put, hlt]
  | false =>
    have hne : d ≠ t := fun e => by subst e; simp at hb
    simp only [hb, cond_false] at hl
    have := h.known t c' v' hl
    simpa [Act.put, Array.getElem?_setIfInBounds_ne hne] using this

theorem slotI {σ : Slots} {t : Nat} {c : Bool} {k : IntKind} {p q : Int} (hl : look σ t = some (c, .int k p)) (h : p = q) : look σ t = some (c, .int k q) := h ▸ hl
theorem Fr.weaken {n : Nat} {σ σ' : Slots} {a : Act} (h : Fr n σ a) (hs : ∀ t c v, look σ' t = some (c, v) → look σ t = some (c, v)) : Fr n σ' a :=
  ⟨h.size, h.defers, fun t c v hl => h.known t c v (hs t c v hl)⟩

/-- Every entry of the first list is known in the second. -/
def Sub : Slots → Slots → Prop
  | [], _ => True
  | (t, c, v) :: r, σ => look σ t = some (c, v) ∧ Sub r σ
theorem Sub.spec : ∀ {σ' σ : Slots}, Sub σ' σ → ∀ t c v, look σ' t = some (c, v) → look σ t = some (c, v)
  | [], _, _, _, _, _, h => by simp [look] at h
  | (k, c', v') :: r, σ, hs, t, c, v, h => by
    simp only [look] at h
    cases hb : Nat.beq k t with
    | true =>
      have hkt : k = t := Nat.eq_of_beq_eq_true hb
      subst hkt
      simp only [hb, cond_true, Option.some.injEq, Prod.mk.injEq] at h
      obtain ⟨rfl, rfl⟩ := h
      exact hs.1
    | false =>
      simp only [hb, cond_false] at h
      exact Sub.spec hs.2 t c v h

/-- The condition under which an operation is carried out. -/
def gdc (ops : Array Oper) (σ : Slots) (o : Oper) : Option Bool :=
  match o.guard with
  | none => some true
  | some (j, want) =>
    match (ops[j]?).bind (·.dst) with
    | some t =>
      match look σ t with
      | some (c, .bool b) => some (c && (match want with | true => b | false => !b))
      | _ => none
    | none => none

theorem wanted_of_gdc {n : Nat} {σ : Slots} {a : Act} {ops : Array Oper} {o : Oper} {g : Bool} (h : Fr n σ a) (hg : gdc ops σ o = some g) :
    Region.wanted o (yielded ops a.tmps) = g := by
  unfold gdc at hg
  unfold Region.wanted
  cases hgd : o.guard with
  | none => simp only [hgd, Option.some.injEq] at hg; exact hg
  | some jw =>
    obtain ⟨j, want⟩ := jw
    simp only [hgd] at hg ⊢
    unfold yielded
    cases ht : (ops[j]?).bind (·.dst) with
    | none => simp [ht] at hg
    | some t =>
      simp only [ht] at hg
      cases hl : look σ t with
      | none => simp [hl] at hg
      | some cv =>
        obtain ⟨c, v⟩ := cv
        have hk := h.known t c v hl
        simp only [hl] at hg
        cases v <;> simp only [Option.some.injEq, reduceCtorEq] at hg
        rename_i b
        subst hg
        simp only [Option.bind_some]
        rw [Array.getD_eq_getD_getElem?] at hk
        cases c with
        | false =>
          simp only [cond_false] at hk
          cases hx : a.tmps[t]? with
          | none => simp
          | some x =>
            simp only [hx, Option.getD_some] at hk
            subst hk
            simp [undef]
        | true =>
          simp only [cond_true] at hk
          cases hx : a.tmps[t]? with
          | none => simp [hx, undef] at hk
          | some x =>
            simp only [hx, Option.getD_some] at hk
            subst hk
            cases want <;> cases b <;> rfl

/-- One operation that leaves the world alone: where g, it yields v; where not, it is passed over. -/
def QT (P : Program) (n : Nat) (ops : Array Oper) (o : Oper) (σ : Slots) (A : World → Prop) (g : Bool) (v : Value) : Prop :=
  ∀ a w, Fr n σ a → A w → Region.wanted o (yielded ops a.tmps) = g ∧ (g = true → (execOp a.eval o).run P w = .ok (.value v) w)

/-- One operation with an effect: it yields some v and leads to a world of some A', which R allows. -/
def ET (P : Program) (n : Nat) (o : Oper) (σ : Slots) (A : World → Prop) (R : Value → (World → Prop) → Prop) : Prop :=
  ∀ a w, Fr n σ a → A w → ∀ (K : Act → World → Prop) (Q : Exit → Act → World → Prop), (∀ v A' w', R v A' → A' w' → K (a.put o.dst v) w') → o.wp P a w K Q

section
variable {P : Program} {n : Nat} {ops : Array Oper} {Q : Exit → Act → World → Prop} {o : Oper} {rest : List Oper} {σ : Slots} {A : World → Prop} {g : Bool} {v : Value} {d : Nat}

/-! ### A region in its order -/
def TL (P : Program) (n : Nat) (ops : Array Oper) (Q : Exit → Act → World → Prop) (rest : List Oper) (σ : Slots) (A : World → Prop) : Prop :=
  ∀ a w, Fr n σ a → A w → wpList P ops Q rest a w

theorem TL_q (hd : o.dst = some d) (hn : Nat.ble (d + 1) n = true) (hq : QT P n ops o σ A g v) (k : TL P n ops Q rest ((d, g, v) :: σ) A) : TL P n ops Q (o :: rest) σ A := by
  intro a w hf hA
  obtain ⟨hw, hr⟩ := hq a w hf hA
  unfold wpList
  cases g with
  | true =>
    rw [if_pos hw]
    refine .inl ?_
    unfold Oper.wp
    rw [hr rfl, Oper.upon_value, hd]
    exact k _ _ (hf.put hn rfl) hA
  | false =>
    rw [if_neg (by simp [hw]), hd]
    exact k _ _ (hf.put hn rfl) hA

theorem TL_e {R : Value → (World → Prop) → Prop} (hd : o.dst = some d) (hn : Nat.ble (d + 1) n = true) (hg : gdc ops σ o = some g) (hgt : g = true) (he : ET P n o σ A R)
    (k : ∀ v A', R v A' → TL P n ops Q rest ((d, true, v) :: σ) A') : TL P n ops Q (o :: rest) σ A := by
  intro a w hf hA
  subst hgt
  unfold wpList
  rw [if_pos (wanted_of_gdc hf hg)]
  refine .inl (he a w hf hA _ _ fun v A' w' hR hA' => ?_)
  rw [hd]
  exact k v A' hR _ _ (hf.put hn rfl) hA'

theorem TL_e0 {R : Value → (World → Prop) → Prop} (hd : o.dst = none) (hg : gdc ops σ o = some g) (hgt : g = true) (he : ET P n o σ A R)
    (k : ∀ v A', R v A' → TL P n ops Q rest σ A') : TL P n ops Q (o :: rest) σ A := by
  intro a w hf hA
  subst hgt
  unfold wpList
  rw [if_pos (wanted_of_gdc hf hg)]
  refine .inl (he a w hf hA _ _ fun v A' w' hR hA' => ?_)
  rw [hd]
  exact k v A' hR _ _ hf hA'

theorem TL_skip (hd : o.dst = some d) (hn : Nat.ble (d + 1) n = true) (hg : gdc ops σ o = some g) (hgf : g = false) (k : TL P n ops Q rest ((d, false, undef) :: σ) A) : TL P n ops Q (o :: rest) σ A := by
  intro a w hf hA
  subst hgf
  unfold wpList
  rw [if_neg (by simp [wanted_of_gdc hf hg]), hd]
  exact k _ _ (hf.put hn rfl) hA

theorem TL_skip0 (hd : o.dst = none) (hg : gdc ops σ o = some g) (hgf : g = false) (k : TL P n ops Q rest σ A) : TL P n ops Q (o :: rest) σ A := by
  intro a w hf hA
  subst hgf
  unfold wpList
  rw [if_neg (by simp [wanted_of_gdc hf hg]), hd]
  exact k _ _ hf hA

/-- What is known may be said otherwise, and less of it. -/
theorem TL_weaken {σ' : Slots} {A' : World → Prop} (hs : Sub σ' σ) (hA : ∀ w, A w → A' w) (k : TL P n ops Q rest σ' A') : TL P n ops Q rest σ A :=
  fun a w hf h => k a w (hf.weaken hs.spec) (hA w h)

/-! ### A region that draws its order -/
def dep (ops : Array Oper) (i j : Nat) : Bool :=
  match ops[j]? with
  | some o => o.after.any fun e => Region.binds .any e && e.on == i
  | none => false

abbrev Pend := List (Nat × (World → Prop))

def wpAnyV (P : Program) (ops : Array Oper) (Q : Exit → Act → World → Prop) : Nat → Pend → Array Bool → Act → World → Prop
  | 0, _, listed, a, w => Region.ready .any ops listed = [] ∧ Q .normal a w
  | fuel + 1, V, listed, a, w =>
    (Region.ready .any ops listed = [] → Q .normal a w) ∧
    ∀ i ∈ Region.ready .any ops listed, wpOp P ops Q i (fun a' w' => (∀ x ∈ V, dep ops x.1 i = false → x.2 w') ∧ wpAnyV P ops Q fuel (V.filter fun x => !dep ops x.1 i) (listed.setIfInBounds i true) a' w') a w

theorem wpAnyV_mono : ∀ (fuel : Nat) (V V' : Pend) (listed : Array Bool) (a : Act) (w : World), (∀ x ∈ V', (∀ w, x.2 w) ∨ ∃ y ∈ V, y.1 = x.1 ∧ ∀ w, y.2 w → x.2 w) →
    wpAnyV P ops Q fuel V listed a w → wpAnyV P ops Q fuel V' listed a w := by
  intro fuel
  induction fuel with
  | zero => exact fun _ _ _ _ _ _ h => h
  | succ fuel ih =>
    intro V V' listed a w hs h
    refine ⟨h.1, fun i hi => wpOp_mono (fun a' w' h' => ⟨fun x hx hd => ?_, ih _ _ _ _ _ (fun x hx => ?_) h'.2⟩) (h.2 i hi)⟩
    · rcases hs x hx with h0 | ⟨y, hy, hyx, himp⟩
      · exact h0 _
      · exact himp _ (h'.1 y hy (by rw [hyx]; exact hd))
    · rw [List.mem_filter] at hx
      rcases hs x hx.1 with h0 | ⟨y, hy, hyx, himp⟩
      · exact .inl h0
      · exact .inr ⟨y, List.mem_filter.2 ⟨hy, by rw [hyx]; exact hx.2⟩, hyx, himp⟩

theorem wpAny_of_V : ∀ (fuel : Nat) (V : Pend) (listed : Array Bool) (a : Act) (w : World), wpAnyV P ops Q fuel V listed a w → wpAny P .any ops Q fuel listed a w := by
  intro fuel
  induction fuel with
  | zero => exact fun _ _ _ _ h => h
  | succ fuel ih => exact fun V listed a w h => ⟨h.1, fun i hi => wpOp_mono (fun a' w' h' => ih _ _ _ _ h'.2) (h.2 i hi)⟩

/-- A quiet operation that may come up may be taken first; what it yields must stay so over each effect that does not wait for it. -/
theorem wpAnyV_first {i : Nat} {oi : Oper} {S : World → Prop} {v : Value} (hi : ops[i]? = some oi) (hsel : ∀ (j : Nat) (o : Oper) cs b, ops[j]? = some o → o.op ≠ .select cs b)
    (hQ : ∀ c a w, Q (.panic c) (a.put oi.dst v) w → Q (.panic c) a w) :
    ∀ (fuel : Nat) (V : Pend) (listed : Array Bool) (a : Act) (w : World),
      (∀ j oj, ops[j]? = some oj → j ≠ i → listed.getD j true = false → (∀ e ∈ oj.after, Region.binds .any e = true → e.on ≠ i) → oi.apart ops oj = true) →
      i ∈ Region.ready .any ops listed → YieldsIf P ops S oi v a → S w → (∀ x ∈ V, x.2 w) →
      wpAnyV P ops Q fuel ((i, S) :: V) (listed.setIfInBounds i true) (a.put oi.dst v) w → wpAnyV P ops Q (fuel + 1) V listed a w := by
  intro fuel
  induction fuel with
  | zero =>
    intro V listed a w _ hr hy hS hV H
    refine ⟨fun h => (by rw [h] at hr; cases hr), fun j hj => ?_⟩
    by_cases hji : j = i
    · subst hji
      exact hy.wpOp hi hS ⟨fun x hx _ => hV x hx, H⟩
    · have := ready_mono hj hji
      rw [H.1] at this
      cases this
  | succ fuel ih =>
    intro V listed a w hfree hr hy hS hV H
    refine ⟨fun h => (by rw [h] at hr; cases hr), fun j hj => ?_⟩
    by_cases hji : j = i
    · subst hji
      refine hy.wpOp hi hS ⟨fun x hx _ => hV x hx, wpAnyV_mono _ _ _ _ _ _ (fun x hx => ?_) H⟩
      exact .inr ⟨x, List.mem_cons_of_mem _ (List.mem_filter.1 hx).1, rfl, fun _ h => h⟩
    · have h1 := H.2 j (ready_mono hj hji)
      obtain ⟨hjun, oj, hoj, hall⟩ := mem_ready.1 hj
      have hnot : ∀ e ∈ oj.after, Region.binds .any e = true → e.on ≠ i := fun e he hb heq => by
        have h1 := hall e he hb
        have h0 := (mem_ready.1 hr).1
        rw [heq] at h1
        rcases Nat.lt_or_ge i listed.size with h' | h'
        · simp [h'] at h0 h1; rw [h0] at h1; cases h1
        · simp [Array.getElem?_eq_none h'] at h1
      have hdep : dep ops i j = false := by
        simp only [dep, hoj]
        rw [Array.any_eq_false']
        intro e he
        simp only [Bool.and_eq_true, beq_iff_eq, not_and]
        exact fun hb => hnot e he hb
      have h2 := wpOp_putIf hoj (hfree j oj hoj hji hjun hnot) (fun cs b => hsel i oi cs b hi) (fun cs b => hsel j oj cs b hoj) hQ hy h1
      have hfree' : ∀ k ok, ops[k]? = some ok → k ≠ i → (listed.setIfInBounds j true).getD k true = false →
          (∀ e ∈ ok.after, Region.binds .any e = true → e.on ≠ i) → oi.apart ops ok = true := fun k ok hk hki hun hno => by
        refine hfree k ok hk hki ?_ hno
        by_cases hjk : j = k
        · subst hjk; exact hjun
        · rw [getD_set_ne true hjk] at hun; exact hun
      refine wpOp_mono (fun a' w' h3 => ?_) h2
      obtain ⟨hy', hk, hrest⟩ := h3
      have hfil : ((i, S) :: V).filter (fun x => !dep ops x.1 j) = (i, S) :: V.filter (fun x => !dep ops x.1 j) := by simp [hdep]
      rw [hfil] at hrest
      refine ⟨fun x hx hd => hk x (List.mem_cons_of_mem _ hx) hd, ih _ (listed.setIfInBounds j true) a' w' hfree' (ready_mono hr (Ne.symm hji)) hy' (hk (i, S) (List.mem_cons_self ..) hdep) (fun x hx => ?_) ?_⟩
      · obtain ⟨hx1, hx2⟩ := List.mem_filter.1 hx
        exact hk x (List.mem_cons_of_mem _ hx1) (by simpa using hx2)
      · rw [Array.setIfInBounds_comm _ _ hji]
        exact hrest

/-! ### The order in which a region is walked: quiet operations first; an effect when it alone may come up -/
def listedOf (m : Nat) (ord : List (Nat × Nat)) : Array Bool := ((List.range m).map fun i => !(ord.any fun x => x.1 == i)).toArray

def chk (ops : Array Oper) : List (Nat × Nat) → Bool
  | [] => true
  | (i, e) :: r => bif Nat.beq e 2 then true else decide (i < ops.size) && !(r.any fun x => x.1 == i) &&
      (bif Nat.beq e 1 then Region.ready .any ops (listedOf ops.size ((i, e) :: r)) == [i]
        else (Region.ready .any ops (listedOf ops.size ((i, e) :: r))).contains i && Region.free .any ops (listedOf ops.size ((i, e) :: r)) i) && chk ops r

def chk0 (ops : Array Oper) (ord : List (Nat × Nat)) : Bool :=
  Region.noSelect ops && (ord.length == ops.size) && ((List.range ops.size).all fun i => ord.any fun x => x.1 == i) && chk ops ord

theorem getD_listedOf (m i : Nat) (ord : List (Nat × Nat)) (d : Bool) : (listedOf m ord).getD i d = if i < m then !(ord.any fun x => x.1 == i) else d := by
  unfold listedOf
  by_cases h : i < m <;> simp [h]

theorem listedOf_step {m i : Nat} {e : Nat} {r : List (Nat × Nat)} (hr : (r.any fun x => x.1 == i) = false) :
    (listedOf m ((i, e) :: r)).setIfInBounds i true = listedOf m r := by
  unfold listedOf
  apply Array.ext'
  simp only [Array.toList_setIfInBounds]
  apply List.ext_getElem?
  intro j
  rw [List.getElem?_set]
  simp only [List.length_map, List.length_range]
  by_cases hij : i = j
  · subst hij
    by_cases hm : i < m
    · simp [hm, hr]
    · simp [hm]
  · rw [if_neg hij, List.getElem?_map, List.getElem?_map]
    by_cases hj : j < m
    · simp [hj, hij]
    · simp [hj]

theorem ready_nil_all (ops : Array Oper) : Region.ready .any ops (listedOf ops.size []) = [] := by
  unfold Region.ready
  rw [List.filter_eq_nil_iff]
  intro i hi
  have : i < ops.size := by simpa using hi
  rw [getD_listedOf]
  simp [this]

/-- What a load yielded that has been taken first: which one, what was known then, where, what. -/
abbrev Held := List (Nat × Slots × Bool × Value)

def Match (P : Program) (n : Nat) (ops : Array Oper) (w : World) : Held → Pend → Prop
  | [], V' => V' = []
  | (i, σ, g, v) :: V, V' => ∃ (a : Act) (o : Oper) (V'' : Pend), ops[i]? = some o ∧ Fr n σ a ∧ (g = true → (execOp a.eval o).run P w = .ok (.value v) w) ∧
      V' = (i, fun w => g = true → (execOp a.eval o).run P w = .ok (.value v) w) :: V'' ∧ Match P n ops w V V''

/-- What was taken first stays over effect number j; what waits for the effect's end is let go. -/
inductive KeepTo (P : Program) (n : Nat) (ops : Array Oper) (j : Nat) (A : World → Prop) : Held → Held → Prop
  | nil : KeepTo P n ops j A [] []
  | drop {i : Nat} {σ : Slots} {g : Bool} {v : Value} {V V' : Held} (h : dep ops i j = true) (k : KeepTo P n ops j A V V') : KeepTo P n ops j A ((i, σ, g, v) :: V) V'
  | keep {i : Nat} {σ : Slots} {g : Bool} {v : Value} {V V' : Held} {o : Oper} (h : dep ops i j = false) (ho : ops[i]? = some o) (hq : QT P n ops o σ A g v) (k : KeepTo P n ops j A V V') : KeepTo P n ops j A ((i, σ, g, v) :: V) ((i, σ, g, v) :: V')

theorem Match.holds : ∀ {V : Held} {V' : Pend} {w : World}, Match P n ops w V V' → ∀ x ∈ V', x.2 w
  | [], V', _, h => by simp only [Match] at h; subst h; intro x hx; cases hx
  | (i, σ, g, v) :: V, V', w, h => by
    obtain ⟨a, o, V'', _, _, hrun, rfl, hm⟩ := h
    intro x hx
    rcases List.mem_cons.1 hx with rfl | hx
    · exact hrun
    · exact hm.holds x hx

theorem Match.keep {j : Nat} {V V₂ : Held} (hk : KeepTo P n ops j A V V₂) : ∀ {V' : Pend} {w w' : World}, Match P n ops w V V' → A w' →
    (∀ x ∈ V', dep ops x.1 j = false → x.2 w') ∧ Match P n ops w' V₂ (V'.filter fun x => !dep ops x.1 j) := by
  induction hk with
  | nil => intro V' w w' h _; simp only [Match] at h; subst h; exact ⟨fun x hx => (by cases hx), rfl⟩
  | @drop i σ g v V V₂ hd k ih =>
    intro V' w w' h hA
    obtain ⟨a, o, V'', ho, hf, hrun, rfl, hm⟩ := h
    obtain ⟨h1, h2⟩ := ih hm hA
    refine ⟨fun x hx hxd => ?_, ?_⟩
    · rcases List.mem_cons.1 hx with rfl | hx
      · simp [hd] at hxd
      · exact h1 x hx hxd
    · simp only [hd, List.filter_cons, Bool.not_true, Bool.false_eq_true, if_false]
      exact h2
  | @keep i σ g v V V₂ o' hd ho' hq' k ih =>
    intro V' w w' h hA
    obtain ⟨a, o, V'', ho, hf, hrun, rfl, hm⟩ := h
    obtain ⟨h1, h2⟩ := ih hm hA
    obtain rfl : o = o' := Option.some.inj (ho.symm.trans ho')
    have hq := (hq' a w' hf hA).2
    refine ⟨fun x hx hxd => ?_, ?_⟩
    · rcases List.mem_cons.1 hx with rfl | hx
      · exact hq
      · exact h1 x hx hxd
    · simp only [hd, List.filter_cons, Bool.not_false, if_true]
      exact ⟨a, o, _, ho, hf, hq, rfl, h2⟩

def TV (P : Program) (n : Nat) (ops : Array Oper) (Q : Exit → Act → World → Prop) (ord : List (Nat × Nat)) (V : Held) (σ : Slots) (A : World → Prop) : Prop :=
  Region.noSelect ops = true → (∀ c a w, ¬ Q (.panic c) a w) → chk ops ord = true → ∀ a w V', Fr n σ a → A w → Match P n ops w V V' → wpAnyV P ops Q ord.length V' (listedOf ops.size ord) a w

theorem chk_cons1 {i : Nat} {r : List (Nat × Nat)} (h : chk ops ((i, 1) :: r) = true) :
    (r.any fun x => x.1 == i) = false ∧ chk ops r = true ∧ Region.ready .any ops (listedOf ops.size ((i, 1) :: r)) = [i] := by
  have h : (decide (i < ops.size) && !(r.any fun x => x.1 == i) && (Region.ready .any ops (listedOf ops.size ((i, 1) :: r)) == [i]) && chk ops r) = true := h
  simp only [Bool.and_eq_true, decide_eq_true_eq, Bool.not_eq_true', beq_iff_eq] at h
  obtain ⟨⟨⟨_, h1⟩, h2⟩, h3⟩ := h
  exact ⟨h1, h3, h2⟩
theorem chk_cons0 {i : Nat} {r : List (Nat × Nat)} (h : chk ops ((i, 0) :: r) = true) :
    (r.any fun x => x.1 == i) = false ∧ chk ops r = true ∧ i ∈ Region.ready .any ops (listedOf ops.size ((i, 0) :: r)) ∧ Region.free .any ops (listedOf ops.size ((i, 0) :: r)) i = true := by
  have h : (decide (i < ops.size) && !(r.any fun x => x.1 == i) && ((Region.ready .any ops (listedOf ops.size ((i, 0) :: r))).contains i && Region.free .any ops (listedOf ops.size ((i, 0) :: r)) i) && chk ops r) = true := h
  simp only [Bool.and_eq_true, decide_eq_true_eq, Bool.not_eq_true'] at h
  obtain ⟨⟨⟨_, h1⟩, h2⟩, h3⟩ := h
  exact ⟨h1, h3, by simpa using h2.1, h2.2⟩

theorem yieldsIf_of {a : Act} {w : World} (hf : Fr n σ a) (hA : A w) (hq : QT P n ops o σ A g v) :
    YieldsIf P ops (fun w => g = true → (execOp a.eval o).run P w = .ok (.value v) w) o (bif g then v else undef) a := by
  obtain ⟨hw, _⟩ := hq a w hf hA
  cases g with
  | true => exact .inl ⟨hw, fun w h => h rfl⟩
  | false => exact .inr ⟨hw, rfl⟩

theorem TV_nil {V : Held} (k : ∀ a w, Fr n σ a → A w → Q .normal a w) : TV P n ops Q [] V σ A :=
  fun _ _ _ a w _ hf hA _ => ⟨ready_nil_all ops, k a w hf hA⟩

/-- A load (or whatever else hangs on the world), taken first. -/
theorem TV_ql {i : Nat} {r : List (Nat × Nat)} {V : Held} (ho : ops[i]? = some o) (hd : o.dst = some d) (hn : Nat.ble (d + 1) n = true) (hq : QT P n ops o σ A g v)
    (k : TV P n ops Q r ((i, σ, g, v) :: V) ((d, g, v) :: σ) A) : TV P n ops Q ((i, 0) :: r) V σ A := by
  intro hs hnp hc a w V' hf hA hm
  obtain ⟨hr, hc', hrdy, hfree⟩ := chk_cons0 hc
  have hput : (a.put o.dst (bif g then v else undef)) = a.put (some d) (bif g then v else undef) := by rw [hd]
  refine wpAnyV_first (S := fun w => g = true → (execOp a.eval o).run P w = .ok (.value v) w) ho (Region.noSelect_spec hs) (fun c a w h => absurd h (hnp c _ w)) _ _ _ a w (Region.free_spec ho hfree) hrdy (yieldsIf_of hf hA hq)
    ((hq a w hf hA).2) hm.holds ?_
  rw [listedOf_step hr, hput]
  exact k hs hnp hc' _ w _ (hf.put hn rfl) hA ⟨a, o, V', ho, hf, (hq a w hf hA).2, rfl, hm⟩

/-- An operation that hangs on no world. -/
theorem TV_q {i : Nat} {r : List (Nat × Nat)} {V : Held} (ho : ops[i]? = some o) (hd : o.dst = some d) (hn : Nat.ble (d + 1) n = true) (hq : ∀ A, QT P n ops o σ A g v)
    (k : TV P n ops Q r V ((d, g, v) :: σ) A) : TV P n ops Q ((i, 0) :: r) V σ A := by
  intro hs hnp hc a w V' hf hA hm
  obtain ⟨hr, hc', hrdy, hfree⟩ := chk_cons0 hc
  have hput : (a.put o.dst (bif g then v else undef)) = a.put (some d) (bif g then v else undef) := by rw [hd]
  have hall : ∀ w, (fun w => g = true → (execOp a.eval o).run P w = .ok (.value v) w) w := fun w' => (hq (fun _ => True) a w' hf trivial).2
  refine wpAnyV_first (S := fun w => g = true → (execOp a.eval o).run P w = .ok (.value v) w) ho (Region.noSelect_spec hs) (fun c a w h => absurd h (hnp c _ w)) _ _ _ a w (Region.free_spec ho hfree) hrdy (yieldsIf_of hf hA (hq A))
    (hall w) hm.holds ?_
  rw [listedOf_step hr, hput]
  refine wpAnyV_mono _ V' _ _ _ _ (fun x hx => ?_) (k hs hnp hc' _ w V' (hf.put hn rfl) hA hm)
  rcases List.mem_cons.1 hx with rfl | hx
  · exact .inl hall
  · exact .inr ⟨x, hx, rfl, fun _ h => h⟩

theorem TV_e {i : Nat} {r : List (Nat × Nat)} {V : Held} {R : Value → (World → Prop) → Prop} (ho : ops[i]? = some o) (hd : o.dst = some d) (hn : Nat.ble (d + 1) n = true) (hg : gdc ops σ o = some g) (hgt : g = true)
    (he : ET P n o σ A R) (k : ∀ v A', R v A' → ∃ V₂, KeepTo P n ops i A' V V₂ ∧ TV P n ops Q r V₂ ((d, true, v) :: σ) A') : TV P n ops Q ((i, 1) :: r) V σ A := by
  intro hs hnp hc a w V' hf hA hm
  obtain ⟨hr, hc', hrdy⟩ := chk_cons1 hc
  subst hgt
  refine ⟨fun h => (by rw [hrdy] at h; cases h), fun j hj => ?_⟩
  rw [hrdy] at hj
  obtain rfl : j = i := by simpa using hj
  unfold wpOp
  simp only [ho]
  rw [if_pos (wanted_of_gdc hf hg)]
  refine .inl (he a w hf hA _ _ fun v A' w' hR hA' => ?_)
  obtain ⟨V₂, hk, hT⟩ := k v A' hR
  obtain ⟨h1, h2⟩ := hm.keep hk hA'
  rw [hd, listedOf_step hr]
  exact ⟨h1, hT hs hnp hc' _ w' _ (hf.put hn rfl) hA' h2⟩

theorem TV_e0 {i : Nat} {r : List (Nat × Nat)} {V : Held} {R : Value → (World → Prop) → Prop} (ho : ops[i]? = some o) (hd : o.dst = none) (hg : gdc ops σ o = some g) (hgt : g = true)
    (he : ET P n o σ A R) (k : ∀ v A', R v A' → ∃ V₂, KeepTo P n ops i A' V V₂ ∧ TV P n ops Q r V₂ σ A') : TV P n ops Q ((i, 1) :: r) V σ A := by
  intro hs hnp hc a w V' hf hA hm
  obtain ⟨hr, hc', hrdy⟩ := chk_cons1 hc
  subst hgt
  refine ⟨fun h => (by rw [hrdy] at h; cases h), fun j hj => ?_⟩
  rw [hrdy] at hj
  obtain rfl : j = i := by simpa using hj
  unfold wpOp
  simp only [ho]
  rw [if_pos (wanted_of_gdc hf hg)]
  refine .inl (he a w hf hA _ _ fun v A' w' hR hA' => ?_)
  obtain ⟨V₂, hk, hT⟩ := k v A' hR
  obtain ⟨h1, h2⟩ := hm.keep hk hA'
  rw [hd, listedOf_step hr]
  exact ⟨h1, hT hs hnp hc' _ w' _ hf hA' h2⟩

/-- One of two effects, carried out first; then the rest in an order of its own. -/
def TVB (P : Program) (n : Nat) (ops : Array Oper) (Q : Exit → Act → World → Prop) (i : Nat) (ord : List (Nat × Nat)) (V : Held) (σ : Slots) (A : World → Prop) : Prop :=
  Region.noSelect ops = true → (∀ c a w, ¬ Q (.panic c) a w) → chk ops ord = true → ∀ a w V', Fr n σ a → A w → Match P n ops w V V' →
    wpOp P ops Q i (fun a' w' => (∀ x ∈ V', dep ops x.1 i = false → x.2 w') ∧ wpAnyV P ops Q ord.length (V'.filter fun x => !dep ops x.1 i) (listedOf ops.size ord) a' w') a w
theorem TVB_e {i : Nat} {r : List (Nat × Nat)} {V : Held} {R : Value → (World → Prop) → Prop} (ho : ops[i]? = some o) (hd : o.dst = some d) (hn : Nat.ble (d + 1) n = true) (hg : gdc ops σ o = some g) (hgt : g = true)
    (he : ET P n o σ A R) (k : ∀ v A', R v A' → ∃ V₂, KeepTo P n ops i A' V V₂ ∧ TV P n ops Q r V₂ ((d, true, v) :: σ) A') : TVB P n ops Q i r V σ A := by
  intro hs hnp hc a w V' hf hA hm
  subst hgt
  unfold wpOp
  simp only [ho]
  rw [if_pos (wanted_of_gdc hf hg)]
  refine .inl (he a w hf hA _ _ fun v A' w' hR hA' => ?_)
  obtain ⟨V₂, hk, hT⟩ := k v A' hR
  obtain ⟨h1, h2⟩ := hm.keep hk hA'
  rw [hd]
  exact ⟨h1, hT hs hnp hc _ w' _ (hf.put hn rfl) hA' h2⟩
theorem TVB_e0 {i : Nat} {r : List (Nat × Nat)} {V : Held} {R : Value → (World → Prop) → Prop} (ho : ops[i]? = some o) (hd : o.dst = none) (hg : gdc ops σ o = some g) (hgt : g = true)
    (he : ET P n o σ A R) (k : ∀ v A', R v A' → ∃ V₂, KeepTo P n ops i A' V V₂ ∧ TV P n ops Q r V₂ σ A') : TVB P n ops Q i r V σ A := by
  intro hs hnp hc a w V' hf hA hm
  subst hgt
  unfold wpOp
  simp only [ho]
  rw [if_pos (wanted_of_gdc hf hg)]
  refine .inl (he a w hf hA _ _ fun v A' w' hR hA' => ?_)
  obtain ⟨V₂, hk, hT⟩ := k v A' hR
  obtain ⟨h1, h2⟩ := hm.keep hk hA'
  rw [hd]
  exact ⟨h1, hT hs hnp hc _ w' _ hf hA' h2⟩
def sameB (x y : Array Bool) : Bool := x.toList == y.toList
/-- Two effects may come up: both ways are walked. -/
theorem TV_two {i j : Nat} {r : List (Nat × Nat)} {V : Held} (r1 r2 : List (Nat × Nat))
    (h : ((Region.ready .any ops (listedOf ops.size ((i, 2) :: r)) == [i, j]) && (chk ops r1 && chk ops r2) && ((r1.length == r.length) && (r2.length == r.length)) &&
      (sameB ((listedOf ops.size ((i, 2) :: r)).setIfInBounds i true) (listedOf ops.size r1) && sameB ((listedOf ops.size ((i, 2) :: r)).setIfInBounds j true) (listedOf ops.size r2))) = true)
    (k1 : TVB P n ops Q i r1 V σ A) (k2 : TVB P n ops Q j r2 V σ A) : TV P n ops Q ((i, 2) :: r) V σ A := by
  intro hs hnp _ a w V' hf hA hm
  simp only [Bool.and_eq_true, beq_iff_eq, sameB] at h
  obtain ⟨⟨⟨hrdy, hc1, hc2⟩, hl1, hl2⟩, hs1, hs2⟩ := h
  refine ⟨fun h => (by rw [hrdy] at h; cases h), fun m hmem => ?_⟩
  rw [hrdy] at hmem
  have hm2 : m = i ∨ m = j := by simpa using hmem
  rcases hm2 with rfl | rfl
  · have := k1 hs hnp hc1 a w V' hf hA hm
    rw [hl1] at this
    rw [Array.ext' hs1]
    exact this
  · have := k2 hs hnp hc2 a w V' hf hA hm
    rw [hl2] at this
    rw [Array.ext' hs2]
    exact this

theorem TV_weaken {ord : List (Nat × Nat)} {V : Held} {σ' : Slots} {A' : World → Prop} (hs : Sub σ' σ) (hA : ∀ w, A w → A' w) (k : TV P n ops Q ord V σ' A') : TV P n ops Q ord V σ A :=
  fun h1 h2 h3 a w V' hf h hm => k h1 h2 h3 a w V' (hf.weaken hs.spec) (hA w h) hm

/-! ### Code -/
def TC (P : Program) (n : Nat) (c : Code) (Q : Exit → Act → World → Prop) (σ : Slots) (A : World → Prop) : Prop := ∀ a w, Fr n σ a → A w → c.wp P Q a w
def TX (n : Nat) (Q : Exit → Act → World → Prop) (e : Exit) (σ : Slots) (A : World → Prop) : Prop := ∀ a w, Fr n σ a → A w → Q e a w

theorem TL_nil (k : TX n Q .normal σ A) : TL P n ops Q [] σ A := fun a w hf hA => k a w hf hA

def noPanic (Q : Exit → Act → World → Prop) : Exit → Act → World → Prop
  | .panic _, _, _ => False
  | e, a, w => Q e a w

/-- The assertion does not look at the count of draws. -/
def Calm (A : World → Prop) : Prop := ∀ w, A w → A w.drew

theorem TC_draw {id : Nat} {l : List Oper} (ord : List (Nat × Nat)) (hm : P.follows .mixedOrders = true) (h0 : chk0 l.toArray ord = true) (hA : Calm A)
    (k : TV P n l.toArray (noPanic Q) ord [] σ A) : TC P n (.region id l.toArray true) Q σ A := by
  intro a w hf h
  simp only [chk0, Bool.and_eq_true, beq_iff_eq] at h0
  obtain ⟨⟨⟨hs, hlen⟩, hall⟩, hc⟩ := h0
  refine wp_mono (wp_region_any (Q := noPanic Q) hm (wpAny_of_V _ [] _ _ _ ?_)) (fun e a w h => by cases e <;> first | exact h | exact h.elim)
  have hl : Array.replicate l.toArray.size false = listedOf l.toArray.size ord := by
    apply Array.ext'
    simp only [listedOf, Array.toList_replicate]
    apply List.ext_getElem?
    intro j
    rw [List.getElem?_map, List.getElem?_replicate]
    by_cases hj : j < l.toArray.size
    · have := List.all_eq_true.1 hall j (List.mem_range.2 hj)
      rw [if_pos hj, List.getElem?_range hj]
      simp [this]
    · rw [if_neg hj, List.getElem?_eq_none (by simpa using hj)]
      rfl
  have := k hs (fun c a w h => h) hc a w.drew [] hf (hA w h) rfl
  rw [hl, ← hlen]
  rw [← hlen] at this
  exact this

theorem TV_end {V : Held} (k : TX n Q .normal σ A) : TV P n ops (noPanic Q) [] V σ A := TV_nil fun a w hf hA => k a w hf hA

theorem TC_reg {id : Nat} {l : List Oper} (k : TL P n l.toArray Q l σ A) : TC P n (.region id l.toArray false) Q σ A := fun a w hf hA => wp_region_lit (k a w hf hA)
theorem TC_seq {x y : Code} (k : TC P n x (Exit.then (y.wp P Q) Q) σ A) : TC P n (.seq x y) Q σ A := fun a w hf hA => wp_seq (k a w hf hA)
theorem TX_then {y : Code} {Q' : Exit → Act → World → Prop} (k : TC P n y Q σ A) : TX n (Exit.then (y.wp P Q) Q') .normal σ A := fun a w hf hA => k a w hf hA
theorem TX_then_exit {next : Act → World → Prop} {id : Nat} (k : TX n Q (.exit id) σ A) : TX n (Exit.then next Q) (.exit id) σ A := fun a w hf hA => k a w hf hA
theorem TX_then_ret {next : Act → World → Prop} (k : TX n Q .ret σ A) : TX n (Exit.then next Q) .ret σ A := fun a w hf hA => k a w hf hA
theorem TX_then_goto {next : Act → World → Prop} {l : Nat} (k : TX n Q (.goto l) σ A) : TX n (Exit.then next Q) (.goto l) σ A := fun a w hf hA => k a w hf hA
theorem TC_skip (k : TX n Q .normal σ A) : TC P n .skip Q σ A := fun a w hf hA => wp_skip (k a w hf hA)
theorem TC_label {l : Nat} (k : TX n Q .normal σ A) : TC P n (.label l) Q σ A := fun a w hf hA => wp_label (k a w hf hA)
theorem TC_exit {id : Nat} (k : TX n Q (.exit id) σ A) : TC P n (.exit id) Q σ A := fun a w hf hA => wp_exit (k a w hf hA)
theorem TC_goto {l : Nat} (k : TX n Q (.goto l) σ A) : TC P n (.goto l) Q σ A := fun a w hf hA => wp_goto (k a w hf hA)
theorem TC_ret (k : TX n Q .ret σ A) : TC P n .ret Q σ A := fun a w hf hA => wp_ret (k a w hf hA)
theorem TC_block {id : Nat} {c : Code} (k : TC P n c (Exit.inBlock id Q) σ A) : TC P n (.block id c) Q σ A := fun a w hf hA => wp_block (k a w hf hA)
theorem TX_block_here {id : Nat} (k : TX n Q .normal σ A) : TX n (Exit.inBlock id Q) (.exit id) σ A := fun a w hf hA => by
  simp only [Exit.inBlock, if_true]; exact k a w hf hA
theorem TX_block_past {id id' : Nat} (h : Nat.beq id' id = false) (k : TX n Q (.exit id') σ A) : TX n (Exit.inBlock id Q) (.exit id') σ A := fun a w hf hA => by
  have : id' ≠ id := fun e => by subst e; simp at h
  simp only [Exit.inBlock, this, if_false]; exact k a w hf hA
theorem TX_block_normal {id : Nat} (k : TX n Q .normal σ A) : TX n (Exit.inBlock id Q) .normal σ A := fun a w hf hA => k a w hf hA
theorem TX_block_ret {id : Nat} (k : TX n Q .ret σ A) : TX n (Exit.inBlock id Q) .ret σ A := fun a w hf hA => k a w hf hA
theorem TX_block_goto {id l : Nat} (k : TX n Q (.goto l) σ A) : TX n (Exit.inBlock id Q) (.goto l) σ A := fun a w hf hA => k a w hf hA
theorem TC_scope {c : Code} (k : TC P n c (Exit.noGoto Q) σ A) : TC P n (.scope c) Q σ A := fun a w hf hA => wp_scope_straight (k a w hf hA)
theorem TX_scope_normal (k : TX n Q .normal σ A) : TX n (Exit.noGoto Q) .normal σ A := fun a w hf hA => k a w hf hA
theorem TX_scope_exit {id : Nat} (k : TX n Q (.exit id) σ A) : TX n (Exit.noGoto Q) (.exit id) σ A := fun a w hf hA => k a w hf hA
theorem TX_scope_ret (k : TX n Q .ret σ A) : TX n (Exit.noGoto Q) .ret σ A := fun a w hf hA => k a w hf hA

theorem TC_cond {c : Operand} {x y : Code} {b : Bool} (hc : ev σ c = some (true, .bool b)) (h1 : b = true → TC P n x Q σ A) (h2 : b = false → TC P n y Q σ A) : TC P n (.cond c x y) Q σ A := by
  intro a w hf hA
  cases b with
  | true => exact wp_cond_true (hf.eval hc rfl) (h1 rfl a w hf hA)
  | false => exact wp_cond_false (hf.eval hc rfl) (h2 rfl a w hf hA)
theorem TC_cond_dec {c : Operand} {x y : Code} {p : Prop} [Decidable p] (hc : ev σ c = some (true, .bool (decide p))) (h1 : p → TC P n x Q σ A) (h2 : ¬p → TC P n y Q σ A) : TC P n (.cond c x y) Q σ A :=
  TC_cond hc (fun h => h1 (of_decide_eq_true h)) (fun h => h2 (of_decide_eq_false h))

theorem TC_weaken {c : Code} {σ' : Slots} {A' : World → Prop} (hs : Sub σ' σ) (hA : ∀ w, A w → A' w) (k : TC P n c Q σ' A') : TC P n c Q σ A :=
  fun a w hf h => k a w (hf.weaken hs.spec) (hA w h)
theorem TX_weaken {e : Exit} {σ' : Slots} {A' : World → Prop} (hs : Sub σ' σ) (hA : ∀ w, A w → A' w) (k : TX n Q e σ' A') : TX n Q e σ A :=
  fun a w hf h => k a w (hf.weaken hs.spec) (hA w h)

/-- What follows a piece of code is proved once, from what is known behind it on every way. -/
theorem TC_cut {γ : Type} {x y : Code} (σ' : γ → Slots) (A' : γ → World → Prop) (h1 : TC P n x (Exit.then (fun a w => ∃ t, Fr n (σ' t) a ∧ A' t w) Q) σ A) (h2 : ∀ t, TC P n y Q (σ' t) (A' t)) : TC P n (.seq x y) Q σ A :=
  fun a w hf hA => wp_seq (wp_mono (h1 a w hf hA) fun e a w h => by
    cases e <;> first | exact (let ⟨t, h1, h3⟩ := h; h2 t a w h1 h3) | exact h)
theorem TX_cut {γ : Type} {σ' : γ → Slots} {A' : γ → World → Prop} (t : γ) (hs : Sub (σ' t) σ) (hA : ∀ w, A w → A' t w) : TX n (Exit.then (fun a w => ∃ t, Fr n (σ' t) a ∧ A' t w) Q) .normal σ A :=
  fun _ w hf h => ⟨t, hf.weaken hs.spec, hA w h⟩

/-- What a round must come to: a state of the family, with a smaller number. -/
def Next {γ : Type} (n : Nat) (σ' : γ → Slots) (A' : γ → World → Prop) (μ : γ → Nat) (m : Nat) (a : Act) (w : World) : Prop := ∃ t', μ t' < m ∧ Fr n (σ' t') a ∧ A' t' w
/-- A loop: a family of states, a number that each round lowers. -/
theorem TC_loop {γ : Type} {c : Code} (σ' : γ → Slots) (A' : γ → World → Prop) (μ : γ → Nat) (t0 : γ) (hs : Sub (σ' t0) σ) (hA : ∀ w, A w → A' t0 w)
    (round : ∀ t, TC P n c (Exit.then (Next n σ' A' μ (μ t)) Q) (σ' t) (A' t)) : TC P n (.loop c) Q σ A := by
  intro a w hf h b k cs
  have key : ∀ (m : Nat) (t : γ), μ t = m → ∀ a w, Fr n (σ' t) a → A' t w →
      ∃ e a' w', Q e a' w' ∧ Arrives P (lone (b.at a (.code c :: .inLoop c :: k)) cs w) b k cs e a' w' := by
    intro m
    induction m using Nat.strongRecOn with
    | _ m ih =>
      intro t hm a w hf h
      obtain ⟨e, a₁, w₁, hq, harr⟩ := round t a w hf h b (.inLoop c :: k) cs
      cases e with
      | normal =>
        obtain ⟨t', hlt, hf', h'⟩ := hq
        obtain ⟨e₂, a₂, w₂, hq₂, harr₂⟩ := ih (μ t') (hm ▸ hlt) t' rfl a₁ w₁ hf' h'
        exact ⟨e₂, a₂, w₂, hq₂, .of_steps (Steps.trans harr (.one step_inLoop)) harr₂⟩
      | exit id => exact ⟨_, a₁, w₁, hq, .pass (x := .inLoop c) rfl (fun _ _ => .inl (by simp)) harr⟩
      | goto l => exact ⟨_, a₁, w₁, hq, .pass (x := .inLoop c) rfl (fun _ _ => .inl (by simp)) harr⟩
      | ret => exact ⟨_, a₁, w₁, hq, .pass (x := .inLoop c) rfl (fun _ _ => .inl (by simp)) harr⟩
      | panic ch => exact ⟨_, a₁, w₁, hq, .pass (x := .inLoop c) rfl (fun _ _ => .inl (by simp)) harr⟩
      | outgrown => exact ⟨_, a₁, w₁, hq, .pass (x := .inLoop c) rfl (fun _ _ => .inl (by simp)) harr⟩
  obtain ⟨e, a', w', hq, harr⟩ := key _ t0 rfl a w (hf.weaken hs.spec) (hA w h)
  exact ⟨e, a', w', hq, .of_steps (.one step_loop) harr⟩
theorem TX_round {γ : Type} {σ' : γ → Slots} {A' : γ → World → Prop} {μ : γ → Nat} {m : Nat} (t' : γ) (hμ : μ t' < m) (hs : Sub (σ' t') σ) (hA : ∀ w, A w → A' t' w) :
    TX n (Exit.then (Next n σ' A' μ m) Q) .normal σ A :=
  fun _ w hf h => ⟨t', hμ, hf.weaken hs.spec, hA w h⟩

/-! ### Calls -/
/-- A call returns, with a value and a world that R allows. -/
def CallsT (P : Program) (f : FuncId) (vs : List Value) (A : World → Prop) (R : Value → (World → Prop) → Prop) : Prop :=
  ∀ w, A w → Calls P f vs.toArray w fun e w' => ∃ v A', e = .returned v ∧ R v A' ∧ A' w'

def slotsOf : List Value → Nat → Slots
  | [], _ => []
  | v :: r, k => (k, true, v) :: slotsOf r (k + 1)

theorem look_slotsOf : ∀ (vs : List Value) (k t : Nat) (c : Bool) (v : Value), look (slotsOf vs k) t = some (c, v) → c = true ∧ k ≤ t ∧ vs[t - k]? = some v
  | [], _, _, _, _, h => by simp [slotsOf, look] at h
  | u :: r, k, t, c, v, h => by
    simp only [slotsOf, look] at h
    cases hb : Nat.beq k t with
    | true =>
      have hkt : k = t := Nat.eq_of_beq_eq_true hb
      subst hkt
      simp only [hb, cond_true, Option.some.injEq, Prod.mk.injEq] at h
      exact ⟨h.1.symm, Nat.le_refl _, by simp [h.2]⟩
    | false =>
      simp only [hb, cond_false] at h
      obtain ⟨h1, h2, h3⟩ := look_slotsOf r (k + 1) t c v h
      refine ⟨h1, by omega, ?_⟩
      have : t - k = (t - (k + 1)) + 1 := by omega
      rw [this, List.getElem?_cons_succ]
      exact h3

theorem CallsT.body {f : FuncId} {fn : Func} {c : Code} {vs : List Value} {R : Value → (World → Prop) → Prop} (hf : P.funcs[f]? = some fn) (hb : fn.body = some c) (hn : Nat.ble vs.length fn.ntmps = true)
    (k : TC P fn.ntmps c (bodyPost P fn fun e w' => ∃ v A', e = .returned v ∧ R v A' ∧ A' w') (slotsOf vs 0) A) : CallsT P f vs A R := by
  intro w hA
  refine calls_of_wp hf hb (k _ w ⟨?_, rfl, fun t c v h => ?_⟩ hA)
  · have := Nat.le_of_ble_eq_true hn
    simp; omega
  · obtain ⟨rfl, _, h3⟩ := look_slotsOf vs 0 t c v h
    simp only [Nat.sub_zero] at h3
    have hlt : t < vs.length := (List.getElem?_eq_some_iff.1 h3).1
    simp only [Array.getD_eq_getD_getElem?, cond_true]
    rw [Array.getElem?_append_left (by simpa using hlt)]
    simp [h3]

theorem CallsT.mono {f : FuncId} {vs : List Value} {R R' : Value → (World → Prop) → Prop} (h : CallsT P f vs A R) (hr : ∀ v A', R v A' → ∃ A'', R' v A'' ∧ ∀ w, A' w → A'' w) : CallsT P f vs A R' :=
  fun w hA => (h w hA).mono fun _ w' ⟨v, A', he, hR, hA'⟩ => let ⟨A'', h1, h2⟩ := hr v A' hR; ⟨v, A'', he, h1, h2 w' hA'⟩

/-! ### A function's end -/
theorem TX_ret {e : Exit} {fn : Func} {R : Value → (World → Prop) → Prop} {v : Value} (hk : e = .ret ∨ e = .normal) (hres : ∀ a w, Fr n σ a → A w → (results fn a.tmps).run P w = .ok v w) (hR : ∃ A', R v A' ∧ ∀ w, A w → A' w) :
    TX n (bodyPost P fn fun e w' => ∃ v A', e = .returned v ∧ R v A' ∧ A' w') e σ A := by
  intro a w hf hA
  obtain ⟨A', h1, h2⟩ := hR
  rcases hk with rfl | rfl <;> exact ⟨hf.defers, v, hres a w hf hA, v, A', rfl, h1, h2 w hA⟩
theorem res1 {fn : Func} {t : Nat} (hr : fn.results = #[.tmp t]) (hv : look σ t = some (true, v)) : ∀ a w, Fr n σ a → A w → (results fn a.tmps).run P w = .ok v w := by
  intro a w hf _
  rw [results_tmp hr, hf.known t true v hv]; rfl
theorem res2 {fn : Func} {t u : Nat} {x : Value} (hr : fn.results = #[.tmp t, .tmp u]) (hv : look σ t = some (true, v)) (hx : look σ u = some (true, x)) : ∀ a w, Fr n σ a → A w → (results fn a.tmps).run P w = .ok (.tuple #[v, x]) w := by
  intro a w hf _
  rw [results_tmp2 hr, hf.known t true v hv, hf.known u true x hx]; rfl
theorem res0 {fn : Func} (hr : fn.results = #[]) : ∀ a w, Fr n σ a → A w → (results fn a.tmps).run P w = .ok (.tuple #[]) w := by
  intro a w _ _
  rw [results_none hr]
end
end Go.Gx

/- THE CORE OF A SMALL LOGIC FOR WALKS: known slots, quiet operations, effects, regions in order and regions that draw their order. Program-independent. THE OPERATIONS OF THE LOGIC OF GxA: memory as a list of the blocks that the call owns; each operation's rule. Program-independent. MORE OPERATIONS OF THE LOGIC OF GxA: parting at a guard; structs and slices that are written out; a result that lies in memory. Program-independent. FROM A ROW TO A WALK: what a parameter of integers, laid flat, reads as; the arguments read again behind the call. Program-independent. FACTS ON THE TYPES AND FUNCTIONS OF THIS TRANSLATION, each closed by the kernel; laid by a program of this work. SLICES IN THE LOGIC: a slice of the call's own with room behind it ('Frag'); append, make, copy, slice; a slice that is read ('SlA'); equality of structs of integers. Program-independent. A BOOK OF LISTS in the logic: strips, what they hold, how they are read. Program-independent. SMALL RULES MORE: an index of an array by value; a call of a function's value; lists told by a table. Program-independent. JUMPS BACK TO A LABEL. Program-independent. OPENERS OF PARAMETERS THAT LIE IN MEMORY: a slice whose elements are integers, laid flat, is read as the row gives it. Program-independent. COMPARISONS WITH nil; a string of bytes. Program-independent. Short names: Zb for QT_add, Qd for QT_assign, Qx for QT_extract, Qh for QT_field, Qq for QT_indexSlice, Za for QT_len, Qj for QT_load, Qy for QT_loadRAj, Qw for QT_loadRj, Ql for QT_loadW, Qc for QT_move, Qv for QT_nilCheck, Qr for TC_block, Qm for TC_cond_dec, Zd for TC_exit, Qg for TC_reg, Qu for TC_ret, Qe for TC_seq, Qt for TC_skip, Qf for TL_nil, Qa for TL_q, Qk for TV_q, Qz for TV_ql, Qp for TX_block_here, Qo for TX_block_normal, Zc for TX_block_ret, Qs for TX_ret, Qb for TX_then, Qi for TX_then_exit, Qn for TX_then_ret. -/
import Derived.WalkKit
import Derived.OrdersHeld
import Derived.Below
import Derived.IntWalk
import Derived.ProofKit
import Derived.LaidMore
import Derived.OpenShut
import Derived.Stop.Joined
import Derived.Lib.LaidTab
import Derived.MakeChecks
import Derived.Test.YtjdaglmkljbfkaaGreatDoorProg
import Derived.KernelRfl
import Derived.Laws.AppendOwn
import Derived.Laws.MakeOwn
import Derived.Laws.Slices
import Derived.Laws.StructEq
import Derived.DeepKeys
import Derived.ScopeJumps
import Derived.Deep.Slices
import Derived.SizedLaws
import Derived.Laws.IdiomStrings
namespace Go.Gx
open Go
abbrev Slots := List (Nat × Bool × Value)
def look : Slots → Nat → Option (Bool × Value)
 | [], _ => none
 | (k, c, v) :: r, t => bif Nat.beq k t then some (c, v) else look r t
/-- The slots that are known: slot t holds v where c, nothing where not c. -/
structure Fr (n : Nat) (σ : Slots) (a : Act) : Prop where
 size : a.tmps.size = n
 defers : a.defers = []
 known : ∀ t c v, look σ t = some (c, v) → a.tmps.getD t undef = bif c then v else undef
def ev (σ : Slots) : Operand → Option (Bool × Value)
 | .tmp t => look σ t
 | .const v => some (true, v)
 | .global g => some (true, .pointer (some ⟨g, 0, none⟩))
 | .func f => some (true, .func (.func f) #[] #[])
theorem Fr.eval {n : Nat} {σ : Slots} {a : Act} {x : Operand} {c : Bool} {v : Value} (h : Fr n σ a) (he : ev σ x = some (c, v)) (hc : c = true) : a.eval x = v := by
 subst hc
 cases x with
 | tmp t => exact (h.known t true v he).trans rfl
 | const u => simp only [ev, Option.some.injEq, Prod.mk.injEq, true_and] at he; exact he
 | global g => simp only [ev, Option.some.injEq, Prod.mk.injEq, true_and] at he; exact he
 | func f => simp only [ev, Option.some.injEq, Prod.mk.injEq, true_and] at he; exact he
theorem Fr.put {n : Nat} {σ : Slots} {a : Act} {d : Nat} {c : Bool} {v u : Value} (h : Fr n σ a) (hd : Nat.ble (d + 1) n = true) (hu : u = bif c then v else undef) :
  Fr n ((d, c, v) :: σ) (a.put (some d) u) := by
 subst hu
 have hlt : d < a.tmps.size := by rw [h.size]; exact Nat.le_of_ble_eq_true hd
 refine ⟨by simp [Act.put, h.size], h.defers, fun t c' v' hl => ?_⟩
 simp only [look] at hl
 cases hb : Nat.beq d t with
 | true =>
  have hdt : d = t := Nat.eq_of_beq_eq_true hb
  subst hdt
  simp only [hb, cond_true, Option.some.injEq, Prod.mk.injEq] at hl
  obtain ⟨rfl, rfl⟩ := hl
  simp [Act.put, hlt]
 | false =>
  have hne : d ≠ t := fun e => by subst e; simp at hb
  simp only [hb, cond_false] at hl
  have := h.known t c' v' hl
  simpa [Act.put, Array.getElem?_setIfInBounds_ne hne] using this
theorem slotI {σ : Slots} {t : Nat} {c : Bool} {k : IntKind} {p q : Int} (hl : look σ t = some (c, .int k p)) (h : p = q) : look σ t = some (c, .int k q) := h ▸ hl
theorem Fr.weaken {n : Nat} {σ σ' : Slots} {a : Act} (h : Fr n σ a) (hs : ∀ t c v, look σ' t = some (c, v) → look σ t = some (c, v)) : Fr n σ' a :=
 ⟨h.size, h.defers, fun t c v hl => h.known t c v (hs t c v hl)⟩
/-- Every entry of the first list is known in the second. -/
def Sub : Slots → Slots → Prop
 | [], _ => True
 | (t, c, v) :: r, σ => look σ t = some (c, v) ∧ Sub r σ
theorem Sub.spec : ∀ {σ' σ : Slots}, Sub σ' σ → ∀ t c v, look σ' t = some (c, v) → look σ t = some (c, v)
 | [], _, _, _, _, _, h => by simp [look] at h
 | (k, c', v') :: r, σ, hs, t, c, v, h => by
  simp only [look] at h
  cases hb : Nat.beq k t with
  | true =>
   have hkt : k = t := Nat.eq_of_beq_eq_true hb
   subst hkt
   simp only [hb, cond_true, Option.some.injEq, Prod.mk.injEq] at h
   obtain ⟨rfl, rfl⟩ := h
   exact hs.1
  | false =>
   simp only [hb, cond_false] at h
   exact Sub.spec hs.2 t c v h
/-- The condition under which an operation is carried out. -/
def gdc (ops : Array Oper) (σ : Slots) (o : Oper) : Option Bool :=
 match o.guard with
 | none => some true
 | some (j, want) =>
  match (ops[j]?).bind (·.dst) with
  | some t =>
   match look σ t with
   | some (c, .bool b) => some (c && (match want with | true => b | false => !b))
   | _ => none
  | none => none
theorem wanted_of_gdc {n : Nat} {σ : Slots} {a : Act} {ops : Array Oper} {o : Oper} {g : Bool} (h : Fr n σ a) (hg : gdc ops σ o = some g) :
  Region.wanted o (yielded ops a.tmps) = g := by
 unfold gdc at hg
 unfold Region.wanted
 cases hgd : o.guard with
 | none => simp only [hgd, Option.some.injEq] at hg; exact hg
 | some jw =>
  obtain ⟨j, want⟩ := jw
  simp only [hgd] at hg ⊢
  unfold yielded
  cases ht : (ops[j]?).bind (·.dst) with
  | none => simp [ht] at hg
  | some t =>
   simp only [ht] at hg
   cases hl : look σ t with
   | none => simp [hl] at hg
   | some cv =>
    obtain ⟨c, v⟩ := cv
    have hk := h.known t c v hl
    simp only [hl] at hg
    cases v <;> simp only [Option.some.injEq, reduceCtorEq] at hg
    rename_i b
    subst hg
    simp only [Option.bind_some]
    rw [Array.getD_eq_getD_getElem?] at hk
    cases c with
    | false =>
     simp only [cond_false] at hk
     cases hx : a.tmps[t]? with
     | none => simp
     | some x =>
      simp only [hx, Option.getD_some] at hk
      subst hk
      simp [undef]
    | true =>
     simp only [cond_true] at hk
     cases hx : a.tmps[t]? with
     | none => simp [hx, undef] at hk
     | some x =>
      simp only [hx, Option.getD_some] at hk
      subst hk
      cases want <;> cases b <;> rfl
/-- One operation that leaves the world alone: where g, it yields v; where not, it is passed over. -/
def QT (P : Program) (n : Nat) (ops : Array Oper) (o : Oper) (σ : Slots) (A : World → Prop) (g : Bool) (v : Value) : Prop :=
 ∀ a w, Fr n σ a → A w → Region.wanted o (yielded ops a.tmps) = g ∧ (g = true → (execOp a.eval o).run P w = .ok (.value v) w)
/-- One operation with an effect: it yields some v and leads to a world of some A', which R allows. -/
def ET (P : Program) (n : Nat) (o : Oper) (σ : Slots) (A : World → Prop) (R : Value → (World → Prop) → Prop) : Prop :=
 ∀ a w, Fr n σ a → A w → ∀ (K : Act → World → Prop) (Q : Exit → Act → World → Prop), (∀ v A' w', R v A' → A' w' → K (a.put o.dst v) w') → o.wp P a w K Q
section
variable {P : Program} {n : Nat} {ops : Array Oper} {Q : Exit → Act → World → Prop} {o : Oper} {rest : List Oper} {σ : Slots} {A : World → Prop} {g : Bool} {v : Value} {d : Nat}
/-! ### A region in its order -/
def TL (P : Program) (n : Nat) (ops : Array Oper) (Q : Exit → Act → World → Prop) (rest : List Oper) (σ : Slots) (A : World → Prop) : Prop :=
 ∀ a w, Fr n σ a → A w → wpList P ops Q rest a w
theorem Qa (hd : o.dst = some d) (hn : Nat.ble (d + 1) n = true) (hq : QT P n ops o σ A g v) (k : TL P n ops Q rest ((d, g, v) :: σ) A) : TL P n ops Q (o :: rest) σ A := by
 intro a w hf hA
 obtain ⟨hw, hr⟩ := hq a w hf hA
 unfold wpList
 cases g with
 | true =>
  rw [if_pos hw]
  refine .inl ?_
  unfold Oper.wp
  rw [hr rfl, Oper.upon_value, hd]
  exact k _ _ (hf.put hn rfl) hA
 | false =>
  rw [if_neg (by simp [hw]), hd]
  exact k _ _ (hf.put hn rfl) hA
theorem TL_e {R : Value → (World → Prop) → Prop} (hd : o.dst = some d) (hn : Nat.ble (d + 1) n = true) (hg : gdc ops σ o = some g) (hgt : g = true) (he : ET P n o σ A R)
  (k : ∀ v A', R v A' → TL P n ops Q rest ((d, true, v) :: σ) A') : TL P n ops Q (o :: rest) σ A := by
 intro a w hf hA
 subst hgt
 unfold wpList
 rw [if_pos (wanted_of_gdc hf hg)]
 refine .inl (he a w hf hA _ _ fun v A' w' hR hA' => ?_)
 rw [hd]
 exact k v A' hR _ _ (hf.put hn rfl) hA'
theorem TL_e0 {R : Value → (World → Prop) → Prop} (hd : o.dst = none) (hg : gdc ops σ o = some g) (hgt : g = true) (he : ET P n o σ A R)
  (k : ∀ v A', R v A' → TL P n ops Q rest σ A') : TL P n ops Q (o :: rest) σ A := by
 intro a w hf hA
 subst hgt
 unfold wpList
 rw [if_pos (wanted_of_gdc hf hg)]
 refine .inl (he a w hf hA _ _ fun v A' w' hR hA' => ?_)
 rw [hd]
 exact k v A' hR _ _ hf hA'
theorem TL_skip (hd : o.dst = some d) (hn : Nat.ble (d + 1) n = true) (hg : gdc ops σ o = some g) (hgf : g = false) (k : TL P n ops Q rest ((d, false, undef) :: σ) A) : TL P n ops Q (o :: rest) σ A := by
 intro a w hf hA
 subst hgf
 unfold wpList
 rw [if_neg (by simp [wanted_of_gdc hf hg]), hd]
 exact k _ _ (hf.put hn rfl) hA
/-! ### A region that draws its order -/
def dep (ops : Array Oper) (i j : Nat) : Bool :=
 match ops[j]? with
 | some o => o.after.any fun e => Region.binds .any e && e.on == i
 | none => false
abbrev Pend := List (Nat × (World → Prop))
def wpAnyV (P : Program) (ops : Array Oper) (Q : Exit → Act → World → Prop) : Nat → Pend → Array Bool → Act → World → Prop
 | 0, _, listed, a, w => Region.ready .any ops listed = [] ∧ Q .normal a w
 | fuel + 1, V, listed, a, w =>
  (Region.ready .any ops listed = [] → Q .normal a w) ∧
  ∀ i ∈ Region.ready .any ops listed, wpOp P ops Q i (fun a' w' => (∀ x ∈ V, dep ops x.1 i = false → x.2 w') ∧ wpAnyV P ops Q fuel (V.filter fun x => !dep ops x.1 i) (listed.setIfInBounds i true) a' w') a w
theorem wpAnyV_mono : ∀ (fuel : Nat) (V V' : Pend) (listed : Array Bool) (a : Act) (w : World), (∀ x ∈ V', (∀ w, x.2 w) ∨ ∃ y ∈ V, y.1 = x.1 ∧ ∀ w, y.2 w → x.2 w) →
    wpAnyV P ops Q fuel V listed a w → wpAnyV P ops Q fuel V' listed a w := by
  intro fuel
  induction fuel with
  | zero => exact fun _ _ _ _ _ _ h => h
  | succ fuel ih =>
    intro V V' listed a w hs h
    refine ⟨h.1, fun i hi => wpOp_mono (fun a' w' h' => ⟨fun x hx hd => ?_, ih _ _ _ _ _ (fun x hx => ?_) h'.2⟩) (h.2 i hi)⟩
    · rcases hs x hx with h0 | ⟨y, hy, hyx, himp⟩
      · exact h0 _
      · exact himp _ (h'.1 y hy (by rw [hyx]; exact hd))
    · rw [List.mem_filter] at hx
      rcases hs x hx.1 with h0 | ⟨y, hy, hyx, himp⟩
      · exact .inl h0
      · exact .inr ⟨y, List.mem_filter.2 ⟨hy, by rw [hyx]; exact hx.2⟩, hyx, himp⟩
theorem wpAny_of_V : ∀ (fuel : Nat) (V : Pend) (listed : Array Bool) (a : Act) (w : World), wpAnyV P ops Q fuel V listed a w → wpAny P .any ops Q fuel listed a w := by
 intro fuel
 induction fuel with
 | zero => exact fun _ _ _ _ h => h
 | succ fuel ih => exact fun V listed a w h => ⟨h.1, fun i hi => wpOp_mono (fun a' w' h' => ih _ _ _ _ h'.2) (h.2 i hi)⟩
/-- A quiet operation that may come up may be taken first; what it yields must stay so over each effect that does not wait for it. -/
theorem wpAnyV_first {i : Nat} {oi : Oper} {S : World → Prop} {v : Value} (hi : ops[i]? = some oi) (hsel : ∀ (j : Nat) (o : Oper) cs b, ops[j]? = some o → o.op ≠ .select cs b)
    (hQ : ∀ c a w, Q (.panic c) (a.put oi.dst v) w → Q (.panic c) a w) :
    ∀ (fuel : Nat) (V : Pend) (listed : Array Bool) (a : Act) (w : World),
      (∀ j oj, ops[j]? = some oj → j ≠ i → listed.getD j true = false → (∀ e ∈ oj.after, Region.binds .any e = true → e.on ≠ i) → oi.apart ops oj = true) →
      i ∈ Region.ready .any ops listed → YieldsIf P ops S oi v a → S w → (∀ x ∈ V, x.2 w) →
      wpAnyV P ops Q fuel ((i, S) :: V) (listed.setIfInBounds i true) (a.put oi.dst v) w → wpAnyV P ops Q (fuel + 1) V listed a w := by
  intro fuel
  induction fuel with
  | zero =>
    intro V listed a w _ hr hy hS hV H
    refine ⟨fun h => (by rw [h] at hr; cases hr), fun j hj => ?_⟩
    by_cases hji : j = i
    · subst hji
      exact hy.wpOp hi hS ⟨fun x hx _ => hV x hx, H⟩
    · have := ready_mono hj hji
      rw [H.1] at this
      cases this
  | succ fuel ih =>
    intro V listed a w hfree hr hy hS hV H
    refine ⟨fun h => (by rw [h] at hr; cases hr), fun j hj => ?_⟩
    by_cases hji : j = i
    · subst hji
      refine hy.wpOp hi hS ⟨fun x hx _ => hV x hx, wpAnyV_mono _ _ _ _ _ _ (fun x hx => ?_) H⟩
      exact .inr ⟨x, List.mem_cons_of_mem _ (List.mem_filter.1 hx).1, rfl, fun _ h => h⟩
    · have h1 := H.2 j (ready_mono hj hji)
      obtain ⟨hjun, oj, hoj, hall⟩ := mem_ready.1 hj
      have hnot : ∀ e ∈ oj.after, Region.binds .any e = true → e.on ≠ i := fun e he hb heq => by
        have h1 := hall e he hb
        have h0 := (mem_ready.1 hr).1
        rw [heq] at h1
        rcases Nat.lt_or_ge i listed.size with h' | h'
        · simp [h'] at h0 h1; rw [h0] at h1; cases h1
        · simp [Array.getElem?_eq_none h'] at h1
      have hdep : dep ops i j = false := by
        simp only [dep, hoj]
        rw [Array.any_eq_false']
        intro e he
        simp only [Bool.and_eq_true, beq_iff_eq, not_and]
        exact fun hb => hnot e he hb
      have h2 := wpOp_putIf hoj (hfree j oj hoj hji hjun hnot) (fun cs b => hsel i oi cs b hi) (fun cs b => hsel j oj cs b hoj) hQ hy h1
      have hfree' : ∀ k ok, ops[k]? = some ok → k ≠ i → (listed.setIfInBounds j true).getD k true = false →
          (∀ e ∈ ok.after, Region.binds .any e = true → e.on ≠ i) → oi.apart ops ok = true := fun k ok hk hki hun hno => by
        refine hfree k ok hk hki ?_ hno
        by_cases hjk : j = k
        · subst hjk; exact hjun
        · rw [getD_set_ne true hjk] at hun; exact hun
      refine wpOp_mono (fun a' w' h3 => ?_) h2
      obtain ⟨hy', hk, hrest⟩ := h3
      have hfil : ((i, S) :: V).filter (fun x => !dep ops x.1 j) = (i, S) :: V.filter (fun x => !dep ops x.1 j) := by simp [hdep]
      rw [hfil] at hrest
      refine ⟨fun x hx hd => hk x (List.mem_cons_of_mem _ hx) hd, ih _ (listed.setIfInBounds j true) a' w' hfree' (ready_mono hr (Ne.symm hji)) hy' (hk (i, S) (List.mem_cons_self ..) hdep) (fun x hx => ?_) ?_⟩
      · obtain ⟨hx1, hx2⟩ := List.mem_filter.1 hx
        exact hk x (List.mem_cons_of_mem _ hx1) (by simpa using hx2)
      · rw [Array.setIfInBounds_comm _ _ hji]
        exact hrest
/-! ### The order in which a region is walked: quiet operations first; an effect when it alone may come up -/
def listedOf (m : Nat) (ord : List (Nat × Nat)) : Array Bool := ((List.range m).map fun i => !(ord.any fun x => x.1 == i)).toArray
def chk (ops : Array Oper) : List (Nat × Nat) → Bool
  | [] => true
  | (i, e) :: r => bif Nat.beq e 2 then true else decide (i < ops.size) && !(r.any fun x => x.1 == i) &&
      (bif Nat.beq e 1 then Region.ready .any ops (listedOf ops.size ((i, e) :: r)) == [i]
        else (Region.ready .any ops (listedOf ops.size ((i, e) :: r))).contains i && Region.free .any ops (listedOf ops.size ((i, e) :: r)) i) && chk ops r
def chk0 (ops : Array Oper) (ord : List (Nat × Nat)) : Bool :=
 Region.noSelect ops && (ord.length == ops.size) && ((List.range ops.size).all fun i => ord.any fun x => x.1 == i) && chk ops ord
theorem getD_listedOf (m i : Nat) (ord : List (Nat × Nat)) (d : Bool) : (listedOf m ord).getD i d = if i < m then !(ord.any fun x => x.1 == i) else d := by
 unfold listedOf
 by_cases h : i < m <;> simp [h]
theorem listedOf_step {m i : Nat} {e : Nat} {r : List (Nat × Nat)} (hr : (r.any fun x => x.1 == i) = false) :
    (listedOf m ((i, e) :: r)).setIfInBounds i true = listedOf m r := by
  unfold listedOf
  apply Array.ext'
  simp only [Array.toList_setIfInBounds]
  apply List.ext_getElem?
  intro j
  rw [List.getElem?_set]
  simp only [List.length_map, List.length_range]
  by_cases hij : i = j
  · subst hij
    by_cases hm : i < m
    · simp [hm, hr]
    · simp [hm]
  · rw [if_neg hij, List.getElem?_map, List.getElem?_map]
    by_cases hj : j < m
    · simp [hj, hij]
    · simp [hj]
theorem ready_nil_all (ops : Array Oper) : Region.ready .any ops (listedOf ops.size []) = [] := by
 unfold Region.ready
 rw [List.filter_eq_nil_iff]
 intro i hi
 have : i < ops.size := by simpa using hi
 rw [getD_listedOf]
 simp [this]
/-- What a load yielded that has been taken first: which one, what was known then, where, what. -/
abbrev Held := List (Nat × Slots × Bool × Value)
def Match (P : Program) (n : Nat) (ops : Array Oper) (w : World) : Held → Pend → Prop
  | [], V' => V' = []
  | (i, σ, g, v) :: V, V' => ∃ (a : Act) (o : Oper) (V'' : Pend), ops[i]? = some o ∧ Fr n σ a ∧ (g = true → (execOp a.eval o).run P w = .ok (.value v) w) ∧
      V' = (i, fun w => g = true → (execOp a.eval o).run P w = .ok (.value v) w) :: V'' ∧ Match P n ops w V V''
/-- What was taken first stays over effect number j; what waits for the effect's end is let go. -/
inductive KeepTo (P : Program) (n : Nat) (ops : Array Oper) (j : Nat) (A : World → Prop) : Held → Held → Prop
 | nil : KeepTo P n ops j A [] []
 | drop {i : Nat} {σ : Slots} {g : Bool} {v : Value} {V V' : Held} (h : dep ops i j = true) (k : KeepTo P n ops j A V V') : KeepTo P n ops j A ((i, σ, g, v) :: V) V'
 | keep {i : Nat} {σ : Slots} {g : Bool} {v : Value} {V V' : Held} {o : Oper} (h : dep ops i j = false) (ho : ops[i]? = some o) (hq : QT P n ops o σ A g v) (k : KeepTo P n ops j A V V') : KeepTo P n ops j A ((i, σ, g, v) :: V) ((i, σ, g, v) :: V')
theorem Match.holds : ∀ {V : Held} {V' : Pend} {w : World}, Match P n ops w V V' → ∀ x ∈ V', x.2 w
 | [], V', _, h => by simp only [Match] at h; subst h; intro x hx; cases hx
 | (i, σ, g, v) :: V, V', w, h => by
  obtain ⟨a, o, V'', _, _, hrun, rfl, hm⟩ := h
  intro x hx
  rcases List.mem_cons.1 hx with rfl | hx
  · exact hrun
  · exact hm.holds x hx
theorem Match.keep {j : Nat} {V V₂ : Held} (hk : KeepTo P n ops j A V V₂) : ∀ {V' : Pend} {w w' : World}, Match P n ops w V V' → A w' →
    (∀ x ∈ V', dep ops x.1 j = false → x.2 w') ∧ Match P n ops w' V₂ (V'.filter fun x => !dep ops x.1 j) := by
  induction hk with
  | nil => intro V' w w' h _; simp only [Match] at h; subst h; exact ⟨fun x hx => (by cases hx), rfl⟩
  | @drop i σ g v V V₂ hd k ih =>
    intro V' w w' h hA
    obtain ⟨a, o, V'', ho, hf, hrun, rfl, hm⟩ := h
    obtain ⟨h1, h2⟩ := ih hm hA
    refine ⟨fun x hx hxd => ?_, ?_⟩
    · rcases List.mem_cons.1 hx with rfl | hx
      · simp [hd] at hxd
      · exact h1 x hx hxd
    · simp only [hd, List.filter_cons, Bool.not_true, Bool.false_eq_true, if_false]
      exact h2
  | @keep i σ g v V V₂ o' hd ho' hq' k ih =>
    intro V' w w' h hA
    obtain ⟨a, o, V'', ho, hf, hrun, rfl, hm⟩ := h
    obtain ⟨h1, h2⟩ := ih hm hA
    obtain rfl : o = o' := Option.some.inj (ho.symm.trans ho')
    have hq := (hq' a w' hf hA).2
    refine ⟨fun x hx hxd => ?_, ?_⟩
    · rcases List.mem_cons.1 hx with rfl | hx
      · exact hq
      · exact h1 x hx hxd
    · simp only [hd, List.filter_cons, Bool.not_false, if_true]
      exact ⟨a, o, _, ho, hf, hq, rfl, h2⟩
def TV (P : Program) (n : Nat) (ops : Array Oper) (Q : Exit → Act → World → Prop) (ord : List (Nat × Nat)) (V : Held) (σ : Slots) (A : World → Prop) : Prop :=
 Region.noSelect ops = true → (∀ c a w, ¬ Q (.panic c) a w) → chk ops ord = true → ∀ a w V', Fr n σ a → A w → Match P n ops w V V' → wpAnyV P ops Q ord.length V' (listedOf ops.size ord) a w
theorem chk_cons1 {i : Nat} {r : List (Nat × Nat)} (h : chk ops ((i, 1) :: r) = true) :
  (r.any fun x => x.1 == i) = false ∧ chk ops r = true ∧ Region.ready .any ops (listedOf ops.size ((i, 1) :: r)) = [i] := by
 have h : (decide (i < ops.size) && !(r.any fun x => x.1 == i) && (Region.ready .any ops (listedOf ops.size ((i, 1) :: r)) == [i]) && chk ops r) = true := h
 simp only [Bool.and_eq_true, decide_eq_true_eq, Bool.not_eq_true', beq_iff_eq] at h
 obtain ⟨⟨⟨_, h1⟩, h2⟩, h3⟩ := h
 exact ⟨h1, h3, h2⟩
theorem chk_cons0 {i : Nat} {r : List (Nat × Nat)} (h : chk ops ((i, 0) :: r) = true) :
  (r.any fun x => x.1 == i) = false ∧ chk ops r = true ∧ i ∈ Region.ready .any ops (listedOf ops.size ((i, 0) :: r)) ∧ Region.free .any ops (listedOf ops.size ((i, 0) :: r)) i = true := by
 have h : (decide (i < ops.size) && !(r.any fun x => x.1 == i) && ((Region.ready .any ops (listedOf ops.size ((i, 0) :: r))).contains i && Region.free .any ops (listedOf ops.size ((i, 0) :: r)) i) && chk ops r) = true := h
 simp only [Bool.and_eq_true, decide_eq_true_eq, Bool.not_eq_true'] at h
 obtain ⟨⟨⟨_, h1⟩, h2⟩, h3⟩ := h
 exact ⟨h1, h3, by simpa using h2.1, h2.2⟩
theorem yieldsIf_of {a : Act} {w : World} (hf : Fr n σ a) (hA : A w) (hq : QT P n ops o σ A g v) :
  YieldsIf P ops (fun w => g = true → (execOp a.eval o).run P w = .ok (.value v) w) o (bif g then v else undef) a := by
 obtain ⟨hw, _⟩ := hq a w hf hA
 cases g with
 | true => exact .inl ⟨hw, fun w h => h rfl⟩
 | false => exact .inr ⟨hw, rfl⟩
theorem TV_nil {V : Held} (k : ∀ a w, Fr n σ a → A w → Q .normal a w) : TV P n ops Q [] V σ A :=
 fun _ _ _ a w _ hf hA _ => ⟨ready_nil_all ops, k a w hf hA⟩
/-- A load (or whatever else hangs on the world), taken first. -/
theorem Qz {i : Nat} {r : List (Nat × Nat)} {V : Held} (ho : ops[i]? = some o) (hd : o.dst = some d) (hn : Nat.ble (d + 1) n = true) (hq : QT P n ops o σ A g v)
    (k : TV P n ops Q r ((i, σ, g, v) :: V) ((d, g, v) :: σ) A) : TV P n ops Q ((i, 0) :: r) V σ A := by
  intro hs hnp hc a w V' hf hA hm
  obtain ⟨hr, hc', hrdy, hfree⟩ := chk_cons0 hc
  have hput : (a.put o.dst (bif g then v else undef)) = a.put (some d) (bif g then v else undef) := by rw [hd]
  refine wpAnyV_first (S := fun w => g = true → (execOp a.eval o).run P w = .ok (.value v) w) ho (Region.noSelect_spec hs) (fun c a w h => absurd h (hnp c _ w)) _ _ _ a w (Region.free_spec ho hfree) hrdy (yieldsIf_of hf hA hq)
    ((hq a w hf hA).2) hm.holds ?_
  rw [listedOf_step hr, hput]
  exact k hs hnp hc' _ w _ (hf.put hn rfl) hA ⟨a, o, V', ho, hf, (hq a w hf hA).2, rfl, hm⟩
/-- An operation that hangs on no world. -/
theorem Qk {i : Nat} {r : List (Nat × Nat)} {V : Held} (ho : ops[i]? = some o) (hd : o.dst = some d) (hn : Nat.ble (d + 1) n = true) (hq : ∀ A, QT P n ops o σ A g v)
    (k : TV P n ops Q r V ((d, g, v) :: σ) A) : TV P n ops Q ((i, 0) :: r) V σ A := by
  intro hs hnp hc a w V' hf hA hm
  obtain ⟨hr, hc', hrdy, hfree⟩ := chk_cons0 hc
  have hput : (a.put o.dst (bif g then v else undef)) = a.put (some d) (bif g then v else undef) := by rw [hd]
  have hall : ∀ w, (fun w => g = true → (execOp a.eval o).run P w = .ok (.value v) w) w := fun w' => (hq (fun _ => True) a w' hf trivial).2
  refine wpAnyV_first (S := fun w => g = true → (execOp a.eval o).run P w = .ok (.value v) w) ho (Region.noSelect_spec hs) (fun c a w h => absurd h (hnp c _ w)) _ _ _ a w (Region.free_spec ho hfree) hrdy (yieldsIf_of hf hA (hq A))
    (hall w) hm.holds ?_
  rw [listedOf_step hr, hput]
  refine wpAnyV_mono _ V' _ _ _ _ (fun x hx => ?_) (k hs hnp hc' _ w V' (hf.put hn rfl) hA hm)
  rcases List.mem_cons.1 hx with rfl | hx
  · exact .inl hall
  · exact .inr ⟨x, hx, rfl, fun _ h => h⟩
theorem TV_e {i : Nat} {r : List (Nat × Nat)} {V : Held} {R : Value → (World → Prop) → Prop} (ho : ops[i]? = some o) (hd : o.dst = some d) (hn : Nat.ble (d + 1) n = true) (hg : gdc ops σ o = some g) (hgt : g = true)
  (he : ET P n o σ A R) (k : ∀ v A', R v A' → ∃ V₂, KeepTo P n ops i A' V V₂ ∧ TV P n ops Q r V₂ ((d, true, v) :: σ) A') : TV P n ops Q ((i, 1) :: r) V σ A := by
 intro hs hnp hc a w V' hf hA hm
 obtain ⟨hr, hc', hrdy⟩ := chk_cons1 hc
 subst hgt
 refine ⟨fun h => (by rw [hrdy] at h; cases h), fun j hj => ?_⟩
 rw [hrdy] at hj
 obtain rfl : j = i := by simpa using hj
 unfold wpOp
 simp only [ho]
 rw [if_pos (wanted_of_gdc hf hg)]
 refine .inl (he a w hf hA _ _ fun v A' w' hR hA' => ?_)
 obtain ⟨V₂, hk, hT⟩ := k v A' hR
 obtain ⟨h1, h2⟩ := hm.keep hk hA'
 rw [hd, listedOf_step hr]
 exact ⟨h1, hT hs hnp hc' _ w' _ (hf.put hn rfl) hA' h2⟩
theorem TV_e0 {i : Nat} {r : List (Nat × Nat)} {V : Held} {R : Value → (World → Prop) → Prop} (ho : ops[i]? = some o) (hd : o.dst = none) (hg : gdc ops σ o = some g) (hgt : g = true)
  (he : ET P n o σ A R) (k : ∀ v A', R v A' → ∃ V₂, KeepTo P n ops i A' V V₂ ∧ TV P n ops Q r V₂ σ A') : TV P n ops Q ((i, 1) :: r) V σ A := by
 intro hs hnp hc a w V' hf hA hm
 obtain ⟨hr, hc', hrdy⟩ := chk_cons1 hc
 subst hgt
 refine ⟨fun h => (by rw [hrdy] at h; cases h), fun j hj => ?_⟩
 rw [hrdy] at hj
 obtain rfl : j = i := by simpa using hj
 unfold wpOp
 simp only [ho]
 rw [if_pos (wanted_of_gdc hf hg)]
 refine .inl (he a w hf hA _ _ fun v A' w' hR hA' => ?_)
 obtain ⟨V₂, hk, hT⟩ := k v A' hR
 obtain ⟨h1, h2⟩ := hm.keep hk hA'
 rw [hd, listedOf_step hr]
 exact ⟨h1, hT hs hnp hc' _ w' _ hf hA' h2⟩
/-- One of two effects, carried out first; then the rest in an order of its own. -/
def TVB (P : Program) (n : Nat) (ops : Array Oper) (Q : Exit → Act → World → Prop) (i : Nat) (ord : List (Nat × Nat)) (V : Held) (σ : Slots) (A : World → Prop) : Prop :=
 Region.noSelect ops = true → (∀ c a w, ¬ Q (.panic c) a w) → chk ops ord = true → ∀ a w V', Fr n σ a → A w → Match P n ops w V V' →
  wpOp P ops Q i (fun a' w' => (∀ x ∈ V', dep ops x.1 i = false → x.2 w') ∧ wpAnyV P ops Q ord.length (V'.filter fun x => !dep ops x.1 i) (listedOf ops.size ord) a' w') a w
theorem TVB_e {i : Nat} {r : List (Nat × Nat)} {V : Held} {R : Value → (World → Prop) → Prop} (ho : ops[i]? = some o) (hd : o.dst = some d) (hn : Nat.ble (d + 1) n = true) (hg : gdc ops σ o = some g) (hgt : g = true)
  (he : ET P n o σ A R) (k : ∀ v A', R v A' → ∃ V₂, KeepTo P n ops i A' V V₂ ∧ TV P n ops Q r V₂ ((d, true, v) :: σ) A') : TVB P n ops Q i r V σ A := by
 intro hs hnp hc a w V' hf hA hm
 subst hgt
 unfold wpOp
 simp only [ho]
 rw [if_pos (wanted_of_gdc hf hg)]
 refine .inl (he a w hf hA _ _ fun v A' w' hR hA' => ?_)
 obtain ⟨V₂, hk, hT⟩ := k v A' hR
 obtain ⟨h1, h2⟩ := hm.keep hk hA'
 rw [hd]
 exact ⟨h1, hT hs hnp hc _ w' _ (hf.put hn rfl) hA' h2⟩
def sameB (x y : Array Bool) : Bool := x.toList == y.toList
/-- Two effects may come up: both ways are walked. -/
theorem TV_two {i j : Nat} {r : List (Nat × Nat)} {V : Held} (r1 r2 : List (Nat × Nat))
    (h : ((Region.ready .any ops (listedOf ops.size ((i, 2) :: r)) == [i, j]) && (chk ops r1 && chk ops r2) && ((r1.length == r.length) && (r2.length == r.length)) &&
      (sameB ((listedOf ops.size ((i, 2) :: r)).setIfInBounds i true) (listedOf ops.size r1) && sameB ((listedOf ops.size ((i, 2) :: r)).setIfInBounds j true) (listedOf ops.size r2))) = true)
    (k1 : TVB P n ops Q i r1 V σ A) (k2 : TVB P n ops Q j r2 V σ A) : TV P n ops Q ((i, 2) :: r) V σ A := by
  intro hs hnp _ a w V' hf hA hm
  simp only [Bool.and_eq_true, beq_iff_eq, sameB] at h
  obtain ⟨⟨⟨hrdy, hc1, hc2⟩, hl1, hl2⟩, hs1, hs2⟩ := h
  refine ⟨fun h => (by rw [hrdy] at h; cases h), fun m hmem => ?_⟩
  rw [hrdy] at hmem
  have hm2 : m = i ∨ m = j := by simpa using hmem
  rcases hm2 with rfl | rfl
  · have := k1 hs hnp hc1 a w V' hf hA hm
    rw [hl1] at this
    rw [Array.ext' hs1]
    exact this
  · have := k2 hs hnp hc2 a w V' hf hA hm
    rw [hl2] at this
    rw [Array.ext' hs2]
    exact this
/-! ### Code -/
def TC (P : Program) (n : Nat) (c : Code) (Q : Exit → Act → World → Prop) (σ : Slots) (A : World → Prop) : Prop := ∀ a w, Fr n σ a → A w → c.wp P Q a w
def TX (n : Nat) (Q : Exit → Act → World → Prop) (e : Exit) (σ : Slots) (A : World → Prop) : Prop := ∀ a w, Fr n σ a → A w → Q e a w
theorem Qf (k : TX n Q .normal σ A) : TL P n ops Q [] σ A := fun a w hf hA => k a w hf hA
def noPanic (Q : Exit → Act → World → Prop) : Exit → Act → World → Prop
 | .panic _, _, _ => False
 | e, a, w => Q e a w
/-- The assertion does not look at the count of draws. -/
def Calm (A : World → Prop) : Prop := ∀ w, A w → A w.drew
theorem TC_draw {id : Nat} {l : List Oper} (ord : List (Nat × Nat)) (hm : P.follows .mixedOrders = true) (h0 : chk0 l.toArray ord = true) (hA : Calm A)
    (k : TV P n l.toArray (noPanic Q) ord [] σ A) : TC P n (.region id l.toArray true) Q σ A := by
  intro a w hf h
  simp only [chk0, Bool.and_eq_true, beq_iff_eq] at h0
  obtain ⟨⟨⟨hs, hlen⟩, hall⟩, hc⟩ := h0
  refine wp_mono (wp_region_any (Q := noPanic Q) hm (wpAny_of_V _ [] _ _ _ ?_)) (fun e a w h => by cases e <;> first | exact h | exact h.elim)
  have hl : Array.replicate l.toArray.size false = listedOf l.toArray.size ord := by
    apply Array.ext'
    simp only [listedOf, Array.toList_replicate]
    apply List.ext_getElem?
    intro j
    rw [List.getElem?_map, List.getElem?_replicate]
    by_cases hj : j < l.toArray.size
    · have := List.all_eq_true.1 hall j (List.mem_range.2 hj)
      rw [if_pos hj, List.getElem?_range hj]
      simp [this]
    · rw [if_neg hj, List.getElem?_eq_none (by simpa using hj)]
      rfl
  have := k hs (fun c a w h => h) hc a w.drew [] hf (hA w h) rfl
  rw [hl, ← hlen]
  rw [← hlen] at this
  exact this
theorem TV_end {V : Held} (k : TX n Q .normal σ A) : TV P n ops (noPanic Q) [] V σ A := TV_nil fun a w hf hA => k a w hf hA
theorem Qg {id : Nat} {l : List Oper} (k : TL P n l.toArray Q l σ A) : TC P n (.region id l.toArray false) Q σ A := fun a w hf hA => wp_region_lit (k a w hf hA)
theorem Qe {x y : Code} (k : TC P n x (Exit.then (y.wp P Q) Q) σ A) : TC P n (.seq x y) Q σ A := fun a w hf hA => wp_seq (k a w hf hA)
theorem Qb {y : Code} {Q' : Exit → Act → World → Prop} (k : TC P n y Q σ A) : TX n (Exit.then (y.wp P Q) Q') .normal σ A := fun a w hf hA => k a w hf hA
theorem Qi {next : Act → World → Prop} {id : Nat} (k : TX n Q (.exit id) σ A) : TX n (Exit.then next Q) (.exit id) σ A := fun a w hf hA => k a w hf hA
theorem Qn {next : Act → World → Prop} (k : TX n Q .ret σ A) : TX n (Exit.then next Q) .ret σ A := fun a w hf hA => k a w hf hA
theorem Qt (k : TX n Q .normal σ A) : TC P n .skip Q σ A := fun a w hf hA => wp_skip (k a w hf hA)
theorem TC_label {l : Nat} (k : TX n Q .normal σ A) : TC P n (.label l) Q σ A := fun a w hf hA => wp_label (k a w hf hA)
theorem Zd {id : Nat} (k : TX n Q (.exit id) σ A) : TC P n (.exit id) Q σ A := fun a w hf hA => wp_exit (k a w hf hA)
theorem TC_goto {l : Nat} (k : TX n Q (.goto l) σ A) : TC P n (.goto l) Q σ A := fun a w hf hA => wp_goto (k a w hf hA)
theorem Qu (k : TX n Q .ret σ A) : TC P n .ret Q σ A := fun a w hf hA => wp_ret (k a w hf hA)
theorem Qr {id : Nat} {c : Code} (k : TC P n c (Exit.inBlock id Q) σ A) : TC P n (.block id c) Q σ A := fun a w hf hA => wp_block (k a w hf hA)
theorem Qp {id : Nat} (k : TX n Q .normal σ A) : TX n (Exit.inBlock id Q) (.exit id) σ A := fun a w hf hA => by
 simp only [Exit.inBlock, if_true]; exact k a w hf hA
theorem TX_block_past {id id' : Nat} (h : Nat.beq id' id = false) (k : TX n Q (.exit id') σ A) : TX n (Exit.inBlock id Q) (.exit id') σ A := fun a w hf hA => by
 have : id' ≠ id := fun e => by subst e; simp at h
 simp only [Exit.inBlock, this, if_false]; exact k a w hf hA
theorem Qo {id : Nat} (k : TX n Q .normal σ A) : TX n (Exit.inBlock id Q) .normal σ A := fun a w hf hA => k a w hf hA
theorem Zc {id : Nat} (k : TX n Q .ret σ A) : TX n (Exit.inBlock id Q) .ret σ A := fun a w hf hA => k a w hf hA
theorem TC_scope {c : Code} (k : TC P n c (Exit.noGoto Q) σ A) : TC P n (.scope c) Q σ A := fun a w hf hA => wp_scope_straight (k a w hf hA)
theorem TX_scope_normal (k : TX n Q .normal σ A) : TX n (Exit.noGoto Q) .normal σ A := fun a w hf hA => k a w hf hA
theorem TX_scope_ret (k : TX n Q .ret σ A) : TX n (Exit.noGoto Q) .ret σ A := fun a w hf hA => k a w hf hA
theorem TC_cond {c : Operand} {x y : Code} {b : Bool} (hc : ev σ c = some (true, .bool b)) (h1 : b = true → TC P n x Q σ A) (h2 : b = false → TC P n y Q σ A) : TC P n (.cond c x y) Q σ A := by
 intro a w hf hA
 cases b with
 | true => exact wp_cond_true (hf.eval hc rfl) (h1 rfl a w hf hA)
 | false => exact wp_cond_false (hf.eval hc rfl) (h2 rfl a w hf hA)
theorem Qm {c : Operand} {x y : Code} {p : Prop} [Decidable p] (hc : ev σ c = some (true, .bool (decide p))) (h1 : p → TC P n x Q σ A) (h2 : ¬p → TC P n y Q σ A) : TC P n (.cond c x y) Q σ A :=
 TC_cond hc (fun h => h1 (of_decide_eq_true h)) (fun h => h2 (of_decide_eq_false h))
theorem TC_weaken {c : Code} {σ' : Slots} {A' : World → Prop} (hs : Sub σ' σ) (hA : ∀ w, A w → A' w) (k : TC P n c Q σ' A') : TC P n c Q σ A :=
 fun a w hf h => k a w (hf.weaken hs.spec) (hA w h)
/-- What follows a piece of code is proved once, from what is known behind it on every way. -/
theorem TC_cut {γ : Type} {x y : Code} (σ' : γ → Slots) (A' : γ → World → Prop) (h1 : TC P n x (Exit.then (fun a w => ∃ t, Fr n (σ' t) a ∧ A' t w) Q) σ A) (h2 : ∀ t, TC P n y Q (σ' t) (A' t)) : TC P n (.seq x y) Q σ A :=
 fun a w hf hA => wp_seq (wp_mono (h1 a w hf hA) fun e a w h => by
  cases e <;> first | exact (let ⟨t, h1, h3⟩ := h; h2 t a w h1 h3) | exact h)
theorem TX_cut {γ : Type} {σ' : γ → Slots} {A' : γ → World → Prop} (t : γ) (hs : Sub (σ' t) σ) (hA : ∀ w, A w → A' t w) : TX n (Exit.then (fun a w => ∃ t, Fr n (σ' t) a ∧ A' t w) Q) .normal σ A :=
 fun _ w hf h => ⟨t, hf.weaken hs.spec, hA w h⟩
/-- What a round must come to: a state of the family, with a smaller number. -/
def Next {γ : Type} (n : Nat) (σ' : γ → Slots) (A' : γ → World → Prop) (μ : γ → Nat) (m : Nat) (a : Act) (w : World) : Prop := ∃ t', μ t' < m ∧ Fr n (σ' t') a ∧ A' t' w
/-- A loop: a family of states, a number that each round lowers. -/
theorem TC_loop {γ : Type} {c : Code} (σ' : γ → Slots) (A' : γ → World → Prop) (μ : γ → Nat) (t0 : γ) (hs : Sub (σ' t0) σ) (hA : ∀ w, A w → A' t0 w)
    (round : ∀ t, TC P n c (Exit.then (Next n σ' A' μ (μ t)) Q) (σ' t) (A' t)) : TC P n (.loop c) Q σ A := by
  intro a w hf h b k cs
  have key : ∀ (m : Nat) (t : γ), μ t = m → ∀ a w, Fr n (σ' t) a → A' t w →
      ∃ e a' w', Q e a' w' ∧ Arrives P (lone (b.at a (.code c :: .inLoop c :: k)) cs w) b k cs e a' w' := by
    intro m
    induction m using Nat.strongRecOn with
    | _ m ih =>
      intro t hm a w hf h
      obtain ⟨e, a₁, w₁, hq, harr⟩ := round t a w hf h b (.inLoop c :: k) cs
      cases e with
      | normal =>
        obtain ⟨t', hlt, hf', h'⟩ := hq
        obtain ⟨e₂, a₂, w₂, hq₂, harr₂⟩ := ih (μ t') (hm ▸ hlt) t' rfl a₁ w₁ hf' h'
        exact ⟨e₂, a₂, w₂, hq₂, .of_steps (Steps.trans harr (.one step_inLoop)) harr₂⟩
      | exit id => exact ⟨_, a₁, w₁, hq, .pass (x := .inLoop c) rfl (fun _ _ => .inl (by simp)) harr⟩
      | goto l => exact ⟨_, a₁, w₁, hq, .pass (x := .inLoop c) rfl (fun _ _ => .inl (by simp)) harr⟩
      | ret => exact ⟨_, a₁, w₁, hq, .pass (x := .inLoop c) rfl (fun _ _ => .inl (by simp)) harr⟩
      | panic ch => exact ⟨_, a₁, w₁, hq, .pass (x := .inLoop c) rfl (fun _ _ => .inl (by simp)) harr⟩
      | outgrown => exact ⟨_, a₁, w₁, hq, .pass (x := .inLoop c) rfl (fun _ _ => .inl (by simp)) harr⟩
  obtain ⟨e, a', w', hq, harr⟩ := key _ t0 rfl a w (hf.weaken hs.spec) (hA w h)
  exact ⟨e, a', w', hq, .of_steps (.one step_loop) harr⟩
theorem TX_round {γ : Type} {σ' : γ → Slots} {A' : γ → World → Prop} {μ : γ → Nat} {m : Nat} (t' : γ) (hμ : μ t' < m) (hs : Sub (σ' t') σ) (hA : ∀ w, A w → A' t' w) :
  TX n (Exit.then (Next n σ' A' μ m) Q) .normal σ A :=
 fun _ w hf h => ⟨t', hμ, hf.weaken hs.spec, hA w h⟩
/-! ### Calls -/
/-- A call returns, with a value and a world that R allows. -/
def CallsT (P : Program) (f : FuncId) (vs : List Value) (A : World → Prop) (R : Value → (World → Prop) → Prop) : Prop :=
 ∀ w, A w → Calls P f vs.toArray w fun e w' => ∃ v A', e = .returned v ∧ R v A' ∧ A' w'
def slotsOf : List Value → Nat → Slots
 | [], _ => []
 | v :: r, k => (k, true, v) :: slotsOf r (k + 1)
theorem look_slotsOf : ∀ (vs : List Value) (k t : Nat) (c : Bool) (v : Value), look (slotsOf vs k) t = some (c, v) → c = true ∧ k ≤ t ∧ vs[t - k]? = some v
 | [], _, _, _, _, h => by simp [slotsOf, look] at h
 | u :: r, k, t, c, v, h => by
  simp only [slotsOf, look] at h
  cases hb : Nat.beq k t with
  | true =>
   have hkt : k = t := Nat.eq_of_beq_eq_true hb
   subst hkt
   simp only [hb, cond_true, Option.some.injEq, Prod.mk.injEq] at h
   exact ⟨h.1.symm, Nat.le_refl _, by simp [h.2]⟩
  | false =>
   simp only [hb, cond_false] at h
   obtain ⟨h1, h2, h3⟩ := look_slotsOf r (k + 1) t c v h
   refine ⟨h1, by omega, ?_⟩
   have : t - k = (t - (k + 1)) + 1 := by omega
   rw [this, List.getElem?_cons_succ]
   exact h3
theorem CallsT.body {f : FuncId} {fn : Func} {c : Code} {vs : List Value} {R : Value → (World → Prop) → Prop} (hf : P.funcs[f]? = some fn) (hb : fn.body = some c) (hn : Nat.ble vs.length fn.ntmps = true)
    (k : TC P fn.ntmps c (bodyPost P fn fun e w' => ∃ v A', e = .returned v ∧ R v A' ∧ A' w') (slotsOf vs 0) A) : CallsT P f vs A R := by
  intro w hA
  refine calls_of_wp hf hb (k _ w ⟨?_, rfl, fun t c v h => ?_⟩ hA)
  · have := Nat.le_of_ble_eq_true hn
    simp; omega
  · obtain ⟨rfl, _, h3⟩ := look_slotsOf vs 0 t c v h
    simp only [Nat.sub_zero] at h3
    have hlt : t < vs.length := (List.getElem?_eq_some_iff.1 h3).1
    simp only [Array.getD_eq_getD_getElem?, cond_true]
    rw [Array.getElem?_append_left (by simpa using hlt)]
    simp [h3]
theorem CallsT.mono {f : FuncId} {vs : List Value} {R R' : Value → (World → Prop) → Prop} (h : CallsT P f vs A R) (hr : ∀ v A', R v A' → ∃ A'', R' v A'' ∧ ∀ w, A' w → A'' w) : CallsT P f vs A R' :=
 fun w hA => (h w hA).mono fun _ w' ⟨v, A', he, hR, hA'⟩ => let ⟨A'', h1, h2⟩ := hr v A' hR; ⟨v, A'', he, h1, h2 w' hA'⟩
/-! ### A function's end -/
theorem Qs {e : Exit} {fn : Func} {R : Value → (World → Prop) → Prop} {v : Value} (hk : e = .ret ∨ e = .normal) (hres : ∀ a w, Fr n σ a → A w → (results fn a.tmps).run P w = .ok v w) (hR : ∃ A', R v A' ∧ ∀ w, A w → A' w) :
  TX n (bodyPost P fn fun e w' => ∃ v A', e = .returned v ∧ R v A' ∧ A' w') e σ A := by
 intro a w hf hA
 obtain ⟨A', h1, h2⟩ := hR
 rcases hk with rfl | rfl <;> exact ⟨hf.defers, v, hres a w hf hA, v, A', rfl, h1, h2 w hA⟩
theorem res1 {fn : Func} {t : Nat} (hr : fn.results = #[.tmp t]) (hv : look σ t = some (true, v)) : ∀ a w, Fr n σ a → A w → (results fn a.tmps).run P w = .ok v w := by
 intro a w hf _
 rw [results_tmp hr, hf.known t true v hv]; rfl
theorem res2 {fn : Func} {t u : Nat} {x : Value} (hr : fn.results = #[.tmp t, .tmp u]) (hv : look σ t = some (true, v)) (hx : look σ u = some (true, x)) : ∀ a w, Fr n σ a → A w → (results fn a.tmps).run P w = .ok (.tuple #[v, x]) w := by
 intro a w hf _
 rw [results_tmp2 hr, hf.known t true v hv, hf.known u true x hx]; rfl
theorem res0 {fn : Func} (hr : fn.results = #[]) : ∀ a w, Fr n σ a → A w → (results fn a.tmps).run P w = .ok (.tuple #[]) w := by
 intro a w _ _
 rw [results_none hr]
end
end Go.Gx
namespace Go.Gx
open Go Go.RowKit
theorem add_mk (b o n : Nat) : (⟨b, o, none⟩ : Addr).add n = ⟨b, o + n, none⟩ := by
 unfold Addr.add; split <;> simp_all
theorem add_addr (a : Addr) (i j : Nat) : (a.add i).add j = a.add (i + j) := by
 unfold Addr.add
 by_cases hi : i = 0 <;> by_cases hj : j = 0 <;> simp [hi, hj, Nat.add_assoc]
abbrev Blk := Nat × TypeId × List Value
abbrev Heap := List Blk
/-- What is kept of a world: all below its size, but for the holes. -/
structure Base where
 w : World
 hole : Nat → Bool
instance : Coe World Base := ⟨fun w => ⟨w, fun _ => false⟩⟩
def Base.cell? (B : Base) (a : Addr) : Option Value := bif B.hole a.block then none else B.w.cell? a
structure BelowB (w0 : Base) (w : World) : Prop where
 os : w.os = w0.w.os
 tape : w.tape = w0.w.tape
 output : w.output = w0.w.output
 size : w0.w.heap.size ≤ w.heap.size
 block : ∀ k, k < w0.w.heap.size → w0.hole k = false → w.heap[k]? = w0.w.heap[k]?
theorem BelowB.drew {w0 : Base} {w : World} (h : BelowB w0 w) : BelowB w0 w.drew := ⟨h.os, h.tape, h.output, h.size, h.block⟩
theorem BelowB.alloc {w0 : Base} {w : World} (h : BelowB w0 w) (hB : w0.w.heap.size ≤ w.heap.size) (o : Obj) : BelowB w0 (w.alloc o) :=
 ⟨h.os, h.tape, h.output, by simp; omega, fun k hk hh => (Below.heap_alloc _ _ _ (by omega)).trans (h.block k hk hh)⟩
theorem BelowB.setCell {w0 : Base} {w : World} (h : BelowB w0 w) {p : Addr} (hp : w0.w.heap.size ≤ p.block ∨ w0.hole p.block = true) (u : Value) : BelowB w0 (w.setCell p u) :=
 ⟨h.os, h.tape, h.output, by have := h.size; simpa [World.setCell] using this, fun k hk hh => (Below.heap_setCell _ _ _ _ (by
  rintro rfl
  rcases hp with hp | hp
  · omega
  · rw [hp] at hh; exact absurd hh (by decide))).trans (h.block k hk hh)⟩
theorem BelowB.cell {w0 : Base} {w : World} (h : BelowB w0 w) {p : Addr} (hp : p.block < w0.w.heap.size) (hh : w0.hole p.block = false) : w.cell? p = w0.w.cell? p := World.cell?_of_block (w := w0.w) (h.block p.block hp hh)
theorem BelowB.plain {W w : World} (h : BelowB W w) : Below W.heap.size W w := ⟨h.os, h.tape, h.output, h.size, fun k hk => h.block k hk rfl⟩
/-- The world: below w0's size it is as w0 was, but for the holes; the blocks of the list are there, whole, apart from each other and from all that w0 keeps. -/
structure St (w0 : Base) (η : Heap) (w : World) : Prop where
 below : BelowB w0 w
 blk : ∀ x ∈ η, w.heap[x.1]? = some (.cells x.2.2.toArray x.2.1 (0, 0))
 own : ∀ x ∈ η, w0.w.heap.size ≤ x.1 ∨ w0.hole x.1 = true
 nodup : (η.map (·.1)).Nodup
theorem St.start (w : World) : St w [] w := ⟨⟨rfl, rfl, rfl, Nat.le_refl _, fun _ _ _ => rfl⟩, fun x h => by simp at h, fun x h => by simp at h, by simp⟩
theorem St.calm (w0 : Base) (η : Heap) : Calm (St w0 η) := fun _ h => ⟨h.below.drew, h.blk, h.own, h.nodup⟩
theorem St.sub {w0 : Base} {η η' : Heap} {w : World} (h : St w0 η w) (hs : η'.Sublist η) : St w0 η' w :=
 ⟨h.below, fun x hx => h.blk x (hs.subset hx), fun x hx => h.own x (hs.subset hx), (hs.map _).nodup h.nodup⟩
theorem St.perm {w0 : Base} {η η' : Heap} {w : World} (h : St w0 η w) (hs : η'.Perm η) : St w0 η' w :=
 ⟨h.below, fun x hx => h.blk x (hs.subset hx), fun x hx => h.own x (hs.subset hx), (hs.map _).nodup_iff.2 h.nodup⟩
theorem St.tail {w0 : Base} {x : Blk} {η : Heap} {w : World} (h : St w0 (x :: η) w) : St w0 η w := h.sub (List.sublist_cons_self ..)
theorem lt_of_heap {w : World} {b : Nat} {o : Obj} (h : w.heap[b]? = some o) : b < w.heap.size := (Array.getElem?_eq_some_iff.1 h).1
theorem St.lt {w0 : Base} {η : Heap} {w : World} (h : St w0 η w) {x : Blk} (hx : x ∈ η) : x.1 < w.heap.size := lt_of_heap (h.blk x hx)
theorem St.alloc {w0 : Base} {η : Heap} {w : World} (h : St w0 η w) (T : TypeId) (cs : Array Value) : St w0 ((w.heap.size, T, cs.toList) :: η) (w.alloc (.cells cs T)) := by
  refine ⟨h.below.alloc h.below.size _, fun x hx => ?_, fun x hx => ?_, ?_⟩
  · rcases List.mem_cons.1 hx with rfl | hx
    · exact heap_alloc_new w _
    · rw [Below.heap_alloc w _ _ (h.lt hx)]; exact h.blk x hx
  · rcases List.mem_cons.1 hx with rfl | hx
    · exact .inl h.below.size
    · exact h.own x hx
  · rw [List.map_cons, List.nodup_cons]
    refine ⟨fun hm => ?_, h.nodup⟩
    obtain ⟨x, hx, he⟩ := List.mem_map.1 hm
    have := h.lt hx
    omega
/-- The blocks are found by their place in the list. -/
def nth : Heap → Nat → Option Blk
 | [], _ => none
 | x :: _, 0 => some x
 | _ :: r, i + 1 => nth r i
def upd : Heap → Nat → List Value → Heap
 | [], _, _ => []
 | x :: r, 0, cs => (x.1, x.2.1, cs) :: r
 | x :: r, i + 1, cs => x :: upd r i cs
def setAt (cs : List Value) (off : Nat) : List Value → List Value
 | [] => cs
 | v :: r => setAt (cs.set off v) (off + 1) r
theorem nth_mem : ∀ {η : Heap} {i : Nat} {x : Blk}, nth η i = some x → x ∈ η
 | [], _, _, h => by simp [nth] at h
 | y :: r, 0, x, h => by simp [nth] at h; subst h; exact List.mem_cons_self ..
 | y :: r, i + 1, x, h => List.mem_cons_of_mem _ (nth_mem (by simpa [nth] using h))
theorem upd_keys : ∀ (η : Heap) (i : Nat) (cs : List Value), (upd η i cs).map (·.1) = η.map (·.1)
 | [], _, _ => rfl
 | x :: r, 0, cs => rfl
 | x :: r, i + 1, cs => by simp [upd, upd_keys r i cs]
theorem upd_mem : ∀ {η : Heap} {i : Nat} {cs : List Value} {x y : Blk}, nth η i = some x → (η.map (·.1)).Nodup → y ∈ upd η i cs → y = (x.1, x.2.1, cs) ∨ (y ∈ η ∧ y.1 ≠ x.1)
  | [], _, _, _, _, h, _, _ => by simp [nth] at h
  | z :: r, 0, cs, x, y, h, hn, hy => by
    simp [nth] at h; subst h
    simp only [upd, List.mem_cons] at hy
    rcases hy with rfl | hy
    · exact .inl rfl
    · refine .inr ⟨List.mem_cons_of_mem _ hy, fun e => ?_⟩
      rw [List.map_cons, List.nodup_cons] at hn
      exact hn.1 (List.mem_map.2 ⟨y, hy, e⟩)
  | z :: r, i + 1, cs, x, y, h, hn, hy => by
    simp only [nth] at h
    simp only [upd, List.mem_cons] at hy
    rw [List.map_cons, List.nodup_cons] at hn
    rcases hy with rfl | hy
    · exact .inr ⟨List.mem_cons_self .., fun e => hn.1 (List.mem_map.2 ⟨x, nth_mem h, e.symm⟩)⟩
    · rcases upd_mem h hn.2 hy with h1 | ⟨h1, h2⟩
      · exact .inl h1
      · exact .inr ⟨List.mem_cons_of_mem _ h1, h2⟩
theorem St.set {w0 : Base} {η : Heap} {w : World} {i b T off : Nat} {cs : List Value} {v : Value} (h : St w0 η w) (hi : nth η i = some (b, T, cs)) :
    St w0 (upd η i (cs.set off v)) (w.setCell ⟨b, off, none⟩ v) := by
  have hb := h.blk _ (nth_mem hi)
  refine ⟨h.below.setCell (h.own _ (nth_mem hi)) v, fun y hy => ?_, fun y hy => ?_, by rw [upd_keys]; exact h.nodup⟩
  · rcases upd_mem hi h.nodup hy with rfl | ⟨hy, hne⟩
    · simp only at hb ⊢
      rw [heap_setCell_same w b off _ T v hb]
      simp
    · rw [Below.heap_setCell _ _ _ _ (by simpa using hne)]; exact h.blk y hy
  · have ho := h.own _ (nth_mem hi)
    rcases upd_mem hi h.nodup hy with rfl | ⟨hy, _⟩
    · exact ho
    · exact h.own y hy
theorem St.cell {w0 : Base} {η : Heap} {w : World} {i b T : Nat} {cs : List Value} (h : St w0 η w) (hi : nth η i = some (b, T, cs)) (k : Nat) : w.cell? ⟨b, k, none⟩ = cs[k]? := by
 rw [cell_of_row w b k _ T (0, 0) (h.blk _ (nth_mem hi))]; simp
theorem St.thaw {w0 : Base} {η : Heap} {w : World} {i b T : Nat} {cs : List Value} (h : St w0 η w) (hi : nth η i = some (b, T, cs)) (k : Nat) : w.frozen? ⟨b, k, none⟩ = false :=
 frozen_of_row w b k _ T (h.blk _ (nth_mem hi))
theorem nth_upd : ∀ {η : Heap} {i : Nat} {x : Blk} {cs : List Value}, nth η i = some x → nth (upd η i cs) i = some (x.1, x.2.1, cs)
 | [], _, _, _, h => by simp [nth] at h
 | y :: r, 0, x, cs, h => by simp [nth] at h; subst h; rfl
 | y :: r, i + 1, x, cs, h => by simp only [nth, upd] at h ⊢; exact nth_upd h
theorem upd_upd : ∀ {η : Heap} {i : Nat} {cs cs' : List Value}, upd (upd η i cs) i cs' = upd η i cs'
 | [], _, _, _ => rfl
 | x :: r, 0, _, _ => rfl
 | x :: r, i + 1, cs, cs' => by simp [upd, upd_upd (η := r)]
theorem upd_same : ∀ {η : Heap} {i b T : Nat} {cs : List Value}, nth η i = some (b, T, cs) → upd η i cs = η
 | [], _, _, _, _, h => by simp [nth] at h
 | x :: r, 0, b, T, cs, h => by simp [nth] at h; subst h; rfl
 | x :: r, i + 1, b, T, cs, h => by simp only [nth] at h; simp [upd, upd_same h]
theorem St.storeCells {P : Program} {w0 : Base} {b T i : Nat} : ∀ (vs : List Value) (η : Heap) (w : World) (off k : Nat) (cs : List Value), St w0 η w → nth η i = some (b, T, cs) → (∀ u ∈ vs, u.oneCell' = true) → off + k + vs.length ≤ cs.length →
    ∃ w', (storeCells ⟨b, off, none⟩ vs k).run P w = .ok () w' ∧ St w0 (upd η i (setAt cs (off + k) vs)) w'
  | [], η, w, off, k, cs, h, hi, _, _ => ⟨w, by simp [Go.storeCells], by simp only [setAt]; rw [upd_same hi]; exact h⟩
  | v :: r, η, w, off, k, cs, h, hi, h1, hl => by
    have hv := h1 v (List.mem_cons_self ..)
    simp only [List.length_cons] at hl
    have hc := h.cell hi (off + k)
    rw [List.getElem?_eq_getElem (by omega)] at hc
    obtain ⟨w', hrun, hst⟩ := St.storeCells (P := P) r _ _ off (k + 1) (cs.set (off + k) v) (h.set (off := off + k) (v := v) hi) (nth_upd hi) (fun u hu => h1 u (List.mem_cons_of_mem _ hu)) (by simp; omega)
    refine ⟨w', ?_, ?_⟩
    · simp only [Go.storeCells, Sem.run_bind, add_mk, run_store P w _ v .plain hv, hc, h.thaw hi, Bool.false_eq_true, if_false, Result.andThen_ok]
      exact hrun
    · rw [upd_upd] at hst
      exact hst
theorem St.loadCells {P : Program} {w0 : Base} {η : Heap} {w : World} {i b T off m : Nat} {cs : List Value} (h : St w0 η w) (hi : nth η i = some (b, T, cs)) (hm : off + m ≤ cs.length) :
  (loadCells ⟨b, off, none⟩ m).run P w = .ok ((cs.drop off).take m).toArray w := by
 have hl : ((cs.drop off).take m).length = m := by simp; omega
 have := run_loadCells_list (P := P) w ⟨b, off, none⟩ ((cs.drop off).take m) (fun j v hv => by
  have hj : j < m := by
   have := (List.getElem?_eq_some_iff.1 hv).1
   omega
  rw [add_mk, h.cell hi]
  rw [List.getElem?_take_of_lt hj, List.getElem?_drop] at hv
  exact hv)
 rwa [hl] at this
/-! ### Facts on types, each closed at a program -/
def Sz (P : Program) (t m : Nat) : Prop := (P.info? t).map (·.size) = some m
def FieldOk (P : Program) (s i off : Nat) : Prop := ∃ fs f m, P.underlying s = some (.struct fs) ∧ fs[i]? = some f ∧ f.offset = off ∧ Sz P f.type (m + 1)
def ZeroOk (P : Program) (t : Nat) (v : Value) : Prop := (P.info? t).bind (·.zero) = some v
def CalleeOk (P : Program) (f : FuncId) : Prop := ∃ fn, P.funcs[f]? = some fn ∧ fn.body.isNone = false ∧ (fn.name == "runtime.NumGoroutine") = false
theorem run_sizeOf {P : Program} {t m : Nat} (h : Sz P t m) (w : World) : (sizeOf t).run P w = .ok m w := by
 unfold Sz at h
 cases hi : P.info? t with
 | none => simp [hi] at h
 | some inf => simp [hi] at h; simp [sizeOf, typeInfo, hi, h]
theorem run_zeroValue {P : Program} {t : Nat} {v : Value} (h : ZeroOk P t v) (w : World) : (zeroValue t).run P w = .ok v w := by
 unfold ZeroOk at h
 cases hi : P.info? t with
 | none => simp [hi] at h
 | some inf => simp [hi] at h; simp [zeroValue, typeInfo, hi, h]
/-! ### Quiet operations -/
section
variable {P : Program} {n : Nat} {ops : Array Oper} {o : Oper} {σ : Slots} {A : World → Prop} {g : Bool} {v : Value} {x y z : Operand} {c c1 c2 c3 : Bool} {t t2 : TypeId} {k : IntKind} {p q : Int}
theorem QT.mk (hg : gdc ops σ o = some g) (h : ∀ a w, Fr n σ a → A w → g = true → (execOp a.eval o).run P w = .ok (.value v) w) : QT P n ops o σ A g v :=
 fun a w hf hA => ⟨wanted_of_gdc hf hg, h a w hf hA⟩
theorem Qc (hg : gdc ops σ o = some g) (hop : o.op = .move x) (hx : ev σ x = some (c, v)) (hc : g = true → c = true := by first | exact fun _ => rfl | exact id | (intro h; first | grind | simp_all)) : QT P n ops o σ A g v :=
 QT.mk hg fun a w hf _ h => by simp [execOp, hop, hf.eval hx (hc h)]
theorem Qd (hg : gdc ops σ o = some g) (hop : o.op = .assign x) (hx : ev σ x = some (c, v)) (hc : g = true → c = true := by first | exact fun _ => rfl | exact id | (intro h; first | grind | simp_all)) : QT P n ops o σ A g v :=
 QT.mk hg fun a w hf _ h => by simp [execOp, hop, hf.eval hx (hc h)]
/-- 'a && b'. -/
theorem QT_and {b b' : Bool} (hg : gdc ops σ o = some g) (hop : o.op = .pick x y (.const (.bool false))) (hx : ev σ x = some (c1, .bool b)) (hy : ev σ y = some (c2, .bool b'))
    (hc : g = true → c1 = true ∧ (b = true → c2 = true) := by first | exact fun _ => ⟨rfl, fun _ => rfl⟩ | exact fun _ => ⟨rfl, id⟩ | (intro h; first | grind | simp_all)) : QT P n ops o σ A g (.bool (b && b')) :=
  QT.mk hg fun a w hf _ h => by
    obtain ⟨h1, h2⟩ := hc h
    cases b with
    | true => simp [execOp, hop, hf.eval hx h1, hf.eval hy (h2 rfl), asBool]
    | false =>
      have e : a.eval (.const (.bool false)) = .bool false := rfl
      simp [execOp, hop, hf.eval hx h1, asBool, e]
/-- 'a || b'. -/
theorem QT_or {b b' : Bool} (hg : gdc ops σ o = some g) (hop : o.op = .pick x (.const (.bool true)) y) (hx : ev σ x = some (c1, .bool b)) (hy : ev σ y = some (c2, .bool b'))
    (hc : g = true → c1 = true ∧ (b = false → c2 = true) := by first | exact fun _ => ⟨rfl, fun _ => rfl⟩ | (intro h; first | grind | simp_all)) : QT P n ops o σ A g (.bool (b || b')) :=
  QT.mk hg fun a w hf _ h => by
    obtain ⟨h1, h2⟩ := hc h
    cases b with
    | true =>
      have e : a.eval (.const (.bool true)) = .bool true := rfl
      simp [execOp, hop, hf.eval hx h1, asBool, e]
    | false => simp [execOp, hop, hf.eval hx h1, hf.eval hy (h2 rfl), asBool]
/-! #### int's arithmetic: what fits stays bare -/
abbrev I64 (z : Int) : Prop := -9223372036854775808 ≤ z ∧ z ≤ 9223372036854775807
theorem wrap_i64 {z : Int} (h : I64 z) : IntKind.i64.wrap z = z := by
 obtain ⟨h1, h2⟩ := h
 exact IntWalk.i64_in z ⟨by omega, by omega⟩
theorem Zb (hg : gdc ops σ o = some g) (hop : o.op = .binOp .add t x y t2) (hx : ev σ x = some (c1, .int .i64 p)) (hy : ev σ y = some (c2, .int .i64 q)) (hr : g = true → I64 (p + q))
  (hc : g = true → c1 = true ∧ c2 = true := by first | exact fun _ => ⟨rfl, rfl⟩ | (intro h; first | grind | simp_all)) : QT P n ops o σ A g (.int .i64 (p + q)) :=
 QT.mk hg fun a w hf _ h => by simp [execOp, hop, hf.eval hx (hc h).1, hf.eval hy (hc h).2, eqGuard, binOp, Op.intArith, wrap_i64 (hr h)]
theorem QT_sub (hg : gdc ops σ o = some g) (hop : o.op = .binOp .sub t x y t2) (hx : ev σ x = some (c1, .int .i64 p)) (hy : ev σ y = some (c2, .int .i64 q)) (hr : g = true → I64 (p - q))
  (hc : g = true → c1 = true ∧ c2 = true := by first | exact fun _ => ⟨rfl, rfl⟩ | (intro h; first | grind | simp_all)) : QT P n ops o σ A g (.int .i64 (p - q)) :=
 QT.mk hg fun a w hf _ h => by simp [execOp, hop, hf.eval hx (hc h).1, hf.eval hy (hc h).2, eqGuard, binOp, Op.intArith, wrap_i64 (hr h)]
theorem QT_mul (hg : gdc ops σ o = some g) (hop : o.op = .binOp .mul t x y t2) (hx : ev σ x = some (c1, .int .i64 p)) (hy : ev σ y = some (c2, .int .i64 q)) (hr : g = true → I64 (p * q))
  (hc : g = true → c1 = true ∧ c2 = true := by first | exact fun _ => ⟨rfl, rfl⟩ | (intro h; first | grind | simp_all)) : QT P n ops o σ A g (.int .i64 (p * q)) :=
 QT.mk hg fun a w hf _ h => by simp [execOp, hop, hf.eval hx (hc h).1, hf.eval hy (hc h).2, eqGuard, binOp, Op.intArith, wrap_i64 (hr h)]
/-! #### arithmetic that wraps -/
theorem QT_subw (hg : gdc ops σ o = some g) (hop : o.op = .binOp .sub t x y t2) (hx : ev σ x = some (c1, .int k p)) (hy : ev σ y = some (c2, .int k q))
  (hc : g = true → c1 = true ∧ c2 = true := by first | exact fun _ => ⟨rfl, rfl⟩ | (intro h; first | grind | simp_all)) : QT P n ops o σ A g (.int k (k.wrap (p - q))) :=
 QT.mk hg fun a w hf _ h => by simp [execOp, hop, hf.eval hx (hc h).1, hf.eval hy (hc h).2, eqGuard, binOp, Op.intArith]
/-! #### '/' and '%' at int, of what is not negative, by what is above nought -/
theorem QT_quo (hg : gdc ops σ o = some g) (hop : o.op = .binOp .quo t x y t2) (hx : ev σ x = some (c1, .int .i64 p)) (hy : ev σ y = some (c2, .int .i64 q)) (hr : g = true → 0 ≤ p ∧ p ≤ 9223372036854775807 ∧ 0 < q)
  (hc : g = true → c1 = true ∧ c2 = true := by first | exact fun _ => ⟨rfl, rfl⟩ | (intro h; first | grind | simp_all)) : QT P n ops o σ A g (.int .i64 (p / q)) :=
 QT.mk hg fun a w hf _ h => by
  obtain ⟨h0, h2, h1⟩ := hr h
  have hq : q ≠ 0 := by omega
  have hd : p.tdiv q = p / q := Int.tdiv_eq_ediv_of_nonneg h0
  have hi : I64 (p / q) := by
   have a1 : 0 ≤ p / q := Int.ediv_nonneg h0 (by omega)
   have a2 : p / q ≤ p := Int.ediv_le_self _ h0
   exact ⟨by omega, by omega⟩
  simp [execOp, hop, hf.eval hx (hc h).1, hf.eval hy (hc h).2, eqGuard, binOp, Op.intDiv, hq, hd, wrap_i64 hi]
theorem QT_rem (hg : gdc ops σ o = some g) (hop : o.op = .binOp .rem t x y t2) (hx : ev σ x = some (c1, .int k p)) (hy : ev σ y = some (c2, .int k q)) (hr : g = true → 0 ≤ p ∧ 0 < q)
  (hc : g = true → c1 = true ∧ c2 = true := by first | exact fun _ => ⟨rfl, rfl⟩ | (intro h; first | grind | simp_all)) : QT P n ops o σ A g (.int k (p % q)) :=
 QT.mk hg fun a w hf _ h => by
  obtain ⟨h0, h1⟩ := hr h
  have hq : q ≠ 0 := by omega
  have hd : p.tmod q = p % q := Int.tmod_eq_emod_of_nonneg h0
  simp [execOp, hop, hf.eval hx (hc h).1, hf.eval hy (hc h).2, eqGuard, binOp, Op.intDiv, hq, hd]
/-! #### comparisons of integers -/
theorem QT_lss (hg : gdc ops σ o = some g) (hop : o.op = .binOp .lss t x y t2) (hx : ev σ x = some (c1, .int k p)) (hy : ev σ y = some (c2, .int k q))
  (hc : g = true → c1 = true ∧ c2 = true := by first | exact fun _ => ⟨rfl, rfl⟩ | (intro h; first | grind | simp_all)) : QT P n ops o σ A g (.bool (decide (p < q))) :=
 QT.mk hg fun a w hf _ h => by simp [execOp, hop, hf.eval hx (hc h).1, hf.eval hy (hc h).2, eqGuard, binOp, Op.intCmp]
theorem QT_leq (hg : gdc ops σ o = some g) (hop : o.op = .binOp .leq t x y t2) (hx : ev σ x = some (c1, .int k p)) (hy : ev σ y = some (c2, .int k q))
  (hc : g = true → c1 = true ∧ c2 = true := by first | exact fun _ => ⟨rfl, rfl⟩ | (intro h; first | grind | simp_all)) : QT P n ops o σ A g (.bool (decide (p ≤ q))) :=
 QT.mk hg fun a w hf _ h => by simp [execOp, hop, hf.eval hx (hc h).1, hf.eval hy (hc h).2, eqGuard, binOp, Op.intCmp]
theorem QT_gtr (hg : gdc ops σ o = some g) (hop : o.op = .binOp .gtr t x y t2) (hx : ev σ x = some (c1, .int k p)) (hy : ev σ y = some (c2, .int k q))
  (hc : g = true → c1 = true ∧ c2 = true := by first | exact fun _ => ⟨rfl, rfl⟩ | (intro h; first | grind | simp_all)) : QT P n ops o σ A g (.bool (decide (q < p))) :=
 QT.mk hg fun a w hf _ h => by simp [execOp, hop, hf.eval hx (hc h).1, hf.eval hy (hc h).2, eqGuard, binOp, Op.intCmp]
theorem QT_geq (hg : gdc ops σ o = some g) (hop : o.op = .binOp .geq t x y t2) (hx : ev σ x = some (c1, .int k p)) (hy : ev σ y = some (c2, .int k q))
  (hc : g = true → c1 = true ∧ c2 = true := by first | exact fun _ => ⟨rfl, rfl⟩ | (intro h; first | grind | simp_all)) : QT P n ops o σ A g (.bool (decide (q ≤ p))) :=
 QT.mk hg fun a w hf _ h => by simp [execOp, hop, hf.eval hx (hc h).1, hf.eval hy (hc h).2, eqGuard, binOp, Op.intCmp]
theorem QT_eql (hg : gdc ops σ o = some g) (hop : o.op = .binOp .eql t x y t2) (hx : ev σ x = some (c1, .int k p)) (hy : ev σ y = some (c2, .int k q))
  (hc : g = true → c1 = true ∧ c2 = true := by first | exact fun _ => ⟨rfl, rfl⟩ | (intro h; first | grind | simp_all)) : QT P n ops o σ A g (.bool (decide (p = q))) :=
 QT.mk hg fun a w hf _ h => by simp [execOp, hop, hf.eval hx (hc h).1, hf.eval hy (hc h).2, eqGuard, binOp, Op.intCmp]; rfl
theorem QT_neq (hg : gdc ops σ o = some g) (hop : o.op = .binOp .neq t x y t2) (hx : ev σ x = some (c1, .int k p)) (hy : ev σ y = some (c2, .int k q))
  (hc : g = true → c1 = true ∧ c2 = true := by first | exact fun _ => ⟨rfl, rfl⟩ | (intro h; first | grind | simp_all)) : QT P n ops o σ A g (.bool (decide (p ≠ q))) :=
 QT.mk hg fun a w hf _ h => by
  simp [execOp, hop, hf.eval hx (hc h).1, hf.eval hy (hc h).2, eqGuard, binOp, Op.intCmp]
  rw [Bool.eq_iff_iff]; simp
theorem QT_neg (hg : gdc ops σ o = some g) (hop : o.op = .unOp .neg t x) (hx : ev σ x = some (c, .int .i64 p)) (hr : g = true → I64 (0 - p)) (hc : g = true → c = true := by first | exact fun _ => rfl | exact id | (intro h; first | grind | simp_all)) : QT P n ops o σ A g (.int .i64 (0 - p)) :=
 QT.mk hg fun a w hf _ h => by
  have := wrap_i64 (hr h)
  simp [execOp, hop, hf.eval hx (hc h), Op.unary, Op.intArith] at this ⊢
  exact this
theorem QT_not {b : Bool} (hg : gdc ops σ o = some g) (hop : o.op = .unOp .not t x) (hx : ev σ x = some (c, .bool b)) (hc : g = true → c = true := by first | exact fun _ => rfl | exact id | (intro h; first | grind | simp_all)) : QT P n ops o σ A g (.bool (!b)) :=
 QT.mk hg fun a w hf _ h => by simp [execOp, hop, hf.eval hx (hc h), Op.unary]
/-! #### shifts, bits, conversions -/
theorem QT_shl (hg : gdc ops σ o = some g) (hop : o.op = .binOp .shl t x y t2) {k2 : IntKind} (hx : ev σ x = some (c1, .int k p)) (hy : ev σ y = some (c2, .int k2 q)) (hr : g = true → 0 ≤ q)
  (hc : g = true → c1 = true ∧ c2 = true := by first | exact fun _ => ⟨rfl, rfl⟩ | (intro h; first | grind | simp_all)) : QT P n ops o σ A g (.int k (k.wrap (p * 2 ^ (min q.toNat k.bits)))) :=
 QT.mk hg fun a w hf _ h => by
  have : ¬ q < 0 := by have := hr h; omega
  simp [execOp, hop, hf.eval hx (hc h).1, hf.eval hy (hc h).2, eqGuard, binOp, Op.shift, this]
theorem QT_shr (hg : gdc ops σ o = some g) (hop : o.op = .binOp .shr t x y t2) {k2 : IntKind} (hx : ev σ x = some (c1, .int k p)) (hy : ev σ y = some (c2, .int k2 q)) (hr : g = true → 0 ≤ q)
  (hc : g = true → c1 = true ∧ c2 = true := by first | exact fun _ => ⟨rfl, rfl⟩ | (intro h; first | grind | simp_all)) : QT P n ops o σ A g (.int k (p.fdiv (2 ^ (min q.toNat k.bits)))) :=
 QT.mk hg fun a w hf _ h => by
  have : ¬ q < 0 := by have := hr h; omega
  simp [execOp, hop, hf.eval hx (hc h).1, hf.eval hy (hc h).2, eqGuard, binOp, Op.shift, this]
def bitsOf (op : BinOp) (k : IntKind) (p q : Int) : Int :=
 match op with
 | .and => k.wrap (BitVec.ofInt k.bits p &&& BitVec.ofInt k.bits q).toNat
 | .or => k.wrap (BitVec.ofInt k.bits p ||| BitVec.ofInt k.bits q).toNat
 | .xor => k.wrap (BitVec.ofInt k.bits p ^^^ BitVec.ofInt k.bits q).toNat
 | .andNot => k.wrap (BitVec.ofInt k.bits p &&& ~~~ BitVec.ofInt k.bits q).toNat
 | _ => 0
theorem QT_bits {op : BinOp} (hg : gdc ops σ o = some g) (hop : o.op = .binOp op t x y t2) (hb : op = .and ∨ op = .or ∨ op = .xor ∨ op = .andNot) (hx : ev σ x = some (c1, .int k p)) (hy : ev σ y = some (c2, .int k q))
  (hc : g = true → c1 = true ∧ c2 = true := by first | exact fun _ => ⟨rfl, rfl⟩ | (intro h; first | grind | simp_all)) : QT P n ops o σ A g (.int k (bitsOf op k p q)) :=
 QT.mk hg fun a w hf _ h => by
  rcases hb with rfl | rfl | rfl | rfl <;> simp [execOp, hop, hf.eval hx (hc h).1, hf.eval hy (hc h).2, eqGuard, binOp, Op.intBits, bitsOf]
theorem QT_conv {src dst : TypeId} {k' : IntKind} {ds : TypeDesc} (hg : gdc ops σ o = some g) (hop : o.op = .convert src dst x) (hsrc : P.underlying src = some ds) (hdst : P.underlying dst = some (.int k')) (hx : ev σ x = some (c, .int k p))
  (hc : g = true → c = true := by first | exact fun _ => rfl | exact id | (intro h; first | grind | simp_all)) : QT P n ops o σ A g (.int k' (k'.wrap p)) :=
 QT.mk hg fun a w hf _ h => by simp [execOp, hop, hf.eval hx (hc h), convert, run_underlying hsrc, run_underlying hdst, Conv.intToInt]
/-! #### tuples, structs by value -/
theorem Qx {vs : Array Value} {i : Nat} (hg : gdc ops σ o = some g) (hop : o.op = .extract x i) (hx : ev σ x = some (c, .tuple vs)) (hi : vs[i]? = some v)
  (hc : g = true → c = true := by first | exact fun _ => rfl | exact id | (intro h; first | grind | simp_all)) : QT P n ops o σ A g v :=
 QT.mk hg fun a w hf _ h => by simp [execOp, hop, hf.eval hx (hc h), Instr.extract, hi]
/-! #### addresses -/
theorem Qh {s i fo : Nat} {b off : Nat} (hg : gdc ops σ o = some g) (hop : o.op = .fieldAddr s x i) (hfo : FieldOk P s i fo) (hx : ev σ x = some (c, .pointer (some ⟨b, off, none⟩)))
  (hc : g = true → c = true := by first | exact fun _ => rfl | exact id | (intro h; first | grind | simp_all)) : QT P n ops o σ A g (.pointer (some ⟨b, off + fo, none⟩)) :=
 QT.mk hg fun a w hf _ h => by
  obtain ⟨fs, f, m, hu, hfi, rfl, hm⟩ := hfo
  simp [execOp, hop, hf.eval hx (hc h), Instr.fieldAt, run_underlying hu, hfi, Instr.sureAddr, fieldPlace, run_sizeOf hm, add_mk]
theorem Qq {e m b off len cap : Nat} (j : Nat) (hg : gdc ops σ o = some g) (hop : o.op = .indexAddr t x y) (hu : P.underlying t = some (.slice e)) (hm : Sz P e m)
  (hx : ev σ x = some (c1, .slice (some ⟨b, off, none⟩) len cap)) (hy : ev σ y = some (c2, .int k p)) (hp : p = (j : Int)) (hj : g = true → j < len)
  (hc : g = true → c1 = true ∧ c2 = true := by first | exact fun _ => ⟨rfl, rfl⟩ | (intro h; first | grind | simp_all)) : QT P n ops o σ A g (.pointer (some ⟨b, off + j * m, none⟩)) :=
 QT.mk hg fun a w hf _ h => by
  subst hp
  have hj' := hj h
  simp [execOp, hop, hf.eval hx (hc h).1, hf.eval hy (hc h).2, Instr.indexAt, asIntOf, run_underlying hu, hj', run_sizeOf hm, add_mk]
theorem QT_indexArr {e m b off len : Nat} (j : Nat) (hg : gdc ops σ o = some g) (hop : o.op = .indexAddr t x y) (hu : P.underlying t = some (.array len e)) (hm : Sz P e m)
  (hx : ev σ x = some (c1, .pointer (some ⟨b, off, none⟩))) (hy : ev σ y = some (c2, .int k p)) (hp : p = (j : Int)) (hj : g = true → j < len)
  (hc : g = true → c1 = true ∧ c2 = true := by first | exact fun _ => ⟨rfl, rfl⟩ | (intro h; first | grind | simp_all)) : QT P n ops o σ A g (.pointer (some ⟨b, off + j * m, none⟩)) :=
 QT.mk hg fun a w hf _ h => by
  subst hp
  have hj' := hj h
  simp [execOp, hop, hf.eval hx (hc h).1, hf.eval hy (hc h).2, Instr.indexAt, asIntOf, run_underlying hu, hj', run_sizeOf hm, add_mk, Instr.sureAddr]
theorem Qv {ad : Addr} (hg : gdc ops σ o = some g) (hop : o.op = .nilCheck x) (hx : ev σ x = some (c, .pointer (some ad)))
  (hc : g = true → c = true := by first | exact fun _ => rfl | exact id | (intro h; first | grind | simp_all)) : QT P n ops o σ A g (.pointer (some ad)) :=
 QT.mk hg fun a w hf _ h => by simp [execOp, hop, hf.eval hx (hc h)]
theorem Za {e len cap : Nat} {ad : Option Addr} (hg : gdc ops σ o = some g) (hop : o.op = .call { callee := .builtin .len, args := #[x], argTypes := #[t] }) (hu : P.underlying t = some (.slice e)) (hx : ev σ x = some (c, .slice ad len cap))
  (hc : g = true → c = true := by first | exact fun _ => rfl | exact id | (intro h; first | grind | simp_all)) : QT P n ops o σ A g (.int .i64 (len : Int)) :=
 QT.mk hg fun a w hf _ h => by simp [execOp, hop, hf.eval hx (hc h), resolve, invoke, builtin, Builtin.len_, run_underlying hu, goInt]
theorem QT_cap {e len cap : Nat} {ad : Option Addr} (hg : gdc ops σ o = some g) (hop : o.op = .call { callee := .builtin .cap, args := #[x], argTypes := #[t] }) (hu : P.underlying t = some (.slice e)) (hx : ev σ x = some (c, .slice ad len cap))
  (hc : g = true → c = true := by first | exact fun _ => rfl | exact id | (intro h; first | grind | simp_all)) : QT P n ops o σ A g (.int .i64 (cap : Int)) :=
 QT.mk hg fun a w hf _ h => by simp [execOp, hop, hf.eval hx (hc h), resolve, invoke, builtin, Builtin.cap_, run_underlying hu, goInt]
/-! #### loads -/
def isAggD : TypeDesc → Bool
 | .struct _ | .array _ _ => true
 | _ => false
theorem run_isAgg {w : World} {d : TypeDesc} (hu : P.underlying t = some d) : (isAgg t).run P w = .ok (isAggD d) w := by
 unfold isAgg
 rw [Sem.run_bind, run_underlying hu w]
 cases d <;> rfl
/-- A cell of a block of one's own. -/
theorem Qj {w0 : Base} {η : Heap} {b off T : Nat} {cs : List Value} {d : TypeDesc} (i : Nat) (hg : gdc ops σ o = some g) (hop : o.op = .load t x) (hu : P.underlying t = some d) (hd : isAggD d = false)
    (hx : ev σ x = some (c, .pointer (some ⟨b, off, none⟩))) (hi : nth η i = some (b, T, cs)) (hv : g = true → cs[off]? = some v)
    (hc : g = true → c = true := by first | exact fun _ => rfl | exact id | (intro h; first | grind | simp_all)) : QT P n ops o σ (St w0 η) g v :=
  QT.mk hg fun a w hf hA h => by
    simp [execOp, hop, hf.eval hx (hc h), Instr.loadAt, Instr.sureAddr, loadVar, run_isAgg hu, hd, hA.cell hi, hv h]
/-- A struct or an array in a block of one's own. -/
theorem QT_loadA {w0 : Base} {η : Heap} {b off T m : Nat} {cs : List Value} {d : TypeDesc} (i : Nat) (hg : gdc ops σ o = some g) (hop : o.op = .load t x) (hu : P.underlying t = some d) (hd : isAggD d = true)
    (hx : ev σ x = some (c, .pointer (some ⟨b, off, none⟩))) (hi : nth η i = some (b, T, cs)) (hm : Sz P t m) (hv : g = true → Nat.ble (off + m) cs.length = true)
    (hc : g = true → c = true := by first | exact fun _ => rfl | exact id | (intro h; first | grind | simp_all)) : QT P n ops o σ (St w0 η) g (.agg ((cs.drop off).take m).toArray) :=
  QT.mk hg fun a w hf hA h => by
    simp [execOp, hop, hf.eval hx (hc h), Instr.loadAt, Instr.sureAddr, loadVar, run_isAgg hu, hd, run_sizeOf hm, hA.loadCells hi (Nat.le_of_ble_eq_true (hv h))]
/-- The whole of it. -/
theorem Ql {w0 : Base} {η : Heap} {b T : Nat} {cs : List Value} {d : TypeDesc} (i : Nat) (hg : gdc ops σ o = some g) (hop : o.op = .load t x) (hu : P.underlying t = some d) (hd : isAggD d = true)
    (hx : ev σ x = some (c, .pointer (some ⟨b, 0, none⟩))) (hi : nth η i = some (b, T, cs)) (hm : Sz P t cs.length)
    (hc : g = true → c = true := by first | exact fun _ => rfl | exact id | (intro h; first | grind | simp_all)) : QT P n ops o σ (St w0 η) g (.agg cs.toArray) :=
  QT.mk hg fun a w hf hA h => by
    have h1 := hA.loadCells (P := P) (off := 0) (m := cs.length) hi (by omega)
    simp only [List.drop_zero, List.take_length] at h1
    simp [execOp, hop, hf.eval hx (hc h), Instr.loadAt, Instr.sureAddr, loadVar, run_isAgg hu, hd, run_sizeOf hm, h1]
/-- Memory that is only read: under A the cells from an address on. -/
def Rd (A : World → Prop) (b off : Nat) (cs : List Value) : Prop := ∀ w, A w → ∀ j v, cs[j]? = some v → w.cell? ⟨b, off + j, none⟩ = some v
theorem Rd.start {w0 : Base} {η : Heap} {b off : Nat} {cs : List Value} (h : ∀ j v, cs[j]? = some v → w0.cell? ⟨b, off + j, none⟩ = some v) : Rd (St w0 η) b off cs := by
 intro w hw j v hv
 have h1 := h j v hv
 unfold Base.cell? at h1
 cases hh : w0.hole b with
 | true => simp [hh] at h1
 | false =>
  simp only [hh, cond_false] at h1
  have hlt : b < w0.w.heap.size := block_lt_of_cell (a := ⟨b, off + j, none⟩) h1
  rw [hw.below.cell (p := ⟨b, off + j, none⟩) hlt hh]
  exact h1
theorem QT_loadR {b off j : Nat} {cs : List Value} {d : TypeDesc} (hg : gdc ops σ o = some g) (hop : o.op = .load t x) (hu : P.underlying t = some d) (hd : isAggD d = false)
  (hr : Rd A b off cs) (hx : ev σ x = some (c, .pointer (some ⟨b, off + j, none⟩))) (hv : g = true → cs[j]? = some v)
  (hc : g = true → c = true := by first | exact fun _ => rfl | exact id | (intro h; first | grind | simp_all)) : QT P n ops o σ A g v :=
 QT.mk hg fun a w hf hA h => by
  simp [execOp, hop, hf.eval hx (hc h), Instr.loadAt, Instr.sureAddr, loadVar, run_isAgg hu, hd, hr w hA j v (hv h)]
theorem QT_loadRA {b off j m : Nat} {cs : List Value} {d : TypeDesc} (hg : gdc ops σ o = some g) (hop : o.op = .load t x) (hu : P.underlying t = some d) (hd : isAggD d = true) (hm : Sz P t m)
  (hr : Rd A b off cs) (hx : ev σ x = some (c, .pointer (some ⟨b, off + j, none⟩))) (hv : g = true → j + m ≤ cs.length)
  (hc : g = true → c = true := by first | exact fun _ => rfl | exact id | (intro h; first | grind | simp_all)) : QT P n ops o σ A g (.agg ((cs.drop j).take m).toArray) :=
 QT.mk hg fun a w hf hA h => by
  have hl : ((cs.drop j).take m).length = m := by have := hv h; simp; omega
  have h1 := run_loadCells_list (P := P) w ⟨b, off + j, none⟩ ((cs.drop j).take m) (fun i v hv' => by
   have hi : i < m := by
    have := (List.getElem?_eq_some_iff.1 hv').1
    omega
   rw [add_mk, Nat.add_assoc]
   rw [List.getElem?_take_of_lt hi, List.getElem?_drop] at hv'
   exact hr w hA _ _ hv')
  rw [hl] at h1
  simp [execOp, hop, hf.eval hx (hc h), Instr.loadAt, Instr.sureAddr, loadVar, run_isAgg hu, hd, run_sizeOf hm, h1]
/-! ### Effects -/
theorem ET_box {w0 : Base} {η : Heap} (hop : o.op = .box t x) (hx : ev σ x = some (true, v)) : ET P n o σ (St w0 η) fun r A' => ∃ b, r = .pointer (some ⟨b, 0, none⟩) ∧ A' = St w0 ((b, t, v.cells.toList) :: η) := by
 intro a w hf hA K Q hK
 unfold Oper.wp
 have : (execOp a.eval o).run P w = .ok (.value (.pointer (some ⟨w.heap.size, 0, none⟩))) (w.alloc (.cells v.cells t)) := by
  simp [execOp, hop, hf.eval hx rfl, Instr.box, newVar, newRow]
 rw [this, Oper.upon_value]
 exact hK _ _ _ ⟨_, rfl, rfl⟩ (hA.alloc t v.cells)
theorem ET_alloc {w0 : Base} {η : Heap} {zv : Value} (hop : o.op = .alloc t) (hz : ZeroOk P t zv) : ET P n o σ (St w0 η) fun r A' => ∃ b, r = .pointer (some ⟨b, 0, none⟩) ∧ A' = St w0 ((b, t, zv.cells.toList) :: η) := by
 intro a w hf hA K Q hK
 unfold Oper.wp
 have : (execOp a.eval o).run P w = .ok (.value (.pointer (some ⟨w.heap.size, 0, none⟩))) (w.alloc (.cells zv.cells t)) := by
  simp [execOp, hop, Instr.alloc, run_zeroValue hz, newVar, newRow]
 rw [this, Oper.upon_value]
 exact hK _ _ _ ⟨_, rfl, rfl⟩ (hA.alloc t zv.cells)
theorem ET_store {w0 : Base} {η : Heap} {b off T : Nat} {cs vs : List Value} (i : Nat) (hop : o.op = .store t x y) (hx : ev σ x = some (true, .pointer (some ⟨b, off, none⟩))) (hy : ev σ y = some (true, v)) (hvs : v.cells.toList = vs)
  (hm : Sz P t vs.length) (hi : nth η i = some (b, T, cs)) (h1 : vs.all Value.oneCell' = true) (hl : Nat.ble (off + vs.length) cs.length = true) :
  ET P n o σ (St w0 η) fun r A' => r = undef ∧ A' = St w0 (upd η i (setAt cs off vs)) := by
 intro a w hf hA K Q hK
 subst hvs
 have hl := Nat.le_of_ble_eq_true hl
 unfold Oper.wp
 obtain ⟨w', hrun, hst⟩ := St.storeCells (P := P) v.cells.toList η w off 0 cs hA hi (List.all_eq_true.1 h1) (by simpa using hl)
 have : (execOp a.eval o).run P w = .ok .skip w' := by
  simp [execOp, hop, hf.eval hx rfl, hf.eval hy rfl, Instr.storeAt, Instr.sureAddr, storeVar, run_sizeOf hm, hrun]
 rw [this, Oper.upon_skip]
 exact hK _ _ _ ⟨rfl, rfl⟩ hst
def evs (σ : Slots) : List Operand → Option (List (Bool × Value))
 | [] => some []
 | x :: r => match ev σ x, evs σ r with
  | some p, some ps => some (p :: ps)
  | _, _ => none
theorem evs_map : ∀ {l : List Operand} {cvs : List (Bool × Value)}, evs σ l = some cvs → l.map (ev σ) = cvs.map some
 | [], cvs, h => by simp [evs] at h; subst h; rfl
 | x :: r, cvs, h => by
  simp only [evs] at h
  cases hx : ev σ x with
  | none => simp [hx] at h
  | some p =>
   cases hr : evs σ r with
   | none => simp [hx, hr] at h
   | some ps =>
    simp [hx, hr] at h
    subst h
    simp [hx, evs_map hr]
theorem run_call {f : FuncId} {xs : Array Operand} {ts : Array TypeId} {cvs : List (Bool × Value)} {a : Act} (hop : o.op = .call { callee := .value (.func f), args := xs, argTypes := ts })
  (hcal : CalleeOk P f) (hvs : evs σ xs.toList = some cvs) (hc : cvs.all (·.1) = true) (hf : Fr n σ a) (w : World) : (execOp a.eval o).run P w = .ok (.enter f (cvs.map (·.2)).toArray) w := by
 obtain ⟨fn, hf', hb, hnm⟩ := hcal
 have hargs : xs.map a.eval = (cvs.map (·.2)).toArray := by
  apply Array.ext'
  rw [Array.toList_map]
  have : ∀ (l : List Operand) (vs : List (Bool × Value)), l.map (ev σ) = vs.map some → vs.all (·.1) = true → l.map a.eval = vs.map (·.2) := by
   intro l
   induction l with
   | nil => intro vs h _; cases vs <;> simp_all
   | cons y l ih =>
    intro vs h hc
    cases vs with
    | nil => simp at h
    | cons u vs =>
     simp only [List.map_cons, List.cons.injEq] at h ⊢
     simp only [List.all_cons, Bool.and_eq_true] at hc
     exact ⟨hf.eval (c := u.1) (v := u.2) h.1 hc.1, ih vs h.2 hc.2⟩
  exact this _ _ (evs_map hvs) hc
 have hcf : (callFunc f (cvs.map (·.2)).toArray).run P w = .ok (.enter f (cvs.map (·.2)).toArray) w := by
  unfold callFunc
  rw [Sem.run_bind, run_program, Result.andThen_ok]
  simp only [hf', hnm, hb, Bool.false_eq_true, if_false]
  rfl
 have e : a.eval (.func f) = .func (.func f) #[] #[] := rfl
 simp only [execOp, hop, resolve, e, Deferred.ofValue, hargs, Sem.run_bind, Sem.run_pure, Result.andThen_ok, invoke]
 simpa using hcf
/-- A call of a function with a body, by what is known of it. -/
theorem ET_call {f : FuncId} {xs : Array Operand} {ts : Array TypeId} {cvs : List (Bool × Value)} {R : Value → (World → Prop) → Prop} (hop : o.op = .call { callee := .value (.func f), args := xs, argTypes := ts })
    (hcal : CalleeOk P f) (hvs : evs σ xs.toList = some cvs) (h : CallsT P f (cvs.map (·.2)) A R) (hc : cvs.all (·.1) = true := by first | exact rfl | simp_all) : ET P n o σ A R := by
  intro a w hf hA K Q hK
  unfold Oper.wp
  rw [run_call hop hcal hvs hc hf w, Oper.upon_enter]
  refine (h w hA).mono fun e w' ⟨v, A', he, hR, hA'⟩ => ?_
  subst he
  exact hK v A' w' hR hA'
/-- A call that leaves what is known of the world as it was, under a guard: no need to part the ways. -/
theorem TL_cq {f : FuncId} {xs : Array Operand} {ts : Array TypeId} {cvs : List (Bool × Value)} {d : Nat} {u : Value} {rest : List Oper} {Q : Exit → Act → World → Prop} (hd : o.dst = some d) (hn : Nat.ble (d + 1) n = true) (hg : gdc ops σ o = some g)
    (hop : o.op = .call { callee := .value (.func f), args := xs, argTypes := ts }) (hcal : CalleeOk P f) (hvs : evs σ xs.toList = some cvs)
    (h : g = true → CallsT P f (cvs.map (·.2)) A fun v A' => v = u ∧ A' = A) (k : TL P n ops Q rest ((d, g, u) :: σ) A)
    (hc : g = true → cvs.all (·.1) = true := by first | exact fun _ => rfl | (intro h; first | grind | simp_all)) : TL P n ops Q (o :: rest) σ A := by
  intro a w hf hA
  have hw := wanted_of_gdc (ops := ops) hf hg
  unfold wpList
  cases g with
  | true =>
    rw [if_pos hw]
    refine .inl ?_
    unfold Oper.wp
    rw [run_call hop hcal hvs (hc rfl) hf w, Oper.upon_enter]
    refine (h rfl w hA).mono fun e w' ⟨v, A', he, ⟨hv, hA1⟩, hA'⟩ => ?_
    subst he hv hA1
    rw [hd]
    exact k _ _ (hf.put hn rfl) hA'
  | false =>
    rw [if_neg (by simp [hw]), hd]
    exact k _ _ (hf.put hn rfl) hA
theorem TV_cq {i : Nat} {r : List (Nat × Nat)} {V V₂ : Held} {f : FuncId} {xs : Array Operand} {ts : Array TypeId} {cvs : List (Bool × Value)} {d : Nat} {u : Value} {Q : Exit → Act → World → Prop} (ho : ops[i]? = some o) (hd : o.dst = some d) (hn : Nat.ble (d + 1) n = true) (hg : gdc ops σ o = some g)
  (hop : o.op = .call { callee := .value (.func f), args := xs, argTypes := ts }) (hcal : CalleeOk P f) (hvs : evs σ xs.toList = some cvs)
  (h : g = true → CallsT P f (cvs.map (·.2)) A fun v A' => v = u ∧ A' = A) (hK : KeepTo P n ops i A V V₂) (k : TV P n ops Q r V₂ ((d, g, u) :: σ) A)
  (hc : g = true → cvs.all (·.1) = true := by first | exact fun _ => rfl | (intro h; first | grind | simp_all)) : TV P n ops Q ((i, 1) :: r) V σ A := by
 intro hs hnp hcc a w V' hf hA hm
 obtain ⟨hr, hc', hrdy⟩ := chk_cons1 hcc
 have hw := wanted_of_gdc (ops := ops) hf hg
 refine ⟨fun h => (by rw [hrdy] at h; cases h), fun j hj => ?_⟩
 rw [hrdy] at hj
 obtain rfl : j = i := by simpa using hj
 unfold wpOp
 simp only [ho]
 cases g with
 | true =>
  rw [if_pos hw]
  refine .inl ?_
  unfold Oper.wp
  rw [run_call hop hcal hvs (hc rfl) hf w, Oper.upon_enter]
  refine (h rfl w hA).mono fun e w' ⟨v, A', he, ⟨hv, hA1⟩, hA'⟩ => ?_
  subst he hv hA1
  obtain ⟨h1, h2⟩ := hm.keep hK hA'
  rw [hd, listedOf_step hr]
  exact ⟨h1, k hs hnp hc' _ w' _ (hf.put hn rfl) hA' h2⟩
 | false =>
  rw [if_neg (by simp [hw])]
  obtain ⟨h1, h2⟩ := hm.keep hK hA
  rw [hd, listedOf_step hr]
  exact ⟨h1, k hs hnp hc' _ w _ (hf.put hn rfl) hA h2⟩
end
end Go.Gx
namespace Go.Gx
open Go Go.RowKit
section
variable {P : Program} {n : Nat} {ops : Array Oper} {o : Oper} {σ : Slots} {A : World → Prop} {g : Bool} {v : Value} {x y z : Operand} {c c1 c2 c3 : Bool} {t t2 : TypeId} {k : IntKind} {p q : Int}
/-- The ways part at a test that is not known: on each it is known. -/
theorem TL_split {rest : List Oper} {Q : Exit → Act → World → Prop} {r : Nat} {b : Bool} (hl : look σ r = some (true, .bool b)) (h1 : b = true → TL P n ops Q rest ((r, true, .bool true) :: σ) A) (h2 : b = false → TL P n ops Q rest ((r, true, .bool false) :: σ) A) : TL P n ops Q rest σ A := by
 intro a w hf hA
 have key : ∀ b', b = b' → Fr n ((r, true, .bool b') :: σ) a := by
  rintro b' rfl
  refine ⟨hf.size, hf.defers, fun t c v h => ?_⟩
  simp only [look] at h
  cases hb : Nat.beq r t with
  | true =>
   have : r = t := Nat.eq_of_beq_eq_true hb
   subst this
   simp only [hb, cond_true, Option.some.injEq, Prod.mk.injEq] at h
   obtain ⟨rfl, rfl⟩ := h
   exact hf.known r true _ hl
  | false => simp only [hb, cond_false] at h; exact hf.known t c v h
 cases hb : b with
 | true => exact h1 hb a w (key true hb) hA
 | false => exact h2 hb a w (key false hb) hA
theorem QT_or_t {b : Bool} (hg : gdc ops σ o = some g) (hop : o.op = .pick x (.const (.bool true)) y) (hx : ev σ x = some (c1, .bool b)) (hb : g = true → b = true)
  (hc : g = true → c1 = true := by first | exact fun _ => rfl | exact id | (intro h; first | grind | simp_all)) : QT P n ops o σ A g (.bool true) :=
 QT.mk hg fun a w hf _ h => by
  have e : a.eval (.const (.bool true)) = .bool true := rfl
  simp [execOp, hop, hf.eval hx (hc h), asBool, e, hb h]
theorem QT_and_f {b : Bool} (hg : gdc ops σ o = some g) (hop : o.op = .pick x y (.const (.bool false))) (hx : ev σ x = some (c1, .bool b)) (hb : g = true → b = false)
  (hc : g = true → c1 = true := by first | exact fun _ => rfl | exact id | (intro h; first | grind | simp_all)) : QT P n ops o σ A g (.bool false) :=
 QT.mk hg fun a w hf _ h => by
  have e : a.eval (.const (.bool false)) = .bool false := rfl
  simp [execOp, hop, hf.eval hx (hc h), asBool, e, hb h]
theorem run_binEq {w : World} {u v : Value} {r : Bool} (h1 : binOp .eql t u v = (do pure (.bool (← Op.equal t u v)))) (h2 : (Op.equal t u v).run P w = .ok r w) : (binOp .eql t u v).run P w = .ok (.bool r) w := by
 rw [h1, Sem.run_bind, h2]; rfl
theorem run_binNe {w : World} {u v : Value} {r : Bool} (h1 : binOp .neq t u v = (do pure (.bool (!(← Op.equal t u v))))) (h2 : (Op.equal t u v).run P w = .ok r w) : (binOp .neq t u v).run P w = .ok (.bool (!r)) w := by
 rw [h1, Sem.run_bind, h2]; rfl
theorem resC {w0 : Base} {η : Heap} {fn : Func} {r b T : Nat} {cs : List Value} {d : TypeDesc} (i : Nat) (hr : fn.results = #[.cell r t]) (hp : look σ r = some (true, .pointer (some ⟨b, 0, none⟩))) (hu : P.underlying t = some d) (hd : isAggD d = true)
  (hi : nth η i = some (b, T, cs)) (hm : Sz P t cs.length) : ∀ a w, Fr n σ a → St w0 η w → (results fn a.tmps).run P w = .ok (.agg cs.toArray) w := by
 intro a w hf hA
 have hk := hf.known r true _ hp
 simp only [cond_true] at hk
 have h1 := hA.loadCells (P := P) (off := 0) (m := cs.length) hi (by omega)
 simp only [List.drop_zero, List.take_length] at h1
 have hk' : a.tmps[r]?.getD undef = .pointer (some ⟨b, 0, none⟩) := by simpa using hk
 simp [results, hr, hk', asAddr, loadVar, run_isAgg hu, hd, run_sizeOf hm, h1]
theorem Rd.own {w0 : Base} {η : Heap} {b T : Nat} {cs : List Value} (i : Nat) (hi : nth η i = some (b, T, cs)) : Rd (St w0 η) b 0 cs := by
 intro w hw j v hv
 rw [Nat.zero_add, hw.cell hi]; exact hv
/-- A store that covers a whole block. -/
theorem ET_storeW {w0 : Base} {η : Heap} {b T : Nat} {cs vs : List Value} (i : Nat) (hop : o.op = .store t x y) (hx : ev σ x = some (true, .pointer (some ⟨b, 0, none⟩))) (hy : ev σ y = some (true, .agg vs.toArray))
    (hm : Sz P t vs.length) (hi : nth η i = some (b, T, cs)) (h1 : vs.all Value.oneCell' = true) (hl : Nat.beq vs.length cs.length = true) : ET P n o σ (St w0 η) fun r A' => r = undef ∧ A' = St w0 (upd η i vs) := by
  have hl' : vs.length = cs.length := Nat.eq_of_beq_eq_true hl
  have h := ET_store (P := P) (n := n) (w0 := w0) (off := 0) (vs := vs) i hop hx hy rfl hm hi h1 (Nat.ble_eq_true_of_le (by omega))
  have e : ∀ (vs pre cs : List Value), vs.length = cs.length → setAt (pre ++ cs) pre.length vs = pre ++ vs := by
    intro vs
    induction vs with
    | nil => intro pre cs h; have : cs = [] := List.eq_nil_of_length_eq_zero (by simpa using h.symm); subst this; rfl
    | cons v r ih =>
      intro pre cs h
      cases cs with
      | nil => simp at h
      | cons u cs =>
        simp only [List.length_cons, Nat.add_right_cancel_iff] at h
        have h1 : (pre ++ u :: cs).set pre.length v = (pre ++ [v]) ++ cs := by simp [List.set_append]
        have h2 := ih (pre ++ [v]) cs h
        simp only [setAt, h1]
        simp only [List.length_append, List.length_cons, List.length_nil, Nat.zero_add] at h2
        rw [h2]; simp
  have e0 := e vs [] cs hl'
  simp only [List.nil_append, List.length_nil] at e0
  rwa [e0] at h
/-! ### Values that are put together -/
def evp (σ : Slots) : List (Nat × Operand) → Option (List (Bool × Nat × Value))
 | [] => some []
 | (i, x) :: r => match ev σ x, evp σ r with
  | some (c, v), some ps => some ((c, i, v) :: ps)
  | _, _ => none
theorem evp_map {a : Act} (hf : Fr n σ a) : ∀ {l : List (Nat × Operand)} {ps : List (Bool × Nat × Value)}, evp σ l = some ps → ps.all (·.1) = true → l.map (fun x => (x.1, a.eval x.2)) = ps.map (·.2)
 | [], ps, h, _ => by simp [evp] at h; subst h; rfl
 | (i, x) :: r, ps, h, hc => by
  simp only [evp] at h
  cases hx : ev σ x with
  | none => simp [hx] at h
  | some cv =>
   obtain ⟨c, v⟩ := cv
   cases hr : evp σ r with
   | none => simp [hx, hr] at h
   | some ps' =>
    simp [hx, hr] at h
    subst h
    simp only [List.all_cons, Bool.and_eq_true] at hc
    simp [hf.eval hx hc.1, evp_map hf hr hc.2]
def fillL (place : Nat → Option (Nat × Nat)) (cs : List Value) : List (Nat × Value) → Option (List Value)
 | [] => some cs
 | (i, v) :: r => match place i with
  | some (off, size) => bif (Nat.beq v.cells.size size && Nat.ble (off + size) cs.length) then fillL place (setAt cs off v.cells.toList) r else none
  | none => none
theorem setAt_length : ∀ (vs cs : List Value) (off : Nat), (setAt cs off vs).length = cs.length
 | [], _, _ => rfl
 | v :: r, cs, off => by simp [setAt, setAt_length r]
theorem foldl_set : ∀ (vs : List Value) (k : Nat) (cs : Array Value) (off : Nat), (vs.zipIdx k).foldl (fun cs x => cs.setIfInBounds (off + x.2) x.1) cs = (setAt cs.toList (off + k) vs).toArray
 | [], k, cs, off => by simp [setAt]
 | v :: r, k, cs, off => by
  simp only [List.zipIdx_cons, List.foldl_cons, setAt]
  rw [foldl_set r (k + 1)]
  simp [Nat.add_assoc]
theorem fill_eq (place : Nat → Option (Nat × Nat)) : ∀ (ps : List (Nat × Value)) (cs : Array Value) (out : List Value), fillL place cs.toList ps = some out → Instr.fill place cs ps = some out.toArray
 | [], cs, out, h => by simp [fillL] at h; subst h; simp [Instr.fill]
 | (i, v) :: r, cs, out, h => by
  simp only [fillL] at h
  cases hp : place i with
  | none => simp [hp] at h
  | some os =>
   obtain ⟨off, size⟩ := os
   simp only [hp] at h
   cases hb : (Nat.beq v.cells.size size && Nat.ble (off + size) cs.toList.length) with
   | false => rw [hb] at h; simp at h
   | true =>
    rw [hb, cond_true] at h
    simp only [Bool.and_eq_true] at hb
    have h1 : v.cells.size = size := Nat.eq_of_beq_eq_true hb.1
    have h2 : off + size ≤ cs.size := by simpa using Nat.le_of_ble_eq_true hb.2
    have hf := foldl_set v.cells.toList 0 cs off
    simp only [Nat.add_zero] at hf
    have ih := fill_eq place r (setAt cs.toList off v.cells.toList).toArray out (by simpa using h)
    unfold Instr.fill
    simp only [hp]
    rw [if_neg (by simp [h1]; omega)]
    rw [← ih, ← hf, ← Array.foldl_toList, Array.toList_zipIdx]
theorem setAt_mid : ∀ (vs pre mid post : List Value), vs.length = mid.length → setAt (pre ++ mid ++ post) pre.length vs = pre ++ vs ++ post
 | [], pre, mid, post, h => by
  have : mid = [] := List.eq_nil_of_length_eq_zero (by simpa using h.symm)
  subst this; rfl
 | v :: r, pre, mid, post, h => by
  cases mid with
  | nil => simp at h
  | cons u mid =>
   simp only [List.length_cons, Nat.add_right_cancel_iff] at h
   have h1 : (pre ++ u :: mid ++ post).set pre.length v = (pre ++ [v]) ++ mid ++ post := by
    simp [List.set_append]
   have h2 := setAt_mid r (pre ++ [v]) mid post h
   simp only [setAt, h1]
   simp only [List.length_append, List.length_cons, List.length_nil, Nat.zero_add] at h2
   rw [h2]; simp
/-- what a struct or an array is that is written out: its parts' cells, noughts for those that are not named -/
def segs : List (Nat × Nat) → List Value → List (Nat × Value) → Nat → Option (List Value)
  | [], zs, ps, _ => match ps with
    | [] => some zs
    | _ => none
  | (_, sz) :: pl, zs, ps, i => match ps with
    | [] => some zs
    | (j, v) :: ps' => bif Nat.beq j i then (bif Nat.beq v.cells.toList.length sz then (match segs pl (zs.drop sz) ps' (i + 1) with
          | some r => some (v.cells.toList ++ r)
          | none => none) else none)
        else (match segs pl (zs.drop sz) ((j, v) :: ps') (i + 1) with
          | some r => some (zs.take sz ++ r)
          | none => none)
def contig : List (Nat × Nat) → Nat → Bool
 | [], _ => true
 | (o, s) :: r, k => Nat.beq o k && contig r (k + s)
def sumSz : List (Nat × Nat) → Nat
 | [] => 0
 | x :: r => x.2 + sumSz r
theorem segs_fill (place : Nat → Option (Nat × Nat)) : ∀ (pl : List (Nat × Nat)) (zs : List Value) (ps : List (Nat × Value)) (i : Nat) (pre out : List Value),
  (∀ k x, pl[k]? = some x → place (i + k) = some x) → contig pl pre.length = true → zs.length = sumSz pl → segs pl zs ps i = some out → fillL place (pre ++ zs) ps = some (pre ++ out)
 | [], zs, ps, i, pre, out, _, _, _, h => by
  cases ps with
  | nil => simp [segs] at h; subst h; rfl
  | cons p ps => simp [segs] at h
 | (o, sz) :: pl, zs, ps, i, pre, out, hpl, hc, hz, h => by
  simp only [contig, Bool.and_eq_true] at hc
  obtain ⟨ho, hc⟩ := hc
  have ho : o = pre.length := Nat.eq_of_beq_eq_true ho
  simp only [sumSz] at hz
  have hpl' : ∀ k x, pl[k]? = some x → place (i + 1 + k) = some x := fun k x hk => by
   have := hpl (k + 1) x (by simpa using hk)
   rwa [show i + 1 + k = i + (k + 1) by omega]
  cases ps with
  | nil => simp [segs] at h; subst h; rfl
  | cons p ps =>
   obtain ⟨j, v⟩ := p
   simp only [segs] at h
   cases hj : Nat.beq j i with
   | true =>
    have hji : j = i := Nat.eq_of_beq_eq_true hj
    rw [hj, cond_true] at h
    cases hs : Nat.beq v.cells.toList.length sz with
    | false => rw [hs] at h; simp at h
    | true =>
     have hsz : v.cells.toList.length = sz := Nat.eq_of_beq_eq_true hs
     rw [hs, cond_true] at h
     cases hr : segs pl (zs.drop sz) ps (i + 1) with
     | none => simp [hr] at h
     | some r =>
      simp only [hr, Option.some.injEq] at h
      subst h
      have hp := hpl 0 (o, sz) rfl
      rw [Nat.add_zero] at hp
      have hmid := setAt_mid v.cells.toList pre (zs.take sz) (zs.drop sz) (by simp at hsz; simp; omega)
      rw [List.append_assoc, List.take_append_drop] at hmid
      have ih := segs_fill place pl (zs.drop sz) ps (i + 1) (pre ++ v.cells.toList) r hpl' (by rw [List.length_append, hsz]; exact hc) (by simp; omega) hr
      simp only [fillL, hji, hp]
      have hb : (Nat.beq v.cells.size sz && Nat.ble (o + sz) (pre ++ zs).length) = true := by
       simp only [Bool.and_eq_true]
       refine ⟨by simpa using hs, Nat.ble_eq_true_of_le (by rw [List.length_append]; omega)⟩
      rw [hb, cond_true, ho, hmid, ih, List.append_assoc]
   | false =>
    rw [hj, cond_false] at h
    cases hr : segs pl (zs.drop sz) ((j, v) :: ps) (i + 1) with
    | none => simp [hr] at h
    | some r =>
     simp only [hr, Option.some.injEq] at h
     subst h
     have ih := segs_fill place pl (zs.drop sz) ((j, v) :: ps) (i + 1) (pre ++ zs.take sz) r hpl' (by rw [List.length_append, List.length_take, Nat.min_eq_left (by omega)]; exact hc) (by simp; omega) hr
     rw [List.append_assoc, List.take_append_drop] at ih
     rw [ih, List.append_assoc]
def placesOk (P : Program) (t : TypeId) (pl : List (Nat × Nat)) : Prop := ∃ fs, P.underlying t = some (.struct fs) ∧ fs.toList.map (fun f => (f.offset, (P.info? f.type).map (·.size))) = pl.map fun x => (x.1, some x.2)
theorem mapM_places : ∀ (fs : List Field) (pl : List (Nat × Nat)) (w : World), fs.map (fun f => (f.offset, (P.info? f.type).map (·.size))) = pl.map (fun x => (x.1, some x.2)) →
  (fs.mapM fun f => (do pure (f.offset, ← sizeOf f.type) : Sem (Nat × Nat))).run P w = .ok pl w
 | [], pl, w, h => by cases pl <;> simp_all
 | f :: fs, pl, w, h => by
  cases pl with
  | nil => simp at h
  | cons x pl =>
   simp only [List.map_cons, List.cons.injEq, Prod.mk.injEq] at h
   obtain ⟨⟨h1, h2⟩, h3⟩ := h
   have hs : Sz P f.type x.2 := h2
   have ih := mapM_places fs pl w h3
   simp only [List.mapM_cons, Sem.run_bind, run_sizeOf hs, Result.andThen_ok, Sem.run_pure, h1, ih]
theorem QT_build {ps : Array (Nat × Operand)} {cps : List (Bool × Nat × Value)} {zs : Value} {pl : List (Nat × Nat)} {out : List Value} (hg : gdc ops σ o = some g) (hop : o.op = .build t ps) (hz : ZeroOk P t zs) (hpl : placesOk P t pl)
  (he : evp σ ps.toList = some cps) (hct : (contig pl 0 && Nat.beq zs.cells.toList.length (sumSz pl)) = true) (hseg : segs pl zs.cells.toList (cps.map (·.2)) 0 = some out) (hc : g = true → cps.all (·.1) = true := by first | exact fun _ => rfl | (intro h; first | grind | simp_all)) : QT P n ops o σ A g (.agg out.toArray) :=
 QT.mk hg fun a w hf _ h => by
  obtain ⟨fs, hu, hfs⟩ := hpl
  have h1 : (ps.map fun (i, x) => (i, a.eval x)).toList = cps.map (·.2) := by
   rw [Array.toList_map]; exact evp_map hf he (hc h)
  simp only [Bool.and_eq_true] at hct
  have hfill := segs_fill (fun i => pl[i]?) pl zs.cells.toList (cps.map (·.2)) 0 [] out (fun k x hk => by simpa using hk) hct.1 (Nat.eq_of_beq_eq_true hct.2) hseg
  have h2 := fill_eq (fun i => pl[i]?) _ zs.cells out hfill
  have h3 := mapM_places (P := P) fs.toList pl w hfs
  have h4 : (fs.mapM fun f => (do pure (f.offset, ← sizeOf f.type) : Sem (Nat × Nat))).run P w = .ok pl.toArray w := by
   rw [Array.mapM_eq_mapM_toList]
   rw [Sem.run_map, h3, Result.andThen_ok]
  simp only [execOp, hop, Instr.build, Sem.run_bind, run_zeroValue hz, Result.andThen_ok, run_underlying hu, h4, h1]
  have e : (fun x : Nat => pl.toArray[x]?) = (fun x : Nat => pl[x]?) := by funext x; simp
  rw [e, h2]
  rfl
/-- a slice written out: all its elements, in order -/
theorem ET_buildSlice {w0 : Base} {η : Heap} {e m len : Nat} {zs : Value} {ps : Array (Nat × Operand)} {cps : List (Bool × Nat × Value)} {out : List Value} (hop : o.op = .buildSlice t len ps) (hu : P.underlying t = some (.slice e)) (hm : Sz P e m) (hz : ZeroOk P e zs)
    (he : evp σ ps.toList = some cps) (hl : Nat.ble (len * m) 16777216 = true) (hseg : segs ((List.range len).map fun i => (i * m, m)) ((List.range (len * m)).map (zs.cells.toList[· % zs.cells.toList.length]!)) (cps.map (·.2)) 0 = some out)
    (hc : cps.all (·.1) = true := by first | exact rfl | simp_all) :
    ET P n o σ (St w0 η) fun r A' => ∃ b, r = .slice (some ⟨b, 0, none⟩) len len ∧ A' = St w0 ((b, e, out) :: η) := by
  intro a w hf hA K Q hK
  unfold Oper.wp
  have h1 : (ps.map fun (i, x) => (i, a.eval x)).toList = cps.map (·.2) := by
    rw [Array.toList_map]; exact evp_map hf he hc
  have hl' := Nat.le_of_ble_eq_true hl
  have hct : ∀ (l k : Nat), contig ((List.range' k l).map fun i => (i * m, m)) (k * m) = true ∧ sumSz ((List.range' k l).map fun i => (i * m, m)) = l * m := by
    intro l
    induction l with
    | zero => intro k; simp [contig, sumSz]
    | succ l ih =>
      intro k
      have := ih (k + 1)
      simp only [List.range'_succ, List.map_cons, contig, sumSz, Nat.add_mul, Nat.one_mul] at this ⊢
      exact ⟨by simp [this.1], by omega⟩
  have hfill : fillL (fun i => some (i * m, m)) ((List.range (len * m)).map (zs.cells.toList[· % zs.cells.toList.length]!)) (cps.map (·.2)) = some out := by
    refine segs_fill (fun i => some (i * m, m)) _ _ _ 0 [] out (fun k x hk => ?_) ?_ ?_ hseg
    · rw [List.getElem?_map] at hk
      cases hr : (List.range len)[k]? with
      | none => simp [hr] at hk
      | some y =>
        obtain ⟨hlt, hy⟩ := List.getElem?_eq_some_iff.1 hr
        simp only [List.getElem_range] at hy
        simp [hr] at hk
        simp [← hk, hy]
    · have := (hct len 0).1
      rw [List.range_eq_range']; simpa using this
    · have := (hct len 0).2
      rw [← List.range_eq_range'] at this
      rw [this]; simp
  have hrun : (execOp a.eval o).run P w = .ok (.value (.slice (some ⟨w.heap.size, 0, none⟩) len len)) (w.alloc (.cells out.toArray e)) := by
    have hgt : ¬ (len * m > 2 ^ 24) := by
      have : (2 : Nat) ^ 24 = 16777216 := by decide
      omega
    by_cases h0 : len * m = 0
    · have h2 : Instr.fill (fun i => some (i * m, m)) ((Array.range (len * m)).map fun x => (#[] : Array Value)[x % (#[] : Array Value).size]!) (cps.map (·.2)) = some out.toArray := by
        refine fill_eq _ _ _ _ ?_
        rw [h0] at hfill ⊢
        simpa using hfill
      simp only [execOp, hop, Instr.buildSlice, Sem.run_bind, run_underlying hu, Result.andThen_ok, run_sizeOf hm, if_neg hgt, Sem.run_pure, if_pos h0, h1, h2, newRow, run_newObj]
      rfl
    · have h2 : Instr.fill (fun i => some (i * m, m)) ((Array.range (len * m)).map fun x => zs.cells[x % zs.cells.size]!) (cps.map (·.2)) = some out.toArray := by
        refine fill_eq _ _ _ _ ?_
        have : ((Array.range (len * m)).map fun x => zs.cells[x % zs.cells.size]!).toList = (List.range (len * m)).map (zs.cells.toList[· % zs.cells.toList.length]!) := by
          simp only [Array.toList_map, Array.toList_range]
          apply List.map_congr_left
          intro x _
          simp only [Array.length_toList]
          rw [getElem!_def, getElem!_def]
          simp
        rw [this]; exact hfill
      simp only [execOp, hop, Instr.buildSlice, Sem.run_bind, run_underlying hu, Result.andThen_ok, run_sizeOf hm, if_neg hgt, Sem.run_pure, if_neg h0, run_zeroValue hz, h1, h2, newRow, run_newObj]
      rfl
  rw [hrun, Oper.upon_value]
  exact hK _ _ _ ⟨_, rfl, rfl⟩ (hA.alloc e out.toArray)
end
end Go.Gx
namespace Go.Gx
open Go Go.RowKit Go.ChangeShapes Go.WideShapes
/-- cells that are integers of these kinds, each well formed -/
inductive Ints : List IntKind → List Value → Prop
 | nil : Ints [] []
 | cons {k : IntKind} {z : Int} {ks : List IntKind} {cs : List Value} (hw : (Lit.int k z).wf = true) (h : Ints ks cs) : Ints (k :: ks) (.int k z :: cs)
theorem Ints.append {ks ks' : List IntKind} {cs cs' : List Value} (h : Ints ks cs) (h' : Ints ks' cs') : Ints (ks ++ ks') (cs ++ cs') := by
 induction h with
 | nil => exact h'
 | cons hw _ ih => exact .cons hw ih
theorem Ints.inv {k : IntKind} {ks : List IntKind} {cs : List Value} (h : Ints (k :: ks) cs) : ∃ z cs', cs = .int k z :: cs' ∧ (Lit.int k z).wf = true ∧ Ints ks cs' := by
 cases h with
 | cons hw h => exact ⟨_, _, rfl, hw, h⟩
theorem Ints.inv_nil {cs : List Value} (h : Ints [] cs) : cs = [] := by cases h; rfl
theorem Ints.length {ks : List IntKind} {cs : List Value} (h : Ints ks cs) : cs.length = ks.length := by
 induction h with
 | nil => rfl
 | cons _ _ ih => simp [ih]
def flatF (f : TypeId → Option (List IntKind)) : List Field → Option (List IntKind)
 | [] => some []
 | x :: r => match f x.type, flatF f r with
  | some a, some b => some (a ++ b)
  | _, _ => none
/-- the kinds of a type's cells, if all are integers -/
def flat (P : Program) : Nat → TypeId → Option (List IntKind)
  | 0, _ => none
  | d + 1, t => match P.underlying t with
    | some (.int k) => bif Nat.beq (P.cellsOf t) 1 then some [k] else none
    | some (.struct fs) =>
      bif contig (fs.toList.map fun f => (f.offset, P.cellsOf f.type)) 0 && Nat.beq (sumSz (fs.toList.map fun f => (f.offset, P.cellsOf f.type))) (P.cellsOf t) then flatF (flat P d) fs.toList else none
    | some (.array n e) => bif Nat.beq (n * P.cellsOf e) (P.cellsOf t) then (match flat P d e with
        | some ks => some ((List.replicate n ks).flatten)
        | none => none) else none
    | _ => none
theorem pieces : ∀ (pl : List (Nat × Nat)) (k : Nat) (cs : List Value), contig pl k = true → cs.length = k + sumSz pl → cs.drop k = (pl.map fun x => (cs.drop x.1).take x.2).flatten
 | [], k, cs, _, h => by simp [sumSz] at h; simp [h]
 | (o, s) :: r, k, cs, hc, h => by
  simp only [contig, Bool.and_eq_true] at hc
  obtain ⟨ho, hc⟩ := hc
  obtain rfl : o = k := Nat.eq_of_beq_eq_true ho
  simp only [sumSz] at h
  have ih := pieces r (o + s) cs hc (by omega)
  simp only [List.map_cons, List.flatten_cons, ← ih]
  conv => lhs; rw [← List.take_append_drop s (cs.drop o), List.drop_drop]
section
variable {H : Type} {enc : TypeId × Value → H} {P : Program} {w : World} {base : Nat} {spare : Nat → Bool} {held : Bool}
theorem trod_flat : ∀ (d : Nat) (t : TypeId) (ks : List IntKind), flat P d t = some ks → ∀ (fuel : Nat) (cs : List Value) (x : DataW H × List MemPlace), DataW.trod enc P w base spare held fuel t cs = some x → Ints ks cs
  | 0, t, ks, h, _, _, _, _ => by simp [flat] at h
  | d + 1, t, ks, h, fuel, cs, x, hx => by
    simp only [flat] at h
    cases hu : P.underlying t with
    | none => simp [hu] at h
    | some D =>
      cases D with
      | int k =>
        simp only [hu] at h
        cases hb : Nat.beq (P.cellsOf t) 1 with
        | false => simp [hb] at h
        | true =>
          simp only [hb, cond_true, Option.some.injEq] at h
          subst h
          obtain ⟨n, rfl, _, hw⟩ := DataW.trod_int hu hx
          exact .cons hw .nil
      | struct fs =>
        simp only [hu] at h
        cases hb : (contig (fs.toList.map fun f => (f.offset, P.cellsOf f.type)) 0 && Nat.beq (sumSz (fs.toList.map fun f => (f.offset, P.cellsOf f.type))) (P.cellsOf t)) with
        | false => simp [hb] at h
        | true =>
          rw [hb, cond_true] at h
          simp only [Bool.and_eq_true] at hb
          obtain ⟨xs, n, rfl, _, hlen, hxl, hel⟩ := DataW.trod_struct hu hx
          have hp := pieces _ 0 cs hb.1 (by rw [hlen, Nat.zero_add, Nat.eq_of_beq_eq_true hb.2])
          rw [List.drop_zero, List.map_map] at hp
          rw [hp]
          have hel' : ∀ (l : List Field), (∀ f ∈ l, ∃ x, DataW.trod enc P w base spare held n f.type ((cs.drop f.offset).take (P.cellsOf f.type)) = some x) → ∀ ks, flatF (flat P d) l = some ks →
              Ints ks (l.map ((fun x => (cs.drop x.1).take x.2) ∘ fun f => (f.offset, P.cellsOf f.type))).flatten := by
            intro l
            induction l with
            | nil => intro _ ks h; simp [flatF] at h; subst h; exact .nil
            | cons f l ih =>
              intro hl ks h
              simp only [flatF] at h
              cases hf : flat P d f.type with
              | none => simp [hf] at h
              | some a =>
                cases hr : flatF (flat P d) l with
                | none => simp [hf, hr] at h
                | some b =>
                  simp [hf, hr] at h
                  subst h
                  obtain ⟨x, hx⟩ := hl f (List.mem_cons_self ..)
                  simp only [List.map_cons, List.flatten_cons]
                  exact (trod_flat d f.type a hf n _ x hx).append (ih (fun f hf => hl f (List.mem_cons_of_mem _ hf)) b hr)
          refine hel' fs.toList (fun f hf => ?_) ks h
          obtain ⟨i, hi, he⟩ := List.getElem_of_mem hf
          have hfi : fs[i]? = some f := by
            rw [← Array.getElem?_toList, List.getElem?_eq_getElem hi, he]
          rw [hel i f hfi]
          have : i < xs.length := by rw [hxl]; simpa using hi
          exact ⟨_, List.getElem?_eq_getElem this⟩
      | array m e =>
        simp only [hu] at h
        cases hb : Nat.beq (m * P.cellsOf e) (P.cellsOf t) with
        | false => simp [hb] at h
        | true =>
          rw [hb, cond_true] at h
          cases hf : flat P d e with
          | none => simp [hf] at h
          | some a =>
            simp only [hf, Option.some.injEq] at h
            subst h
            obtain ⟨xs, n, rfl, _, hlen, hxl, hel⟩ := DataW.trod_array hu hx
            have hb' := Nat.eq_of_beq_eq_true hb
            have key : ∀ (j k : Nat), j + k = m → Ints ((List.replicate j a).flatten) (cs.drop (k * P.cellsOf e)) := by
              intro j
              induction j with
              | zero =>
                intro k hk
                have : cs.drop (k * P.cellsOf e) = [] := by
                  apply List.drop_eq_nil_of_le
                  rw [hlen, ← hb', ← hk, Nat.zero_add]
                  exact Nat.le_refl _
                rw [this]; exact .nil
              | succ j ih =>
                intro k hk
                rw [List.replicate_succ, List.flatten_cons]
                have h1 := hel k (by omega)
                have hkx : k < xs.length := by omega
                rw [List.getElem?_eq_getElem hkx] at h1
                have h2 := trod_flat d e a hf n _ _ h1
                have h3 := ih (k + 1) (by omega)
                have h4 := h2.append h3
                have e4 : (cs.drop (k * P.cellsOf e)).take (P.cellsOf e) ++ cs.drop ((k + 1) * P.cellsOf e) = cs.drop (k * P.cellsOf e) := by
                  conv => rhs; rw [← List.take_append_drop (P.cellsOf e) (cs.drop (k * P.cellsOf e)), List.drop_drop]
                  rw [Nat.add_mul, Nat.one_mul]
                rwa [e4] at h4
            have := key m 0 (by omega)
            simpa using this
      | _ => simp [hu] at h
/-- A parameter by value of integers laid flat. -/
theorem open_flat {t : TypeId} {ks : List IntKind} {v : Value} {d : DataW H} {p : List MemPlace} {fs : Array Field} {r : Reach} {b0 : Nat} (hs : P.underlying t = some (.struct fs)) (hk : flat P 8 t = some ks) (hv : Value.okWide P w r b0 t v) (h : DataW.Trod enc P w base spare held t v d p) :
    ∃ cs : List Value, v = .agg cs.toArray ∧ Ints ks cs := by
  obtain ⟨cs, rfl, _⟩ := okWide_struct hs hv
  obtain ⟨fuel, hf⟩ := h
  exact ⟨cs.toList, by simp, trod_flat 8 t ks hk fuel _ _ hf⟩
/-- The arguments read behind the call as they did: below the old heap's size nothing has turned. -/
theorem trodAll_stay (hl : laidOutB P = true) {W W' : World} (hb : Below W.heap.size W W') : ∀ (ts : List TypeId) (vs : List Value) (ds : List (DataW H)) (ps : List MemPlace), (ts.all fun t => P.readableRec t && decide (t < P.types.size)) = true →
    DataW.TrodAll enc P W 0 (fun _ => true) true ts vs ds ps → (∀ x ∈ ps, x.block < W.heap.size) → DataW.TrodAll enc P W' 0 (fun b => decide (b < W.heap.size)) true ts vs ds ps
  | [], vs, ds, ps, _, h, _ => by
    cases vs <;> cases ds <;> simp [DataW.TrodAll] at h ⊢
    exact h
  | t :: ts, vs, ds, ps, hr, h, hlt => by
    obtain ⟨v, vs', d, ds', p, q, rfl, rfl, rfl, h1, h2⟩ := trodAll_cons h
    simp only [List.all_cons, Bool.and_eq_true, decide_eq_true_eq] at hr
    exact trodAll_cons_mk (Below.trod hl hr.1.1 hr.1.2 h1 hb (fun x hx => hlt x (List.mem_append_left _ hx)))
      (trodAll_stay hl hb ts vs' ds' q hr.2 h2 (fun x hx => hlt x (List.mem_append_right _ hx)))
theorem wf_u8 {z : Int} (h : (Lit.int .u8 z).wf = true) : 0 ≤ z ∧ z ≤ 255 := by
 have h1 : IntKind.u8.min = 0 := rfl
 have h2 : IntKind.u8.max = 255 := rfl
 simp only [Lit.wf, Bool.and_eq_true, decide_eq_true_eq] at h
 omega
theorem wf_i64 {z : Int} (h : (Lit.int .i64 z).wf = true) : I64 z := by
 have h1 : IntKind.i64.min = -9223372036854775808 := rfl
 have h2 : IntKind.i64.max = 9223372036854775807 := rfl
 simp only [Lit.wf, Bool.and_eq_true, decide_eq_true_eq] at h
 exact ⟨by omega, by omega⟩
/-- What a law's walk gives. -/
theorem law_end {f : FuncId} {vs : List Value} {W : World} (h : CallsT P f vs (St W []) fun v A' => v = .bool true ∧ A' = St W []) : Calls P f vs.toArray W fun e w' => e = .returned (.bool true) ∧ Below W.heap.size W w' :=
 (h W (St.start W)).mono fun e w' ⟨v, A', he, ⟨hv, hA⟩, hA'⟩ => by subst hv hA; exact ⟨he, hA'.below.plain⟩
end
end Go.Gx
namespace Go.Proofs.KF
open Go Go.Gx
theorem sz_3 : Sz Tryz.prog 3 1 := by unfold Sz; kernel_rfl
theorem sz_5 : Sz Tryz.prog 5 1 := by unfold Sz; kernel_rfl
theorem sz_27 : Sz Tryz.prog 27 18 := by unfold Sz; kernel_rfl
theorem sz_28 : Sz Tryz.prog 28 1 := by unfold Sz; kernel_rfl
theorem sz_31 : Sz Tryz.prog 31 1 := by unfold Sz; kernel_rfl
theorem sz_32 : Sz Tryz.prog 32 1 := by unfold Sz; kernel_rfl
theorem sz_34 : Sz Tryz.prog 34 2 := by unfold Sz; kernel_rfl
theorem sz_35 : Sz Tryz.prog 35 1 := by unfold Sz; kernel_rfl
theorem sz_38 : Sz Tryz.prog 38 1 := by unfold Sz; kernel_rfl
theorem sz_41 : Sz Tryz.prog 41 1 := by unfold Sz; kernel_rfl
theorem sz_42 : Sz Tryz.prog 42 1 := by unfold Sz; kernel_rfl
theorem sz_43 : Sz Tryz.prog 43 1 := by unfold Sz; kernel_rfl
theorem sz_44 : Sz Tryz.prog 44 1 := by unfold Sz; kernel_rfl
theorem sz_52 : Sz Tryz.prog 52 14 := by unfold Sz; kernel_rfl
theorem sz_61 : Sz Tryz.prog 61 1 := by unfold Sz; kernel_rfl
theorem sz_62 : Sz Tryz.prog 62 1 := by unfold Sz; kernel_rfl
theorem sz_70 : Sz Tryz.prog 70 1 := by unfold Sz; kernel_rfl
theorem sz_72 : Sz Tryz.prog 72 2 := by unfold Sz; kernel_rfl
theorem sz_73 : Sz Tryz.prog 73 1 := by unfold Sz; kernel_rfl
theorem sz_75 : Sz Tryz.prog 75 4 := by unfold Sz; kernel_rfl
theorem sz_77 : Sz Tryz.prog 77 7 := by unfold Sz; kernel_rfl
theorem sz_79 : Sz Tryz.prog 79 21 := by unfold Sz; kernel_rfl
theorem sz_84 : Sz Tryz.prog 84 3 := by unfold Sz; kernel_rfl
theorem sz_94 : Sz Tryz.prog 94 3 := by unfold Sz; kernel_rfl
theorem sz_102 : Sz Tryz.prog 102 49 := by unfold Sz; kernel_rfl
theorem sz_112 : Sz Tryz.prog 112 48 := by unfold Sz; kernel_rfl
theorem sz_160 : Sz Tryz.prog 160 23 := by unfold Sz; kernel_rfl
theorem sz_162 : Sz Tryz.prog 162 50 := by unfold Sz; kernel_rfl
theorem sz_166 : Sz Tryz.prog 166 3 := by unfold Sz; kernel_rfl
theorem sz_171 : Sz Tryz.prog 171 3 := by unfold Sz; kernel_rfl
theorem sz_175 : Sz Tryz.prog 175 1 := by unfold Sz; kernel_rfl
theorem sz_186 : Sz Tryz.prog 186 9 := by unfold Sz; kernel_rfl
theorem sz_188 : Sz Tryz.prog 188 51 := by unfold Sz; kernel_rfl
theorem sz_230 : Sz Tryz.prog 230 1 := by unfold Sz; kernel_rfl
theorem sz_237 : Sz Tryz.prog 237 4 := by unfold Sz; kernel_rfl
theorem sz_240 : Sz Tryz.prog 240 2 := by unfold Sz; kernel_rfl
theorem sz_242 : Sz Tryz.prog 242 6 := by unfold Sz; kernel_rfl
theorem sz_246 : Sz Tryz.prog 246 1 := by unfold Sz; kernel_rfl
theorem sz_251 : Sz Tryz.prog 251 3 := by unfold Sz; kernel_rfl
theorem fld_27_0 : FieldOk Tryz.prog 27 0 0 := ⟨_, _, 0, Tryz.underlying27, rfl, rfl, by unfold Sz; kernel_rfl⟩
theorem fld_27_1 : FieldOk Tryz.prog 27 1 1 := ⟨_, _, 0, Tryz.underlying27, rfl, rfl, by unfold Sz; kernel_rfl⟩
theorem fld_27_2 : FieldOk Tryz.prog 27 2 2 := ⟨_, _, 0, Tryz.underlying27, rfl, rfl, by unfold Sz; kernel_rfl⟩
theorem fld_27_3 : FieldOk Tryz.prog 27 3 3 := ⟨_, _, 0, Tryz.underlying27, rfl, rfl, by unfold Sz; kernel_rfl⟩
theorem fld_27_4 : FieldOk Tryz.prog 27 4 4 := ⟨_, _, 0, Tryz.underlying27, rfl, rfl, by unfold Sz; kernel_rfl⟩
theorem fld_27_5 : FieldOk Tryz.prog 27 5 5 := ⟨_, _, 0, Tryz.underlying27, rfl, rfl, by unfold Sz; kernel_rfl⟩
theorem fld_34_0 : FieldOk Tryz.prog 34 0 0 := ⟨_, _, 0, Tryz.underlying34, rfl, rfl, by unfold Sz; kernel_rfl⟩
theorem fld_34_1 : FieldOk Tryz.prog 34 1 1 := ⟨_, _, 0, Tryz.underlying34, rfl, rfl, by unfold Sz; kernel_rfl⟩
theorem fld_52_0 : FieldOk Tryz.prog 52 0 0 := ⟨_, _, 0, Tryz.underlying52, rfl, rfl, by unfold Sz; kernel_rfl⟩
theorem fld_52_1 : FieldOk Tryz.prog 52 1 1 := ⟨_, _, 0, Tryz.underlying52, rfl, rfl, by unfold Sz; kernel_rfl⟩
theorem fld_52_2 : FieldOk Tryz.prog 52 2 2 := ⟨_, _, 0, Tryz.underlying52, rfl, rfl, by unfold Sz; kernel_rfl⟩
theorem fld_52_3 : FieldOk Tryz.prog 52 3 3 := ⟨_, _, 0, Tryz.underlying52, rfl, rfl, by unfold Sz; kernel_rfl⟩
theorem fld_52_4 : FieldOk Tryz.prog 52 4 4 := ⟨_, _, 0, Tryz.underlying52, rfl, rfl, by unfold Sz; kernel_rfl⟩
theorem fld_52_5 : FieldOk Tryz.prog 52 5 5 := ⟨_, _, 0, Tryz.underlying52, rfl, rfl, by unfold Sz; kernel_rfl⟩
theorem fld_52_6 : FieldOk Tryz.prog 52 6 6 := ⟨_, _, 0, Tryz.underlying52, rfl, rfl, by unfold Sz; kernel_rfl⟩
theorem fld_52_7 : FieldOk Tryz.prog 52 7 7 := ⟨_, _, 0, Tryz.underlying52, rfl, rfl, by unfold Sz; kernel_rfl⟩
theorem fld_52_8 : FieldOk Tryz.prog 52 8 8 := ⟨_, _, 0, Tryz.underlying52, rfl, rfl, by unfold Sz; kernel_rfl⟩
theorem fld_52_9 : FieldOk Tryz.prog 52 9 9 := ⟨_, _, 0, Tryz.underlying52, rfl, rfl, by unfold Sz; kernel_rfl⟩
theorem fld_52_10 : FieldOk Tryz.prog 52 10 10 := ⟨_, _, 0, Tryz.underlying52, rfl, rfl, by unfold Sz; kernel_rfl⟩
theorem fld_52_11 : FieldOk Tryz.prog 52 11 11 := ⟨_, _, 0, Tryz.underlying52, rfl, rfl, by unfold Sz; kernel_rfl⟩
theorem fld_52_12 : FieldOk Tryz.prog 52 12 12 := ⟨_, _, 0, Tryz.underlying52, rfl, rfl, by unfold Sz; kernel_rfl⟩
theorem fld_52_13 : FieldOk Tryz.prog 52 13 13 := ⟨_, _, 0, Tryz.underlying52, rfl, rfl, by unfold Sz; kernel_rfl⟩
theorem fld_72_0 : FieldOk Tryz.prog 72 0 0 := ⟨_, _, 0, Tryz.underlying72, rfl, rfl, by unfold Sz; kernel_rfl⟩
theorem fld_72_1 : FieldOk Tryz.prog 72 1 1 := ⟨_, _, 0, Tryz.underlying72, rfl, rfl, by unfold Sz; kernel_rfl⟩
theorem fld_77_0 : FieldOk Tryz.prog 77 0 0 := ⟨_, _, 0, Tryz.underlying77, rfl, rfl, by unfold Sz; kernel_rfl⟩
theorem fld_77_1 : FieldOk Tryz.prog 77 1 1 := ⟨_, _, 1, Tryz.underlying77, rfl, rfl, by unfold Sz; kernel_rfl⟩
theorem fld_77_2 : FieldOk Tryz.prog 77 2 3 := ⟨_, _, 3, Tryz.underlying77, rfl, rfl, by unfold Sz; kernel_rfl⟩
theorem fld_94_0 : FieldOk Tryz.prog 94 0 0 := ⟨_, _, 0, Tryz.underlying94, rfl, rfl, by unfold Sz; kernel_rfl⟩
theorem fld_94_1 : FieldOk Tryz.prog 94 1 1 := ⟨_, _, 0, Tryz.underlying94, rfl, rfl, by unfold Sz; kernel_rfl⟩
theorem fld_94_2 : FieldOk Tryz.prog 94 2 2 := ⟨_, _, 0, Tryz.underlying94, rfl, rfl, by unfold Sz; kernel_rfl⟩
theorem fld_102_0 : FieldOk Tryz.prog 102 0 0 := ⟨_, _, 0, Tryz.underlying102, rfl, rfl, by unfold Sz; kernel_rfl⟩
theorem fld_102_1 : FieldOk Tryz.prog 102 1 1 := ⟨_, _, 31, Tryz.underlying102, rfl, rfl, by unfold Sz; kernel_rfl⟩
theorem fld_102_2 : FieldOk Tryz.prog 102 2 33 := ⟨_, _, 15, Tryz.underlying102, rfl, rfl, by unfold Sz; kernel_rfl⟩
theorem fld_112_0 : FieldOk Tryz.prog 112 0 0 := ⟨_, _, 31, Tryz.underlying112, rfl, rfl, by unfold Sz; kernel_rfl⟩
theorem fld_112_1 : FieldOk Tryz.prog 112 1 32 := ⟨_, _, 15, Tryz.underlying112, rfl, rfl, by unfold Sz; kernel_rfl⟩
theorem fld_160_0 : FieldOk Tryz.prog 160 0 0 := ⟨_, _, 0, Tryz.underlying160, rfl, rfl, by unfold Sz; kernel_rfl⟩
theorem fld_160_1 : FieldOk Tryz.prog 160 1 1 := ⟨_, _, 0, Tryz.underlying160, rfl, rfl, by unfold Sz; kernel_rfl⟩
theorem fld_160_2 : FieldOk Tryz.prog 160 2 2 := ⟨_, _, 20, Tryz.underlying160, rfl, rfl, by unfold Sz; kernel_rfl⟩
theorem fld_162_0 : FieldOk Tryz.prog 162 0 0 := ⟨_, _, 0, Tryz.underlying162, rfl, rfl, by unfold Sz; kernel_rfl⟩
theorem fld_162_1 : FieldOk Tryz.prog 162 1 1 := ⟨_, _, 0, Tryz.underlying162, rfl, rfl, by unfold Sz; kernel_rfl⟩
theorem fld_162_2 : FieldOk Tryz.prog 162 2 2 := ⟨_, _, 47, Tryz.underlying162, rfl, rfl, by unfold Sz; kernel_rfl⟩
theorem fld_166_0 : FieldOk Tryz.prog 166 0 0 := ⟨_, _, 0, Tryz.underlying166, rfl, rfl, by unfold Sz; kernel_rfl⟩
theorem fld_166_1 : FieldOk Tryz.prog 166 1 1 := ⟨_, _, 0, Tryz.underlying166, rfl, rfl, by unfold Sz; kernel_rfl⟩
theorem fld_166_2 : FieldOk Tryz.prog 166 2 2 := ⟨_, _, 0, Tryz.underlying166, rfl, rfl, by unfold Sz; kernel_rfl⟩
theorem fld_171_1 : FieldOk Tryz.prog 171 1 1 := ⟨_, _, 0, Tryz.underlying171, rfl, rfl, by unfold Sz; kernel_rfl⟩
theorem fld_171_2 : FieldOk Tryz.prog 171 2 2 := ⟨_, _, 0, Tryz.underlying171, rfl, rfl, by unfold Sz; kernel_rfl⟩
theorem fld_186_0 : FieldOk Tryz.prog 186 0 0 := ⟨_, _, 0, Tryz.underlying186, rfl, rfl, by unfold Sz; kernel_rfl⟩
theorem fld_186_1 : FieldOk Tryz.prog 186 1 1 := ⟨_, _, 0, Tryz.underlying186, rfl, rfl, by unfold Sz; kernel_rfl⟩
theorem fld_186_2 : FieldOk Tryz.prog 186 2 2 := ⟨_, _, 6, Tryz.underlying186, rfl, rfl, by unfold Sz; kernel_rfl⟩
theorem fld_188_0 : FieldOk Tryz.prog 188 0 0 := ⟨_, _, 0, Tryz.underlying188, rfl, rfl, by unfold Sz; kernel_rfl⟩
theorem fld_188_1 : FieldOk Tryz.prog 188 1 1 := ⟨_, _, 0, Tryz.underlying188, rfl, rfl, by unfold Sz; kernel_rfl⟩
theorem fld_188_2 : FieldOk Tryz.prog 188 2 2 := ⟨_, _, 48, Tryz.underlying188, rfl, rfl, by unfold Sz; kernel_rfl⟩
theorem fld_233_0 : FieldOk Tryz.prog 233 0 0 := ⟨_, _, 0, Tryz.underlying233, rfl, rfl, by unfold Sz; kernel_rfl⟩
theorem fld_239_0 : FieldOk Tryz.prog 239 0 0 := ⟨_, _, 3, Tryz.underlying239, rfl, rfl, by unfold Sz; kernel_rfl⟩
theorem fld_242_0 : FieldOk Tryz.prog 242 0 0 := ⟨_, _, 3, Tryz.underlying242, rfl, rfl, by unfold Sz; kernel_rfl⟩
theorem fld_242_1 : FieldOk Tryz.prog 242 1 4 := ⟨_, _, 1, Tryz.underlying242, rfl, rfl, by unfold Sz; kernel_rfl⟩
theorem fld_251_0 : FieldOk Tryz.prog 251 0 0 := ⟨_, _, 0, Tryz.underlying251, rfl, rfl, by unfold Sz; kernel_rfl⟩
theorem fld_251_1 : FieldOk Tryz.prog 251 1 1 := ⟨_, _, 0, Tryz.underlying251, rfl, rfl, by unfold Sz; kernel_rfl⟩
theorem fld_251_2 : FieldOk Tryz.prog 251 2 2 := ⟨_, _, 0, Tryz.underlying251, rfl, rfl, by unfold Sz; kernel_rfl⟩
theorem fld_267_0 : FieldOk Tryz.prog 267 0 0 := ⟨_, _, 0, Tryz.underlying267, rfl, rfl, by unfold Sz; kernel_rfl⟩
theorem fld_267_1 : FieldOk Tryz.prog 267 1 1 := ⟨_, _, 0, Tryz.underlying267, rfl, rfl, by unfold Sz; kernel_rfl⟩
theorem fld_270_0 : FieldOk Tryz.prog 270 0 0 := ⟨_, _, 0, Tryz.underlying270, rfl, rfl, by unfold Sz; kernel_rfl⟩
theorem fld_270_1 : FieldOk Tryz.prog 270 1 1 := ⟨_, _, 0, Tryz.underlying270, rfl, rfl, by unfold Sz; kernel_rfl⟩
theorem fld_272_0 : FieldOk Tryz.prog 272 0 0 := ⟨_, _, 1, Tryz.underlying272, rfl, rfl, by unfold Sz; kernel_rfl⟩
theorem fld_272_1 : FieldOk Tryz.prog 272 1 2 := ⟨_, _, 0, Tryz.underlying272, rfl, rfl, by unfold Sz; kernel_rfl⟩
theorem pl_27 : placesOk Tryz.prog 27 [(0, 1), (1, 1), (2, 1), (3, 1), (4, 1), (5, 1), (6, 2), (8, 2), (10, 8)] := ⟨_, Tryz.underlying27, by kernel_rfl⟩
theorem pl_34 : placesOk Tryz.prog 34 [(0, 1), (1, 1)] := ⟨_, Tryz.underlying34, by kernel_rfl⟩
theorem pl_52 : placesOk Tryz.prog 52 [(0, 1), (1, 1), (2, 1), (3, 1), (4, 1), (5, 1), (6, 1), (7, 1), (8, 1), (9, 1), (10, 1), (11, 1), (12, 1), (13, 1)] := ⟨_, Tryz.underlying52, by kernel_rfl⟩
theorem pl_72 : placesOk Tryz.prog 72 [(0, 1), (1, 1)] := ⟨_, Tryz.underlying72, by kernel_rfl⟩
theorem pl_77 : placesOk Tryz.prog 77 [(0, 1), (1, 2), (3, 4)] := ⟨_, Tryz.underlying77, by kernel_rfl⟩
theorem pl_84 : placesOk Tryz.prog 84 [(0, 1), (1, 1), (2, 1)] := ⟨_, Tryz.underlying84, by kernel_rfl⟩
theorem pl_94 : placesOk Tryz.prog 94 [(0, 1), (1, 1), (2, 1)] := ⟨_, Tryz.underlying94, by kernel_rfl⟩
theorem pl_102 : placesOk Tryz.prog 102 [(0, 1), (1, 32), (33, 16)] := ⟨_, Tryz.underlying102, by kernel_rfl⟩
theorem pl_112 : placesOk Tryz.prog 112 [(0, 32), (32, 16)] := ⟨_, Tryz.underlying112, by kernel_rfl⟩
theorem pl_160 : placesOk Tryz.prog 160 [(0, 1), (1, 1), (2, 21)] := ⟨_, Tryz.underlying160, by kernel_rfl⟩
theorem pl_162 : placesOk Tryz.prog 162 [(0, 1), (1, 1), (2, 48)] := ⟨_, Tryz.underlying162, by kernel_rfl⟩
theorem pl_166 : placesOk Tryz.prog 166 [(0, 1), (1, 1), (2, 1)] := ⟨_, Tryz.underlying166, by kernel_rfl⟩
theorem pl_171 : placesOk Tryz.prog 171 [(0, 1), (1, 1), (2, 1)] := ⟨_, Tryz.underlying171, by kernel_rfl⟩
theorem pl_186 : placesOk Tryz.prog 186 [(0, 1), (1, 1), (2, 7)] := ⟨_, Tryz.underlying186, by kernel_rfl⟩
theorem pl_188 : placesOk Tryz.prog 188 [(0, 1), (1, 1), (2, 49)] := ⟨_, Tryz.underlying188, by kernel_rfl⟩
theorem pl_233 : placesOk Tryz.prog 233 [(0, 1)] := ⟨_, Tryz.underlying233, by kernel_rfl⟩
theorem pl_251 : placesOk Tryz.prog 251 [(0, 1), (1, 1), (2, 1)] := ⟨_, Tryz.underlying251, by kernel_rfl⟩
theorem pl_267 : placesOk Tryz.prog 267 [(0, 1), (1, 1)] := ⟨_, Tryz.underlying267, by kernel_rfl⟩
theorem pl_272 : placesOk Tryz.prog 272 [(0, 2), (2, 1)] := ⟨_, Tryz.underlying272, by kernel_rfl⟩
theorem zero_3 : ZeroOk Tryz.prog 3 (.int .i64 0) := by unfold ZeroOk; kernel_rfl
theorem zero_5 : ZeroOk Tryz.prog 5 (.int .u8 0) := by unfold ZeroOk; kernel_rfl
theorem zero_27 : ZeroOk Tryz.prog 27 (.agg #[.int .i64 0, .int .i64 0, .int .i64 0, .int .i64 0, .int .i64 0, .int .i64 0, .int .i32 0, .int .i32 0, .int .i32 0, .int .i32 0, .int .i32 0, .int .i32 0, .int .i32 0, .int .i32 0, .int .i32 0, .int .i32 0, .int .i32 0, .int .i32 0]) := by unfold ZeroOk; kernel_rfl
theorem zero_31 : ZeroOk Tryz.prog 31 (.slice none 0 0) := by unfold ZeroOk; kernel_rfl
theorem zero_34 : ZeroOk Tryz.prog 34 (.agg #[.slice none 0 0, .slice none 0 0]) := by unfold ZeroOk; kernel_rfl
theorem zero_52 : ZeroOk Tryz.prog 52 (.agg #[.int .i64 0, .slice none 0 0, .slice none 0 0, .slice none 0 0, .slice none 0 0, .slice none 0 0, .slice none 0 0, .slice none 0 0, .slice none 0 0, .slice none 0 0, .slice none 0 0, .slice none 0 0, .slice none 0 0, .slice none 0 0]) := by unfold ZeroOk; kernel_rfl
theorem zero_70 : ZeroOk Tryz.prog 70 (.int .u32 0) := by unfold ZeroOk; kernel_rfl
theorem zero_72 : ZeroOk Tryz.prog 72 (.agg #[.int .u32 0, .int .u32 0]) := by unfold ZeroOk; kernel_rfl
theorem zero_77 : ZeroOk Tryz.prog 77 (.agg #[.int .u8 0, .int .u32 0, .int .u32 0, .int .u16 0, .int .u16 0, .int .u16 0, .int .u16 0]) := by unfold ZeroOk; kernel_rfl
theorem zero_79 : ZeroOk Tryz.prog 79 (.agg #[.int .u8 0, .int .u32 0, .int .u32 0, .int .u16 0, .int .u16 0, .int .u16 0, .int .u16 0, .int .u8 0, .int .u32 0, .int .u32 0, .int .u16 0, .int .u16 0, .int .u16 0, .int .u16 0, .int .u8 0, .int .u32 0, .int .u32 0, .int .u16 0, .int .u16 0, .int .u16 0, .int .u16 0]) := by unfold ZeroOk; kernel_rfl
theorem zero_84 : ZeroOk Tryz.prog 84 (.agg #[.nilFunc, .nilFunc, .nilFunc]) := by unfold ZeroOk; kernel_rfl
theorem zero_94 : ZeroOk Tryz.prog 94 (.agg #[.slice none 0 0, .slice none 0 0, .int .u8 0]) := by unfold ZeroOk; kernel_rfl
theorem zero_102 : ZeroOk Tryz.prog 102 (.agg #[.int .u8 0, .int .u32 0, .int .u32 0, .int .u32 0, .int .u32 0, .int .u32 0, .int .u32 0, .int .u32 0, .int .u32 0, .int .u32 0, .int .u32 0, .int .u32 0, .int .u32 0, .int .u32 0, .int .u32 0, .int .u32 0, .int .u32 0, .int .u32 0, .int .u32 0, .int .u32 0, .int .u32 0, .int .u32 0, .int .u32 0, .int .u32 0, .int .u32 0, .int .u32 0, .int .u32 0, .int .u32 0, .int .u32 0, .int .u32 0, .int .u32 0, .int .u32 0, .int .u32 0, .int .u16 0, .int .u16 0, .int .u16 0, .int .u16 0, .int .u16 0, .int .u16 0, .int .u16 0, .int .u16 0, .int .u16 0, .int .u16 0, .int .u16 0, .int .u16 0, .int .u16 0, .int .u16 0, .int .u16 0, .int .u16 0]) := by unfold ZeroOk; kernel_rfl
theorem zero_112 : ZeroOk Tryz.prog 112 (.agg #[.int .u32 0, .int .u32 0, .int .u32 0, .int .u32 0, .int .u32 0, .int .u32 0, .int .u32 0, .int .u32 0, .int .u32 0, .int .u32 0, .int .u32 0, .int .u32 0, .int .u32 0, .int .u32 0, .int .u32 0, .int .u32 0, .int .u32 0, .int .u32 0, .int .u32 0, .int .u32 0, .int .u32 0, .int .u32 0, .int .u32 0, .int .u32 0, .int .u32 0, .int .u32 0, .int .u32 0, .int .u32 0, .int .u32 0, .int .u32 0, .int .u32 0, .int .u32 0, .int .u16 0, .int .u16 0, .int .u16 0, .int .u16 0, .int .u16 0, .int .u16 0, .int .u16 0, .int .u16 0, .int .u16 0, .int .u16 0, .int .u16 0, .int .u16 0, .int .u16 0, .int .u16 0, .int .u16 0, .int .u16 0]) := by unfold ZeroOk; kernel_rfl
theorem zero_160 : ZeroOk Tryz.prog 160 (.agg #[.slice none 0 0, .slice none 0 0, .int .u8 0, .int .u32 0, .int .u32 0, .int .u16 0, .int .u16 0, .int .u16 0, .int .u16 0, .int .u8 0, .int .u32 0, .int .u32 0, .int .u16 0, .int .u16 0, .int .u16 0, .int .u16 0, .int .u8 0, .int .u32 0, .int .u32 0, .int .u16 0, .int .u16 0, .int .u16 0, .int .u16 0]) := by unfold ZeroOk; kernel_rfl
theorem zero_162 : ZeroOk Tryz.prog 162 (.agg #[.slice none 0 0, .slice none 0 0, .int .u32 0, .int .u32 0, .int .u32 0, .int .u32 0, .int .u32 0, .int .u32 0, .int .u32 0, .int .u32 0, .int .u32 0, .int .u32 0, .int .u32 0, .int .u32 0, .int .u32 0, .int .u32 0, .int .u32 0, .int .u32 0, .int .u32 0, .int .u32 0, .int .u32 0, .int .u32 0, .int .u32 0, .int .u32 0, .int .u32 0, .int .u32 0, .int .u32 0, .int .u32 0, .int .u32 0, .int .u32 0, .int .u32 0, .int .u32 0, .int .u32 0, .int .u32 0, .int .u16 0, .int .u16 0, .int .u16 0, .int .u16 0, .int .u16 0, .int .u16 0, .int .u16 0, .int .u16 0, .int .u16 0, .int .u16 0, .int .u16 0, .int .u16 0, .int .u16 0, .int .u16 0, .int .u16 0, .int .u16 0]) := by unfold ZeroOk; kernel_rfl
theorem zero_166 : ZeroOk Tryz.prog 166 (.agg #[.nilFunc, .nilFunc, .nilFunc]) := by unfold ZeroOk; kernel_rfl
theorem zero_171 : ZeroOk Tryz.prog 171 (.agg #[.nilFunc, .nilFunc, .nilFunc]) := by unfold ZeroOk; kernel_rfl
theorem zero_175 : ZeroOk Tryz.prog 175 (.slice none 0 0) := by unfold ZeroOk; kernel_rfl
theorem zero_186 : ZeroOk Tryz.prog 186 (.agg #[.slice none 0 0, .slice none 0 0, .int .u8 0, .int .u32 0, .int .u32 0, .int .u16 0, .int .u16 0, .int .u16 0, .int .u16 0]) := by unfold ZeroOk; kernel_rfl
theorem zero_188 : ZeroOk Tryz.prog 188 (.agg #[.slice none 0 0, .slice none 0 0, .int .u8 0, .int .u32 0, .int .u32 0, .int .u32 0, .int .u32 0, .int .u32 0, .int .u32 0, .int .u32 0, .int .u32 0, .int .u32 0, .int .u32 0, .int .u32 0, .int .u32 0, .int .u32 0, .int .u32 0, .int .u32 0, .int .u32 0, .int .u32 0, .int .u32 0, .int .u32 0, .int .u32 0, .int .u32 0, .int .u32 0, .int .u32 0, .int .u32 0, .int .u32 0, .int .u32 0, .int .u32 0, .int .u32 0, .int .u32 0, .int .u32 0, .int .u32 0, .int .u32 0, .int .u16 0, .int .u16 0, .int .u16 0, .int .u16 0, .int .u16 0, .int .u16 0, .int .u16 0, .int .u16 0, .int .u16 0, .int .u16 0, .int .u16 0, .int .u16 0, .int .u16 0, .int .u16 0, .int .u16 0, .int .u16 0]) := by unfold ZeroOk; kernel_rfl
theorem zero_233 : ZeroOk Tryz.prog 233 (.agg #[.slice none 0 0]) := by unfold ZeroOk; kernel_rfl
theorem zero_242 : ZeroOk Tryz.prog 242 (.agg #[.int .i64 0, .int .i64 0, .int .i64 0, .int .i64 0, .int .i64 0, .int .i64 0]) := by unfold ZeroOk; kernel_rfl
theorem zero_246 : ZeroOk Tryz.prog 246 (.slice none 0 0) := by unfold ZeroOk; kernel_rfl
theorem zero_251 : ZeroOk Tryz.prog 251 (.agg #[.int .i64 0, .nilFunc, .nilFunc]) := by unfold ZeroOk; kernel_rfl
theorem zero_267 : ZeroOk Tryz.prog 267 (.agg #[.pointer none, .int .i64 0]) := by unfold ZeroOk; kernel_rfl
theorem zero_272 : ZeroOk Tryz.prog 272 (.agg #[.slice none 0 0, .int .i64 0, .int .i64 0]) := by unfold ZeroOk; kernel_rfl
theorem cal_5 : CalleeOk Tryz.prog 5 := ⟨_, Tryz.func5, rfl, by kernel_rfl⟩
theorem cal_7 : CalleeOk Tryz.prog 7 := ⟨_, Tryz.func7, rfl, by kernel_rfl⟩
theorem cal_9 : CalleeOk Tryz.prog 9 := ⟨_, Tryz.func9, rfl, by kernel_rfl⟩
theorem cal_10 : CalleeOk Tryz.prog 10 := ⟨_, Tryz.func10, rfl, by kernel_rfl⟩
theorem cal_13 : CalleeOk Tryz.prog 13 := ⟨_, Tryz.func13, rfl, by kernel_rfl⟩
theorem cal_14 : CalleeOk Tryz.prog 14 := ⟨_, Tryz.func14, rfl, by kernel_rfl⟩
theorem cal_15 : CalleeOk Tryz.prog 15 := ⟨_, Tryz.func15, rfl, by kernel_rfl⟩
theorem cal_16 : CalleeOk Tryz.prog 16 := ⟨_, Tryz.func16, rfl, by kernel_rfl⟩
theorem cal_17 : CalleeOk Tryz.prog 17 := ⟨_, Tryz.func17, rfl, by kernel_rfl⟩
theorem cal_18 : CalleeOk Tryz.prog 18 := ⟨_, Tryz.func18, rfl, by kernel_rfl⟩
theorem cal_19 : CalleeOk Tryz.prog 19 := ⟨_, Tryz.func19, rfl, by kernel_rfl⟩
theorem cal_20 : CalleeOk Tryz.prog 20 := ⟨_, Tryz.func20, rfl, by kernel_rfl⟩
theorem cal_21 : CalleeOk Tryz.prog 21 := ⟨_, Tryz.func21, rfl, by kernel_rfl⟩
theorem cal_22 : CalleeOk Tryz.prog 22 := ⟨_, Tryz.func22, rfl, by kernel_rfl⟩
theorem cal_23 : CalleeOk Tryz.prog 23 := ⟨_, Tryz.func23, rfl, by kernel_rfl⟩
theorem cal_24 : CalleeOk Tryz.prog 24 := ⟨_, Tryz.func24, rfl, by kernel_rfl⟩
theorem cal_26 : CalleeOk Tryz.prog 26 := ⟨_, Tryz.func26, rfl, by kernel_rfl⟩
theorem cal_27 : CalleeOk Tryz.prog 27 := ⟨_, Tryz.func27, rfl, by kernel_rfl⟩
theorem cal_28 : CalleeOk Tryz.prog 28 := ⟨_, Tryz.func28, rfl, by kernel_rfl⟩
theorem cal_31 : CalleeOk Tryz.prog 31 := ⟨_, Tryz.func31, rfl, by kernel_rfl⟩
theorem cal_32 : CalleeOk Tryz.prog 32 := ⟨_, Tryz.func32, rfl, by kernel_rfl⟩
theorem cal_33 : CalleeOk Tryz.prog 33 := ⟨_, Tryz.func33, rfl, by kernel_rfl⟩
theorem cal_34 : CalleeOk Tryz.prog 34 := ⟨_, Tryz.func34, rfl, by kernel_rfl⟩
theorem cal_35 : CalleeOk Tryz.prog 35 := ⟨_, Tryz.func35, rfl, by kernel_rfl⟩
theorem cal_37 : CalleeOk Tryz.prog 37 := ⟨_, Tryz.func37, rfl, by kernel_rfl⟩
theorem cal_38 : CalleeOk Tryz.prog 38 := ⟨_, Tryz.func38, rfl, by kernel_rfl⟩
theorem cal_39 : CalleeOk Tryz.prog 39 := ⟨_, Tryz.func39, rfl, by kernel_rfl⟩
theorem cal_40 : CalleeOk Tryz.prog 40 := ⟨_, Tryz.func40, rfl, by kernel_rfl⟩
theorem cal_41 : CalleeOk Tryz.prog 41 := ⟨_, Tryz.func41, rfl, by kernel_rfl⟩
theorem cal_42 : CalleeOk Tryz.prog 42 := ⟨_, Tryz.func42, rfl, by kernel_rfl⟩
theorem cal_43 : CalleeOk Tryz.prog 43 := ⟨_, Tryz.func43, rfl, by kernel_rfl⟩
theorem cal_44 : CalleeOk Tryz.prog 44 := ⟨_, Tryz.func44, rfl, by kernel_rfl⟩
theorem cal_45 : CalleeOk Tryz.prog 45 := ⟨_, Tryz.func45, rfl, by kernel_rfl⟩
theorem cal_46 : CalleeOk Tryz.prog 46 := ⟨_, Tryz.func46, rfl, by kernel_rfl⟩
theorem cal_47 : CalleeOk Tryz.prog 47 := ⟨_, Tryz.func47, rfl, by kernel_rfl⟩
theorem cal_48 : CalleeOk Tryz.prog 48 := ⟨_, Tryz.func48, rfl, by kernel_rfl⟩
theorem cal_49 : CalleeOk Tryz.prog 49 := ⟨_, Tryz.func49, rfl, by kernel_rfl⟩
theorem cal_50 : CalleeOk Tryz.prog 50 := ⟨_, Tryz.func50, rfl, by kernel_rfl⟩
theorem cal_51 : CalleeOk Tryz.prog 51 := ⟨_, Tryz.func51, rfl, by kernel_rfl⟩
theorem cal_52 : CalleeOk Tryz.prog 52 := ⟨_, Tryz.func52, rfl, by kernel_rfl⟩
theorem cal_53 : CalleeOk Tryz.prog 53 := ⟨_, Tryz.func53, rfl, by kernel_rfl⟩
theorem cal_54 : CalleeOk Tryz.prog 54 := ⟨_, Tryz.func54, rfl, by kernel_rfl⟩
theorem cal_55 : CalleeOk Tryz.prog 55 := ⟨_, Tryz.func55, rfl, by kernel_rfl⟩
theorem cal_56 : CalleeOk Tryz.prog 56 := ⟨_, Tryz.func56, rfl, by kernel_rfl⟩
theorem cal_57 : CalleeOk Tryz.prog 57 := ⟨_, Tryz.func57, rfl, by kernel_rfl⟩
theorem cal_58 : CalleeOk Tryz.prog 58 := ⟨_, Tryz.func58, rfl, by kernel_rfl⟩
theorem cal_59 : CalleeOk Tryz.prog 59 := ⟨_, Tryz.func59, rfl, by kernel_rfl⟩
theorem cal_60 : CalleeOk Tryz.prog 60 := ⟨_, Tryz.func60, rfl, by kernel_rfl⟩
theorem cal_61 : CalleeOk Tryz.prog 61 := ⟨_, Tryz.func61, rfl, by kernel_rfl⟩
theorem cal_62 : CalleeOk Tryz.prog 62 := ⟨_, Tryz.func62, rfl, by kernel_rfl⟩
theorem cal_63 : CalleeOk Tryz.prog 63 := ⟨_, Tryz.func63, rfl, by kernel_rfl⟩
theorem cal_64 : CalleeOk Tryz.prog 64 := ⟨_, Tryz.func64, rfl, by kernel_rfl⟩
theorem cal_65 : CalleeOk Tryz.prog 65 := ⟨_, Tryz.func65, rfl, by kernel_rfl⟩
theorem cal_66 : CalleeOk Tryz.prog 66 := ⟨_, Tryz.func66, rfl, by kernel_rfl⟩
theorem cal_67 : CalleeOk Tryz.prog 67 := ⟨_, Tryz.func67, rfl, by kernel_rfl⟩
theorem cal_68 : CalleeOk Tryz.prog 68 := ⟨_, Tryz.func68, rfl, by kernel_rfl⟩
theorem cal_69 : CalleeOk Tryz.prog 69 := ⟨_, Tryz.func69, rfl, by kernel_rfl⟩
theorem cal_70 : CalleeOk Tryz.prog 70 := ⟨_, Tryz.func70, rfl, by kernel_rfl⟩
theorem cal_71 : CalleeOk Tryz.prog 71 := ⟨_, Tryz.func71, rfl, by kernel_rfl⟩
theorem cal_72 : CalleeOk Tryz.prog 72 := ⟨_, Tryz.func72, rfl, by kernel_rfl⟩
theorem cal_73 : CalleeOk Tryz.prog 73 := ⟨_, Tryz.func73, rfl, by kernel_rfl⟩
theorem cal_74 : CalleeOk Tryz.prog 74 := ⟨_, Tryz.func74, rfl, by kernel_rfl⟩
theorem cal_75 : CalleeOk Tryz.prog 75 := ⟨_, Tryz.func75, rfl, by kernel_rfl⟩
theorem cal_76 : CalleeOk Tryz.prog 76 := ⟨_, Tryz.func76, rfl, by kernel_rfl⟩
theorem cal_77 : CalleeOk Tryz.prog 77 := ⟨_, Tryz.func77, rfl, by kernel_rfl⟩
theorem cal_78 : CalleeOk Tryz.prog 78 := ⟨_, Tryz.func78, rfl, by kernel_rfl⟩
theorem cal_79 : CalleeOk Tryz.prog 79 := ⟨_, Tryz.func79, rfl, by kernel_rfl⟩
theorem cal_80 : CalleeOk Tryz.prog 80 := ⟨_, Tryz.func80, rfl, by kernel_rfl⟩
theorem cal_81 : CalleeOk Tryz.prog 81 := ⟨_, Tryz.func81, rfl, by kernel_rfl⟩
theorem cal_82 : CalleeOk Tryz.prog 82 := ⟨_, Tryz.func82, rfl, by kernel_rfl⟩
theorem cal_83 : CalleeOk Tryz.prog 83 := ⟨_, Tryz.func83, rfl, by kernel_rfl⟩
theorem cal_84 : CalleeOk Tryz.prog 84 := ⟨_, Tryz.func84, rfl, by kernel_rfl⟩
theorem cal_85 : CalleeOk Tryz.prog 85 := ⟨_, Tryz.func85, rfl, by kernel_rfl⟩
theorem cal_86 : CalleeOk Tryz.prog 86 := ⟨_, Tryz.func86, rfl, by kernel_rfl⟩
theorem cal_87 : CalleeOk Tryz.prog 87 := ⟨_, Tryz.func87, rfl, by kernel_rfl⟩
theorem cal_88 : CalleeOk Tryz.prog 88 := ⟨_, Tryz.func88, rfl, by kernel_rfl⟩
theorem cal_89 : CalleeOk Tryz.prog 89 := ⟨_, Tryz.func89, rfl, by kernel_rfl⟩
theorem cal_90 : CalleeOk Tryz.prog 90 := ⟨_, Tryz.func90, rfl, by kernel_rfl⟩
theorem cal_91 : CalleeOk Tryz.prog 91 := ⟨_, Tryz.func91, rfl, by kernel_rfl⟩
theorem cal_92 : CalleeOk Tryz.prog 92 := ⟨_, Tryz.func92, rfl, by kernel_rfl⟩
theorem cal_93 : CalleeOk Tryz.prog 93 := ⟨_, Tryz.func93, rfl, by kernel_rfl⟩
theorem cal_94 : CalleeOk Tryz.prog 94 := ⟨_, Tryz.func94, rfl, by kernel_rfl⟩
theorem cal_95 : CalleeOk Tryz.prog 95 := ⟨_, Tryz.func95, rfl, by kernel_rfl⟩
theorem cal_96 : CalleeOk Tryz.prog 96 := ⟨_, Tryz.func96, rfl, by kernel_rfl⟩
theorem cal_97 : CalleeOk Tryz.prog 97 := ⟨_, Tryz.func97, rfl, by kernel_rfl⟩
theorem cal_100 : CalleeOk Tryz.prog 100 := ⟨_, Tryz.func100, rfl, by kernel_rfl⟩
theorem cal_101 : CalleeOk Tryz.prog 101 := ⟨_, Tryz.func101, rfl, by kernel_rfl⟩
theorem cal_102 : CalleeOk Tryz.prog 102 := ⟨_, Tryz.func102, rfl, by kernel_rfl⟩
theorem cal_103 : CalleeOk Tryz.prog 103 := ⟨_, Tryz.func103, rfl, by kernel_rfl⟩
theorem cal_104 : CalleeOk Tryz.prog 104 := ⟨_, Tryz.func104, rfl, by kernel_rfl⟩
theorem cal_105 : CalleeOk Tryz.prog 105 := ⟨_, Tryz.func105, rfl, by kernel_rfl⟩
theorem cal_107 : CalleeOk Tryz.prog 107 := ⟨_, Tryz.func107, rfl, by kernel_rfl⟩
theorem cal_108 : CalleeOk Tryz.prog 108 := ⟨_, Tryz.func108, rfl, by kernel_rfl⟩
theorem cal_110 : CalleeOk Tryz.prog 110 := ⟨_, Tryz.func110, rfl, by kernel_rfl⟩
theorem cal_111 : CalleeOk Tryz.prog 111 := ⟨_, Tryz.func111, rfl, by kernel_rfl⟩
theorem cal_112 : CalleeOk Tryz.prog 112 := ⟨_, Tryz.func112, rfl, by kernel_rfl⟩
theorem cal_113 : CalleeOk Tryz.prog 113 := ⟨_, Tryz.func113, rfl, by kernel_rfl⟩
theorem cal_114 : CalleeOk Tryz.prog 114 := ⟨_, Tryz.func114, rfl, by kernel_rfl⟩
theorem cal_115 : CalleeOk Tryz.prog 115 := ⟨_, Tryz.func115, rfl, by kernel_rfl⟩
theorem cal_116 : CalleeOk Tryz.prog 116 := ⟨_, Tryz.func116, rfl, by kernel_rfl⟩
theorem cal_117 : CalleeOk Tryz.prog 117 := ⟨_, Tryz.func117, rfl, by kernel_rfl⟩
theorem cal_118 : CalleeOk Tryz.prog 118 := ⟨_, Tryz.func118, rfl, by kernel_rfl⟩
theorem cal_119 : CalleeOk Tryz.prog 119 := ⟨_, Tryz.func119, rfl, by kernel_rfl⟩
theorem cal_120 : CalleeOk Tryz.prog 120 := ⟨_, Tryz.func120, rfl, by kernel_rfl⟩
theorem cal_121 : CalleeOk Tryz.prog 121 := ⟨_, Tryz.func121, rfl, by kernel_rfl⟩
theorem cal_122 : CalleeOk Tryz.prog 122 := ⟨_, Tryz.func122, rfl, by kernel_rfl⟩
theorem cal_123 : CalleeOk Tryz.prog 123 := ⟨_, Tryz.func123, rfl, by kernel_rfl⟩
theorem cal_124 : CalleeOk Tryz.prog 124 := ⟨_, Tryz.func124, rfl, by kernel_rfl⟩
theorem cal_125 : CalleeOk Tryz.prog 125 := ⟨_, Tryz.func125, rfl, by kernel_rfl⟩
theorem cal_126 : CalleeOk Tryz.prog 126 := ⟨_, Tryz.func126, rfl, by kernel_rfl⟩
theorem cal_127 : CalleeOk Tryz.prog 127 := ⟨_, Tryz.func127, rfl, by kernel_rfl⟩
theorem cal_128 : CalleeOk Tryz.prog 128 := ⟨_, Tryz.func128, rfl, by kernel_rfl⟩
theorem cal_129 : CalleeOk Tryz.prog 129 := ⟨_, Tryz.func129, rfl, by kernel_rfl⟩
theorem cal_130 : CalleeOk Tryz.prog 130 := ⟨_, Tryz.func130, rfl, by kernel_rfl⟩
theorem cal_132 : CalleeOk Tryz.prog 132 := ⟨_, Tryz.func132, rfl, by kernel_rfl⟩
theorem cal_133 : CalleeOk Tryz.prog 133 := ⟨_, Tryz.func133, rfl, by kernel_rfl⟩
theorem cal_134 : CalleeOk Tryz.prog 134 := ⟨_, Tryz.func134, rfl, by kernel_rfl⟩
theorem cal_135 : CalleeOk Tryz.prog 135 := ⟨_, Tryz.func135, rfl, by kernel_rfl⟩
theorem cal_136 : CalleeOk Tryz.prog 136 := ⟨_, Tryz.func136, rfl, by kernel_rfl⟩
theorem cal_137 : CalleeOk Tryz.prog 137 := ⟨_, Tryz.func137, rfl, by kernel_rfl⟩
theorem cal_138 : CalleeOk Tryz.prog 138 := ⟨_, Tryz.func138, rfl, by kernel_rfl⟩
theorem cal_139 : CalleeOk Tryz.prog 139 := ⟨_, Tryz.func139, rfl, by kernel_rfl⟩
theorem cal_140 : CalleeOk Tryz.prog 140 := ⟨_, Tryz.func140, rfl, by kernel_rfl⟩
theorem cal_141 : CalleeOk Tryz.prog 141 := ⟨_, Tryz.func141, rfl, by kernel_rfl⟩
theorem cal_142 : CalleeOk Tryz.prog 142 := ⟨_, Tryz.func142, rfl, by kernel_rfl⟩
theorem cal_143 : CalleeOk Tryz.prog 143 := ⟨_, Tryz.func143, rfl, by kernel_rfl⟩
theorem cal_144 : CalleeOk Tryz.prog 144 := ⟨_, Tryz.func144, rfl, by kernel_rfl⟩
theorem cal_145 : CalleeOk Tryz.prog 145 := ⟨_, Tryz.func145, rfl, by kernel_rfl⟩
theorem cal_146 : CalleeOk Tryz.prog 146 := ⟨_, Tryz.func146, rfl, by kernel_rfl⟩
theorem cal_148 : CalleeOk Tryz.prog 148 := ⟨_, Tryz.func148, rfl, by kernel_rfl⟩
theorem cal_149 : CalleeOk Tryz.prog 149 := ⟨_, Tryz.func149, rfl, by kernel_rfl⟩
theorem cal_150 : CalleeOk Tryz.prog 150 := ⟨_, Tryz.func150, rfl, by kernel_rfl⟩
theorem cal_151 : CalleeOk Tryz.prog 151 := ⟨_, Tryz.func151, rfl, by kernel_rfl⟩
theorem cal_152 : CalleeOk Tryz.prog 152 := ⟨_, Tryz.func152, rfl, by kernel_rfl⟩
theorem cal_153 : CalleeOk Tryz.prog 153 := ⟨_, Tryz.func153, rfl, by kernel_rfl⟩
theorem cal_154 : CalleeOk Tryz.prog 154 := ⟨_, Tryz.func154, rfl, by kernel_rfl⟩
theorem cal_155 : CalleeOk Tryz.prog 155 := ⟨_, Tryz.func155, rfl, by kernel_rfl⟩
theorem cal_156 : CalleeOk Tryz.prog 156 := ⟨_, Tryz.func156, rfl, by kernel_rfl⟩
theorem cal_157 : CalleeOk Tryz.prog 157 := ⟨_, Tryz.func157, rfl, by kernel_rfl⟩
theorem cal_158 : CalleeOk Tryz.prog 158 := ⟨_, Tryz.func158, rfl, by kernel_rfl⟩
theorem cal_159 : CalleeOk Tryz.prog 159 := ⟨_, Tryz.func159, rfl, by kernel_rfl⟩
theorem cal_160 : CalleeOk Tryz.prog 160 := ⟨_, Tryz.func160, rfl, by kernel_rfl⟩
theorem cal_161 : CalleeOk Tryz.prog 161 := ⟨_, Tryz.func161, rfl, by kernel_rfl⟩
theorem cal_162 : CalleeOk Tryz.prog 162 := ⟨_, Tryz.func162, rfl, by kernel_rfl⟩
theorem cal_163 : CalleeOk Tryz.prog 163 := ⟨_, Tryz.func163, rfl, by kernel_rfl⟩
theorem cal_164 : CalleeOk Tryz.prog 164 := ⟨_, Tryz.func164, rfl, by kernel_rfl⟩
theorem cal_165 : CalleeOk Tryz.prog 165 := ⟨_, Tryz.func165, rfl, by kernel_rfl⟩
theorem cal_184 : CalleeOk Tryz.prog 184 := ⟨_, Tryz.func184, rfl, by kernel_rfl⟩
theorem mixed : Tryz.prog.follows .mixedOrders = true := by kernel_rfl
end Go.Proofs.KF
namespace Go.Gx
open Go Go.RowKit
/-- A slice that is read: its cells, element by element. -/
def SlA (A : World → Prop) (v : Value) (size n : Nat) (cs : List Value) : Prop :=
 cs.length = n * size ∧ ∃ ad cap, v = .slice ad n cap ∧ (n ≤ cap ∧ cap ≤ 9223372036854775807) ∧ (n = 0 ∨ ∃ b off, ad = some ⟨b, off, none⟩ ∧ Rd A b off cs)
/-- A slice of the call's own: v, its elements' cells, the block that bears it, with room behind. -/
def Frag (e size : Nat) (v : Value) (n : Nat) (xs : List Value) (H : Heap) : Prop :=
 xs.length = n * size ∧ ((v = .slice none 0 0 ∧ n = 0 ∧ H = []) ∨ ∃ b cap rest, v = .slice (some ⟨b, 0, none⟩) n cap ∧ (n ≤ cap ∧ cap ≤ 9223372036854775807) ∧ cap * size ≤ (xs ++ rest).length ∧ H = [(b, e, xs ++ rest)])
theorem Frag.nil (e size : Nat) : Frag e size (.slice none 0 0) 0 [] [] := ⟨by simp, .inl ⟨rfl, rfl, rfl⟩⟩
theorem Rd.ownA {w0 : Base} {η : Heap} {b T : Nat} {cs xs : List Value} (h : (b, T, cs) ∈ η) (off : Nat) (hx : xs = (cs.drop off).take xs.length) : Rd (St w0 η) b off xs := by
 intro w hw j v hv
 rw [cell_of_row w b (off + j) _ T (0, 0) (hw.blk _ h)]
 have hj : j < xs.length := (List.getElem?_eq_some_iff.1 hv).1
 rw [hx, List.getElem?_take_of_lt hj, List.getElem?_drop] at hv
 simpa using hv
theorem Rd.mono {A A' : World → Prop} {b off : Nat} {cs : List Value} (h : Rd A b off cs) (hs : ∀ w, A' w → A w) : Rd A' b off cs := fun w hw => h w (hs w hw)
theorem SlA.mono {A A' : World → Prop} {v : Value} {size n : Nat} {cs : List Value} (h : SlA A v size n cs) (hs : ∀ w, A' w → A w) : SlA A' v size n cs := by
 obtain ⟨hl, ad, cap, hv, hc, h⟩ := h
 refine ⟨hl, ad, cap, hv, hc, ?_⟩
 rcases h with h | ⟨b, off, ha, hr⟩
 · exact .inl h
 · exact .inr ⟨b, off, ha, hr.mono hs⟩
theorem SlA.tail {w0 : Base} {η : Heap} {x : Blk} {v : Value} {size n : Nat} {cs : List Value} (h : SlA (St w0 η) v size n cs) : SlA (St w0 (x :: η)) v size n cs := h.mono fun _ h => h.tail
theorem St.app_right {w0 : Base} {X η : Heap} {w : World} (h : St w0 (X ++ η) w) : St w0 η w := h.sub (List.sublist_append_right ..)
theorem SlA.app {w0 : Base} {X η : Heap} {v : Value} {size n : Nat} {cs : List Value} (h : SlA (St w0 η) v size n cs) : SlA (St w0 (X ++ η)) v size n cs := h.mono fun _ h => h.app_right
theorem Frag.sla {w0 : Base} {e size : Nat} {v : Value} {n : Nat} {xs : List Value} {H η : Heap} (h : Frag e size v n xs H) : SlA (St w0 (H ++ η)) v size n xs := by
 obtain ⟨hl, h⟩ := h
 rcases h with ⟨rfl, rfl, rfl⟩ | ⟨b, cap, rest, rfl, hc, hlen, rfl⟩
 · exact ⟨hl, _, _, rfl, ⟨Nat.le_refl _, by omega⟩, .inl rfl⟩
 · exact ⟨hl, _, _, rfl, hc, .inr ⟨b, 0, rfl, Rd.ownA (T := e) (cs := xs ++ rest) (by simp) 0 (by simp)⟩⟩
theorem St.setRow {w0 : Base} {b T : Nat} {cs vs : List Value} {η : Heap} {w : World} (h : St w0 ((b, T, cs) :: η) w) : St w0 ((b, T, vs) :: η) (w.setRow b vs.toArray) := by
  have hb := h.blk _ (List.mem_cons_self ..)
  have ho := h.own _ (List.mem_cons_self ..)
  have hn := h.nodup
  rw [List.map_cons, List.nodup_cons] at hn
  refine ⟨⟨h.below.os, h.below.tape, h.below.output, by have := h.below.size; simpa [World.setRow] using this, fun k hk hh => (setRow_other _ _ _ _ (by
    simp only at ho
    rintro rfl
    rcases ho with ho | ho
    · omega
    · rw [ho] at hh; exact absurd hh (by decide))).trans (h.below.block k hk hh)⟩, fun x hx => ?_, fun x hx => ?_, by simpa using h.nodup⟩
  · rcases List.mem_cons.1 hx with rfl | hx
    · exact setRow_heap w b _ _ T (0, 0) hb
    · rw [setRow_other]
      · exact h.blk x (List.mem_cons_of_mem _ hx)
      · intro e; exact hn.1 (List.mem_map.2 ⟨x, hx, e⟩)
  · rcases List.mem_cons.1 hx with rfl | hx
    · exact ho
    · exact h.own x (List.mem_cons_of_mem _ hx)
/-- Fewer blocks, in whatever order. -/
theorem St.cnt {w0 : Base} {η η' : Heap} {w : World} (h : St w0 η w) (hc : ∀ p : Blk → Bool, η'.countP p ≤ η.countP p) : St w0 η' w := by
 classical
 have hm : ∀ x ∈ η', x ∈ η := by
  intro x hx
  have h1 : 0 < η'.countP (fun y => decide (y = x)) := List.countP_pos_iff.2 ⟨x, hx, by simp⟩
  have h2 := hc (fun y => decide (y = x))
  obtain ⟨y, hy, he⟩ := List.countP_pos_iff.1 (Nat.lt_of_lt_of_le h1 h2)
  simp only [decide_eq_true_eq] at he
  exact he ▸ hy
 refine ⟨h.below, fun x hx => h.blk x (hm x hx), fun x hx => h.own x (hm x hx), ?_⟩
 rw [List.nodup_iff_count]
 intro k
 have h1 := List.nodup_iff_count.1 h.nodup k
 have h2 := hc (fun y => y.1 == k)
 simp only [List.count, List.countP_map] at h1 ⊢
 exact Nat.le_trans h2 h1
theorem SlA.own {w0 : Base} {η : Heap} {b T off size n cap : Nat} {cs xs : List Value} (i : Nat) (hi : nth η i = some (b, T, cs)) (hx : xs = (cs.drop off).take (n * size)) (hl : off + n * size ≤ cs.length) (hc : n ≤ cap ∧ cap ≤ 9223372036854775807) :
  SlA (St w0 η) (.slice (some ⟨b, off, none⟩) n cap) size n xs := by
 have hlen : xs.length = n * size := by rw [hx, List.length_take, List.length_drop]; omega
 exact ⟨hlen, _, _, rfl, hc, .inr ⟨b, off, rfl, Rd.ownA (T := T) (cs := cs) (nth_mem hi) off (by rw [hlen]; exact hx)⟩⟩
theorem SlA.mem {w0 : Base} {η : Heap} {b T off size n cap : Nat} {cs xs : List Value} (hi : (b, T, cs) ∈ η) (hx : xs = (cs.drop off).take (n * size)) (hl : off + n * size ≤ cs.length) (hc : n ≤ cap ∧ cap ≤ 9223372036854775807) :
  SlA (St w0 η) (.slice (some ⟨b, off, none⟩) n cap) size n xs := by
 have hlen : xs.length = n * size := by rw [hx, List.length_take, List.length_drop]; omega
 exact ⟨hlen, _, _, rfl, hc, .inr ⟨b, off, rfl, Rd.ownA (T := T) (cs := cs) hi off (by rw [hlen]; exact hx)⟩⟩
theorem slc_addr {b off l size cap : Nat} (h : l < cap) : (if cap = l then some (⟨b, off, none⟩ : Addr) else (some (⟨b, off, none⟩ : Addr)).map (·.add (l * size))) = some ⟨b, off + l * size, none⟩ := by
 rw [if_neg (by omega)]; simp [add_mk]
theorem TL_A {P : Program} {n : Nat} {ops : Array Oper} {Q : Exit → Act → World → Prop} {rest : List Oper} {σ : Slots} {A : World → Prop} (A' : World → Prop) (hA : ∀ w, A w → A' w) (k : TL P n ops Q rest σ A') : TL P n ops Q rest σ A := fun a w hf h => k a w hf (hA w h)
theorem TC_A {P : Program} {n : Nat} {c : Code} {Q : Exit → Act → World → Prop} {σ : Slots} {A : World → Prop} (A' : World → Prop) (hA : ∀ w, A w → A' w) (k : TC P n c Q σ A') : TC P n c Q σ A := fun a w hf h => k a w hf (hA w h)
def en : Nat → List Value → List (Nat × Value)
 | _, [] => []
 | i, v :: r => (i, v) :: en (i + 1) r
theorem segs_all (m : Nat) : ∀ (vs : List Value) (pl : List (Nat × Nat)) (zs : List Value) (i : Nat), pl.map (·.2) = List.replicate vs.length m → zs.length = vs.length * m → (∀ v ∈ vs, v.cells.toList.length = m) →
  segs pl zs (en i vs) i = some ((vs.map fun v => v.cells.toList).flatten)
 | [], pl, zs, i, hp, hz, _ => by
  have hz : zs = [] := List.eq_nil_of_length_eq_zero (by simpa using hz)
  cases pl <;> simp_all [segs, en]
 | v :: vs, pl, zs, i, hp, hz, h => by
  cases pl with
  | nil => simp [List.replicate_succ] at hp
  | cons x pl =>
   obtain ⟨o, sz⟩ := x
   simp only [List.map_cons, List.length_cons, List.replicate_succ, List.cons.injEq] at hp
   obtain ⟨rfl, hp⟩ := hp
   have h1 : Nat.beq v.cells.toList.length sz = true := by rw [h v (List.mem_cons_self ..)]; exact Nat.beq_refl sz
   have h2 : Nat.beq i i = true := Nat.beq_refl i
   have ih := segs_all sz vs pl (zs.drop sz) (i + 1) hp (by rw [List.length_drop, hz, List.length_cons, Nat.add_mul]; omega) (fun u hu => h u (List.mem_cons_of_mem _ hu))
   simp only [segs, en, h2, cond_true, h1, ih, List.map_cons, List.flatten_cons]
/-- What an element's type is, for append and make. -/
structure ElemOk (P : Program) (e size bytes : Nat) (z : Value) : Prop where
 info : ∃ i, P.info? e = some i ∧ i.size = size ∧ i.bytes = bytes ∧ i.zero = some z
 zsz : z.cells.size = size
 pos : 0 < size
theorem ElemOk.of {P : Program} {e size bytes : Nat} {z : Value} (h1 : Sz P e size) (h2 : (P.info? e).map (·.bytes) = some bytes) (h3 : ZeroOk P e z) (h4 : z.cells.size = size) (h5 : 0 < size) : ElemOk P e size bytes z := by
 refine ⟨?_, h4, h5⟩
 unfold Sz at h1
 unfold ZeroOk at h3
 cases hq : P.info? e with
 | none => simp [hq] at h1
 | some i => simp [hq] at h1 h2 h3; exact ⟨i, rfl, h1, h2, h3⟩
def zv (ks : List IntKind) : Value := .agg (ks.map fun k => .int k 0).toArray
section
variable {P : Program}
theorem run_appendK {w0 : Base} {η H : Heap} {w : World} {t ty e size bytes : Nat} {z v : Value} {n : Nat} {xs : List Value} (ht : P.underlying t = some (.slice e)) (he : ElemOk P e size bytes z)
    (hw : St w0 (H ++ η) w) (hF : Frag e size v n xs H) (a : Addr) (m c : Nat) (news : List Value) (hl : news.length = m * size) (hnews : ∀ j u, news[j]? = some u → w.cell? (a.add j) = some u) (h1 : ∀ u ∈ news, u.oneCell' = true)
    (hbytes : (n + m) * bytes ≤ 140737488355328) (h63 : n + m ≤ 9223372036854775807) :
    ∃ v' w' H', (Builtin.append_ #[t, t] ty #[v, .slice (some a) m c]).run P w = .ok v' w' ∧ Frag e size v' (n + m) (xs ++ news) H' ∧
      (((v' = v ∧ m = 0 ∧ H' = H ∨ ∃ b cap rest, v = .slice (some ⟨b, 0, none⟩) n cap ∧ v' = .slice (some ⟨b, 0, none⟩) (n + m) cap ∧ H = [(b, e, xs ++ rest)] ∧ H' = [(b, e, (xs ++ news) ++ rest.drop news.length)]) ∧ St w0 (H' ++ η) w') ∨ St w0 (H' ++ (H ++ η)) w') := by
  obtain ⟨⟨i, hi, hs, hb, hz⟩, hzs, hpos⟩ := he
  subst hs; subst hb
  obtain ⟨hxl, hF⟩ := hF
  have hlen : (xs ++ news).length = (n + m) * i.size := by rw [List.length_append, hxl, hl, Nat.add_mul]
  rcases hF with ⟨rfl, rfl, rfl⟩ | ⟨b, cap, rest, rfl, hc, hcl, rfl⟩
  · have hx : xs = [] := List.eq_nil_of_length_eq_zero (by simpa using hxl)
    subst hx
    by_cases hm : m = 0
    · subst hm
      have hn : news = [] := List.eq_nil_of_length_eq_zero (by simpa using hl)
      subst hn
      refine ⟨.slice none 0 0, w, [], ?_, Frag.nil e _, .inl ⟨.inl ⟨rfl, rfl, rfl⟩, hw⟩⟩
      simp [Builtin.append_, run_underlying ht, sizeOf, typeInfo, hi, Builtin.lenOf, Builtin.firstCells, loadCells, loadCellsFrom]
    · have hr := run_append_nil (P := P) w t ty e i z ht hi hz a m c news hl hnews (by omega) (by omega) (by simp only [Nat.zero_add] at hbytes; omega)
      have hge := grownCap_ge w m 0 e
      have hcm : grownCap w m 0 e ≤ 9223372036854775807 := grownCap_le_maxLen w m 0 e (by simp only [maxLen]; omega)
      refine ⟨_, _, _, hr, ⟨by simpa using hlen, .inr ⟨w.heap.size, grownCap w m 0 e, (Builtin.zeroCells z.cells (grownCap w m 0 e - m)).toList, by simp, ⟨by omega, hcm⟩, ?_, rfl⟩⟩, .inr ?_⟩
      · simp only [List.nil_append, List.length_append, Array.length_toList, size_zeroCells, hzs, hl, ← Nat.add_mul]
        refine Nat.mul_le_mul_right _ ?_; omega
      · have := St.alloc (w0 := w0) (η := η) (w := w.drew) (by exact ⟨hw.below.drew, hw.blk, hw.own, hw.nodup⟩) e (news.toArray ++ Builtin.zeroCells z.cells (grownCap w m 0 e - m))
        simpa using this
  · by_cases hroom : n + m ≤ cap
    · have hfit : n * i.size + news.length ≤ (xs ++ rest).toArray.size := by rw [hl, List.size_toArray, ← Nat.add_mul]; exact Nat.le_trans (Nat.mul_le_mul_right _ hroom) hcl
      have hr := run_append_room (P := P) w t ty e i ht hi b n cap (xs ++ rest).toArray (hw.blk (b, e, xs ++ rest) (by simp)) a m c news hl hnews h1 hroom hfit
      have e1 : ((xs ++ rest).toArray.toList.take (n * i.size) ++ news ++ (xs ++ rest).toArray.toList.drop (n * i.size + news.length)) = (xs ++ news) ++ rest.drop news.length := by
        simp only [List.toList_toArray, ← hxl]
        rw [List.take_left, List.drop_append]
        simp
      rw [e1] at hr
      refine ⟨_, _, [(b, e, (xs ++ news) ++ rest.drop news.length)], hr, ⟨hlen, .inr ⟨b, cap, rest.drop news.length, rfl, ⟨hroom, hc.2⟩, ?_, rfl⟩⟩, .inl ⟨.inr ⟨b, cap, rest, rfl, rfl, rfl, rfl⟩, ?_⟩⟩
      · simp only [List.size_toArray] at hfit
        simp only [List.length_append, List.length_drop] at hcl hfit ⊢
        omega
      · exact St.setRow (w0 := w0) (by simpa using hw)
    · have holds : ∀ j u, xs[j]? = some u → w.cell? ((⟨b, 0, none⟩ : Addr).add j) = some u := by
        intro j u hu
        have := Rd.ownA (w0 := w0) (η := [(b, e, xs ++ rest)] ++ η) (T := e) (cs := xs ++ rest) (xs := xs) (b := b) (by simp) 0 (by simp) w hw j u hu
        rw [add_mk]; exact this
      have hr := run_append_grow (P := P) w t ty e i z ht hi hz ⟨b, 0, none⟩ n cap xs hxl holds a m c news hl hnews (by omega) (by omega) (growslice_fits (by omega) hbytes)
      have hge := grownCap_ge w (n + m) cap e
      have hcm : grownCap w (n + m) cap e ≤ 9223372036854775807 := grownCap_le_maxLen w (n + m) cap e (by simp only [maxLen]; omega)
      refine ⟨_, _, _, hr, ⟨hlen, .inr ⟨w.heap.size, grownCap w (n + m) cap e, (Builtin.zeroCells z.cells (grownCap w (n + m) cap e - (n + m))).toList, rfl, ⟨hge, hcm⟩, ?_, rfl⟩⟩, .inr ?_⟩
      · rw [List.length_append, hlen, Array.length_toList, size_zeroCells, hzs, ← Nat.add_mul]
        refine Nat.mul_le_mul_right _ ?_; omega
      · have := St.alloc (w0 := w0) (η := [(b, e, xs ++ rest)] ++ η) (w := w.drew) (by exact ⟨hw.below.drew, hw.blk, hw.own, hw.nodup⟩) e (xs.toArray ++ news.toArray ++ Builtin.zeroCells z.cells (grownCap w (n + m) cap e - (n + m)))
        simpa using this
theorem run_appendF {w0 : Base} {η H : Heap} {w : World} {t ty e size bytes : Nat} {z v : Value} {n : Nat} {xs : List Value} (ht : P.underlying t = some (.slice e)) (he : ElemOk P e size bytes z)
  (hw : St w0 (H ++ η) w) (hF : Frag e size v n xs H) (a : Addr) (m c : Nat) (news : List Value) (hl : news.length = m * size) (hnews : ∀ j u, news[j]? = some u → w.cell? (a.add j) = some u) (h1 : ∀ u ∈ news, u.oneCell' = true)
  (hbytes : (n + m) * bytes ≤ 140737488355328) (h63 : n + m ≤ 9223372036854775807) :
  ∃ v' w' H', (Builtin.append_ #[t, t] ty #[v, .slice (some a) m c]).run P w = .ok v' w' ∧ Frag e size v' (n + m) (xs ++ news) H' ∧ St w0 (H' ++ η) w' := by
 obtain ⟨v', w', H', h1, h2, h3⟩ := run_appendK (ty := ty) ht he hw hF a m c news hl hnews h1 hbytes h63
 refine ⟨v', w', H', h1, h2, ?_⟩
 rcases h3 with ⟨_, h3⟩ | h3
 · exact h3
 · exact h3.cnt (fun p => by simp only [List.countP_append]; omega)
variable {n : Nat} {ops : Array Oper} {o : Oper} {σ : Slots} {A : World → Prop} {g : Bool} {v : Value} {x y z : Operand} {c c1 c2 c3 : Bool} {t t2 : TypeId} {k : IntKind} {p q : Int}
theorem run_builtin_append {s y : Operand} {t1 t2 : TypeId} {a : Act} {w : World} {u v : Value} (hop : o.op = .call { callee := .builtin .append, args := #[s, y], argTypes := #[t1, t2] }) (hf : Fr n σ a)
  (hs : ev σ s = some (true, u)) (hy : ev σ y = some (true, v)) : (execOp a.eval o).run P w = ((Builtin.append_ #[t1, t2] o.type #[u, v]).run P w).andThen fun r w' => .ok (.value r) w' := by
 unfold execOp
 simp only [hop, resolve, invoke, builtin, Sem.run_bind, Sem.run_pure, Result.andThen_ok, List.map_toArray, List.map_cons, List.map_nil, hf.eval hs rfl, hf.eval hy rfl]
/-- 'append' of a slice that is read, onto one of the call's own; the block of the one appended, if it is a new one of this operation, goes. L: the blocks ahead. -/
theorem ET_appendL {w0 : Base} {η H L : Heap} {t e size bytes : Nat} {z sv yv : Value} {s y : Operand} {m l : Nat} {xs news : List Value}
    (hop : o.op = .call { callee := .builtin .append, args := #[s, y], argTypes := #[t, t] }) (ht : P.underlying t = some (.slice e)) (he : ElemOk P e size bytes z)
    (hs : ev σ s = some (true, sv)) (hy : ev σ y = some (true, yv)) (hF : Frag e size sv l xs H) (hA : ∀ w, A w → St w0 (L ++ (H ++ η)) w) (hR : SlA A yv size m news) (h1 : ∀ u ∈ news, u.oneCell' = true)
    (hbytes : (l + m) * bytes ≤ 140737488355328) (h63 : l + m ≤ 9223372036854775807) :
    ET P n o σ A fun r A' => ∃ H', Frag e size r (l + m) (xs ++ news) H' ∧ A' = St w0 (L ++ (H' ++ η)) := by
  intro a w hf hw K Q hK
  obtain ⟨hl, ad, cap, rfl, hc, hr⟩ := hR
  have hp : (H ++ (L ++ η)).Perm (L ++ (H ++ η)) := by
    rw [← List.append_assoc, ← List.append_assoc]
    exact List.Perm.append_right _ List.perm_append_comm
  have hw1 : St w0 (H ++ (L ++ η)) w := (hA w hw).perm hp
  unfold Oper.wp
  rw [run_builtin_append hop hf hs hy]
  rcases hr with rfl | ⟨b, off, rfl, hrd⟩
  · have hn : news = [] := List.eq_nil_of_length_eq_zero (by simpa using hl)
    subst hn
    have : (Builtin.append_ #[t, t] o.type #[sv, .slice ad 0 cap]).run P w = .ok sv w := by
      obtain ⟨⟨i, hi, hsz, hb, hz⟩, hzs, hpos⟩ := he
      have hfc : (Builtin.firstCells i.size 0 (.slice ad 0 cap)).run P w = .ok #[] w := by cases ad <;> simp [Builtin.firstCells, loadCells, loadCellsFrom]
      obtain ⟨_, hF⟩ := hF
      rcases hF with ⟨rfl, rfl, rfl⟩ | ⟨b, cap', rest, rfl, hc', _, rfl⟩
      · simp [Builtin.append_, run_underlying ht, sizeOf, typeInfo, hi, Builtin.lenOf, hfc]
      · simp [Builtin.append_, run_underlying ht, sizeOf, typeInfo, hi, Builtin.lenOf, hfc, hc'.1, storeCells]
    rw [this]
    simp only [Result.andThen_ok]
    rw [Oper.upon_value]
    exact hK _ _ _ ⟨H, by simpa using hF, rfl⟩ (hA w hw)
  · obtain ⟨v', w', H', hr', hF', hw'⟩ := run_appendF (P := P) (ty := o.type) ht he hw1 hF ⟨b, off, none⟩ m cap news hl (fun j u hu => by rw [add_mk]; exact hrd w hw j u hu) h1 hbytes h63
    rw [hr']
    simp only [Result.andThen_ok]
    rw [Oper.upon_value]
    refine hK _ _ _ ⟨H', hF', rfl⟩ (hw'.perm ?_)
    rw [← List.append_assoc, ← List.append_assoc]
    exact List.Perm.append_right _ List.perm_append_comm
/-- 'append', by which the old block stays readable. -/
theorem ET_appendK {w0 : Base} {η H L : Heap} {t e size bytes : Nat} {z sv yv : Value} {s y : Operand} {m l : Nat} {xs news : List Value} (h0 : 0 < m)
    (hop : o.op = .call { callee := .builtin .append, args := #[s, y], argTypes := #[t, t] }) (ht : P.underlying t = some (.slice e)) (he : ElemOk P e size bytes z)
    (hs : ev σ s = some (true, sv)) (hy : ev σ y = some (true, yv)) (hF : Frag e size sv l xs H) (hA : ∀ w, A w → St w0 (L ++ (H ++ η)) w) (hR : SlA A yv size m news) (h1 : ∀ u ∈ news, u.oneCell' = true)
    (hbytes : (l + m) * bytes ≤ 140737488355328) (h63 : l + m ≤ 9223372036854775807) :
    ET P n o σ A fun r A' => ∃ H', Frag e size r (l + m) (xs ++ news) H' ∧
      (((∃ b cap rest, sv = .slice (some ⟨b, 0, none⟩) l cap ∧ r = .slice (some ⟨b, 0, none⟩) (l + m) cap ∧ H = [(b, e, xs ++ rest)] ∧ H' = [(b, e, (xs ++ news) ++ rest.drop news.length)]) ∧ A' = St w0 (L ++ (H' ++ η))) ∨ A' = St w0 (L ++ (H' ++ (H ++ η)))) := by
  intro a w hf hw K Q hK
  obtain ⟨hl, ad, cap, rfl, hc, hr⟩ := hR
  have hw1 : St w0 (H ++ (L ++ η)) w := (hA w hw).cnt (fun p => by simp only [List.countP_append]; omega)
  unfold Oper.wp
  rw [run_builtin_append hop hf hs hy]
  obtain ⟨b, off, rfl, hrd⟩ := hr.resolve_left (by omega)
  obtain ⟨v', w', H', hr', hF', hw'⟩ := run_appendK (P := P) (ty := o.type) ht he hw1 hF ⟨b, off, none⟩ m cap news hl (fun j u hu => by rw [add_mk]; exact hrd w hw j u hu) h1 hbytes h63
  rw [hr']
  simp only [Result.andThen_ok]
  rw [Oper.upon_value]
  rcases hw' with ⟨h2, hw'⟩ | hw'
  · refine hK _ _ _ ⟨H', hF', .inl ⟨?_, rfl⟩⟩ (hw'.cnt (fun p => by simp only [List.countP_append]; omega))
    rcases h2 with ⟨_, h2, _⟩ | h2
    · omega
    · exact h2
  · exact hK _ _ _ ⟨H', hF', .inr rfl⟩ (hw'.cnt (fun p => by simp only [List.countP_append]; omega))
/-- 'append' where there is room, in place. -/
theorem ET_appendRoom {w0 : Base} {η : Heap} {t e size b T l m cp : Nat} {s y : Operand} {yv : Value} {cs news : List Value} (i : Nat)
    (hop : o.op = .call { callee := .builtin .append, args := #[s, y], argTypes := #[t, t] }) (ht : P.underlying t = some (.slice e)) (hm : Sz P e size)
    (hs : ev σ s = some (true, .slice (some ⟨b, 0, none⟩) l cp)) (hy : ev σ y = some (true, yv)) (hi : nth η i = some (b, T, cs)) (hR : SlA (St w0 η) yv size m news) (h1 : ∀ u ∈ news, u.oneCell' = true)
    (hroom : l + m ≤ cp) (hfit : cp * size ≤ cs.length) :
    ET P n o σ (St w0 η) fun r A' => r = .slice (some ⟨b, 0, none⟩) (l + m) cp ∧ A' = St w0 (upd η i (cs.take (l * size) ++ news ++ cs.drop (l * size + news.length))) := by
  intro a w hf hw K Q hK
  obtain ⟨hl, ad, cap, rfl, hc, hr⟩ := hR
  have hms : (l + m) * size ≤ cp * size := Nat.mul_le_mul_right _ hroom
  rw [Nat.add_mul] at hms
  have hinfo : ∃ inf, P.info? e = some inf ∧ inf.size = size := by
    unfold Sz at hm
    cases hq : P.info? e with
    | none => simp [hq] at hm
    | some inf => simp [hq] at hm; exact ⟨inf, rfl, hm⟩
  obtain ⟨inf, hinf, hsz⟩ := hinfo
  have hfirst : (Builtin.firstCells size m (.slice ad m cap)).run P w = .ok news.toArray w := by
    rcases hr with rfl | ⟨b', off', rfl, hrd⟩
    · have hn : news = [] := List.eq_nil_of_length_eq_zero (by simpa using hl)
      subst hn
      cases ad <;> simp [Builtin.firstCells, loadCells, loadCellsFrom]
    · have := run_loadCells_list (P := P) w ⟨b', off', none⟩ news (fun j v hv => by rw [add_mk]; exact hrd w hw j v hv)
      rw [hl] at this
      simpa [Builtin.firstCells] using this
  obtain ⟨w', hrun, hst⟩ := St.storeCells (P := P) news η w (l * size) 0 cs hw hi h1 (by omega)
  have eset : ∀ (vs pre cs : List Value), vs.length ≤ cs.length → setAt (pre ++ cs) pre.length vs = pre ++ vs ++ cs.drop vs.length := by
    intro vs
    induction vs with
    | nil => intro pre cs _; simp [setAt]
    | cons v r ih =>
      intro pre cs h
      cases cs with
      | nil => simp at h
      | cons c cs =>
        simp only [setAt]
        have e1 : (pre ++ c :: cs).set pre.length v = (pre ++ [v]) ++ cs := by simp
        rw [e1]
        have := ih (pre ++ [v]) cs (by simpa using h)
        simp only [List.length_append, List.length_cons, List.length_nil, Nat.zero_add] at this
        rw [this]
        simp
  have e2 : setAt cs (l * size) news = cs.take (l * size) ++ news ++ cs.drop (l * size + news.length) := by
    have h := eset news (cs.take (l * size)) (cs.drop (l * size)) (by rw [List.length_drop]; omega)
    rw [List.take_append_drop, List.length_take, Nat.min_eq_left (by omega), List.drop_drop] at h
    exact h
  unfold Oper.wp
  rw [run_builtin_append hop hf hs hy]
  have : (Builtin.append_ #[t, t] o.type #[.slice (some ⟨b, 0, none⟩) l cp, .slice ad m cap]).run P w = .ok (.slice (some ⟨b, 0, none⟩) (l + m) cp) w' := by
    subst hsz
    have e3 : (⟨b, 0, none⟩ : Addr).add (l * inf.size) = ⟨b, l * inf.size, none⟩ := by rw [add_mk, Nat.zero_add]
    simp [Builtin.append_, run_underlying ht, sizeOf, typeInfo, hinf, Builtin.lenOf, hroom, hfirst, e3, hrun]
  rw [this]
  simp only [Result.andThen_ok]
  rw [Oper.upon_value]
  refine hK _ _ _ ⟨rfl, rfl⟩ ?_
  rw [Nat.add_zero, e2] at hst
  exact hst
def enT : Nat → List Value → List (Bool × Nat × Value)
 | _, [] => []
 | i, v :: r => (true, i, v) :: enT (i + 1) r
theorem enT_en : ∀ (i : Nat) (vs : List Value), (enT i vs).map (·.2) = en i vs
 | _, [] => rfl
 | i, v :: r => by simp [enT, en, enT_en (i + 1) r]
theorem enT_all : ∀ (i : Nat) (vs : List Value), (enT i vs).all (·.1) = true
 | _, [] => rfl
 | i, v :: r => by simp [enT, enT_all (i + 1) r]
/-- A slice written out of whole elements. -/
theorem ET_buildN {w0 : Base} {η : Heap} {e m len : Nat} {zs : Value} {ps : Array (Nat × Operand)} (vs : List Value) (hop : o.op = .buildSlice t len ps) (hu : P.underlying t = some (.slice e)) (hm : Sz P e m) (hz : ZeroOk P e zs)
    (he : evp σ ps.toList = some (enT 0 vs)) (hlen : vs.length = len) (hl : Nat.ble (len * m) 16777216 = true) (hall : ∀ v ∈ vs, v.cells.toList.length = m) :
    ET P n o σ (St w0 η) fun r A' => ∃ b, r = .slice (some ⟨b, 0, none⟩) len len ∧ A' = St w0 ((b, e, (vs.map fun v => v.cells.toList).flatten) :: η) := by
  subst hlen
  refine ET_buildSlice hop hu hm hz he hl ?_ (enT_all 0 vs)
  rw [enT_en]
  exact segs_all m vs _ _ 0 (by rw [List.map_map]; simp [Function.comp_def, List.map_const']) (by simp) hall
/-! ### slices of slices and of arrays -/
theorem run_bound {k : IntKind} {p : Int} {h y : Nat} {code : BoundsCode} {w : World} (hp : p = (h : Int)) (hh : h ≤ y) : (Instr.sliceBound (.int k p) y code).run P w = .ok h w := by
 subst hp
 have := run_sliceBound (P := P) (w := w) k (h : Int) y code (by omega) (by omega)
 simpa using this
theorem add_zero_addr (a : Addr) : a.add 0 = a := by simp [Addr.add]
/-- s[:h] -/
theorem QT_slcH {e size len cap : Nat} {ad : Option Addr} {lo mx : Option Operand} (h : Nat) (hg : gdc ops σ o = some g) (hop : o.op = .slice t x lo (some y) mx) (hlo : lo = none) (hmx : mx = none) (hu : P.underlying t = some (.slice e)) (hm : Sz P e size)
    (hx : ev σ x = some (c1, .slice ad len cap)) (hy : ev σ y = some (c2, .int k p)) (hp : p = (h : Int)) (hh : g = true → h ≤ cap)
    (hc : g = true → c1 = true ∧ c2 = true := by first | exact fun _ => ⟨rfl, rfl⟩ | (intro h; first | grind | simp_all)) : QT P n ops o σ A g (.slice ad h cap) :=
  QT.mk hg fun a w hf _ hgt => by
    subst hlo hmx
    have e1 := fun code => run_bound (P := P) (w := w) (k := k) (code := code) hp (hh hgt)
    simp [execOp, hop, hf.eval hx (hc hgt).1, hf.eval hy (hc hgt).2, Instr.sliceAt, Instr.slice, Instr.sliceBounds, run_underlying hu, e1, run_sizeOf hm, add_zero_addr]
/-- s[l:] -/
theorem QT_slcL {e size len cap : Nat} {ad : Option Addr} {hi mx : Option Operand} (l : Nat) (hg : gdc ops σ o = some g) (hop : o.op = .slice t x (some y) hi mx) (hhi : hi = none) (hmx : mx = none) (hu : P.underlying t = some (.slice e)) (hm : Sz P e size)
    (hx : ev σ x = some (c1, .slice ad len cap)) (hy : ev σ y = some (c2, .int k p)) (hp : p = (l : Int)) (hl : g = true → l ≤ len)
    (hc : g = true → c1 = true ∧ c2 = true := by first | exact fun _ => ⟨rfl, rfl⟩ | (intro h; first | grind | simp_all)) : QT P n ops o σ A g (.slice (if cap = l then ad else ad.map (·.add (l * size))) (len - l) (cap - l)) :=
  QT.mk hg fun a w hf _ hgt => by
    subst hhi hmx
    have e1 := fun code => run_bound (P := P) (w := w) (k := k) (code := code) hp (hl hgt)
    simp [execOp, hop, hf.eval hx (hc hgt).1, hf.eval hy (hc hgt).2, Instr.sliceAt, Instr.slice, Instr.sliceBounds, run_underlying hu, e1, run_sizeOf hm]
/-- s[l:h] -/
theorem QT_slcLH {e size len cap : Nat} {ad : Option Addr} {mx : Option Operand} {q : Int} {k2 : IntKind} (l h : Nat) (hg : gdc ops σ o = some g) (hop : o.op = .slice t x (some y) (some z) mx) (hmx : mx = none) (hu : P.underlying t = some (.slice e)) (hm : Sz P e size)
    (hx : ev σ x = some (c1, .slice ad len cap)) (hy : ev σ y = some (c2, .int k p)) (hz : ev σ z = some (c3, .int k2 q)) (hp : p = (l : Int)) (hq : q = (h : Int)) (hl : g = true → l ≤ h ∧ h ≤ cap)
    (hc : g = true → c1 = true ∧ c2 = true ∧ c3 = true := by first | exact fun _ => ⟨rfl, rfl, rfl⟩ | (intro h; first | grind | simp_all)) : QT P n ops o σ A g (.slice (if cap = l then ad else ad.map (·.add (l * size))) (h - l) (cap - l)) :=
  QT.mk hg fun a w hf _ hgt => by
    subst hmx
    have e1 := fun code => run_bound (P := P) (w := w) (k := k) (code := code) hp (hl hgt).1
    have e2 := fun code => run_bound (P := P) (w := w) (k := k2) (code := code) hq (hl hgt).2
    simp [execOp, hop, hf.eval hx (hc hgt).1, hf.eval hy (hc hgt).2.1, hf.eval hz (hc hgt).2.2, Instr.sliceAt, Instr.slice, Instr.sliceBounds, run_underlying hu, e1, e2, run_sizeOf hm]
/-- s[:h:m] -/
theorem QT_slcHM {e size len cap : Nat} {ad : Option Addr} {lo : Option Operand} {q : Int} {k2 : IntKind} (h m : Nat) (hg : gdc ops σ o = some g) (hop : o.op = .slice t x lo (some y) (some z)) (hlo : lo = none) (hu : P.underlying t = some (.slice e)) (hm : Sz P e size)
    (hx : ev σ x = some (c1, .slice ad len cap)) (hy : ev σ y = some (c2, .int k p)) (hz : ev σ z = some (c3, .int k2 q)) (hp : p = (h : Int)) (hq : q = (m : Int)) (hl : g = true → h ≤ m ∧ m ≤ cap)
    (hc : g = true → c1 = true ∧ c2 = true ∧ c3 = true := by first | exact fun _ => ⟨rfl, rfl, rfl⟩ | (intro h; first | grind | simp_all)) : QT P n ops o σ A g (.slice ad h m) :=
  QT.mk hg fun a w hf _ hgt => by
    subst hlo
    have e1 := fun code => run_bound (P := P) (w := w) (k := k) (code := code) hp (hl hgt).1
    have e2 := fun code => run_bound (P := P) (w := w) (k := k2) (code := code) hq (hl hgt).2
    simp [execOp, hop, hf.eval hx (hc hgt).1, hf.eval hy (hc hgt).2.1, hf.eval hz (hc hgt).2.2, Instr.sliceAt, Instr.slice, Instr.sliceBounds, run_underlying hu, e1, e2, run_sizeOf hm, add_zero_addr]
/-- a[:] of an array's address -/
theorem QT_slaA {e size N b off : Nat} {lo hi mx : Option Operand} (hg : gdc ops σ o = some g) (hop : o.op = .slice t x lo hi mx) (hlo : lo = none) (hhi : hi = none) (hmx : mx = none) (hu : P.underlying t = some (.array N e)) (hm : Sz P e size)
    (hx : ev σ x = some (c, .pointer (some ⟨b, off, none⟩)))
    (hc : g = true → c = true := by first | exact fun _ => rfl | (intro h; first | grind | simp_all)) : QT P n ops o σ A g (.slice (some ⟨b, off, none⟩) N N) :=
  QT.mk hg fun a w hf _ hgt => by
    subst hlo hhi hmx
    simp [execOp, hop, hf.eval hx (hc hgt), Instr.sliceAt, Instr.sureAddr, Instr.sliceBounds, run_underlying hu, run_sizeOf hm, add_mk]
/-- a[l:] -/
theorem QT_slaL {e size N b off : Nat} {hi mx : Option Operand} (l : Nat) (hg : gdc ops σ o = some g) (hop : o.op = .slice t x (some y) hi mx) (hhi : hi = none) (hmx : mx = none) (hu : P.underlying t = some (.array N e)) (hm : Sz P e size)
    (hx : ev σ x = some (c1, .pointer (some ⟨b, off, none⟩))) (hy : ev σ y = some (c2, .int k p)) (hp : p = (l : Int)) (hl : g = true → l < N)
    (hc : g = true → c1 = true ∧ c2 = true := by first | exact fun _ => ⟨rfl, rfl⟩ | (intro h; first | grind | simp_all)) : QT P n ops o σ A g (.slice (some ⟨b, off + l * size, none⟩) (N - l) (N - l)) :=
  QT.mk hg fun a w hf _ hgt => by
    subst hhi hmx
    have hl' := hl hgt
    have e1 := fun code => run_bound (P := P) (w := w) (k := k) (code := code) hp (Nat.le_of_lt hl')
    have e2 : ¬ N = l := by omega
    simp [execOp, hop, hf.eval hx (hc hgt).1, hf.eval hy (hc hgt).2, Instr.sliceAt, Instr.sureAddr, Instr.sliceBounds, run_underlying hu, e1, run_sizeOf hm, add_mk, e2]
/-- a[l:h] -/
theorem QT_slaLH {e size N b off : Nat} {mx : Option Operand} {q : Int} {k2 : IntKind} (l h : Nat) (hg : gdc ops σ o = some g) (hop : o.op = .slice t x (some y) (some z) mx) (hmx : mx = none) (hu : P.underlying t = some (.array N e)) (hm : Sz P e size)
    (hx : ev σ x = some (c1, .pointer (some ⟨b, off, none⟩))) (hy : ev σ y = some (c2, .int k p)) (hz : ev σ z = some (c3, .int k2 q)) (hp : p = (l : Int)) (hq : q = (h : Int)) (hl : g = true → l ≤ h ∧ h ≤ N ∧ l < N)
    (hc : g = true → c1 = true ∧ c2 = true ∧ c3 = true := by first | exact fun _ => ⟨rfl, rfl, rfl⟩ | (intro h; first | grind | simp_all)) : QT P n ops o σ A g (.slice (some ⟨b, off + l * size, none⟩) (h - l) (N - l)) :=
  QT.mk hg fun a w hf _ hgt => by
    subst hmx
    have hl' := hl hgt
    have e1 := fun code => run_bound (P := P) (w := w) (k := k) (code := code) hp hl'.1
    have e2 := fun code => run_bound (P := P) (w := w) (k := k2) (code := code) hq hl'.2.1
    have e3 : ¬ N = l := by omega
    simp [execOp, hop, hf.eval hx (hc hgt).1, hf.eval hy (hc hgt).2.1, hf.eval hz (hc hgt).2.2, Instr.sliceAt, Instr.sureAddr, Instr.sliceBounds, run_underlying hu, e1, e2, run_sizeOf hm, add_mk, e3]
/-! ### make -/
theorem ET_make {w0 : Base} {η : Heap} {e size bytes : Nat} {zv : Value} {kl kc : IntKind} {p q : Int} (cp : Nat) (hop : o.op = .makeSlice t x y) (ht : P.underlying t = some (.slice e)) (he : ElemOk P e size bytes zv)
  (hx : ev σ x = some (true, .int kl p)) (hy : ev σ y = some (true, .int kc q)) (hp : p = 0) (hq : q = (cp : Int)) (hb : bytes * cp ≤ 281474976710656) (h63 : cp ≤ 9223372036854775807) :
  ET P n o σ (St w0 η) fun r A' => ∃ b rest, r = .slice (some ⟨b, 0, none⟩) 0 cp ∧ rest.length = cp * size ∧ A' = St w0 ((b, e, rest) :: η) := by
 intro a w hf hw K Q hK
 subst hp hq
 obtain ⟨⟨i, hi, hs, hbt, hz⟩, hzs, hpos⟩ := he
 subst hs; subst hbt
 have hr := run_make (P := P) w t e i zv ht hi hz kl kc 0 (cp : Int) (Int.le_refl _) (by omega) (by rw [← Int.natCast_mul]; omega) (by omega)
 unfold Oper.wp
 have : (execOp a.eval o).run P w = .ok (.value (.slice (some ⟨w.heap.size, 0, none⟩) 0 cp)) (w.alloc (.cells (madeCells zv.cells (cp * i.size)) e)) := by
  simp [execOp, hop, hf.eval hx rfl, hf.eval hy rfl, hr]
 rw [this, Oper.upon_value]
 exact hK _ _ _ ⟨_, (madeCells zv.cells (cp * i.size)).toList, rfl, by rw [Array.length_toList, size_madeCells], rfl⟩ (St.alloc hw e _)
/-! ### copy -/
theorem QT_min {ad ad2 : Int} (hg : gdc ops σ o = some g) (hop : o.op = .call { callee := .builtin .min, args := #[x, y], argTypes := #[t, t2] }) (hx : ev σ x = some (c1, .int k ad)) (hy : ev σ y = some (c2, .int k ad2))
  (hc : g = true → c1 = true ∧ c2 = true := by first | exact fun _ => ⟨rfl, rfl⟩ | (intro h; first | grind | simp_all)) : QT P n ops o σ A g (.int k (min ad ad2)) :=
 QT.mk hg fun a w hf hA h => by
  have e : (if ad2 < ad then ad2 else ad) = min ad ad2 := by split <;> omega
  simp [execOp, hop, hf.eval hx (hc h).1, hf.eval hy (hc h).2, resolve, invoke, builtin, Builtin.min_, Builtin.min2, e]
theorem ET_copy {w0 : Base} {η : Heap} {e size b off T dl dc m : Nat} {cs news : List Value} {yv : Value} (i : Nat) (hop : o.op = .call { callee := .builtin .copy, args := #[x, y], argTypes := #[t, t2] }) (ht : P.underlying t = some (.slice e)) (hm : Sz P e size)
    (hx : ev σ x = some (true, .slice (some ⟨b, off, none⟩) dl dc)) (hy : ev σ y = some (true, yv)) (hi : nth η i = some (b, T, cs)) (hR : SlA (St w0 η) yv size m news) (h1 : ∀ u ∈ news, u.oneCell' = true) (hfit : off + min m dl * size ≤ cs.length) :
    ET P n o σ (St w0 η) fun r A' => r = .int .i64 ((min m dl : Nat) : Int) ∧ A' = St w0 (upd η i (setAt cs off (news.take (min m dl * size)))) := by
  intro a w hf hw K Q hK
  obtain ⟨hl, ad, cap, rfl, hc, hr⟩ := hR
  have hnl : (news.take (min m dl * size)).length = min m dl * size := by
    rw [List.length_take, hl]
    exact Nat.min_eq_left (Nat.mul_le_mul_right _ (Nat.min_le_left ..))
  have hfirst : (Builtin.firstCells size (min m dl) (.slice ad m cap)).run P w = .ok (news.take (min m dl * size)).toArray w := by
    rcases hr with rfl | ⟨b', off', rfl, hrd⟩
    · have hn : news = [] := List.eq_nil_of_length_eq_zero (by simpa using hl)
      subst hn
      cases ad <;> simp [Builtin.firstCells, loadCells, loadCellsFrom]
    · have := run_loadCells_list (P := P) w ⟨b', off', none⟩ (news.take (min m dl * size)) (fun j v hv => by
        rw [add_mk]
        rw [List.getElem?_take] at hv
        split at hv
        · exact hrd w hw j v hv
        · cases hv)
      rw [hnl] at this
      simpa [Builtin.firstCells] using this
  obtain ⟨w', hrun, hst⟩ := St.storeCells (P := P) (news.take (min m dl * size)) η w off 0 cs hw hi (fun u hu => h1 u (List.mem_of_mem_take hu)) (by rw [hnl]; omega)
  unfold Oper.wp
  have : (execOp a.eval o).run P w = .ok (.value (.int .i64 ((min m dl : Nat) : Int))) w' := by
    have hmin : Nat.min m dl = min m dl := rfl
    unfold execOp
    simp only [hop, resolve, invoke, builtin, Sem.run_bind, Sem.run_pure, Result.andThen_ok, List.map_toArray, List.map_cons, List.map_nil, hf.eval hx rfl, hf.eval hy rfl]
    simp [Builtin.copy_, run_underlying ht, Builtin.lenOf, run_sizeOf hm, hmin, hfirst, hrun, goInt]
  rw [this, Oper.upon_value]
  exact hK _ _ _ ⟨rfl, rfl⟩ (by simpa using hst)
/-! ### equality of structs and arrays of integers -/
def litOf : Value → Lit
 | .int k z => .int k z
 | _ => .bool false
theorem Ints.split {ks ks' : List IntKind} {cs : List Value} (h : Ints (ks ++ ks') cs) : Ints ks (cs.take ks.length) ∧ Ints ks' (cs.drop ks.length) := by
 induction ks generalizing cs with
 | nil => exact ⟨.nil, h⟩
 | cons k ks ih =>
  obtain ⟨z, cs', rfl, hw, h⟩ := Ints.inv h
  obtain ⟨h1, h2⟩ := ih h
  exact ⟨.cons hw h1, h2⟩
theorem Ints.inj {ks : List IntKind} {cs cs' : List Value} (h : Ints ks cs) (h' : Ints ks cs') (he : cs.map litOf = cs'.map litOf) : cs = cs' := by
 induction h generalizing cs' with
 | nil => exact h'.inv_nil.symm
 | cons hw _ ih =>
  obtain ⟨z, cs2, rfl, _, h2⟩ := h'.inv
  simp only [List.map_cons, litOf, List.cons.injEq, Lit.int.injEq, true_and] at he
  rw [he.1, ih h2 he.2]
theorem flat_len : ∀ (d : Nat) (t : TypeId) (ks : List IntKind), flat P d t = some ks → ks.length = P.cellsOf t
 | 0, t, ks, h => by simp [flat] at h
 | d + 1, t, ks, h => by
  simp only [flat] at h
  cases hu : P.underlying t with
  | none => simp [hu] at h
  | some D =>
   cases D with
   | int k =>
    simp only [hu] at h
    cases hb : Nat.beq (P.cellsOf t) 1 with
    | false => simp [hb] at h
    | true => simp [hb] at h; subst h; exact (Nat.eq_of_beq_eq_true hb).symm
   | struct fs =>
    simp only [hu] at h
    cases hb : (contig (fs.toList.map fun f => (f.offset, P.cellsOf f.type)) 0 && Nat.beq (sumSz (fs.toList.map fun f => (f.offset, P.cellsOf f.type))) (P.cellsOf t)) with
    | false => simp [hb] at h
    | true =>
     rw [hb, cond_true] at h
     simp only [Bool.and_eq_true] at hb
     rw [← Nat.eq_of_beq_eq_true hb.2]
     have : ∀ (l : List Field) (ks : List IntKind), flatF (flat P d) l = some ks → ks.length = sumSz (l.map fun f => (f.offset, P.cellsOf f.type)) := by
      intro l
      induction l with
      | nil => intro ks h; simp [flatF] at h; subst h; rfl
      | cons f l ih =>
       intro ks h
       simp only [flatF] at h
       cases hf : flat P d f.type with
       | none => simp [hf] at h
       | some a =>
        cases hr : flatF (flat P d) l with
        | none => simp [hf, hr] at h
        | some b =>
         simp [hf, hr] at h
         subst h
         simp [sumSz, flat_len d f.type a hf, ih b hr]
     exact this _ _ h
   | array m e =>
    simp only [hu] at h
    cases hb : Nat.beq (m * P.cellsOf e) (P.cellsOf t) with
    | false => simp [hb] at h
    | true =>
     rw [hb, cond_true] at h
     cases hf : flat P d e with
     | none => simp [hf] at h
     | some a =>
      simp only [hf, Option.some.injEq] at h
      subst h
      rw [← Nat.eq_of_beq_eq_true hb]
      simp [flat_len d e a hf]
   | _ => simp [hu] at h
theorem keyLits_flat : ∀ (d : Nat) (t : TypeId) (ks : List IntKind) (cs : List Value), flat P d t = some ks → P.keyTypeAt d t = true → Ints ks cs → P.keyLits d t cs = some (cs.map litOf)
  | 0, t, ks, cs, h, _, _ => by simp [flat] at h
  | d + 1, t, ks, cs, h, hk, hi => by
    have hlen := flat_len (d + 1) t ks h
    have hcl := hi.length
    simp only [flat] at h
    unfold Program.keyTypeAt at hk
    unfold Program.keyLits
    cases hu : P.underlying t with
    | none => simp [hu] at h
    | some D =>
      cases D with
      | int k =>
        simp only [hu] at h
        cases hb : Nat.beq (P.cellsOf t) 1 with
        | false => simp [hb] at h
        | true =>
          simp [hb] at h
          subst h
          obtain ⟨z, cs', rfl, hw, h⟩ := hi.inv
          obtain rfl := h.inv_nil
          simp [hw, litOf]
      | struct fs =>
        simp only [hu] at h hk
        cases hb : (contig (fs.toList.map fun f => (f.offset, P.cellsOf f.type)) 0 && Nat.beq (sumSz (fs.toList.map fun f => (f.offset, P.cellsOf f.type))) (P.cellsOf t)) with
        | false => simp [hb] at h
        | true =>
          rw [hb, cond_true] at h
          simp only [Bool.and_eq_true, Bool.not_eq_true'] at hb hk
          have hn : fs.all (fun f => f.name != "_") = true := by
            rw [Array.all_eq_true_iff_forall_mem]
            intro f hf
            have := Array.all_eq_true_iff_forall_mem.1 hk.1.1 f hf
            simp only [Bool.and_eq_true] at this
            exact this.1
          have hkf : ∀ f ∈ fs.toList, P.keyTypeAt d f.type = true := by
            intro f hf
            have := Array.all_eq_true_iff_forall_mem.1 hk.1.1 f (Array.mem_toList_iff.1 hf)
            simp only [Bool.and_eq_true] at this
            exact this.2
          simp only
          rw [if_pos ⟨by omega, hn⟩]
          have key : ∀ (l : List Field) (ks : List IntKind) (p : Nat), (∀ f ∈ l, P.keyTypeAt d f.type = true) → flatF (flat P d) l = some ks → contig (l.map fun f => (f.offset, P.cellsOf f.type)) p = true → Ints ks (cs.drop p) →
              ∃ L, (l.mapM fun f => P.keyLits d f.type ((cs.drop f.offset).take (P.cellsOf f.type))) = some L ∧ L.flatten = (cs.drop p).map litOf := by
            intro l
            induction l with
            | nil => intro ks p _ h _ hi; simp [flatF] at h; subst h; rw [hi.inv_nil]; exact ⟨[], rfl, rfl⟩
            | cons f l ih =>
              intro ks p hall h hc hi
              simp only [flatF] at h
              cases hf : flat P d f.type with
              | none => simp [hf] at h
              | some a =>
                cases hr : flatF (flat P d) l with
                | none => simp [hf, hr] at h
                | some b =>
                  simp [hf, hr] at h
                  subst h
                  simp only [List.map_cons, contig, Bool.and_eq_true] at hc
                  obtain rfl : f.offset = p := Nat.eq_of_beq_eq_true hc.1
                  obtain ⟨h1, h2⟩ := hi.split
                  rw [flat_len d f.type a hf] at h1 h2
                  rw [List.drop_drop] at h2
                  obtain ⟨L, hL, hfl⟩ := ih b _ (fun g hg => hall g (List.mem_cons_of_mem _ hg)) hr hc.2 h2
                  have h3 := keyLits_flat d f.type a _ hf (hall f (List.mem_cons_self ..)) h1
                  refine ⟨((cs.drop f.offset).take (P.cellsOf f.type)).map litOf :: L, ?_, ?_⟩
                  · simp [List.mapM_cons, h3, hL]
                  · rw [List.flatten_cons, hfl, ← List.map_append, ← List.drop_drop, List.take_append_drop]
          obtain ⟨L, hL, hfl⟩ := key fs.toList ks 0 hkf h hb.1 (by simpa using hi)
          rw [hL]
          simpa using hfl
      | array m e =>
        simp only [hu] at h hk
        cases hb : Nat.beq (m * P.cellsOf e) (P.cellsOf t) with
        | false => simp [hb] at h
        | true =>
          rw [hb, cond_true] at h
          cases hf : flat P d e with
          | none => simp [hf] at h
          | some a =>
            simp only [hf, Option.some.injEq] at h
            subst h
            simp only
            rw [if_pos (by omega)]
            have hal := flat_len d e a hf
            have key : ∀ (j p : Nat), Ints ((List.replicate j a).flatten) (cs.drop (p * P.cellsOf e)) →
                ∃ L, ((List.range' p j).mapM fun i => P.keyLits d e ((cs.drop (i * P.cellsOf e)).take (P.cellsOf e))) = some L ∧ L.flatten = (cs.drop (p * P.cellsOf e)).map litOf := by
              intro j
              induction j with
              | zero => intro p hi; rw [hi.inv_nil]; exact ⟨[], rfl, rfl⟩
              | succ j ih =>
                intro p hi
                rw [List.replicate_succ, List.flatten_cons] at hi
                obtain ⟨h1, h2⟩ := hi.split
                rw [hal] at h1 h2
                rw [List.drop_drop] at h2
                have e4 : p * P.cellsOf e + P.cellsOf e = (p + 1) * P.cellsOf e := by rw [Nat.add_mul, Nat.one_mul]
                rw [e4] at h2
                obtain ⟨L, hL, hfl⟩ := ih (p + 1) h2
                have h3 := keyLits_flat d e a _ hf hk h1
                refine ⟨((cs.drop (p * P.cellsOf e)).take (P.cellsOf e)).map litOf :: L, ?_, ?_⟩
                · rw [List.range'_succ]; simp [List.mapM_cons, h3, hL]
                · rw [List.flatten_cons, hfl, ← List.map_append, ← e4, ← List.drop_drop, List.take_append_drop]
            obtain ⟨L, hL, hfl⟩ := key m 0 (by simpa using hi)
            rw [List.range_eq_range', hL]
            simpa using hfl
      | _ => simp [hu] at h
/-- Cell by cell. -/
def eqC : List Value → List Value → Bool
 | .int _ a :: r, .int _ b :: r' => decide (a = b) && eqC r r'
 | [], [] => true
 | _, _ => false
theorem eqC_iff {ks : List IntKind} {xs ys : List Value} (hx : Ints ks xs) (hy : Ints ks ys) : eqC xs ys = true ↔ xs = ys := by
 induction hx generalizing ys with
 | nil => rw [hy.inv_nil]; simp [eqC]
 | cons hw _ ih =>
  obtain ⟨z, cs2, rfl, _, h2⟩ := hy.inv
  simp only [eqC, Bool.and_eq_true, decide_eq_true_eq, List.cons.injEq, Value.int.injEq, true_and]
  rw [ih h2]
/-- as often as n -/
def rep (n : Nat) (ks : List IntKind) : List IntKind := (List.replicate n ks).flatten
theorem rep_succ (n : Nat) (ks : List IntKind) : rep (n + 1) ks = ks ++ rep n ks := by simp [rep, List.replicate_succ]
theorem rep_add (n m : Nat) (ks : List IntKind) : rep (n + m) ks = rep n ks ++ rep m ks := by rw [rep, rep, rep, ← List.flatten_append, List.replicate_append_replicate]
theorem rep_len (n : Nat) (ks : List IntKind) : (rep n ks).length = n * ks.length := by simp [rep]
/-- the i-th element's cells -/
def elem (cs : List Value) (s i : Nat) : List Value := (cs.drop (i * s)).take s
theorem Ints.elem {n i : Nat} {ks : List IntKind} {cs : List Value} (h : Ints (rep n ks) cs) (hi : i < n) : Ints ks (elem cs ks.length i) := by
 have e : rep n ks = rep i ks ++ (ks ++ rep (n - i - 1) ks) := by
  rw [← rep_succ, ← rep_add]; congr 1; omega
 rw [e] at h
 have := h.split.2.split.1
 rwa [rep_len] at this
theorem take_succ_elem (cs : List Value) (s i : Nat) : cs.take ((i + 1) * s) = cs.take (i * s) ++ elem cs s i := by
 unfold Gx.elem; rw [Nat.add_mul, Nat.one_mul, List.take_add]
theorem eqC_len : ∀ {xs ys : List Value}, eqC xs ys = true → xs.length = ys.length
 | [], [], _ => rfl
 | [], .int _ _ :: _, h => by simp [eqC] at h
 | .int _ _ :: _, [], h => by simp [eqC] at h
 | .int _ _ :: r, .int _ _ :: r', h => by
  simp only [eqC, Bool.and_eq_true] at h
  simp [eqC_len h.2]
 | [], y :: _, h => by cases y <;> simp [eqC] at h
 | x :: _, [], h => by cases x <;> simp [eqC] at h
 | x :: _, y :: _, h => by
  cases x <;> cases y <;> simp [eqC] at h
  rename_i r r' _ _ _ _
  simp [eqC_len h.2]
theorem eqC_ne_len {xs ys : List Value} (h : xs.length ≠ ys.length) : eqC xs ys = false := by
 rw [← Bool.not_eq_true]; exact fun he => h (eqC_len he)
theorem eqC_refl {ks : List IntKind} {xs : List Value} (h : Ints ks xs) : eqC xs xs = true := (eqC_iff h h).2 rfl
theorem eqC_ne {ks : List IntKind} {xs ys : List Value} (hx : Ints ks xs) (hy : Ints ks ys) (h : xs ≠ ys) : eqC xs ys = false := by
 rw [← Bool.not_eq_true]; exact fun he => h ((eqC_iff hx hy).1 he)
theorem Ints.oneCell {ks : List IntKind} {xs : List Value} (h : Ints ks xs) : ∀ u ∈ xs, u.oneCell' = true := by
 induction h with
 | nil => simp
 | cons _ _ ih => intro u hu; rcases List.mem_cons.1 hu with rfl | hu; rfl; exact ih u hu
/-- The type's facts, for ==. -/
structure EqOk (P : Program) (t : TypeId) (ks : List IntKind) : Prop where
 flat : flat P 8 t = some ks
 key : P.keyTypeAt 8 t = true
 guard : P.eqGuardType P.depth t = false
 agg : (match P.underlying t with | some (.array _ _) | some (.struct _) => true | _ => false) = true
theorem run_equal_flat {ks : List IntKind} (h : EqOk P t ks) {xs ys : List Value} (hx : Ints ks xs) (hy : Ints ks ys) (w : World) : (Op.equal t (.agg xs.toArray) (.agg ys.toArray)).run P w = .ok (eqC xs ys) w := by
 have hfm : ∀ l : List Value, Ints ks l → (Value.agg l.toArray).formed P t = true := by
  intro l hl
  have hcl : l.length = P.cellsOf t := by rw [hl.length, flat_len 8 t ks h.flat]
  have := h.agg
  unfold Value.formed
  cases hu : P.underlying t with
  | none => simp [hu] at this
  | some D => cases D <;> simp_all
 obtain ⟨r, hr, hiff⟩ := run_equalIn_deep 9992 8 t h.key w 8 8 (.agg xs.toArray) (.agg ys.toArray) (xs.map litOf) (ys.map litOf) (hfm _ hx) (hfm _ hy)
  (by simpa [Value.cells] using keyLits_flat 8 t ks xs h.flat h.key hx) (by simpa [Value.cells] using keyLits_flat 8 t ks ys h.flat h.key hy)
 have e : r = eqC xs ys := by
  rw [Bool.eq_iff_iff, hiff, eqC_iff hx hy]
  exact ⟨fun he => hx.inj hy he, fun he => by rw [he]⟩
 rw [← e]; exact hr
theorem run_eqGuard_agg {ks : List IntKind} (h : EqOk P t ks) {b : BinOp} {xs ys : Array Value} (w : World) : (eqGuard b t x y (.agg xs) (.agg ys)).run P w = .ok () w := by
 cases b <;> simp [eqGuard, Sem.run_bind, run_program, h.guard]
theorem QT_eqA {ks : List IntKind} {xs ys : List Value} (hg : gdc ops σ o = some g) (hop : o.op = .binOp .eql t x y t2) (h : EqOk P t ks) (hx : ev σ x = some (c1, .agg xs.toArray)) (hy : ev σ y = some (c2, .agg ys.toArray)) (hxs : g = true → Ints ks xs) (hys : g = true → Ints ks ys)
  (hc : g = true → c1 = true ∧ c2 = true := by first | exact fun _ => ⟨rfl, rfl⟩ | (intro h; first | grind | simp_all)) : QT P n ops o σ A g (.bool (eqC xs ys)) :=
 QT.mk hg fun a w hf _ hgt => by
  simp only [execOp, hop, hf.eval hx (hc hgt).1, hf.eval hy (hc hgt).2, Sem.run_bind, run_eqGuard_agg h, Result.andThen_ok]
  simp [binOp, run_equal_flat h (hxs hgt) (hys hgt)]
theorem QT_neA {ks : List IntKind} {xs ys : List Value} (hg : gdc ops σ o = some g) (hop : o.op = .binOp .neq t x y t2) (h : EqOk P t ks) (hx : ev σ x = some (c1, .agg xs.toArray)) (hy : ev σ y = some (c2, .agg ys.toArray)) (hxs : g = true → Ints ks xs) (hys : g = true → Ints ks ys)
  (hc : g = true → c1 = true ∧ c2 = true := by first | exact fun _ => ⟨rfl, rfl⟩ | (intro h; first | grind | simp_all)) : QT P n ops o σ A g (.bool (!eqC xs ys)) :=
 QT.mk hg fun a w hf _ hgt => by
  simp only [execOp, hop, hf.eval hx (hc hgt).1, hf.eval hy (hc hgt).2, Sem.run_bind, run_eqGuard_agg h, Result.andThen_ok]
  simp [binOp, run_equal_flat h (hxs hgt) (hys hgt)]
/-- A field of a struct in hand that is one cell. -/
theorem QT_fieldv {fs : Array Field} {f : Field} {d : TypeDesc} {xs : List Value} {i : Nat} (hg : gdc ops σ o = some g) (hop : o.op = .field t x i) (hu : P.underlying t = some (.struct fs)) (hfs : fs[i]? = some f) (hd : P.underlying f.type = some d) (hda : isAggD d = false)
    (hx : ev σ x = some (c, .agg xs.toArray)) (hv : g = true → xs[f.offset]? = some v)
    (hc : g = true → c = true := by first | exact fun _ => rfl | (intro h; first | grind | simp_all)) : QT P n ops o σ A g v :=
  QT.mk hg fun a w hf _ hgt => by
    simp [execOp, hop, hf.eval hx (hc hgt), Instr.field, run_underlying hu, hfs, asAgg, part, run_isAgg hd, hda, hv hgt]
end
end Go.Gx
namespace Go.Gx
open Go Go.RowKit
/-- a list of the book: the slice, its elements' cells, the slice with marks behind it, the mark's cells, the blocks that bear it -/
structure Strip where
 v : Value
 n : Nat
 xs : List Value
 long : Value
 mark : List Value
 H : Heap
structure Strip.ok (e Z : Nat) (ks : List IntKind) (s : Strip) : Prop where
 frag : Frag e Z s.v s.n s.xs s.H
 mints : Ints ks s.mark
 few : s.n ≤ 2000000
def heapOf (ss : List Strip) : Heap := (ss.map (·.H)).flatten
def Strip.cells (s : Strip) : List Value := s.v :: s.long :: s.mark
def arrOf (ss : List Strip) : List Value := (ss.map Strip.cells).flatten
def marks (n : Nat) (mk : List Value) : List Value := (List.replicate n mk).flatten
def fillH (Z n : Nat) (mk : List Value) (H : Heap) : Heap := H.map fun x => (x.1, x.2.1, marks n mk ++ x.2.2.drop (n * Z))
def fillS (Z : Nat) (s : Strip) : Strip := { s with xs := marks s.n s.mark, H := fillH Z s.n s.mark s.H }
theorem fillH_zero (Z : Nat) (mk : List Value) (H : Heap) : fillH Z 0 mk H = H := by
 have : (fun x : Blk => (x.1, x.2.1, marks 0 mk ++ x.2.2.drop (0 * Z))) = id := by funext x; simp [marks]
 rw [fillH, this, List.map_id]
theorem heapOf_cons (s : Strip) (ss : List Strip) : heapOf (s :: ss) = s.H ++ heapOf ss := by simp [heapOf]
theorem heapOf_nil : heapOf [] = [] := rfl
theorem heapOf_append (ss ss' : List Strip) : heapOf (ss ++ ss') = heapOf ss ++ heapOf ss' := by simp [heapOf]
theorem heapOf_mem {ss : List Strip} {s : Strip} (h : s ∈ ss) (p : Blk → Bool) : s.H.countP p ≤ (heapOf ss).countP p := by
 induction ss with
 | nil => cases h
 | cons x ss ih =>
  rw [heapOf_cons, List.countP_append]
  rcases List.mem_cons.1 h with rfl | h
  · omega
  · have := ih h; omega
theorem few_b {n k B : Nat} (h : n ≤ 2000000) (hk : k < 24) (hB : B ≤ 1000) : (n + k + 1) * B ≤ 140737488355328 := by
 have : (n + k + 1) * B ≤ 2000025 * 1000 := Nat.mul_le_mul (by omega) hB
 omega
theorem few_l {n k : Nat} (h : n ≤ 2000000) (hk : k < 24) : n + k + 1 ≤ 9223372036854775807 := by omega
theorem St.swap {w0 : Base} {x y : Blk} {η : Heap} {w : World} (h : St w0 (x :: y :: η) w) : St w0 (y :: x :: η) w := h.cnt fun p => by simp only [List.countP_cons]; omega
theorem arrOf_cons (s : Strip) (ss : List Strip) : arrOf (s :: ss) = s.v :: s.long :: (s.mark ++ arrOf ss) := by simp [arrOf, Strip.cells]
theorem arrOf_append (ss ss' : List Strip) : arrOf (ss ++ ss') = arrOf ss ++ arrOf ss' := by simp [arrOf]
theorem marks_len {n Z : Nat} {mk : List Value} (h : mk.length = Z) : (marks n mk).length = n * Z := by simp [marks, h]
theorem marks_succ (n : Nat) (mk : List Value) : marks (n + 1) mk = marks n mk ++ mk := by
 unfold marks
 rw [← List.replicate_append_replicate (n := n) (m := 1), List.flatten_append]; simp
theorem marks_add (n m : Nat) (mk : List Value) : marks (n + m) mk = marks n mk ++ marks m mk := by
 unfold marks
 rw [← List.replicate_append_replicate, List.flatten_append]
theorem elem_marks {n i Z : Nat} {mk : List Value} (h : mk.length = Z) (hi : i < n) : elem (marks n mk) Z i = mk := by
 have e : n = i + (1 + (n - i - 1)) := by omega
 unfold elem
 rw [e, marks_add, marks_add, ← marks_len (n := i) h, List.drop_left]
 have : marks 1 mk = mk := by simp [marks]
 rw [this, ← h, List.take_left]
theorem arrOf_len {Z : Nat} {ss : List Strip} (h : ∀ s ∈ ss, s.mark.length = Z) : (arrOf ss).length = ss.length * (Z + 2) := by
 induction ss with
 | nil => simp [arrOf]
 | cons s ss ih =>
  rw [arrOf_cons]
  simp only [List.length_cons, List.length_append, h s (List.mem_cons_self ..), ih (fun s hs => h s (List.mem_cons_of_mem _ hs))]
  rw [Nat.add_mul]; omega
/-- the i-th strip's cells -/
theorem arrOf_at {Z : Nat} {ss : List Strip} (h : ∀ s ∈ ss, s.mark.length = Z) {i : Nat} {s : Strip} (hi : ss[i]? = some s) :
    (arrOf ss)[i * (Z + 2)]? = some s.v ∧ (arrOf ss)[i * (Z + 2) + 1]? = some s.long ∧ ((arrOf ss).drop (i * (Z + 2) + 2)).take Z = s.mark ∧ i * (Z + 2) + 2 + Z ≤ (arrOf ss).length := by
  have hlt : i < ss.length := (List.getElem?_eq_some_iff.1 hi).1
  have e : ss = ss.take i ++ s :: ss.drop (i + 1) := by
    have h2 : ss[i] = s := (List.getElem?_eq_some_iff.1 hi).2
    rw [← h2, ← List.drop_eq_getElem_cons hlt, List.take_append_drop]
  have hl : (arrOf (ss.take i)).length = i * (Z + 2) := by
    rw [arrOf_len (Z := Z) (fun s hs => h s (List.mem_of_mem_take hs)), List.length_take, Nat.min_eq_left (by omega)]
  have hm := h s (List.mem_of_getElem? hi)
  have ha : arrOf ss = arrOf (ss.take i) ++ (s.v :: s.long :: (s.mark ++ arrOf (ss.drop (i + 1)))) := by
    conv => lhs; rw [e]
    rw [arrOf_append, arrOf_cons]
  have hlen := arrOf_len h
  refine ⟨?_, ?_, ?_, ?_⟩
  · rw [ha, ← hl, List.getElem?_append_right (Nat.le_refl _)]; simp
  · rw [ha, ← hl, List.getElem?_append_right (by omega)]; simp
  · rw [ha, ← hl, List.drop_append, List.drop_of_length_le (by omega), List.nil_append]
    have : (arrOf (ss.take i)).length + 2 - (arrOf (ss.take i)).length = 2 := by omega
    rw [this]
    simp [← hm]
  · rw [hlen]
    have : (i + 1) * (Z + 2) ≤ ss.length * (Z + 2) := Nat.mul_le_mul_right _ (by omega)
    rw [Nat.add_mul] at this
    omega
theorem fillS_ok {e Z : Nat} {ks : List IntKind} {s : Strip} (h : s.ok e Z ks) (hk : ks.length = Z) : (fillS Z s).ok e Z ks := by
  obtain ⟨⟨hl, hf⟩, hm, hfew⟩ := h
  have hml : s.mark.length = Z := by rw [hm.length, hk]
  refine ⟨⟨marks_len hml, ?_⟩, hm, hfew⟩
  rcases hf with ⟨hv, hn, hH⟩ | ⟨b, cap, rest, hv, hc, hlen, hH⟩
  · refine .inl ⟨hv, hn, ?_⟩
    simp [fillS, fillH, hH]
  · refine .inr ⟨b, cap, rest, hv, hc, ?_, ?_⟩
    · simp only [fillS, List.length_append, marks_len hml] at hlen ⊢
      rw [hl] at hlen; exact hlen
    · simp only [fillS, fillH, hH, List.map_cons, List.map_nil]
      rw [← hl, List.drop_left]
theorem arrOf_fill (Z : Nat) (ss : List Strip) : arrOf (ss.map (fillS Z)) = arrOf ss := by unfold arrOf; rw [List.map_map]; rfl
theorem fill_step {Z k : Nat} {mk cells : List Value} (hm : mk.length = Z) (hl : (k + 1) * Z ≤ cells.length) :
  setAt (marks k mk ++ cells.drop (k * Z)) (k * Z) mk = marks (k + 1) mk ++ cells.drop ((k + 1) * Z) := by
 have e : cells.drop (k * Z) = (cells.drop (k * Z)).take Z ++ cells.drop ((k + 1) * Z) := by
  rw [Nat.add_mul, Nat.one_mul, ← List.drop_drop, List.take_append_drop]
 rw [e, ← List.append_assoc, ← marks_len (n := k) hm, setAt_mid _ _ _ _ (by rw [List.length_take, List.length_drop, hm, marks_len hm]; rw [Nat.add_mul] at hl; omega), marks_succ]
/-- a slice that is read, with an address in any case -/
theorem SlA.some {A : World → Prop} {v : Value} {size n : Nat} {cs : List Value} (h : SlA A v size n cs) : cs.length = n * size ∧ ∃ ad cap b off, v = .slice ad n cap ∧ (n ≤ cap ∧ cap ≤ 9223372036854775807) ∧ (0 < n → ad = some ⟨b, off, none⟩) ∧ Rd A b off cs := by
  obtain ⟨hl, ad, cap, rfl, hc, h⟩ := h
  refine ⟨hl, ad, cap, ?_⟩
  rcases h with rfl | ⟨b, off, rfl, hr⟩
  · have hn : cs = [] := List.eq_nil_of_length_eq_zero (by simpa using hl)
    subst hn
    exact ⟨0, 0, rfl, hc, fun h => absurd h (by omega), fun _ _ _ _ h => by simp at h⟩
  · exact ⟨b, off, rfl, hc, fun _ => rfl, hr⟩
/-- what holds of a list of the book when the marks are put behind it -/
structure Strip.grown (A : World → Prop) (Z : Nat) (ks : List IntKind) (s : Strip) : Prop where
 l : SlA A s.v Z s.n (marks s.n s.mark)
 long : SlA A s.long Z (s.n + 24) (marks (s.n + 24) s.mark)
 mints : Ints ks s.mark
 few : s.n ≤ 2000000
theorem Strip.grown.mono {A A' : World → Prop} {Z : Nat} {ks : List IntKind} {s : Strip} (h : s.grown A Z ks) (hs : ∀ w, A' w → A w) : s.grown A' Z ks := ⟨h.l.mono hs, h.long.mono hs, h.mints, h.few⟩
/-- on the way: m marks stand in the longer list; the first one is readable still -/
structure LongInv (w0 : Base) (e Z : Nat) (v : Value) (n : Nat) (mk : List Value) (lv : Value) (m : Nat) (HL K : Heap) : Prop where
 frag : Frag e Z lv m (marks m mk) HL
 le : n ≤ m
 old : SlA (St w0 K) v Z n (marks n mk) ∨ ∃ b cap cap2, v = .slice (some ⟨b, 0, none⟩) n cap ∧ (n ≤ cap ∧ cap ≤ 9223372036854775807) ∧ lv = .slice (some ⟨b, 0, none⟩) m cap2
theorem LongInv.oldL {w0 : Base} {e Z : Nat} {v : Value} {n : Nat} {mk : List Value} {lv : Value} {m : Nat} {HL K : Heap} (h : LongInv w0 e Z v n mk lv m HL K) (hm : mk.length = Z) : SlA (St w0 (HL ++ K)) v Z n (marks n mk) := by
  rcases h.old with h1 | ⟨b, cap, cap2, rfl, hc, rfl⟩
  · exact h1.app
  · obtain ⟨hl, hf⟩ := h.frag
    rcases hf with ⟨hv, _⟩ | ⟨b', cap', rest, hv, hc', hlen, rfl⟩
    · cases hv
    · cases hv
      have hle := h.le
      have e1 : marks m mk = marks n mk ++ marks (m - n) mk := by rw [← marks_add]; congr 1; omega
      refine (SlA.mem (T := e) (List.mem_append_left K (List.mem_singleton.2 rfl)) ?_ ?_ hc)
      · rw [List.drop_zero, e1, List.append_assoc, ← marks_len (n := n) hm, List.take_left]
      · rw [Nat.zero_add, e1, List.length_append, List.length_append, marks_len hm]; omega
theorem LongInv.start {w0 : Base} {e Z : Nat} {ks : List IntKind} {s : Strip} (h : s.ok e Z ks) (hx : s.xs = marks s.n s.mark) : LongInv w0 e Z s.v s.n s.mark s.v s.n s.H [] := by
  refine ⟨hx ▸ h.frag, Nat.le_refl _, ?_⟩
  obtain ⟨hl, hf⟩ := h.frag
  rcases hf with ⟨hv, hn, _⟩ | ⟨b, cap, rest, hv, hc, _⟩
  · refine .inl ?_
    rw [hv, hn]
    exact ⟨by simp [marks], _, _, rfl, by omega, .inl rfl⟩
  · exact .inr ⟨b, cap, cap, hv, hc, hv⟩
theorem LongInv.grown {w0 : Base} {e Z : Nat} {ks : List IntKind} {s : Strip} {lv : Value} {HL K : Heap} (h : LongInv w0 e Z s.v s.n s.mark lv (s.n + 24) HL K) (hm : Ints ks s.mark) (hk : ks.length = Z) (hf : s.n ≤ 2000000) :
  Strip.grown (St w0 (HL ++ K)) Z ks { s with long := lv, H := HL ++ K } := ⟨h.oldL (by rw [hm.length, hk]), h.frag.sla, hm, hf⟩
theorem arrOf_set {Z : Nat} {d todo : List Strip} {s : Strip} {r : Value} (h : ∀ s ∈ d, s.mark.length = Z) (rest : List Value) :
  setAt (arrOf (d ++ s :: todo) ++ rest) (d.length * (Z + 2) + 1) [r] = arrOf (d ++ { s with long := r } :: todo) ++ rest := by
 rw [arrOf_append, arrOf_append, arrOf_cons, arrOf_cons, ← arrOf_len h]
 simp [setAt, List.set_append]
/-- the block with other cells in front -/
def reH (k : Nat) (new : List Value) (H : Heap) : Heap := H.map fun x => (x.1, x.2.1, new ++ x.2.2.drop k)
theorem Frag.re {e Z : Nat} {v : Value} {n : Nat} {xs ys : List Value} {H : Heap} (h : Frag e Z v n xs H) (hl : ys.length = xs.length) : Frag e Z v n ys (reH xs.length ys H) := by
  obtain ⟨h1, h⟩ := h
  refine ⟨by omega, ?_⟩
  rcases h with ⟨hv, hn, rfl⟩ | ⟨b, cap, rest, hv, hc, hlen, rfl⟩
  · exact .inl ⟨hv, hn, rfl⟩
  · refine .inr ⟨b, cap, rest, hv, hc, ?_, ?_⟩
    · simp only [List.length_append] at hlen ⊢; omega
    · simp only [reH, List.map_cons, List.map_nil]; rw [List.drop_left]
theorem Frag.re_self {e Z : Nat} {v : Value} {n : Nat} {xs : List Value} {H : Heap} (h : Frag e Z v n xs H) : reH xs.length xs H = H := by
 obtain ⟨h1, h⟩ := h
 rcases h with ⟨hv, hn, rfl⟩ | ⟨b, cap, rest, hv, hc, hlen, rfl⟩
 · rfl
 · simp only [reH, List.map_cons, List.map_nil]; rw [List.drop_left]
theorem Frag.slice {e Z : Nat} {v : Value} {n : Nat} {xs : List Value} {H : Heap} (h : Frag e Z v n xs H) : ∃ ad cap, v = .slice ad n cap ∧ (n ≤ cap ∧ cap ≤ 9223372036854775807) ∧ (0 < n → ∃ b rest, ad = some ⟨b, 0, none⟩ ∧ H = [(b, e, xs ++ rest)]) := by
 obtain ⟨h1, h⟩ := h
 rcases h with ⟨rfl, rfl, rfl⟩ | ⟨b, cap, rest, rfl, hc, hlen, rfl⟩
 · exact ⟨_, _, rfl, by omega, fun h => absurd h (by omega)⟩
 · exact ⟨_, _, rfl, hc, fun _ => ⟨b, rest, rfl, rfl⟩⟩
section
variable {P : Program} {n : Nat} {ops : Array Oper} {o : Oper} {σ : Slots} {A : World → Prop} {g : Bool} {v : Value} {x y z : Operand} {c c1 c2 c3 : Bool} {t t2 : TypeId} {k : IntKind} {p q : Int}
theorem Qw {b off off' : Nat} {cs : List Value} {d : TypeDesc} (j : Nat) (hg : gdc ops σ o = some g) (hop : o.op = .load t x) (hu : P.underlying t = some d) (hd : isAggD d = false)
  (hr : Rd A b off cs) (hx : ev σ x = some (c, .pointer (some ⟨b, off', none⟩))) (hv : g = true → cs[j]? = some v) (hj : off' = off + j := by omega)
  (hc : g = true → c = true := by first | exact fun _ => rfl | exact id | (intro h; first | grind | simp_all)) : QT P n ops o σ A g v := by
 subst hj; exact QT_loadR hg hop hu hd hr hx hv hc
theorem Qy {b off off' m : Nat} {cs out : List Value} {d : TypeDesc} (j : Nat) (hg : gdc ops σ o = some g) (hop : o.op = .load t x) (hu : P.underlying t = some d) (hd : isAggD d = true) (hm : Sz P t m)
  (hr : Rd A b off cs) (hx : ev σ x = some (c, .pointer (some ⟨b, off', none⟩))) (hv : g = true → j + m ≤ cs.length) (ho : g = true → (cs.drop j).take m = out) (hj : off' = off + j := by omega)
  (hc : g = true → c = true := by first | exact fun _ => rfl | exact id | (intro h; first | grind | simp_all)) : QT P n ops o σ A g (.agg out.toArray) := by
 subst hj
 cases g with
 | true => rw [← ho rfl]; exact QT_loadRA hg hop hu hd hm hr hx hv hc
 | false => exact QT.mk hg fun _ _ _ _ h => by cases h
theorem QT_indexG {e m b off len cap : Nat} {ad : Option Addr} (j : Nat) (hg : gdc ops σ o = some g) (hop : o.op = .indexAddr t x y) (hu : P.underlying t = some (.slice e)) (hm : Sz P e m)
  (hx : ev σ x = some (c1, .slice ad len cap)) (hy : ev σ y = some (c2, .int k p)) (hp : p = (j : Int)) (hj : g = true → j < len) (ha : g = true → ad = some ⟨b, off, none⟩)
  (hc : g = true → c1 = true ∧ c2 = true := by first | exact fun _ => ⟨rfl, rfl⟩ | (intro h; first | grind | simp_all)) : QT P n ops o σ A g (.pointer (some ⟨b, off + j * m, none⟩)) := by
 cases g with
 | false => exact QT.mk hg fun _ _ _ _ h => by cases h
 | true => obtain rfl := ha rfl; exact Qq j hg hop hu hm hx hy hp hj hc
theorem ET_long {w0 : Base} {η HL K L : Heap} {t e Z bytes nn m : Nat} {z sv yv vv : Value} {s y : Operand} {mk : List Value}
    (hop : o.op = .call { callee := .builtin .append, args := #[s, y], argTypes := #[t, t] }) (ht : P.underlying t = some (.slice e)) (he : ElemOk P e Z bytes z)
    (hs : ev σ s = some (true, sv)) (hy : ev σ y = some (true, yv)) (hI : LongInv w0 e Z vv nn mk sv m HL K) (hml : mk.length = Z) (hA : ∀ w, A w → St w0 (L ++ (HL ++ (K ++ η))) w) (hR : SlA A yv Z 1 mk) (h1 : ∀ u ∈ mk, u.oneCell' = true)
    (hbytes : (m + 1) * bytes ≤ 140737488355328) (h63 : m + 1 ≤ 9223372036854775807) :
    ET P n o σ A fun r A' => ∃ H' K', LongInv w0 e Z vv nn mk r (m + 1) H' K' ∧ A' = St w0 (L ++ (H' ++ (K' ++ η))) := by
  intro a w hf hw Kk Q hK
  refine ET_appendK (P := P) (n := n) (o := o) (σ := σ) (A := A) (L := L) (η := K ++ η) (Nat.lt_succ_self 0) hop ht he hs hy hI.frag hA hR h1 hbytes h63 a w hf hw Kk Q ?_
  rintro v A' w' ⟨H', hF', hcase⟩ hA'
  rw [← marks_succ] at hF'
  have hle := hI.le
  rcases hcase with ⟨⟨b, cap, rest, hsv, hr, hH, hH'⟩, rfl⟩ | rfl
  · refine hK v _ w' ⟨H', K, ⟨hF', by omega, ?_⟩, rfl⟩ hA'
    rcases hI.old with h | ⟨b2, cap', cap2, hv2, hc2, hl2⟩
    · exact .inl h
    · rw [hsv] at hl2
      cases hl2
      exact .inr ⟨b, cap', cap, hv2, hc2, hr⟩
  · rcases hI.old with h | h
    · refine hK v _ w' ⟨H', K, ⟨hF', by omega, .inl h⟩, rfl⟩ (hA'.cnt fun p => by simp only [List.countP_append]; omega)
    · refine hK v _ w' ⟨H', HL ++ K, ⟨hF', by omega, .inl (hI.oldL hml)⟩, rfl⟩ (hA'.cnt fun p => by simp only [List.countP_append]; omega)
end
end Go.Gx
namespace Go.Gx
open Go Go.RowKit
section
variable {P : Program} {n : Nat} {ops : Array Oper} {o : Oper} {σ : Slots} {A : World → Prop} {g : Bool} {v : Value} {x y z : Operand} {c c1 c2 c3 : Bool} {t t2 : TypeId} {k : IntKind} {p q : Int}
/-- a[j], where a is an array's value of single cells -/
theorem QT_indexV {e len : Nat} {d : TypeDesc} {xs : List Value} (j : Nat) (hg : gdc ops σ o = some g) (hop : o.op = .index t x y) (hu : P.underlying t = some (.array len e)) (he : P.underlying e = some d) (hd : isAggD d = false) (hm : Sz P e 1)
    (hx : ev σ x = some (c1, .agg xs.toArray)) (hy : ev σ y = some (c2, .int k p)) (hp : p = (j : Int)) (hj : g = true → j < len) (hv : g = true → xs[j]? = some v)
    (hc : g = true → c1 = true ∧ c2 = true := by first | exact fun _ => ⟨rfl, rfl⟩ | (intro h; first | grind | simp_all)) : QT P n ops o σ A g v :=
  QT.mk hg fun a w hf _ h => by
    subst hp
    have hj' := hj h
    have hv' := hv h
    simp [execOp, hop, hf.eval hx (hc h).1, hf.eval hy (hc h).2, Instr.index, asIntOf, run_underlying hu, hj', run_sizeOf hm, part, run_isAgg he, hd, hv']
theorem QT_convN {src dst : TypeId} {k' : IntKind} {ds : TypeDesc} (hg : gdc ops σ o = some g) (hop : o.op = .convert src dst x) (hsrc : P.underlying src = some ds) (hdst : P.underlying dst = some (.int k')) (hx : ev σ x = some (c, .int k p)) (hw : k'.wrap p = q)
  (hc : g = true → c = true := by first | exact fun _ => rfl | exact id | (intro h; first | grind | simp_all)) : QT P n ops o σ A g (.int k' q) := by
 subst hw; exact QT_conv hg hop hsrc hdst hx hc
/-- an array written out -/
theorem QT_buildArr {ps : Array (Nat × Operand)} {cps : List (Bool × Nat × Value)} {zs : Value} {len e m : Nat} {out : List Value} (hg : gdc ops σ o = some g) (hop : o.op = .build t ps) (hz : ZeroOk P t zs) (hu : P.underlying t = some (.array len e)) (hm : Sz P e m)
    (he : evp σ ps.toList = some cps) (hct : (contig ((List.range len).map fun i => (i * m, m)) 0 && Nat.beq zs.cells.toList.length (sumSz ((List.range len).map fun i => (i * m, m)))) = true) (hseg : segs ((List.range len).map fun i => (i * m, m)) zs.cells.toList (cps.map (·.2)) 0 = some out)
    (hc : g = true → cps.all (·.1) = true := by first | exact fun _ => rfl | (intro h; first | grind | simp_all)) : QT P n ops o σ A g (.agg out.toArray) :=
  QT.mk hg fun a w hf _ h => by
    have h1 : (ps.map fun (i, x) => (i, a.eval x)).toList = cps.map (·.2) := by
      rw [Array.toList_map]; exact evp_map hf he (hc h)
    simp only [Bool.and_eq_true] at hct
    have hfill := segs_fill (fun i => some (i * m, m)) _ zs.cells.toList (cps.map (·.2)) 0 [] out (fun k x hk => by
      rw [List.getElem?_map] at hk
      cases hr : (List.range len)[k]? with
      | none => simp [hr] at hk
      | some y =>
        obtain ⟨hlt, hy⟩ := List.getElem?_eq_some_iff.1 hr
        simp only [List.getElem_range] at hy
        simp [hr] at hk
        simp [← hk, hy]) hct.1 (Nat.eq_of_beq_eq_true hct.2) hseg
    have h2 := fill_eq (fun i => some (i * m, m)) _ zs.cells out hfill
    simp only [execOp, hop, Instr.build, Sem.run_bind, run_zeroValue hz, Result.andThen_ok, run_underlying hu, run_sizeOf hm, h1]
    rw [h2]
    rfl
/-- A call of a function's value that holds nothing. -/
theorem ET_callV {f : FuncId} {cx : Operand} {xs : Array Operand} {ts : Array TypeId} {cvs : List (Bool × Value)} {R : Value → (World → Prop) → Prop} (hop : o.op = .call { callee := .value cx, args := xs, argTypes := ts })
    (hcx : ev σ cx = some (true, .func (.func f) #[] #[])) (hcal : CalleeOk P f) (hvs : evs σ xs.toList = some cvs) (h : CallsT P f (cvs.map (·.2)) A R) (hc : cvs.all (·.1) = true := by first | exact rfl | simp_all) : ET P n o σ A R := by
  intro a w hf hA K Q hK
  unfold Oper.wp
  have e0 := run_call (o := { o with op := .call { callee := .value (.func f), args := xs, argTypes := ts } }) rfl hcal hvs hc hf w
  have e : a.eval (.func f) = .func (.func f) #[] #[] := rfl
  have e1 : (execOp a.eval o).run P w = .ok (.enter f (cvs.map (·.2)).toArray) w := by
    rw [← e0]
    simp only [execOp, hop, resolve, e, hf.eval hcx rfl]
  rw [e1, Oper.upon_enter]
  refine (h w hA).mono fun e w' ⟨v, A', he, hR, hA'⟩ => ?_
  subst he
  exact hK v A' w' hR hA'
end
theorem Ints.drop {ks : List IntKind} {cs : List Value} (h : Ints ks cs) : ∀ n, Ints (ks.drop n) (cs.drop n) := by
 induction h with
 | nil => intro n; simpa using Ints.nil
 | cons hw h ih =>
  intro n
  cases n with
  | zero => exact .cons hw h
  | succ n => exact ih n
theorem Ints.take {ks : List IntKind} {cs : List Value} (h : Ints ks cs) : ∀ n, Ints (ks.take n) (cs.take n) := by
 induction h with
 | nil => intro n; simpa using Ints.nil
 | cons hw h ih =>
  intro n
  cases n with
  | zero => exact .nil
  | succ n => exact .cons hw (ih n)
theorem Ints.zeros {k : IntKind} (hk : (Lit.int k 0).wf = true) : ∀ n, Ints (List.replicate n k) (List.replicate n (.int k 0))
 | 0 => .nil
 | n + 1 => .cons hk (Ints.zeros hk n)
/-- is it a list of these integers? -/
def intsB : List IntKind → List Value → Bool
 | [], [] => true
 | k :: ks, .int k' z :: cs => (k == k') && (Lit.int k z).wf && intsB ks cs
 | _, _ => false
theorem intsB_ok : ∀ (ks : List IntKind) (cs : List Value), intsB ks cs = true → Ints ks cs
 | [], [], _ => .nil
 | k :: ks, v :: cs, h => by
  cases v <;> simp only [intsB, Bool.and_eq_true, Bool.false_eq_true] at h
  obtain ⟨⟨h1, h2⟩, h3⟩ := h
  obtain rfl := eq_of_beq h1
  exact .cons h2 (intsB_ok ks cs h3)
 | [], _ :: _, h => by simp [intsB] at h
 | _ :: _, [], h => by simp [intsB] at h
theorem Frag.within {w0 : Base} {e size : Nat} {v : Value} {n : Nat} {xs : List Value} {H η : Heap} (h : Frag e size v n xs H) (hc : ∀ p : Blk → Bool, H.countP p ≤ η.countP p) : SlA (St w0 η) v size n xs :=
 (h.sla (w0 := w0) (η := [])).mono fun _ hw => hw.cnt fun p => by rw [List.append_nil]; exact hc p
theorem SlA.front {A : World → Prop} {ad : Option Addr} {n cap s k : Nat} {cs : List Value} (h : SlA A (.slice ad n cap) s n cs) (hk : k ≤ n) : SlA A (.slice ad k cap) s k (cs.take (k * s)) := by
  obtain ⟨hl, ad', cap', hv, hc, hr⟩ := h
  obtain ⟨rfl, _, rfl⟩ := Value.slice.inj hv
  have hks : k * s ≤ n * s := Nat.mul_le_mul_right _ hk
  refine ⟨by rw [List.length_take]; omega, _, _, rfl, ⟨by omega, hc.2⟩, ?_⟩
  rcases hr with h0 | ⟨b, off, rfl, hrd⟩
  · exact .inl (by omega)
  · refine .inr ⟨b, off, rfl, fun w hw j v hv => hrd w hw j v ?_⟩
    rw [List.getElem?_take] at hv
    split at hv
    · exact hv
    · cases hv
theorem SlA.back {A : World → Prop} {ad : Option Addr} {n cap s k : Nat} {cs : List Value} (h : SlA A (.slice ad n cap) s n cs) (hk : k ≤ n) : SlA A (.slice (if cap = k then ad else ad.map (·.add (k * s))) (n - k) (cap - k)) s (n - k) (cs.drop (k * s)) := by
  obtain ⟨hl, ad', cap', hv, hc, hr⟩ := h
  obtain ⟨rfl, _, rfl⟩ := Value.slice.inj hv
  refine ⟨by rw [List.length_drop, hl, Nat.sub_mul], _, _, rfl, ⟨by omega, by omega⟩, ?_⟩
  by_cases h0 : n = k
  · exact .inl (by omega)
  · right
    rw [if_neg (by omega)]
    obtain ⟨b, off, rfl, hrd⟩ := hr.resolve_left (by omega)
    refine ⟨b, off + k * s, by simp [add_mk], fun w hw j v hv => ?_⟩
    rw [Nat.add_assoc]
    exact hrd w hw _ v (by rw [← List.getElem?_drop]; exact hv)
theorem tab {α : Type} {n : Nat} {d : α} (s : List α) (h : s.length = n) : s = (List.range n).map fun i => s.getD i d := by
 refine List.ext_getElem (by simp [h]) fun i h1 h2 => ?_
 simp [List.getD, List.getElem?_eq_getElem h1]
theorem tab' {α : Type} {n : Nat} (d : α) (s : List α) (h : s.length = n) : ∃ g : Nat → α, s = (List.range n).map g := ⟨_, tab (d := d) s h⟩
end Go.Gx
namespace Go.Gx
open Go Go.RowKit
/-- A scope that begins with its one label, to which the run jumps back: an invariant, a measure. -/
theorem TC_jumps {P : Program} {n : Nat} {Q : Exit → Act → World → Prop} {σ : Slots} {A : World → Prop} {γ : Type} {l : Nat} {R : Code} (σ' : γ → Slots) (A' : γ → World → Prop) (μ : γ → Nat) (t0 : γ) (hs : Sub (σ' t0) σ) (hA : ∀ w, A w → A' t0 w)
    (round : ∀ t, TC P n R (Exit.jump l (Next n σ' A' μ (μ t)) Q) (σ' t) (A' t)) : TC P n (.scope (.seq (.label l) R)) Q σ A := by
  intro a w hf h b k cs
  have hg : gotoIn l (.inScope (.seq (.label l) R) :: k) = some (.code (.seq .skip R) :: .inScope (.seq (.label l) R) :: k) := by simp [gotoIn, findLabel]
  have key : ∀ (m : Nat) (t : γ), μ t = m → ∀ a w, Fr n (σ' t) a → A' t w →
      ∃ e a' w', Q e a' w' ∧ Arrives P (lone (b.at a (.code (.seq .skip R) :: .inScope (.seq (.label l) R) :: k)) cs w) b k cs e a' w' := by
    intro m
    induction m using Nat.strongRecOn with
    | _ m ih =>
      intro t hm a w hf h
      obtain ⟨e, a₁, w₁, hq, harr⟩ := (wp_seq (wp_skip (round t a w hf h)) : (Code.seq .skip R).wp P (Exit.jump l (Next n σ' A' μ (μ t)) Q) a w) b (.inScope (.seq (.label l) R) :: k) cs
      cases e with
      | normal => exact ⟨.normal, a₁, w₁, hq, Steps.trans harr (.one step_inScope)⟩
      | exit id => exact ⟨.exit id, a₁, w₁, hq, fun k' hk => harr k' (by simp [exitTo, hk])⟩
      | goto l' =>
        obtain ⟨rfl, t', hlt, hf', h'⟩ := hq
        obtain ⟨e₂, a₂, w₂, hq₂, harr₂⟩ := ih (μ t') (hm ▸ hlt) t' rfl a₁ w₁ hf' h'
        exact ⟨e₂, a₂, w₂, hq₂, .of_steps (harr _ hg) harr₂⟩
      | ret => exact ⟨_, a₁, w₁, hq, harr⟩
      | panic ch => exact ⟨_, a₁, w₁, hq, harr⟩
      | outgrown => exact ⟨_, a₁, w₁, hq, harr⟩
  obtain ⟨e, a₁, w₁, hq, harr⟩ := (wp_seq (wp_label (round t0 a w (hf.weaken hs.spec) (hA w h))) : (Code.seq (.label l) R).wp P (Exit.jump l (Next n σ' A' μ (μ t0)) Q) a w) b (.inScope (.seq (.label l) R) :: k) cs
  cases e with
  | normal => exact ⟨.normal, a₁, w₁, hq, .head step_scope (Steps.trans harr (.one step_inScope))⟩
  | exit id => exact ⟨.exit id, a₁, w₁, hq, fun k' hk => .head step_scope (harr k' (by simp [exitTo, hk]))⟩
  | goto l' =>
    obtain ⟨rfl, t', _, hf', h'⟩ := hq
    obtain ⟨e₂, a₂, w₂, hq₂, harr₂⟩ := key _ t' rfl a₁ w₁ hf' h'
    exact ⟨e₂, a₂, w₂, hq₂, .of_steps (.head step_scope (harr _ hg)) harr₂⟩
  | ret => exact ⟨_, a₁, w₁, hq, .of_steps (.one step_scope) harr⟩
  | panic ch => exact ⟨_, a₁, w₁, hq, .of_steps (.one step_scope) harr⟩
  | outgrown => exact ⟨_, a₁, w₁, hq, .of_steps (.one step_scope) harr⟩
theorem TX_jump_ret {n : Nat} {Q : Exit → Act → World → Prop} {σ : Slots} {A : World → Prop} {l : Nat} {J : Act → World → Prop} (k : TX n Q .ret σ A) : TX n (Exit.jump l J Q) .ret σ A := fun a w hf hA => k a w hf hA
theorem TX_jump_round {n : Nat} {Q : Exit → Act → World → Prop} {σ : Slots} {A : World → Prop} {γ : Type} {l : Nat} {σ' : γ → Slots} {A' : γ → World → Prop} {μ : γ → Nat} {m : Nat} (t' : γ) (hμ : μ t' < m) (hs : Sub (σ' t') σ) (hA : ∀ w, A w → A' t' w) :
  TX n (Exit.jump l (Next n σ' A' μ m) Q) (.goto l) σ A := fun a w hf h => ⟨rfl, t', hμ, hf.weaken hs.spec, hA w h⟩
end Go.Gx
namespace Go.Gx
open Go Go.RowKit Go.ChangeShapes Go.WideShapes
section
variable {H : Type} {enc : TypeId × Value → H} {P : Program} {w : World} {base : Nat} {spare : Nat → Bool} {held : Bool}
theorem rep_succ' (n : Nat) (ks : List IntKind) : rep (n + 1) ks = rep n ks ++ ks := by rw [rep_add]; simp [rep]
/-- A slice of integers laid flat, as it came in: its cells, element by element; how long it is, by its weight. -/
theorem open_slc {t e : TypeId} {ks : List IntKind} {cs : List Value} {x : DataW H × List MemPlace} {fuel : Nat} (ht : P.underlying t = some (.slice e)) (hk : flat P 8 e = some ks) (h0 : 0 < ks.length)
    (hf : DataW.trod enc P w base spare held fuel t cs = some x) :
    ∃ (v : Value) (n : Nat) (xs : List Value), cs = [v] ∧ SlA (St w []) v ks.length n xs ∧ Ints (rep n ks) xs ∧ ((∀ m ∈ x.1.weights P t, m ≤ reachBytes) → n * P.bytesOf e ≤ 140737488351232) := by
  rcases Deep.open_slice ht hf with ⟨rfl, _⟩ | ⟨a, len, cap, m, n, D, Pl, rfl, hb, hl, hm, em, hxx, hel⟩
  · exact ⟨_, 0, [], rfl, ⟨by simp, _, _, rfl, ⟨Nat.le_refl _, by omega⟩, .inl rfl⟩, by simpa [rep] using Ints.nil, fun _ => by omega⟩
  · have hlm : len ≤ m := by rw [em]; split <;> omega
    have hz : ks.length = P.cellsOf e := flat_len 8 e ks hk
    have key : ∀ j, j ≤ len → ∃ xs, Ints (rep j ks) xs ∧ ∀ i, i < j * ks.length → w.cell? (a.add i) = xs[i]? := by
      intro j
      induction j with
      | zero => intro _; exact ⟨[], by simpa [rep] using Ints.nil, fun i hi => by omega⟩
      | succ j ih =>
        intro hj
        obtain ⟨xs, hi, hx⟩ := ih (by omega)
        obtain ⟨cs', h1, h2⟩ := hel j (by omega)
        obtain ⟨_, hlen, hc⟩ := World.cells?_some h1
        have hik := trod_flat 8 e ks hk n cs' _ h2
        refine ⟨xs ++ cs', by rw [rep_succ']; exact hi.append hik, fun i hi' => ?_⟩
        have hxl : xs.length = j * ks.length := by rw [hi.length, rep_len]
        by_cases hlt : i < j * ks.length
        · rw [List.getElem?_append_left (by omega)]; exact hx i hlt
        · rw [Nat.add_mul, Nat.one_mul] at hi'
          rw [List.getElem?_append_right (by omega), hxl, ← hc (i - j * ks.length) (by omega), add_addr, ← hz]
          congr 2; omega
    obtain ⟨xs, hi, hx⟩ := key len (Nat.le_refl _)
    have hxl : xs.length = len * ks.length := by rw [hi.length, rep_len]
    refine ⟨_, len, xs, rfl, ⟨hxl, _, _, rfl, ⟨hl, ?_⟩, ?_⟩, hi, fun hw => ?_⟩
    · have : maxLen = 9223372036854775807 := by decide
      omega
    · by_cases hn : len = 0
      · exact .inl hn
      · right
        obtain ⟨ab, ao, sp⟩ := a
        have hpos : 0 < len * ks.length := Nat.mul_pos (by omega) h0
        have hc0 := hx 0 hpos
        have hsp : sp = none := by
          rw [List.getElem?_eq_getElem (by omega)] at hc0
          simpa [Addr.add] using World.cell?_spot hc0
        subst hsp
        refine ⟨ab, ao, rfl, Rd.start fun j v hj => ?_⟩
        have hjl := (List.getElem?_eq_some_iff.1 hj).1
        rw [← hj, ← hx j (by omega), add_mk]
        rfl
    · have hd : x.1 = .slice ((List.range len).map D) ((List.range (m - len)).map fun j => D (len + j)) := congrArg Prod.fst hxx
      rw [hd] at hw
      have := hw _ (by simp only [DataW.weights, ht]; exact List.mem_cons_self ..)
      simp only [List.length_map, List.length_range, reachBytes] at this
      have h2 : len * P.bytesOf e ≤ (len + (m - len)) * P.bytesOf e := Nat.mul_le_mul_right _ (by omega)
      omega
/-- what a reading tells, flat -/
def leavesD {H : Type} : Nat → DataW H → List Lit
 | 0, _ => []
 | _ + 1, .lit l => [l]
 | d + 1, .agg xs => xs.flatMap (leavesD d)
 | _ + 1, _ => []
theorem trod_leaves : ∀ (d : Nat) (t : TypeId) (ks : List IntKind), flat P d t = some ks → ∀ (fuel : Nat) (cs : List Value) (x : DataW H × List MemPlace), DataW.trod enc P w base spare held fuel t cs = some x → cs.map litOf = leavesD d x.1
  | 0, t, ks, h, _, _, _, _ => by simp [flat] at h
  | d + 1, t, ks, h, fuel, cs, x, hx => by
    simp only [flat] at h
    cases hu : P.underlying t with
    | none => simp [hu] at h
    | some D =>
      cases D with
      | int k =>
        obtain ⟨n, rfl, rfl, hw⟩ := DataW.trod_int hu hx
        rfl
      | struct fs =>
        simp only [hu] at h
        cases hb : (contig (fs.toList.map fun f => (f.offset, P.cellsOf f.type)) 0 && Nat.beq (sumSz (fs.toList.map fun f => (f.offset, P.cellsOf f.type))) (P.cellsOf t)) with
        | false => simp [hb] at h
        | true =>
          rw [hb, cond_true] at h
          simp only [Bool.and_eq_true] at hb
          obtain ⟨xs, n, rfl, rfl, hlen, hxl, hel⟩ := DataW.trod_struct hu hx
          have hp := pieces _ 0 cs hb.1 (by rw [hlen, Nat.zero_add, Nat.eq_of_beq_eq_true hb.2])
          rw [List.drop_zero, List.map_map] at hp
          rw [hp]
          have hel' : ∀ (l : List Field) (ys : List (DataW H × List MemPlace)), ys.length = l.length → (∀ (i : Nat) (f : Field), l[i]? = some f → DataW.trod enc P w base spare held n f.type ((cs.drop f.offset).take (P.cellsOf f.type)) = ys[i]?) → ∀ ks, flatF (flat P d) l = some ks →
              (l.map ((fun x => (cs.drop x.1).take x.2) ∘ fun (f : Field) => (f.offset, P.cellsOf f.type))).flatten.map litOf = (ys.map (·.1)).flatMap (leavesD d) := by
            intro l
            induction l with
            | nil => intro ys hy _ ks h; obtain rfl := List.eq_nil_of_length_eq_zero hy; rfl
            | cons f l ih =>
              intro ys hy hl ks h
              cases ys with
              | nil => simp at hy
              | cons y ys =>
                simp only [flatF] at h
                cases hf : flat P d f.type with
                | none => simp [hf] at h
                | some a =>
                  cases hr : flatF (flat P d) l with
                  | none => simp [hf, hr] at h
                  | some b =>
                    have h0 := hl 0 f rfl
                    simp only [List.map_cons, List.flatten_cons, List.map_append, List.flatMap_cons]
                    rw [ih ys (by simpa using hy) (fun i f hi => by simpa using hl (i + 1) f (by simpa using hi)) b hr]
                    congr 1
                    exact trod_leaves d f.type a hf n _ y (by simpa using h0)
          exact hel' fs.toList xs (by simpa using hxl) (fun i f hi => hel i f (by simpa using hi)) ks h
      | array m e =>
        simp only [hu] at h
        cases hb : Nat.beq (m * P.cellsOf e) (P.cellsOf t) with
        | false => simp [hb] at h
        | true =>
          rw [hb, cond_true] at h
          cases hf : flat P d e with
          | none => simp [hf] at h
          | some a =>
            obtain ⟨xs, n, rfl, rfl, hlen, hxl, hel⟩ := DataW.trod_array hu hx
            have hb' := Nat.eq_of_beq_eq_true hb
            have key : ∀ (j k : Nat), j + k = m → (cs.drop (k * P.cellsOf e)).map litOf = ((xs.drop k).map (·.1)).flatMap (leavesD d) := by
              intro j
              induction j with
              | zero =>
                intro k hk
                have h1 : cs.drop (k * P.cellsOf e) = [] := by
                  apply List.drop_eq_nil_of_le
                  rw [hlen, ← hb', ← hk, Nat.zero_add]
                  exact Nat.le_refl _
                have h2 : xs.drop k = [] := List.drop_eq_nil_of_le (by omega)
                rw [h1, h2]; rfl
              | succ j ih =>
                intro k hk
                have h1 := hel k (by omega)
                have hkx : k < xs.length := by omega
                rw [List.getElem?_eq_getElem hkx] at h1
                have h2 := trod_leaves d e a hf n _ _ h1
                have h3 := ih (k + 1) (by omega)
                have e4 : (cs.drop (k * P.cellsOf e)).take (P.cellsOf e) ++ cs.drop ((k + 1) * P.cellsOf e) = cs.drop (k * P.cellsOf e) := by
                  conv => rhs; rw [← List.take_append_drop (P.cellsOf e) (cs.drop (k * P.cellsOf e)), List.drop_drop]
                  rw [Nat.add_mul, Nat.one_mul]
                rw [← e4, List.map_append, h2, h3, List.drop_eq_getElem_cons hkx, List.map_cons, List.flatMap_cons]
            have := key m 0 (by omega)
            rw [Nat.zero_mul, List.drop_zero, List.drop_zero] at this
            exact this
      | _ => simp [hu] at h
end
/-- A variable that a row lists, of integers laid flat. -/
theorem laid_flat {P : Program} {W : World} {name : String} {d : DataW Unit} {g t : Nat} {ks : List IntKind} {cs : List Value} : ∀ {laid : List (String × DataW Unit)}, laidMet P laid W → (name, d) ∈ laid → P.globalNamed name = some g → (P.globals[g]?).map (·.type) = some t → flat P 8 t = some ks → Ints ks cs → leavesD 8 d = cs.map litOf →
    ∀ j v, cs[j]? = some v → W.cell? ⟨g, 0 + j, none⟩ = some v := by
  intro laid h hm hg ht hk hi hl
  obtain ⟨ps, hv, _⟩ := h
  have key : ∀ (laid : List (String × DataW Unit)) (ps : List MemPlace), DataW.LaidVars P W laid ps → (name, d) ∈ laid → ∃ cs' : Array Value, W.var? P name = some cs' ∧ cs'.toList = cs := by
    intro laid
    induction laid with
    | nil => intro _ _ h; cases h
    | cons x r ih =>
      intro ps hv hm
      obtain ⟨n, d'⟩ := x
      obtain ⟨g', t', cs', fuel, p, q, hg', ht', hvar, hd, hr, _⟩ := hv
      rcases List.mem_cons.1 hm with he | hm
      · cases he
        obtain rfl := Option.some.inj (hg.symm.trans hg')
        obtain rfl := Option.some.inj (ht.symm.trans ht')
        exact ⟨cs', hvar, Ints.inj (trod_flat 8 t ks hk fuel _ _ hd) hi ((trod_leaves 8 t ks hk fuel _ _ hd).trans hl)⟩
      · exact ih q hr hm
  obtain ⟨cs', hvar, rfl⟩ := key laid ps hv hm
  intro j v hj
  have := World.var?_cell hg hvar j
  rw [Nat.zero_add, this]
  simpa using hj
end Go.Gx
namespace Go.Gx
open Go Go.RowKit
section
variable {P : Program} {n : Nat} {ops : Array Oper} {o : Oper} {σ : Slots} {A : World → Prop} {g : Bool} {v : Value} {x y z : Operand} {c c1 c2 c3 : Bool} {t t2 : TypeId} {k : IntKind} {p q : Int}
theorem run_eqNilP {w : World} {e : TypeId} {ad : Option Addr} (hu : P.underlying t = some (.pointer e)) : (Op.equal t (.pointer ad) (.pointer none)).run P w = .ok ad.isNone w := by
 have h : ∀ d, (Op.equalIn (d + 1) t (.pointer ad) (.pointer none)).run P w = .ok ad.isNone w := fun d => by
  cases ad <;> simp [Op.equalIn, Sem.run_bind, run_underlying hu]
 exact h 9999
theorem run_eqNilS {w : World} {e : TypeId} {ad : Option Addr} {l cap : Nat} (hu : P.underlying t = some (.slice e)) : (Op.equal t (.slice ad l cap) (.slice none 0 0)).run P w = .ok ad.isNone w := by
 have h : ∀ d, (Op.equalIn (d + 1) t (.slice ad l cap) (.slice none 0 0)).run P w = .ok ad.isNone w := fun d => by
  cases ad <;> simp [Op.equalIn, Sem.run_bind, run_underlying hu]
 exact h 9999
theorem QT_neNilP {e : TypeId} {ad : Option Addr} (hg : gdc ops σ o = some g) (hop : o.op = .binOp .neq t x y t2) (hu : P.underlying t = some (.pointer e)) (hx : ev σ x = some (c1, .pointer ad)) (hy : ev σ y = some (c2, .pointer none))
  (hc : g = true → c1 = true ∧ c2 = true := by first | exact fun _ => ⟨rfl, rfl⟩ | (intro h; first | grind | simp_all)) : QT P n ops o σ A g (.bool (!ad.isNone)) :=
 QT.mk hg fun a w hf _ h => by
  have h1 := run_binNe (P := P) (w := w) rfl (run_eqNilP (ad := ad) hu)
  simp only [execOp, hop, hf.eval hx (hc h).1, hf.eval hy (hc h).2, eqGuard, Sem.run_bind]
  simp [h1]
theorem QT_eqNilS {e : TypeId} {ad : Option Addr} {l cap : Nat} (hg : gdc ops σ o = some g) (hop : o.op = .binOp .eql t x y t2) (hu : P.underlying t = some (.slice e)) (hx : ev σ x = some (c1, .slice ad l cap)) (hy : ev σ y = some (c2, .slice none 0 0))
  (hc : g = true → c1 = true ∧ c2 = true := by first | exact fun _ => ⟨rfl, rfl⟩ | (intro h; first | grind | simp_all)) : QT P n ops o σ A g (.bool ad.isNone) :=
 QT.mk hg fun a w hf _ h => by
  have h1 := run_binEq (P := P) (w := w) rfl (run_eqNilS (ad := ad) (l := l) (cap := cap) hu)
  simp only [execOp, hop, hf.eval hx (hc h).1, hf.eval hy (hc h).2, eqGuard, Sem.run_bind]
  simp [h1]
end
end Go.Gx

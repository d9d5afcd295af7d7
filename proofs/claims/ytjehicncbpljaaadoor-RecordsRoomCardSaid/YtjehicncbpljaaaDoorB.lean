/- THE OPERATIONS OF THE LOGIC OF GxA: memory as a list of the blocks that the call owns; each operation's rule. Program-independent. -/
import Derived.Test.YtjehicncbpljaaaDoorA
import Derived.Below
import Derived.IntWalk
namespace Go.Gx
open Go Go.RowKit

theorem add_mk (b o n : Nat) : (⟨b, o, none⟩ : Addr).add n = ⟨b, o + n, none⟩ := by
  unfold Addr.add; split <;> simp_all
theorem add_block (a : Addr) (n : Nat) : (a.add n).block = a.block := by unfold Addr.add; split <;> rfl
theorem add_addr (a : Addr) (i j : Nat) : (a.add i).add j = a.add (i + j) := by
  unfold Addr.add
  by_cases hi : i = 0 <;> by_cases hj : j = 0 <;> simp [hi, hj, Nat.add_assoc]

abbrev Blk := Nat × TypeId × List Value
abbrev Heap := List Blk
def Blk.obj (x : Blk) : Obj := .cells x.2.2.toArray x.2.1 (0, 0)

/-- What is kept of a world: all below its size, but for the holes. -/
structure Base where
  w : World
  hole : Nat → Bool
instance : Coe World Base := ⟨fun w => ⟨w, fun _ => false⟩⟩
def Base.cell? (B : Base) (a : Addr) : Option Value := bif B.hole a.block then none else B.w.cell? a
structure BelowB (w0 : Base) (w : World) : Prop where
  os : w.os = w0.w.os
  tape : w.tape = w0.w.tape
  output : w.output = w0.w.output
  size : w0.w.heap.size ≤ w.heap.size
  block : ∀ k, k < w0.w.heap.size → w0.hole k = false → w.heap[k]? = w0.w.heap[k]?
theorem BelowB.drew {w0 : Base} {w : World} (h : BelowB w0 w) : BelowB w0 w.drew := ⟨h.os, h.tape, h.output, h.size, h.block⟩
theorem BelowB.alloc {w0 : Base} {w : World} (h : BelowB w0 w) (hB : w0.w.heap.size ≤ w.heap.size) (o : Obj) : BelowB w0 (w.alloc o) :=
  ⟨h.os, h.tape, h.output, by simp; omega, fun k hk hh => (Below.heap_alloc _ _ _ (by omega)).trans (h.block k hk hh)⟩
theorem BelowB.setCell {w0 : Base} {w : World} (h : BelowB w0 w) {p : Addr} (hp : w0.w.heap.size ≤ p.block ∨ w0.hole p.block = true) (u : Value) : BelowB w0 (w.setCell p u) :=
  ⟨h.os, h.tape, h.output, by have := h.size; simpa [World.setCell] using this, fun k hk hh => (Below.heap_setCell _ _ _ _ (by
    rintro rfl
    rcases hp with hp | hp
    · omega
    · rw [hp] at hh; exact absurd hh (by decide))).trans (h.block k hk hh)⟩
theorem BelowB.cell {w0 : Base} {w : World} (h : BelowB w0 w) {p : Addr} (hp : p.block < w0.w.heap.size) (hh : w0.hole p.block = false) : w.cell? p = w0.w.cell? p := World.cell?_of_block (w := w0.w) (h.block p.block hp hh)
theorem BelowB.plain {W w : World} (h : BelowB W w) : Below W.heap.size W w := ⟨h.os, h.tape, h.output, h.size, fun k hk => h.block k hk rfl⟩
/-- The world: below w0's size it is as w0 was, but for the holes; the blocks of the list are there, whole, apart from each other and from all that w0 keeps. -/
structure St (w0 : Base) (η : Heap) (w : World) : Prop where
  below : BelowB w0 w
  blk : ∀ x ∈ η, w.heap[x.1]? = some (.cells x.2.2.toArray x.2.1 (0, 0))
  own : ∀ x ∈ η, w0.w.heap.size ≤ x.1 ∨ w0.hole x.1 = true
  nodup : (η.map (·.1)).Nodup

theorem St.start (w : World) : St w [] w := ⟨⟨rfl, rfl, rfl, Nat.le_refl _, fun _ _ _ => rfl⟩, fun x h => by simp at h, fun x h => by simp at h, by simp⟩
theorem St.calm (w0 : Base) (η : Heap) : Calm (St w0 η) := fun _ h => ⟨h.below.drew, h.blk, h.own, h.nodup⟩
theorem St.sub {w0 : Base} {η η' : Heap} {w : World} (h : St w0 η w) (hs : η'.Sublist η) : St w0 η' w :=
  ⟨h.below, fun x hx => h.blk x (hs.subset hx), fun x hx => h.own x (hs.subset hx), (hs.map _).nodup h.nodup⟩
theorem St.perm {w0 : Base} {η η' : Heap} {w : World} (h : St w0 η w) (hs : η'.Perm η) : St w0 η' w :=
  ⟨h.below, fun x hx => h.blk x (hs.subset hx), fun x hx => h.own x (hs.subset hx), (hs.map _).nodup_iff.2 h.nodup⟩
theorem St.tail {w0 : Base} {x : Blk} {η : Heap} {w : World} (h : St w0 (x :: η) w) : St w0 η w := h.sub (List.sublist_cons_self ..)
theorem lt_of_heap {w : World} {b : Nat} {o : Obj} (h : w.heap[b]? = some o) : b < w.heap.size := (Array.getElem?_eq_some_iff.1 h).1
theorem St.lt {w0 : Base} {η : Heap} {w : World} (h : St w0 η w) {x : Blk} (hx : x ∈ η) : x.1 < w.heap.size := lt_of_heap (h.blk x hx)

theorem St.alloc {w0 : Base} {η : Heap} {w : World} (h : St w0 η w) (T : TypeId) (cs : Array Value) : St w0 ((w.heap.size, T, cs.toList) :: η) (w.alloc (.cells cs T)) := by
  refine ⟨h.below.alloc h.below.size _, fun x hx => ?_, fun x hx => ?_, ?_⟩
  · rcases List.mem_cons.1 hx with rfl | hx
    · exact heap_alloc_new w _
    · rw [Below.heap_alloc w _ _ (h.lt hx)]; exact h.blk x hx
  · rcases List.mem_cons.1 hx with rfl | hx
    · exact .inl h.below.size
    · exact h.own x hx
  · rw [List.map_cons, List.nodup_cons]
    refine ⟨fun hm => ?_, h.nodup⟩
    obtain ⟨x, hx, he⟩ := List.mem_map.1 hm
    have := h.lt hx
    omega

/-- The blocks are found by their place in the list. -/
def nth : Heap → Nat → Option Blk
  | [], _ => none
  | x :: _, 0 => some x
  | _ :: r, i + 1 => nth r i
def upd : Heap → Nat → List Value → Heap
  | [], _, _ => []
  | x :: r, 0, cs => (x.1, x.2.1, cs) :: r
  | x :: r, i + 1, cs => x :: upd r i cs
def setAt (cs : List Value) (off : Nat) : List Value → List Value
  | [] => cs
  | v :: r => setAt (cs.set off v) (off + 1) r

theorem nth_mem : ∀ {η : Heap} {i : Nat} {x : Blk}, nth η i = some x → x ∈ η
  | [], _, _, h => by simp [nth] at h
  | y :: r, 0, x, h => by simp [nth] at h; subst h; exact List.mem_cons_self ..
  | y :: r, i + 1, x, h => List.mem_cons_of_mem _ (nth_mem (by simpa [nth] using h))

theorem upd_keys : ∀ (η : Heap) (i : Nat) (cs : List Value), (upd η i cs).map (·.1) = η.map (·.1)
  | [], _, _ => rfl
  | x :: r, 0, cs => rfl
  | x :: r, i + 1, cs => by simp [upd, upd_keys r i cs]

theorem upd_mem : ∀ {η : Heap} {i : Nat} {cs : List Value} {x y : Blk}, nth η i = some x → (η.map (·.1)).Nodup → y ∈ upd η i cs → y = (x.1, x.2.1, cs) ∨ (y ∈ η ∧ y.1 ≠ x.1)
  | [], _, _, _, _, h, _, _ => by simp [nth] at h
  | z :: r, 0, cs, x, y, h, hn, hy => by
    simp [nth] at h; subst h
    simp only [upd, List.mem_cons] at hy
    rcases hy with rfl | hy
    · exact .inl rfl
    · refine .inr ⟨List.mem_cons_of_mem _ hy, fun e => ?_⟩
      rw [List.map_cons, List.nodup_cons] at hn
      exact hn.1 (List.mem_map.2 ⟨y, hy, e⟩)
  | z :: r, i + 1, cs, x, y, h, hn, hy => by
    simp only [nth] at h
    simp only [upd, List.mem_cons] at hy
    rw [List.map_cons, List.nodup_cons] at hn
    rcases hy with rfl | hy
    · exact .inr ⟨List.mem_cons_self .., fun e => hn.1 (List.mem_map.2 ⟨x, nth_mem h, e.symm⟩)⟩
    · rcases upd_mem h hn.2 hy with h1 | ⟨h1, h2⟩
      · exact .inl h1
      · exact .inr ⟨List.mem_cons_of_mem _ h1, h2⟩

theorem St.set {w0 : Base} {η : Heap} {w : World} {i b T off : Nat} {cs : List Value} {v : Value} (h : St w0 η w) (hi : nth η i = some (b, T, cs)) :
    St w0 (upd η i (cs.set off v)) (w.setCell ⟨b, off, none⟩ v) := by
  have hb := h.blk _ (nth_mem hi)
  refine ⟨h.below.setCell (h.own _ (nth_mem hi)) v, fun y hy => ?_, fun y hy => ?_, by rw [upd_keys]; exact h.nodup⟩
  · rcases upd_mem hi h.nodup hy with rfl | ⟨hy, hne⟩
    · simp only at hb ⊢
      rw [heap_setCell_same w b off _ T v hb]
      simp
    · rw [Below.heap_setCell _ _ _ _ (by simpa using hne)]; exact h.blk y hy
  · have ho := h.own _ (nth_mem hi)
    rcases upd_mem hi h.nodup hy with rfl | ⟨hy, _⟩
    · exact ho
    · exact h.own y hy

theorem St.cell {w0 : Base} {η : Heap} {w : World} {i b T : Nat} {cs : List Value} (h : St w0 η w) (hi : nth η i = some (b, T, cs)) (k : Nat) : w.cell? ⟨b, k, none⟩ = cs[k]? := by
  rw [cell_of_row w b k _ T (0, 0) (h.blk _ (nth_mem hi))]; simp
theorem St.thaw {w0 : Base} {η : Heap} {w : World} {i b T : Nat} {cs : List Value} (h : St w0 η w) (hi : nth η i = some (b, T, cs)) (k : Nat) : w.frozen? ⟨b, k, none⟩ = false :=
  frozen_of_row w b k _ T (h.blk _ (nth_mem hi))

theorem nth_upd : ∀ {η : Heap} {i : Nat} {x : Blk} {cs : List Value}, nth η i = some x → nth (upd η i cs) i = some (x.1, x.2.1, cs)
  | [], _, _, _, h => by simp [nth] at h
  | y :: r, 0, x, cs, h => by simp [nth] at h; subst h; rfl
  | y :: r, i + 1, x, cs, h => by simp only [nth, upd] at h ⊢; exact nth_upd h
theorem upd_upd : ∀ {η : Heap} {i : Nat} {cs cs' : List Value}, upd (upd η i cs) i cs' = upd η i cs'
  | [], _, _, _ => rfl
  | x :: r, 0, _, _ => rfl
  | x :: r, i + 1, cs, cs' => by simp [upd, upd_upd (η := r)]
theorem upd_same : ∀ {η : Heap} {i b T : Nat} {cs : List Value}, nth η i = some (b, T, cs) → upd η i cs = η
  | [], _, _, _, _, h => by simp [nth] at h
  | x :: r, 0, b, T, cs, h => by simp [nth] at h; subst h; rfl
  | x :: r, i + 1, b, T, cs, h => by simp only [nth] at h; simp [upd, upd_same h]

theorem St.storeCells {P : Program} {w0 : Base} {b T i : Nat} : ∀ (vs : List Value) (η : Heap) (w : World) (off k : Nat) (cs : List Value), St w0 η w → nth η i = some (b, T, cs) → (∀ u ∈ vs, u.oneCell' = true) → off + k + vs.length ≤ cs.length →
    ∃ w', (storeCells ⟨b, off, none⟩ vs k).run P w = .ok () w' ∧ St w0 (upd η i (setAt cs (off + k) vs)) w'
  | [], η, w, off, k, cs, h, hi, _, _ => ⟨w, by simp [Go.storeCells], by simp only [setAt]; rw [upd_same hi]; exact h⟩
  | v :: r, η, w, off, k, cs, h, hi, h1, hl => by
    have hv := h1 v (List.mem_cons_self ..)
    simp only [List.length_cons] at hl
    have hc := h.cell hi (off + k)
    rw [List.getElem?_eq_getElem (by omega)] at hc
    obtain ⟨w', hrun, hst⟩ := St.storeCells (P := P) r _ _ off (k + 1) (cs.set (off + k) v) (h.set (off := off + k) (v := v) hi) (nth_upd hi) (fun u hu => h1 u (List.mem_cons_of_mem _ hu)) (by simp; omega)
    refine ⟨w', ?_, ?_⟩
    · simp only [Go.storeCells, Sem.run_bind, add_mk, run_store P w _ v .plain hv, hc, h.thaw hi, Bool.false_eq_true, if_false, Result.andThen_ok]
      exact hrun
    · rw [upd_upd] at hst
      exact hst

theorem St.loadCells {P : Program} {w0 : Base} {η : Heap} {w : World} {i b T off m : Nat} {cs : List Value} (h : St w0 η w) (hi : nth η i = some (b, T, cs)) (hm : off + m ≤ cs.length) :
    (loadCells ⟨b, off, none⟩ m).run P w = .ok ((cs.drop off).take m).toArray w := by
  have hl : ((cs.drop off).take m).length = m := by simp; omega
  have := run_loadCells_list (P := P) w ⟨b, off, none⟩ ((cs.drop off).take m) (fun j v hv => by
    have hj : j < m := by
      have := (List.getElem?_eq_some_iff.1 hv).1
      omega
    rw [add_mk, h.cell hi]
    rw [List.getElem?_take_of_lt hj, List.getElem?_drop] at hv
    exact hv)
  rwa [hl] at this

/-! ### Facts on types, each closed at a program -/
def Sz (P : Program) (t m : Nat) : Prop := (P.info? t).map (·.size) = some m
def FieldOk (P : Program) (s i off : Nat) : Prop := ∃ fs f m, P.underlying s = some (.struct fs) ∧ fs[i]? = some f ∧ f.offset = off ∧ Sz P f.type (m + 1)
def ZeroOk (P : Program) (t : Nat) (v : Value) : Prop := (P.info? t).bind (·.zero) = some v
def CalleeOk (P : Program) (f : FuncId) : Prop := ∃ fn, P.funcs[f]? = some fn ∧ fn.body.isNone = false ∧ (fn.name == "runtime.NumGoroutine") = false
theorem run_sizeOf {P : Program} {t m : Nat} (h : Sz P t m) (w : World) : (sizeOf t).run P w = .ok m w := by
  unfold Sz at h
  cases hi : P.info? t with
  | none => simp [hi] at h
  | some inf => simp [hi] at h; simp [sizeOf, typeInfo, hi, h]
theorem run_zeroValue {P : Program} {t : Nat} {v : Value} (h : ZeroOk P t v) (w : World) : (zeroValue t).run P w = .ok v w := by
  unfold ZeroOk at h
  cases hi : P.info? t with
  | none => simp [hi] at h
  | some inf => simp [hi] at h; simp [zeroValue, typeInfo, hi, h]

/-! ### Quiet operations -/
section
variable {P : Program} {n : Nat} {ops : Array Oper} {o : Oper} {σ : Slots} {A : World → Prop} {g : Bool} {v : Value} {x y z : Operand} {c c1 c2 c3 : Bool} {t t2 : TypeId} {k : IntKind} {p q : Int}

theorem QT.mk (hg : gdc ops σ o = some g) (h : ∀ a w, Fr n σ a → A w → g = true → (execOp a.eval o).run P w = .ok (.value v) w) : QT P n ops o σ A g v :=
  fun a w hf hA => ⟨wanted_of_gdc hf hg, h a w hf hA⟩

theorem QT_move (hg : gdc ops σ o = some g) (hop : o.op = .move x) (hx : ev σ x = some (c, v)) (hc : g = true → c = true := by first | exact fun _ => rfl | exact id | (intro h; first | grind | simp_all)) : QT P n ops o σ A g v :=
  QT.mk hg fun a w hf _ h => by simp [execOp, hop, hf.eval hx (hc h)]
theorem QT_assign (hg : gdc ops σ o = some g) (hop : o.op = .assign x) (hx : ev σ x = some (c, v)) (hc : g = true → c = true := by first | exact fun _ => rfl | exact id | (intro h; first | grind | simp_all)) : QT P n ops o σ A g v :=
  QT.mk hg fun a w hf _ h => by simp [execOp, hop, hf.eval hx (hc h)]

/-- 'a && b'. -/
theorem QT_and {b b' : Bool} (hg : gdc ops σ o = some g) (hop : o.op = .pick x y (.const (.bool false))) (hx : ev σ x = some (c1, .bool b)) (hy : ev σ y = some (c2, .bool b'))
    (hc : g = true → c1 = true ∧ (b = true → c2 = true) := by first | exact fun _ => ⟨rfl, fun _ => rfl⟩ | exact fun _ => ⟨rfl, id⟩ | (intro h; first | grind | simp_all)) : QT P n ops o σ A g (.bool (b && b')) :=
  QT.mk hg fun a w hf _ h => by
    obtain ⟨h1, h2⟩ := hc h
    cases b with
    | true => simp [execOp, hop, hf.eval hx h1, hf.eval hy (h2 rfl), asBool]
    | false =>
      have e : a.eval (.const (.bool false)) = .bool false := rfl
      simp [execOp, hop, hf.eval hx h1, asBool, e]
/-- 'a || b'. -/
theorem QT_or {b b' : Bool} (hg : gdc ops σ o = some g) (hop : o.op = .pick x (.const (.bool true)) y) (hx : ev σ x = some (c1, .bool b)) (hy : ev σ y = some (c2, .bool b'))
    (hc : g = true → c1 = true ∧ (b = false → c2 = true) := by first | exact fun _ => ⟨rfl, fun _ => rfl⟩ | (intro h; first | grind | simp_all)) : QT P n ops o σ A g (.bool (b || b')) :=
  QT.mk hg fun a w hf _ h => by
    obtain ⟨h1, h2⟩ := hc h
    cases b with
    | true =>
      have e : a.eval (.const (.bool true)) = .bool true := rfl
      simp [execOp, hop, hf.eval hx h1, asBool, e]
    | false => simp [execOp, hop, hf.eval hx h1, hf.eval hy (h2 rfl), asBool]

/-! #### int's arithmetic: what fits stays bare -/
abbrev I64 (z : Int) : Prop := -9223372036854775808 ≤ z ∧ z ≤ 9223372036854775807
theorem wrap_i64 {z : Int} (h : I64 z) : IntKind.i64.wrap z = z := by
  obtain ⟨h1, h2⟩ := h
  exact IntWalk.i64_in z ⟨by omega, by omega⟩

theorem QT_add (hg : gdc ops σ o = some g) (hop : o.op = .binOp .add t x y t2) (hx : ev σ x = some (c1, .int .i64 p)) (hy : ev σ y = some (c2, .int .i64 q)) (hr : g = true → I64 (p + q))
    (hc : g = true → c1 = true ∧ c2 = true := by first | exact fun _ => ⟨rfl, rfl⟩ | (intro h; first | grind | simp_all)) : QT P n ops o σ A g (.int .i64 (p + q)) :=
  QT.mk hg fun a w hf _ h => by simp [execOp, hop, hf.eval hx (hc h).1, hf.eval hy (hc h).2, eqGuard, binOp, Op.intArith, wrap_i64 (hr h)]
theorem QT_sub (hg : gdc ops σ o = some g) (hop : o.op = .binOp .sub t x y t2) (hx : ev σ x = some (c1, .int .i64 p)) (hy : ev σ y = some (c2, .int .i64 q)) (hr : g = true → I64 (p - q))
    (hc : g = true → c1 = true ∧ c2 = true := by first | exact fun _ => ⟨rfl, rfl⟩ | (intro h; first | grind | simp_all)) : QT P n ops o σ A g (.int .i64 (p - q)) :=
  QT.mk hg fun a w hf _ h => by simp [execOp, hop, hf.eval hx (hc h).1, hf.eval hy (hc h).2, eqGuard, binOp, Op.intArith, wrap_i64 (hr h)]
theorem QT_mul (hg : gdc ops σ o = some g) (hop : o.op = .binOp .mul t x y t2) (hx : ev σ x = some (c1, .int .i64 p)) (hy : ev σ y = some (c2, .int .i64 q)) (hr : g = true → I64 (p * q))
    (hc : g = true → c1 = true ∧ c2 = true := by first | exact fun _ => ⟨rfl, rfl⟩ | (intro h; first | grind | simp_all)) : QT P n ops o σ A g (.int .i64 (p * q)) :=
  QT.mk hg fun a w hf _ h => by simp [execOp, hop, hf.eval hx (hc h).1, hf.eval hy (hc h).2, eqGuard, binOp, Op.intArith, wrap_i64 (hr h)]
/-! #### arithmetic that wraps -/
theorem QT_addw (hg : gdc ops σ o = some g) (hop : o.op = .binOp .add t x y t2) (hx : ev σ x = some (c1, .int k p)) (hy : ev σ y = some (c2, .int k q))
    (hc : g = true → c1 = true ∧ c2 = true := by first | exact fun _ => ⟨rfl, rfl⟩ | (intro h; first | grind | simp_all)) : QT P n ops o σ A g (.int k (k.wrap (p + q))) :=
  QT.mk hg fun a w hf _ h => by simp [execOp, hop, hf.eval hx (hc h).1, hf.eval hy (hc h).2, eqGuard, binOp, Op.intArith]
theorem QT_subw (hg : gdc ops σ o = some g) (hop : o.op = .binOp .sub t x y t2) (hx : ev σ x = some (c1, .int k p)) (hy : ev σ y = some (c2, .int k q))
    (hc : g = true → c1 = true ∧ c2 = true := by first | exact fun _ => ⟨rfl, rfl⟩ | (intro h; first | grind | simp_all)) : QT P n ops o σ A g (.int k (k.wrap (p - q))) :=
  QT.mk hg fun a w hf _ h => by simp [execOp, hop, hf.eval hx (hc h).1, hf.eval hy (hc h).2, eqGuard, binOp, Op.intArith]
theorem QT_mulw (hg : gdc ops σ o = some g) (hop : o.op = .binOp .mul t x y t2) (hx : ev σ x = some (c1, .int k p)) (hy : ev σ y = some (c2, .int k q))
    (hc : g = true → c1 = true ∧ c2 = true := by first | exact fun _ => ⟨rfl, rfl⟩ | (intro h; first | grind | simp_all)) : QT P n ops o σ A g (.int k (k.wrap (p * q))) :=
  QT.mk hg fun a w hf _ h => by simp [execOp, hop, hf.eval hx (hc h).1, hf.eval hy (hc h).2, eqGuard, binOp, Op.intArith]

/-! #### '/' and '%' at int, of what is not negative, by what is above nought -/
theorem QT_quo (hg : gdc ops σ o = some g) (hop : o.op = .binOp .quo t x y t2) (hx : ev σ x = some (c1, .int .i64 p)) (hy : ev σ y = some (c2, .int .i64 q)) (hr : g = true → 0 ≤ p ∧ p ≤ 9223372036854775807 ∧ 0 < q)
    (hc : g = true → c1 = true ∧ c2 = true := by first | exact fun _ => ⟨rfl, rfl⟩ | (intro h; first | grind | simp_all)) : QT P n ops o σ A g (.int .i64 (p / q)) :=
  QT.mk hg fun a w hf _ h => by
    obtain ⟨h0, h2, h1⟩ := hr h
    have hq : q ≠ 0 := by omega
    have hd : p.tdiv q = p / q := Int.tdiv_eq_ediv_of_nonneg h0
    have hi : I64 (p / q) := by
      have a1 : 0 ≤ p / q := Int.ediv_nonneg h0 (by omega)
      have a2 : p / q ≤ p := Int.ediv_le_self _ h0
      exact ⟨by omega, by omega⟩
    simp [execOp, hop, hf.eval hx (hc h).1, hf.eval hy (hc h).2, eqGuard, binOp, Op.intDiv, hq, hd, wrap_i64 hi]
theorem QT_rem (hg : gdc ops σ o = some g) (hop : o.op = .binOp .rem t x y t2) (hx : ev σ x = some (c1, .int k p)) (hy : ev σ y = some (c2, .int k q)) (hr : g = true → 0 ≤ p ∧ 0 < q)
    (hc : g = true → c1 = true ∧ c2 = true := by first | exact fun _ => ⟨rfl, rfl⟩ | (intro h; first | grind | simp_all)) : QT P n ops o σ A g (.int k (p % q)) :=
  QT.mk hg fun a w hf _ h => by
    obtain ⟨h0, h1⟩ := hr h
    have hq : q ≠ 0 := by omega
    have hd : p.tmod q = p % q := Int.tmod_eq_emod_of_nonneg h0
    simp [execOp, hop, hf.eval hx (hc h).1, hf.eval hy (hc h).2, eqGuard, binOp, Op.intDiv, hq, hd]

/-! #### comparisons of integers -/
theorem QT_lss (hg : gdc ops σ o = some g) (hop : o.op = .binOp .lss t x y t2) (hx : ev σ x = some (c1, .int k p)) (hy : ev σ y = some (c2, .int k q))
    (hc : g = true → c1 = true ∧ c2 = true := by first | exact fun _ => ⟨rfl, rfl⟩ | (intro h; first | grind | simp_all)) : QT P n ops o σ A g (.bool (decide (p < q))) :=
  QT.mk hg fun a w hf _ h => by simp [execOp, hop, hf.eval hx (hc h).1, hf.eval hy (hc h).2, eqGuard, binOp, Op.intCmp]
theorem QT_leq (hg : gdc ops σ o = some g) (hop : o.op = .binOp .leq t x y t2) (hx : ev σ x = some (c1, .int k p)) (hy : ev σ y = some (c2, .int k q))
    (hc : g = true → c1 = true ∧ c2 = true := by first | exact fun _ => ⟨rfl, rfl⟩ | (intro h; first | grind | simp_all)) : QT P n ops o σ A g (.bool (decide (p ≤ q))) :=
  QT.mk hg fun a w hf _ h => by simp [execOp, hop, hf.eval hx (hc h).1, hf.eval hy (hc h).2, eqGuard, binOp, Op.intCmp]
theorem QT_gtr (hg : gdc ops σ o = some g) (hop : o.op = .binOp .gtr t x y t2) (hx : ev σ x = some (c1, .int k p)) (hy : ev σ y = some (c2, .int k q))
    (hc : g = true → c1 = true ∧ c2 = true := by first | exact fun _ => ⟨rfl, rfl⟩ | (intro h; first | grind | simp_all)) : QT P n ops o σ A g (.bool (decide (q < p))) :=
  QT.mk hg fun a w hf _ h => by simp [execOp, hop, hf.eval hx (hc h).1, hf.eval hy (hc h).2, eqGuard, binOp, Op.intCmp]
theorem QT_geq (hg : gdc ops σ o = some g) (hop : o.op = .binOp .geq t x y t2) (hx : ev σ x = some (c1, .int k p)) (hy : ev σ y = some (c2, .int k q))
    (hc : g = true → c1 = true ∧ c2 = true := by first | exact fun _ => ⟨rfl, rfl⟩ | (intro h; first | grind | simp_all)) : QT P n ops o σ A g (.bool (decide (q ≤ p))) :=
  QT.mk hg fun a w hf _ h => by simp [execOp, hop, hf.eval hx (hc h).1, hf.eval hy (hc h).2, eqGuard, binOp, Op.intCmp]
theorem QT_eql (hg : gdc ops σ o = some g) (hop : o.op = .binOp .eql t x y t2) (hx : ev σ x = some (c1, .int k p)) (hy : ev σ y = some (c2, .int k q))
    (hc : g = true → c1 = true ∧ c2 = true := by first | exact fun _ => ⟨rfl, rfl⟩ | (intro h; first | grind | simp_all)) : QT P n ops o σ A g (.bool (decide (p = q))) :=
  QT.mk hg fun a w hf _ h => by simp [execOp, hop, hf.eval hx (hc h).1, hf.eval hy (hc h).2, eqGuard, binOp, Op.intCmp]; rfl
theorem QT_neq (hg : gdc ops σ o = some g) (hop : o.op = .binOp .neq t x y t2) (hx : ev σ x = some (c1, .int k p)) (hy : ev σ y = some (c2, .int k q))
    (hc : g = true → c1 = true ∧ c2 = true := by first | exact fun _ => ⟨rfl, rfl⟩ | (intro h; first | grind | simp_all)) : QT P n ops o σ A g (.bool (decide (p ≠ q))) :=
  QT.mk hg fun a w hf _ h => by
    simp [execOp, hop, hf.eval hx (hc h).1, hf.eval hy (hc h).2, eqGuard, binOp, Op.intCmp]
    rw [Bool.eq_iff_iff]; simp
theorem QT_neg (hg : gdc ops σ o = some g) (hop : o.op = .unOp .neg t x) (hx : ev σ x = some (c, .int .i64 p)) (hr : g = true → I64 (0 - p)) (hc : g = true → c = true := by first | exact fun _ => rfl | exact id | (intro h; first | grind | simp_all)) : QT P n ops o σ A g (.int .i64 (0 - p)) :=
  QT.mk hg fun a w hf _ h => by
    have := wrap_i64 (hr h)
    simp [execOp, hop, hf.eval hx (hc h), Op.unary, Op.intArith] at this ⊢
    exact this
theorem QT_not {b : Bool} (hg : gdc ops σ o = some g) (hop : o.op = .unOp .not t x) (hx : ev σ x = some (c, .bool b)) (hc : g = true → c = true := by first | exact fun _ => rfl | exact id | (intro h; first | grind | simp_all)) : QT P n ops o σ A g (.bool (!b)) :=
  QT.mk hg fun a w hf _ h => by simp [execOp, hop, hf.eval hx (hc h), Op.unary]

/-! #### shifts, bits, conversions -/
theorem QT_shl (hg : gdc ops σ o = some g) (hop : o.op = .binOp .shl t x y t2) {k2 : IntKind} (hx : ev σ x = some (c1, .int k p)) (hy : ev σ y = some (c2, .int k2 q)) (hr : g = true → 0 ≤ q)
    (hc : g = true → c1 = true ∧ c2 = true := by first | exact fun _ => ⟨rfl, rfl⟩ | (intro h; first | grind | simp_all)) : QT P n ops o σ A g (.int k (k.wrap (p * 2 ^ (min q.toNat k.bits)))) :=
  QT.mk hg fun a w hf _ h => by
    have : ¬ q < 0 := by have := hr h; omega
    simp [execOp, hop, hf.eval hx (hc h).1, hf.eval hy (hc h).2, eqGuard, binOp, Op.shift, this]
theorem QT_shr (hg : gdc ops σ o = some g) (hop : o.op = .binOp .shr t x y t2) {k2 : IntKind} (hx : ev σ x = some (c1, .int k p)) (hy : ev σ y = some (c2, .int k2 q)) (hr : g = true → 0 ≤ q)
    (hc : g = true → c1 = true ∧ c2 = true := by first | exact fun _ => ⟨rfl, rfl⟩ | (intro h; first | grind | simp_all)) : QT P n ops o σ A g (.int k (p.fdiv (2 ^ (min q.toNat k.bits)))) :=
  QT.mk hg fun a w hf _ h => by
    have : ¬ q < 0 := by have := hr h; omega
    simp [execOp, hop, hf.eval hx (hc h).1, hf.eval hy (hc h).2, eqGuard, binOp, Op.shift, this]
def bitsOf (op : BinOp) (k : IntKind) (p q : Int) : Int :=
  match op with
  | .and => k.wrap (BitVec.ofInt k.bits p &&& BitVec.ofInt k.bits q).toNat
  | .or => k.wrap (BitVec.ofInt k.bits p ||| BitVec.ofInt k.bits q).toNat
  | .xor => k.wrap (BitVec.ofInt k.bits p ^^^ BitVec.ofInt k.bits q).toNat
  | .andNot => k.wrap (BitVec.ofInt k.bits p &&& ~~~ BitVec.ofInt k.bits q).toNat
  | _ => 0
theorem QT_bits {op : BinOp} (hg : gdc ops σ o = some g) (hop : o.op = .binOp op t x y t2) (hb : op = .and ∨ op = .or ∨ op = .xor ∨ op = .andNot) (hx : ev σ x = some (c1, .int k p)) (hy : ev σ y = some (c2, .int k q))
    (hc : g = true → c1 = true ∧ c2 = true := by first | exact fun _ => ⟨rfl, rfl⟩ | (intro h; first | grind | simp_all)) : QT P n ops o σ A g (.int k (bitsOf op k p q)) :=
  QT.mk hg fun a w hf _ h => by
    rcases hb with rfl | rfl | rfl | rfl <;> simp [execOp, hop, hf.eval hx (hc h).1, hf.eval hy (hc h).2, eqGuard, binOp, Op.intBits, bitsOf]
theorem QT_conv {src dst : TypeId} {k' : IntKind} {ds : TypeDesc} (hg : gdc ops σ o = some g) (hop : o.op = .convert src dst x) (hsrc : P.underlying src = some ds) (hdst : P.underlying dst = some (.int k')) (hx : ev σ x = some (c, .int k p))
    (hc : g = true → c = true := by first | exact fun _ => rfl | exact id | (intro h; first | grind | simp_all)) : QT P n ops o σ A g (.int k' (k'.wrap p)) :=
  QT.mk hg fun a w hf _ h => by simp [execOp, hop, hf.eval hx (hc h), convert, run_underlying hsrc, run_underlying hdst, Conv.intToInt]

/-! #### tuples, structs by value -/
theorem QT_extract {vs : Array Value} {i : Nat} (hg : gdc ops σ o = some g) (hop : o.op = .extract x i) (hx : ev σ x = some (c, .tuple vs)) (hi : vs[i]? = some v)
    (hc : g = true → c = true := by first | exact fun _ => rfl | exact id | (intro h; first | grind | simp_all)) : QT P n ops o σ A g v :=
  QT.mk hg fun a w hf _ h => by simp [execOp, hop, hf.eval hx (hc h), Instr.extract, hi]

/-! #### addresses -/
theorem QT_field {s i fo : Nat} {b off : Nat} (hg : gdc ops σ o = some g) (hop : o.op = .fieldAddr s x i) (hfo : FieldOk P s i fo) (hx : ev σ x = some (c, .pointer (some ⟨b, off, none⟩)))
    (hc : g = true → c = true := by first | exact fun _ => rfl | exact id | (intro h; first | grind | simp_all)) : QT P n ops o σ A g (.pointer (some ⟨b, off + fo, none⟩)) :=
  QT.mk hg fun a w hf _ h => by
    obtain ⟨fs, f, m, hu, hfi, rfl, hm⟩ := hfo
    simp [execOp, hop, hf.eval hx (hc h), Instr.fieldAt, run_underlying hu, hfi, Instr.sureAddr, fieldPlace, run_sizeOf hm, add_mk]
theorem QT_indexSlice {e m b off len cap : Nat} (j : Nat) (hg : gdc ops σ o = some g) (hop : o.op = .indexAddr t x y) (hu : P.underlying t = some (.slice e)) (hm : Sz P e m)
    (hx : ev σ x = some (c1, .slice (some ⟨b, off, none⟩) len cap)) (hy : ev σ y = some (c2, .int k p)) (hp : p = (j : Int)) (hj : g = true → j < len)
    (hc : g = true → c1 = true ∧ c2 = true := by first | exact fun _ => ⟨rfl, rfl⟩ | (intro h; first | grind | simp_all)) : QT P n ops o σ A g (.pointer (some ⟨b, off + j * m, none⟩)) :=
  QT.mk hg fun a w hf _ h => by
    subst hp
    have hj' := hj h
    simp [execOp, hop, hf.eval hx (hc h).1, hf.eval hy (hc h).2, Instr.indexAt, asIntOf, run_underlying hu, hj', run_sizeOf hm, add_mk]
theorem QT_indexArr {e m b off len : Nat} (j : Nat) (hg : gdc ops σ o = some g) (hop : o.op = .indexAddr t x y) (hu : P.underlying t = some (.array len e)) (hm : Sz P e m)
    (hx : ev σ x = some (c1, .pointer (some ⟨b, off, none⟩))) (hy : ev σ y = some (c2, .int k p)) (hp : p = (j : Int)) (hj : g = true → j < len)
    (hc : g = true → c1 = true ∧ c2 = true := by first | exact fun _ => ⟨rfl, rfl⟩ | (intro h; first | grind | simp_all)) : QT P n ops o σ A g (.pointer (some ⟨b, off + j * m, none⟩)) :=
  QT.mk hg fun a w hf _ h => by
    subst hp
    have hj' := hj h
    simp [execOp, hop, hf.eval hx (hc h).1, hf.eval hy (hc h).2, Instr.indexAt, asIntOf, run_underlying hu, hj', run_sizeOf hm, add_mk, Instr.sureAddr]
theorem QT_nilCheck {ad : Addr} (hg : gdc ops σ o = some g) (hop : o.op = .nilCheck x) (hx : ev σ x = some (c, .pointer (some ad)))
    (hc : g = true → c = true := by first | exact fun _ => rfl | exact id | (intro h; first | grind | simp_all)) : QT P n ops o σ A g (.pointer (some ad)) :=
  QT.mk hg fun a w hf _ h => by simp [execOp, hop, hf.eval hx (hc h)]

theorem QT_len {e len cap : Nat} {ad : Option Addr} (hg : gdc ops σ o = some g) (hop : o.op = .call { callee := .builtin .len, args := #[x], argTypes := #[t] }) (hu : P.underlying t = some (.slice e)) (hx : ev σ x = some (c, .slice ad len cap))
    (hc : g = true → c = true := by first | exact fun _ => rfl | exact id | (intro h; first | grind | simp_all)) : QT P n ops o σ A g (.int .i64 (len : Int)) :=
  QT.mk hg fun a w hf _ h => by simp [execOp, hop, hf.eval hx (hc h), resolve, invoke, builtin, Builtin.len_, run_underlying hu, goInt]
theorem QT_cap {e len cap : Nat} {ad : Option Addr} (hg : gdc ops σ o = some g) (hop : o.op = .call { callee := .builtin .cap, args := #[x], argTypes := #[t] }) (hu : P.underlying t = some (.slice e)) (hx : ev σ x = some (c, .slice ad len cap))
    (hc : g = true → c = true := by first | exact fun _ => rfl | exact id | (intro h; first | grind | simp_all)) : QT P n ops o σ A g (.int .i64 (cap : Int)) :=
  QT.mk hg fun a w hf _ h => by simp [execOp, hop, hf.eval hx (hc h), resolve, invoke, builtin, Builtin.cap_, run_underlying hu, goInt]

/-! #### loads -/
def isAggD : TypeDesc → Bool
  | .struct _ | .array _ _ => true
  | _ => false
theorem run_isAgg {w : World} {d : TypeDesc} (hu : P.underlying t = some d) : (isAgg t).run P w = .ok (isAggD d) w := by
  unfold isAgg
  rw [Sem.run_bind, run_underlying hu w]
  cases d <;> rfl

/-- A cell of a block of one's own. -/
theorem QT_load {w0 : Base} {η : Heap} {b off T : Nat} {cs : List Value} {d : TypeDesc} (i : Nat) (hg : gdc ops σ o = some g) (hop : o.op = .load t x) (hu : P.underlying t = some d) (hd : isAggD d = false)
    (hx : ev σ x = some (c, .pointer (some ⟨b, off, none⟩))) (hi : nth η i = some (b, T, cs)) (hv : g = true → cs[off]? = some v)
    (hc : g = true → c = true := by first | exact fun _ => rfl | exact id | (intro h; first | grind | simp_all)) : QT P n ops o σ (St w0 η) g v :=
  QT.mk hg fun a w hf hA h => by
    simp [execOp, hop, hf.eval hx (hc h), Instr.loadAt, Instr.sureAddr, loadVar, run_isAgg hu, hd, hA.cell hi, hv h]
/-- A struct or an array in a block of one's own. -/
theorem QT_loadA {w0 : Base} {η : Heap} {b off T m : Nat} {cs : List Value} {d : TypeDesc} (i : Nat) (hg : gdc ops σ o = some g) (hop : o.op = .load t x) (hu : P.underlying t = some d) (hd : isAggD d = true)
    (hx : ev σ x = some (c, .pointer (some ⟨b, off, none⟩))) (hi : nth η i = some (b, T, cs)) (hm : Sz P t m) (hv : g = true → Nat.ble (off + m) cs.length = true)
    (hc : g = true → c = true := by first | exact fun _ => rfl | exact id | (intro h; first | grind | simp_all)) : QT P n ops o σ (St w0 η) g (.agg ((cs.drop off).take m).toArray) :=
  QT.mk hg fun a w hf hA h => by
    simp [execOp, hop, hf.eval hx (hc h), Instr.loadAt, Instr.sureAddr, loadVar, run_isAgg hu, hd, run_sizeOf hm, hA.loadCells hi (Nat.le_of_ble_eq_true (hv h))]
/-- The whole of it. -/
theorem QT_loadW {w0 : Base} {η : Heap} {b T : Nat} {cs : List Value} {d : TypeDesc} (i : Nat) (hg : gdc ops σ o = some g) (hop : o.op = .load t x) (hu : P.underlying t = some d) (hd : isAggD d = true)
    (hx : ev σ x = some (c, .pointer (some ⟨b, 0, none⟩))) (hi : nth η i = some (b, T, cs)) (hm : Sz P t cs.length)
    (hc : g = true → c = true := by first | exact fun _ => rfl | exact id | (intro h; first | grind | simp_all)) : QT P n ops o σ (St w0 η) g (.agg cs.toArray) :=
  QT.mk hg fun a w hf hA h => by
    have h1 := hA.loadCells (P := P) (off := 0) (m := cs.length) hi (by omega)
    simp only [List.drop_zero, List.take_length] at h1
    simp [execOp, hop, hf.eval hx (hc h), Instr.loadAt, Instr.sureAddr, loadVar, run_isAgg hu, hd, run_sizeOf hm, h1]

/-- Memory that is only read: under A the cells from an address on. -/
def Rd (A : World → Prop) (b off : Nat) (cs : List Value) : Prop := ∀ w, A w → ∀ j v, cs[j]? = some v → w.cell? ⟨b, off + j, none⟩ = some v
theorem Rd.start {w0 : Base} {η : Heap} {b off : Nat} {cs : List Value} (h : ∀ j v, cs[j]? = some v → w0.cell? ⟨b, off + j, none⟩ = some v) : Rd (St w0 η) b off cs := by
  intro w hw j v hv
  have h1 := h j v hv
  unfold Base.cell? at h1
  cases hh : w0.hole b with
  | true => simp [hh] at h1
  | false =>
    simp only [hh, cond_false] at h1
    have hlt : b < w0.w.heap.size := block_lt_of_cell (a := ⟨b, off + j, none⟩) h1
    rw [hw.below.cell (p := ⟨b, off + j, none⟩) hlt hh]
    exact h1
theorem QT_loadR {b off j : Nat} {cs : List Value} {d : TypeDesc} (hg : gdc ops σ o = some g) (hop : o.op = .load t x) (hu : P.underlying t = some d) (hd : isAggD d = false)
    (hr : Rd A b off cs) (hx : ev σ x = some (c, .pointer (some ⟨b, off + j, none⟩))) (hv : g = true → cs[j]? = some v)
    (hc : g = true → c = true := by first | exact fun _ => rfl | exact id | (intro h; first | grind | simp_all)) : QT P n ops o σ A g v :=
  QT.mk hg fun a w hf hA h => by
    simp [execOp, hop, hf.eval hx (hc h), Instr.loadAt, Instr.sureAddr, loadVar, run_isAgg hu, hd, hr w hA j v (hv h)]
theorem QT_loadRA {b off j m : Nat} {cs : List Value} {d : TypeDesc} (hg : gdc ops σ o = some g) (hop : o.op = .load t x) (hu : P.underlying t = some d) (hd : isAggD d = true) (hm : Sz P t m)
    (hr : Rd A b off cs) (hx : ev σ x = some (c, .pointer (some ⟨b, off + j, none⟩))) (hv : g = true → j + m ≤ cs.length)
    (hc : g = true → c = true := by first | exact fun _ => rfl | exact id | (intro h; first | grind | simp_all)) : QT P n ops o σ A g (.agg ((cs.drop j).take m).toArray) :=
  QT.mk hg fun a w hf hA h => by
    have hl : ((cs.drop j).take m).length = m := by have := hv h; simp; omega
    have h1 := run_loadCells_list (P := P) w ⟨b, off + j, none⟩ ((cs.drop j).take m) (fun i v hv' => by
      have hi : i < m := by
        have := (List.getElem?_eq_some_iff.1 hv').1
        omega
      rw [add_mk, Nat.add_assoc]
      rw [List.getElem?_take_of_lt hi, List.getElem?_drop] at hv'
      exact hr w hA _ _ hv')
    rw [hl] at h1
    simp [execOp, hop, hf.eval hx (hc h), Instr.loadAt, Instr.sureAddr, loadVar, run_isAgg hu, hd, run_sizeOf hm, h1]

/-! ### Effects -/
theorem ET_box {w0 : Base} {η : Heap} (hop : o.op = .box t x) (hx : ev σ x = some (true, v)) : ET P n o σ (St w0 η) fun r A' => ∃ b, r = .pointer (some ⟨b, 0, none⟩) ∧ A' = St w0 ((b, t, v.cells.toList) :: η) := by
  intro a w hf hA K Q hK
  unfold Oper.wp
  have : (execOp a.eval o).run P w = .ok (.value (.pointer (some ⟨w.heap.size, 0, none⟩))) (w.alloc (.cells v.cells t)) := by
    simp [execOp, hop, hf.eval hx rfl, Instr.box, newVar, newRow]
  rw [this, Oper.upon_value]
  exact hK _ _ _ ⟨_, rfl, rfl⟩ (hA.alloc t v.cells)
theorem ET_alloc {w0 : Base} {η : Heap} {zv : Value} (hop : o.op = .alloc t) (hz : ZeroOk P t zv) : ET P n o σ (St w0 η) fun r A' => ∃ b, r = .pointer (some ⟨b, 0, none⟩) ∧ A' = St w0 ((b, t, zv.cells.toList) :: η) := by
  intro a w hf hA K Q hK
  unfold Oper.wp
  have : (execOp a.eval o).run P w = .ok (.value (.pointer (some ⟨w.heap.size, 0, none⟩))) (w.alloc (.cells zv.cells t)) := by
    simp [execOp, hop, Instr.alloc, run_zeroValue hz, newVar, newRow]
  rw [this, Oper.upon_value]
  exact hK _ _ _ ⟨_, rfl, rfl⟩ (hA.alloc t zv.cells)
theorem ET_store {w0 : Base} {η : Heap} {b off T : Nat} {cs vs : List Value} (i : Nat) (hop : o.op = .store t x y) (hx : ev σ x = some (true, .pointer (some ⟨b, off, none⟩))) (hy : ev σ y = some (true, v)) (hvs : v.cells.toList = vs)
    (hm : Sz P t vs.length) (hi : nth η i = some (b, T, cs)) (h1 : vs.all Value.oneCell' = true) (hl : Nat.ble (off + vs.length) cs.length = true) :
    ET P n o σ (St w0 η) fun r A' => r = undef ∧ A' = St w0 (upd η i (setAt cs off vs)) := by
  intro a w hf hA K Q hK
  subst hvs
  have hl := Nat.le_of_ble_eq_true hl
  unfold Oper.wp
  obtain ⟨w', hrun, hst⟩ := St.storeCells (P := P) v.cells.toList η w off 0 cs hA hi (List.all_eq_true.1 h1) (by simpa using hl)
  have : (execOp a.eval o).run P w = .ok .skip w' := by
    simp [execOp, hop, hf.eval hx rfl, hf.eval hy rfl, Instr.storeAt, Instr.sureAddr, storeVar, run_sizeOf hm, hrun]
  rw [this, Oper.upon_skip]
  exact hK _ _ _ ⟨rfl, rfl⟩ hst
def evs (σ : Slots) : List Operand → Option (List (Bool × Value))
  | [] => some []
  | x :: r => match ev σ x, evs σ r with
    | some p, some ps => some (p :: ps)
    | _, _ => none
theorem evs_map : ∀ {l : List Operand} {cvs : List (Bool × Value)}, evs σ l = some cvs → l.map (ev σ) = cvs.map some
  | [], cvs, h => by simp [evs] at h; subst h; rfl
  | x :: r, cvs, h => by
    simp only [evs] at h
    cases hx : ev σ x with
    | none => simp [hx] at h
    | some p =>
      cases hr : evs σ r with
      | none => simp [hx, hr] at h
      | some ps =>
        simp [hx, hr] at h
        subst h
        simp [hx, evs_map hr]
theorem run_call {f : FuncId} {xs : Array Operand} {ts : Array TypeId} {cvs : List (Bool × Value)} {a : Act} (hop : o.op = .call { callee := .value (.func f), args := xs, argTypes := ts })
    (hcal : CalleeOk P f) (hvs : evs σ xs.toList = some cvs) (hc : cvs.all (·.1) = true) (hf : Fr n σ a) (w : World) : (execOp a.eval o).run P w = .ok (.enter f (cvs.map (·.2)).toArray) w := by
  obtain ⟨fn, hf', hb, hnm⟩ := hcal
  have hargs : xs.map a.eval = (cvs.map (·.2)).toArray := by
    apply Array.ext'
    rw [Array.toList_map]
    have : ∀ (l : List Operand) (vs : List (Bool × Value)), l.map (ev σ) = vs.map some → vs.all (·.1) = true → l.map a.eval = vs.map (·.2) := by
      intro l
      induction l with
      | nil => intro vs h _; cases vs <;> simp_all
      | cons y l ih =>
        intro vs h hc
        cases vs with
        | nil => simp at h
        | cons u vs =>
          simp only [List.map_cons, List.cons.injEq] at h ⊢
          simp only [List.all_cons, Bool.and_eq_true] at hc
          exact ⟨hf.eval (c := u.1) (v := u.2) h.1 hc.1, ih vs h.2 hc.2⟩
    exact this _ _ (evs_map hvs) hc
  have hcf : (callFunc f (cvs.map (·.2)).toArray).run P w = .ok (.enter f (cvs.map (·.2)).toArray) w := by
    unfold callFunc
    rw [Sem.run_bind, run_program, Result.andThen_ok]
    simp only [hf', hnm, hb, Bool.false_eq_true, if_false]
    rfl
  have e : a.eval (.func f) = .func (.func f) #[] #[] := rfl
  simp only [execOp, hop, resolve, e, Deferred.ofValue, hargs, Sem.run_bind, Sem.run_pure, Result.andThen_ok, invoke]
  simpa using hcf
/-- A call of a function with a body, by what is known of it. -/
theorem ET_call {f : FuncId} {xs : Array Operand} {ts : Array TypeId} {cvs : List (Bool × Value)} {R : Value → (World → Prop) → Prop} (hop : o.op = .call { callee := .value (.func f), args := xs, argTypes := ts })
    (hcal : CalleeOk P f) (hvs : evs σ xs.toList = some cvs) (h : CallsT P f (cvs.map (·.2)) A R) (hc : cvs.all (·.1) = true := by first | exact rfl | simp_all) : ET P n o σ A R := by
  intro a w hf hA K Q hK
  unfold Oper.wp
  rw [run_call hop hcal hvs hc hf w, Oper.upon_enter]
  refine (h w hA).mono fun e w' ⟨v, A', he, hR, hA'⟩ => ?_
  subst he
  exact hK v A' w' hR hA'

/-- A call that leaves what is known of the world as it was, under a guard: no need to part the ways. -/
theorem TL_cq {f : FuncId} {xs : Array Operand} {ts : Array TypeId} {cvs : List (Bool × Value)} {d : Nat} {u : Value} {rest : List Oper} {Q : Exit → Act → World → Prop} (hd : o.dst = some d) (hn : Nat.ble (d + 1) n = true) (hg : gdc ops σ o = some g)
    (hop : o.op = .call { callee := .value (.func f), args := xs, argTypes := ts }) (hcal : CalleeOk P f) (hvs : evs σ xs.toList = some cvs)
    (h : g = true → CallsT P f (cvs.map (·.2)) A fun v A' => v = u ∧ A' = A) (k : TL P n ops Q rest ((d, g, u) :: σ) A)
    (hc : g = true → cvs.all (·.1) = true := by first | exact fun _ => rfl | (intro h; first | grind | simp_all)) : TL P n ops Q (o :: rest) σ A := by
  intro a w hf hA
  have hw := wanted_of_gdc (ops := ops) hf hg
  unfold wpList
  cases g with
  | true =>
    rw [if_pos hw]
    refine .inl ?_
    unfold Oper.wp
    rw [run_call hop hcal hvs (hc rfl) hf w, Oper.upon_enter]
    refine (h rfl w hA).mono fun e w' ⟨v, A', he, ⟨hv, hA1⟩, hA'⟩ => ?_
    subst he hv hA1
    rw [hd]
    exact k _ _ (hf.put hn rfl) hA'
  | false =>
    rw [if_neg (by simp [hw]), hd]
    exact k _ _ (hf.put hn rfl) hA
theorem TV_cq {i : Nat} {r : List (Nat × Nat)} {V V₂ : Held} {f : FuncId} {xs : Array Operand} {ts : Array TypeId} {cvs : List (Bool × Value)} {d : Nat} {u : Value} {Q : Exit → Act → World → Prop} (ho : ops[i]? = some o) (hd : o.dst = some d) (hn : Nat.ble (d + 1) n = true) (hg : gdc ops σ o = some g)
    (hop : o.op = .call { callee := .value (.func f), args := xs, argTypes := ts }) (hcal : CalleeOk P f) (hvs : evs σ xs.toList = some cvs)
    (h : g = true → CallsT P f (cvs.map (·.2)) A fun v A' => v = u ∧ A' = A) (hK : KeepTo P n ops i A V V₂) (k : TV P n ops Q r V₂ ((d, g, u) :: σ) A)
    (hc : g = true → cvs.all (·.1) = true := by first | exact fun _ => rfl | (intro h; first | grind | simp_all)) : TV P n ops Q ((i, 1) :: r) V σ A := by
  intro hs hnp hcc a w V' hf hA hm
  obtain ⟨hr, hc', hrdy⟩ := chk_cons1 hcc
  have hw := wanted_of_gdc (ops := ops) hf hg
  refine ⟨fun h => (by rw [hrdy] at h; cases h), fun j hj => ?_⟩
  rw [hrdy] at hj
  obtain rfl : j = i := by simpa using hj
  unfold wpOp
  simp only [ho]
  cases g with
  | true =>
    rw [if_pos hw]
    refine .inl ?_
    unfold Oper.wp
    rw [run_call hop hcal hvs (hc rfl) hf w, Oper.upon_enter]
    refine (h rfl w hA).mono fun e w' ⟨v, A', he, ⟨hv, hA1⟩, hA'⟩ => ?_
    subst he hv hA1
    obtain ⟨h1, h2⟩ := hm.keep hK hA'
    rw [hd, listedOf_step hr]
    exact ⟨h1, k hs hnp hc' _ w' _ (hf.put hn rfl) hA' h2⟩
  | false =>
    rw [if_neg (by simp [hw])]
    obtain ⟨h1, h2⟩ := hm.keep hK hA
    rw [hd, listedOf_step hr]
    exact ⟨h1, k hs hnp hc' _ w _ (hf.put hn rfl) hA h2⟩
end
end Go.Gx

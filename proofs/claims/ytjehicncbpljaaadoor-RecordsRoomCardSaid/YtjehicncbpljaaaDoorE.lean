/- SLICES IN THE LOGIC: a slice of the call's own with room behind it ('Frag'); append, make, copy, slice; a slice that is read ('SlA'); equality of structs of integers. Program-independent. -/
import Derived.Test.YtjehicncbpljaaaDoorD
import Derived.Laws.AppendOwn
import Derived.Laws.MakeOwn
import Derived.Laws.Slices
import Derived.Laws.StructEq
import Derived.DeepKeys
namespace Go.Gx
open Go Go.RowKit

/-- A slice that is read: its cells, element by element. -/
def SlA (A : World → Prop) (v : Value) (size n : Nat) (cs : List Value) : Prop :=
  cs.length = n * size ∧ ∃ ad cap, v = .slice ad n cap ∧ (n ≤ cap ∧ cap ≤ 9223372036854775807) ∧ (n = 0 ∨ ∃ b off, ad = some ⟨b, off, none⟩ ∧ Rd A b off cs)

/-- A slice of the call's own: v, its elements' cells, the block that bears it, with room behind. -/
def Frag (e size : Nat) (v : Value) (n : Nat) (xs : List Value) (H : Heap) : Prop :=
  xs.length = n * size ∧ ((v = .slice none 0 0 ∧ n = 0 ∧ H = []) ∨ ∃ b cap rest, v = .slice (some ⟨b, 0, none⟩) n cap ∧ (n ≤ cap ∧ cap ≤ 9223372036854775807) ∧ cap * size ≤ (xs ++ rest).length ∧ H = [(b, e, xs ++ rest)])

theorem Frag.nil (e size : Nat) : Frag e size (.slice none 0 0) 0 [] [] := ⟨by simp, .inl ⟨rfl, rfl, rfl⟩⟩

theorem Rd.ownA {w0 : Base} {η : Heap} {b T : Nat} {cs xs : List Value} (h : (b, T, cs) ∈ η) (off : Nat) (hx : xs = (cs.drop off).take xs.length) : Rd (St w0 η) b off xs := by
  intro w hw j v hv
  rw [cell_of_row w b (off + j) _ T (0, 0) (hw.blk _ h)]
  have hj : j < xs.length := (List.getElem?_eq_some_iff.1 hv).1
  rw [hx, List.getElem?_take_of_lt hj, List.getElem?_drop] at hv
  simpa using hv
theorem Rd.mono {A A' : World → Prop} {b off : Nat} {cs : List Value} (h : Rd A b off cs) (hs : ∀ w, A' w → A w) : Rd A' b off cs := fun w hw => h w (hs w hw)
theorem SlA.mono {A A' : World → Prop} {v : Value} {size n : Nat} {cs : List Value} (h : SlA A v size n cs) (hs : ∀ w, A' w → A w) : SlA A' v size n cs := by
  obtain ⟨hl, ad, cap, hv, hc, h⟩ := h
  refine ⟨hl, ad, cap, hv, hc, ?_⟩
  rcases h with h | ⟨b, off, ha, hr⟩
  · exact .inl h
  · exact .inr ⟨b, off, ha, hr.mono hs⟩
theorem SlA.tail {w0 : Base} {η : Heap} {x : Blk} {v : Value} {size n : Nat} {cs : List Value} (h : SlA (St w0 η) v size n cs) : SlA (St w0 (x :: η)) v size n cs := h.mono fun _ h => h.tail
theorem St.app_right {w0 : Base} {X η : Heap} {w : World} (h : St w0 (X ++ η) w) : St w0 η w := h.sub (List.sublist_append_right ..)
theorem St.app_left {w0 : Base} {X η : Heap} {w : World} (h : St w0 (X ++ η) w) : St w0 X w := h.sub (List.sublist_append_left ..)
theorem SlA.app {w0 : Base} {X η : Heap} {v : Value} {size n : Nat} {cs : List Value} (h : SlA (St w0 η) v size n cs) : SlA (St w0 (X ++ η)) v size n cs := h.mono fun _ h => h.app_right
theorem Frag.sla {w0 : Base} {e size : Nat} {v : Value} {n : Nat} {xs : List Value} {H η : Heap} (h : Frag e size v n xs H) : SlA (St w0 (H ++ η)) v size n xs := by
  obtain ⟨hl, h⟩ := h
  rcases h with ⟨rfl, rfl, rfl⟩ | ⟨b, cap, rest, rfl, hc, hlen, rfl⟩
  · exact ⟨hl, _, _, rfl, ⟨Nat.le_refl _, by omega⟩, .inl rfl⟩
  · exact ⟨hl, _, _, rfl, hc, .inr ⟨b, 0, rfl, Rd.ownA (T := e) (cs := xs ++ rest) (by simp) 0 (by simp)⟩⟩

theorem St.setRow {w0 : Base} {b T : Nat} {cs vs : List Value} {η : Heap} {w : World} (h : St w0 ((b, T, cs) :: η) w) : St w0 ((b, T, vs) :: η) (w.setRow b vs.toArray) := by
  have hb := h.blk _ (List.mem_cons_self ..)
  have ho := h.own _ (List.mem_cons_self ..)
  have hn := h.nodup
  rw [List.map_cons, List.nodup_cons] at hn
  refine ⟨⟨h.below.os, h.below.tape, h.below.output, by have := h.below.size; simpa [World.setRow] using this, fun k hk hh => (setRow_other _ _ _ _ (by
    simp only at ho
    rintro rfl
    rcases ho with ho | ho
    · omega
    · rw [ho] at hh; exact absurd hh (by decide))).trans (h.below.block k hk hh)⟩, fun x hx => ?_, fun x hx => ?_, by simpa using h.nodup⟩
  · rcases List.mem_cons.1 hx with rfl | hx
    · exact setRow_heap w b _ _ T (0, 0) hb
    · rw [setRow_other]
      · exact h.blk x (List.mem_cons_of_mem _ hx)
      · intro e; exact hn.1 (List.mem_map.2 ⟨x, hx, e⟩)
  · rcases List.mem_cons.1 hx with rfl | hx
    · exact ho
    · exact h.own x (List.mem_cons_of_mem _ hx)

/-- Fewer blocks, in whatever order. -/
theorem St.cnt {w0 : Base} {η η' : Heap} {w : World} (h : St w0 η w) (hc : ∀ p : Blk → Bool, η'.countP p ≤ η.countP p) : St w0 η' w := by
  classical
  have hm : ∀ x ∈ η', x ∈ η := by
    intro x hx
    have h1 : 0 < η'.countP (fun y => decide (y = x)) := List.countP_pos_iff.2 ⟨x, hx, by simp⟩
    have h2 := hc (fun y => decide (y = x))
    obtain ⟨y, hy, he⟩ := List.countP_pos_iff.1 (Nat.lt_of_lt_of_le h1 h2)
    simp only [decide_eq_true_eq] at he
    exact he ▸ hy
  refine ⟨h.below, fun x hx => h.blk x (hm x hx), fun x hx => h.own x (hm x hx), ?_⟩
  rw [List.nodup_iff_count]
  intro k
  have h1 := List.nodup_iff_count.1 h.nodup k
  have h2 := hc (fun y => y.1 == k)
  simp only [List.count, List.countP_map] at h1 ⊢
  exact Nat.le_trans h2 h1

theorem nth_lt : ∀ {η : Heap} {i : Nat} {x : Blk}, nth η i = some x → ∃ L R, η = L ++ x :: R ∧ ∀ cs, upd η i cs = L ++ (x.1, x.2.1, cs) :: R
  | [], _, _, h => by simp [nth] at h
  | y :: r, 0, x, h => by simp [nth] at h; subst h; exact ⟨[], r, rfl, fun _ => rfl⟩
  | y :: r, i + 1, x, h => by
    obtain ⟨L, R, e, h2⟩ := nth_lt (η := r) (by simpa [nth] using h)
    exact ⟨y :: L, R, by simp [e], fun cs => by simp [upd, h2]⟩
theorem SlA.own {w0 : Base} {η : Heap} {b T off size n cap : Nat} {cs xs : List Value} (i : Nat) (hi : nth η i = some (b, T, cs)) (hx : xs = (cs.drop off).take (n * size)) (hl : off + n * size ≤ cs.length) (hc : n ≤ cap ∧ cap ≤ 9223372036854775807) :
    SlA (St w0 η) (.slice (some ⟨b, off, none⟩) n cap) size n xs := by
  have hlen : xs.length = n * size := by rw [hx, List.length_take, List.length_drop]; omega
  exact ⟨hlen, _, _, rfl, hc, .inr ⟨b, off, rfl, Rd.ownA (T := T) (cs := cs) (nth_mem hi) off (by rw [hlen]; exact hx)⟩⟩

theorem SlA.mem {w0 : Base} {η : Heap} {b T off size n cap : Nat} {cs xs : List Value} (hi : (b, T, cs) ∈ η) (hx : xs = (cs.drop off).take (n * size)) (hl : off + n * size ≤ cs.length) (hc : n ≤ cap ∧ cap ≤ 9223372036854775807) :
    SlA (St w0 η) (.slice (some ⟨b, off, none⟩) n cap) size n xs := by
  have hlen : xs.length = n * size := by rw [hx, List.length_take, List.length_drop]; omega
  exact ⟨hlen, _, _, rfl, hc, .inr ⟨b, off, rfl, Rd.ownA (T := T) (cs := cs) hi off (by rw [hlen]; exact hx)⟩⟩
theorem slc_addr {b off l size cap : Nat} (h : l < cap) : (if cap = l then some (⟨b, off, none⟩ : Addr) else (some (⟨b, off, none⟩ : Addr)).map (·.add (l * size))) = some ⟨b, off + l * size, none⟩ := by
  rw [if_neg (by omega)]; simp [add_mk]

theorem TL_A {P : Program} {n : Nat} {ops : Array Oper} {Q : Exit → Act → World → Prop} {rest : List Oper} {σ : Slots} {A : World → Prop} (A' : World → Prop) (hA : ∀ w, A w → A' w) (k : TL P n ops Q rest σ A') : TL P n ops Q rest σ A := fun a w hf h => k a w hf (hA w h)
theorem TV_A {P : Program} {n : Nat} {ops : Array Oper} {Q : Exit → Act → World → Prop} {ord : List (Nat × Nat)} {V : Held} {σ : Slots} {A : World → Prop} (A' : World → Prop) (hA : ∀ w, A w → A' w) (k : TV P n ops Q ord V σ A') : TV P n ops Q ord V σ A :=
  fun h1 h2 h3 a w V' hf h hm => k h1 h2 h3 a w V' hf (hA w h) hm
theorem TC_A {P : Program} {n : Nat} {c : Code} {Q : Exit → Act → World → Prop} {σ : Slots} {A : World → Prop} (A' : World → Prop) (hA : ∀ w, A w → A' w) (k : TC P n c Q σ A') : TC P n c Q σ A := fun a w hf h => k a w hf (hA w h)
theorem TX_A {n : Nat} {Q : Exit → Act → World → Prop} {e : Exit} {σ : Slots} {A : World → Prop} (A' : World → Prop) (hA : ∀ w, A w → A' w) (k : TX n Q e σ A') : TX n Q e σ A := fun a w hf h => k a w hf (hA w h)

def en : Nat → List Value → List (Nat × Value)
  | _, [] => []
  | i, v :: r => (i, v) :: en (i + 1) r
theorem segs_all (m : Nat) : ∀ (vs : List Value) (pl : List (Nat × Nat)) (zs : List Value) (i : Nat), pl.map (·.2) = List.replicate vs.length m → zs.length = vs.length * m → (∀ v ∈ vs, v.cells.toList.length = m) →
    segs pl zs (en i vs) i = some ((vs.map fun v => v.cells.toList).flatten)
  | [], pl, zs, i, hp, hz, _ => by
    have hz : zs = [] := List.eq_nil_of_length_eq_zero (by simpa using hz)
    cases pl <;> simp_all [segs, en]
  | v :: vs, pl, zs, i, hp, hz, h => by
    cases pl with
    | nil => simp [List.replicate_succ] at hp
    | cons x pl =>
      obtain ⟨o, sz⟩ := x
      simp only [List.map_cons, List.length_cons, List.replicate_succ, List.cons.injEq] at hp
      obtain ⟨rfl, hp⟩ := hp
      have h1 : Nat.beq v.cells.toList.length sz = true := by rw [h v (List.mem_cons_self ..)]; exact Nat.beq_refl sz
      have h2 : Nat.beq i i = true := Nat.beq_refl i
      have ih := segs_all sz vs pl (zs.drop sz) (i + 1) hp (by rw [List.length_drop, hz, List.length_cons, Nat.add_mul]; omega) (fun u hu => h u (List.mem_cons_of_mem _ hu))
      simp only [segs, en, h2, cond_true, h1, ih, List.map_cons, List.flatten_cons]

/-- What an element's type is, for append and make. -/
structure ElemOk (P : Program) (e size bytes : Nat) (z : Value) : Prop where
  info : ∃ i, P.info? e = some i ∧ i.size = size ∧ i.bytes = bytes ∧ i.zero = some z
  zsz : z.cells.size = size
  pos : 0 < size

theorem ElemOk.of {P : Program} {e size bytes : Nat} {z : Value} (h1 : Sz P e size) (h2 : (P.info? e).map (·.bytes) = some bytes) (h3 : ZeroOk P e z) (h4 : z.cells.size = size) (h5 : 0 < size) : ElemOk P e size bytes z := by
  refine ⟨?_, h4, h5⟩
  unfold Sz at h1
  unfold ZeroOk at h3
  cases hq : P.info? e with
  | none => simp [hq] at h1
  | some i => simp [hq] at h1 h2 h3; exact ⟨i, rfl, h1, h2, h3⟩
def zv (ks : List IntKind) : Value := .agg (ks.map fun k => .int k 0).toArray

section
variable {P : Program}
theorem run_appendK {w0 : Base} {η H : Heap} {w : World} {t ty e size bytes : Nat} {z v : Value} {n : Nat} {xs : List Value} (ht : P.underlying t = some (.slice e)) (he : ElemOk P e size bytes z)
    (hw : St w0 (H ++ η) w) (hF : Frag e size v n xs H) (a : Addr) (m c : Nat) (news : List Value) (hl : news.length = m * size) (hnews : ∀ j u, news[j]? = some u → w.cell? (a.add j) = some u) (h1 : ∀ u ∈ news, u.oneCell' = true)
    (hbytes : (n + m) * bytes ≤ 140737488355328) (h63 : n + m ≤ 9223372036854775807) :
    ∃ v' w' H', (Builtin.append_ #[t, t] ty #[v, .slice (some a) m c]).run P w = .ok v' w' ∧ Frag e size v' (n + m) (xs ++ news) H' ∧
      (((v' = v ∧ m = 0 ∧ H' = H ∨ ∃ b cap rest, v = .slice (some ⟨b, 0, none⟩) n cap ∧ v' = .slice (some ⟨b, 0, none⟩) (n + m) cap ∧ H = [(b, e, xs ++ rest)] ∧ H' = [(b, e, (xs ++ news) ++ rest.drop news.length)]) ∧ St w0 (H' ++ η) w') ∨ St w0 (H' ++ (H ++ η)) w') := by
  obtain ⟨⟨i, hi, hs, hb, hz⟩, hzs, hpos⟩ := he
  subst hs; subst hb
  obtain ⟨hxl, hF⟩ := hF
  have hlen : (xs ++ news).length = (n + m) * i.size := by rw [List.length_append, hxl, hl, Nat.add_mul]
  rcases hF with ⟨rfl, rfl, rfl⟩ | ⟨b, cap, rest, rfl, hc, hcl, rfl⟩
  · have hx : xs = [] := List.eq_nil_of_length_eq_zero (by simpa using hxl)
    subst hx
    by_cases hm : m = 0
    · subst hm
      have hn : news = [] := List.eq_nil_of_length_eq_zero (by simpa using hl)
      subst hn
      refine ⟨.slice none 0 0, w, [], ?_, Frag.nil e _, .inl ⟨.inl ⟨rfl, rfl, rfl⟩, hw⟩⟩
      simp [Builtin.append_, run_underlying ht, sizeOf, typeInfo, hi, Builtin.lenOf, Builtin.firstCells, loadCells, loadCellsFrom]
    · have hr := run_append_nil (P := P) w t ty e i z ht hi hz a m c news hl hnews (by omega) (by omega) (by simp only [Nat.zero_add] at hbytes; omega)
      have hge := grownCap_ge w m 0 e
      have hcm : grownCap w m 0 e ≤ 9223372036854775807 := grownCap_le_maxLen w m 0 e (by simp only [maxLen]; omega)
      refine ⟨_, _, _, hr, ⟨by simpa using hlen, .inr ⟨w.heap.size, grownCap w m 0 e, (Builtin.zeroCells z.cells (grownCap w m 0 e - m)).toList, by simp, ⟨by omega, hcm⟩, ?_, rfl⟩⟩, .inr ?_⟩
      · simp only [List.nil_append, List.length_append, Array.length_toList, size_zeroCells, hzs, hl, ← Nat.add_mul]
        refine Nat.mul_le_mul_right _ ?_; omega
      · have := St.alloc (w0 := w0) (η := η) (w := w.drew) (by exact ⟨hw.below.drew, hw.blk, hw.own, hw.nodup⟩) e (news.toArray ++ Builtin.zeroCells z.cells (grownCap w m 0 e - m))
        simpa using this
  · by_cases hroom : n + m ≤ cap
    · have hfit : n * i.size + news.length ≤ (xs ++ rest).toArray.size := by rw [hl, List.size_toArray, ← Nat.add_mul]; exact Nat.le_trans (Nat.mul_le_mul_right _ hroom) hcl
      have hr := run_append_room (P := P) w t ty e i ht hi b n cap (xs ++ rest).toArray (hw.blk (b, e, xs ++ rest) (by simp)) a m c news hl hnews h1 hroom hfit
      have e1 : ((xs ++ rest).toArray.toList.take (n * i.size) ++ news ++ (xs ++ rest).toArray.toList.drop (n * i.size + news.length)) = (xs ++ news) ++ rest.drop news.length := by
        simp only [List.toList_toArray, ← hxl]
        rw [List.take_left, List.drop_append]
        simp
      rw [e1] at hr
      refine ⟨_, _, [(b, e, (xs ++ news) ++ rest.drop news.length)], hr, ⟨hlen, .inr ⟨b, cap, rest.drop news.length, rfl, ⟨hroom, hc.2⟩, ?_, rfl⟩⟩, .inl ⟨.inr ⟨b, cap, rest, rfl, rfl, rfl, rfl⟩, ?_⟩⟩
      · simp only [List.size_toArray] at hfit
        simp only [List.length_append, List.length_drop] at hcl hfit ⊢
        omega
      · exact St.setRow (w0 := w0) (by simpa using hw)
    · have holds : ∀ j u, xs[j]? = some u → w.cell? ((⟨b, 0, none⟩ : Addr).add j) = some u := by
        intro j u hu
        have := Rd.ownA (w0 := w0) (η := [(b, e, xs ++ rest)] ++ η) (T := e) (cs := xs ++ rest) (xs := xs) (b := b) (by simp) 0 (by simp) w hw j u hu
        rw [add_mk]; exact this
      have hr := run_append_grow (P := P) w t ty e i z ht hi hz ⟨b, 0, none⟩ n cap xs hxl holds a m c news hl hnews (by omega) (by omega) (growslice_fits (by omega) hbytes)
      have hge := grownCap_ge w (n + m) cap e
      have hcm : grownCap w (n + m) cap e ≤ 9223372036854775807 := grownCap_le_maxLen w (n + m) cap e (by simp only [maxLen]; omega)
      refine ⟨_, _, _, hr, ⟨hlen, .inr ⟨w.heap.size, grownCap w (n + m) cap e, (Builtin.zeroCells z.cells (grownCap w (n + m) cap e - (n + m))).toList, rfl, ⟨hge, hcm⟩, ?_, rfl⟩⟩, .inr ?_⟩
      · rw [List.length_append, hlen, Array.length_toList, size_zeroCells, hzs, ← Nat.add_mul]
        refine Nat.mul_le_mul_right _ ?_; omega
      · have := St.alloc (w0 := w0) (η := [(b, e, xs ++ rest)] ++ η) (w := w.drew) (by exact ⟨hw.below.drew, hw.blk, hw.own, hw.nodup⟩) e (xs.toArray ++ news.toArray ++ Builtin.zeroCells z.cells (grownCap w (n + m) cap e - (n + m)))
        simpa using this
theorem run_appendF {w0 : Base} {η H : Heap} {w : World} {t ty e size bytes : Nat} {z v : Value} {n : Nat} {xs : List Value} (ht : P.underlying t = some (.slice e)) (he : ElemOk P e size bytes z)
    (hw : St w0 (H ++ η) w) (hF : Frag e size v n xs H) (a : Addr) (m c : Nat) (news : List Value) (hl : news.length = m * size) (hnews : ∀ j u, news[j]? = some u → w.cell? (a.add j) = some u) (h1 : ∀ u ∈ news, u.oneCell' = true)
    (hbytes : (n + m) * bytes ≤ 140737488355328) (h63 : n + m ≤ 9223372036854775807) :
    ∃ v' w' H', (Builtin.append_ #[t, t] ty #[v, .slice (some a) m c]).run P w = .ok v' w' ∧ Frag e size v' (n + m) (xs ++ news) H' ∧ St w0 (H' ++ η) w' := by
  obtain ⟨v', w', H', h1, h2, h3⟩ := run_appendK (ty := ty) ht he hw hF a m c news hl hnews h1 hbytes h63
  refine ⟨v', w', H', h1, h2, ?_⟩
  rcases h3 with ⟨_, h3⟩ | h3
  · exact h3
  · exact h3.cnt (fun p => by simp only [List.countP_append]; omega)

variable {n : Nat} {ops : Array Oper} {o : Oper} {σ : Slots} {A : World → Prop} {g : Bool} {v : Value} {x y z : Operand} {c c1 c2 c3 : Bool} {t t2 : TypeId} {k : IntKind} {p q : Int}

theorem run_builtin_append {s y : Operand} {t1 t2 : TypeId} {a : Act} {w : World} {u v : Value} (hop : o.op = .call { callee := .builtin .append, args := #[s, y], argTypes := #[t1, t2] }) (hf : Fr n σ a)
    (hs : ev σ s = some (true, u)) (hy : ev σ y = some (true, v)) : (execOp a.eval o).run P w = ((Builtin.append_ #[t1, t2] o.type #[u, v]).run P w).andThen fun r w' => .ok (.value r) w' := by
  unfold execOp
  simp only [hop, resolve, invoke, builtin, Sem.run_bind, Sem.run_pure, Result.andThen_ok, List.map_toArray, List.map_cons, List.map_nil, hf.eval hs rfl, hf.eval hy rfl]

/-- 'append' of a slice that is read, onto one of the call's own; the block of the one appended, if it is a new one of this operation, goes. L: the blocks ahead. -/
theorem ET_appendL {w0 : Base} {η H L : Heap} {t e size bytes : Nat} {z sv yv : Value} {s y : Operand} {m l : Nat} {xs news : List Value}
    (hop : o.op = .call { callee := .builtin .append, args := #[s, y], argTypes := #[t, t] }) (ht : P.underlying t = some (.slice e)) (he : ElemOk P e size bytes z)
    (hs : ev σ s = some (true, sv)) (hy : ev σ y = some (true, yv)) (hF : Frag e size sv l xs H) (hA : ∀ w, A w → St w0 (L ++ (H ++ η)) w) (hR : SlA A yv size m news) (h1 : ∀ u ∈ news, u.oneCell' = true)
    (hbytes : (l + m) * bytes ≤ 140737488355328) (h63 : l + m ≤ 9223372036854775807) :
    ET P n o σ A fun r A' => ∃ H', Frag e size r (l + m) (xs ++ news) H' ∧ A' = St w0 (L ++ (H' ++ η)) := by
  intro a w hf hw K Q hK
  obtain ⟨hl, ad, cap, rfl, hc, hr⟩ := hR
  have hp : (H ++ (L ++ η)).Perm (L ++ (H ++ η)) := by
    rw [← List.append_assoc, ← List.append_assoc]
    exact List.Perm.append_right _ List.perm_append_comm
  have hw1 : St w0 (H ++ (L ++ η)) w := (hA w hw).perm hp
  unfold Oper.wp
  rw [run_builtin_append hop hf hs hy]
  rcases hr with rfl | ⟨b, off, rfl, hrd⟩
  · have hn : news = [] := List.eq_nil_of_length_eq_zero (by simpa using hl)
    subst hn
    have : (Builtin.append_ #[t, t] o.type #[sv, .slice ad 0 cap]).run P w = .ok sv w := by
      obtain ⟨⟨i, hi, hsz, hb, hz⟩, hzs, hpos⟩ := he
      have hfc : (Builtin.firstCells i.size 0 (.slice ad 0 cap)).run P w = .ok #[] w := by cases ad <;> simp [Builtin.firstCells, loadCells, loadCellsFrom]
      obtain ⟨_, hF⟩ := hF
      rcases hF with ⟨rfl, rfl, rfl⟩ | ⟨b, cap', rest, rfl, hc', _, rfl⟩
      · simp [Builtin.append_, run_underlying ht, sizeOf, typeInfo, hi, Builtin.lenOf, hfc]
      · simp [Builtin.append_, run_underlying ht, sizeOf, typeInfo, hi, Builtin.lenOf, hfc, hc'.1, storeCells]
    rw [this]
    simp only [Result.andThen_ok]
    rw [Oper.upon_value]
    exact hK _ _ _ ⟨H, by simpa using hF, rfl⟩ (hA w hw)
  · obtain ⟨v', w', H', hr', hF', hw'⟩ := run_appendF (P := P) (ty := o.type) ht he hw1 hF ⟨b, off, none⟩ m cap news hl (fun j u hu => by rw [add_mk]; exact hrd w hw j u hu) h1 hbytes h63
    rw [hr']
    simp only [Result.andThen_ok]
    rw [Oper.upon_value]
    refine hK _ _ _ ⟨H', hF', rfl⟩ (hw'.perm ?_)
    rw [← List.append_assoc, ← List.append_assoc]
    exact List.Perm.append_right _ List.perm_append_comm

/-- 'append', by which the old block stays readable. -/
theorem ET_appendK {w0 : Base} {η H L : Heap} {t e size bytes : Nat} {z sv yv : Value} {s y : Operand} {m l : Nat} {xs news : List Value} (h0 : 0 < m)
    (hop : o.op = .call { callee := .builtin .append, args := #[s, y], argTypes := #[t, t] }) (ht : P.underlying t = some (.slice e)) (he : ElemOk P e size bytes z)
    (hs : ev σ s = some (true, sv)) (hy : ev σ y = some (true, yv)) (hF : Frag e size sv l xs H) (hA : ∀ w, A w → St w0 (L ++ (H ++ η)) w) (hR : SlA A yv size m news) (h1 : ∀ u ∈ news, u.oneCell' = true)
    (hbytes : (l + m) * bytes ≤ 140737488355328) (h63 : l + m ≤ 9223372036854775807) :
    ET P n o σ A fun r A' => ∃ H', Frag e size r (l + m) (xs ++ news) H' ∧
      (((∃ b cap rest, sv = .slice (some ⟨b, 0, none⟩) l cap ∧ r = .slice (some ⟨b, 0, none⟩) (l + m) cap ∧ H = [(b, e, xs ++ rest)] ∧ H' = [(b, e, (xs ++ news) ++ rest.drop news.length)]) ∧ A' = St w0 (L ++ (H' ++ η))) ∨ A' = St w0 (L ++ (H' ++ (H ++ η)))) := by
  intro a w hf hw K Q hK
  obtain ⟨hl, ad, cap, rfl, hc, hr⟩ := hR
  have hw1 : St w0 (H ++ (L ++ η)) w := (hA w hw).cnt (fun p => by simp only [List.countP_append]; omega)
  unfold Oper.wp
  rw [run_builtin_append hop hf hs hy]
  obtain ⟨b, off, rfl, hrd⟩ := hr.resolve_left (by omega)
  obtain ⟨v', w', H', hr', hF', hw'⟩ := run_appendK (P := P) (ty := o.type) ht he hw1 hF ⟨b, off, none⟩ m cap news hl (fun j u hu => by rw [add_mk]; exact hrd w hw j u hu) h1 hbytes h63
  rw [hr']
  simp only [Result.andThen_ok]
  rw [Oper.upon_value]
  rcases hw' with ⟨h2, hw'⟩ | hw'
  · refine hK _ _ _ ⟨H', hF', .inl ⟨?_, rfl⟩⟩ (hw'.cnt (fun p => by simp only [List.countP_append]; omega))
    rcases h2 with ⟨_, h2, _⟩ | h2
    · omega
    · exact h2
  · exact hK _ _ _ ⟨H', hF', .inr rfl⟩ (hw'.cnt (fun p => by simp only [List.countP_append]; omega))

/-- 'append' where there is room, in place. -/
theorem ET_appendRoom {w0 : Base} {η : Heap} {t e size b T l m cp : Nat} {s y : Operand} {yv : Value} {cs news : List Value} (i : Nat)
    (hop : o.op = .call { callee := .builtin .append, args := #[s, y], argTypes := #[t, t] }) (ht : P.underlying t = some (.slice e)) (hm : Sz P e size)
    (hs : ev σ s = some (true, .slice (some ⟨b, 0, none⟩) l cp)) (hy : ev σ y = some (true, yv)) (hi : nth η i = some (b, T, cs)) (hR : SlA (St w0 η) yv size m news) (h1 : ∀ u ∈ news, u.oneCell' = true)
    (hroom : l + m ≤ cp) (hfit : cp * size ≤ cs.length) :
    ET P n o σ (St w0 η) fun r A' => r = .slice (some ⟨b, 0, none⟩) (l + m) cp ∧ A' = St w0 (upd η i (cs.take (l * size) ++ news ++ cs.drop (l * size + news.length))) := by
  intro a w hf hw K Q hK
  obtain ⟨hl, ad, cap, rfl, hc, hr⟩ := hR
  have hms : (l + m) * size ≤ cp * size := Nat.mul_le_mul_right _ hroom
  rw [Nat.add_mul] at hms
  have hinfo : ∃ inf, P.info? e = some inf ∧ inf.size = size := by
    unfold Sz at hm
    cases hq : P.info? e with
    | none => simp [hq] at hm
    | some inf => simp [hq] at hm; exact ⟨inf, rfl, hm⟩
  obtain ⟨inf, hinf, hsz⟩ := hinfo
  have hfirst : (Builtin.firstCells size m (.slice ad m cap)).run P w = .ok news.toArray w := by
    rcases hr with rfl | ⟨b', off', rfl, hrd⟩
    · have hn : news = [] := List.eq_nil_of_length_eq_zero (by simpa using hl)
      subst hn
      cases ad <;> simp [Builtin.firstCells, loadCells, loadCellsFrom]
    · have := run_loadCells_list (P := P) w ⟨b', off', none⟩ news (fun j v hv => by rw [add_mk]; exact hrd w hw j v hv)
      rw [hl] at this
      simpa [Builtin.firstCells] using this
  obtain ⟨w', hrun, hst⟩ := St.storeCells (P := P) news η w (l * size) 0 cs hw hi h1 (by omega)
  have eset : ∀ (vs pre cs : List Value), vs.length ≤ cs.length → setAt (pre ++ cs) pre.length vs = pre ++ vs ++ cs.drop vs.length := by
    intro vs
    induction vs with
    | nil => intro pre cs _; simp [setAt]
    | cons v r ih =>
      intro pre cs h
      cases cs with
      | nil => simp at h
      | cons c cs =>
        simp only [setAt]
        have e1 : (pre ++ c :: cs).set pre.length v = (pre ++ [v]) ++ cs := by simp
        rw [e1]
        have := ih (pre ++ [v]) cs (by simpa using h)
        simp only [List.length_append, List.length_cons, List.length_nil, Nat.zero_add] at this
        rw [this]
        simp
  have e2 : setAt cs (l * size) news = cs.take (l * size) ++ news ++ cs.drop (l * size + news.length) := by
    have h := eset news (cs.take (l * size)) (cs.drop (l * size)) (by rw [List.length_drop]; omega)
    rw [List.take_append_drop, List.length_take, Nat.min_eq_left (by omega), List.drop_drop] at h
    exact h
  unfold Oper.wp
  rw [run_builtin_append hop hf hs hy]
  have : (Builtin.append_ #[t, t] o.type #[.slice (some ⟨b, 0, none⟩) l cp, .slice ad m cap]).run P w = .ok (.slice (some ⟨b, 0, none⟩) (l + m) cp) w' := by
    subst hsz
    have e3 : (⟨b, 0, none⟩ : Addr).add (l * inf.size) = ⟨b, l * inf.size, none⟩ := by rw [add_mk, Nat.zero_add]
    simp [Builtin.append_, run_underlying ht, sizeOf, typeInfo, hinf, Builtin.lenOf, hroom, hfirst, e3, hrun]
  rw [this]
  simp only [Result.andThen_ok]
  rw [Oper.upon_value]
  refine hK _ _ _ ⟨rfl, rfl⟩ ?_
  rw [Nat.add_zero, e2] at hst
  exact hst

def enT : Nat → List Value → List (Bool × Nat × Value)
  | _, [] => []
  | i, v :: r => (true, i, v) :: enT (i + 1) r
theorem enT_en : ∀ (i : Nat) (vs : List Value), (enT i vs).map (·.2) = en i vs
  | _, [] => rfl
  | i, v :: r => by simp [enT, en, enT_en (i + 1) r]
theorem enT_all : ∀ (i : Nat) (vs : List Value), (enT i vs).all (·.1) = true
  | _, [] => rfl
  | i, v :: r => by simp [enT, enT_all (i + 1) r]
/-- A slice written out of whole elements. -/
theorem ET_buildN {w0 : Base} {η : Heap} {e m len : Nat} {zs : Value} {ps : Array (Nat × Operand)} (vs : List Value) (hop : o.op = .buildSlice t len ps) (hu : P.underlying t = some (.slice e)) (hm : Sz P e m) (hz : ZeroOk P e zs)
    (he : evp σ ps.toList = some (enT 0 vs)) (hlen : vs.length = len) (hl : Nat.ble (len * m) 16777216 = true) (hall : ∀ v ∈ vs, v.cells.toList.length = m) :
    ET P n o σ (St w0 η) fun r A' => ∃ b, r = .slice (some ⟨b, 0, none⟩) len len ∧ A' = St w0 ((b, e, (vs.map fun v => v.cells.toList).flatten) :: η) := by
  subst hlen
  refine ET_buildSlice hop hu hm hz he hl ?_ (enT_all 0 vs)
  rw [enT_en]
  exact segs_all m vs _ _ 0 (by rw [List.map_map]; simp [Function.comp_def, List.map_const']) (by simp) hall

/-! ### slices of slices and of arrays -/
theorem run_bound {k : IntKind} {p : Int} {h y : Nat} {code : BoundsCode} {w : World} (hp : p = (h : Int)) (hh : h ≤ y) : (Instr.sliceBound (.int k p) y code).run P w = .ok h w := by
  subst hp
  have := run_sliceBound (P := P) (w := w) k (h : Int) y code (by omega) (by omega)
  simpa using this
theorem add_zero_addr (a : Addr) : a.add 0 = a := by simp [Addr.add]

/-- s[:h] -/
theorem QT_slcH {e size len cap : Nat} {ad : Option Addr} {lo mx : Option Operand} (h : Nat) (hg : gdc ops σ o = some g) (hop : o.op = .slice t x lo (some y) mx) (hlo : lo = none) (hmx : mx = none) (hu : P.underlying t = some (.slice e)) (hm : Sz P e size)
    (hx : ev σ x = some (c1, .slice ad len cap)) (hy : ev σ y = some (c2, .int k p)) (hp : p = (h : Int)) (hh : g = true → h ≤ cap)
    (hc : g = true → c1 = true ∧ c2 = true := by first | exact fun _ => ⟨rfl, rfl⟩ | (intro h; first | grind | simp_all)) : QT P n ops o σ A g (.slice ad h cap) :=
  QT.mk hg fun a w hf _ hgt => by
    subst hlo hmx
    have e1 := fun code => run_bound (P := P) (w := w) (k := k) (code := code) hp (hh hgt)
    simp [execOp, hop, hf.eval hx (hc hgt).1, hf.eval hy (hc hgt).2, Instr.sliceAt, Instr.slice, Instr.sliceBounds, run_underlying hu, e1, run_sizeOf hm, add_zero_addr]
/-- s[l:] -/
theorem QT_slcL {e size len cap : Nat} {ad : Option Addr} {hi mx : Option Operand} (l : Nat) (hg : gdc ops σ o = some g) (hop : o.op = .slice t x (some y) hi mx) (hhi : hi = none) (hmx : mx = none) (hu : P.underlying t = some (.slice e)) (hm : Sz P e size)
    (hx : ev σ x = some (c1, .slice ad len cap)) (hy : ev σ y = some (c2, .int k p)) (hp : p = (l : Int)) (hl : g = true → l ≤ len)
    (hc : g = true → c1 = true ∧ c2 = true := by first | exact fun _ => ⟨rfl, rfl⟩ | (intro h; first | grind | simp_all)) : QT P n ops o σ A g (.slice (if cap = l then ad else ad.map (·.add (l * size))) (len - l) (cap - l)) :=
  QT.mk hg fun a w hf _ hgt => by
    subst hhi hmx
    have e1 := fun code => run_bound (P := P) (w := w) (k := k) (code := code) hp (hl hgt)
    simp [execOp, hop, hf.eval hx (hc hgt).1, hf.eval hy (hc hgt).2, Instr.sliceAt, Instr.slice, Instr.sliceBounds, run_underlying hu, e1, run_sizeOf hm]
/-- s[l:h] -/
theorem QT_slcLH {e size len cap : Nat} {ad : Option Addr} {mx : Option Operand} {q : Int} {k2 : IntKind} (l h : Nat) (hg : gdc ops σ o = some g) (hop : o.op = .slice t x (some y) (some z) mx) (hmx : mx = none) (hu : P.underlying t = some (.slice e)) (hm : Sz P e size)
    (hx : ev σ x = some (c1, .slice ad len cap)) (hy : ev σ y = some (c2, .int k p)) (hz : ev σ z = some (c3, .int k2 q)) (hp : p = (l : Int)) (hq : q = (h : Int)) (hl : g = true → l ≤ h ∧ h ≤ cap)
    (hc : g = true → c1 = true ∧ c2 = true ∧ c3 = true := by first | exact fun _ => ⟨rfl, rfl, rfl⟩ | (intro h; first | grind | simp_all)) : QT P n ops o σ A g (.slice (if cap = l then ad else ad.map (·.add (l * size))) (h - l) (cap - l)) :=
  QT.mk hg fun a w hf _ hgt => by
    subst hmx
    have e1 := fun code => run_bound (P := P) (w := w) (k := k) (code := code) hp (hl hgt).1
    have e2 := fun code => run_bound (P := P) (w := w) (k := k2) (code := code) hq (hl hgt).2
    simp [execOp, hop, hf.eval hx (hc hgt).1, hf.eval hy (hc hgt).2.1, hf.eval hz (hc hgt).2.2, Instr.sliceAt, Instr.slice, Instr.sliceBounds, run_underlying hu, e1, e2, run_sizeOf hm]
/-- s[:h:m] -/
theorem QT_slcHM {e size len cap : Nat} {ad : Option Addr} {lo : Option Operand} {q : Int} {k2 : IntKind} (h m : Nat) (hg : gdc ops σ o = some g) (hop : o.op = .slice t x lo (some y) (some z)) (hlo : lo = none) (hu : P.underlying t = some (.slice e)) (hm : Sz P e size)
    (hx : ev σ x = some (c1, .slice ad len cap)) (hy : ev σ y = some (c2, .int k p)) (hz : ev σ z = some (c3, .int k2 q)) (hp : p = (h : Int)) (hq : q = (m : Int)) (hl : g = true → h ≤ m ∧ m ≤ cap)
    (hc : g = true → c1 = true ∧ c2 = true ∧ c3 = true := by first | exact fun _ => ⟨rfl, rfl, rfl⟩ | (intro h; first | grind | simp_all)) : QT P n ops o σ A g (.slice ad h m) :=
  QT.mk hg fun a w hf _ hgt => by
    subst hlo
    have e1 := fun code => run_bound (P := P) (w := w) (k := k) (code := code) hp (hl hgt).1
    have e2 := fun code => run_bound (P := P) (w := w) (k := k2) (code := code) hq (hl hgt).2
    simp [execOp, hop, hf.eval hx (hc hgt).1, hf.eval hy (hc hgt).2.1, hf.eval hz (hc hgt).2.2, Instr.sliceAt, Instr.slice, Instr.sliceBounds, run_underlying hu, e1, e2, run_sizeOf hm, add_zero_addr]
/-- a[:] of an array's address -/
theorem QT_slaA {e size N b off : Nat} {lo hi mx : Option Operand} (hg : gdc ops σ o = some g) (hop : o.op = .slice t x lo hi mx) (hlo : lo = none) (hhi : hi = none) (hmx : mx = none) (hu : P.underlying t = some (.array N e)) (hm : Sz P e size)
    (hx : ev σ x = some (c, .pointer (some ⟨b, off, none⟩)))
    (hc : g = true → c = true := by first | exact fun _ => rfl | (intro h; first | grind | simp_all)) : QT P n ops o σ A g (.slice (some ⟨b, off, none⟩) N N) :=
  QT.mk hg fun a w hf _ hgt => by
    subst hlo hhi hmx
    simp [execOp, hop, hf.eval hx (hc hgt), Instr.sliceAt, Instr.sureAddr, Instr.sliceBounds, run_underlying hu, run_sizeOf hm, add_mk]
/-- a[l:] -/
theorem QT_slaL {e size N b off : Nat} {hi mx : Option Operand} (l : Nat) (hg : gdc ops σ o = some g) (hop : o.op = .slice t x (some y) hi mx) (hhi : hi = none) (hmx : mx = none) (hu : P.underlying t = some (.array N e)) (hm : Sz P e size)
    (hx : ev σ x = some (c1, .pointer (some ⟨b, off, none⟩))) (hy : ev σ y = some (c2, .int k p)) (hp : p = (l : Int)) (hl : g = true → l < N)
    (hc : g = true → c1 = true ∧ c2 = true := by first | exact fun _ => ⟨rfl, rfl⟩ | (intro h; first | grind | simp_all)) : QT P n ops o σ A g (.slice (some ⟨b, off + l * size, none⟩) (N - l) (N - l)) :=
  QT.mk hg fun a w hf _ hgt => by
    subst hhi hmx
    have hl' := hl hgt
    have e1 := fun code => run_bound (P := P) (w := w) (k := k) (code := code) hp (Nat.le_of_lt hl')
    have e2 : ¬ N = l := by omega
    simp [execOp, hop, hf.eval hx (hc hgt).1, hf.eval hy (hc hgt).2, Instr.sliceAt, Instr.sureAddr, Instr.sliceBounds, run_underlying hu, e1, run_sizeOf hm, add_mk, e2]
/-- a[l:h] -/
theorem QT_slaLH {e size N b off : Nat} {mx : Option Operand} {q : Int} {k2 : IntKind} (l h : Nat) (hg : gdc ops σ o = some g) (hop : o.op = .slice t x (some y) (some z) mx) (hmx : mx = none) (hu : P.underlying t = some (.array N e)) (hm : Sz P e size)
    (hx : ev σ x = some (c1, .pointer (some ⟨b, off, none⟩))) (hy : ev σ y = some (c2, .int k p)) (hz : ev σ z = some (c3, .int k2 q)) (hp : p = (l : Int)) (hq : q = (h : Int)) (hl : g = true → l ≤ h ∧ h ≤ N ∧ l < N)
    (hc : g = true → c1 = true ∧ c2 = true ∧ c3 = true := by first | exact fun _ => ⟨rfl, rfl, rfl⟩ | (intro h; first | grind | simp_all)) : QT P n ops o σ A g (.slice (some ⟨b, off + l * size, none⟩) (h - l) (N - l)) :=
  QT.mk hg fun a w hf _ hgt => by
    subst hmx
    have hl' := hl hgt
    have e1 := fun code => run_bound (P := P) (w := w) (k := k) (code := code) hp hl'.1
    have e2 := fun code => run_bound (P := P) (w := w) (k := k2) (code := code) hq hl'.2.1
    have e3 : ¬ N = l := by omega
    simp [execOp, hop, hf.eval hx (hc hgt).1, hf.eval hy (hc hgt).2.1, hf.eval hz (hc hgt).2.2, Instr.sliceAt, Instr.sureAddr, Instr.sliceBounds, run_underlying hu, e1, e2, run_sizeOf hm, add_mk, e3]

/-! ### make -/
theorem ET_make {w0 : Base} {η : Heap} {e size bytes : Nat} {zv : Value} {kl kc : IntKind} {p q : Int} (cp : Nat) (hop : o.op = .makeSlice t x y) (ht : P.underlying t = some (.slice e)) (he : ElemOk P e size bytes zv)
    (hx : ev σ x = some (true, .int kl p)) (hy : ev σ y = some (true, .int kc q)) (hp : p = 0) (hq : q = (cp : Int)) (hb : bytes * cp ≤ 281474976710656) (h63 : cp ≤ 9223372036854775807) :
    ET P n o σ (St w0 η) fun r A' => ∃ b rest, r = .slice (some ⟨b, 0, none⟩) 0 cp ∧ rest.length = cp * size ∧ A' = St w0 ((b, e, rest) :: η) := by
  intro a w hf hw K Q hK
  subst hp hq
  obtain ⟨⟨i, hi, hs, hbt, hz⟩, hzs, hpos⟩ := he
  subst hs; subst hbt
  have hr := run_make (P := P) w t e i zv ht hi hz kl kc 0 (cp : Int) (Int.le_refl _) (by omega) (by rw [← Int.natCast_mul]; omega) (by omega)
  unfold Oper.wp
  have : (execOp a.eval o).run P w = .ok (.value (.slice (some ⟨w.heap.size, 0, none⟩) 0 cp)) (w.alloc (.cells (madeCells zv.cells (cp * i.size)) e)) := by
    simp [execOp, hop, hf.eval hx rfl, hf.eval hy rfl, hr]
  rw [this, Oper.upon_value]
  exact hK _ _ _ ⟨_, (madeCells zv.cells (cp * i.size)).toList, rfl, by rw [Array.length_toList, size_madeCells], rfl⟩ (St.alloc hw e _)

/-! ### copy -/
theorem QT_min {ad ad2 : Int} (hg : gdc ops σ o = some g) (hop : o.op = .call { callee := .builtin .min, args := #[x, y], argTypes := #[t, t2] }) (hx : ev σ x = some (c1, .int k ad)) (hy : ev σ y = some (c2, .int k ad2))
    (hc : g = true → c1 = true ∧ c2 = true := by first | exact fun _ => ⟨rfl, rfl⟩ | (intro h; first | grind | simp_all)) : QT P n ops o σ A g (.int k (min ad ad2)) :=
  QT.mk hg fun a w hf hA h => by
    have e : (if ad2 < ad then ad2 else ad) = min ad ad2 := by split <;> omega
    simp [execOp, hop, hf.eval hx (hc h).1, hf.eval hy (hc h).2, resolve, invoke, builtin, Builtin.min_, Builtin.min2, e]

theorem ET_copy {w0 : Base} {η : Heap} {e size b off T dl dc m : Nat} {cs news : List Value} {yv : Value} (i : Nat) (hop : o.op = .call { callee := .builtin .copy, args := #[x, y], argTypes := #[t, t2] }) (ht : P.underlying t = some (.slice e)) (hm : Sz P e size)
    (hx : ev σ x = some (true, .slice (some ⟨b, off, none⟩) dl dc)) (hy : ev σ y = some (true, yv)) (hi : nth η i = some (b, T, cs)) (hR : SlA (St w0 η) yv size m news) (h1 : ∀ u ∈ news, u.oneCell' = true) (hfit : off + min m dl * size ≤ cs.length) :
    ET P n o σ (St w0 η) fun r A' => r = .int .i64 ((min m dl : Nat) : Int) ∧ A' = St w0 (upd η i (setAt cs off (news.take (min m dl * size)))) := by
  intro a w hf hw K Q hK
  obtain ⟨hl, ad, cap, rfl, hc, hr⟩ := hR
  have hnl : (news.take (min m dl * size)).length = min m dl * size := by
    rw [List.length_take, hl]
    exact Nat.min_eq_left (Nat.mul_le_mul_right _ (Nat.min_le_left ..))
  have hfirst : (Builtin.firstCells size (min m dl) (.slice ad m cap)).run P w = .ok (news.take (min m dl * size)).toArray w := by
    rcases hr with rfl | ⟨b', off', rfl, hrd⟩
    · have hn : news = [] := List.eq_nil_of_length_eq_zero (by simpa using hl)
      subst hn
      cases ad <;> simp [Builtin.firstCells, loadCells, loadCellsFrom]
    · have := run_loadCells_list (P := P) w ⟨b', off', none⟩ (news.take (min m dl * size)) (fun j v hv => by
        rw [add_mk]
        rw [List.getElem?_take] at hv
        split at hv
        · exact hrd w hw j v hv
        · cases hv)
      rw [hnl] at this
      simpa [Builtin.firstCells] using this
  obtain ⟨w', hrun, hst⟩ := St.storeCells (P := P) (news.take (min m dl * size)) η w off 0 cs hw hi (fun u hu => h1 u (List.mem_of_mem_take hu)) (by rw [hnl]; omega)
  unfold Oper.wp
  have : (execOp a.eval o).run P w = .ok (.value (.int .i64 ((min m dl : Nat) : Int))) w' := by
    have hmin : Nat.min m dl = min m dl := rfl
    unfold execOp
    simp only [hop, resolve, invoke, builtin, Sem.run_bind, Sem.run_pure, Result.andThen_ok, List.map_toArray, List.map_cons, List.map_nil, hf.eval hx rfl, hf.eval hy rfl]
    simp [Builtin.copy_, run_underlying ht, Builtin.lenOf, run_sizeOf hm, hmin, hfirst, hrun, goInt]
  rw [this, Oper.upon_value]
  exact hK _ _ _ ⟨rfl, rfl⟩ (by simpa using hst)

/-! ### equality of structs and arrays of integers -/
def litOf : Value → Lit
  | .int k z => .int k z
  | _ => .bool false

theorem Ints.split {ks ks' : List IntKind} {cs : List Value} (h : Ints (ks ++ ks') cs) : Ints ks (cs.take ks.length) ∧ Ints ks' (cs.drop ks.length) := by
  induction ks generalizing cs with
  | nil => exact ⟨.nil, h⟩
  | cons k ks ih =>
    obtain ⟨z, cs', rfl, hw, h⟩ := Ints.inv h
    obtain ⟨h1, h2⟩ := ih h
    exact ⟨.cons hw h1, h2⟩
theorem Ints.inj {ks : List IntKind} {cs cs' : List Value} (h : Ints ks cs) (h' : Ints ks cs') (he : cs.map litOf = cs'.map litOf) : cs = cs' := by
  induction h generalizing cs' with
  | nil => exact h'.inv_nil.symm
  | cons hw _ ih =>
    obtain ⟨z, cs2, rfl, _, h2⟩ := h'.inv
    simp only [List.map_cons, litOf, List.cons.injEq, Lit.int.injEq, true_and] at he
    rw [he.1, ih h2 he.2]

theorem flat_len : ∀ (d : Nat) (t : TypeId) (ks : List IntKind), flat P d t = some ks → ks.length = P.cellsOf t
  | 0, t, ks, h => by simp [flat] at h
  | d + 1, t, ks, h => by
    simp only [flat] at h
    cases hu : P.underlying t with
    | none => simp [hu] at h
    | some D =>
      cases D with
      | int k =>
        simp only [hu] at h
        cases hb : Nat.beq (P.cellsOf t) 1 with
        | false => simp [hb] at h
        | true => simp [hb] at h; subst h; exact (Nat.eq_of_beq_eq_true hb).symm
      | struct fs =>
        simp only [hu] at h
        cases hb : (contig (fs.toList.map fun f => (f.offset, P.cellsOf f.type)) 0 && Nat.beq (sumSz (fs.toList.map fun f => (f.offset, P.cellsOf f.type))) (P.cellsOf t)) with
        | false => simp [hb] at h
        | true =>
          rw [hb, cond_true] at h
          simp only [Bool.and_eq_true] at hb
          rw [← Nat.eq_of_beq_eq_true hb.2]
          have : ∀ (l : List Field) (ks : List IntKind), flatF (flat P d) l = some ks → ks.length = sumSz (l.map fun f => (f.offset, P.cellsOf f.type)) := by
            intro l
            induction l with
            | nil => intro ks h; simp [flatF] at h; subst h; rfl
            | cons f l ih =>
              intro ks h
              simp only [flatF] at h
              cases hf : flat P d f.type with
              | none => simp [hf] at h
              | some a =>
                cases hr : flatF (flat P d) l with
                | none => simp [hf, hr] at h
                | some b =>
                  simp [hf, hr] at h
                  subst h
                  simp [sumSz, flat_len d f.type a hf, ih b hr]
          exact this _ _ h
      | array m e =>
        simp only [hu] at h
        cases hb : Nat.beq (m * P.cellsOf e) (P.cellsOf t) with
        | false => simp [hb] at h
        | true =>
          rw [hb, cond_true] at h
          cases hf : flat P d e with
          | none => simp [hf] at h
          | some a =>
            simp only [hf, Option.some.injEq] at h
            subst h
            rw [← Nat.eq_of_beq_eq_true hb]
            simp [flat_len d e a hf]
      | _ => simp [hu] at h

theorem keyLits_flat : ∀ (d : Nat) (t : TypeId) (ks : List IntKind) (cs : List Value), flat P d t = some ks → P.keyTypeAt d t = true → Ints ks cs → P.keyLits d t cs = some (cs.map litOf)
  | 0, t, ks, cs, h, _, _ => by simp [flat] at h
  | d + 1, t, ks, cs, h, hk, hi => by
    have hlen := flat_len (d + 1) t ks h
    have hcl := hi.length
    simp only [flat] at h
    unfold Program.keyTypeAt at hk
    unfold Program.keyLits
    cases hu : P.underlying t with
    | none => simp [hu] at h
    | some D =>
      cases D with
      | int k =>
        simp only [hu] at h
        cases hb : Nat.beq (P.cellsOf t) 1 with
        | false => simp [hb] at h
        | true =>
          simp [hb] at h
          subst h
          obtain ⟨z, cs', rfl, hw, h⟩ := hi.inv
          obtain rfl := h.inv_nil
          simp [hw, litOf]
      | struct fs =>
        simp only [hu] at h hk
        cases hb : (contig (fs.toList.map fun f => (f.offset, P.cellsOf f.type)) 0 && Nat.beq (sumSz (fs.toList.map fun f => (f.offset, P.cellsOf f.type))) (P.cellsOf t)) with
        | false => simp [hb] at h
        | true =>
          rw [hb, cond_true] at h
          simp only [Bool.and_eq_true, Bool.not_eq_true'] at hb hk
          have hn : fs.all (fun f => f.name != "_") = true := by
            rw [Array.all_eq_true_iff_forall_mem]
            intro f hf
            have := Array.all_eq_true_iff_forall_mem.1 hk.1.1 f hf
            simp only [Bool.and_eq_true] at this
            exact this.1
          have hkf : ∀ f ∈ fs.toList, P.keyTypeAt d f.type = true := by
            intro f hf
            have := Array.all_eq_true_iff_forall_mem.1 hk.1.1 f (Array.mem_toList_iff.1 hf)
            simp only [Bool.and_eq_true] at this
            exact this.2
          simp only
          rw [if_pos ⟨by omega, hn⟩]
          have key : ∀ (l : List Field) (ks : List IntKind) (p : Nat), (∀ f ∈ l, P.keyTypeAt d f.type = true) → flatF (flat P d) l = some ks → contig (l.map fun f => (f.offset, P.cellsOf f.type)) p = true → Ints ks (cs.drop p) →
              ∃ L, (l.mapM fun f => P.keyLits d f.type ((cs.drop f.offset).take (P.cellsOf f.type))) = some L ∧ L.flatten = (cs.drop p).map litOf := by
            intro l
            induction l with
            | nil => intro ks p _ h _ hi; simp [flatF] at h; subst h; rw [hi.inv_nil]; exact ⟨[], rfl, rfl⟩
            | cons f l ih =>
              intro ks p hall h hc hi
              simp only [flatF] at h
              cases hf : flat P d f.type with
              | none => simp [hf] at h
              | some a =>
                cases hr : flatF (flat P d) l with
                | none => simp [hf, hr] at h
                | some b =>
                  simp [hf, hr] at h
                  subst h
                  simp only [List.map_cons, contig, Bool.and_eq_true] at hc
                  obtain rfl : f.offset = p := Nat.eq_of_beq_eq_true hc.1
                  obtain ⟨h1, h2⟩ := hi.split
                  rw [flat_len d f.type a hf] at h1 h2
                  rw [List.drop_drop] at h2
                  obtain ⟨L, hL, hfl⟩ := ih b _ (fun g hg => hall g (List.mem_cons_of_mem _ hg)) hr hc.2 h2
                  have h3 := keyLits_flat d f.type a _ hf (hall f (List.mem_cons_self ..)) h1
                  refine ⟨((cs.drop f.offset).take (P.cellsOf f.type)).map litOf :: L, ?_, ?_⟩
                  · simp [List.mapM_cons, h3, hL]
                  · rw [List.flatten_cons, hfl, ← List.map_append, ← List.drop_drop, List.take_append_drop]
          obtain ⟨L, hL, hfl⟩ := key fs.toList ks 0 hkf h hb.1 (by simpa using hi)
          rw [hL]
          simpa using hfl
      | array m e =>
        simp only [hu] at h hk
        cases hb : Nat.beq (m * P.cellsOf e) (P.cellsOf t) with
        | false => simp [hb] at h
        | true =>
          rw [hb, cond_true] at h
          cases hf : flat P d e with
          | none => simp [hf] at h
          | some a =>
            simp only [hf, Option.some.injEq] at h
            subst h
            simp only
            rw [if_pos (by omega)]
            have hal := flat_len d e a hf
            have key : ∀ (j p : Nat), Ints ((List.replicate j a).flatten) (cs.drop (p * P.cellsOf e)) →
                ∃ L, ((List.range' p j).mapM fun i => P.keyLits d e ((cs.drop (i * P.cellsOf e)).take (P.cellsOf e))) = some L ∧ L.flatten = (cs.drop (p * P.cellsOf e)).map litOf := by
              intro j
              induction j with
              | zero => intro p hi; rw [hi.inv_nil]; exact ⟨[], rfl, rfl⟩
              | succ j ih =>
                intro p hi
                rw [List.replicate_succ, List.flatten_cons] at hi
                obtain ⟨h1, h2⟩ := hi.split
                rw [hal] at h1 h2
                rw [List.drop_drop] at h2
                have e4 : p * P.cellsOf e + P.cellsOf e = (p + 1) * P.cellsOf e := by rw [Nat.add_mul, Nat.one_mul]
                rw [e4] at h2
                obtain ⟨L, hL, hfl⟩ := ih (p + 1) h2
                have h3 := keyLits_flat d e a _ hf hk h1
                refine ⟨((cs.drop (p * P.cellsOf e)).take (P.cellsOf e)).map litOf :: L, ?_, ?_⟩
                · rw [List.range'_succ]; simp [List.mapM_cons, h3, hL]
                · rw [List.flatten_cons, hfl, ← List.map_append, ← e4, ← List.drop_drop, List.take_append_drop]
            obtain ⟨L, hL, hfl⟩ := key m 0 (by simpa using hi)
            rw [List.range_eq_range', hL]
            simpa using hfl
      | _ => simp [hu] at h

/-- Cell by cell. -/
def eqC : List Value → List Value → Bool
  | .int _ a :: r, .int _ b :: r' => decide (a = b) && eqC r r'
  | [], [] => true
  | _, _ => false
theorem eqC_iff {ks : List IntKind} {xs ys : List Value} (hx : Ints ks xs) (hy : Ints ks ys) : eqC xs ys = true ↔ xs = ys := by
  induction hx generalizing ys with
  | nil => rw [hy.inv_nil]; simp [eqC]
  | cons hw _ ih =>
    obtain ⟨z, cs2, rfl, _, h2⟩ := hy.inv
    simp only [eqC, Bool.and_eq_true, decide_eq_true_eq, List.cons.injEq, Value.int.injEq, true_and]
    rw [ih h2]

/-- as often as n -/
def rep (n : Nat) (ks : List IntKind) : List IntKind := (List.replicate n ks).flatten
theorem rep_succ (n : Nat) (ks : List IntKind) : rep (n + 1) ks = ks ++ rep n ks := by simp [rep, List.replicate_succ]
theorem rep_add (n m : Nat) (ks : List IntKind) : rep (n + m) ks = rep n ks ++ rep m ks := by rw [rep, rep, rep, ← List.flatten_append, List.replicate_append_replicate]
theorem rep_len (n : Nat) (ks : List IntKind) : (rep n ks).length = n * ks.length := by simp [rep]
/-- the i-th element's cells -/
def elem (cs : List Value) (s i : Nat) : List Value := (cs.drop (i * s)).take s
theorem Ints.elem {n i : Nat} {ks : List IntKind} {cs : List Value} (h : Ints (rep n ks) cs) (hi : i < n) : Ints ks (elem cs ks.length i) := by
  have e : rep n ks = rep i ks ++ (ks ++ rep (n - i - 1) ks) := by
    rw [← rep_succ, ← rep_add]; congr 1; omega
  rw [e] at h
  have := h.split.2.split.1
  rwa [rep_len] at this
theorem take_succ_elem (cs : List Value) (s i : Nat) : cs.take ((i + 1) * s) = cs.take (i * s) ++ elem cs s i := by
  unfold Gx.elem; rw [Nat.add_mul, Nat.one_mul, List.take_add]
theorem eqC_len : ∀ {xs ys : List Value}, eqC xs ys = true → xs.length = ys.length
  | [], [], _ => rfl
  | [], .int _ _ :: _, h => by simp [eqC] at h
  | .int _ _ :: _, [], h => by simp [eqC] at h
  | .int _ _ :: r, .int _ _ :: r', h => by
    simp only [eqC, Bool.and_eq_true] at h
    simp [eqC_len h.2]
  | [], y :: _, h => by cases y <;> simp [eqC] at h
  | x :: _, [], h => by cases x <;> simp [eqC] at h
  | x :: _, y :: _, h => by
    cases x <;> cases y <;> simp [eqC] at h
    rename_i r r' _ _ _ _
    simp [eqC_len h.2]
theorem eqC_ne_len {xs ys : List Value} (h : xs.length ≠ ys.length) : eqC xs ys = false := by
  rw [← Bool.not_eq_true]; exact fun he => h (eqC_len he)
theorem eqC_refl {ks : List IntKind} {xs : List Value} (h : Ints ks xs) : eqC xs xs = true := (eqC_iff h h).2 rfl
theorem eqC_ne {ks : List IntKind} {xs ys : List Value} (hx : Ints ks xs) (hy : Ints ks ys) (h : xs ≠ ys) : eqC xs ys = false := by
  rw [← Bool.not_eq_true]; exact fun he => h ((eqC_iff hx hy).1 he)
theorem Ints.oneCell {ks : List IntKind} {xs : List Value} (h : Ints ks xs) : ∀ u ∈ xs, u.oneCell' = true := by
  induction h with
  | nil => simp
  | cons _ _ ih => intro u hu; rcases List.mem_cons.1 hu with rfl | hu; rfl; exact ih u hu

/-- The type's facts, for ==. -/
structure EqOk (P : Program) (t : TypeId) (ks : List IntKind) : Prop where
  flat : flat P 8 t = some ks
  key : P.keyTypeAt 8 t = true
  guard : P.eqGuardType P.depth t = false
  agg : (match P.underlying t with | some (.array _ _) | some (.struct _) => true | _ => false) = true

theorem run_equal_flat {ks : List IntKind} (h : EqOk P t ks) {xs ys : List Value} (hx : Ints ks xs) (hy : Ints ks ys) (w : World) : (Op.equal t (.agg xs.toArray) (.agg ys.toArray)).run P w = .ok (eqC xs ys) w := by
  have hfm : ∀ l : List Value, Ints ks l → (Value.agg l.toArray).formed P t = true := by
    intro l hl
    have hcl : l.length = P.cellsOf t := by rw [hl.length, flat_len 8 t ks h.flat]
    have := h.agg
    unfold Value.formed
    cases hu : P.underlying t with
    | none => simp [hu] at this
    | some D => cases D <;> simp_all
  obtain ⟨r, hr, hiff⟩ := run_equalIn_deep 9992 8 t h.key w 8 8 (.agg xs.toArray) (.agg ys.toArray) (xs.map litOf) (ys.map litOf) (hfm _ hx) (hfm _ hy)
    (by simpa [Value.cells] using keyLits_flat 8 t ks xs h.flat h.key hx) (by simpa [Value.cells] using keyLits_flat 8 t ks ys h.flat h.key hy)
  have e : r = eqC xs ys := by
    rw [Bool.eq_iff_iff, hiff, eqC_iff hx hy]
    exact ⟨fun he => hx.inj hy he, fun he => by rw [he]⟩
  rw [← e]; exact hr

theorem run_eqGuard_agg {ks : List IntKind} (h : EqOk P t ks) {b : BinOp} {xs ys : Array Value} (w : World) : (eqGuard b t x y (.agg xs) (.agg ys)).run P w = .ok () w := by
  cases b <;> simp [eqGuard, Sem.run_bind, run_program, h.guard]

theorem QT_eqA {ks : List IntKind} {xs ys : List Value} (hg : gdc ops σ o = some g) (hop : o.op = .binOp .eql t x y t2) (h : EqOk P t ks) (hx : ev σ x = some (c1, .agg xs.toArray)) (hy : ev σ y = some (c2, .agg ys.toArray)) (hxs : g = true → Ints ks xs) (hys : g = true → Ints ks ys)
    (hc : g = true → c1 = true ∧ c2 = true := by first | exact fun _ => ⟨rfl, rfl⟩ | (intro h; first | grind | simp_all)) : QT P n ops o σ A g (.bool (eqC xs ys)) :=
  QT.mk hg fun a w hf _ hgt => by
    simp only [execOp, hop, hf.eval hx (hc hgt).1, hf.eval hy (hc hgt).2, Sem.run_bind, run_eqGuard_agg h, Result.andThen_ok]
    simp [binOp, run_equal_flat h (hxs hgt) (hys hgt)]
theorem QT_neA {ks : List IntKind} {xs ys : List Value} (hg : gdc ops σ o = some g) (hop : o.op = .binOp .neq t x y t2) (h : EqOk P t ks) (hx : ev σ x = some (c1, .agg xs.toArray)) (hy : ev σ y = some (c2, .agg ys.toArray)) (hxs : g = true → Ints ks xs) (hys : g = true → Ints ks ys)
    (hc : g = true → c1 = true ∧ c2 = true := by first | exact fun _ => ⟨rfl, rfl⟩ | (intro h; first | grind | simp_all)) : QT P n ops o σ A g (.bool (!eqC xs ys)) :=
  QT.mk hg fun a w hf _ hgt => by
    simp only [execOp, hop, hf.eval hx (hc hgt).1, hf.eval hy (hc hgt).2, Sem.run_bind, run_eqGuard_agg h, Result.andThen_ok]
    simp [binOp, run_equal_flat h (hxs hgt) (hys hgt)]
/-- A field of a struct in hand that is one cell. -/
theorem QT_fieldv {fs : Array Field} {f : Field} {d : TypeDesc} {xs : List Value} {i : Nat} (hg : gdc ops σ o = some g) (hop : o.op = .field t x i) (hu : P.underlying t = some (.struct fs)) (hfs : fs[i]? = some f) (hd : P.underlying f.type = some d) (hda : isAggD d = false)
    (hx : ev σ x = some (c, .agg xs.toArray)) (hv : g = true → xs[f.offset]? = some v)
    (hc : g = true → c = true := by first | exact fun _ => rfl | (intro h; first | grind | simp_all)) : QT P n ops o σ A g v :=
  QT.mk hg fun a w hf _ hgt => by
    simp [execOp, hop, hf.eval hx (hc hgt), Instr.field, run_underlying hu, hfs, asAgg, part, run_isAgg hd, hda, hv hgt]
end
end Go.Gx

/- A BOOK OF LISTS in the logic: strips, what they hold, how they are read. Program-independent. -/
import Derived.Test.YtjehicncbpljaaaDoorE
namespace Go.Gx
open Go Go.RowKit

/-- a list of the book: the slice, its elements' cells, the slice with marks behind it, the mark's cells, the blocks that bear it -/
structure Strip where
  v : Value
  n : Nat
  xs : List Value
  long : Value
  mark : List Value
  H : Heap
structure Strip.ok (e Z : Nat) (ks : List IntKind) (s : Strip) : Prop where
  frag : Frag e Z s.v s.n s.xs s.H
  mints : Ints ks s.mark
  few : s.n ≤ 2000000
def heapOf (ss : List Strip) : Heap := (ss.map (·.H)).flatten
def Strip.cells (s : Strip) : List Value := s.v :: s.long :: s.mark
def arrOf (ss : List Strip) : List Value := (ss.map Strip.cells).flatten
def marks (n : Nat) (mk : List Value) : List Value := (List.replicate n mk).flatten
def fillH (Z n : Nat) (mk : List Value) (H : Heap) : Heap := H.map fun x => (x.1, x.2.1, marks n mk ++ x.2.2.drop (n * Z))
def fillS (Z : Nat) (s : Strip) : Strip := { s with xs := marks s.n s.mark, H := fillH Z s.n s.mark s.H }

theorem fillH_zero (Z : Nat) (mk : List Value) (H : Heap) : fillH Z 0 mk H = H := by
  have : (fun x : Blk => (x.1, x.2.1, marks 0 mk ++ x.2.2.drop (0 * Z))) = id := by funext x; simp [marks]
  rw [fillH, this, List.map_id]
theorem heapOf_cons (s : Strip) (ss : List Strip) : heapOf (s :: ss) = s.H ++ heapOf ss := by simp [heapOf]
theorem heapOf_nil : heapOf [] = [] := rfl
theorem heapOf_append (ss ss' : List Strip) : heapOf (ss ++ ss') = heapOf ss ++ heapOf ss' := by simp [heapOf]
theorem heapOf_mem {ss : List Strip} {s : Strip} (h : s ∈ ss) (p : Blk → Bool) : s.H.countP p ≤ (heapOf ss).countP p := by
  induction ss with
  | nil => cases h
  | cons x ss ih =>
    rw [heapOf_cons, List.countP_append]
    rcases List.mem_cons.1 h with rfl | h
    · omega
    · have := ih h; omega
theorem few_b {n k B : Nat} (h : n ≤ 2000000) (hk : k < 24) (hB : B ≤ 1000) : (n + k + 1) * B ≤ 140737488355328 := by
  have : (n + k + 1) * B ≤ 2000025 * 1000 := Nat.mul_le_mul (by omega) hB
  omega
theorem few_l {n k : Nat} (h : n ≤ 2000000) (hk : k < 24) : n + k + 1 ≤ 9223372036854775807 := by omega
theorem St.swap {w0 : Base} {x y : Blk} {η : Heap} {w : World} (h : St w0 (x :: y :: η) w) : St w0 (y :: x :: η) w := h.cnt fun p => by simp only [List.countP_cons]; omega
theorem arrOf_cons (s : Strip) (ss : List Strip) : arrOf (s :: ss) = s.v :: s.long :: (s.mark ++ arrOf ss) := by simp [arrOf, Strip.cells]
theorem arrOf_append (ss ss' : List Strip) : arrOf (ss ++ ss') = arrOf ss ++ arrOf ss' := by simp [arrOf]
theorem marks_len {n Z : Nat} {mk : List Value} (h : mk.length = Z) : (marks n mk).length = n * Z := by simp [marks, h]
theorem marks_succ (n : Nat) (mk : List Value) : marks (n + 1) mk = marks n mk ++ mk := by
  unfold marks
  rw [← List.replicate_append_replicate (n := n) (m := 1), List.flatten_append]; simp
theorem marks_add (n m : Nat) (mk : List Value) : marks (n + m) mk = marks n mk ++ marks m mk := by
  unfold marks
  rw [← List.replicate_append_replicate, List.flatten_append]
theorem marks_ints {ks : List IntKind} {mk : List Value} (h : Ints ks mk) : ∀ n, Ints (rep n ks) (marks n mk)
  | 0 => .nil
  | n + 1 => by
    rw [marks_succ, rep_add]
    refine (marks_ints h n).append ?_
    have : rep 1 ks = ks := by simp [rep]
    rw [this]; exact h
theorem elem_marks {n i Z : Nat} {mk : List Value} (h : mk.length = Z) (hi : i < n) : elem (marks n mk) Z i = mk := by
  have e : n = i + (1 + (n - i - 1)) := by omega
  unfold elem
  rw [e, marks_add, marks_add, ← marks_len (n := i) h, List.drop_left]
  have : marks 1 mk = mk := by simp [marks]
  rw [this, ← h, List.take_left]

theorem arrOf_len {Z : Nat} {ss : List Strip} (h : ∀ s ∈ ss, s.mark.length = Z) : (arrOf ss).length = ss.length * (Z + 2) := by
  induction ss with
  | nil => simp [arrOf]
  | cons s ss ih =>
    rw [arrOf_cons]
    simp only [List.length_cons, List.length_append, h s (List.mem_cons_self ..), ih (fun s hs => h s (List.mem_cons_of_mem _ hs))]
    rw [Nat.add_mul]; omega
/-- the i-th strip's cells -/
theorem arrOf_at {Z : Nat} {ss : List Strip} (h : ∀ s ∈ ss, s.mark.length = Z) {i : Nat} {s : Strip} (hi : ss[i]? = some s) :
    (arrOf ss)[i * (Z + 2)]? = some s.v ∧ (arrOf ss)[i * (Z + 2) + 1]? = some s.long ∧ ((arrOf ss).drop (i * (Z + 2) + 2)).take Z = s.mark ∧ i * (Z + 2) + 2 + Z ≤ (arrOf ss).length := by
  have hlt : i < ss.length := (List.getElem?_eq_some_iff.1 hi).1
  have e : ss = ss.take i ++ s :: ss.drop (i + 1) := by
    have h2 : ss[i] = s := (List.getElem?_eq_some_iff.1 hi).2
    rw [← h2, ← List.drop_eq_getElem_cons hlt, List.take_append_drop]
  have hl : (arrOf (ss.take i)).length = i * (Z + 2) := by
    rw [arrOf_len (Z := Z) (fun s hs => h s (List.mem_of_mem_take hs)), List.length_take, Nat.min_eq_left (by omega)]
  have hm := h s (List.mem_of_getElem? hi)
  have ha : arrOf ss = arrOf (ss.take i) ++ (s.v :: s.long :: (s.mark ++ arrOf (ss.drop (i + 1)))) := by
    conv => lhs; rw [e]
    rw [arrOf_append, arrOf_cons]
  have hlen := arrOf_len h
  refine ⟨?_, ?_, ?_, ?_⟩
  · rw [ha, ← hl, List.getElem?_append_right (Nat.le_refl _)]; simp
  · rw [ha, ← hl, List.getElem?_append_right (by omega)]; simp
  · rw [ha, ← hl, List.drop_append, List.drop_of_length_le (by omega), List.nil_append]
    have : (arrOf (ss.take i)).length + 2 - (arrOf (ss.take i)).length = 2 := by omega
    rw [this]
    simp [← hm]
  · rw [hlen]
    have : (i + 1) * (Z + 2) ≤ ss.length * (Z + 2) := Nat.mul_le_mul_right _ (by omega)
    rw [Nat.add_mul] at this
    omega

theorem fillS_ok {e Z : Nat} {ks : List IntKind} {s : Strip} (h : s.ok e Z ks) (hk : ks.length = Z) : (fillS Z s).ok e Z ks := by
  obtain ⟨⟨hl, hf⟩, hm, hfew⟩ := h
  have hml : s.mark.length = Z := by rw [hm.length, hk]
  refine ⟨⟨marks_len hml, ?_⟩, hm, hfew⟩
  rcases hf with ⟨hv, hn, hH⟩ | ⟨b, cap, rest, hv, hc, hlen, hH⟩
  · refine .inl ⟨hv, hn, ?_⟩
    simp [fillS, fillH, hH]
  · refine .inr ⟨b, cap, rest, hv, hc, ?_, ?_⟩
    · simp only [fillS, List.length_append, marks_len hml] at hlen ⊢
      rw [hl] at hlen; exact hlen
    · simp only [fillS, fillH, hH, List.map_cons, List.map_nil]
      rw [← hl, List.drop_left]
theorem arrOf_fill (Z : Nat) (ss : List Strip) : arrOf (ss.map (fillS Z)) = arrOf ss := by unfold arrOf; rw [List.map_map]; rfl
theorem fill_step {Z k : Nat} {mk cells : List Value} (hm : mk.length = Z) (hl : (k + 1) * Z ≤ cells.length) :
    setAt (marks k mk ++ cells.drop (k * Z)) (k * Z) mk = marks (k + 1) mk ++ cells.drop ((k + 1) * Z) := by
  have e : cells.drop (k * Z) = (cells.drop (k * Z)).take Z ++ cells.drop ((k + 1) * Z) := by
    rw [Nat.add_mul, Nat.one_mul, ← List.drop_drop, List.take_append_drop]
  rw [e, ← List.append_assoc, ← marks_len (n := k) hm, setAt_mid _ _ _ _ (by rw [List.length_take, List.length_drop, hm, marks_len hm]; rw [Nat.add_mul] at hl; omega), marks_succ]

/-- a slice that is read, with an address in any case -/
theorem SlA.some {A : World → Prop} {v : Value} {size n : Nat} {cs : List Value} (h : SlA A v size n cs) : cs.length = n * size ∧ ∃ ad cap b off, v = .slice ad n cap ∧ (n ≤ cap ∧ cap ≤ 9223372036854775807) ∧ (0 < n → ad = some ⟨b, off, none⟩) ∧ Rd A b off cs := by
  obtain ⟨hl, ad, cap, rfl, hc, h⟩ := h
  refine ⟨hl, ad, cap, ?_⟩
  rcases h with rfl | ⟨b, off, rfl, hr⟩
  · have hn : cs = [] := List.eq_nil_of_length_eq_zero (by simpa using hl)
    subst hn
    exact ⟨0, 0, rfl, hc, fun h => absurd h (by omega), fun _ _ _ _ h => by simp at h⟩
  · exact ⟨b, off, rfl, hc, fun _ => rfl, hr⟩

/-- what holds of a list of the book when the marks are put behind it -/
structure Strip.grown (A : World → Prop) (Z : Nat) (ks : List IntKind) (s : Strip) : Prop where
  l : SlA A s.v Z s.n (marks s.n s.mark)
  long : SlA A s.long Z (s.n + 24) (marks (s.n + 24) s.mark)
  mints : Ints ks s.mark
  few : s.n ≤ 2000000
theorem Strip.grown.mono {A A' : World → Prop} {Z : Nat} {ks : List IntKind} {s : Strip} (h : s.grown A Z ks) (hs : ∀ w, A' w → A w) : s.grown A' Z ks := ⟨h.l.mono hs, h.long.mono hs, h.mints, h.few⟩

/-- on the way: m marks stand in the longer list; the first one is readable still -/
structure LongInv (w0 : Base) (e Z : Nat) (v : Value) (n : Nat) (mk : List Value) (lv : Value) (m : Nat) (HL K : Heap) : Prop where
  frag : Frag e Z lv m (marks m mk) HL
  le : n ≤ m
  old : SlA (St w0 K) v Z n (marks n mk) ∨ ∃ b cap cap2, v = .slice (some ⟨b, 0, none⟩) n cap ∧ (n ≤ cap ∧ cap ≤ 9223372036854775807) ∧ lv = .slice (some ⟨b, 0, none⟩) m cap2

theorem LongInv.oldL {w0 : Base} {e Z : Nat} {v : Value} {n : Nat} {mk : List Value} {lv : Value} {m : Nat} {HL K : Heap} (h : LongInv w0 e Z v n mk lv m HL K) (hm : mk.length = Z) : SlA (St w0 (HL ++ K)) v Z n (marks n mk) := by
  rcases h.old with h1 | ⟨b, cap, cap2, rfl, hc, rfl⟩
  · exact h1.app
  · obtain ⟨hl, hf⟩ := h.frag
    rcases hf with ⟨hv, _⟩ | ⟨b', cap', rest, hv, hc', hlen, rfl⟩
    · cases hv
    · cases hv
      have hle := h.le
      have e1 : marks m mk = marks n mk ++ marks (m - n) mk := by rw [← marks_add]; congr 1; omega
      refine (SlA.mem (T := e) (List.mem_append_left K (List.mem_singleton.2 rfl)) ?_ ?_ hc)
      · rw [List.drop_zero, e1, List.append_assoc, ← marks_len (n := n) hm, List.take_left]
      · rw [Nat.zero_add, e1, List.length_append, List.length_append, marks_len hm]; omega
theorem LongInv.start {w0 : Base} {e Z : Nat} {ks : List IntKind} {s : Strip} (h : s.ok e Z ks) (hx : s.xs = marks s.n s.mark) : LongInv w0 e Z s.v s.n s.mark s.v s.n s.H [] := by
  refine ⟨hx ▸ h.frag, Nat.le_refl _, ?_⟩
  obtain ⟨hl, hf⟩ := h.frag
  rcases hf with ⟨hv, hn, _⟩ | ⟨b, cap, rest, hv, hc, _⟩
  · refine .inl ?_
    rw [hv, hn]
    exact ⟨by simp [marks], _, _, rfl, by omega, .inl rfl⟩
  · exact .inr ⟨b, cap, cap, hv, hc, hv⟩
theorem LongInv.grown {w0 : Base} {e Z : Nat} {ks : List IntKind} {s : Strip} {lv : Value} {HL K : Heap} (h : LongInv w0 e Z s.v s.n s.mark lv (s.n + 24) HL K) (hm : Ints ks s.mark) (hk : ks.length = Z) (hf : s.n ≤ 2000000) :
    Strip.grown (St w0 (HL ++ K)) Z ks { s with long := lv, H := HL ++ K } := ⟨h.oldL (by rw [hm.length, hk]), h.frag.sla, hm, hf⟩

theorem arrOf_set {Z : Nat} {d todo : List Strip} {s : Strip} {r : Value} (h : ∀ s ∈ d, s.mark.length = Z) (rest : List Value) :
    setAt (arrOf (d ++ s :: todo) ++ rest) (d.length * (Z + 2) + 1) [r] = arrOf (d ++ { s with long := r } :: todo) ++ rest := by
  rw [arrOf_append, arrOf_append, arrOf_cons, arrOf_cons, ← arrOf_len h]
  simp [setAt, List.set_append]

/-- the block with other cells in front -/
def reH (k : Nat) (new : List Value) (H : Heap) : Heap := H.map fun x => (x.1, x.2.1, new ++ x.2.2.drop k)
theorem Frag.re {e Z : Nat} {v : Value} {n : Nat} {xs ys : List Value} {H : Heap} (h : Frag e Z v n xs H) (hl : ys.length = xs.length) : Frag e Z v n ys (reH xs.length ys H) := by
  obtain ⟨h1, h⟩ := h
  refine ⟨by omega, ?_⟩
  rcases h with ⟨hv, hn, rfl⟩ | ⟨b, cap, rest, hv, hc, hlen, rfl⟩
  · exact .inl ⟨hv, hn, rfl⟩
  · refine .inr ⟨b, cap, rest, hv, hc, ?_, ?_⟩
    · simp only [List.length_append] at hlen ⊢; omega
    · simp only [reH, List.map_cons, List.map_nil]; rw [List.drop_left]
theorem Frag.re_self {e Z : Nat} {v : Value} {n : Nat} {xs : List Value} {H : Heap} (h : Frag e Z v n xs H) : reH xs.length xs H = H := by
  obtain ⟨h1, h⟩ := h
  rcases h with ⟨hv, hn, rfl⟩ | ⟨b, cap, rest, hv, hc, hlen, rfl⟩
  · rfl
  · simp only [reH, List.map_cons, List.map_nil]; rw [List.drop_left]
theorem Frag.slice {e Z : Nat} {v : Value} {n : Nat} {xs : List Value} {H : Heap} (h : Frag e Z v n xs H) : ∃ ad cap, v = .slice ad n cap ∧ (n ≤ cap ∧ cap ≤ 9223372036854775807) ∧ (0 < n → ∃ b rest, ad = some ⟨b, 0, none⟩ ∧ H = [(b, e, xs ++ rest)]) := by
  obtain ⟨h1, h⟩ := h
  rcases h with ⟨rfl, rfl, rfl⟩ | ⟨b, cap, rest, rfl, hc, hlen, rfl⟩
  · exact ⟨_, _, rfl, by omega, fun h => absurd h (by omega)⟩
  · exact ⟨_, _, rfl, hc, fun _ => ⟨b, rest, rfl, rfl⟩⟩

section
variable {P : Program} {n : Nat} {ops : Array Oper} {o : Oper} {σ : Slots} {A : World → Prop} {g : Bool} {v : Value} {x y z : Operand} {c c1 c2 c3 : Bool} {t t2 : TypeId} {k : IntKind} {p q : Int}
theorem QT_loadRj {b off off' : Nat} {cs : List Value} {d : TypeDesc} (j : Nat) (hg : gdc ops σ o = some g) (hop : o.op = .load t x) (hu : P.underlying t = some d) (hd : isAggD d = false)
    (hr : Rd A b off cs) (hx : ev σ x = some (c, .pointer (some ⟨b, off', none⟩))) (hv : g = true → cs[j]? = some v) (hj : off' = off + j := by omega)
    (hc : g = true → c = true := by first | exact fun _ => rfl | exact id | (intro h; first | grind | simp_all)) : QT P n ops o σ A g v := by
  subst hj; exact QT_loadR hg hop hu hd hr hx hv hc
theorem QT_loadRAj {b off off' m : Nat} {cs out : List Value} {d : TypeDesc} (j : Nat) (hg : gdc ops σ o = some g) (hop : o.op = .load t x) (hu : P.underlying t = some d) (hd : isAggD d = true) (hm : Sz P t m)
    (hr : Rd A b off cs) (hx : ev σ x = some (c, .pointer (some ⟨b, off', none⟩))) (hv : g = true → j + m ≤ cs.length) (ho : g = true → (cs.drop j).take m = out) (hj : off' = off + j := by omega)
    (hc : g = true → c = true := by first | exact fun _ => rfl | exact id | (intro h; first | grind | simp_all)) : QT P n ops o σ A g (.agg out.toArray) := by
  subst hj
  cases g with
  | true => rw [← ho rfl]; exact QT_loadRA hg hop hu hd hm hr hx hv hc
  | false => exact QT.mk hg fun _ _ _ _ h => by cases h
theorem QT_indexG {e m b off len cap : Nat} {ad : Option Addr} (j : Nat) (hg : gdc ops σ o = some g) (hop : o.op = .indexAddr t x y) (hu : P.underlying t = some (.slice e)) (hm : Sz P e m)
    (hx : ev σ x = some (c1, .slice ad len cap)) (hy : ev σ y = some (c2, .int k p)) (hp : p = (j : Int)) (hj : g = true → j < len) (ha : g = true → ad = some ⟨b, off, none⟩)
    (hc : g = true → c1 = true ∧ c2 = true := by first | exact fun _ => ⟨rfl, rfl⟩ | (intro h; first | grind | simp_all)) : QT P n ops o σ A g (.pointer (some ⟨b, off + j * m, none⟩)) := by
  cases g with
  | false => exact QT.mk hg fun _ _ _ _ h => by cases h
  | true => obtain rfl := ha rfl; exact QT_indexSlice j hg hop hu hm hx hy hp hj hc

theorem ET_long {w0 : Base} {η HL K L : Heap} {t e Z bytes nn m : Nat} {z sv yv vv : Value} {s y : Operand} {mk : List Value}
    (hop : o.op = .call { callee := .builtin .append, args := #[s, y], argTypes := #[t, t] }) (ht : P.underlying t = some (.slice e)) (he : ElemOk P e Z bytes z)
    (hs : ev σ s = some (true, sv)) (hy : ev σ y = some (true, yv)) (hI : LongInv w0 e Z vv nn mk sv m HL K) (hml : mk.length = Z) (hA : ∀ w, A w → St w0 (L ++ (HL ++ (K ++ η))) w) (hR : SlA A yv Z 1 mk) (h1 : ∀ u ∈ mk, u.oneCell' = true)
    (hbytes : (m + 1) * bytes ≤ 140737488355328) (h63 : m + 1 ≤ 9223372036854775807) :
    ET P n o σ A fun r A' => ∃ H' K', LongInv w0 e Z vv nn mk r (m + 1) H' K' ∧ A' = St w0 (L ++ (H' ++ (K' ++ η))) := by
  intro a w hf hw Kk Q hK
  refine ET_appendK (P := P) (n := n) (o := o) (σ := σ) (A := A) (L := L) (η := K ++ η) (Nat.lt_succ_self 0) hop ht he hs hy hI.frag hA hR h1 hbytes h63 a w hf hw Kk Q ?_
  rintro v A' w' ⟨H', hF', hcase⟩ hA'
  rw [← marks_succ] at hF'
  have hle := hI.le
  rcases hcase with ⟨⟨b, cap, rest, hsv, hr, hH, hH'⟩, rfl⟩ | rfl
  · refine hK v _ w' ⟨H', K, ⟨hF', by omega, ?_⟩, rfl⟩ hA'
    rcases hI.old with h | ⟨b2, cap', cap2, hv2, hc2, hl2⟩
    · exact .inl h
    · rw [hsv] at hl2
      cases hl2
      exact .inr ⟨b, cap', cap, hv2, hc2, hr⟩
  · rcases hI.old with h | h
    · refine hK v _ w' ⟨H', K, ⟨hF', by omega, .inl h⟩, rfl⟩ (hA'.cnt fun p => by simp only [List.countP_append]; omega)
    · refine hK v _ w' ⟨H', HL ++ K, ⟨hF', by omega, .inl (hI.oldL hml)⟩, rfl⟩ (hA'.cnt fun p => by simp only [List.countP_append]; omega)
end
end Go.Gx

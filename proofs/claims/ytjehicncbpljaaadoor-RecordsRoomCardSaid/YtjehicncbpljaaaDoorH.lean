/- OPENERS OF PARAMETERS THAT LIE IN MEMORY: a slice whose elements are integers, laid flat, is read as the row gives it. Program-independent. -/
import Derived.Test.YtjehicncbpljaaaDoorE
import Derived.Deep.Slices
import Derived.Lib.LaidTab
import Derived.SizedLaws
namespace Go.Gx
open Go Go.RowKit Go.ChangeShapes Go.WideShapes

section
variable {H : Type} {enc : TypeId × Value → H} {P : Program} {w : World} {base : Nat} {spare : Nat → Bool} {held : Bool}

theorem rep_succ' (n : Nat) (ks : List IntKind) : rep (n + 1) ks = rep n ks ++ ks := by rw [rep_add]; simp [rep]

/-- A slice of integers laid flat, as it came in: its cells, element by element; how long it is, by its weight. -/
theorem open_slc {t e : TypeId} {ks : List IntKind} {cs : List Value} {x : DataW H × List MemPlace} {fuel : Nat} (ht : P.underlying t = some (.slice e)) (hk : flat P 8 e = some ks) (h0 : 0 < ks.length)
    (hf : DataW.trod enc P w base spare held fuel t cs = some x) :
    ∃ (v : Value) (n : Nat) (xs : List Value), cs = [v] ∧ SlA (St w []) v ks.length n xs ∧ Ints (rep n ks) xs ∧ ((∀ m ∈ x.1.weights P t, m ≤ reachBytes) → n * P.bytesOf e ≤ 140737488351232) := by
  rcases Deep.open_slice ht hf with ⟨rfl, _⟩ | ⟨a, len, cap, m, n, D, Pl, rfl, hb, hl, hm, em, hxx, hel⟩
  · exact ⟨_, 0, [], rfl, ⟨by simp, _, _, rfl, ⟨Nat.le_refl _, by omega⟩, .inl rfl⟩, by simpa [rep] using Ints.nil, fun _ => by omega⟩
  · have hlm : len ≤ m := by rw [em]; split <;> omega
    have hz : ks.length = P.cellsOf e := flat_len 8 e ks hk
    have key : ∀ j, j ≤ len → ∃ xs, Ints (rep j ks) xs ∧ ∀ i, i < j * ks.length → w.cell? (a.add i) = xs[i]? := by
      intro j
      induction j with
      | zero => intro _; exact ⟨[], by simpa [rep] using Ints.nil, fun i hi => by omega⟩
      | succ j ih =>
        intro hj
        obtain ⟨xs, hi, hx⟩ := ih (by omega)
        obtain ⟨cs', h1, h2⟩ := hel j (by omega)
        obtain ⟨_, hlen, hc⟩ := World.cells?_some h1
        have hik := trod_flat 8 e ks hk n cs' _ h2
        refine ⟨xs ++ cs', by rw [rep_succ']; exact hi.append hik, fun i hi' => ?_⟩
        have hxl : xs.length = j * ks.length := by rw [hi.length, rep_len]
        by_cases hlt : i < j * ks.length
        · rw [List.getElem?_append_left (by omega)]; exact hx i hlt
        · rw [Nat.add_mul, Nat.one_mul] at hi'
          rw [List.getElem?_append_right (by omega), hxl, ← hc (i - j * ks.length) (by omega), add_addr, ← hz]
          congr 2; omega
    obtain ⟨xs, hi, hx⟩ := key len (Nat.le_refl _)
    have hxl : xs.length = len * ks.length := by rw [hi.length, rep_len]
    refine ⟨_, len, xs, rfl, ⟨hxl, _, _, rfl, ⟨hl, ?_⟩, ?_⟩, hi, fun hw => ?_⟩
    · have : maxLen = 9223372036854775807 := by decide
      omega
    · by_cases hn : len = 0
      · exact .inl hn
      · right
        obtain ⟨ab, ao, sp⟩ := a
        have hpos : 0 < len * ks.length := Nat.mul_pos (by omega) h0
        have hc0 := hx 0 hpos
        have hsp : sp = none := by
          rw [List.getElem?_eq_getElem (by omega)] at hc0
          simpa [Addr.add] using World.cell?_spot hc0
        subst hsp
        refine ⟨ab, ao, rfl, Rd.start fun j v hj => ?_⟩
        have hjl := (List.getElem?_eq_some_iff.1 hj).1
        rw [← hj, ← hx j (by omega), add_mk]
        rfl
    · have hd : x.1 = .slice ((List.range len).map D) ((List.range (m - len)).map fun j => D (len + j)) := congrArg Prod.fst hxx
      rw [hd] at hw
      have := hw _ (by simp only [DataW.weights, ht]; exact List.mem_cons_self ..)
      simp only [List.length_map, List.length_range, reachBytes] at this
      have h2 : len * P.bytesOf e ≤ (len + (m - len)) * P.bytesOf e := Nat.mul_le_mul_right _ (by omega)
      omega
theorem open_slw {t e : TypeId} {ks : List IntKind} {v : Value} {d : DataW H} {p : List MemPlace} (ht : P.underlying t = some (.slice e)) (hk : flat P 8 e = some ks) (h0 : 0 < ks.length) {B : Nat} (hB : P.bytesOf e = B) {r : Reach} {b0 : Nat}
    (hv : Value.okWide P w r b0 t v) (h : DataW.Trod enc P w base spare held t v d p) (hw : ∀ m ∈ d.weights P t, m ≤ reachBytes) :
    ∃ (n : Nat) (xs : List Value), SlA (St w []) v ks.length n xs ∧ Ints (rep n ks) xs ∧ n * B ≤ 140737488351232 := by
  obtain ⟨fuel, hf⟩ := h
  obtain ⟨a1, len1, cap1, rfl⟩ := okWide_slice ht hv
  obtain ⟨v', n, xs, hcs, hs, hi, hb⟩ := open_slc ht hk h0 hf
  have e1 : Value.slice a1 len1 cap1 = v' := by simpa [Value.cells] using hcs
  subst e1
  exact ⟨n, xs, hs, hi, by rw [← hB]; exact hb hw⟩
/-- Two of them, in an array by value. -/
theorem open_sl2 {t t1 e : TypeId} {ks : List IntKind} {v : Value} {d : DataW H} {p : List MemPlace} (ha : P.underlying t = some (.array 2 t1)) (hc : P.cellsOf t1 = 1) (hct : P.cellsOf t = 2) (ht : P.underlying t1 = some (.slice e)) (hk : flat P 8 e = some ks) (h0 : 0 < ks.length) {B : Nat} (hB : P.bytesOf e = B) {r : Reach} {b0 : Nat}
    (hv : Value.okWide P w r b0 t v) (h : DataW.Trod enc P w base spare held t v d p) (hw : ∀ m ∈ d.weights P t, m ≤ reachBytes) :
    ∃ (s1 s2 : Value) (n m : Nat) (xs ys : List Value), v = .agg #[s1, s2] ∧ (SlA (St w []) s1 ks.length n xs ∧ Ints (rep n ks) xs ∧ n * B ≤ 140737488351232) ∧ (SlA (St w []) s2 ks.length m ys ∧ Ints (rep m ks) ys ∧ m * B ≤ 140737488351232) := by
  obtain ⟨fuel, hf⟩ := h
  obtain ⟨cs, rfl⟩ : ∃ cs, v = .agg cs := by
    simp only [Value.okWide, ha] at hv
    cases v <;> simp_all
  obtain ⟨xs, m, rfl, hx, hlen, hxl, hel⟩ := DataW.trod_array ha hf
  have hd : d = .agg (xs.map (·.1)) := congrArg Prod.fst hx
  subst hd
  rw [hc] at hel
  have hcs : cs.toList.length = 2 := by rw [← hct]; exact hlen
  obtain ⟨c0, c1, hce⟩ : ∃ c0 c1, cs.toList = [c0, c1] := by
    match hl : cs.toList, hcs with
    | [c0, c1], _ => exact ⟨c0, c1, rfl⟩
  obtain ⟨y0, y1, rfl⟩ : ∃ y0 y1, xs = [y0, y1] := by
    match xs, hxl with
    | [y0, y1], _ => exact ⟨y0, y1, rfl⟩
  have hcc : (Value.agg cs).cells.toList = [c0, c1] := hce
  have h1 := hel 0 (by decide)
  have h2 := hel 1 (by decide)
  rw [hcc] at h1 h2
  obtain ⟨v1, n1, xs1, e1, a1, a2, a3⟩ := open_slc ht hk h0 (x := y0) h1
  obtain ⟨v2, n2, xs2, e2, b1, b2, b3⟩ := open_slc ht hk h0 (x := y1) h2
  have e1' : c0 = v1 := by simpa using e1
  have e2' : c1 = v2 := by simpa using e2
  subst e1' e2'
  have hww : ∀ y ∈ [y0, y1], ∀ m ∈ y.1.weights P t1, m ≤ reachBytes := fun y hy m hm => by
    refine hw m ?_
    simp only [DataW.weights, ha, List.map_cons, List.map_nil, DataW.weightsAll, List.append_nil]
    rcases List.mem_cons.1 hy with rfl | hy
    · exact List.mem_append_left _ hm
    · cases List.mem_singleton.1 hy
      exact List.mem_append_right _ hm
  refine ⟨c0, c1, n1, n2, xs1, xs2, congrArg Value.agg (Array.ext' (by simpa using hce)), ⟨a1, a2, ?_⟩, ⟨b1, b2, ?_⟩⟩
  · rw [← hB]; exact a3 (hww y0 (List.mem_cons_self ..))
  · rw [← hB]; exact b3 (hww y1 (List.mem_cons_of_mem _ (List.mem_cons_self ..)))
/-- what a reading tells, flat -/
def leavesD {H : Type} : Nat → DataW H → List Lit
  | 0, _ => []
  | _ + 1, .lit l => [l]
  | d + 1, .agg xs => xs.flatMap (leavesD d)
  | _ + 1, _ => []
theorem trod_leaves : ∀ (d : Nat) (t : TypeId) (ks : List IntKind), flat P d t = some ks → ∀ (fuel : Nat) (cs : List Value) (x : DataW H × List MemPlace), DataW.trod enc P w base spare held fuel t cs = some x → cs.map litOf = leavesD d x.1
  | 0, t, ks, h, _, _, _, _ => by simp [flat] at h
  | d + 1, t, ks, h, fuel, cs, x, hx => by
    simp only [flat] at h
    cases hu : P.underlying t with
    | none => simp [hu] at h
    | some D =>
      cases D with
      | int k =>
        obtain ⟨n, rfl, rfl, hw⟩ := DataW.trod_int hu hx
        rfl
      | struct fs =>
        simp only [hu] at h
        cases hb : (contig (fs.toList.map fun f => (f.offset, P.cellsOf f.type)) 0 && Nat.beq (sumSz (fs.toList.map fun f => (f.offset, P.cellsOf f.type))) (P.cellsOf t)) with
        | false => simp [hb] at h
        | true =>
          rw [hb, cond_true] at h
          simp only [Bool.and_eq_true] at hb
          obtain ⟨xs, n, rfl, rfl, hlen, hxl, hel⟩ := DataW.trod_struct hu hx
          have hp := pieces _ 0 cs hb.1 (by rw [hlen, Nat.zero_add, Nat.eq_of_beq_eq_true hb.2])
          rw [List.drop_zero, List.map_map] at hp
          rw [hp]
          have hel' : ∀ (l : List Field) (ys : List (DataW H × List MemPlace)), ys.length = l.length → (∀ (i : Nat) (f : Field), l[i]? = some f → DataW.trod enc P w base spare held n f.type ((cs.drop f.offset).take (P.cellsOf f.type)) = ys[i]?) → ∀ ks, flatF (flat P d) l = some ks →
              (l.map ((fun x => (cs.drop x.1).take x.2) ∘ fun (f : Field) => (f.offset, P.cellsOf f.type))).flatten.map litOf = (ys.map (·.1)).flatMap (leavesD d) := by
            intro l
            induction l with
            | nil => intro ys hy _ ks h; obtain rfl := List.eq_nil_of_length_eq_zero hy; rfl
            | cons f l ih =>
              intro ys hy hl ks h
              cases ys with
              | nil => simp at hy
              | cons y ys =>
                simp only [flatF] at h
                cases hf : flat P d f.type with
                | none => simp [hf] at h
                | some a =>
                  cases hr : flatF (flat P d) l with
                  | none => simp [hf, hr] at h
                  | some b =>
                    have h0 := hl 0 f rfl
                    simp only [List.map_cons, List.flatten_cons, List.map_append, List.flatMap_cons]
                    rw [ih ys (by simpa using hy) (fun i f hi => by simpa using hl (i + 1) f (by simpa using hi)) b hr]
                    congr 1
                    exact trod_leaves d f.type a hf n _ y (by simpa using h0)
          exact hel' fs.toList xs (by simpa using hxl) (fun i f hi => hel i f (by simpa using hi)) ks h
      | array m e =>
        simp only [hu] at h
        cases hb : Nat.beq (m * P.cellsOf e) (P.cellsOf t) with
        | false => simp [hb] at h
        | true =>
          rw [hb, cond_true] at h
          cases hf : flat P d e with
          | none => simp [hf] at h
          | some a =>
            obtain ⟨xs, n, rfl, rfl, hlen, hxl, hel⟩ := DataW.trod_array hu hx
            have hb' := Nat.eq_of_beq_eq_true hb
            have key : ∀ (j k : Nat), j + k = m → (cs.drop (k * P.cellsOf e)).map litOf = ((xs.drop k).map (·.1)).flatMap (leavesD d) := by
              intro j
              induction j with
              | zero =>
                intro k hk
                have h1 : cs.drop (k * P.cellsOf e) = [] := by
                  apply List.drop_eq_nil_of_le
                  rw [hlen, ← hb', ← hk, Nat.zero_add]
                  exact Nat.le_refl _
                have h2 : xs.drop k = [] := List.drop_eq_nil_of_le (by omega)
                rw [h1, h2]; rfl
              | succ j ih =>
                intro k hk
                have h1 := hel k (by omega)
                have hkx : k < xs.length := by omega
                rw [List.getElem?_eq_getElem hkx] at h1
                have h2 := trod_leaves d e a hf n _ _ h1
                have h3 := ih (k + 1) (by omega)
                have e4 : (cs.drop (k * P.cellsOf e)).take (P.cellsOf e) ++ cs.drop ((k + 1) * P.cellsOf e) = cs.drop (k * P.cellsOf e) := by
                  conv => rhs; rw [← List.take_append_drop (P.cellsOf e) (cs.drop (k * P.cellsOf e)), List.drop_drop]
                  rw [Nat.add_mul, Nat.one_mul]
                rw [← e4, List.map_append, h2, h3, List.drop_eq_getElem_cons hkx, List.map_cons, List.flatMap_cons]
            have := key m 0 (by omega)
            rw [Nat.zero_mul, List.drop_zero, List.drop_zero] at this
            exact this
      | _ => simp [hu] at h
end

/-- A variable that a row lists, of integers laid flat. -/
theorem laid_flat {P : Program} {W : World} {name : String} {d : DataW Unit} {g t : Nat} {ks : List IntKind} {cs : List Value} : ∀ {laid : List (String × DataW Unit)}, laidMet P laid W → (name, d) ∈ laid → P.globalNamed name = some g → (P.globals[g]?).map (·.type) = some t → flat P 8 t = some ks → Ints ks cs → leavesD 8 d = cs.map litOf →
    ∀ j v, cs[j]? = some v → W.cell? ⟨g, 0 + j, none⟩ = some v := by
  intro laid h hm hg ht hk hi hl
  obtain ⟨ps, hv, _⟩ := h
  have key : ∀ (laid : List (String × DataW Unit)) (ps : List MemPlace), DataW.LaidVars P W laid ps → (name, d) ∈ laid → ∃ cs' : Array Value, W.var? P name = some cs' ∧ cs'.toList = cs := by
    intro laid
    induction laid with
    | nil => intro _ _ h; cases h
    | cons x r ih =>
      intro ps hv hm
      obtain ⟨n, d'⟩ := x
      obtain ⟨g', t', cs', fuel, p, q, hg', ht', hvar, hd, hr, _⟩ := hv
      rcases List.mem_cons.1 hm with he | hm
      · cases he
        obtain rfl := Option.some.inj (hg.symm.trans hg')
        obtain rfl := Option.some.inj (ht.symm.trans ht')
        exact ⟨cs', hvar, Ints.inj (trod_flat 8 t ks hk fuel _ _ hd) hi ((trod_leaves 8 t ks hk fuel _ _ hd).trans hl)⟩
      · exact ih q hr hm
  obtain ⟨cs', hvar, rfl⟩ := key laid ps hv hm
  intro j v hj
  have := World.var?_cell hg hvar j
  rw [Nat.zero_add, this]
  simpa using hj
end Go.Gx

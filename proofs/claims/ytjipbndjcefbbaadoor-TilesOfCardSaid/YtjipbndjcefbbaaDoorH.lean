/- OPENERS OF PARAMETERS THAT LIE IN MEMORY: a slice whose elements are integers, laid flat, is read as the row gives it. Program-independent. -/
import Derived.Test.YtjipbndjcefbbaaDoorE
import Derived.Deep.Slices
import Derived.Lib.LaidTab
namespace Go.Gx
open Go Go.RowKit Go.ChangeShapes Go.WideShapes

section
variable {H : Type} {enc : TypeId × Value → H} {P : Program} {w : World} {base : Nat} {spare : Nat → Bool} {held : Bool}

theorem rep_succ' (n : Nat) (ks : List IntKind) : rep (n + 1) ks = rep n ks ++ ks := by rw [rep_add]; simp [rep]

/-- A slice of integers laid flat, as it came in: its cells, element by element. -/
theorem open_sl {t e : TypeId} {ks : List IntKind} {v : Value} {d : DataW H} {p : List MemPlace} (ht : P.underlying t = some (.slice e)) (hk : flat P 8 e = some ks) (h0 : 0 < ks.length) {r : Reach} {b0 : Nat}
    (hv : Value.okWide P w r b0 t v) (h : DataW.Trod enc P w base spare held t v d p) :
    ∃ (n : Nat) (xs : List Value), SlA (St w []) v ks.length n xs ∧ Ints (rep n ks) xs := by
  obtain ⟨fuel, hf⟩ := h
  obtain ⟨a1, len1, cap1, rfl⟩ := okWide_slice ht hv
  rcases Deep.open_slice ht hf with ⟨hcs, _⟩ | ⟨a, len, cap, m, n, D, Pl, hcs, hb, hl, hm, em, _, hel⟩
  · simp [Value.cells] at hcs
    obtain ⟨rfl, rfl, rfl⟩ := hcs
    exact ⟨0, [], ⟨by simp, _, _, rfl, ⟨Nat.le_refl _, by omega⟩, .inl rfl⟩, by simpa [rep] using Ints.nil⟩
  · simp [Value.cells] at hcs
    obtain ⟨rfl, rfl, rfl⟩ := hcs
    have hlm : len1 ≤ m := by rw [em]; split <;> omega
    have hz : ks.length = P.cellsOf e := flat_len 8 e ks hk
    have key : ∀ j, j ≤ len1 → ∃ xs, Ints (rep j ks) xs ∧ ∀ i, i < j * ks.length → w.cell? (a.add i) = xs[i]? := by
      intro j
      induction j with
      | zero => intro _; exact ⟨[], by simpa [rep] using Ints.nil, fun i hi => by omega⟩
      | succ j ih =>
        intro hj
        obtain ⟨xs, hi, hx⟩ := ih (by omega)
        obtain ⟨cs', h1, h2⟩ := hel j (by omega)
        obtain ⟨_, hlen, hc⟩ := World.cells?_some h1
        have hik := trod_flat 8 e ks hk n cs' _ h2
        refine ⟨xs ++ cs', by rw [rep_succ']; exact hi.append hik, fun i hi' => ?_⟩
        have hxl : xs.length = j * ks.length := by rw [hi.length, rep_len]
        by_cases hlt : i < j * ks.length
        · rw [List.getElem?_append_left (by omega)]; exact hx i hlt
        · rw [Nat.add_mul, Nat.one_mul] at hi'
          rw [List.getElem?_append_right (by omega), hxl, ← hc (i - j * ks.length) (by omega), add_addr, ← hz]
          congr 2; omega
    obtain ⟨xs, hi, hx⟩ := key len1 (Nat.le_refl _)
    have hxl : xs.length = len1 * ks.length := by rw [hi.length, rep_len]
    refine ⟨len1, xs, ⟨hxl, _, _, rfl, ⟨hl, ?_⟩, ?_⟩, hi⟩
    · have : maxLen = 9223372036854775807 := by decide
      omega
    · by_cases hn : len1 = 0
      · exact .inl hn
      · right
        obtain ⟨ab, ao, sp⟩ := a
        have hpos : 0 < len1 * ks.length := Nat.mul_pos (by omega) h0
        have hc0 := hx 0 hpos
        have hsp : sp = none := by
          rw [List.getElem?_eq_getElem (by omega)] at hc0
          simpa [Addr.add] using World.cell?_spot hc0
        subst hsp
        refine ⟨ab, ao, rfl, Rd.start fun j v hj => ?_⟩
        have hjl := (List.getElem?_eq_some_iff.1 hj).1
        rw [← hj, ← hx j (by omega), add_mk]
/-- what a reading tells, flat -/
def leavesD {H : Type} : Nat → DataW H → List Lit
  | 0, _ => []
  | _ + 1, .lit l => [l]
  | d + 1, .agg xs => xs.flatMap (leavesD d)
  | _ + 1, _ => []
theorem trod_leaves : ∀ (d : Nat) (t : TypeId) (ks : List IntKind), flat P d t = some ks → ∀ (fuel : Nat) (cs : List Value) (x : DataW H × List MemPlace), DataW.trod enc P w base spare held fuel t cs = some x → cs.map litOf = leavesD d x.1
  | 0, t, ks, h, _, _, _, _ => by simp [flat] at h
  | d + 1, t, ks, h, fuel, cs, x, hx => by
    simp only [flat] at h
    cases hu : P.underlying t with
    | none => simp [hu] at h
    | some D =>
      cases D with
      | int k =>
        obtain ⟨n, rfl, rfl, hw⟩ := DataW.trod_int hu hx
        rfl
      | struct fs =>
        simp only [hu] at h
        cases hb : (contig (fs.toList.map fun f => (f.offset, P.cellsOf f.type)) 0 && Nat.beq (sumSz (fs.toList.map fun f => (f.offset, P.cellsOf f.type))) (P.cellsOf t)) with
        | false => simp [hb] at h
        | true =>
          rw [hb, cond_true] at h
          simp only [Bool.and_eq_true] at hb
          obtain ⟨xs, n, rfl, rfl, hlen, hxl, hel⟩ := DataW.trod_struct hu hx
          have hp := pieces _ 0 cs hb.1 (by rw [hlen, Nat.zero_add, Nat.eq_of_beq_eq_true hb.2])
          rw [List.drop_zero, List.map_map] at hp
          rw [hp]
          have hel' : ∀ (l : List Field) (ys : List (DataW H × List MemPlace)), ys.length = l.length → (∀ (i : Nat) (f : Field), l[i]? = some f → DataW.trod enc P w base spare held n f.type ((cs.drop f.offset).take (P.cellsOf f.type)) = ys[i]?) → ∀ ks, flatF (flat P d) l = some ks →
              (l.map ((fun x => (cs.drop x.1).take x.2) ∘ fun (f : Field) => (f.offset, P.cellsOf f.type))).flatten.map litOf = (ys.map (·.1)).flatMap (leavesD d) := by
            intro l
            induction l with
            | nil => intro ys hy _ ks h; obtain rfl := List.eq_nil_of_length_eq_zero hy; rfl
            | cons f l ih =>
              intro ys hy hl ks h
              cases ys with
              | nil => simp at hy
              | cons y ys =>
                simp only [flatF] at h
                cases hf : flat P d f.type with
                | none => simp [hf] at h
                | some a =>
                  cases hr : flatF (flat P d) l with
                  | none => simp [hf, hr] at h
                  | some b =>
                    have h0 := hl 0 f rfl
                    simp only [List.map_cons, List.flatten_cons, List.map_append, List.flatMap_cons]
                    rw [ih ys (by simpa using hy) (fun i f hi => by simpa using hl (i + 1) f (by simpa using hi)) b hr]
                    congr 1
                    exact trod_leaves d f.type a hf n _ y (by simpa using h0)
          exact hel' fs.toList xs (by simpa using hxl) (fun i f hi => hel i f (by simpa using hi)) ks h
      | array m e =>
        simp only [hu] at h
        cases hb : Nat.beq (m * P.cellsOf e) (P.cellsOf t) with
        | false => simp [hb] at h
        | true =>
          rw [hb, cond_true] at h
          cases hf : flat P d e with
          | none => simp [hf] at h
          | some a =>
            obtain ⟨xs, n, rfl, rfl, hlen, hxl, hel⟩ := DataW.trod_array hu hx
            have hb' := Nat.eq_of_beq_eq_true hb
            have key : ∀ (j k : Nat), j + k = m → (cs.drop (k * P.cellsOf e)).map litOf = ((xs.drop k).map (·.1)).flatMap (leavesD d) := by
              intro j
              induction j with
              | zero =>
                intro k hk
                have h1 : cs.drop (k * P.cellsOf e) = [] := by
                  apply List.drop_eq_nil_of_le
                  rw [hlen, ← hb', ← hk, Nat.zero_add]
                  exact Nat.le_refl _
                have h2 : xs.drop k = [] := List.drop_eq_nil_of_le (by omega)
                rw [h1, h2]; rfl
              | succ j ih =>
                intro k hk
                have h1 := hel k (by omega)
                have hkx : k < xs.length := by omega
                rw [List.getElem?_eq_getElem hkx] at h1
                have h2 := trod_leaves d e a hf n _ _ h1
                have h3 := ih (k + 1) (by omega)
                have e4 : (cs.drop (k * P.cellsOf e)).take (P.cellsOf e) ++ cs.drop ((k + 1) * P.cellsOf e) = cs.drop (k * P.cellsOf e) := by
                  conv => rhs; rw [← List.take_append_drop (P.cellsOf e) (cs.drop (k * P.cellsOf e)), List.drop_drop]
                  rw [Nat.add_mul, Nat.one_mul]
                rw [← e4, List.map_append, h2, h3, List.drop_eq_getElem_cons hkx, List.map_cons, List.flatMap_cons]
            have := key m 0 (by omega)
            rw [Nat.zero_mul, List.drop_zero, List.drop_zero] at this
            exact this
      | _ => simp [hu] at h
end

/-- A variable that a row lists, of integers laid flat. -/
theorem laid_flat {P : Program} {W : World} {name : String} {d : DataW Unit} {g t : Nat} {ks : List IntKind} {cs : List Value} : ∀ {laid : List (String × DataW Unit)}, laidMet P laid W → (name, d) ∈ laid → P.globalNamed name = some g → (P.globals[g]?).map (·.type) = some t → flat P 8 t = some ks → Ints ks cs → leavesD 8 d = cs.map litOf →
    ∀ j v, cs[j]? = some v → W.cell? ⟨g, 0 + j, none⟩ = some v := by
  intro laid h hm hg ht hk hi hl
  obtain ⟨ps, hv, _⟩ := h
  have key : ∀ (laid : List (String × DataW Unit)) (ps : List MemPlace), DataW.LaidVars P W laid ps → (name, d) ∈ laid → ∃ cs' : Array Value, W.var? P name = some cs' ∧ cs'.toList = cs := by
    intro laid
    induction laid with
    | nil => intro _ _ h; cases h
    | cons x r ih =>
      intro ps hv hm
      obtain ⟨n, d'⟩ := x
      obtain ⟨g', t', cs', fuel, p, q, hg', ht', hvar, hd, hr, _⟩ := hv
      rcases List.mem_cons.1 hm with he | hm
      · cases he
        obtain rfl := Option.some.inj (hg.symm.trans hg')
        obtain rfl := Option.some.inj (ht.symm.trans ht')
        exact ⟨cs', hvar, Ints.inj (trod_flat 8 t ks hk fuel _ _ hd) hi ((trod_leaves 8 t ks hk fuel _ _ hd).trans hl)⟩
      · exact ih q hr hm
  obtain ⟨cs', hvar, rfl⟩ := key laid ps hv hm
  intro j v hj
  have := World.var?_cell hg hvar j
  rw [Nat.zero_add, this]
  simpa using hj
end Go.Gx

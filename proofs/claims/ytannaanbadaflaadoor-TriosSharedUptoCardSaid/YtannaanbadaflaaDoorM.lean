/- SEVERAL ALLOCATIONS THAT MAY COME UP IN ANY ORDER, in a drawn region. Program-independent. -/
import Derived.Test.YtannaanbadaflaaDoorI
namespace Go.Gx
open Go Go.RowKit

structure AI where
  i : Nat
  d : Nat
  T : Nat
  z : Value
def ordA (L : List AI) : List (Nat × Nat) := L.map fun x => (x.i, 2)
def blkA (β : Nat → Nat) (x : AI) : Blk := (β x.d, x.T, x.z.cells.toList)
def slotA (β : Nat → Nat) (x : AI) : Nat × Bool × Value := (x.d, true, .pointer (some ⟨β x.d, 0, none⟩))
def chkA (ops : Array Oper) (r : List (Nat × Nat)) : Nat → List AI → Bool
  | 0, L => L.isEmpty && chk ops r
  | f + 1, L => (L.isEmpty && chk ops r) || ((Region.ready .any ops (listedOf ops.size (ordA L ++ r)) == L.map (·.i)) &&
      L.all fun x => sameB ((listedOf ops.size (ordA L ++ r)).setIfInBounds x.i true) (listedOf ops.size (ordA (L.filter fun y => !(y.d == x.d)) ++ r)) && chkA ops r f (L.filter fun y => !(y.d == x.d)))

section
variable {P : Program} {n : Nat} {ops : Array Oper} {Q : Exit → Act → World → Prop}

theorem filter_len : ∀ {L : List AI} {x : AI}, x ∈ L → (L.map (·.d)).Nodup → (L.filter fun y => !(y.d == x.d)).length + 1 = L.length ∧ L.Perm (x :: L.filter fun y => !(y.d == x.d))
  | [], _, h, _ => absurd h List.not_mem_nil
  | y :: L, x, h, hn => by
    rw [List.map_cons, List.nodup_cons] at hn
    rcases List.mem_cons.1 h with rfl | h
    · have e : (x :: L).filter (fun y => !(y.d == x.d)) = L := by
        rw [List.filter_cons]
        simp only [beq_self_eq_true, Bool.not_true, Bool.false_eq_true, if_false]
        rw [List.filter_eq_self]
        intro z hz
        have : z.d ≠ x.d := fun e => hn.1 (by rw [← e]; exact List.mem_map_of_mem hz)
        simpa using this
      rw [e]
      exact ⟨rfl, List.Perm.refl _⟩
    · have hne : y.d ≠ x.d := fun e => hn.1 (by rw [e]; exact List.mem_map_of_mem h)
      have e : (y :: L).filter (fun y => !(y.d == x.d)) = y :: L.filter (fun y => !(y.d == x.d)) := by
        rw [List.filter_cons, if_pos (by simpa using hne)]
      obtain ⟨h1, h2⟩ := filter_len h hn.2
      rw [e]
      exact ⟨by simp only [List.length_cons]; omega, (h2.cons y).trans (List.Perm.swap x y _)⟩

theorem look_A {β : Nat → Nat} {σ : Slots} {t : Nat} : ∀ {L : List AI} {c : Bool} {v : Value}, look (L.map (slotA β) ++ σ) t = some (c, v) → (∃ x ∈ L, x.d = t ∧ c = true ∧ v = .pointer (some ⟨β t, 0, none⟩)) ∨ look σ t = some (c, v)
  | [], _, _, h => .inr h
  | x :: L, c, v, h => by
    simp only [List.map_cons, List.cons_append, look, slotA] at h
    cases hb : Nat.beq x.d t with
    | true =>
      have hdt : x.d = t := Nat.eq_of_beq_eq_true hb
      simp only [hb, cond_true, Option.some.injEq, Prod.mk.injEq] at h
      obtain ⟨rfl, rfl⟩ := h
      exact .inl ⟨x, List.mem_cons_self .., hdt, rfl, by rw [hdt]⟩
    | false =>
      simp only [hb, cond_false] at h
      rcases look_A h with ⟨y, hy, h1⟩ | h1
      · exact .inl ⟨y, List.mem_cons_of_mem _ hy, h1⟩
      · exact .inr h1
theorem TV_allocs {w0 : World} {η : Heap} {σ : Slots} {V : Held} (all : List AI) (r : List (Nat × Nat)) (hc : chkA ops r all.length all = true) (hnd : (all.map (·.d)).Nodup)
    (ho : ∀ x ∈ all, ∃ o, ops[x.i]? = some o ∧ o.dst = some x.d ∧ o.guard = none ∧ o.op = .alloc x.T ∧ ZeroOk P x.T x.z ∧ Nat.ble (x.d + 1) n = true)
    (hσ : ∀ x ∈ all, look σ x.d = none)
    (hk : ∀ x ∈ all, ∀ X : Heap, KeepTo P n ops x.i (St w0 (X ++ η)) V V)
    (k : ∀ β : Nat → Nat, TV P n ops Q r V (all.map (slotA β) ++ σ) (St w0 (all.map (blkA β) ++ η))) : TV P n ops Q (ordA all ++ r) V σ (St w0 η) := by
  intro hs hnp _ a w V' hf hA hm
  have key : ∀ (f : Nat) (L S : List AI), L.length = f → chkA ops r f L = true → (S ++ L).Perm all → ∀ (a : Act) (w : World) (V' : Pend) (β : Nat → Nat), Fr n σ a → (∀ x ∈ S, a.tmps.getD x.d undef = .pointer (some ⟨β x.d, 0, none⟩)) → St w0 (S.map (blkA β) ++ η) w → Match P n ops w V V' →
      wpAnyV P ops Q (ordA L ++ r).length V' (listedOf ops.size (ordA L ++ r)) a w := by
    intro f
    induction f with
    | zero =>
      intro L S hL hc hp a w V' β hf hsl hw hm
      obtain rfl := List.eq_nil_of_length_eq_zero hL
      rw [List.append_nil] at hp
      simp only [chkA, Bool.and_eq_true] at hc
      have hF : Fr n (all.map (slotA β) ++ σ) a := by
        refine ⟨hf.size, hf.defers, fun t c v h => ?_⟩
        rcases look_A h with ⟨x, hx, rfl, rfl, rfl⟩ | h
        · exact hsl x (hp.symm.subset hx)
        · exact hf.known t c v h
      exact k β hs hnp hc.2 a w V' hF (hw.perm ((hp.symm.map _).append_right _)) hm
    | succ f ih =>
      intro L S hL hc hp a w V' β hf hsl hw hm
      have hne : L.isEmpty = false := by cases L with | nil => simp at hL | cons _ _ => rfl
      simp only [chkA, hne, Bool.false_and, Bool.false_or, Bool.and_eq_true, beq_iff_eq, List.all_eq_true] at hc
      obtain ⟨hrdy, hall⟩ := hc
      have hLn : (L.map (·.d)).Nodup := by
        have h1 := (hp.map (·.d)).nodup_iff.2 hnd
        rw [List.map_append] at h1
        exact (List.nodup_append.1 h1).2.1
      have hlen : (ordA L ++ r).length = (ordA (L.drop 1) ++ r).length + 1 := by
        simp only [ordA, List.length_append, List.length_map, List.length_drop]; omega
      rw [hlen]
      refine ⟨fun h => ?_, fun j hj => ?_⟩
      · rw [hrdy] at h
        cases L with
        | nil => simp at hL
        | cons y L => simp at h
      · rw [hrdy] at hj
        obtain ⟨x, hx, rfl⟩ := List.mem_map.1 hj
        obtain ⟨hsame, hc'⟩ := hall x hx
        have hxa : x ∈ all := hp.subset (List.mem_append_right _ hx)
        obtain ⟨o, ho1, hd, hgd, hop, hz, hble⟩ := ho x hxa
        obtain ⟨hfl, hfp⟩ := filter_len hx hLn
        have hg : gdc ops σ o = some true := by unfold gdc; rw [hgd]
        unfold wpOp
        simp only [ho1]
        rw [if_pos (wanted_of_gdc hf hg)]
        refine .inl (ET_alloc hop hz a w hf hw _ _ fun v A' w' ⟨b, hv, hA'⟩ hw' => ?_)
        subst hv hA'
        obtain ⟨h1, h2⟩ := hm.keep (hk x hxa ((b, x.T, x.z.cells.toList) :: S.map (blkA β))) hw'
        rw [hd]
        refine ⟨h1, ?_⟩
        have hlen2 : (ordA (L.drop 1) ++ r).length = (ordA (L.filter fun y => !(y.d == x.d)) ++ r).length := by
          simp only [ordA, List.length_append, List.length_map, List.length_drop]; omega
        rw [hlen2, show (listedOf ops.size (ordA L ++ r)).setIfInBounds x.i true = listedOf ops.size (ordA (L.filter fun y => !(y.d == x.d)) ++ r) from Array.ext' (by simpa [sameB] using hsame)]
        have hxS : ∀ y ∈ S, y.d ≠ x.d := fun y hy e => by
          have h1 := (hp.map (·.d)).nodup_iff.2 hnd
          rw [List.map_append] at h1
          exact (List.nodup_append.1 h1).2.2 _ (List.mem_map_of_mem hy) _ (List.mem_map_of_mem hx) e
        refine ih (L.filter fun y => !(y.d == x.d)) (x :: S) (by omega) hc' ?_ _ w' _ (fun t => if t = x.d then b else β t) ?_ (fun y hy => ?_) ?_ h2
        · exact (List.Perm.trans (by
            have := (hfp.symm.append_left S)
            exact (List.perm_middle.symm.trans this)) hp)
        · have h3 := hf.put (d := x.d) (c := true) (v := .pointer (some ⟨b, 0, none⟩)) (u := .pointer (some ⟨b, 0, none⟩)) hble rfl
          exact h3.weaken fun t c v h => by
            have : t ≠ x.d := fun e => by rw [e, hσ x hxa] at h; cases h
            simp only [look]
            have hb : Nat.beq x.d t = false := by
              cases hb : Nat.beq x.d t with
              | true => exact absurd (Nat.eq_of_beq_eq_true hb).symm this
              | false => rfl
            rw [hb]
            exact h
        · rcases List.mem_cons.1 hy with rfl | hy
          · have h3 := (hf.put (d := y.d) (c := true) (v := .pointer (some ⟨b, 0, none⟩)) (u := .pointer (some ⟨b, 0, none⟩)) hble rfl).known y.d true (.pointer (some ⟨b, 0, none⟩)) (by simp only [look]; rw [Nat.beq_refl]; rfl)
            rw [h3]
            simp
          · have hne := hxS y hy
            have := hsl y hy
            rw [if_neg hne, ← this]
            simp [Act.put, Array.getElem?_setIfInBounds_ne (Ne.symm hne)]
        · have e : (x :: S).map (blkA fun t => if t = x.d then b else β t) = (b, x.T, x.z.cells.toList) :: S.map (blkA β) := by
            rw [List.map_cons]
            congr 1
            · simp [blkA]
            · refine List.map_congr_left fun y hy => ?_
              simp [blkA, hxS y hy]
          rw [e]
          exact hw'
  have hp : ([] ++ all).Perm all := List.Perm.refl all
  exact key all.length all [] rfl hc hp a w V' (fun _ => 0) hf (fun x hx => absurd hx List.not_mem_nil) hA hm
end
/-- the blocks behind others are still there -/
theorem Rd.deep {w0 : World} {η η' : Heap} {sb so : Nat} {cs : List Value} (h : Rd (St w0 η) sb so cs) (hd : ∀ w, St w0 η' w → St w0 η w) : Rd (St w0 η') sb so cs := h.mono hd
end Go.Gx

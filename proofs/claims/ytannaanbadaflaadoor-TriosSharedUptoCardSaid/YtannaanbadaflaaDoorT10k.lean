/- VERTICES BEHIND OTHERS: plain laws. -/
import Derived.Test.YtannaanbadaflaaDoorT10e
namespace Go.Proofs.YtannaanbadaflaaDoor
open Go Go.Gx Go.RowKit
set_option maxRecDepth 100000

theorem strip_fuel : ∀ (f f' : Nat) (rem : List R) (a b c : R) (out : List R), rem.length < f → rem.length < f' → stripF f rem a b c out = stripF f' rem a b c out
  | 0, _, _, _, _, _, _, h, _ => by omega
  | _, 0, _, _, _, _, _, _, h => by omega
  | f + 1, f' + 1, [], a, b, c, out, _, _ => rfl
  | f + 1, f' + 1, x :: v, a, b, c, out, h, h' => by
    simp only [List.length_cons] at h h'
    by_cases h0 : flagR x = 0
    · match v, h, h' with
      | [], _, _ => rw [strip_short h0 (by simp), strip_short h0 (by simp)]
      | [_], _, _ => rw [strip_short h0 (by simp), strip_short h0 (by simp)]
      | y :: z :: w, h, h' =>
        simp only [List.length_cons] at h h'
        rw [strip_long h0, strip_long h0]
        exact strip_fuel f f' w x y z _ (by omega) (by omega)
    · by_cases h1 : flagR x = 1
      · rw [strip_one h1, strip_one h1]; exact strip_fuel f f' v b c x _ (by omega) (by omega)
      · by_cases h2 : flagR x = 2
        · rw [strip_two h2, strip_two h2]; exact strip_fuel f f' v a c x _ (by omega) (by omega)
        · rw [strip_bad h0 h1 h2, strip_bad h0 h1 h2]
/-- what stands in front of the answers stays there -/
theorem strip_acc : ∀ (f : Nat) (rem : List R) (a b c : R) (p out : List R), (stripF f rem a b c out).2 = 0 → stripF f rem a b c (p ++ out) = (p ++ (stripF f rem a b c out).1, 0)
  | 0, _, _, _, _, _, _, _ => rfl
  | f + 1, [], a, b, c, p, out, _ => rfl
  | f + 1, x :: v, a, b, c, p, out, h => by
    by_cases h0 : flagR x = 0
    · match v, h with
      | [], h => rw [strip_short h0 (by simp)] at h; cases h
      | [_], h => rw [strip_short h0 (by simp)] at h; cases h
      | y :: z :: w, h =>
        rw [strip_long h0] at h ⊢
        rw [strip_long h0, List.append_assoc]
        exact strip_acc f w x y z p _ h
    · by_cases h1 : flagR x = 1
      · rw [strip_one h1] at h ⊢
        rw [strip_one h1, List.append_assoc]
        exact strip_acc f v b c x p _ h
      · by_cases h2 : flagR x = 2
        · rw [strip_two h2] at h ⊢
          rw [strip_two h2, List.append_assoc]
          exact strip_acc f v a c x p _ h
        · rw [strip_bad h0 h1 h2] at h; cases h
/-- vertices behind: on from where the ones ahead end -/
theorem strip_on : ∀ (f : Nat) (rem qs : List R) (a b c : R) (out : List R), rem.length < f → (stripF f rem a b c out).2 = 0 → ∃ a' b' c', ∀ g, (rem ++ qs).length < g → ∃ g', qs.length < g' ∧ stripF g (rem ++ qs) a b c out = stripF g' qs a' b' c' (stripF f rem a b c out).1
  | 0, _, _, _, _, _, _, h, _ => by omega
  | f + 1, [], qs, a, b, c, out, _, _ => ⟨a, b, c, fun g hg => ⟨g, by simpa using hg, rfl⟩⟩
  | f + 1, x :: v, qs, a, b, c, out, hf, h => by
    simp only [List.length_cons] at hf
    by_cases h0 : flagR x = 0
    · match v, h, hf with
      | [], h, _ => rw [strip_short h0 (by simp)] at h; cases h
      | [_], h, _ => rw [strip_short h0 (by simp)] at h; cases h
      | y :: z :: w, h, hf =>
        simp only [List.length_cons] at hf
        rw [strip_long h0] at h ⊢
        obtain ⟨a', b', c', k⟩ := strip_on f w qs x y z _ (by omega) h
        refine ⟨a', b', c', fun g hg => ?_⟩
        simp only [List.length_append, List.length_cons] at hg
        obtain ⟨g, rfl⟩ : ∃ g0, g = g0 + 1 := ⟨g - 1, by omega⟩
        rw [List.cons_append, List.cons_append, List.cons_append, strip_long h0]
        exact k g (by simp only [List.length_append]; omega)
    · by_cases h1 : flagR x = 1
      · rw [strip_one h1] at h ⊢
        obtain ⟨a', b', c', k⟩ := strip_on f v qs b c x _ (by omega) h
        refine ⟨a', b', c', fun g hg => ?_⟩
        simp only [List.length_append, List.length_cons] at hg
        obtain ⟨g, rfl⟩ : ∃ g0, g = g0 + 1 := ⟨g - 1, by omega⟩
        rw [List.cons_append, strip_one h1]
        exact k g (by simp only [List.length_append]; omega)
      · by_cases h2 : flagR x = 2
        · rw [strip_two h2] at h ⊢
          obtain ⟨a', b', c', k⟩ := strip_on f v qs a c x _ (by omega) h
          refine ⟨a', b', c', fun g hg => ?_⟩
          simp only [List.length_append, List.length_cons] at hg
          obtain ⟨g, rfl⟩ : ∃ g0, g = g0 + 1 := ⟨g - 1, by omega⟩
          rw [List.cons_append, strip_two h2]
          exact k g (by simp only [List.length_append]; omega)
        · rw [strip_bad h0 h1 h2] at h; cases h
/-- a flag that may not be: vertices behind turn nothing -/
theorem strip_seven : ∀ (f g : Nat) (rem qs : List R) (a b c : R) (out : List R), rem.length < f → (rem ++ qs).length < g → (stripF f rem a b c out).2 = 7 → stripF g (rem ++ qs) a b c out = ([], 7)
  | 0, _, _, _, _, _, _, _, h, _, _ => by omega
  | f + 1, _, [], qs, a, b, c, out, _, _, h => by simp [stripF] at h
  | _, 0, _, _, _, _, _, _, _, h, _ => by omega
  | f + 1, g + 1, x :: v, qs, a, b, c, out, hf, hg, h => by
    simp only [List.length_cons, List.length_append, List.cons_append] at hf hg
    rw [List.cons_append]
    by_cases h0 : flagR x = 0
    · match v, h, hf, hg with
      | [], h, _, _ => rw [strip_short h0 (by simp)] at h; cases h
      | [_], h, _, _ => rw [strip_short h0 (by simp)] at h; cases h
      | y :: z :: w, h, hf, hg =>
        simp only [List.length_cons] at hf hg
        rw [strip_long h0] at h
        rw [List.cons_append, List.cons_append, strip_long h0]
        exact strip_seven f g w qs x y z _ (by omega) (by simp only [List.length_append]; omega) h
    · by_cases h1 : flagR x = 1
      · rw [strip_one h1] at h ⊢
        exact strip_seven f g v qs b c x _ (by omega) (by simp only [List.length_append]; omega) h
      · by_cases h2 : flagR x = 2
        · rw [strip_two h2] at h ⊢
          exact strip_seven f g v qs a c x _ (by omega) (by simp only [List.length_append]; omega) h
        · rw [strip_bad h0 h1 h2]
theorem strip_new {f : Nat} {qs : List R} {a b c a' b' c' : R} {out : List R} (h : ¬headBad qs) : stripF f qs a b c out = stripF f qs a' b' c' out := by
  match f, qs, h with
  | 0, _, _ => rfl
  | f + 1, [], _ => rfl
  | f + 1, x :: v, h =>
    have h0 : flagR x = 0 := Classical.byContradiction fun hn => h hn
    match v with
    | [] => rw [strip_short h0 (by simp), strip_short h0 (by simp)]
    | [_] => rw [strip_short h0 (by simp), strip_short h0 (by simp)]
    | y :: z :: w => rw [strip_long h0, strip_long h0]
theorem strip_errs : ∀ (f : Nat) (rem : List R) (a b c : R) (out : List R), (stripF f rem a b c out).2 = 0 ∨ stripF f rem a b c out = ([], 5) ∨ stripF f rem a b c out = ([], 7)
  | 0, _, _, _, _, _ => .inl rfl
  | f + 1, [], a, b, c, out => .inl rfl
  | f + 1, x :: v, a, b, c, out => by
    by_cases h0 : flagR x = 0
    · match v with
      | [] => rw [strip_short h0 (by simp)]; exact .inr (.inl rfl)
      | [_] => rw [strip_short h0 (by simp)]; exact .inr (.inl rfl)
      | y :: z :: w => rw [strip_long h0]; exact strip_errs f w x y z _
    · by_cases h1 : flagR x = 1
      · rw [strip_one h1]; exact strip_errs f v b c x _
      · by_cases h2 : flagR x = 2
        · rw [strip_two h2]; exact strip_errs f v a c x _
        · rw [strip_bad h0 h1 h2]; exact .inr (.inr rfl)
theorem headBad_append {rs qs : List R} (h : headBad rs) : headBad (rs ++ qs) := by
  cases rs with
  | nil => exact absurd h id
  | cons x v => exact h
theorem join4 {L : Lay} {rs qs : List R} (hk : okB L = true) (h4 : L.ty = 4) (he : (trioF L rs).2 = 0) (hf : (trioF L qs).2 = 0) : trioF L (rs ++ qs) = ((trioF L rs).1 ++ (trioF L qs).1, 0) := by
  have hnr : ¬headBad rs := fun h => by rw [trio6 hk h4 h] at he; cases he
  have hnq : ¬headBad qs := fun h => by rw [trio6 hk h4 h] at hf; cases hf
  have hn : ¬headBad (rs ++ qs) := by
    cases rs with
    | nil => exact hnq
    | cons x v => exact hnr
  rw [trioS hk h4 hnr] at he ⊢
  rw [trioS hk h4 hnq] at hf ⊢
  rw [trioS hk h4 hn]
  obtain ⟨a', b', c', k⟩ := strip_on (rs.length + 1) rs qs zR zR zR [] (Nat.lt_succ_self _) he
  obtain ⟨g', hg, e⟩ := k ((rs ++ qs).length + 1) (Nat.lt_succ_self _)
  have e2 : strips (rs ++ qs) = stripF g' qs a' b' c' (strips rs).1 := e
  rw [e2, strip_new (a' := zR) (b' := zR) (c' := zR) hnq, strip_fuel g' (qs.length + 1) qs zR zR zR _ hg (Nat.lt_succ_self _)]
  have := strip_acc (qs.length + 1) qs zR zR zR (strips rs).1 [] hf
  rw [List.append_nil] at this
  exact this
theorem joinErr {L : Lay} {rs : List R} (qs : List R) (h4 : L.ty = 4) (h0 : (trioF L rs).2 ≠ 0) (h5 : (trioF L rs).2 ≠ 5) : (trioF L (rs ++ qs)).2 = (trioF L rs).2 := by
  by_cases hk : okB L = true
  · by_cases hb : headBad rs
    · rw [trio6 hk h4 hb, trio6 hk h4 (headBad_append hb)]
    · rw [trioS hk h4 hb] at h0 h5 ⊢
      have h7 : strips rs = ([], 7) := by
        rcases strip_errs (rs.length + 1) rs zR zR zR [] with h | h | h
        · exact absurd h h0
        · exact absurd (congrArg Prod.snd h) h5
        · exact h
      have hn : ¬headBad (rs ++ qs) := by
        cases rs with
        | nil => cases h7
        | cons x v => exact hb
      rw [trioS hk h4 hn, h7]
      exact congrArg Prod.snd (strip_seven (rs.length + 1) _ rs qs zR zR zR [] (Nat.lt_succ_self _) (Nat.lt_succ_self _) (congrArg Prod.snd h7))
  · rw [trio4 (fun h => hk h.1), trio4 (fun h => hk h.1)]
theorem outT_add (rs : List R) (row m : Nat) : ∀ k, outT rs row (m + k) = outT rs row m ++ (List.range k).flatMap fun j => cellF rs row (m + j)
  | 0 => by simp [outT]
  | k + 1 => by
    rw [← Nat.add_assoc, outT_succ, outT_add rs row m k, List.range_succ, List.flatMap_append, List.append_assoc]
    simp
theorem at7_app {rs qs : List R} {i : Nat} (h : i < rs.length) : at7 (rs ++ qs) i = at7 rs i := by
  rw [at7, at7, List.getD_eq_getElem?_getD, List.getD_eq_getElem?_getD, List.getElem?_append_left h]
theorem at7_app2 {rs qs : List R} {i : Nat} : at7 (rs ++ qs) (rs.length + i) = at7 qs i := by
  rw [at7, at7, List.getD_eq_getElem?_getD, List.getD_eq_getElem?_getD, List.getElem?_append_right (Nat.le_add_right _ _), Nat.add_sub_cancel_left]
theorem flatMap_congr' {α β : Type} {f g : α → List β} : ∀ {l : List α}, (∀ x ∈ l, f x = g x) → l.flatMap f = l.flatMap g
  | [], _ => rfl
  | x :: l, h => by rw [List.flatMap_cons, List.flatMap_cons, h x (List.mem_cons_self ..), flatMap_congr' fun y hy => h y (List.mem_cons_of_mem _ hy)]
theorem in_row {n row i : Nat} (h0 : n % row = 0) (h2 : row ≤ n) (hi : i < n - row) (hr : 0 < row) (hne : ¬i % row = row - 1) : i + row + 1 < n := by
  refine Nat.lt_of_le_of_ne (by omega) fun e => hne ?_
  have e1 : i = n - row - 1 := by omega
  obtain ⟨q, hq⟩ := Nat.dvd_of_mod_eq_zero h0
  have hq1 : 1 ≤ q := by
    rcases Nat.eq_zero_or_pos q with h | h
    · subst h; omega
    · exact h
  have hq2 : q ≠ 1 := fun h => by subst h; omega
  obtain ⟨q', rfl⟩ : ∃ q', q = q' + 2 := ⟨q - 2, by omega⟩
  rw [e1, hq, Nat.mul_add, show row * q' + row * 2 - row - 1 = row - 1 + row * q' by omega, Nat.add_mul_mod_self_left, Nat.mod_eq_of_lt (by omega)]
theorem mid_len (rs : List R) {row m : Nat} (hm : m % row = 0) : ∀ k, k + 1 ≤ row → ((List.range k).flatMap fun j => cellF rs row (m + j)).length = 2 * k
  | 0, _ => by simp
  | k + 1, h => by
    rw [List.range_succ, List.flatMap_append, List.length_append, mid_len rs hm k (by omega)]
    have : cellF rs row (m + k) ≠ [] ∧ (cellF rs row (m + k)).length = 2 := by
      rw [cellF, if_neg (by rw [Nat.add_mod, hm, Nat.zero_add, Nat.mod_mod, Nat.mod_eq_of_lt (by omega)]; omega)]
      exact ⟨by simp, rfl⟩
    simp [this.2]; omega
theorem join5 {L : Lay} {rs qs : List R} (hk : okB L = true) (h5 : L.ty = 5) (he : (trioF L rs).2 = 0) (hf : (trioF L qs).2 = 0) : ∃ mid, trioF L (rs ++ qs) = ((trioF L rs).1 ++ (mid ++ (trioF L qs).1), 0) ∧ mid.length = 2 * (L.ro.toNat - 1) ∧ 2 * L.ro.toNat ≤ rs.length := by
  have hro := (okB_bounds hk).2.2.2.2.1 h5
  rw [trio5 hk h5] at he hf ⊢
  rw [trio5 hk h5, trio5 hk h5]
  obtain ⟨row, hrow⟩ : ∃ row, row = L.ro.toNat := ⟨_, rfl⟩
  rw [← hrow] at he hf ⊢
  have hr2 : 2 ≤ row := by omega
  have h1 : rs.length % row = 0 ∧ 2 ≤ rs.length / row := Classical.byContradiction fun h => by rw [rowsF, if_neg h] at he; cases he
  have h2 : qs.length % row = 0 ∧ 2 ≤ qs.length / row := Classical.byContradiction fun h => by rw [rowsF, if_neg h] at hf; cases hf
  obtain ⟨n1, n2⟩ := two_rows h1.1 h1.2
  obtain ⟨m1, m2⟩ := two_rows h2.1 h2.2
  have h3 : (rs ++ qs).length % row = 0 ∧ 2 ≤ (rs ++ qs).length / row := by
    rw [List.length_append]
    refine ⟨by rw [Nat.add_mod, h1.1, h2.1]; simp, ?_⟩
    rw [Nat.le_div_iff_mul_le (by omega)]
    omega
  rw [rowsF, if_pos h3, rowsF, if_pos h1, rowsF, if_pos h2]
  refine ⟨(List.range row).flatMap fun j => cellF (rs ++ qs) row (rs.length - row + j), ?_, ?_, n1⟩
  · have e1 : (rs ++ qs).length - row = (rs.length - row + row) + (qs.length - row) := by rw [List.length_append]; omega
    rw [e1, outT_add, outT_add, List.append_assoc]
    have a1 : outT (rs ++ qs) row (rs.length - row) = outT rs row (rs.length - row) := by
      refine flatMap_congr' fun i hi => ?_
      have hi := List.mem_range.1 hi
      unfold cellF
      by_cases hc : i % row = row - 1
      · rw [if_pos hc, if_pos hc]
      · have h4 := in_row h1.1 (by omega) hi (by omega) hc
        rw [if_neg hc, if_neg hc, at7_app (by omega), at7_app (by omega), at7_app (by omega), at7_app (by omega)]
    have a2 : ((List.range (qs.length - row)).flatMap fun j => cellF (rs ++ qs) row (rs.length - row + row + j)) = outT qs row (qs.length - row) := by
      refine flatMap_congr' fun i hi => ?_
      rw [show rs.length - row + row + i = rs.length + i by omega]
      unfold cellF
      rw [Nat.add_mod, h1.1, Nat.zero_add, Nat.mod_mod, Nat.add_assoc, Nat.add_assoc, at7_app2, at7_app2, at7_app2, show rs.length + (i + row) + 1 = rs.length + (i + row + 1) by omega, at7_app2]
    rw [a1, a2]
  · obtain ⟨k, rfl⟩ : ∃ k, row = k + 1 := ⟨row - 1, by omega⟩
    have hm0 : (rs.length - (k + 1)) % (k + 1) = 0 := by
      obtain ⟨q, hq⟩ := Nat.dvd_of_mod_eq_zero h1.1
      rw [hq]
      have : 1 ≤ q := by
        rcases Nat.eq_zero_or_pos q with h | h
        · subst h; omega
        · exact h
      obtain ⟨q', rfl⟩ : ∃ q', q = q' + 1 := ⟨q - 1, by omega⟩
      rw [Nat.mul_add, Nat.mul_one, Nat.add_sub_cancel]
      exact Nat.mul_mod_right _ _
    rw [List.range_succ, List.flatMap_append, List.length_append, mid_len _ hm0 k (by omega)]
    have : cellF (rs ++ qs) (k + 1) (rs.length - (k + 1) + k) = [] := by
      rw [cellF, if_pos (by rw [Nat.add_mod, hm0, Nat.zero_add, Nat.mod_mod, Nat.mod_eq_of_lt (by omega)]; omega)]
    simp [this]
end Go.Proofs.YtannaanbadaflaaDoor

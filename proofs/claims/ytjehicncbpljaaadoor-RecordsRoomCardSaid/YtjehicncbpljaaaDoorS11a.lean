/- NUMBERS GOING THROUGH A HAND, one behind the other: what a reader reads, what a layer lays. Plain. -/
import Derived.Test.YtjehicncbpljaaaDoorP06e
namespace Go.Proofs.YtjehicncbpljaaaDoor
open Go Go.Gx
abbrev Ws := List (Nat × Nat)
def run {S : Type} (go : S → Nat → Nat → Nat × S) : Ws → List Nat → S → List Nat × S
  | (w, m) :: ws, x :: xs, s => ((go s x w).1 % m :: (run go ws xs (go s x w).2).1, (run go ws xs (go s x w).2).2)
  | _, _, s => ([], s)
section
variable {S : Type} {go : S → Nat → Nat → Nat × S}
theorem run_len : ∀ {ws : Ws} {xs : List Nat} {s : S}, ws.length = xs.length → (run go ws xs s).1.length = xs.length
  | [], [], _, _ => rfl
  | [], _ :: _, _, h => by simp at h
  | _ :: _, [], _, h => by simp at h
  | (w, m) :: ws, x :: xs, s, h => by
    simp only [run, List.length_cons]
    rw [run_len (by simpa using h)]
theorem run_append : ∀ {a b : Ws} {xs ys : List Nat} {s : S}, a.length = xs.length → run go (a ++ b) (xs ++ ys) s = ((run go a xs s).1 ++ (run go b ys (run go a xs s).2).1, (run go b ys (run go a xs s).2).2)
  | [], b, [], ys, s, _ => rfl
  | [], _, _ :: _, _, _, h => by simp at h
  | _ :: _, _, [], _, _, h => by simp at h
  | (w, m) :: a, b, x :: xs, ys, s, h => by
    simp only [List.cons_append, run]
    rw [run_append (by simpa using h)]
theorem run_step {ws : Ws} {xs : List Nat} {s : S} {k w m x : Nat} (hw : ws[k]? = some (w, m)) (hx : xs[k]? = some x) :
    run go (ws.take (k + 1)) (xs.take (k + 1)) s = ((run go (ws.take k) (xs.take k) s).1 ++ [(go (run go (ws.take k) (xs.take k) s).2 x w).1 % m], (go (run go (ws.take k) (xs.take k) s).2 x w).2) := by
  have h1 : k < ws.length := (List.getElem?_eq_some_iff.1 hw).1
  have h2 : k < xs.length := (List.getElem?_eq_some_iff.1 hx).1
  rw [List.take_add_one, List.take_add_one, hw, hx]
  show run go (ws.take k ++ [(w, m)]) (xs.take k ++ [x]) s = _
  rw [run_append (by rw [List.length_take, List.length_take]; omega)]
  rfl
end
def tot (ws : Ws) : Nat := (ws.map (·.1)).sum
theorem tot_cons (p : Nat × Nat) (ws : Ws) : tot (p :: ws) = p.1 + tot ws := by simp [tot]
theorem tot_append (a b : Ws) : tot (a ++ b) = tot a + tot b := by simp [tot]
def dec : Ws → List Bool → List Nat
  | [], _ => []
  | (w, m) :: r, l => num (l.take w) % m :: dec r (l.drop w)
def enc : Ws → List Nat → List Bool
  | (w, _) :: r, x :: xs => bitsN w x ++ enc r xs
  | _, _ => []
def fitB : Ws → List Nat → Bool
  | (w, _) :: r, x :: xs => decide (x < 2 ^ w) && fitB r xs
  | _, _ => true
/-- each number is below its kind's end -/
def Und : Ws → List Nat → Prop
  | (_, m) :: r, x :: xs => x < m ∧ Und r xs
  | [], [] => True
  | _, _ => False
theorem Und.len : ∀ {ws : Ws} {xs : List Nat}, Und ws xs → ws.length = xs.length
  | [], [], _ => rfl
  | [], _ :: _, h => h.elim
  | _ :: _, [], h => h.elim
  | (_, _) :: r, x :: xs, h => by rw [List.length_cons, List.length_cons, Und.len h.2]
theorem dec_len : ∀ (ws : Ws) (l : List Bool), (dec ws l).length = ws.length
  | [], _ => rfl
  | (w, m) :: r, l => by simp [dec, dec_len r]
theorem enc_len : ∀ {ws : Ws} {xs : List Nat}, ws.length = xs.length → (enc ws xs).length = tot ws
  | [], [], _ => rfl
  | [], _ :: _, h => by simp at h
  | _ :: _, [], h => by simp at h
  | (w, m) :: r, x :: xs, h => by
    rw [enc, List.length_append, bitsN_len, enc_len (by simpa using h), tot_cons]
theorem dec_enc : ∀ {ws : Ws} {xs : List Nat} (rest : List Bool), Und ws xs → fitB ws xs = true → dec ws (enc ws xs ++ rest) = xs
  | [], [], _, _, _ => rfl
  | [], _ :: _, _, h, _ => h.elim
  | _ :: _, [], _, h, _ => h.elim
  | (w, m) :: r, x :: xs, rest, h, hf => by
    simp only [fitB, Bool.and_eq_true, decide_eq_true_eq] at hf
    have e1 : (enc ((w, m) :: r) (x :: xs) ++ rest).take w = bitsN w x := by
      rw [enc, List.append_assoc, List.take_append_of_le_length (by rw [bitsN_len]; exact Nat.le_refl _), List.take_of_length_le (by rw [bitsN_len]; exact Nat.le_refl _)]
    have e2 : (enc ((w, m) :: r) (x :: xs) ++ rest).drop w = enc r xs ++ rest := by
      rw [enc, List.append_assoc]
      have := List.drop_left (l₁ := bitsN w x) (l₂ := enc r xs ++ rest)
      rwa [bitsN_len] at this
    rw [dec, e1, e2, dec_enc rest h.2 hf.2, num_bitsN, Nat.mod_eq_of_lt hf.1, Nat.mod_eq_of_lt h.1]
theorem enc_dec : ∀ {ws : Ws} {l : List Bool}, (∀ p ∈ ws, 2 ^ p.1 ≤ p.2) → tot ws ≤ l.length → enc ws (dec ws l) = l.take (tot ws)
  | [], l, _, _ => by simp [enc, dec, tot]
  | (w, m) :: r, l, hm, hl => by
    rw [tot_cons] at hl ⊢
    have hl' : w + tot r ≤ l.length := hl
    have h1 : (l.take w).length = w := by rw [List.length_take]; omega
    have h2 := num_lt (l.take w)
    rw [h1] at h2
    have h3 := hm _ (List.mem_cons_self ..)
    rw [dec, enc, Nat.mod_eq_of_lt (Nat.lt_of_lt_of_le h2 h3), enc_dec (fun p hp => hm p (List.mem_cons_of_mem _ hp)) (by rw [List.length_drop]; omega)]
    have h4 := bitsN_num (l.take w)
    rw [h1] at h4
    rw [h4, List.take_add]
theorem dec_fit : ∀ (ws : Ws) (l : List Bool), fitB ws (dec ws l) = true
  | [], _ => rfl
  | (w, m) :: r, l => by
    have h1 : num (l.take w) < 2 ^ w := Nat.lt_of_lt_of_le (num_lt _) (Nat.pow_le_pow_right (by decide) (by rw [List.length_take]; omega))
    rw [dec, fitB, dec_fit r]
    simp [Nat.lt_of_le_of_lt (Nat.mod_le _ _) h1]
theorem dec_und : ∀ {ws : Ws} (l : List Bool), (∀ p ∈ ws, 0 < p.2) → Und ws (dec ws l)
  | [], _, _ => trivial
  | (w, m) :: r, l, h => ⟨Nat.mod_lt _ (h _ (List.mem_cons_self ..)), dec_und _ fun p hp => h p (List.mem_cons_of_mem _ hp)⟩
/-- of more bits the first ones alone count -/
theorem dec_take : ∀ {ws : Ws} {l : List Bool} {k : Nat}, tot ws ≤ k → dec ws (l.take k) = dec ws l
  | [], _, _, _ => rfl
  | (w, m) :: r, l, k, h => by
    rw [tot_cons] at h
    have h' : w + tot r ≤ k := h
    rw [dec, dec, List.take_take, Nat.min_eq_left (by omega), List.drop_take, dec_take (by omega)]

/-! a reader -/
def goR (bs : List Nat) (s : Nat × Int) (v w : Nat) : Nat × (Nat × Int) :=
  if s.2 = 0 then (getV bs s.1 w, (s.1 + w, getE bs.length s.1 w)) else (v, (s.1 + w, s.2))
theorem getE_ok {len p n : Nat} (hn : n ≤ 32) (h : p + n ≤ 8 * len) : getE len p n = 0 := by
  unfold getE; rw [if_neg (by omega), if_neg (by omega)]
theorem getE_bad {len p n : Nat} (hn : n ≤ 32) (h : 8 * len < p + n) : getE len p n = 5 := by
  unfold getE; rw [if_neg (by omega), if_pos (by omega)]
theorem getV_ok {bs : List Nat} {p n : Nat} (hn : n ≤ 32) (h : p + n ≤ 8 * bs.length) : getV bs p n = num (((byB bs).drop p).take n) := by
  unfold getV; rw [if_pos (getE_ok hn h), Int.toNat_natCast, Int.toNat_natCast]
theorem goR_ok {bs : List Nat} {a v w : Nat} (hw : w ≤ 32) (h : a + w ≤ 8 * bs.length) : goR bs (a, 0) v w = (num (((byB bs).drop a).take w), (a + w, 0)) := by
  unfold goR; rw [if_pos rfl, getV_ok hw h, getE_ok hw h]
theorem run_goR_ok {bs : List Nat} : ∀ {ws : Ws} {xs : List Nat} {a : Nat}, (∀ p ∈ ws, p.1 ≤ 32) → a + tot ws ≤ 8 * bs.length → ws.length = xs.length → run (goR bs) ws xs (a, 0) = (dec ws ((byB bs).drop a), (a + tot ws, 0))
  | [], [], _, _, _, _ => rfl
  | [], _ :: _, _, _, _, h => by simp at h
  | _ :: _, [], _, _, _, h => by simp at h
  | (w, m) :: r, x :: xs, a, hw, hl, hx => by
    rw [tot_cons] at hl ⊢
    have hl' : a + (w + tot r) ≤ 8 * bs.length := hl
    rw [run, goR_ok (hw _ (List.mem_cons_self ..)) (by omega)]
    dsimp only
    rw [run_goR_ok (fun p hp => hw p (List.mem_cons_of_mem _ hp)) (by omega) (by simpa using hx), dec, List.drop_drop, Nat.add_assoc]
theorem run_goR_err {bs : List Nat} : ∀ {ws : Ws} {xs : List Nat} {s : Nat × Int}, s.2 ≠ 0 → (run (goR bs) ws xs s).2.2 ≠ 0
  | [], [], _, h => h
  | [], _ :: _, _, h => h
  | _ :: _, [], _, h => h
  | (w, m) :: r, x :: xs, s, h => by
    rw [run]
    exact run_goR_err (by unfold goR; rw [if_neg h]; exact h)
theorem run_goR_bad {bs : List Nat} : ∀ {ws : Ws} {xs : List Nat} {a : Nat}, (∀ p ∈ ws, p.1 ≤ 32) → a ≤ 8 * bs.length → 8 * bs.length < a + tot ws → ws.length = xs.length → (run (goR bs) ws xs (a, 0)).2.2 ≠ 0
  | [], [], a, _, h1, h2, _ => by simp [tot] at h2; omega
  | [], _ :: _, _, _, _, _, h => by simp at h
  | _ :: _, [], _, _, _, _, h => by simp at h
  | (w, m) :: r, x :: xs, a, hw, h1, h2, hx => by
    rw [tot_cons] at h2
    have h2' : 8 * bs.length < a + (w + tot r) := h2
    have hw0 : w ≤ 32 := hw _ (List.mem_cons_self ..)
    rw [run]
    by_cases hc : a + w ≤ 8 * bs.length
    · rw [goR_ok hw0 hc]
      exact run_goR_bad (fun p hp => hw p (List.mem_cons_of_mem _ hp)) hc (by omega) (by simpa using hx)
    · refine run_goR_err ?_
      unfold goR
      rw [if_pos rfl]
      show getE bs.length _ _ ≠ 0
      rw [getE_bad hw0 (by omega)]; decide

/-! a layer -/
def goL (s : List Bool × Int) (v w : Nat) : Nat × (List Bool × Int) := (v, if s.2 = 0 then (putL s.1 v w, putE s.1.length v w) else s)
theorem putE_zero {len v n : Nat} (hn : n ≤ 32) (hv : v < 2 ^ n) (h : len + n ≤ 524288) : putE len v n = 0 := by
  have h0 : v / 2 ^ n = 0 := Nat.div_eq_of_lt hv
  unfold putE; rw [if_neg (by rw [Int.toNat_natCast, h0]; omega), if_neg (by omega)]
theorem putE_one {len v n : Nat} (hv : ¬ v < 2 ^ n) : putE len v n = 1 := by
  have h0 : 0 < v / 2 ^ n := Nat.div_pos (by omega) (Nat.two_pow_pos n)
  unfold putE; rw [if_pos (by rw [Int.toNat_natCast]; exact .inr (.inr h0))]
theorem goL_ok {l : List Bool} {v w : Nat} (hw : w ≤ 32) (hv : v < 2 ^ w) (h : l.length + w ≤ 524288) : goL (l, 0) v w = (v, (l ++ bitsN w v, 0)) := by
  have e := putE_zero hw hv h
  unfold goL putL
  rw [if_pos rfl, e, if_pos rfl, Int.toNat_natCast]
theorem run_goL_vals : ∀ {ws : Ws} {xs : List Nat} {s : List Bool × Int}, Und ws xs → (run goL ws xs s).1 = xs
  | [], [], _, _ => rfl
  | [], _ :: _, _, h => h.elim
  | _ :: _, [], _, h => h.elim
  | (w, m) :: r, x :: xs, s, h => by
    rw [run, run_goL_vals h.2]
    show x % m :: xs = _
    rw [Nat.mod_eq_of_lt h.1]
theorem run_goL_err : ∀ {ws : Ws} {xs : List Nat} {s : List Bool × Int}, s.2 ≠ 0 → (run goL ws xs s).2 = s
  | [], [], _, _ => rfl
  | [], _ :: _, _, _ => rfl
  | _ :: _, [], _, _ => rfl
  | (w, m) :: r, x :: xs, s, h => by
    rw [run]
    have e : (goL s x w).2 = s := by unfold goL; rw [if_neg h]
    rw [e]
    exact run_goL_err h
theorem run_goL_ok : ∀ {ws : Ws} {xs : List Nat} {l : List Bool}, (∀ p ∈ ws, p.1 ≤ 32) → l.length + tot ws ≤ 524288 → ws.length = xs.length → fitB ws xs = true → (run goL ws xs (l, 0)).2 = (l ++ enc ws xs, 0)
  | [], [], l, _, _, _, _ => by simp [run, enc]
  | [], _ :: _, _, _, _, h, _ => by simp at h
  | _ :: _, [], _, _, _, h, _ => by simp at h
  | (w, m) :: r, x :: xs, l, hw, hl, hx, hf => by
    rw [tot_cons] at hl
    have hl' : l.length + (w + tot r) ≤ 524288 := hl
    simp only [fitB, Bool.and_eq_true, decide_eq_true_eq] at hf
    rw [run, goL_ok (hw _ (List.mem_cons_self ..)) hf.1 (by omega)]
    dsimp only
    rw [run_goL_ok (fun p hp => hw p (List.mem_cons_of_mem _ hp)) (by rw [List.length_append, bitsN_len]; omega) (by simpa using hx) hf.2, enc, List.append_assoc]
theorem run_goL_bad : ∀ {ws : Ws} {xs : List Nat} {l : List Bool}, (∀ p ∈ ws, p.1 ≤ 32) → l.length + tot ws ≤ 524288 → ws.length = xs.length → fitB ws xs = false → (run goL ws xs (l, 0)).2.2 = 1
  | [], [], l, _, _, _, h => by simp [fitB] at h
  | [], _ :: _, _, _, _, h, _ => by simp at h
  | _ :: _, [], _, _, _, h, _ => by simp at h
  | (w, m) :: r, x :: xs, l, hw, hl, hx, hf => by
    rw [tot_cons] at hl
    have hl' : l.length + (w + tot r) ≤ 524288 := hl
    rw [run]
    by_cases hc : x < 2 ^ w
    · rw [goL_ok (hw _ (List.mem_cons_self ..)) hc (by omega)]
      have hf' : fitB r xs = false := by rw [fitB] at hf; simpa [hc] using hf
      exact run_goL_bad (fun p hp => hw p (List.mem_cons_of_mem _ hp)) (by rw [List.length_append, bitsN_len]; omega) (by simpa using hx) hf'
    · have e : (goL (l, 0) x w).2 = (putL l x w, 1) := by
        unfold goL; rw [if_pos rfl, putE_one hc]
      rw [e, run_goL_err (show (1 : Int) ≠ 0 by decide)]

/-! bits in whole bytes -/
def packF : Nat → List Bool → List Nat
  | 0, _ => []
  | k + 1, l => num ((l ++ List.replicate (8 - l.length) false).take 8) :: packF k (l.drop 8)
def packB (l : List Bool) : List Nat := packF ((l.length + 7) / 8) l
theorem packF_len : ∀ (k : Nat) (l : List Bool), (packF k l).length = k
  | 0, _ => rfl
  | k + 1, l => by rw [packF, List.length_cons, packF_len k]
theorem packB_len (l : List Bool) : (packB l).length = (l.length + 7) / 8 := packF_len _ _
theorem packF_lt : ∀ (k : Nat) (l : List Bool), ∀ c ∈ packF k l, c < 256
  | 0, _, c, h => by simp [packF] at h
  | k + 1, l, c, h => by
    rw [packF, List.mem_cons] at h
    rcases h with rfl | h
    · exact Nat.lt_of_lt_of_le (num_lt _) (Nat.pow_le_pow_right (by decide) (show _ ≤ 8 by rw [List.length_take]; omega))
    · exact packF_lt k _ c h
theorem packB_lt (l : List Bool) : ∀ c ∈ packB l, c < 256 := packF_lt _ _
theorem byB_packF : ∀ (k : Nat) (l : List Bool), l.length ≤ 8 * k → 8 * k < l.length + 8 → byB (packF k l) = l ++ List.replicate (8 * k - l.length) false
  | 0, l, h, _ => by
    obtain rfl : l = [] := List.length_eq_zero_iff.1 (by omega)
    rfl
  | k + 1, l, h1, h2 => by
    have hl : ((l ++ List.replicate (8 - l.length) false).take 8).length = 8 := by simp; omega
    have e8 := bitsN_num ((l ++ List.replicate (8 - l.length) false).take 8)
    rw [hl] at e8
    rw [packF, show ∀ (a : Nat) (r : List Nat), byB (a :: r) = bitsN 8 a ++ byB r from fun a r => by simp [byB], e8]
    by_cases hc : 8 ≤ l.length
    · rw [byB_packF k _ (by rw [List.length_drop]; omega) (by rw [List.length_drop]; omega), List.length_drop, show 8 - l.length = 0 by omega, List.replicate_zero, List.append_nil, ← List.append_assoc, List.take_append_drop]
      congr 2; omega
    · obtain rfl : k = 0 := by omega
      rw [show packF 0 (l.drop 8) = [] from rfl, show byB [] = [] from rfl, List.append_nil, List.take_of_length_le (by simp; omega)]
theorem byB_packB (l : List Bool) : byB (packB l) = l ++ List.replicate (8 * ((l.length + 7) / 8) - l.length) false := byB_packF _ _ (by omega) (by omega)
end Go.Proofs.YtjehicncbpljaaaDoor

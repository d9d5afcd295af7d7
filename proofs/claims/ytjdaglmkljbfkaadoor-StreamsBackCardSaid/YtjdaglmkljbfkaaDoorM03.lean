/- THE DOCUMENT's ROW OF BITS: noughts and ones, one behind the other. NUMBERS GOING THROUGH A HAND, one behind the other: what a reader reads, what a layer lays. Plain. ROWS OF BITS: a new one; its bytes; a number put with others' memory about. LISTS OF STRUCTS OF INTEGERS: are two the same; the facts on their types. One text for each kind of list that the seat has. A LIST's COPY WITH MARKS BEHIND IT, and whether it is still as it was. THE BOOK: fill, grow, marked, for each kind of list of structs. THE BOOK: a list more, and whether all are apart. THE BOOK: a list of vertices, of triangles more. THE BOOK: fill, grow, marked, for lists of bytes. THE BOOK: a list of bytes more. RECORDS: their numbers, their bits; records of bytes, bytes of records, by definition. Plain. RECORDS: the check; the fields, and how each is read and set. RECORDS: how a field is read and set; numbers read one behind the other. BYTES OF RECORDS: the walk. RECORDS: slices.Chunk, and the function that it gives. RECORDS OF BYTES: the walk. THE DOCUMENT's RECORDS OF BYTES: the walk. THE DOCUMENT's BYTES OF RECORDS: the walk. THE CHAPTER's EXAMPLES OF RECORDS. THE BOOK: are all its lists apart? Laid by a program of this work. THE LAWS OF THE RECORDS that ask the document's answer. RECORDS CUT DOWN to what a layout has room for; THE LAW: what has room is put, and got as it was; without the last byte it is not. THE LAW: what has room is put, and got as it was; without the last byte it is not. THE LAW: bytes that are got are put as the same, but for what fills each record's last byte. -/
import Derived.Test.YtjdaglmkljbfkaaDoorM02
namespace Go.Proofs.YtjdaglmkljbfkaaDoor
open Go Go.Gx Go.RowKit
set_option maxRecDepth 100000

def bitV (l : List Bool) : List Value := byV (l.map Bool.toNat)
theorem bitV_len (l : List Bool) : (bitV l).length = l.length := by simp [bitV, byV]
theorem bitV_append (a b : List Bool) : bitV (a ++ b) = bitV a ++ bitV b := by simp [bitV, byV]
theorem bitV_at {l : List Bool} {i : Nat} {b : Bool} (h : l[i]? = some b) : (bitV l)[i]? = some (.int .u8 ((b.toNat : Nat) : Int)) := by simp [bitV, byV, h]
theorem take_snoc {l : List Bool} {i : Nat} {b : Bool} (h : l[i]? = some b) : l.take (i + 1) = l.take i ++ [b] := by rw [List.take_add_one, h]; rfl
theorem bits1 (b : Bool) : bitsN 1 b.toNat = [b] := by cases b <;> rfl
end Go.Proofs.YtjdaglmkljbfkaaDoor
namespace Go.Proofs.YtjdaglmkljbfkaaDoor
open Go Go.Gx
abbrev Ws := List (Nat × Nat)
def run {S : Type} (go : S → Nat → Nat → Nat × S) : Ws → List Nat → S → List Nat × S
  | (w, m) :: ws, x :: xs, s => ((go s x w).1 % m :: (run go ws xs (go s x w).2).1, (run go ws xs (go s x w).2).2)
  | _, _, s => ([], s)
section
variable {S : Type} {go : S → Nat → Nat → Nat × S}
theorem run_len : ∀ {ws : Ws} {xs : List Nat} {s : S}, ws.length = xs.length → (run go ws xs s).1.length = xs.length
  | [], [], _, _ => rfl
  | [], _ :: _, _, h => by simp at h
  | _ :: _, [], _, h => by simp at h
  | (w, m) :: ws, x :: xs, s, h => by
    simp only [run, List.length_cons]
    rw [run_len (by simpa using h)]
theorem run_append : ∀ {a b : Ws} {xs ys : List Nat} {s : S}, a.length = xs.length → run go (a ++ b) (xs ++ ys) s = ((run go a xs s).1 ++ (run go b ys (run go a xs s).2).1, (run go b ys (run go a xs s).2).2)
  | [], b, [], ys, s, _ => rfl
  | [], _, _ :: _, _, _, h => by simp at h
  | _ :: _, _, [], _, _, h => by simp at h
  | (w, m) :: a, b, x :: xs, ys, s, h => by
    simp only [List.cons_append, run]
    rw [run_append (by simpa using h)]
theorem run_step {ws : Ws} {xs : List Nat} {s : S} {k w m x : Nat} (hw : ws[k]? = some (w, m)) (hx : xs[k]? = some x) :
    run go (ws.take (k + 1)) (xs.take (k + 1)) s = ((run go (ws.take k) (xs.take k) s).1 ++ [(go (run go (ws.take k) (xs.take k) s).2 x w).1 % m], (go (run go (ws.take k) (xs.take k) s).2 x w).2) := by
  have h1 : k < ws.length := (List.getElem?_eq_some_iff.1 hw).1
  have h2 : k < xs.length := (List.getElem?_eq_some_iff.1 hx).1
  rw [List.take_add_one, List.take_add_one, hw, hx]
  show run go (ws.take k ++ [(w, m)]) (xs.take k ++ [x]) s = _
  rw [run_append (by rw [List.length_take, List.length_take]; omega)]
  rfl
end
def tot (ws : Ws) : Nat := (ws.map (·.1)).sum
theorem tot_cons (p : Nat × Nat) (ws : Ws) : tot (p :: ws) = p.1 + tot ws := by simp [tot]
theorem tot_append (a b : Ws) : tot (a ++ b) = tot a + tot b := by simp [tot]
def dec : Ws → List Bool → List Nat
  | [], _ => []
  | (w, m) :: r, l => num (l.take w) % m :: dec r (l.drop w)
def enc : Ws → List Nat → List Bool
  | (w, _) :: r, x :: xs => bitsN w x ++ enc r xs
  | _, _ => []
def fitB : Ws → List Nat → Bool
  | (w, _) :: r, x :: xs => decide (x < 2 ^ w) && fitB r xs
  | _, _ => true
/-- each number is below its kind's end -/
def Und : Ws → List Nat → Prop
  | (_, m) :: r, x :: xs => x < m ∧ Und r xs
  | [], [] => True
  | _, _ => False
theorem Und.len : ∀ {ws : Ws} {xs : List Nat}, Und ws xs → ws.length = xs.length
  | [], [], _ => rfl
  | [], _ :: _, h => h.elim
  | _ :: _, [], h => h.elim
  | (_, _) :: r, x :: xs, h => by rw [List.length_cons, List.length_cons, Und.len h.2]
theorem dec_len : ∀ (ws : Ws) (l : List Bool), (dec ws l).length = ws.length
  | [], _ => rfl
  | (w, m) :: r, l => by simp [dec, dec_len r]
theorem enc_len : ∀ {ws : Ws} {xs : List Nat}, ws.length = xs.length → (enc ws xs).length = tot ws
  | [], [], _ => rfl
  | [], _ :: _, h => by simp at h
  | _ :: _, [], h => by simp at h
  | (w, m) :: r, x :: xs, h => by
    rw [enc, List.length_append, bitsN_len, enc_len (by simpa using h), tot_cons]
theorem dec_enc : ∀ {ws : Ws} {xs : List Nat} (rest : List Bool), Und ws xs → fitB ws xs = true → dec ws (enc ws xs ++ rest) = xs
  | [], [], _, _, _ => rfl
  | [], _ :: _, _, h, _ => h.elim
  | _ :: _, [], _, h, _ => h.elim
  | (w, m) :: r, x :: xs, rest, h, hf => by
    simp only [fitB, Bool.and_eq_true, decide_eq_true_eq] at hf
    have e1 : (enc ((w, m) :: r) (x :: xs) ++ rest).take w = bitsN w x := by
      rw [enc, List.append_assoc, List.take_append_of_le_length (by rw [bitsN_len]; exact Nat.le_refl _), List.take_of_length_le (by rw [bitsN_len]; exact Nat.le_refl _)]
    have e2 : (enc ((w, m) :: r) (x :: xs) ++ rest).drop w = enc r xs ++ rest := by
      rw [enc, List.append_assoc]
      have := List.drop_left (l₁ := bitsN w x) (l₂ := enc r xs ++ rest)
      rwa [bitsN_len] at this
    rw [dec, e1, e2, dec_enc rest h.2 hf.2, num_bitsN, Nat.mod_eq_of_lt hf.1, Nat.mod_eq_of_lt h.1]
theorem enc_dec : ∀ {ws : Ws} {l : List Bool}, (∀ p ∈ ws, 2 ^ p.1 ≤ p.2) → tot ws ≤ l.length → enc ws (dec ws l) = l.take (tot ws)
  | [], l, _, _ => by simp [enc, dec, tot]
  | (w, m) :: r, l, hm, hl => by
    rw [tot_cons] at hl ⊢
    have hl' : w + tot r ≤ l.length := hl
    have h1 : (l.take w).length = w := by rw [List.length_take]; omega
    have h2 := num_lt (l.take w)
    rw [h1] at h2
    have h3 := hm _ (List.mem_cons_self ..)
    rw [dec, enc, Nat.mod_eq_of_lt (Nat.lt_of_lt_of_le h2 h3), enc_dec (fun p hp => hm p (List.mem_cons_of_mem _ hp)) (by rw [List.length_drop]; omega)]
    have h4 := bitsN_num (l.take w)
    rw [h1] at h4
    rw [h4, List.take_add]
theorem dec_fit : ∀ (ws : Ws) (l : List Bool), fitB ws (dec ws l) = true
  | [], _ => rfl
  | (w, m) :: r, l => by
    have h1 : num (l.take w) < 2 ^ w := Nat.lt_of_lt_of_le (num_lt _) (Nat.pow_le_pow_right (by decide) (by rw [List.length_take]; omega))
    rw [dec, fitB, dec_fit r]
    simp [Nat.lt_of_le_of_lt (Nat.mod_le _ _) h1]
theorem dec_und : ∀ {ws : Ws} (l : List Bool), (∀ p ∈ ws, 0 < p.2) → Und ws (dec ws l)
  | [], _, _ => trivial
  | (w, m) :: r, l, h => ⟨Nat.mod_lt _ (h _ (List.mem_cons_self ..)), dec_und _ fun p hp => h p (List.mem_cons_of_mem _ hp)⟩
/-- of more bits the first ones alone count -/
theorem dec_take : ∀ {ws : Ws} {l : List Bool} {k : Nat}, tot ws ≤ k → dec ws (l.take k) = dec ws l
  | [], _, _, _ => rfl
  | (w, m) :: r, l, k, h => by
    rw [tot_cons] at h
    have h' : w + tot r ≤ k := h
    rw [dec, dec, List.take_take, Nat.min_eq_left (by omega), List.drop_take, dec_take (by omega)]

/-! a reader -/
def goR (bs : List Nat) (s : Nat × Int) (v w : Nat) : Nat × (Nat × Int) :=
  if s.2 = 0 then (getV bs s.1 w, (s.1 + w, getE bs.length s.1 w)) else (v, (s.1 + w, s.2))
theorem getE_ok {len p n : Nat} (hn : n ≤ 32) (h : p + n ≤ 8 * len) : getE len p n = 0 := by
  unfold getE; rw [if_neg (by omega), if_neg (by omega)]
theorem getE_bad {len p n : Nat} (hn : n ≤ 32) (h : 8 * len < p + n) : getE len p n = 5 := by
  unfold getE; rw [if_neg (by omega), if_pos (by omega)]
theorem getV_ok {bs : List Nat} {p n : Nat} (hn : n ≤ 32) (h : p + n ≤ 8 * bs.length) : getV bs p n = num (((byB bs).drop p).take n) := by
  unfold getV; rw [if_pos (getE_ok hn h), Int.toNat_natCast, Int.toNat_natCast]
theorem goR_ok {bs : List Nat} {a v w : Nat} (hw : w ≤ 32) (h : a + w ≤ 8 * bs.length) : goR bs (a, 0) v w = (num (((byB bs).drop a).take w), (a + w, 0)) := by
  unfold goR; rw [if_pos rfl, getV_ok hw h, getE_ok hw h]
theorem run_goR_ok {bs : List Nat} : ∀ {ws : Ws} {xs : List Nat} {a : Nat}, (∀ p ∈ ws, p.1 ≤ 32) → a + tot ws ≤ 8 * bs.length → ws.length = xs.length → run (goR bs) ws xs (a, 0) = (dec ws ((byB bs).drop a), (a + tot ws, 0))
  | [], [], _, _, _, _ => rfl
  | [], _ :: _, _, _, _, h => by simp at h
  | _ :: _, [], _, _, _, h => by simp at h
  | (w, m) :: r, x :: xs, a, hw, hl, hx => by
    rw [tot_cons] at hl ⊢
    have hl' : a + (w + tot r) ≤ 8 * bs.length := hl
    rw [run, goR_ok (hw _ (List.mem_cons_self ..)) (by omega)]
    dsimp only
    rw [run_goR_ok (fun p hp => hw p (List.mem_cons_of_mem _ hp)) (by omega) (by simpa using hx), dec, List.drop_drop, Nat.add_assoc]
theorem run_goR_err {bs : List Nat} : ∀ {ws : Ws} {xs : List Nat} {s : Nat × Int}, s.2 ≠ 0 → (run (goR bs) ws xs s).2.2 ≠ 0
  | [], [], _, h => h
  | [], _ :: _, _, h => h
  | _ :: _, [], _, h => h
  | (w, m) :: r, x :: xs, s, h => by
    rw [run]
    exact run_goR_err (by unfold goR; rw [if_neg h]; exact h)
theorem run_goR_bad {bs : List Nat} : ∀ {ws : Ws} {xs : List Nat} {a : Nat}, (∀ p ∈ ws, p.1 ≤ 32) → a ≤ 8 * bs.length → 8 * bs.length < a + tot ws → ws.length = xs.length → (run (goR bs) ws xs (a, 0)).2.2 ≠ 0
  | [], [], a, _, h1, h2, _ => by simp [tot] at h2; omega
  | [], _ :: _, _, _, _, _, h => by simp at h
  | _ :: _, [], _, _, _, _, h => by simp at h
  | (w, m) :: r, x :: xs, a, hw, h1, h2, hx => by
    rw [tot_cons] at h2
    have h2' : 8 * bs.length < a + (w + tot r) := h2
    have hw0 : w ≤ 32 := hw _ (List.mem_cons_self ..)
    rw [run]
    by_cases hc : a + w ≤ 8 * bs.length
    · rw [goR_ok hw0 hc]
      exact run_goR_bad (fun p hp => hw p (List.mem_cons_of_mem _ hp)) hc (by omega) (by simpa using hx)
    · refine run_goR_err ?_
      unfold goR
      rw [if_pos rfl]
      show getE bs.length _ _ ≠ 0
      rw [getE_bad hw0 (by omega)]; decide

/-! a layer -/
def goL (s : List Bool × Int) (v w : Nat) : Nat × (List Bool × Int) := (v, if s.2 = 0 then (putL s.1 v w, putE s.1.length v w) else s)
theorem putE_zero {len v n : Nat} (hn : n ≤ 32) (hv : v < 2 ^ n) (h : len + n ≤ 524288) : putE len v n = 0 := by
  have h0 : v / 2 ^ n = 0 := Nat.div_eq_of_lt hv
  unfold putE; rw [if_neg (by rw [Int.toNat_natCast, h0]; omega), if_neg (by omega)]
theorem putE_one {len v n : Nat} (hv : ¬ v < 2 ^ n) : putE len v n = 1 := by
  have h0 : 0 < v / 2 ^ n := Nat.div_pos (by omega) (Nat.two_pow_pos n)
  unfold putE; rw [if_pos (by rw [Int.toNat_natCast]; exact .inr (.inr h0))]
theorem goL_ok {l : List Bool} {v w : Nat} (hw : w ≤ 32) (hv : v < 2 ^ w) (h : l.length + w ≤ 524288) : goL (l, 0) v w = (v, (l ++ bitsN w v, 0)) := by
  have e := putE_zero hw hv h
  unfold goL putL
  rw [if_pos rfl, e, if_pos rfl, Int.toNat_natCast]
theorem run_goL_vals : ∀ {ws : Ws} {xs : List Nat} {s : List Bool × Int}, Und ws xs → (run goL ws xs s).1 = xs
  | [], [], _, _ => rfl
  | [], _ :: _, _, h => h.elim
  | _ :: _, [], _, h => h.elim
  | (w, m) :: r, x :: xs, s, h => by
    rw [run, run_goL_vals h.2]
    show x % m :: xs = _
    rw [Nat.mod_eq_of_lt h.1]
theorem run_goL_err : ∀ {ws : Ws} {xs : List Nat} {s : List Bool × Int}, s.2 ≠ 0 → (run goL ws xs s).2 = s
  | [], [], _, _ => rfl
  | [], _ :: _, _, _ => rfl
  | _ :: _, [], _, _ => rfl
  | (w, m) :: r, x :: xs, s, h => by
    rw [run]
    have e : (goL s x w).2 = s := by unfold goL; rw [if_neg h]
    rw [e]
    exact run_goL_err h
theorem run_goL_ok : ∀ {ws : Ws} {xs : List Nat} {l : List Bool}, (∀ p ∈ ws, p.1 ≤ 32) → l.length + tot ws ≤ 524288 → ws.length = xs.length → fitB ws xs = true → (run goL ws xs (l, 0)).2 = (l ++ enc ws xs, 0)
  | [], [], l, _, _, _, _ => by simp [run, enc]
  | [], _ :: _, _, _, _, h, _ => by simp at h
  | _ :: _, [], _, _, _, h, _ => by simp at h
  | (w, m) :: r, x :: xs, l, hw, hl, hx, hf => by
    rw [tot_cons] at hl
    have hl' : l.length + (w + tot r) ≤ 524288 := hl
    simp only [fitB, Bool.and_eq_true, decide_eq_true_eq] at hf
    rw [run, goL_ok (hw _ (List.mem_cons_self ..)) hf.1 (by omega)]
    dsimp only
    rw [run_goL_ok (fun p hp => hw p (List.mem_cons_of_mem _ hp)) (by rw [List.length_append, bitsN_len]; omega) (by simpa using hx) hf.2, enc, List.append_assoc]
theorem run_goL_bad : ∀ {ws : Ws} {xs : List Nat} {l : List Bool}, (∀ p ∈ ws, p.1 ≤ 32) → l.length + tot ws ≤ 524288 → ws.length = xs.length → fitB ws xs = false → (run goL ws xs (l, 0)).2.2 = 1
  | [], [], l, _, _, _, h => by simp [fitB] at h
  | [], _ :: _, _, _, _, h, _ => by simp at h
  | _ :: _, [], _, _, _, h, _ => by simp at h
  | (w, m) :: r, x :: xs, l, hw, hl, hx, hf => by
    rw [tot_cons] at hl
    have hl' : l.length + (w + tot r) ≤ 524288 := hl
    rw [run]
    by_cases hc : x < 2 ^ w
    · rw [goL_ok (hw _ (List.mem_cons_self ..)) hc (by omega)]
      have hf' : fitB r xs = false := by rw [fitB] at hf; simpa [hc] using hf
      exact run_goL_bad (fun p hp => hw p (List.mem_cons_of_mem _ hp)) (by rw [List.length_append, bitsN_len]; omega) (by simpa using hx) hf'
    · have e : (goL (l, 0) x w).2 = (putL l x w, 1) := by
        unfold goL; rw [if_pos rfl, putE_one hc]
      rw [e, run_goL_err (show (1 : Int) ≠ 0 by decide)]

/-! bits in whole bytes -/
def packF : Nat → List Bool → List Nat
  | 0, _ => []
  | k + 1, l => num ((l ++ List.replicate (8 - l.length) false).take 8) :: packF k (l.drop 8)
def packB (l : List Bool) : List Nat := packF ((l.length + 7) / 8) l
theorem packF_len : ∀ (k : Nat) (l : List Bool), (packF k l).length = k
  | 0, _ => rfl
  | k + 1, l => by rw [packF, List.length_cons, packF_len k]
theorem packB_len (l : List Bool) : (packB l).length = (l.length + 7) / 8 := packF_len _ _
theorem packF_lt : ∀ (k : Nat) (l : List Bool), ∀ c ∈ packF k l, c < 256
  | 0, _, c, h => by simp [packF] at h
  | k + 1, l, c, h => by
    rw [packF, List.mem_cons] at h
    rcases h with rfl | h
    · exact Nat.lt_of_lt_of_le (num_lt _) (Nat.pow_le_pow_right (by decide) (show _ ≤ 8 by rw [List.length_take]; omega))
    · exact packF_lt k _ c h
theorem packB_lt (l : List Bool) : ∀ c ∈ packB l, c < 256 := packF_lt _ _
theorem byB_packF : ∀ (k : Nat) (l : List Bool), l.length ≤ 8 * k → 8 * k < l.length + 8 → byB (packF k l) = l ++ List.replicate (8 * k - l.length) false
  | 0, l, h, _ => by
    obtain rfl : l = [] := List.length_eq_zero_iff.1 (by omega)
    rfl
  | k + 1, l, h1, h2 => by
    have hl : ((l ++ List.replicate (8 - l.length) false).take 8).length = 8 := by simp; omega
    have e8 := bitsN_num ((l ++ List.replicate (8 - l.length) false).take 8)
    rw [hl] at e8
    rw [packF, show ∀ (a : Nat) (r : List Nat), byB (a :: r) = bitsN 8 a ++ byB r from fun a r => by simp [byB], e8]
    by_cases hc : 8 ≤ l.length
    · rw [byB_packF k _ (by rw [List.length_drop]; omega) (by rw [List.length_drop]; omega), List.length_drop, show 8 - l.length = 0 by omega, List.replicate_zero, List.append_nil, ← List.append_assoc, List.take_append_drop]
      congr 2; omega
    · obtain rfl : k = 0 := by omega
      rw [show packF 0 (l.drop 8) = [] from rfl, show byB [] = [] from rfl, List.append_nil, List.take_of_length_le (by simp; omega)]
theorem byB_packB (l : List Bool) : byB (packB l) = l ++ List.replicate (8 * ((l.length + 7) / 8) - l.length) false := byB_packF _ _ (by omega) (by omega)
end Go.Proofs.YtjdaglmkljbfkaaDoor
namespace Go.Proofs.YtjdaglmkljbfkaaDoor
open Go Go.Gx Go.RowKit
set_option maxRecDepth 100000
theorem newRowS (w0 : Base) (η : Heap) :
    CallsT Tryd.prog 75 [] (St w0 η) fun v A' => ∃ rb K, v = .pointer (some ⟨rb, 0, none⟩) ∧ RowAt rb [] K ∧ A' = St w0 (K ++ η) :=
  (new_spec w0 η).mono fun v A' ⟨rb, hv, hA⟩ => ⟨St w0 ([(rb, 162, rowC (.slice none 0 0) 0 1)] ++ η), ⟨rb, [(rb, 162, rowC (.slice none 0 0) 0 1)], hv, ⟨[], _, 0, [], Frag.nil _ _, Packed.nil, by decide, rfl⟩, rfl⟩, fun w h => by rw [hA] at h; exact h⟩
theorem byBInj : ∀ {a b : List Nat}, byB a = byB b → (∀ c ∈ a, c < 256) → (∀ c ∈ b, c < 256) → a = b
  | [], [], _, _, _ => rfl
  | [], c :: b, h, _, _ => by have := congrArg List.length h; rw [byB_len, byB_len] at this; simp at this
  | c :: a, [], h, _, _ => by have := congrArg List.length h; rw [byB_len, byB_len] at this; simp at this
  | c :: a, d :: b, h, ha, hb => by
    have h1 : bitsN 8 c ++ byB a = bitsN 8 d ++ byB b := by simpa [byB] using h
    obtain ⟨h2, h3⟩ := List.append_inj h1 (by rw [bitsN_len, bitsN_len])
    have h4 := congrArg num h2
    rw [num_bitsN, num_bitsN, Nat.mod_eq_of_lt (ha c (List.mem_cons_self ..)), Nat.mod_eq_of_lt (hb d (List.mem_cons_self ..))] at h4
    rw [h4, byBInj h3 (fun x hx => ha x (List.mem_cons_of_mem _ hx)) (fun x hx => hb x (List.mem_cons_of_mem _ hx))]
theorem RowAt.bytesX {w0 : Base} {rb : Nat} {l : List Bool} {K : Heap} (X η : Heap) (hK : RowAt rb l K) (hl : l.length ≤ 600000) :
    CallsT Tryd.prog 77 [.pointer (some ⟨rb, 0, none⟩)] (St w0 (X ++ (K ++ η))) fun v A' => ∃ H2, Frag 5 1 v (packB l).length (byV (packB l)) H2 ∧ A' = St w0 (H2 ++ (X ++ (K ++ η))) := by
  have h := RowAt.bytes (w0 := w0) (X ++ η) hK hl
  refine fun w hA => (h.mono ?_) w (hA.cnt fun p => by simp only [List.countP_append]; omega)
  rintro v A' ⟨bs, H2, hF, ⟨hb1, hb2⟩, rfl⟩
  obtain rfl : bs = packB l := byBInj (by rw [hb1, byB_packB]) hb2 (packB_lt l)
  exact ⟨_, ⟨H2, hF, rfl⟩, fun w h => h.cnt fun p => by simp only [List.countP_append]; omega⟩
theorem RowAt.putX {w0 : Base} {rb : Nat} {l : List Bool} {K : Heap} (X η : Heap) (hK : RowAt rb l K) {v w : Nat} (hv : v < 4294967296) (hw : w ≤ 32) (hl : l.length ≤ 524288) :
    CallsT Tryd.prog 76 [.pointer (some ⟨rb, 0, none⟩), .int .u32 (v : Int), .int .i64 (w : Int)] (St w0 (X ++ (K ++ η))) fun r A' => ∃ K', r = .int .i64 (putE l.length v w) ∧ RowAt rb (putL l v w) K' ∧ A' = St w0 (X ++ (K' ++ η)) := by
  have h := put_spec w0 (X ++ η) K rb l v w hK hv ⟨by omega, by omega⟩ hl
  refine fun w hA => (h.mono ?_) w (hA.cnt fun p => by simp only [List.countP_append]; omega)
  rintro r A' ⟨K', hr, hK', rfl⟩
  exact ⟨_, ⟨K', hr, hK', rfl⟩, fun w h => h.cnt fun p => by simp only [List.countP_append]; omega⟩
theorem putL_okX {l : List Bool} {v w : Nat} (hw : w ≤ 32) (hv : v < 2 ^ w) (h : l.length + w ≤ 524288) : putL l v w = l ++ bitsN w v := by
  unfold putL
  rw [if_pos (putE_zero hw hv h), Int.toNat_natCast]
theorem fitB_appendX : ∀ {a b : Ws} {xs zs : List Nat}, a.length = xs.length → fitB (a ++ b) (xs ++ zs) = (fitB a xs && fitB b zs)
  | [], b, [], zs, _ => by simp [fitB]
  | [], _, _ :: _, _, h => by simp at h
  | _ :: _, _, [], _, h => by simp at h
  | (w, m) :: a, b, x :: xs, zs, h => by
    simp only [List.cons_append, fitB]
    rw [fitB_appendX (by simpa using h), Bool.and_assoc]
theorem enc_appendX : ∀ {a b : Ws} {xs zs : List Nat}, a.length = xs.length → enc (a ++ b) (xs ++ zs) = enc a xs ++ enc b zs
  | [], b, [], zs, _ => by simp [enc]
  | [], _, _ :: _, _, h => by simp at h
  | _ :: _, _, [], _, h => by simp at h
  | (w, m) :: a, b, x :: xs, zs, h => by
    simp only [List.cons_append, enc]
    rw [enc_appendX (by simpa using h), List.append_assoc]
theorem take_snocX {α : Type} {l : List α} {k : Nat} {x : α} (h : l[k]? = some x) : l.take (k + 1) = l.take k ++ [x] := by rw [List.take_add_one, h]; rfl
theorem fitB_atX : ∀ {ws : Ws} {xs : List Nat}, fitB ws xs = true → ∀ {k w m x : Nat}, ws[k]? = some (w, m) → xs[k]? = some x → x < 2 ^ w
  | [], _, _, k, w, m, x, h, _ => by simp at h
  | _ :: _, [], _, k, w, m, x, _, h => by simp at h
  | (w, m) :: ws, x :: xs, h, 0, _, _, _, h1, h2 => by
    cases h1; cases h2
    simp only [fitB, Bool.and_eq_true, decide_eq_true_eq] at h
    exact h.1
  | (w, m) :: ws, x :: xs, h, k + 1, _, _, _, h1, h2 => by
    simp only [fitB, Bool.and_eq_true, decide_eq_true_eq] at h
    exact fitB_atX h.2 h1 h2
end Go.Proofs.YtjdaglmkljbfkaaDoor
namespace Go.Proofs.YtjdaglmkljbfkaaDoor
open Go Go.Gx Go.RowKit
set_option maxRecDepth 100000

def spotK : List IntKind := [.u32, .u32]
def colK : List IntKind := [.u16, .u16, .u16, .u16]
def recK : List IntKind := [.u8] ++ spotK ++ colK
def sheetK : List IntKind := [.u8] ++ rep 16 spotK ++ rep 4 colK
def patchK : List IntKind := rep 16 spotK ++ rep 4 colK
def triK : List IntKind := rep 3 recK

theorem eq_Sheet : EqOk Tryd.prog 79 sheetK := ⟨by kernel_rfl, by kernel_rfl, by kernel_rfl, by kernel_rfl⟩
theorem el_Sheet : ElemOk Tryd.prog 79 49 164 (zv sheetK) := .of YtjdaglmkljbfkaaDoorF.sz_79 (by kernel_rfl) (by unfold ZeroOk; kernel_rfl) (by kernel_rfl) (by decide)
theorem same_Sheet (w0 : Base) (η : Heap) (va vb : Value) (n m : Nat) (xs ys : List Value) (ha : SlA (St w0 η) va 49 n xs) (hb : SlA (St w0 η) vb 49 m ys) (hia : Ints (rep n sheetK) xs) (hib : Ints (rep m sheetK) ys) :
    CallsT Tryd.prog 24 [va, vb] (St w0 η) fun v A' => v = .bool (eqC xs ys) ∧ A' = St w0 η := by
  obtain ⟨hal, ada, ca, rfl, ⟨hca, hca2⟩, hra⟩ := ha
  obtain ⟨hbl, adb, cb, rfl, ⟨hcb, hcb2⟩, hrb⟩ := hb
  refine CallsT.body Tryd.func24 rfl rfl ?_
  simp only [Tryd.ntmps24, slotsOf, Nat.reduceAdd]
  refine TC_seq ?_
  refine TC_reg ?_
  refine TL_q rfl rfl (QT_assign rfl rfl rfl) ?_
  refine TL_nil ?_
  refine TX_then ?_
  refine TC_seq ?_
  refine TC_seq ?_
  refine TC_reg ?_
  refine TL_q rfl rfl (QT_move rfl rfl rfl) ?_
  refine TL_q rfl rfl (QT_len rfl rfl Tryd.underlying31 rfl) ?_
  refine TL_q rfl rfl (QT_move rfl rfl rfl) ?_
  refine TL_q rfl rfl (QT_len rfl rfl Tryd.underlying31 rfl) ?_
  refine TL_q rfl rfl (QT_neq rfl rfl rfl rfl) ?_
  refine TL_nil ?_
  refine TX_then ?_
  first
    | refine TC_cond_dec rfl (fun h10 => ?_) (fun h10 => ?_)
    | refine TC_cond rfl (fun h10 => ?_) (fun h10 => ?_)
  ·
    refine TC_seq ?_
    refine TC_reg ?_
    refine TL_q rfl rfl (QT_assign rfl rfl rfl) ?_
    refine TL_nil ?_
    refine TX_then ?_
    refine TC_ret ?_
    refine TX_then_ret ?_
    exact TX_ret (.inl rfl) (res1 rfl rfl) ⟨_, ⟨by rw [eqC_ne_len (by omega)], rfl⟩, (fun _ h => by first | exact h | exact h.tail | exact h.tail.tail | exact h.tail.tail.tail | exact h.tail.tail.tail.tail | exact h.tail.tail.tail.tail.tail | exact h.tail.tail.tail.tail.tail.tail | exact h.tail.tail.tail.tail.tail.tail.tail | exact h.tail.tail.tail.tail.tail.tail.tail.tail | exact h.tail.tail.tail.tail.tail.tail.tail.tail.tail | exact h.tail.tail.tail.tail.tail.tail.tail.tail.tail.tail | exact h.tail.tail.tail.tail.tail.tail.tail.tail.tail.tail.tail | exact h.tail.tail.tail.tail.tail.tail.tail.tail.tail.tail.tail.tail | exact h.tail.tail.tail.tail.tail.tail.tail.tail.tail.tail.tail.tail.tail)⟩
  ·
    obtain rfl : n = m := by omega
    refine TC_skip ?_
    refine TX_then ?_
    refine TC_seq ?_
    refine TC_seq ?_
    refine TC_reg ?_
    refine TL_q rfl rfl (QT_assign rfl rfl rfl) ?_
    refine TL_nil ?_
    refine TX_then ?_
    refine TC_block ?_
    refine TC_loop (γ := {i : Nat // i ≤ n ∧ xs.take (i * 49) = ys.take (i * 49)}) (fun t => [(0, true, .slice ada n ca), (1, true, .slice adb n cb), (5, true, .int .i64 (t.1 : Int))]) (fun _ => St w0 η) (fun t => n - t.1) ⟨0, by omega, by simp⟩ ⟨rfl, rfl, rfl, trivial⟩ (fun _ h => h) ?_
    rintro ⟨i, hi, he⟩
    dsimp only
    refine TC_seq ?_
    refine TC_seq ?_
    refine TC_reg ?_
    refine TL_q rfl rfl (QT_move rfl rfl rfl) ?_
    refine TL_q rfl rfl (QT_move rfl rfl rfl) ?_
    refine TL_q rfl rfl (QT_len rfl rfl Tryd.underlying31 rfl) ?_
    refine TL_q rfl rfl (QT_lss rfl rfl rfl rfl) ?_
    refine TL_nil ?_
    refine TX_then ?_
    first
      | refine TC_cond_dec rfl (fun h14 => ?_) (fun h14 => ?_)
      | refine TC_cond rfl (fun h14 => ?_) (fun h14 => ?_)
    ·
      refine TC_skip ?_
      refine TX_then ?_
      refine TC_seq ?_
      refine TC_block ?_
      refine TC_seq ?_
      have hin : i < n := by omega
      obtain ⟨ba, oa, rfl, hrA⟩ := hra.resolve_left (by omega)
      obtain ⟨bb, ob, rfl, hrB⟩ := hrb.resolve_left (by omega)
      have hea : Ints sheetK (elem xs 49 i) := hia.elem hin
      have heb : Ints sheetK (elem ys 49 i) := hib.elem hin
      refine TC_draw [(0, 0), (1, 0), (2, 0), (3, 0), (4, 0), (5, 0), (6, 0), (7, 0), (8, 0)] YtjdaglmkljbfkaaDoorF.mixed (by kernel_rfl) (St.calm _ _) ?_
      refine TV_q rfl rfl rfl (fun _ => QT_move rfl rfl rfl) ?_
      refine TV_q rfl rfl rfl (fun _ => QT_move rfl rfl rfl) ?_
      refine TV_q rfl rfl rfl (fun _ => QT_indexSlice (i) rfl rfl Tryd.underlying31 YtjdaglmkljbfkaaDoorF.sz_79 rfl rfl (rfl) (fun _ => hin)) ?_
      refine TV_ql rfl rfl rfl (QT_loadRA rfl rfl Tryd.underlying79 rfl YtjdaglmkljbfkaaDoorF.sz_79 hrA rfl (fun _ => by omega)) ?_
      refine TV_q rfl rfl rfl (fun _ => QT_move rfl rfl rfl) ?_
      refine TV_q rfl rfl rfl (fun _ => QT_move rfl rfl rfl) ?_
      refine TV_q rfl rfl rfl (fun _ => QT_indexSlice (i) rfl rfl Tryd.underlying31 YtjdaglmkljbfkaaDoorF.sz_79 rfl rfl (rfl) (fun _ => hin)) ?_
      refine TV_ql rfl rfl rfl (QT_loadRA rfl rfl Tryd.underlying79 rfl YtjdaglmkljbfkaaDoorF.sz_79 hrB rfl (fun _ => by omega)) ?_
      refine TV_q rfl rfl rfl (fun _ => QT_neA rfl rfl eq_Sheet rfl rfl (fun _ => hea) (fun _ => heb)) ?_
      refine TV_end ?_
      refine TX_then ?_
      first
        | refine TC_cond_dec rfl (fun h25 => ?_) (fun h25 => ?_)
        | refine TC_cond rfl (fun h25 => ?_) (fun h25 => ?_)
      ·
        refine TC_seq ?_
        refine TC_reg ?_
        refine TL_q rfl rfl (QT_assign rfl rfl rfl) ?_
        refine TL_nil ?_
        refine TX_then ?_
        refine TC_ret ?_
        refine TX_block_ret ?_
        refine TX_then_ret ?_
        refine TX_then_ret ?_
        refine TX_block_ret ?_
        refine TX_then_ret ?_
        exact TX_ret (.inl rfl) (res1 rfl rfl) ⟨_, ⟨(by
         have h1 : eqC (elem xs 49 i) (elem ys 49 i) = false := by simpa [elem] using h25
         rw [eqC_ne hia hib]
         intro e
         rw [e, eqC_refl heb] at h1
         cases h1), rfl⟩, (fun _ h => by first | exact h | exact h.tail | exact h.tail.tail | exact h.tail.tail.tail | exact h.tail.tail.tail.tail | exact h.tail.tail.tail.tail.tail | exact h.tail.tail.tail.tail.tail.tail | exact h.tail.tail.tail.tail.tail.tail.tail | exact h.tail.tail.tail.tail.tail.tail.tail.tail | exact h.tail.tail.tail.tail.tail.tail.tail.tail.tail | exact h.tail.tail.tail.tail.tail.tail.tail.tail.tail.tail | exact h.tail.tail.tail.tail.tail.tail.tail.tail.tail.tail.tail | exact h.tail.tail.tail.tail.tail.tail.tail.tail.tail.tail.tail.tail | exact h.tail.tail.tail.tail.tail.tail.tail.tail.tail.tail.tail.tail.tail)⟩
      ·
        refine TC_skip ?_
        refine TX_block_normal ?_
        refine TX_then ?_
        refine TC_reg ?_
        refine TL_q rfl rfl (QT_move rfl rfl rfl) ?_
        refine TL_q rfl rfl (QT_add rfl rfl rfl rfl (fun _ => ⟨by omega, by omega⟩)) ?_
        refine TL_q rfl rfl (QT_assign rfl rfl rfl) ?_
        refine TL_nil ?_
        refine TX_round ⟨i + 1, by omega, ?_⟩ (by dsimp only; omega) ⟨rfl, rfl, slotI rfl (by dsimp only; omega), trivial⟩ (fun _ h => h)
        rw [take_succ_elem, take_succ_elem, he, (eqC_iff hea heb).1 (by simpa [elem] using h25)]
    ·
      refine TC_exit ?_
      refine TX_then_exit ?_
      refine TX_then_exit ?_
      refine TX_block_here ?_
      refine TX_then ?_
      refine TC_seq ?_
      refine TC_reg ?_
      refine TL_q rfl rfl (QT_assign rfl rfl rfl) ?_
      refine TL_nil ?_
      refine TX_then ?_
      refine TC_ret ?_
      exact TX_ret (.inl rfl) (res1 rfl rfl) ⟨_, ⟨(by
       have hin : i = n := by omega
       subst hin
       rw [List.take_of_length_le (by omega), List.take_of_length_le (by omega)] at he
       subst he
       rw [eqC_refl hia]), rfl⟩, (fun _ h => by first | exact h | exact h.tail | exact h.tail.tail | exact h.tail.tail.tail | exact h.tail.tail.tail.tail | exact h.tail.tail.tail.tail.tail | exact h.tail.tail.tail.tail.tail.tail | exact h.tail.tail.tail.tail.tail.tail.tail | exact h.tail.tail.tail.tail.tail.tail.tail.tail | exact h.tail.tail.tail.tail.tail.tail.tail.tail.tail | exact h.tail.tail.tail.tail.tail.tail.tail.tail.tail.tail | exact h.tail.tail.tail.tail.tail.tail.tail.tail.tail.tail.tail | exact h.tail.tail.tail.tail.tail.tail.tail.tail.tail.tail.tail.tail | exact h.tail.tail.tail.tail.tail.tail.tail.tail.tail.tail.tail.tail.tail)⟩
theorem eq_Patch : EqOk Tryd.prog 107 patchK := ⟨by kernel_rfl, by kernel_rfl, by kernel_rfl, by kernel_rfl⟩
theorem el_Patch : ElemOk Tryd.prog 107 48 160 (zv patchK) := .of YtjdaglmkljbfkaaDoorF.sz_107 (by kernel_rfl) (by unfold ZeroOk; kernel_rfl) (by kernel_rfl) (by decide)
theorem same_Patch (w0 : Base) (η : Heap) (va vb : Value) (n m : Nat) (xs ys : List Value) (ha : SlA (St w0 η) va 48 n xs) (hb : SlA (St w0 η) vb 48 m ys) (hia : Ints (rep n patchK) xs) (hib : Ints (rep m patchK) ys) :
    CallsT Tryd.prog 42 [va, vb] (St w0 η) fun v A' => v = .bool (eqC xs ys) ∧ A' = St w0 η := by
  obtain ⟨hal, ada, ca, rfl, ⟨hca, hca2⟩, hra⟩ := ha
  obtain ⟨hbl, adb, cb, rfl, ⟨hcb, hcb2⟩, hrb⟩ := hb
  refine CallsT.body Tryd.func42 rfl rfl ?_
  simp only [Tryd.ntmps42, slotsOf, Nat.reduceAdd]
  refine TC_seq ?_
  refine TC_reg ?_
  refine TL_q rfl rfl (QT_assign rfl rfl rfl) ?_
  refine TL_nil ?_
  refine TX_then ?_
  refine TC_seq ?_
  refine TC_seq ?_
  refine TC_reg ?_
  refine TL_q rfl rfl (QT_move rfl rfl rfl) ?_
  refine TL_q rfl rfl (QT_len rfl rfl Tryd.underlying43 rfl) ?_
  refine TL_q rfl rfl (QT_move rfl rfl rfl) ?_
  refine TL_q rfl rfl (QT_len rfl rfl Tryd.underlying43 rfl) ?_
  refine TL_q rfl rfl (QT_neq rfl rfl rfl rfl) ?_
  refine TL_nil ?_
  refine TX_then ?_
  first
    | refine TC_cond_dec rfl (fun h10 => ?_) (fun h10 => ?_)
    | refine TC_cond rfl (fun h10 => ?_) (fun h10 => ?_)
  ·
    refine TC_seq ?_
    refine TC_reg ?_
    refine TL_q rfl rfl (QT_assign rfl rfl rfl) ?_
    refine TL_nil ?_
    refine TX_then ?_
    refine TC_ret ?_
    refine TX_then_ret ?_
    exact TX_ret (.inl rfl) (res1 rfl rfl) ⟨_, ⟨by rw [eqC_ne_len (by omega)], rfl⟩, (fun _ h => by first | exact h | exact h.tail | exact h.tail.tail | exact h.tail.tail.tail | exact h.tail.tail.tail.tail | exact h.tail.tail.tail.tail.tail | exact h.tail.tail.tail.tail.tail.tail | exact h.tail.tail.tail.tail.tail.tail.tail | exact h.tail.tail.tail.tail.tail.tail.tail.tail | exact h.tail.tail.tail.tail.tail.tail.tail.tail.tail | exact h.tail.tail.tail.tail.tail.tail.tail.tail.tail.tail | exact h.tail.tail.tail.tail.tail.tail.tail.tail.tail.tail.tail | exact h.tail.tail.tail.tail.tail.tail.tail.tail.tail.tail.tail.tail | exact h.tail.tail.tail.tail.tail.tail.tail.tail.tail.tail.tail.tail.tail)⟩
  ·
    obtain rfl : n = m := by omega
    refine TC_skip ?_
    refine TX_then ?_
    refine TC_seq ?_
    refine TC_seq ?_
    refine TC_reg ?_
    refine TL_q rfl rfl (QT_assign rfl rfl rfl) ?_
    refine TL_nil ?_
    refine TX_then ?_
    refine TC_block ?_
    refine TC_loop (γ := {i : Nat // i ≤ n ∧ xs.take (i * 48) = ys.take (i * 48)}) (fun t => [(0, true, .slice ada n ca), (1, true, .slice adb n cb), (5, true, .int .i64 (t.1 : Int))]) (fun _ => St w0 η) (fun t => n - t.1) ⟨0, by omega, by simp⟩ ⟨rfl, rfl, rfl, trivial⟩ (fun _ h => h) ?_
    rintro ⟨i, hi, he⟩
    dsimp only
    refine TC_seq ?_
    refine TC_seq ?_
    refine TC_reg ?_
    refine TL_q rfl rfl (QT_move rfl rfl rfl) ?_
    refine TL_q rfl rfl (QT_move rfl rfl rfl) ?_
    refine TL_q rfl rfl (QT_len rfl rfl Tryd.underlying43 rfl) ?_
    refine TL_q rfl rfl (QT_lss rfl rfl rfl rfl) ?_
    refine TL_nil ?_
    refine TX_then ?_
    first
      | refine TC_cond_dec rfl (fun h14 => ?_) (fun h14 => ?_)
      | refine TC_cond rfl (fun h14 => ?_) (fun h14 => ?_)
    ·
      refine TC_skip ?_
      refine TX_then ?_
      refine TC_seq ?_
      refine TC_block ?_
      refine TC_seq ?_
      have hin : i < n := by omega
      obtain ⟨ba, oa, rfl, hrA⟩ := hra.resolve_left (by omega)
      obtain ⟨bb, ob, rfl, hrB⟩ := hrb.resolve_left (by omega)
      have hea : Ints patchK (elem xs 48 i) := hia.elem hin
      have heb : Ints patchK (elem ys 48 i) := hib.elem hin
      refine TC_draw [(0, 0), (1, 0), (2, 0), (3, 0), (4, 0), (5, 0), (6, 0), (7, 0), (8, 0)] YtjdaglmkljbfkaaDoorF.mixed (by kernel_rfl) (St.calm _ _) ?_
      refine TV_q rfl rfl rfl (fun _ => QT_move rfl rfl rfl) ?_
      refine TV_q rfl rfl rfl (fun _ => QT_move rfl rfl rfl) ?_
      refine TV_q rfl rfl rfl (fun _ => QT_indexSlice (i) rfl rfl Tryd.underlying43 YtjdaglmkljbfkaaDoorF.sz_107 rfl rfl (rfl) (fun _ => hin)) ?_
      refine TV_ql rfl rfl rfl (QT_loadRA rfl rfl Tryd.underlying107 rfl YtjdaglmkljbfkaaDoorF.sz_107 hrA rfl (fun _ => by omega)) ?_
      refine TV_q rfl rfl rfl (fun _ => QT_move rfl rfl rfl) ?_
      refine TV_q rfl rfl rfl (fun _ => QT_move rfl rfl rfl) ?_
      refine TV_q rfl rfl rfl (fun _ => QT_indexSlice (i) rfl rfl Tryd.underlying43 YtjdaglmkljbfkaaDoorF.sz_107 rfl rfl (rfl) (fun _ => hin)) ?_
      refine TV_ql rfl rfl rfl (QT_loadRA rfl rfl Tryd.underlying107 rfl YtjdaglmkljbfkaaDoorF.sz_107 hrB rfl (fun _ => by omega)) ?_
      refine TV_q rfl rfl rfl (fun _ => QT_neA rfl rfl eq_Patch rfl rfl (fun _ => hea) (fun _ => heb)) ?_
      refine TV_end ?_
      refine TX_then ?_
      first
        | refine TC_cond_dec rfl (fun h25 => ?_) (fun h25 => ?_)
        | refine TC_cond rfl (fun h25 => ?_) (fun h25 => ?_)
      ·
        refine TC_seq ?_
        refine TC_reg ?_
        refine TL_q rfl rfl (QT_assign rfl rfl rfl) ?_
        refine TL_nil ?_
        refine TX_then ?_
        refine TC_ret ?_
        refine TX_block_ret ?_
        refine TX_then_ret ?_
        refine TX_then_ret ?_
        refine TX_block_ret ?_
        refine TX_then_ret ?_
        exact TX_ret (.inl rfl) (res1 rfl rfl) ⟨_, ⟨(by
         have h1 : eqC (elem xs 48 i) (elem ys 48 i) = false := by simpa [elem] using h25
         rw [eqC_ne hia hib]
         intro e
         rw [e, eqC_refl heb] at h1
         cases h1), rfl⟩, (fun _ h => by first | exact h | exact h.tail | exact h.tail.tail | exact h.tail.tail.tail | exact h.tail.tail.tail.tail | exact h.tail.tail.tail.tail.tail | exact h.tail.tail.tail.tail.tail.tail | exact h.tail.tail.tail.tail.tail.tail.tail | exact h.tail.tail.tail.tail.tail.tail.tail.tail | exact h.tail.tail.tail.tail.tail.tail.tail.tail.tail | exact h.tail.tail.tail.tail.tail.tail.tail.tail.tail.tail | exact h.tail.tail.tail.tail.tail.tail.tail.tail.tail.tail.tail | exact h.tail.tail.tail.tail.tail.tail.tail.tail.tail.tail.tail.tail | exact h.tail.tail.tail.tail.tail.tail.tail.tail.tail.tail.tail.tail.tail)⟩
      ·
        refine TC_skip ?_
        refine TX_block_normal ?_
        refine TX_then ?_
        refine TC_reg ?_
        refine TL_q rfl rfl (QT_move rfl rfl rfl) ?_
        refine TL_q rfl rfl (QT_add rfl rfl rfl rfl (fun _ => ⟨by omega, by omega⟩)) ?_
        refine TL_q rfl rfl (QT_assign rfl rfl rfl) ?_
        refine TL_nil ?_
        refine TX_round ⟨i + 1, by omega, ?_⟩ (by dsimp only; omega) ⟨rfl, rfl, slotI rfl (by dsimp only; omega), trivial⟩ (fun _ h => h)
        rw [take_succ_elem, take_succ_elem, he, (eqC_iff hea heb).1 (by simpa [elem] using h25)]
    ·
      refine TC_exit ?_
      refine TX_then_exit ?_
      refine TX_then_exit ?_
      refine TX_block_here ?_
      refine TX_then ?_
      refine TC_seq ?_
      refine TC_reg ?_
      refine TL_q rfl rfl (QT_assign rfl rfl rfl) ?_
      refine TL_nil ?_
      refine TX_then ?_
      refine TC_ret ?_
      exact TX_ret (.inl rfl) (res1 rfl rfl) ⟨_, ⟨(by
       have hin : i = n := by omega
       subst hin
       rw [List.take_of_length_le (by omega), List.take_of_length_le (by omega)] at he
       subst he
       rw [eqC_refl hia]), rfl⟩, (fun _ h => by first | exact h | exact h.tail | exact h.tail.tail | exact h.tail.tail.tail | exact h.tail.tail.tail.tail | exact h.tail.tail.tail.tail.tail | exact h.tail.tail.tail.tail.tail.tail | exact h.tail.tail.tail.tail.tail.tail.tail | exact h.tail.tail.tail.tail.tail.tail.tail.tail | exact h.tail.tail.tail.tail.tail.tail.tail.tail.tail | exact h.tail.tail.tail.tail.tail.tail.tail.tail.tail.tail | exact h.tail.tail.tail.tail.tail.tail.tail.tail.tail.tail.tail | exact h.tail.tail.tail.tail.tail.tail.tail.tail.tail.tail.tail.tail | exact h.tail.tail.tail.tail.tail.tail.tail.tail.tail.tail.tail.tail.tail)⟩
theorem eq_Rec : EqOk Tryd.prog 67 recK := ⟨by kernel_rfl, by kernel_rfl, by kernel_rfl, by kernel_rfl⟩
theorem el_Rec : ElemOk Tryd.prog 67 7 20 (zv recK) := .of YtjdaglmkljbfkaaDoorF.sz_67 (by kernel_rfl) (by unfold ZeroOk; kernel_rfl) (by kernel_rfl) (by decide)
theorem same_Rec (w0 : Base) (η : Heap) (va vb : Value) (n m : Nat) (xs ys : List Value) (ha : SlA (St w0 η) va 7 n xs) (hb : SlA (St w0 η) vb 7 m ys) (hia : Ints (rep n recK) xs) (hib : Ints (rep m recK) ys) :
    CallsT Tryd.prog 23 [va, vb] (St w0 η) fun v A' => v = .bool (eqC xs ys) ∧ A' = St w0 η := by
  obtain ⟨hal, ada, ca, rfl, ⟨hca, hca2⟩, hra⟩ := ha
  obtain ⟨hbl, adb, cb, rfl, ⟨hcb, hcb2⟩, hrb⟩ := hb
  refine CallsT.body Tryd.func23 rfl rfl ?_
  simp only [Tryd.ntmps23, slotsOf, Nat.reduceAdd]
  refine TC_seq ?_
  refine TC_reg ?_
  refine TL_q rfl rfl (QT_assign rfl rfl rfl) ?_
  refine TL_nil ?_
  refine TX_then ?_
  refine TC_seq ?_
  refine TC_seq ?_
  refine TC_reg ?_
  refine TL_q rfl rfl (QT_move rfl rfl rfl) ?_
  refine TL_q rfl rfl (QT_len rfl rfl Tryd.underlying30 rfl) ?_
  refine TL_q rfl rfl (QT_move rfl rfl rfl) ?_
  refine TL_q rfl rfl (QT_len rfl rfl Tryd.underlying30 rfl) ?_
  refine TL_q rfl rfl (QT_neq rfl rfl rfl rfl) ?_
  refine TL_nil ?_
  refine TX_then ?_
  first
    | refine TC_cond_dec rfl (fun h10 => ?_) (fun h10 => ?_)
    | refine TC_cond rfl (fun h10 => ?_) (fun h10 => ?_)
  ·
    refine TC_seq ?_
    refine TC_reg ?_
    refine TL_q rfl rfl (QT_assign rfl rfl rfl) ?_
    refine TL_nil ?_
    refine TX_then ?_
    refine TC_ret ?_
    refine TX_then_ret ?_
    exact TX_ret (.inl rfl) (res1 rfl rfl) ⟨_, ⟨by rw [eqC_ne_len (by omega)], rfl⟩, (fun _ h => by first | exact h | exact h.tail | exact h.tail.tail | exact h.tail.tail.tail | exact h.tail.tail.tail.tail | exact h.tail.tail.tail.tail.tail | exact h.tail.tail.tail.tail.tail.tail | exact h.tail.tail.tail.tail.tail.tail.tail | exact h.tail.tail.tail.tail.tail.tail.tail.tail | exact h.tail.tail.tail.tail.tail.tail.tail.tail.tail | exact h.tail.tail.tail.tail.tail.tail.tail.tail.tail.tail | exact h.tail.tail.tail.tail.tail.tail.tail.tail.tail.tail.tail | exact h.tail.tail.tail.tail.tail.tail.tail.tail.tail.tail.tail.tail | exact h.tail.tail.tail.tail.tail.tail.tail.tail.tail.tail.tail.tail.tail)⟩
  ·
    obtain rfl : n = m := by omega
    refine TC_skip ?_
    refine TX_then ?_
    refine TC_seq ?_
    refine TC_seq ?_
    refine TC_reg ?_
    refine TL_q rfl rfl (QT_assign rfl rfl rfl) ?_
    refine TL_nil ?_
    refine TX_then ?_
    refine TC_block ?_
    refine TC_loop (γ := {i : Nat // i ≤ n ∧ xs.take (i * 7) = ys.take (i * 7)}) (fun t => [(0, true, .slice ada n ca), (1, true, .slice adb n cb), (5, true, .int .i64 (t.1 : Int))]) (fun _ => St w0 η) (fun t => n - t.1) ⟨0, by omega, by simp⟩ ⟨rfl, rfl, rfl, trivial⟩ (fun _ h => h) ?_
    rintro ⟨i, hi, he⟩
    dsimp only
    refine TC_seq ?_
    refine TC_seq ?_
    refine TC_reg ?_
    refine TL_q rfl rfl (QT_move rfl rfl rfl) ?_
    refine TL_q rfl rfl (QT_move rfl rfl rfl) ?_
    refine TL_q rfl rfl (QT_len rfl rfl Tryd.underlying30 rfl) ?_
    refine TL_q rfl rfl (QT_lss rfl rfl rfl rfl) ?_
    refine TL_nil ?_
    refine TX_then ?_
    first
      | refine TC_cond_dec rfl (fun h14 => ?_) (fun h14 => ?_)
      | refine TC_cond rfl (fun h14 => ?_) (fun h14 => ?_)
    ·
      refine TC_skip ?_
      refine TX_then ?_
      refine TC_seq ?_
      refine TC_block ?_
      refine TC_seq ?_
      have hin : i < n := by omega
      obtain ⟨ba, oa, rfl, hrA⟩ := hra.resolve_left (by omega)
      obtain ⟨bb, ob, rfl, hrB⟩ := hrb.resolve_left (by omega)
      have hea : Ints recK (elem xs 7 i) := hia.elem hin
      have heb : Ints recK (elem ys 7 i) := hib.elem hin
      refine TC_draw [(0, 0), (1, 0), (2, 0), (3, 0), (4, 0), (5, 0), (6, 0), (7, 0), (8, 0)] YtjdaglmkljbfkaaDoorF.mixed (by kernel_rfl) (St.calm _ _) ?_
      refine TV_q rfl rfl rfl (fun _ => QT_move rfl rfl rfl) ?_
      refine TV_q rfl rfl rfl (fun _ => QT_move rfl rfl rfl) ?_
      refine TV_q rfl rfl rfl (fun _ => QT_indexSlice (i) rfl rfl Tryd.underlying30 YtjdaglmkljbfkaaDoorF.sz_67 rfl rfl (rfl) (fun _ => hin)) ?_
      refine TV_ql rfl rfl rfl (QT_loadRA rfl rfl Tryd.underlying67 rfl YtjdaglmkljbfkaaDoorF.sz_67 hrA rfl (fun _ => by omega)) ?_
      refine TV_q rfl rfl rfl (fun _ => QT_move rfl rfl rfl) ?_
      refine TV_q rfl rfl rfl (fun _ => QT_move rfl rfl rfl) ?_
      refine TV_q rfl rfl rfl (fun _ => QT_indexSlice (i) rfl rfl Tryd.underlying30 YtjdaglmkljbfkaaDoorF.sz_67 rfl rfl (rfl) (fun _ => hin)) ?_
      refine TV_ql rfl rfl rfl (QT_loadRA rfl rfl Tryd.underlying67 rfl YtjdaglmkljbfkaaDoorF.sz_67 hrB rfl (fun _ => by omega)) ?_
      refine TV_q rfl rfl rfl (fun _ => QT_neA rfl rfl eq_Rec rfl rfl (fun _ => hea) (fun _ => heb)) ?_
      refine TV_end ?_
      refine TX_then ?_
      first
        | refine TC_cond_dec rfl (fun h25 => ?_) (fun h25 => ?_)
        | refine TC_cond rfl (fun h25 => ?_) (fun h25 => ?_)
      ·
        refine TC_seq ?_
        refine TC_reg ?_
        refine TL_q rfl rfl (QT_assign rfl rfl rfl) ?_
        refine TL_nil ?_
        refine TX_then ?_
        refine TC_ret ?_
        refine TX_block_ret ?_
        refine TX_then_ret ?_
        refine TX_then_ret ?_
        refine TX_block_ret ?_
        refine TX_then_ret ?_
        exact TX_ret (.inl rfl) (res1 rfl rfl) ⟨_, ⟨(by
         have h1 : eqC (elem xs 7 i) (elem ys 7 i) = false := by simpa [elem] using h25
         rw [eqC_ne hia hib]
         intro e
         rw [e, eqC_refl heb] at h1
         cases h1), rfl⟩, (fun _ h => by first | exact h | exact h.tail | exact h.tail.tail | exact h.tail.tail.tail | exact h.tail.tail.tail.tail | exact h.tail.tail.tail.tail.tail | exact h.tail.tail.tail.tail.tail.tail | exact h.tail.tail.tail.tail.tail.tail.tail | exact h.tail.tail.tail.tail.tail.tail.tail.tail | exact h.tail.tail.tail.tail.tail.tail.tail.tail.tail | exact h.tail.tail.tail.tail.tail.tail.tail.tail.tail.tail | exact h.tail.tail.tail.tail.tail.tail.tail.tail.tail.tail.tail | exact h.tail.tail.tail.tail.tail.tail.tail.tail.tail.tail.tail.tail | exact h.tail.tail.tail.tail.tail.tail.tail.tail.tail.tail.tail.tail.tail)⟩
      ·
        refine TC_skip ?_
        refine TX_block_normal ?_
        refine TX_then ?_
        refine TC_reg ?_
        refine TL_q rfl rfl (QT_move rfl rfl rfl) ?_
        refine TL_q rfl rfl (QT_add rfl rfl rfl rfl (fun _ => ⟨by omega, by omega⟩)) ?_
        refine TL_q rfl rfl (QT_assign rfl rfl rfl) ?_
        refine TL_nil ?_
        refine TX_round ⟨i + 1, by omega, ?_⟩ (by dsimp only; omega) ⟨rfl, rfl, slotI rfl (by dsimp only; omega), trivial⟩ (fun _ h => h)
        rw [take_succ_elem, take_succ_elem, he, (eqC_iff hea heb).1 (by simpa [elem] using h25)]
    ·
      refine TC_exit ?_
      refine TX_then_exit ?_
      refine TX_then_exit ?_
      refine TX_block_here ?_
      refine TX_then ?_
      refine TC_seq ?_
      refine TC_reg ?_
      refine TL_q rfl rfl (QT_assign rfl rfl rfl) ?_
      refine TL_nil ?_
      refine TX_then ?_
      refine TC_ret ?_
      exact TX_ret (.inl rfl) (res1 rfl rfl) ⟨_, ⟨(by
       have hin : i = n := by omega
       subst hin
       rw [List.take_of_length_le (by omega), List.take_of_length_le (by omega)] at he
       subst he
       rw [eqC_refl hia]), rfl⟩, (fun _ h => by first | exact h | exact h.tail | exact h.tail.tail | exact h.tail.tail.tail | exact h.tail.tail.tail.tail | exact h.tail.tail.tail.tail.tail | exact h.tail.tail.tail.tail.tail.tail | exact h.tail.tail.tail.tail.tail.tail.tail | exact h.tail.tail.tail.tail.tail.tail.tail.tail | exact h.tail.tail.tail.tail.tail.tail.tail.tail.tail | exact h.tail.tail.tail.tail.tail.tail.tail.tail.tail.tail | exact h.tail.tail.tail.tail.tail.tail.tail.tail.tail.tail.tail | exact h.tail.tail.tail.tail.tail.tail.tail.tail.tail.tail.tail.tail | exact h.tail.tail.tail.tail.tail.tail.tail.tail.tail.tail.tail.tail.tail)⟩
theorem eq_Tri : EqOk Tryd.prog 69 triK := ⟨by kernel_rfl, by kernel_rfl, by kernel_rfl, by kernel_rfl⟩
theorem el_Tri : ElemOk Tryd.prog 69 21 60 (zv triK) := .of YtjdaglmkljbfkaaDoorF.sz_69 (by kernel_rfl) (by unfold ZeroOk; kernel_rfl) (by kernel_rfl) (by decide)
theorem same_Tri (w0 : Base) (η : Heap) (va vb : Value) (n m : Nat) (xs ys : List Value) (ha : SlA (St w0 η) va 21 n xs) (hb : SlA (St w0 η) vb 21 m ys) (hia : Ints (rep n triK) xs) (hib : Ints (rep m triK) ys) :
    CallsT Tryd.prog 34 [va, vb] (St w0 η) fun v A' => v = .bool (eqC xs ys) ∧ A' = St w0 η := by
  obtain ⟨hal, ada, ca, rfl, ⟨hca, hca2⟩, hra⟩ := ha
  obtain ⟨hbl, adb, cb, rfl, ⟨hcb, hcb2⟩, hrb⟩ := hb
  refine CallsT.body Tryd.func34 rfl rfl ?_
  simp only [Tryd.ntmps34, slotsOf, Nat.reduceAdd]
  refine TC_seq ?_
  refine TC_reg ?_
  refine TL_q rfl rfl (QT_assign rfl rfl rfl) ?_
  refine TL_nil ?_
  refine TX_then ?_
  refine TC_seq ?_
  refine TC_seq ?_
  refine TC_reg ?_
  refine TL_q rfl rfl (QT_move rfl rfl rfl) ?_
  refine TL_q rfl rfl (QT_len rfl rfl Tryd.underlying42 rfl) ?_
  refine TL_q rfl rfl (QT_move rfl rfl rfl) ?_
  refine TL_q rfl rfl (QT_len rfl rfl Tryd.underlying42 rfl) ?_
  refine TL_q rfl rfl (QT_neq rfl rfl rfl rfl) ?_
  refine TL_nil ?_
  refine TX_then ?_
  first
    | refine TC_cond_dec rfl (fun h10 => ?_) (fun h10 => ?_)
    | refine TC_cond rfl (fun h10 => ?_) (fun h10 => ?_)
  ·
    refine TC_seq ?_
    refine TC_reg ?_
    refine TL_q rfl rfl (QT_assign rfl rfl rfl) ?_
    refine TL_nil ?_
    refine TX_then ?_
    refine TC_ret ?_
    refine TX_then_ret ?_
    exact TX_ret (.inl rfl) (res1 rfl rfl) ⟨_, ⟨by rw [eqC_ne_len (by omega)], rfl⟩, (fun _ h => by first | exact h | exact h.tail | exact h.tail.tail | exact h.tail.tail.tail | exact h.tail.tail.tail.tail | exact h.tail.tail.tail.tail.tail | exact h.tail.tail.tail.tail.tail.tail | exact h.tail.tail.tail.tail.tail.tail.tail | exact h.tail.tail.tail.tail.tail.tail.tail.tail | exact h.tail.tail.tail.tail.tail.tail.tail.tail.tail | exact h.tail.tail.tail.tail.tail.tail.tail.tail.tail.tail | exact h.tail.tail.tail.tail.tail.tail.tail.tail.tail.tail.tail | exact h.tail.tail.tail.tail.tail.tail.tail.tail.tail.tail.tail.tail | exact h.tail.tail.tail.tail.tail.tail.tail.tail.tail.tail.tail.tail.tail)⟩
  ·
    obtain rfl : n = m := by omega
    refine TC_skip ?_
    refine TX_then ?_
    refine TC_seq ?_
    refine TC_seq ?_
    refine TC_reg ?_
    refine TL_q rfl rfl (QT_assign rfl rfl rfl) ?_
    refine TL_nil ?_
    refine TX_then ?_
    refine TC_block ?_
    refine TC_loop (γ := {i : Nat // i ≤ n ∧ xs.take (i * 21) = ys.take (i * 21)}) (fun t => [(0, true, .slice ada n ca), (1, true, .slice adb n cb), (5, true, .int .i64 (t.1 : Int))]) (fun _ => St w0 η) (fun t => n - t.1) ⟨0, by omega, by simp⟩ ⟨rfl, rfl, rfl, trivial⟩ (fun _ h => h) ?_
    rintro ⟨i, hi, he⟩
    dsimp only
    refine TC_seq ?_
    refine TC_seq ?_
    refine TC_reg ?_
    refine TL_q rfl rfl (QT_move rfl rfl rfl) ?_
    refine TL_q rfl rfl (QT_move rfl rfl rfl) ?_
    refine TL_q rfl rfl (QT_len rfl rfl Tryd.underlying42 rfl) ?_
    refine TL_q rfl rfl (QT_lss rfl rfl rfl rfl) ?_
    refine TL_nil ?_
    refine TX_then ?_
    first
      | refine TC_cond_dec rfl (fun h14 => ?_) (fun h14 => ?_)
      | refine TC_cond rfl (fun h14 => ?_) (fun h14 => ?_)
    ·
      refine TC_skip ?_
      refine TX_then ?_
      refine TC_seq ?_
      refine TC_block ?_
      refine TC_seq ?_
      have hin : i < n := by omega
      obtain ⟨ba, oa, rfl, hrA⟩ := hra.resolve_left (by omega)
      obtain ⟨bb, ob, rfl, hrB⟩ := hrb.resolve_left (by omega)
      have hea : Ints triK (elem xs 21 i) := hia.elem hin
      have heb : Ints triK (elem ys 21 i) := hib.elem hin
      refine TC_draw [(0, 0), (1, 0), (2, 0), (3, 0), (4, 0), (5, 0), (6, 0), (7, 0), (8, 0)] YtjdaglmkljbfkaaDoorF.mixed (by kernel_rfl) (St.calm _ _) ?_
      refine TV_q rfl rfl rfl (fun _ => QT_move rfl rfl rfl) ?_
      refine TV_q rfl rfl rfl (fun _ => QT_move rfl rfl rfl) ?_
      refine TV_q rfl rfl rfl (fun _ => QT_indexSlice (i) rfl rfl Tryd.underlying42 YtjdaglmkljbfkaaDoorF.sz_69 rfl rfl (rfl) (fun _ => hin)) ?_
      refine TV_ql rfl rfl rfl (QT_loadRA rfl rfl Tryd.underlying69 rfl YtjdaglmkljbfkaaDoorF.sz_69 hrA rfl (fun _ => by omega)) ?_
      refine TV_q rfl rfl rfl (fun _ => QT_move rfl rfl rfl) ?_
      refine TV_q rfl rfl rfl (fun _ => QT_move rfl rfl rfl) ?_
      refine TV_q rfl rfl rfl (fun _ => QT_indexSlice (i) rfl rfl Tryd.underlying42 YtjdaglmkljbfkaaDoorF.sz_69 rfl rfl (rfl) (fun _ => hin)) ?_
      refine TV_ql rfl rfl rfl (QT_loadRA rfl rfl Tryd.underlying69 rfl YtjdaglmkljbfkaaDoorF.sz_69 hrB rfl (fun _ => by omega)) ?_
      refine TV_q rfl rfl rfl (fun _ => QT_neA rfl rfl eq_Tri rfl rfl (fun _ => hea) (fun _ => heb)) ?_
      refine TV_end ?_
      refine TX_then ?_
      first
        | refine TC_cond_dec rfl (fun h25 => ?_) (fun h25 => ?_)
        | refine TC_cond rfl (fun h25 => ?_) (fun h25 => ?_)
      ·
        refine TC_seq ?_
        refine TC_reg ?_
        refine TL_q rfl rfl (QT_assign rfl rfl rfl) ?_
        refine TL_nil ?_
        refine TX_then ?_
        refine TC_ret ?_
        refine TX_block_ret ?_
        refine TX_then_ret ?_
        refine TX_then_ret ?_
        refine TX_block_ret ?_
        refine TX_then_ret ?_
        exact TX_ret (.inl rfl) (res1 rfl rfl) ⟨_, ⟨(by
         have h1 : eqC (elem xs 21 i) (elem ys 21 i) = false := by simpa [elem] using h25
         rw [eqC_ne hia hib]
         intro e
         rw [e, eqC_refl heb] at h1
         cases h1), rfl⟩, (fun _ h => by first | exact h | exact h.tail | exact h.tail.tail | exact h.tail.tail.tail | exact h.tail.tail.tail.tail | exact h.tail.tail.tail.tail.tail | exact h.tail.tail.tail.tail.tail.tail | exact h.tail.tail.tail.tail.tail.tail.tail | exact h.tail.tail.tail.tail.tail.tail.tail.tail | exact h.tail.tail.tail.tail.tail.tail.tail.tail.tail | exact h.tail.tail.tail.tail.tail.tail.tail.tail.tail.tail | exact h.tail.tail.tail.tail.tail.tail.tail.tail.tail.tail.tail | exact h.tail.tail.tail.tail.tail.tail.tail.tail.tail.tail.tail.tail | exact h.tail.tail.tail.tail.tail.tail.tail.tail.tail.tail.tail.tail.tail)⟩
      ·
        refine TC_skip ?_
        refine TX_block_normal ?_
        refine TX_then ?_
        refine TC_reg ?_
        refine TL_q rfl rfl (QT_move rfl rfl rfl) ?_
        refine TL_q rfl rfl (QT_add rfl rfl rfl rfl (fun _ => ⟨by omega, by omega⟩)) ?_
        refine TL_q rfl rfl (QT_assign rfl rfl rfl) ?_
        refine TL_nil ?_
        refine TX_round ⟨i + 1, by omega, ?_⟩ (by dsimp only; omega) ⟨rfl, rfl, slotI rfl (by dsimp only; omega), trivial⟩ (fun _ h => h)
        rw [take_succ_elem, take_succ_elem, he, (eqC_iff hea heb).1 (by simpa [elem] using h25)]
    ·
      refine TC_exit ?_
      refine TX_then_exit ?_
      refine TX_then_exit ?_
      refine TX_block_here ?_
      refine TX_then ?_
      refine TC_seq ?_
      refine TC_reg ?_
      refine TL_q rfl rfl (QT_assign rfl rfl rfl) ?_
      refine TL_nil ?_
      refine TX_then ?_
      refine TC_ret ?_
      exact TX_ret (.inl rfl) (res1 rfl rfl) ⟨_, ⟨(by
       have hin : i = n := by omega
       subst hin
       rw [List.take_of_length_le (by omega), List.take_of_length_le (by omega)] at he
       subst he
       rw [eqC_refl hia]), rfl⟩, (fun _ h => by first | exact h | exact h.tail | exact h.tail.tail | exact h.tail.tail.tail | exact h.tail.tail.tail.tail | exact h.tail.tail.tail.tail.tail | exact h.tail.tail.tail.tail.tail.tail | exact h.tail.tail.tail.tail.tail.tail.tail | exact h.tail.tail.tail.tail.tail.tail.tail.tail | exact h.tail.tail.tail.tail.tail.tail.tail.tail.tail | exact h.tail.tail.tail.tail.tail.tail.tail.tail.tail.tail | exact h.tail.tail.tail.tail.tail.tail.tail.tail.tail.tail.tail | exact h.tail.tail.tail.tail.tail.tail.tail.tail.tail.tail.tail.tail | exact h.tail.tail.tail.tail.tail.tail.tail.tail.tail.tail.tail.tail.tail)⟩
end Go.Proofs.YtjdaglmkljbfkaaDoor
namespace Go.Proofs.YtjdaglmkljbfkaaDoor
open Go Go.Gx Go.RowKit
set_option maxRecDepth 100000

theorem two_rooms (rest xs mm : List Value) (n s : Nat) (h : xs.length = n * s) (hr : rest.length = (n + 3) * s) (hm : mm.length = 3 * s) :
    (rest.take (0 * s) ++ xs ++ rest.drop (0 * s + xs.length)).take ((0 + n) * s) ++ mm ++ (rest.take (0 * s) ++ xs ++ rest.drop (0 * s + xs.length)).drop ((0 + n) * s + mm.length) = xs ++ mm := by
  simp only [Nat.zero_mul, List.take_zero, List.nil_append, Nat.zero_add, ← h]
  rw [List.take_left, List.drop_append, List.drop_of_length_le (by omega), List.nil_append, List.drop_drop, List.drop_of_length_le (by rw [hr, h, hm, Nat.add_mul]; omega), List.append_nil]

def zs (ks : List IntKind) : List Value := ks.map fun k => .int k 0
theorem zs_ints : ∀ ks : List IntKind, Ints ks (zs ks)
  | [] => .nil
  | k :: ks => .cons (by cases k <;> rfl) (zs_ints ks)
theorem same_Sheets (w0 : Base) (η : Heap) (va vb : Value) (n m : Nat) (xs ys : List Value) (ha : SlA (St w0 η) va sheetK.length n xs) (hb : SlA (St w0 η) vb sheetK.length m ys) (hia : Ints (rep n sheetK) xs) (hib : Ints (rep m sheetK) ys) :
    CallsT Tryd.prog 18 [va, vb] (St w0 η) fun v A' => v = .bool (eqC xs ys) ∧ A' = St w0 η := by
  refine CallsT.body Tryd.func18 rfl rfl ?_
  simp only [Tryd.ntmps18, slotsOf, Nat.reduceAdd]
  refine TC_seq ?_
  refine TC_reg ?_
  refine TL_q rfl rfl (QT_assign rfl rfl rfl) ?_
  refine TL_nil ?_
  refine TX_then ?_
  refine TC_seq ?_
  refine TC_reg ?_
  refine TL_q rfl rfl (QT_move rfl rfl rfl) ?_
  refine TL_q rfl rfl (QT_move rfl rfl rfl) ?_
  refine TL_cq rfl rfl rfl rfl YtjdaglmkljbfkaaDoorF.cal_24 rfl (fun _ => same_Sheet w0 _ va vb n m xs ys ha hb hia hib) ?_
  refine TL_q rfl rfl (QT_assign rfl rfl rfl) ?_
  refine TL_nil ?_
  refine TX_then ?_
  refine TC_ret ?_
  exact TX_ret (.inl rfl) (res1 rfl rfl) ⟨_, ⟨rfl, rfl⟩, (fun _ h => by first | exact h | exact h.tail | exact h.tail.tail | exact h.tail.tail.tail | exact h.tail.tail.tail.tail | exact h.tail.tail.tail.tail.tail | exact h.tail.tail.tail.tail.tail.tail | exact h.tail.tail.tail.tail.tail.tail.tail | exact h.tail.tail.tail.tail.tail.tail.tail.tail | exact h.tail.tail.tail.tail.tail.tail.tail.tail.tail | exact h.tail.tail.tail.tail.tail.tail.tail.tail.tail.tail | exact h.tail.tail.tail.tail.tail.tail.tail.tail.tail.tail.tail | exact h.tail.tail.tail.tail.tail.tail.tail.tail.tail.tail.tail.tail | exact h.tail.tail.tail.tail.tail.tail.tail.tail.tail.tail.tail.tail.tail)⟩
theorem same_Recs (w0 : Base) (η : Heap) (va vb : Value) (n m : Nat) (xs ys : List Value) (ha : SlA (St w0 η) va recK.length n xs) (hb : SlA (St w0 η) vb recK.length m ys) (hia : Ints (rep n recK) xs) (hib : Ints (rep m recK) ys) :
    CallsT Tryd.prog 14 [va, vb] (St w0 η) fun v A' => v = .bool (eqC xs ys) ∧ A' = St w0 η := by
  refine CallsT.body Tryd.func14 rfl rfl ?_
  simp only [Tryd.ntmps14, slotsOf, Nat.reduceAdd]
  refine TC_seq ?_
  refine TC_reg ?_
  refine TL_q rfl rfl (QT_assign rfl rfl rfl) ?_
  refine TL_nil ?_
  refine TX_then ?_
  refine TC_seq ?_
  refine TC_reg ?_
  refine TL_q rfl rfl (QT_move rfl rfl rfl) ?_
  refine TL_q rfl rfl (QT_move rfl rfl rfl) ?_
  refine TL_cq rfl rfl rfl rfl YtjdaglmkljbfkaaDoorF.cal_23 rfl (fun _ => same_Rec w0 _ va vb n m xs ys ha hb hia hib) ?_
  refine TL_q rfl rfl (QT_assign rfl rfl rfl) ?_
  refine TL_nil ?_
  refine TX_then ?_
  refine TC_ret ?_
  exact TX_ret (.inl rfl) (res1 rfl rfl) ⟨_, ⟨rfl, rfl⟩, (fun _ h => by first | exact h | exact h.tail | exact h.tail.tail | exact h.tail.tail.tail | exact h.tail.tail.tail.tail | exact h.tail.tail.tail.tail.tail | exact h.tail.tail.tail.tail.tail.tail | exact h.tail.tail.tail.tail.tail.tail.tail | exact h.tail.tail.tail.tail.tail.tail.tail.tail | exact h.tail.tail.tail.tail.tail.tail.tail.tail.tail | exact h.tail.tail.tail.tail.tail.tail.tail.tail.tail.tail | exact h.tail.tail.tail.tail.tail.tail.tail.tail.tail.tail.tail | exact h.tail.tail.tail.tail.tail.tail.tail.tail.tail.tail.tail.tail | exact h.tail.tail.tail.tail.tail.tail.tail.tail.tail.tail.tail.tail.tail)⟩
theorem same_Tiles (w0 : Base) (η : Heap) (va vb : Value) (n m : Nat) (xs ys : List Value) (ha : SlA (St w0 η) va patchK.length n xs) (hb : SlA (St w0 η) vb patchK.length m ys) (hia : Ints (rep n patchK) xs) (hib : Ints (rep m patchK) ys) :
    CallsT Tryd.prog 19 [va, vb] (St w0 η) fun v A' => v = .bool (eqC xs ys) ∧ A' = St w0 η := by
  refine CallsT.body Tryd.func19 rfl rfl ?_
  simp only [Tryd.ntmps19, slotsOf, Nat.reduceAdd]
  refine TC_seq ?_
  refine TC_reg ?_
  refine TL_q rfl rfl (QT_assign rfl rfl rfl) ?_
  refine TL_nil ?_
  refine TX_then ?_
  refine TC_seq ?_
  refine TC_reg ?_
  refine TL_q rfl rfl (QT_move rfl rfl rfl) ?_
  refine TL_q rfl rfl (QT_move rfl rfl rfl) ?_
  refine TL_cq rfl rfl rfl rfl YtjdaglmkljbfkaaDoorF.cal_42 rfl (fun _ => same_Patch w0 _ va vb n m xs ys ha hb hia hib) ?_
  refine TL_q rfl rfl (QT_assign rfl rfl rfl) ?_
  refine TL_nil ?_
  refine TX_then ?_
  refine TC_ret ?_
  exact TX_ret (.inl rfl) (res1 rfl rfl) ⟨_, ⟨rfl, rfl⟩, (fun _ h => by first | exact h | exact h.tail | exact h.tail.tail | exact h.tail.tail.tail | exact h.tail.tail.tail.tail | exact h.tail.tail.tail.tail.tail | exact h.tail.tail.tail.tail.tail.tail | exact h.tail.tail.tail.tail.tail.tail.tail | exact h.tail.tail.tail.tail.tail.tail.tail.tail | exact h.tail.tail.tail.tail.tail.tail.tail.tail.tail | exact h.tail.tail.tail.tail.tail.tail.tail.tail.tail.tail | exact h.tail.tail.tail.tail.tail.tail.tail.tail.tail.tail.tail | exact h.tail.tail.tail.tail.tail.tail.tail.tail.tail.tail.tail.tail | exact h.tail.tail.tail.tail.tail.tail.tail.tail.tail.tail.tail.tail.tail)⟩
theorem same_Tris (w0 : Base) (η : Heap) (va vb : Value) (n m : Nat) (xs ys : List Value) (ha : SlA (St w0 η) va triK.length n xs) (hb : SlA (St w0 η) vb triK.length m ys) (hia : Ints (rep n triK) xs) (hib : Ints (rep m triK) ys) :
    CallsT Tryd.prog 15 [va, vb] (St w0 η) fun v A' => v = .bool (eqC xs ys) ∧ A' = St w0 η := by
  refine CallsT.body Tryd.func15 rfl rfl ?_
  simp only [Tryd.ntmps15, slotsOf, Nat.reduceAdd]
  refine TC_seq ?_
  refine TC_reg ?_
  refine TL_q rfl rfl (QT_assign rfl rfl rfl) ?_
  refine TL_nil ?_
  refine TX_then ?_
  refine TC_seq ?_
  refine TC_reg ?_
  refine TL_q rfl rfl (QT_move rfl rfl rfl) ?_
  refine TL_q rfl rfl (QT_move rfl rfl rfl) ?_
  refine TL_cq rfl rfl rfl rfl YtjdaglmkljbfkaaDoorF.cal_34 rfl (fun _ => same_Tri w0 _ va vb n m xs ys ha hb hia hib) ?_
  refine TL_q rfl rfl (QT_assign rfl rfl rfl) ?_
  refine TL_nil ?_
  refine TX_then ?_
  refine TC_ret ?_
  exact TX_ret (.inl rfl) (res1 rfl rfl) ⟨_, ⟨rfl, rfl⟩, (fun _ h => by first | exact h | exact h.tail | exact h.tail.tail | exact h.tail.tail.tail | exact h.tail.tail.tail.tail | exact h.tail.tail.tail.tail.tail | exact h.tail.tail.tail.tail.tail.tail | exact h.tail.tail.tail.tail.tail.tail.tail | exact h.tail.tail.tail.tail.tail.tail.tail.tail | exact h.tail.tail.tail.tail.tail.tail.tail.tail.tail | exact h.tail.tail.tail.tail.tail.tail.tail.tail.tail.tail | exact h.tail.tail.tail.tail.tail.tail.tail.tail.tail.tail.tail | exact h.tail.tail.tail.tail.tail.tail.tail.tail.tail.tail.tail.tail | exact h.tail.tail.tail.tail.tail.tail.tail.tail.tail.tail.tail.tail.tail)⟩
end Go.Proofs.YtjdaglmkljbfkaaDoor
namespace Go.Proofs.YtjdaglmkljbfkaaDoor
open Go Go.Gx Go.RowKit
set_option maxRecDepth 100000

end Go.Proofs.YtjdaglmkljbfkaaDoor
namespace Go.Proofs.YtjdaglmkljbfkaaDoor
open Go Go.Gx Go.RowKit
set_option maxRecDepth 100000

structure Bk where
  many : Int
  bytes : Value
  bits : Value
  fixes : Value
  recs : Value
  tris : Value
  sheets : Value
  tiles : Value
  dots : Value
  facets : Value
  tokens : Value
  codes : Value
  vals : Value
  spots : Value
def Bk.cells (k : Bk) : List Value := [.int .i64 k.many, k.bytes, k.bits, k.fixes, k.recs, k.tris, k.sheets, k.tiles, k.dots, k.facets, k.tokens, k.codes, k.vals, k.spots]
def nilS : Value := .slice none 0 0
def Bk.new : Bk := ⟨0, nilS, nilS, nilS, nilS, nilS, nilS, nilS, nilS, nilS, nilS, nilS, nilS, nilS⟩

def shMark (c : Int) : List Value := .int .u8 9 :: .int .u32 0 :: .int .u32 0 :: .int .u32 0 :: .int .u32 0 :: .int .u32 0 :: .int .u32 0 :: .int .u32 0 :: .int .u32 c :: (zs (sheetK.drop 9))
def tlMark (c : Int) : List Value := zs (patchK.take 14) ++ .int .u32 c :: zs (patchK.drop 15)
theorem u32_wf {c : Int} (h : 0 ≤ c ∧ c ≤ 2000) : (Lit.int .u32 c).wf = true := by
  have h1 : IntKind.u32.min = 0 := rfl
  have h2 : IntKind.u32.max = 4294967295 := rfl
  simp only [Lit.wf, Bool.and_eq_true, decide_eq_true_eq]
  omega
theorem shMark_ints {c : Int} (h : 0 ≤ c ∧ c ≤ 2000) : Ints sheetK (shMark c) := by
  have e : sheetK = [.u8, .u32, .u32, .u32, .u32, .u32, .u32, .u32] ++ (.u32 :: sheetK.drop 9) := by decide
  have e2 : shMark c = [.int .u8 9, .int .u32 0, .int .u32 0, .int .u32 0, .int .u32 0, .int .u32 0, .int .u32 0, .int .u32 0] ++ (.int .u32 c :: zs (sheetK.drop 9)) := rfl
  rw [e2]
  conv => arg 1; rw [e]
  refine Ints.append ?_ (.cons (u32_wf h) (zs_ints _))
  exact .cons (by decide) (.cons (by decide) (.cons (by decide) (.cons (by decide) (.cons (by decide) (.cons (by decide) (.cons (by decide) (.cons (by decide) .nil)))))))
theorem tlMark_ints {c : Int} (h : 0 ≤ c ∧ c ≤ 2000) : Ints patchK (tlMark c) := by
  have e : patchK = patchK.take 14 ++ (.u32 :: patchK.drop 15) := by decide
  unfold tlMark
  conv => arg 1; rw [e]
  exact Ints.append (zs_ints _) (.cons (u32_wf h) (zs_ints _))

end Go.Proofs.YtjdaglmkljbfkaaDoor
namespace Go.Proofs.YtjdaglmkljbfkaaDoor
open Go Go.Gx Go.RowKit
set_option maxRecDepth 100000

def rcMark (c : Int) : List Value := .int .u8 0 :: .int .u32 c :: zs (recK.drop 2)
def trMark (c : Int) : List Value := .int .u8 0 :: .int .u32 c :: zs (triK.drop 2)
theorem rcMark_ints {c : Int} (h : 0 ≤ c ∧ c ≤ 2000) : Ints recK (rcMark c) :=
  show Ints (.u8 :: .u32 :: recK.drop 2) (rcMark c) from .cons (by decide) (.cons (u32_wf h) (zs_ints _))
theorem trMark_ints {c : Int} (h : 0 ≤ c ∧ c ≤ 2000) : Ints triK (trMark c) :=
  show Ints (.u8 :: .u32 :: triK.drop 2) (trMark c) from .cons (by decide) (.cons (u32_wf h) (zs_ints _))

end Go.Proofs.YtjdaglmkljbfkaaDoor
namespace Go.Proofs.YtjdaglmkljbfkaaDoor
open Go Go.Gx Go.RowKit
set_option maxRecDepth 100000

theorem mark1 {m : List Value} (h : Ints byteK m) : ∃ c : Int, m = [.int .u8 c] := by
  obtain ⟨z, cs, rfl, _, h2⟩ := (show Ints (.u8 :: []) m from h).inv
  obtain rfl := h2.inv_nil
  exact ⟨z, rfl⟩
theorem at1 {l : List Value} {o : Nat} {v : Value} (h : (l.drop o).take 1 = [v]) : l[o]? = some v := by
  have := congrArg (fun x => x[0]?) h
  simpa using this
end Go.Proofs.YtjdaglmkljbfkaaDoor
namespace Go.Proofs.YtjdaglmkljbfkaaDoor
open Go Go.Gx Go.RowKit
set_option maxRecDepth 100000

end Go.Proofs.YtjdaglmkljbfkaaDoor
namespace Go.Proofs.YtjdaglmkljbfkaaDoor
open Go Go.Gx
set_option maxRecDepth 100000
def rkK (p : Nat) : IntKind := if p = 0 then .u8 else if p < 3 then .u32 else .u16
def rkM (p : Nat) : Nat := if p = 0 then 256 else if p < 3 then 4294967296 else 65536
theorem recK_at {p : Nat} (h : p < 7) : recK[p]? = some (rkK p) := (show ∀ p : Fin 7, recK[p.1]? = some (rkK p.1) by decide) ⟨p, h⟩
theorem recK_len : recK.length = 7 := by decide
def rvV (xs : List Nat) : List Value := List.zipWith (fun (k : IntKind) (x : Nat) => Value.int k (x : Int)) recK xs
theorem rvV_len {xs : List Nat} (h : xs.length = 7) : (rvV xs).length = 7 := by rw [rvV, List.length_zipWith, recK_len, h]; rfl
theorem rvV_at {xs : List Nat} {p x : Nat} (hp : p < 7) (h : xs[p]? = some x) : (rvV xs)[p]? = some (.int (rkK p) (x : Int)) := by
  rw [rvV, List.getElem?_zipWith, recK_at hp, h]
theorem rvV_set {xs : List Nat} {p v : Nat} (hp : p < 7) : (rvV xs).set p (.int (rkK p) (v : Int)) = rvV (xs.set p v) := by
  apply List.ext_getElem?
  intro k
  rw [List.getElem?_set]
  by_cases e : p = k
  · subst e
    rw [if_pos rfl]
    by_cases hl : p < xs.length
    · rw [if_pos (by rw [rvV, List.length_zipWith, recK_len]; omega), rvV_at (x := v) hp (by rw [List.getElem?_set, if_pos rfl, if_pos hl])]
    · rw [if_neg (by rw [rvV, List.length_zipWith]; omega), rvV, List.getElem?_zipWith, List.getElem?_eq_none (l := xs.set p v) (by rw [List.length_set]; omega), recK_at hp]
  · rw [if_neg e, rvV, rvV, List.getElem?_zipWith, List.getElem?_zipWith, List.getElem?_set, if_neg e]
/-- how wide a record's numbers are -/
def flN (L : Lay) : Nat := (flb L).toNat
def wdR (L : Lay) (p : Nat) : Nat := if p = 0 then flN L else if p < 3 then L.co.toNat else if p - 3 < L.cs.toNat then L.cm.toNat else 0
def wR (L : Lay) : Ws := (List.range 7).map fun p => (wdR L p, rkM p)
theorem wR_len (L : Lay) : (wR L).length = 7 := by simp [wR]
theorem wR_at {L : Lay} {p : Nat} (h : p < 7) : (wR L)[p]? = some (wdR L p, rkM p) := by rw [wR, List.getElem?_map, List.getElem?_range h]; rfl
/-- a record's numbers -/
structure RcF (r : List Nat) : Prop where
  len : r.length = 7
  lt : ∀ {p x}, r[p]? = some x → x < rkM p
theorem rkM_le (p : Nat) : rkM p ≤ 4294967296 := by unfold rkM; split; decide; split <;> decide
theorem get7 {r : List Nat} (h : r.length = 7) {p : Nat} (hp : p < 7) : ∃ x, r[p]? = some x := ⟨_, List.getElem?_eq_getElem (by omega)⟩
theorem flN_bd {L : Lay} (h : okB L = true) : flN L ≤ 8 ∧ (flN L : Int) = flb L := by
  have hb := (okB_bounds h).2.2.2.2.2
  have : 0 ≤ flb L ∧ flb L ≤ 8 := by
    unfold flb
    split
    · omega
    · have := hb (by assumption); omega
  unfold flN; omega
theorem wdR_le {L : Lay} (h : okB L = true) (p : Nat) : wdR L p ≤ 32 := by
  have h1 := (flN_bd h).1
  have h2 := (okB_bounds h).1
  have h3 := (okB_bounds h).2.1
  unfold wdR; split
  · omega
  · split
    · omega
    · split <;> omega
theorem wdR_m {L : Lay} (h : okB L = true) (p : Nat) : 2 ^ wdR L p ≤ rkM p := by
  have h1 := (flN_bd h).1
  have h2 := (okB_bounds h).1
  have h3 := (okB_bounds h).2.1
  unfold wdR rkM; split
  · exact Nat.le_trans (Nat.pow_le_pow_right (by decide) h1) (by decide)
  · split
    · exact Nat.le_trans (Nat.pow_le_pow_right (by decide) (show L.co.toNat ≤ 32 by omega)) (by decide)
    · split
      · exact Nat.le_trans (Nat.pow_le_pow_right (by decide) (show L.cm.toNat ≤ 16 by omega)) (by decide)
      · decide
theorem wR_le {L : Lay} (h : okB L = true) : ∀ p ∈ wR L, p.1 ≤ 32 := by
  intro p hp
  obtain ⟨k, _, rfl⟩ := List.mem_map.1 hp
  exact wdR_le h k
theorem wR_mm {L : Lay} (h : okB L = true) : ∀ p ∈ wR L, 2 ^ p.1 ≤ p.2 := by
  intro p hp
  obtain ⟨k, _, rfl⟩ := List.mem_map.1 hp
  exact wdR_m h k
theorem wR_m (L : Lay) : ∀ p ∈ wR L, 0 < p.2 := by
  intro p hp
  obtain ⟨k, _, rfl⟩ := List.mem_map.1 hp
  show 0 < rkM k
  unfold rkM; split; decide; split <;> decide
theorem Und_ofR : ∀ {ws : Ws} {xs : List Nat}, ws.length = xs.length → (∀ (k w m x : Nat), ws[k]? = some (w, m) → xs[k]? = some x → x < m) → Und ws xs
  | [], [], _, _ => trivial
  | [], _ :: _, h, _ => by simp at h
  | _ :: _, [], h, _ => by simp at h
  | (w, m) :: ws, x :: xs, h, hk => ⟨hk 0 w m x rfl rfl, Und_ofR (by simpa using h) fun k w m x h1 h2 => hk (k + 1) w m x h1 h2⟩
theorem Und_atR : ∀ {ws : Ws} {xs : List Nat}, Und ws xs → ∀ {k w m x : Nat}, ws[k]? = some (w, m) → xs[k]? = some x → x < m
  | [], [], _, k, w, m, x, h, _ => by simp at h
  | [], _ :: _, h, _, _, _, _, _, _ => h.elim
  | _ :: _, [], h, _, _, _, _, _, _ => h.elim
  | (w, m) :: ws, x :: xs, h, 0, _, _, _, h1, h2 => by cases h1; cases h2; exact h.1
  | (w, m) :: ws, x :: xs, h, k + 1, _, _, _, h1, h2 => Und_atR h.2 h1 h2
theorem RcF.und {r : List Nat} (h : RcF r) (L : Lay) : Und (wR L) r := by
  refine Und_ofR (by rw [wR_len, h.len]) fun k w m x h1 h2 => ?_
  have hk : k < 7 := by rw [← h.len]; exact (List.getElem?_eq_some_iff.1 h2).1
  rw [wR_at hk] at h1
  cases h1
  exact h.lt h2
theorem Und.rcf {r : List Nat} {L : Lay} (h : Und (wR L) r) : RcF r := by
  have hl := h.len
  rw [wR_len] at hl
  refine ⟨hl.symm, fun {p x} hx => ?_⟩
  have hk : p < 7 := by rw [hl]; exact (List.getElem?_eq_some_iff.1 hx).1
  exact Und_atR h (wR_at hk) hx
def fitR (L : Lay) (r : List Nat) : Bool := fitB (wR L) r
def encR (L : Lay) (r : List Nat) : List Bool := enc (wR L) r
def packR (L : Lay) (r : List Nat) : List Nat := packB (encR L r)
def bytesR (L : Lay) (rs : List (List Nat)) : List Nat := rs.flatMap (packR L)
def dcR (L : Lay) (l : List Bool) : List Nat := dec (wR L) l
def szR (L : Lay) : Nat := (tot (wR L) + 7) / 8
theorem tot_wR {L : Lay} (h : okB L = true) : tot (wR L) = flN L + 2 * L.co.toNat + L.cs.toNat * L.cm.toNat := by
  have hs := (okB_bounds h).2.2.1
  obtain ⟨c, hc⟩ : ∃ c, c = L.cs.toNat := ⟨_, rfl⟩
  have e : tot (wR L) = flN L + (L.co.toNat + (L.co.toNat + ((if 0 < L.cs.toNat then L.cm.toNat else 0) + ((if 1 < L.cs.toNat then L.cm.toNat else 0) + ((if 2 < L.cs.toNat then L.cm.toNat else 0) + ((if 3 < L.cs.toNat then L.cm.toNat else 0) + 0)))))) := rfl
  rw [e, ← hc]
  have : c = 1 ∨ c = 2 ∨ c = 3 ∨ c = 4 := by omega
  rcases this with h | h | h | h <;> rw [h] <;> simp <;> omega
theorem sizeR_eq {L : Lay} (h : okB L = true) (hty : L.ty = 4 ∨ L.ty = 5) (f : Int) : sizeZ L f = (szR L : Int) := by
  have hb := okB_bounds h
  have h1 := flN_bd h
  have e2 : L.co = (L.co.toNat : Int) := by omega
  have e3 : L.cm = (L.cm.toNat : Int) := by omega
  have e4 : L.cs = (L.cs.toNat : Int) := by omega
  have ep : ptsZ L f = 1 := by unfold ptsZ; rw [if_neg (by omega), if_neg (by omega)]
  have ec : colZ L f = 1 := by unfold colZ; rw [if_neg (by omega)]
  have et : bitsZ L f = (tot (wR L) : Int) := by
    unfold bitsZ
    rw [ep, ec, tot_wR h, Int.natCast_add, Int.natCast_add, h1.2, Int.natCast_mul, Int.natCast_mul, ← e2, ← e3, ← e4, Int.one_mul, Int.add_assoc]
    rfl
  unfold sizeZ szR
  rw [if_pos h, et]
  omega
theorem szR_bd {L : Lay} (h : okB L = true) : 1 ≤ szR L ∧ szR L ≤ 17 ∧ tot (wR L) ≤ 136 ∧ 3 ≤ tot (wR L) := by
  have hb := okB_bounds h
  have h1 := (flN_bd h).1
  have h2 := mul_bd (a := L.cs) (b := L.cm) (by omega) (by omega) (by omega) (by omega)
  have h3 := tot_wR h
  have e : ((L.cs.toNat * L.cm.toNat : Nat) : Int) = L.cs * L.cm := by rw [Int.natCast_mul]; congr 1 <;> omega
  unfold szR
  omega
theorem RcF.enc_len {r : List Nat} (h : RcF r) (L : Lay) : (encR L r).length = tot (wR L) := _root_.Go.Proofs.YtjdaglmkljbfkaaDoor.enc_len (by rw [wR_len, h.len])
theorem packR_len {L : Lay} {r : List Nat} (h : RcF r) : (packR L r).length = szR L := by rw [packR, packB_len, h.enc_len]; rfl
theorem dcR_rcf (L : Lay) (l : List Bool) : RcF (dcR L l) := Und.rcf (L := L) (dec_und l (wR_m L))
theorem bytesR_append (L : Lay) (a b : List (List Nat)) : bytesR L (a ++ b) = bytesR L a ++ bytesR L b := by simp [bytesR]
theorem bytesR_lt (L : Lay) (rs : List (List Nat)) : ∀ c ∈ bytesR L rs, c < 256 := by
  intro c hc
  obtain ⟨y, _, h⟩ := List.mem_flatMap.1 hc
  exact packB_lt _ c h
theorem bytesR_len {L : Lay} : ∀ {rs : List (List Nat)}, (∀ r ∈ rs, RcF r) → (bytesR L rs).length = rs.length * szR L
  | [], _ => by simp [bytesR]
  | r :: rs, h => by
    have h1 := packR_len (L := L) (h r (List.mem_cons_self ..))
    have h3 := bytesR_len (L := L) (rs := rs) fun z hz => h z (List.mem_cons_of_mem _ hz)
    have e : bytesR L (r :: rs) = packR L r ++ bytesR L rs := by simp [bytesR]
    rw [e, List.length_append, List.length_cons, Nat.add_mul]
    omega
/-- the k-th record of bytes -/
def recAt (L : Lay) (bs : List Nat) (k : Nat) : List Nat := dcR L (byB (bs.drop (k * szR L)))
def recsB (L : Lay) (bs : List Nat) (n : Nat) : List (List Nat) := (List.range n).map (recAt L bs)
def okR (L : Lay) : Prop := okB L = true ∧ L.ty ≤ 5
theorem ty45 {L : Lay} (h : okR L) : L.ty = 4 ∨ L.ty = 5 := by
  have := (okB_bounds h.1).2.2.2.1
  have := h.2
  omega
def errRG (L : Lay) (bs : List Nat) : Int := if okB L = true ∧ L.ty ≤ 5 then (if 65536 < bs.length then 3 else if bs.length % szR L = 0 then 0 else 5) else 4
def outRG (L : Lay) (bs : List Nat) : List (List Nat) := if errRG L bs = 0 then recsB L bs (bs.length / szR L) else []
def errRP (L : Lay) (rs : List (List Nat)) : Int := if okB L = true ∧ L.ty ≤ 5 then (if rs.all (fitR L) = true then (if 65536 < (bytesR L rs).length then 3 else 0) else 1) else 4
def outRP (L : Lay) (rs : List (List Nat)) : List Nat := if errRP L rs = 0 then bytesR L rs else []
/-- records, one behind the other, in memory -/
def flatR (rs : List (List Nat)) : List Value := (rs.map rvV).flatten
theorem flatR_cons (r : List Nat) (rs : List (List Nat)) : flatR (r :: rs) = rvV r ++ flatR rs := by simp [flatR]
theorem flatR_snoc (rs : List (List Nat)) (r : List Nat) : flatR (rs ++ [r]) = flatR rs ++ rvV r := by simp [flatR]
theorem flatR_append (a b : List (List Nat)) : flatR (a ++ b) = flatR a ++ flatR b := by simp [flatR]
theorem flatR_len : ∀ {rs : List (List Nat)}, (∀ r ∈ rs, RcF r) → (flatR rs).length = rs.length * 7
  | [], _ => rfl
  | r :: rs, h => by
    have h1 := rvV_len (h r (List.mem_cons_self ..)).len
    have h2 := flatR_len (rs := rs) fun z hz => h z (List.mem_cons_of_mem _ hz)
    rw [flatR_cons, List.length_append, h1, h2, List.length_cons]; omega
theorem flatR_at : ∀ {rs : List (List Nat)}, (∀ r ∈ rs, RcF r) → ∀ {i : Nat} {r : List Nat}, rs[i]? = some r → i * 7 + 7 ≤ (flatR rs).length ∧ ((flatR rs).drop (i * 7)).take 7 = rvV r
  | [], _, i, r, hi => by simp at hi
  | z :: rs, h, 0, r, hi => by
    obtain rfl : z = r := by simpa using hi
    have h1 := rvV_len (h z (List.mem_cons_self ..)).len
    rw [flatR_cons, List.length_append, h1, Nat.zero_mul, List.drop_zero, List.take_append_of_le_length (by omega), List.take_of_length_le (by omega)]
    exact ⟨by omega, rfl⟩
  | z :: rs, h, i + 1, r, hi => by
    have h1 := rvV_len (h z (List.mem_cons_self ..)).len
    obtain ⟨h2, h3⟩ := flatR_at (rs := rs) (fun w hw => h w (List.mem_cons_of_mem _ hw)) (i := i) (r := r) (by simpa using hi)
    rw [flatR_cons, List.length_append, h1]
    refine ⟨by omega, ?_⟩
    rw [List.drop_append, List.drop_eq_nil_of_le (by omega), h1, List.nil_append, show (i + 1) * 7 - 7 = i * 7 by omega, h3]
theorem flatR_elem {rs : List (List Nat)} (h : ∀ r ∈ rs, RcF r) {i p : Nat} {r : List Nat} (hi : rs[i]? = some r) (hp : p < 7) : (flatR rs)[i * 7 + p]? = (rvV r)[p]? := by
  rw [← (flatR_at h hi).2, List.getElem?_take, if_pos hp, List.getElem?_drop]
theorem zip_intsR : ∀ {ks : List IntKind} {xs : List Nat}, ks.length = xs.length → (∀ (p : Nat) (k : IntKind) (x : Nat), ks[p]? = some k → xs[p]? = some x → (Lit.int k (x : Int)).wf = true) → Ints ks (List.zipWith (fun (k : IntKind) (x : Nat) => Value.int k (x : Int)) ks xs)
  | [], [], _, _ => .nil
  | [], _ :: _, h, _ => by simp at h
  | _ :: _, [], h, _ => by simp at h
  | k :: ks, x :: xs, h, hw => .cons (hw 0 k x rfl rfl) (zip_intsR (by simpa using h) fun p k x h1 h2 => hw (p + 1) k x h1 h2)
theorem rvV_ints {r : List Nat} (h : RcF r) : Ints recK (rvV r) := by
  refine zip_intsR (by rw [recK_len, h.len]) fun p k x hk hv => ?_
  have hp : p < 7 := by rw [← recK_len]; exact (List.getElem?_eq_some_iff.1 hk).1
  rw [recK_at hp] at hk
  cases hk
  have hx := h.lt hv
  have a1 : IntKind.u8.min = 0 := rfl
  have a2 : IntKind.u8.max = 255 := rfl
  have a3 : IntKind.u16.min = 0 := rfl
  have a4 : IntKind.u16.max = 65535 := rfl
  have a5 : IntKind.u32.min = 0 := rfl
  have a6 : IntKind.u32.max = 4294967295 := rfl
  unfold rkM at hx
  unfold rkK
  split
  · rename_i e; rw [if_pos e] at hx; simp only [Lit.wf, Bool.and_eq_true, decide_eq_true_eq]; omega
  · rename_i e
    rw [if_neg e] at hx
    split
    · rename_i e2; rw [if_pos e2] at hx; simp only [Lit.wf, Bool.and_eq_true, decide_eq_true_eq]; omega
    · rename_i e2; rw [if_neg e2] at hx; simp only [Lit.wf, Bool.and_eq_true, decide_eq_true_eq]; omega
theorem flatR_ints : ∀ {rs : List (List Nat)}, (∀ r ∈ rs, RcF r) → Ints (rep rs.length recK) (flatR rs)
  | [], _ => .nil
  | r :: rs, h => by
    have e2 : rep (r :: rs).length recK = recK ++ rep rs.length recK := by simp [rep, List.replicate_succ]
    rw [flatR_cons, e2]
    exact (rvV_ints (h r (List.mem_cons_self ..))).append (flatR_ints fun z hz => h z (List.mem_cons_of_mem _ hz))
end Go.Proofs.YtjdaglmkljbfkaaDoor
namespace Go.Proofs.YtjdaglmkljbfkaaDoor
open Go Go.Gx Go.RowKit
set_option maxRecDepth 100000
def errCR (L : Lay) : Int := if okB L = true ∧ L.ty ≤ 5 then 0 else 4
theorem rcheck0_spec (w0 : Base) (η : Heap) (hG : Sets w0) (L : Lay) :
    CallsT Tryd.prog 27 [L.val] (St w0 η) fun v A' => v = .int .i64 (errCR L) ∧ A' = St w0 η := by
  refine CallsT.body Tryd.func27 rfl rfl ?_
  simp only [Tryd.ntmps27, slotsOf, Nat.reduceAdd]
  refine TC_seq ?_
  refine TC_reg ?_
  refine TL_e rfl rfl rfl (rfl) (ET_box rfl rfl) ?_
  rintro _ _ ⟨b1, rfl, rfl⟩
  refine TL_q rfl rfl (QT_assign rfl rfl rfl) ?_
  refine TL_nil ?_
  refine TX_then ?_
  refine TC_seq ?_
  refine TC_seq ?_
  refine TC_reg ?_
  first
    | refine TL_q rfl rfl (QT_loadW 0 rfl rfl Tryd.underlying27 rfl rfl rfl YtjdaglmkljbfkaaDoorF.sz_27) ?_
    | refine TL_q rfl rfl (QT_loadW 1 rfl rfl Tryd.underlying27 rfl rfl rfl YtjdaglmkljbfkaaDoorF.sz_27) ?_
    | refine TL_q rfl rfl (QT_loadW 2 rfl rfl Tryd.underlying27 rfl rfl rfl YtjdaglmkljbfkaaDoorF.sz_27) ?_
    | refine TL_q rfl rfl (QT_loadA 0 rfl rfl Tryd.underlying27 rfl rfl rfl YtjdaglmkljbfkaaDoorF.sz_27 (fun _ => rfl)) ?_
    | refine TL_q rfl rfl (QT_loadA 1 rfl rfl Tryd.underlying27 rfl rfl rfl YtjdaglmkljbfkaaDoorF.sz_27 (fun _ => rfl)) ?_
    | refine TL_q rfl rfl (QT_loadA 2 rfl rfl Tryd.underlying27 rfl rfl rfl YtjdaglmkljbfkaaDoorF.sz_27 (fun _ => rfl)) ?_
  refine TL_cq rfl rfl rfl rfl YtjdaglmkljbfkaaDoorF.cal_10 rfl (fun _ => check_spec w0 _ hG L) ?_
  refine TL_q rfl rfl (QT_neq rfl rfl rfl rfl) ?_
  refine TL_q rfl rfl (QT_move rfl rfl rfl) ?_
  refine TL_q rfl rfl (QT_field rfl rfl YtjdaglmkljbfkaaDoorF.fld_27_0 rfl) ?_
  first
    | refine TL_q rfl rfl (QT_load 0 rfl rfl Tryd.underlying3 rfl rfl rfl (fun _ => rfl)) ?_
    | refine TL_q rfl rfl (QT_load 1 rfl rfl Tryd.underlying3 rfl rfl rfl (fun _ => rfl)) ?_
    | refine TL_q rfl rfl (QT_load 2 rfl rfl Tryd.underlying3 rfl rfl rfl (fun _ => rfl)) ?_
  refine TL_q rfl rfl (QT_gtr rfl rfl rfl rfl) ?_
  refine TL_q rfl rfl (QT_or rfl rfl rfl rfl) ?_
  refine TL_nil ?_
  refine TX_then ?_
  first
    | refine TC_cond_dec rfl (fun h10 => ?_) (fun h10 => ?_)
    | refine TC_cond rfl (fun h10 => ?_) (fun h10 => ?_)
  ·
    refine TC_seq ?_
    refine TC_reg ?_
    refine TL_q rfl rfl (QT_assign rfl rfl rfl) ?_
    refine TL_nil ?_
    refine TX_then ?_
    refine TC_ret ?_
    refine TX_then_ret ?_
    refine TX_ret (.inl rfl) (res1 rfl rfl) ⟨_, ⟨?_, rfl⟩, fun _ h => h.tail⟩
    have e : errCR L = 4 := by
      simp only [Bool.or_eq_true, decide_eq_true_eq] at h10
      unfold errCR
      rw [if_neg]
      rintro ⟨h1, h2⟩
      unfold errOf at h10
      rw [if_pos h1] at h10
      omega
    rw [e]
  ·
    refine TC_skip ?_
    refine TX_then ?_
    refine TC_seq ?_
    refine TC_reg ?_
    refine TL_q rfl rfl (QT_assign rfl rfl rfl) ?_
    refine TL_nil ?_
    refine TX_then ?_
    refine TC_ret ?_
    refine TX_ret (.inl rfl) (res1 rfl rfl) ⟨_, ⟨?_, rfl⟩, fun _ h => h.tail⟩
    have e : errCR L = 0 := by
      simp only [Bool.or_eq_false_iff, decide_eq_false_iff_not] at h10
      unfold errCR
      rw [if_pos]
      unfold errOf at h10
      refine ⟨?_, by omega⟩
      by_cases h1 : okB L = true
      · exact h1
      · rw [if_neg h1] at h10; omega
    rw [e]
def gF (k : Nat) : FuncId := if k = 0 then 56 else if k = 1 then 58 else if k = 2 then 60 else 62
def sF (k : Nat) : FuncId := if k = 0 then 57 else if k = 1 then 59 else if k = 2 then 61 else 63
theorem gF_ok (k : Nat) : CalleeOk Tryd.prog (gF k) := by
  unfold gF
  split
  · exact YtjdaglmkljbfkaaDoorF.cal_56
  · split
    · exact YtjdaglmkljbfkaaDoorF.cal_58
    · split
      · exact YtjdaglmkljbfkaaDoorF.cal_60
      · exact YtjdaglmkljbfkaaDoorF.cal_62
theorem sF_ok (k : Nat) : CalleeOk Tryd.prog (sF k) := by
  unfold sF
  split
  · exact YtjdaglmkljbfkaaDoorF.cal_57
  · split
    · exact YtjdaglmkljbfkaaDoorF.cal_59
    · split
      · exact YtjdaglmkljbfkaaDoorF.cal_61
      · exact YtjdaglmkljbfkaaDoorF.cal_63
def capF (ps : List Nat) (k : Nat) : Array Value := if k < 3 then #[] else #[.pointer (some ⟨ps.getD (k - 3) 0, 0, none⟩)]
def fld (L : Lay) (ps : List Nat) (k : Nat) : List Value := [.int .i64 (wdR L k : Int), .func (.func (gF k)) #[] (capF ps k), .func (.func (sF k)) #[] (capF ps k)]
def fldsC (L : Lay) (ps : List Nat) : Nat → List Value
  | 0 => []
  | n + 1 => fldsC L ps n ++ fld L ps n
theorem fldsC_len (L : Lay) (ps : List Nat) : ∀ n, (fldsC L ps n).length = n * 3
  | 0 => rfl
  | n + 1 => by rw [fldsC, List.length_append, fldsC_len L ps n, Nat.add_mul]; rfl
theorem fldsC_at (L : Lay) (ps : List Nat) : ∀ {n k j : Nat}, k < n → j < 3 → (fldsC L ps n)[k * 3 + j]? = (fld L ps k)[j]?
  | 0, k, j, h, _ => absurd h (by omega)
  | n + 1, k, j, h, hj => by
    rw [fldsC]
    by_cases e : k = n
    · subst e
      rw [List.getElem?_append_right (by rw [fldsC_len]; omega), fldsC_len, show k * 3 + j - k * 3 = j by omega]
    · rw [List.getElem?_append_left (by rw [fldsC_len]; omega)]
      exact fldsC_at L ps (by omega) hj
theorem capF_more {ps : List Nat} {p k : Nat} (h : k < 3 + ps.length) : capF (ps ++ [p]) k = capF ps k := by
  unfold capF
  by_cases hk : k < 3
  · rw [if_pos hk, if_pos hk]
  · rw [if_neg hk, if_neg hk, List.getD_eq_getElem?_getD, List.getD_eq_getElem?_getD, List.getElem?_append_left (by omega)]
theorem fldsC_more (L : Lay) {ps : List Nat} {p : Nat} : ∀ n, n ≤ 3 + ps.length → fldsC L (ps ++ [p]) n = fldsC L ps n
  | 0, _ => rfl
  | n + 1, h => by
    rw [fldsC, fldsC, fldsC_more L n (by omega)]
    unfold fld
    rw [capF_more (by omega)]
def psHeap : List Nat → Nat → Heap
  | [], _ => []
  | p :: ps, i => (p, 3, [.int .i64 (i : Int)]) :: psHeap ps (i + 1)
theorem psHeap_snoc : ∀ (ps : List Nat) (p i : Nat), psHeap (ps ++ [p]) i = psHeap ps i ++ [(p, 3, [.int .i64 ((i + ps.length : Nat) : Int)])]
  | [], p, i => rfl
  | q :: ps, p, i => by
    rw [List.cons_append, psHeap, psHeap_snoc ps p (i + 1), psHeap, List.cons_append, List.length_cons, show i + 1 + ps.length = i + (ps.length + 1) by omega]
theorem psHeap_mem : ∀ {ps : List Nat} {i c : Nat}, c < ps.length → (ps.getD c 0, 3, [.int .i64 ((i + c : Nat) : Int)]) ∈ psHeap ps i
  | [], i, c, h => absurd h (by simp)
  | p :: ps, i, 0, _ => List.mem_cons_self ..
  | p :: ps, i, c + 1, h => by
    have := psHeap_mem (ps := ps) (i := i + 1) (c := c) (by simpa using h)
    rw [show i + 1 + c = i + (c + 1) by omega] at this
    exact List.mem_cons_of_mem _ this
def zField : Value := .agg #[.int .i64 0, .nilFunc, .nilFunc]
theorem el_Field : ElemOk Tryd.prog 88 3 24 zField := .of YtjdaglmkljbfkaaDoorF.sz_88 (by kernel_rfl) (by unfold ZeroOk; kernel_rfl) (by kernel_rfl) (by decide)
theorem fld_one (L : Lay) (ps : List Nat) (k : Nat) : ∀ u ∈ fld L ps k, u.oneCell' = true := by
  intro u hu
  simp only [fld, List.mem_cons, List.not_mem_nil, or_false] at hu
  rcases hu with rfl | rfl | rfl <;> rfl
set_option maxHeartbeats 1000000 in
theorem fields_spec (w0 : Base) (η : Heap) (L : Lay) (hok : okB L = true) :
    CallsT Tryd.prog 28 [L.val] (St w0 η) fun v A' => ∃ ps H, ps.length = 4 ∧ Frag 88 3 v 7 (fldsC L ps 7) H ∧ A' = St w0 (H ++ (psHeap ps 0 ++ η)) := by
  have hfn := (flN_bd hok).2
  have hb := okB_bounds hok
  have hco : (L.co.toNat : Int) = L.co := by omega
  have hcm : (L.cm.toNat : Int) = L.cm := by omega
  have hcs : (L.cs.toNat : Int) = L.cs := by omega
  have lco : L.cells[0 + 1]? = some (.int .i64 (L.co.toNat : Int)) := by rw [hco]; rfl
  have lcm : L.cells[0 + 2]? = some (.int .i64 (L.cm.toNat : Int)) := by rw [hcm]; rfl
  have lcs : L.cells[0 + 4]? = some (.int .i64 (L.cs.toNat : Int)) := by rw [hcs]; rfl
  refine CallsT.body Tryd.func28 rfl rfl ?_
  simp only [Tryd.ntmps28, slotsOf, Nat.reduceAdd]
  refine TC_seq ?_
  refine TC_reg ?_
  refine TL_e rfl rfl rfl (rfl) (ET_box rfl rfl) ?_
  rintro _ _ ⟨b1, rfl, rfl⟩
  refine TL_q rfl rfl (QT_assign rfl rfl rfl) ?_
  refine TL_nil ?_
  refine TX_then ?_
  refine TC_seq ?_
  refine TC_A (St w0 ((b1, 27, L.cells) :: η)) (fun _ h => h) ?_
  refine TC_reg ?_
  refine TL_q rfl rfl (QT_field rfl rfl YtjdaglmkljbfkaaDoorF.fld_27_3 rfl) ?_
  refine TL_q rfl rfl (QT_load (v := .int .i64 L.fl) 0 rfl rfl Tryd.underlying3 rfl rfl rfl (fun _ => rfl)) ?_
  refine TL_q rfl rfl (QT_assign rfl rfl rfl) ?_
  refine TL_nil ?_
  refine TX_then ?_
  refine TC_cut (γ := Unit) (fun _ => [(1, true, .pointer (some ⟨b1, 0, none⟩)), (3, true, .int .i64 (flN L : Int))]) (fun _ => St w0 ((b1, 27, L.cells) :: η)) ?_ ?_
  ·
    refine TC_seq ?_
    refine TC_reg ?_
    refine TL_q rfl rfl (QT_field rfl rfl YtjdaglmkljbfkaaDoorF.fld_27_0 rfl) ?_
    refine TL_q rfl rfl (QT_load (v := .int .i64 L.ty) 0 rfl rfl Tryd.underlying3 rfl rfl rfl (fun _ => rfl)) ?_
    refine TL_q rfl rfl (QT_eql rfl rfl rfl rfl) ?_
    refine TL_nil ?_
    refine TX_then ?_
    first
      | refine TC_cond_dec rfl (fun h11 => ?_) (fun h11 => ?_)
      | refine TC_cond rfl (fun h11 => ?_) (fun h11 => ?_)
    ·
      refine TC_reg ?_
      refine TL_q rfl rfl (QT_assign rfl rfl rfl) ?_
      refine TL_nil ?_
      exact TX_cut () ⟨rfl, slotI rfl (by rw [hfn]; unfold flb; rw [if_pos h11]), trivial⟩ (fun _ h => h)
    ·
      refine TC_skip ?_
      exact TX_cut () ⟨rfl, slotI rfl (by rw [hfn]; unfold flb; rw [if_neg h11]), trivial⟩ (fun _ h => h)
  rintro ⟨⟩
  refine TC_seq ?_
  refine TC_reg ?_
  refine TL_q rfl rfl (QT_move rfl rfl rfl) ?_
  refine TL_q rfl rfl (QT_build rfl rfl YtjdaglmkljbfkaaDoorF.zero_88 YtjdaglmkljbfkaaDoorF.pl_88 rfl rfl rfl) ?_
  refine TL_q rfl rfl (QT_field rfl rfl YtjdaglmkljbfkaaDoorF.fld_27_1 rfl) ?_
  refine TL_q rfl rfl (QT_load (v := .int .i64 (L.co.toNat : Int)) 0 rfl rfl Tryd.underlying3 rfl rfl rfl (fun _ => lco)) ?_
  refine TL_q rfl rfl (QT_build rfl rfl YtjdaglmkljbfkaaDoorF.zero_88 YtjdaglmkljbfkaaDoorF.pl_88 rfl rfl rfl) ?_
  refine TL_q rfl rfl (QT_field rfl rfl YtjdaglmkljbfkaaDoorF.fld_27_1 rfl) ?_
  refine TL_q rfl rfl (QT_load (v := .int .i64 (L.co.toNat : Int)) 0 rfl rfl Tryd.underlying3 rfl rfl rfl (fun _ => lco)) ?_
  refine TL_q rfl rfl (QT_build rfl rfl YtjdaglmkljbfkaaDoorF.zero_88 YtjdaglmkljbfkaaDoorF.pl_88 rfl rfl rfl) ?_
  refine TL_e rfl rfl rfl (rfl) (ET_buildN [_, _, _] rfl Tryd.underlying82 YtjdaglmkljbfkaaDoorF.sz_88 YtjdaglmkljbfkaaDoorF.zero_88 rfl rfl rfl (fun v hv => by
   rcases List.mem_cons.1 hv with rfl | hv
   · rfl
   · rcases List.mem_cons.1 hv with rfl | hv
     · rfl
     · cases List.mem_singleton.1 hv; rfl)) ?_
  rintro _ _ ⟨b20, rfl, rfl⟩
  refine TL_q rfl rfl (QT_assign rfl rfl rfl) ?_
  refine TL_nil ?_
  refine TX_then ?_
  refine TC_seq ?_
  refine TC_seq ?_
  refine TC_reg ?_
  refine TL_q rfl rfl (QT_move rfl rfl rfl) ?_
  refine TL_nil ?_
  refine TX_then ?_
  refine TC_block ?_
  refine TC_loop (γ := { t : Nat × List Nat × Value × Heap // t.1 ≤ 4 ∧ t.2.1.length = t.1 ∧ Frag 88 3 t.2.2.1 (3 + t.1) (fldsC L t.2.1 (3 + t.1)) t.2.2.2 }) (fun u => [(1, true, .pointer (some ⟨b1, 0, none⟩)), (4, true, u.1.2.2.1), (21, true, .int .i64 (u.1.1 : Int))]) (fun u => St w0 ((b1, 27, L.cells) :: (u.1.2.2.2 ++ (psHeap u.1.2.1 0 ++ η)))) (fun u => 4 - u.1.1) ⟨(0, [], _, [(b20, 88, fldsC L [] 3)]), by show 0 ≤ 4; decide, rfl, ⟨rfl, .inr ⟨b20, 3, [], rfl, ⟨Nat.le_refl 3, show 3 ≤ 9223372036854775807 by decide⟩, Nat.le_refl 9, rfl⟩⟩⟩ ⟨rfl, rfl, rfl, trivial⟩ (fun w h => (show St w0 ((b20, 88, fldsC L [] 3) :: (b1, 27, L.cells) :: η) w from h).swap) ?_
  rintro ⟨⟨i, ps, fv, H⟩, hi, hps, hF⟩
  dsimp only at hi hps hF ⊢
  refine TC_seq ?_
  refine TC_reg ?_
  refine TL_q rfl rfl (QT_lss rfl rfl rfl rfl) ?_
  refine TL_nil ?_
  refine TX_then ?_
  refine TC_seq ?_
  first
    | refine TC_cond_dec rfl (fun h22 => ?_) (fun h22 => ?_)
    | refine TC_cond rfl (fun h22 => ?_) (fun h22 => ?_)
  ·
    have hi4 : i < 4 := by omega
    refine TC_skip ?_
    refine TX_then ?_
    refine TC_seq ?_
    refine TC_block ?_
    refine TC_seq ?_
    refine TC_reg ?_
    refine TL_q rfl rfl (QT_move rfl rfl rfl) ?_
    refine TL_e rfl rfl rfl (rfl) (ET_alloc rfl YtjdaglmkljbfkaaDoorF.zero_3) ?_
    rintro _ _ ⟨b5, rfl, rfl⟩
    first
      | refine TL_e0 rfl rfl (rfl) (ET_store 0 rfl rfl rfl rfl YtjdaglmkljbfkaaDoorF.sz_3 rfl rfl rfl) ?_
      | refine TL_e0 rfl rfl (rfl) (ET_store 1 rfl rfl rfl rfl YtjdaglmkljbfkaaDoorF.sz_3 rfl rfl rfl) ?_
      | refine TL_e0 rfl rfl (rfl) (ET_store 2 rfl rfl rfl rfl YtjdaglmkljbfkaaDoorF.sz_3 rfl rfl rfl) ?_
    rintro _ _ ⟨rfl, rfl⟩
    refine TL_nil ?_
    refine TX_then ?_
    refine TC_seq ?_
    refine TC_reg ?_
    refine TL_q rfl rfl (QT_field rfl rfl YtjdaglmkljbfkaaDoorF.fld_27_2 rfl) ?_
    refine TL_q rfl rfl (QT_load (v := .int .i64 (L.cm.toNat : Int)) 1 rfl rfl Tryd.underlying3 rfl rfl rfl (fun _ => lcm)) ?_
    refine TL_q rfl rfl (QT_assign rfl rfl rfl) ?_
    refine TL_nil ?_
    refine TX_then ?_
    refine TC_cut (γ := Unit) (fun _ => [(1, true, .pointer (some ⟨b1, 0, none⟩)), (4, true, fv), (5, true, .pointer (some ⟨b5, 0, none⟩)), (6, true, .int .i64 (wdR L (3 + i) : Int)), (21, true, .int .i64 (i : Int))]) (fun _ => St w0 ((b5, 3, [.int .i64 (i : Int)]) :: (b1, 27, L.cells) :: (H ++ (psHeap ps 0 ++ η)))) ?_ ?_
    ·
      refine TC_seq ?_
      refine TC_reg ?_
      first
        | refine TL_q rfl rfl (QT_load 0 rfl rfl Tryd.underlying3 rfl rfl rfl (fun _ => rfl)) ?_
        | refine TL_q rfl rfl (QT_load 1 rfl rfl Tryd.underlying3 rfl rfl rfl (fun _ => rfl)) ?_
        | refine TL_q rfl rfl (QT_load 2 rfl rfl Tryd.underlying3 rfl rfl rfl (fun _ => rfl)) ?_
      refine TL_q rfl rfl (QT_field rfl rfl YtjdaglmkljbfkaaDoorF.fld_27_4 rfl) ?_
      refine TL_q rfl rfl (QT_load (v := .int .i64 (L.cs.toNat : Int)) 1 rfl rfl Tryd.underlying3 rfl rfl rfl (fun _ => lcs)) ?_
      refine TL_q rfl rfl (QT_geq rfl rfl rfl rfl) ?_
      refine TL_nil ?_
      refine TX_then ?_
      first
        | refine TC_cond_dec rfl (fun h29 => ?_) (fun h29 => ?_)
        | refine TC_cond rfl (fun h29 => ?_) (fun h29 => ?_)
      ·
        refine TC_reg ?_
        refine TL_q rfl rfl (QT_assign rfl rfl rfl) ?_
        refine TL_nil ?_
        exact TX_cut () ⟨rfl, rfl, rfl, slotI rfl (by unfold wdR; rw [if_neg (by omega), if_neg (by omega), if_neg (by omega)]; rfl), rfl, trivial⟩ (fun _ h => h)
      ·
        refine TC_skip ?_
        exact TX_cut () ⟨rfl, rfl, rfl, slotI rfl (by unfold wdR; rw [if_neg (by omega), if_neg (by omega), if_pos (by omega)]), rfl, trivial⟩ (fun _ h => h)
    rintro ⟨⟩
    have hnew : fld L (ps ++ [b5]) (3 + i) = [.int .i64 (wdR L (3 + i) : Int), .func (.func 62) #[] #[.pointer (some ⟨b5, 0, none⟩)], .func (.func 63) #[] #[.pointer (some ⟨b5, 0, none⟩)]] := by
      unfold fld capF gF sF
      rw [if_neg (by omega), if_neg (by omega), if_neg (by omega), if_neg (by omega), if_neg (by omega), if_neg (by omega), if_neg (by omega), List.getD_eq_getElem?_getD, List.getElem?_append_right (by omega), show 3 + i - 3 - ps.length = 0 by omega]
      rfl
    have hone := fld_one L (ps ++ [b5]) (3 + i)
    refine TC_reg ?_
    refine TL_q rfl rfl (QT_move rfl rfl rfl) ?_
    refine TL_q rfl rfl (QT_move rfl rfl rfl) ?_
    refine TL_q rfl rfl (QT_makeFunc rfl rfl rfl rfl) ?_
    refine TL_q rfl rfl (QT_makeFunc rfl rfl rfl rfl) ?_
    refine TL_q rfl rfl (QT_build rfl rfl YtjdaglmkljbfkaaDoorF.zero_88 YtjdaglmkljbfkaaDoorF.pl_88 rfl rfl rfl) ?_
    refine TL_e rfl rfl rfl (rfl) (ET_buildN [_] rfl Tryd.underlying82 YtjdaglmkljbfkaaDoorF.sz_88 YtjdaglmkljbfkaaDoorF.zero_88 rfl rfl rfl (fun v hv => by cases List.mem_singleton.1 hv; rfl)) ?_
    rintro _ _ ⟨b35, rfl, rfl⟩
    refine TL_e rfl rfl rfl (rfl) (ET_appendL (L := [_, _, _]) rfl Tryd.underlying82 el_Field rfl rfl hF (fun _ h => h) (SlA.own (n := 1) (xs := fld L (ps ++ [b5]) (3 + i)) 0 rfl (by rw [hnew]; rfl) (show 0 + 1 * 3 ≤ 3 from Nat.le_refl 3) (by omega)) hone (by omega) (by omega)) ?_
    rintro fv2 _ ⟨H', hF', rfl⟩
    refine TL_q rfl rfl (QT_assign rfl rfl rfl) ?_
    refine TL_nil ?_
    refine TX_block_normal ?_
    refine TX_then ?_
    refine TC_reg ?_
    refine TL_q rfl rfl (QT_add rfl rfl rfl rfl (fun _ => ⟨by omega, by omega⟩)) ?_
    refine TL_q rfl rfl (QT_move rfl rfl rfl) ?_
    refine TL_nil ?_
    refine TX_round ⟨(i + 1, ps ++ [b5], fv2, H'), by show i + 1 ≤ 4; omega, by rw [List.length_append, hps]; rfl, ?_⟩ (by show 4 - (i + 1) < 4 - i; omega) ⟨rfl, rfl, rfl, trivial⟩ (fun w h => ?_)
    · show Frag _ 3 fv2 (3 + (i + 1)) (fldsC L (ps ++ [b5]) (3 + (i + 1))) H'
      rw [show 3 + (i + 1) = (3 + i) + 1 by omega, fldsC, fldsC_more L (3 + i) (by omega)]
      exact hF'
    · show St w0 ((b1, 27, L.cells) :: (H' ++ (psHeap (ps ++ [b5]) 0 ++ η))) w
      rw [psHeap_snoc, hps, Nat.zero_add]
      have h' : St w0 ((b35, 88, _) :: (b5, 3, [.int .i64 (i : Int)]) :: (b1, 27, L.cells) :: (H' ++ (psHeap ps 0 ++ η))) w := h
      exact h'.tail.cnt fun p => by simp only [List.countP_append, List.countP_cons, List.countP_nil]; omega
  ·
    refine TC_exit ?_
    refine TX_then_exit ?_
    refine TX_then_exit ?_
    refine TX_block_here ?_
    refine TX_then ?_
    refine TC_seq ?_
    refine TC_reg ?_
    refine TL_q rfl rfl (QT_move rfl rfl rfl) ?_
    refine TL_q rfl rfl (QT_assign rfl rfl rfl) ?_
    refine TL_nil ?_
    refine TX_then ?_
    refine TC_ret ?_
    obtain rfl : i = 4 := by omega
    exact TX_ret (.inl rfl) (res1 rfl rfl) ⟨_, ⟨ps, H, hps, hF, rfl⟩, fun _ h => h.tail⟩
end Go.Proofs.YtjdaglmkljbfkaaDoor
namespace Go.Proofs.YtjdaglmkljbfkaaDoor
open Go Go.Gx Go.RowKit
set_option maxRecDepth 100000
theorem wrapR8 (x : Nat) : IntKind.u8.wrap (x : Int) = ((x % 256 : Nat) : Int) := by
  show (x : Int) % 256 = _
  omega
theorem wrapR16 (x : Nat) : IntKind.u16.wrap (x : Int) = ((x % 65536 : Nat) : Int) := by
  show (x : Int) % 65536 = _
  omega
theorem QT_v0 {P : Program} {n : Nat} {ops : Array Oper} {o : Oper} {σ : Slots} {A : World → Prop} {g : Bool} {v v' : Value} (h : QT P n ops o σ A g v) (e : v = v') : QT P n ops o σ A g v' := e ▸ h
theorem get_0 (w0 : Base) (η : Heap) (xb : Nat) (r : List Nat) (x : Nat) (hr : RcF r) (hx : r[0]? = some x) (hX : Rd (St w0 η) xb 0 (rvV r)) :
    CallsT Tryd.prog 56 [.pointer (some ⟨xb, 0, none⟩)] (St w0 η) fun v A' => v = .int .u32 (x : Int) ∧ A' = St w0 η := by
  have hv := rvV_at (xs := r) (p := 0) (by decide) hx
  have hlt := hr.lt hx
  refine CallsT.body Tryd.func56 rfl rfl ?_
  simp only [Tryd.ntmps56, slotsOf, Nat.reduceAdd]
  refine TC_seq ?_
  refine TC_reg ?_
  refine TL_q rfl rfl (QT_assign rfl rfl rfl) ?_
  refine TL_nil ?_
  refine TX_then ?_
  refine TC_seq ?_
  refine TC_reg ?_
  refine TL_q rfl rfl (QT_move rfl rfl rfl) ?_
  refine TL_q rfl rfl (QT_nilCheck rfl rfl rfl) ?_
  refine TL_q rfl rfl (QT_field rfl rfl YtjdaglmkljbfkaaDoorF.fld_67_0 rfl) ?_
  refine TL_q rfl rfl (QT_loadRj (v := .int .u8 (x : Int)) 0 rfl rfl Tryd.underlying5 rfl hX rfl (fun _ => hv)) ?_
  refine TL_q rfl rfl (QT_convN rfl rfl Tryd.underlying5 Tryd.underlying60 rfl (IntWalk.u32_in _ ⟨by omega, by have : rkM 0 = 256 := rfl; omega⟩)) ?_
  refine TL_q rfl rfl (QT_assign rfl rfl rfl) ?_
  refine TL_nil ?_
  refine TX_then ?_
  refine TC_ret ?_
  exact TX_ret (.inl rfl) (res1 rfl rfl) ⟨_, ⟨rfl, rfl⟩, fun _ h => h⟩
theorem get_1 (w0 : Base) (η : Heap) (xb : Nat) (r : List Nat) (x : Nat) (hr : RcF r) (hx : r[1]? = some x) (hX : Rd (St w0 η) xb 0 (rvV r)) :
    CallsT Tryd.prog 58 [.pointer (some ⟨xb, 0, none⟩)] (St w0 η) fun v A' => v = .int .u32 (x : Int) ∧ A' = St w0 η := by
  have hv := rvV_at (xs := r) (p := 1) (by decide) hx
  have hlt := hr.lt hx
  refine CallsT.body Tryd.func58 rfl rfl ?_
  simp only [Tryd.ntmps58, slotsOf, Nat.reduceAdd]
  refine TC_seq ?_
  refine TC_reg ?_
  refine TL_q rfl rfl (QT_assign rfl rfl rfl) ?_
  refine TL_nil ?_
  refine TX_then ?_
  refine TC_seq ?_
  refine TC_reg ?_
  refine TL_q rfl rfl (QT_move rfl rfl rfl) ?_
  refine TL_q rfl rfl (QT_nilCheck rfl rfl rfl) ?_
  refine TL_q rfl rfl (QT_field rfl rfl YtjdaglmkljbfkaaDoorF.fld_67_1 rfl) ?_
  refine TL_q rfl rfl (QT_field rfl rfl YtjdaglmkljbfkaaDoorF.fld_62_0 rfl) ?_
  refine TL_q rfl rfl (QT_loadRj (v := .int .u32 (x : Int)) 1 rfl rfl Tryd.underlying60 rfl hX rfl (fun _ => hv)) ?_
  refine TL_q rfl rfl (QT_assign rfl rfl rfl) ?_
  refine TL_nil ?_
  refine TX_then ?_
  refine TC_ret ?_
  exact TX_ret (.inl rfl) (res1 rfl rfl) ⟨_, ⟨rfl, rfl⟩, fun _ h => h⟩
theorem get_2 (w0 : Base) (η : Heap) (xb : Nat) (r : List Nat) (x : Nat) (hr : RcF r) (hx : r[2]? = some x) (hX : Rd (St w0 η) xb 0 (rvV r)) :
    CallsT Tryd.prog 60 [.pointer (some ⟨xb, 0, none⟩)] (St w0 η) fun v A' => v = .int .u32 (x : Int) ∧ A' = St w0 η := by
  have hv := rvV_at (xs := r) (p := 2) (by decide) hx
  have hlt := hr.lt hx
  refine CallsT.body Tryd.func60 rfl rfl ?_
  simp only [Tryd.ntmps60, slotsOf, Nat.reduceAdd]
  refine TC_seq ?_
  refine TC_reg ?_
  refine TL_q rfl rfl (QT_assign rfl rfl rfl) ?_
  refine TL_nil ?_
  refine TX_then ?_
  refine TC_seq ?_
  refine TC_reg ?_
  refine TL_q rfl rfl (QT_move rfl rfl rfl) ?_
  refine TL_q rfl rfl (QT_nilCheck rfl rfl rfl) ?_
  refine TL_q rfl rfl (QT_field rfl rfl YtjdaglmkljbfkaaDoorF.fld_67_1 rfl) ?_
  refine TL_q rfl rfl (QT_field rfl rfl YtjdaglmkljbfkaaDoorF.fld_62_1 rfl) ?_
  refine TL_q rfl rfl (QT_loadRj (v := .int .u32 (x : Int)) 2 rfl rfl Tryd.underlying60 rfl hX rfl (fun _ => hv)) ?_
  refine TL_q rfl rfl (QT_assign rfl rfl rfl) ?_
  refine TL_nil ?_
  refine TX_then ?_
  refine TC_ret ?_
  exact TX_ret (.inl rfl) (res1 rfl rfl) ⟨_, ⟨rfl, rfl⟩, fun _ h => h⟩
theorem get_3 (w0 : Base) (η : Heap) (xb pb c : Nat) (r : List Nat) (x : Nat) (hr : RcF r) (hc : c < 4) (hx : r[3 + c]? = some x) (hX : Rd (St w0 η) xb 0 (rvV r)) (hP : Rd (St w0 η) pb 0 [.int .i64 (c : Int)]) :
    CallsT Tryd.prog 62 [.pointer (some ⟨xb, 0, none⟩), .pointer (some ⟨pb, 0, none⟩)] (St w0 η) fun v A' => v = .int .u32 (x : Int) ∧ A' = St w0 η := by
  have hv := rvV_at (xs := r) (p := 3 + c) (by omega) hx
  rw [show rkK (3 + c) = .u16 by unfold rkK; rw [if_neg (by omega), if_neg (by omega)]] at hv
  have hlt := hr.lt hx
  have hm : rkM (3 + c) = 65536 := by unfold rkM; rw [if_neg (by omega), if_neg (by omega)]
  refine CallsT.body Tryd.func62 rfl rfl ?_
  simp only [Tryd.ntmps62, slotsOf, Nat.reduceAdd]
  refine TC_seq ?_
  refine TC_reg ?_
  refine TL_q rfl rfl (QT_assign rfl rfl rfl) ?_
  refine TL_nil ?_
  refine TX_then ?_
  refine TC_seq ?_
  refine TC_draw [(0, 0), (1, 0), (2, 0), (3, 0), (4, 0), (5, 0), (6, 0), (7, 0)] YtjdaglmkljbfkaaDoorF.mixed (by kernel_rfl) (St.calm _ _) ?_
  refine TV_q rfl rfl rfl (fun _ => QT_move rfl rfl rfl) ?_
  refine TV_ql rfl rfl rfl (QT_loadRj (v := .int .i64 (c : Int)) 0 rfl rfl Tryd.underlying3 rfl hP rfl (fun _ => rfl)) ?_
  refine TV_q rfl rfl rfl (fun _ => QT_nilCheck rfl rfl rfl) ?_
  refine TV_q rfl rfl rfl (fun _ => QT_field rfl rfl YtjdaglmkljbfkaaDoorF.fld_67_2 rfl) ?_
  refine TV_q rfl rfl rfl (fun _ => QT_indexArr c rfl rfl Tryd.underlying65 YtjdaglmkljbfkaaDoorF.sz_63 rfl rfl rfl (fun _ => hc)) ?_
  refine TV_ql rfl rfl rfl (QT_loadRj (v := .int .u16 (x : Int)) (3 + c) rfl rfl Tryd.underlying63 rfl hX rfl (fun _ => hv)) ?_
  refine TV_q rfl rfl rfl (fun _ => QT_convN rfl rfl Tryd.underlying63 Tryd.underlying60 rfl (IntWalk.u32_in _ ⟨by omega, by omega⟩)) ?_
  refine TV_q rfl rfl rfl (fun _ => QT_assign rfl rfl rfl) ?_
  refine TV_end ?_
  refine TX_then ?_
  refine TC_ret ?_
  exact TX_ret (.inl rfl) (res1 rfl rfl) ⟨_, ⟨rfl, rfl⟩, fun _ h => h⟩
theorem set_0 (w0 : Base) (η : Heap) (xb : Nat) (r : List Nat) (v : Nat) (hr : r.length = 7) (hv : v < 4294967296) :
    CallsT Tryd.prog 57 [.pointer (some ⟨xb, 0, none⟩), .int .u32 (v : Int)] (St w0 ((xb, 67, rvV r) :: η)) fun z A' => z = .tuple #[] ∧ A' = St w0 ((xb, 67, rvV (r.set 0 (v % rkM 0))) :: η) := by
  have hs := rvV_set (xs := r) (p := 0) (v := v % rkM 0) (by decide)
  have hble : Nat.ble (0 + 1) (rvV r).length = true := by rw [rvV_len hr]; rfl
  refine CallsT.body Tryd.func57 rfl rfl ?_
  simp only [Tryd.ntmps57, slotsOf, Nat.reduceAdd]
  refine TC_reg ?_
  refine TL_q rfl rfl (QT_move rfl rfl rfl) ?_
  refine TL_q rfl rfl (QT_move rfl rfl rfl) ?_
  refine TL_q rfl rfl (QT_convN rfl rfl Tryd.underlying60 Tryd.underlying5 rfl (wrapR8 v)) ?_
  refine TL_q rfl rfl (QT_nilCheck rfl rfl rfl) ?_
  refine TL_q rfl rfl (QT_field rfl rfl YtjdaglmkljbfkaaDoorF.fld_67_0 rfl) ?_
  refine TL_e0 rfl rfl (rfl) (ET_store (vs := [.int .u8 ((v % rkM 0 : Nat) : Int)]) 0 rfl rfl rfl rfl YtjdaglmkljbfkaaDoorF.sz_5 rfl rfl hble) ?_
  rintro _ _ ⟨rfl, rfl⟩
  refine TL_nil ?_
  refine TX_ret (.inr rfl) (res0 rfl) ⟨_, ⟨rfl, rfl⟩, fun w h => ?_⟩
  rw [← hs]
  exact h
theorem set_1 (w0 : Base) (η : Heap) (xb : Nat) (r : List Nat) (v : Nat) (hr : r.length = 7) (hv : v < 4294967296) :
    CallsT Tryd.prog 59 [.pointer (some ⟨xb, 0, none⟩), .int .u32 (v : Int)] (St w0 ((xb, 67, rvV r) :: η)) fun z A' => z = .tuple #[] ∧ A' = St w0 ((xb, 67, rvV (r.set 1 (v % rkM 1))) :: η) := by
  have hs := rvV_set (xs := r) (p := 1) (v := v % rkM 1) (by decide)
  have hble : Nat.ble (1 + 1) (rvV r).length = true := by rw [rvV_len hr]; rfl
  refine CallsT.body Tryd.func59 rfl rfl ?_
  simp only [Tryd.ntmps59, slotsOf, Nat.reduceAdd]
  refine TC_reg ?_
  refine TL_q rfl rfl (QT_move rfl rfl rfl) ?_
  refine TL_q rfl rfl (QT_v0 (QT_move rfl rfl rfl) (show Value.int .u32 (v : Int) = .int .u32 ((v % rkM 1 : Nat) : Int) by rw [Nat.mod_eq_of_lt (show v < rkM 1 from hv)])) ?_
  refine TL_q rfl rfl (QT_nilCheck rfl rfl rfl) ?_
  refine TL_q rfl rfl (QT_field rfl rfl YtjdaglmkljbfkaaDoorF.fld_67_1 rfl) ?_
  refine TL_q rfl rfl (QT_field rfl rfl YtjdaglmkljbfkaaDoorF.fld_62_0 rfl) ?_
  refine TL_e0 rfl rfl (rfl) (ET_store (vs := [.int .u32 ((v % rkM 1 : Nat) : Int)]) 0 rfl rfl rfl rfl YtjdaglmkljbfkaaDoorF.sz_60 rfl rfl hble) ?_
  rintro _ _ ⟨rfl, rfl⟩
  refine TL_nil ?_
  refine TX_ret (.inr rfl) (res0 rfl) ⟨_, ⟨rfl, rfl⟩, fun w h => ?_⟩
  rw [← hs]
  exact h
theorem set_2 (w0 : Base) (η : Heap) (xb : Nat) (r : List Nat) (v : Nat) (hr : r.length = 7) (hv : v < 4294967296) :
    CallsT Tryd.prog 61 [.pointer (some ⟨xb, 0, none⟩), .int .u32 (v : Int)] (St w0 ((xb, 67, rvV r) :: η)) fun z A' => z = .tuple #[] ∧ A' = St w0 ((xb, 67, rvV (r.set 2 (v % rkM 2))) :: η) := by
  have hs := rvV_set (xs := r) (p := 2) (v := v % rkM 2) (by decide)
  have hble : Nat.ble (2 + 1) (rvV r).length = true := by rw [rvV_len hr]; rfl
  refine CallsT.body Tryd.func61 rfl rfl ?_
  simp only [Tryd.ntmps61, slotsOf, Nat.reduceAdd]
  refine TC_reg ?_
  refine TL_q rfl rfl (QT_move rfl rfl rfl) ?_
  refine TL_q rfl rfl (QT_v0 (QT_move rfl rfl rfl) (show Value.int .u32 (v : Int) = .int .u32 ((v % rkM 2 : Nat) : Int) by rw [Nat.mod_eq_of_lt (show v < rkM 2 from hv)])) ?_
  refine TL_q rfl rfl (QT_nilCheck rfl rfl rfl) ?_
  refine TL_q rfl rfl (QT_field rfl rfl YtjdaglmkljbfkaaDoorF.fld_67_1 rfl) ?_
  refine TL_q rfl rfl (QT_field rfl rfl YtjdaglmkljbfkaaDoorF.fld_62_1 rfl) ?_
  refine TL_e0 rfl rfl (rfl) (ET_store (vs := [.int .u32 ((v % rkM 2 : Nat) : Int)]) 0 rfl rfl rfl rfl YtjdaglmkljbfkaaDoorF.sz_60 rfl rfl hble) ?_
  rintro _ _ ⟨rfl, rfl⟩
  refine TL_nil ?_
  refine TX_ret (.inr rfl) (res0 rfl) ⟨_, ⟨rfl, rfl⟩, fun w h => ?_⟩
  rw [← hs]
  exact h
theorem set_3 (w0 : Base) (η : Heap) (xb pb c : Nat) (r : List Nat) (v : Nat) (hr : r.length = 7) (hc : c < 4) (hP : Rd (St w0 η) pb 0 [.int .i64 (c : Int)]) :
    CallsT Tryd.prog 63 [.pointer (some ⟨xb, 0, none⟩), .int .u32 (v : Int), .pointer (some ⟨pb, 0, none⟩)] (St w0 ((xb, 67, rvV r) :: η)) fun z A' => z = .tuple #[] ∧ A' = St w0 ((xb, 67, rvV (r.set (3 + c) (v % rkM (3 + c)))) :: η) := by
  have hm : rkM (3 + c) = 65536 := by unfold rkM; rw [if_neg (by omega), if_neg (by omega)]
  have hk : rkK (3 + c) = .u16 := by unfold rkK; rw [if_neg (by omega), if_neg (by omega)]
  have hs := rvV_set (xs := r) (p := 3 + c) (v := v % rkM (3 + c)) (by omega)
  rw [hk, hm] at hs
  rw [hm]
  have hble : Nat.ble (0 + 3 + c * 1 + 1) (rvV r).length = true := Nat.ble_eq_true_of_le (by rw [rvV_len hr]; omega)
  refine CallsT.body Tryd.func63 rfl rfl ?_
  simp only [Tryd.ntmps63, slotsOf, Nat.reduceAdd]
  refine TC_draw [(0, 0), (1, 0), (2, 0), (3, 0), (4, 0), (5, 0), (6, 0), (7, 1)] YtjdaglmkljbfkaaDoorF.mixed (by kernel_rfl) (St.calm _ _) ?_
  refine TV_q rfl rfl rfl (fun _ => QT_move rfl rfl rfl) ?_
  refine TV_ql rfl rfl rfl (QT_loadRj (v := .int .i64 (c : Int)) 0 rfl rfl Tryd.underlying3 rfl (hP.mono fun _ h => h.tail) rfl (fun _ => rfl)) ?_
  refine TV_q rfl rfl rfl (fun _ => QT_move rfl rfl rfl) ?_
  refine TV_q rfl rfl rfl (fun _ => QT_convN rfl rfl Tryd.underlying60 Tryd.underlying63 rfl (wrapR16 v)) ?_
  refine TV_q rfl rfl rfl (fun _ => QT_nilCheck rfl rfl rfl) ?_
  refine TV_q rfl rfl rfl (fun _ => QT_field rfl rfl YtjdaglmkljbfkaaDoorF.fld_67_2 rfl) ?_
  refine TV_q rfl rfl rfl (fun _ => QT_indexArr c rfl rfl Tryd.underlying65 YtjdaglmkljbfkaaDoorF.sz_63 rfl rfl rfl (fun _ => hc)) ?_
  refine TV_e0 rfl rfl rfl (rfl) (ET_store (vs := [.int .u16 ((v % 65536 : Nat) : Int)]) 0 rfl rfl rfl rfl YtjdaglmkljbfkaaDoorF.sz_63 rfl rfl hble) ?_
  rintro _ _ ⟨rfl, rfl⟩
  refine ⟨_, .drop (by kernel_rfl) (.nil), ?_⟩
  refine TV_end ?_
  refine TX_ret (.inr rfl) (res0 rfl) ⟨_, ⟨rfl, rfl⟩, fun w h => ?_⟩
  rw [← hs]
  have h' : St w0 ((xb, 67, (rvV r).set (0 + 3 + c * 1) (.int .u16 ((v % 65536 : Nat) : Int))) :: η) w := h
  rw [show 0 + 3 + c * 1 = 3 + c by omega] at h'
  exact h'
/-- the closures' own numbers -/
def PsOk (A : World → Prop) (ps : List Nat) : Prop := ∀ c, c < 4 → Rd A (ps.getD c 0) 0 [.int .i64 (c : Int)]
theorem psOk_of {w0 : Base} {η : Heap} {ps : List Nat} (h : ps.length = 4) (hs : ∀ p : Blk → Bool, (psHeap ps 0).countP p ≤ η.countP p) : PsOk (St w0 η) ps := fun c hc => by
  have hm := psHeap_mem (ps := ps) (i := 0) (c := c) (by omega)
  rw [Nat.zero_add] at hm
  exact (Rd.ownA (w0 := w0) (η := psHeap ps 0) hm 0 rfl).mono fun w h => h.cnt hs
theorem getter_spec (w0 : Base) (η : Heap) (ps : List Nat) (k xb : Nat) (r : List Nat) (x : Nat) (hk : k < 7) (hr : RcF r) (hx : r[k]? = some x) (hX : Rd (St w0 η) xb 0 (rvV r)) (hP : PsOk (St w0 η) ps) :
    CallsT Tryd.prog (gF k) ([.pointer (some ⟨xb, 0, none⟩)] ++ (capF ps k).toList) (St w0 η) fun v A' => v = .int .u32 (x : Int) ∧ A' = St w0 η := by
  match k, hk with
  | 0, _ => exact get_0 w0 η xb r x hr hx hX
  | 1, _ => exact get_1 w0 η xb r x hr hx hX
  | 2, _ => exact get_2 w0 η xb r x hr hx hX
  | 3, _ => exact get_3 w0 η xb _ 0 r x hr (by decide) hx hX (hP 0 (by decide))
  | 4, _ => exact get_3 w0 η xb _ 1 r x hr (by decide) hx hX (hP 1 (by decide))
  | 5, _ => exact get_3 w0 η xb _ 2 r x hr (by decide) hx hX (hP 2 (by decide))
  | 6, _ => exact get_3 w0 η xb _ 3 r x hr (by decide) hx hX (hP 3 (by decide))
  | k + 7, h => exact absurd h (by omega)
theorem setter_spec (w0 : Base) (η : Heap) (ps : List Nat) (k xb : Nat) (r : List Nat) (v : Nat) (hk : k < 7) (hr : r.length = 7) (hv : v < 4294967296) (hP : PsOk (St w0 η) ps) :
    CallsT Tryd.prog (sF k) ([.pointer (some ⟨xb, 0, none⟩), .int .u32 (v : Int)] ++ (capF ps k).toList) (St w0 ((xb, 67, rvV r) :: η)) fun z A' => z = .tuple #[] ∧ A' = St w0 ((xb, 67, rvV (r.set k (v % rkM k))) :: η) := by
  match k, hk with
  | 0, _ => exact set_0 w0 η xb r v hr hv
  | 1, _ => exact set_1 w0 η xb r v hr hv
  | 2, _ => exact set_2 w0 η xb r v hr hv
  | 3, _ => exact set_3 w0 η xb _ 0 r v hr (by decide) (hP 0 (by decide))
  | 4, _ => exact set_3 w0 η xb _ 1 r v hr (by decide) (hP 1 (by decide))
  | 5, _ => exact set_3 w0 η xb _ 2 r v hr (by decide) (hP 2 (by decide))
  | 6, _ => exact set_3 w0 η xb _ 3 r v hr (by decide) (hP 3 (by decide))
  | k + 7, h => exact absurd h (by omega)
/-- numbers read one behind the other -/
def decN : Ws → List Bool → List Nat
  | [], _ => []
  | (w, _) :: r, l => num (l.take w) :: decN r (l.drop w)
theorem decN_len : ∀ (ws : Ws) (l : List Bool), (decN ws l).length = ws.length
  | [], _ => rfl
  | (w, m) :: r, l => by simp [decN, decN_len r]
theorem decN_at : ∀ {ws : Ws} {l : List Bool} {k w m : Nat}, ws[k]? = some (w, m) → (decN ws l)[k]? = some (num ((l.drop (tot (ws.take k))).take w))
  | [], l, k, w, m, h => by simp at h
  | (w, m) :: ws, l, 0, _, _, h => by
    cases h
    rfl
  | (w, m) :: ws, l, k + 1, _, _, h => by
    rw [decN, List.getElem?_cons_succ, decN_at (ws := ws) (l := l.drop w) (k := k) (by simpa using h), List.take_succ_cons, tot_cons, List.drop_drop]
theorem dec_at : ∀ {ws : Ws} {l : List Bool} {k w m : Nat}, ws[k]? = some (w, m) → (dec ws l)[k]? = some (num ((l.drop (tot (ws.take k))).take w) % m)
  | [], l, k, w, m, h => by simp at h
  | (w, m) :: ws, l, 0, _, _, h => by
    cases h
    rfl
  | (w, m) :: ws, l, k + 1, _, _, h => by
    rw [dec, List.getElem?_cons_succ, dec_at (ws := ws) (l := l.drop w) (k := k) (by simpa using h), List.take_succ_cons, tot_cons, List.drop_drop]
def u32V (vs : List Nat) : List Value := vs.map fun (v : Nat) => Value.int .u32 (v : Int)
def wV (ws : Ws) : List Value := ws.map fun p => Value.int .i64 (p.1 : Int)
theorem el_U32 : ElemOk Tryd.prog 60 1 4 (.int .u32 0) := .of YtjdaglmkljbfkaaDoorF.sz_60 (by kernel_rfl) (by unfold ZeroOk; kernel_rfl) (by kernel_rfl) (by decide)
theorem tot_takeR (ws : Ws) (k : Nat) : tot (ws.take k) ≤ tot ws := by
  have := tot_append (ws.take k) (ws.drop k)
  rw [List.take_append_drop] at this
  omega
theorem tot_stepR {ws : Ws} {k w m : Nat} (h : ws[k]? = some (w, m)) : tot (ws.take (k + 1)) = tot (ws.take k) + w := by
  rw [List.take_add_one, h, tot_append]
  simp [tot]
theorem read_spec (w0 : Base) (η : Heap) (bv mv : Value) (bs : List Nat) (ws : Ws) (hs : SlA (St w0 η) bv 1 bs.length (byV bs)) (hb : ∀ c ∈ bs, c < 256) (hl : bs.length ≤ 1000000) (hm : SlA (St w0 η) mv 1 ws.length (wV ws)) (hwn : ws.length ≤ 1000) (hw : ∀ p ∈ ws, p.1 ≤ 32) (ht : tot ws ≤ 8 * bs.length) :
    CallsT Tryd.prog 30 [bv, mv] (St w0 η) fun v A' => ∃ H, Frag 60 1 v ws.length (u32V (decN ws (byB bs))) H ∧ A' = St w0 (H ++ η) := by
  obtain ⟨_, mad, mcap, mb, mo, rfl, hmcap, hmad, hmrd⟩ := hm.some
  refine CallsT.body Tryd.func30 rfl rfl ?_
  simp only [Tryd.ntmps30, slotsOf, Nat.reduceAdd]
  refine TC_seq ?_
  refine TC_reg ?_
  refine TL_q rfl rfl (QT_assign rfl rfl rfl) ?_
  refine TL_nil ?_
  refine TX_then ?_
  refine TC_seq ?_
  refine TC_reg ?_
  refine TL_q rfl rfl (QT_assign rfl rfl rfl) ?_
  refine TL_nil ?_
  refine TX_then ?_
  refine TC_seq ?_
  refine TC_reg ?_
  refine TL_q rfl rfl (QT_assign rfl rfl rfl) ?_
  refine TL_nil ?_
  refine TX_then ?_
  refine TC_seq ?_
  refine TC_seq ?_
  refine TC_reg ?_
  refine TL_q rfl rfl (QT_move rfl rfl rfl) ?_
  refine TL_q rfl rfl (QT_len rfl rfl Tryd.underlying84 rfl) ?_
  refine TL_q rfl rfl (QT_move rfl rfl rfl) ?_
  refine TL_nil ?_
  refine TX_then ?_
  refine TC_block ?_
  refine TC_loop (γ := { t : Nat × Value × Heap // t.1 ≤ ws.length ∧ Frag 60 1 t.2.1 t.1 (u32V ((decN ws (byB bs)).take t.1)) t.2.2 }) (fun u => [(0, true, bv), (5, true, u.1.2.1), (6, true, .int .i64 (tot (ws.take u.1.1) : Int)), (11, true, .slice mad ws.length mcap), (12, true, .int .i64 (ws.length : Int)), (13, true, .int .i64 (u.1.1 : Int))]) (fun u => St w0 (u.1.2.2 ++ η)) (fun u => ws.length - u.1.1) ⟨(0, .slice none 0 0, []), Nat.zero_le _, Frag.nil _ _⟩ ⟨rfl, rfl, rfl, rfl, rfl, rfl, trivial⟩ (fun _ h => h) ?_
  rintro ⟨⟨i, ov, H⟩, hi, hF⟩
  dsimp only at hi hF ⊢
  refine TC_seq ?_
  refine TC_reg ?_
  refine TL_q rfl rfl (QT_lss rfl rfl rfl rfl) ?_
  refine TL_nil ?_
  refine TX_then ?_
  refine TC_seq ?_
  first
    | refine TC_cond_dec rfl (fun h14 => ?_) (fun h14 => ?_)
    | refine TC_cond rfl (fun h14 => ?_) (fun h14 => ?_)
  ·
    have hi' : i < ws.length := by omega
    obtain ⟨p, hpi⟩ : ∃ p, ws[i]? = some p := ⟨_, List.getElem?_eq_getElem hi'⟩
    obtain ⟨w1, m1⟩ := p
    have hw1 : w1 ≤ 32 := hw _ (List.mem_of_getElem? hpi)
    have hts := tot_stepR hpi
    have htt := tot_takeR ws (i + 1)
    have hwv : (wV ws)[i]? = some (.int .i64 (w1 : Int)) := by simp [wV, hpi]
    have hgv := getV_ok (bs := bs) (p := tot (ws.take i)) hw1 (by omega)
    have hdn := decN_at (l := byB bs) hpi
    rw [← hgv] at hdn
    have htk : u32V ((decN ws (byB bs)).take (i + 1)) = u32V ((decN ws (byB bs)).take i) ++ [.int .u32 (getV bs ((tot (ws.take i) : Nat) : Int) (w1 : Int) : Int)] := by
      rw [List.take_add_one, hdn]
      simp [u32V]
    generalize tot (ws.take i) = at1 at hts hgv hdn htk
    refine TC_skip ?_
    refine TX_then ?_
    refine TC_seq ?_
    refine TC_block ?_
    refine TC_seq ?_
    refine TC_reg ?_
    refine TL_q rfl rfl (QT_indexG i rfl rfl Tryd.underlying84 YtjdaglmkljbfkaaDoorF.sz_3 rfl rfl rfl (fun _ => hi') (fun _ => hmad (by omega))) ?_
    refine TL_q rfl rfl (QT_loadRj (v := .int .i64 (w1 : Int)) i rfl rfl Tryd.underlying3 rfl (hmrd.mono fun _ h => h.app_right) rfl (fun _ => hwv)) ?_
    refine TL_q rfl rfl (QT_assign rfl rfl rfl) ?_
    refine TL_nil ?_
    refine TX_then ?_
    refine TC_seq ?_
    refine TC_reg ?_
    refine TL_q rfl rfl (QT_move rfl rfl rfl) ?_
    refine TL_q rfl rfl (QT_move rfl rfl rfl) ?_
    refine TL_q rfl rfl (QT_move rfl rfl rfl) ?_
    refine TL_cq rfl rfl rfl rfl YtjdaglmkljbfkaaDoorF.cal_65 rfl (fun _ => get_spec w0 _ bv bs _ _ (hs.mono fun _ h => h.app_right) hb ⟨by omega, by omega⟩ ⟨by omega, by omega⟩ (by omega)) ?_
    refine TL_q rfl rfl (QT_move rfl rfl rfl) ?_
    refine TL_q rfl rfl (QT_extract rfl rfl rfl rfl) ?_
    refine TL_q rfl rfl (QT_extract rfl rfl rfl rfl) ?_
    refine TL_q rfl rfl (QT_assign rfl rfl rfl) ?_
    refine TL_q rfl rfl (QT_assign rfl rfl rfl) ?_
    refine TL_nil ?_
    refine TX_then ?_
    refine TC_reg ?_
    refine TL_q rfl rfl (QT_move rfl rfl rfl) ?_
    refine TL_q rfl rfl (QT_move rfl rfl rfl) ?_
    refine TL_e rfl rfl rfl (rfl) (ET_buildN [_] rfl Tryd.underlying92 YtjdaglmkljbfkaaDoorF.sz_60 YtjdaglmkljbfkaaDoorF.zero_60 rfl rfl rfl (fun v hv => by cases List.mem_singleton.1 hv; rfl)) ?_
    rintro _ _ ⟨b26, rfl, rfl⟩
    refine TL_e rfl rfl rfl (rfl) (ET_appendL (L := [_]) rfl Tryd.underlying92 el_U32 rfl rfl hF (fun _ h => h) (SlA.own (n := 1) (xs := [.int .u32 (getV bs (at1 : Int) (w1 : Int) : Int)]) 0 rfl rfl (Nat.le_refl 1) (by omega)) (fun u hu => by cases List.mem_singleton.1 hu; rfl) (by omega) (by omega)) ?_
    rintro ov2 _ ⟨H', hF', rfl⟩
    refine TL_q rfl rfl (QT_move rfl rfl rfl) ?_
    refine TL_q rfl rfl (QT_move rfl rfl rfl) ?_
    refine TL_q rfl rfl (QT_add rfl rfl rfl rfl (fun _ => ⟨by omega, by omega⟩)) ?_
    refine TL_q rfl rfl (QT_assign rfl rfl rfl) ?_
    refine TL_q rfl rfl (QT_assign rfl rfl rfl) ?_
    refine TL_nil ?_
    refine TX_block_normal ?_
    refine TX_then ?_
    refine TC_reg ?_
    refine TL_q rfl rfl (QT_add rfl rfl rfl rfl (fun _ => ⟨by omega, by omega⟩)) ?_
    refine TL_q rfl rfl (QT_move rfl rfl rfl) ?_
    refine TL_nil ?_
    exact TX_round ⟨(i + 1, ov2, H'), hi', by rw [← htk] at hF'; exact hF'⟩ (by show ws.length - (i + 1) < ws.length - i; omega) ⟨rfl, rfl, slotI rfl (by show (at1 : Int) + (w1 : Int) = (tot (ws.take (i + 1)) : Int); omega), rfl, rfl, rfl, trivial⟩ (fun _ h => h.tail)
  ·
    refine TC_exit ?_
    refine TX_then_exit ?_
    refine TX_then_exit ?_
    refine TX_block_here ?_
    refine TX_then ?_
    refine TC_seq ?_
    refine TC_reg ?_
    refine TL_q rfl rfl (QT_move rfl rfl rfl) ?_
    refine TL_q rfl rfl (QT_assign rfl rfl rfl) ?_
    refine TL_nil ?_
    refine TX_then ?_
    refine TC_ret ?_
    obtain rfl : i = ws.length := by omega
    rw [List.take_of_length_le (by rw [decN_len]; exact Nat.le_refl _)] at hF
    exact TX_ret (.inl rfl) (res1 rfl rfl) ⟨_, ⟨H, hF, rfl⟩, fun _ h => h⟩
end Go.Proofs.YtjdaglmkljbfkaaDoor
namespace Go.Proofs.YtjdaglmkljbfkaaDoor
open Go Go.Gx Go.RowKit
set_option maxRecDepth 100000
theorem errRP_bad {L : Lay} {rs : List (List Nat)} (h : errRP L rs ≠ 0) : outRP L rs = [] := by unfold outRP; rw [if_neg h]
theorem fragNoneRB {L : Lay} {rs : List (List Nat)} {e : Int} (h : errRP L rs = e) (h0 : e ≠ 0) : Frag 5 1 (.slice none 0 0) (outRP L rs).length (byV (outRP L rs)) [] := by
  rw [errRP_bad (by rw [h]; exact h0)]
  exact Frag.nil _ _
theorem errCR_ok {L : Lay} (h : errCR L = 0) : okB L = true ∧ L.ty ≤ 5 := by
  unfold errCR at h
  split at h
  · assumption
  · exact absurd h (by decide)
/-- the bits when k numbers are put -/
def eR (L : Lay) (r : List Nat) (k : Nat) : List Bool := enc ((wR L).take k) (r.take k)
theorem eR_step {L : Lay} {r : List Nat} {k x : Nat} (hr : r.length = 7) (hx : r[k]? = some x) : eR L r (k + 1) = eR L r k ++ bitsN (wdR L k) x := by
  have hk : k < 7 := by rw [← hr]; exact (List.getElem?_eq_some_iff.1 hx).1
  unfold eR
  rw [take_snocX (wR_at hk), take_snocX hx, enc_appendX (by rw [List.length_take, List.length_take, wR_len, hr])]
  simp [enc]
theorem eR_all {L : Lay} {r : List Nat} (hr : r.length = 7) : eR L r 7 = encR L r := by
  unfold eR encR
  rw [List.take_of_length_le (by rw [wR_len]; exact Nat.le_refl _), List.take_of_length_le (by omega)]
theorem eR_len {L : Lay} (h : okB L = true) {r : List Nat} (hr : r.length = 7) (k : Nat) : (eR L r k).length ≤ 136 := by
  have h1 := (szR_bd h).2.2.1
  have h2 : tot ((wR L).take k) ≤ tot (wR L) := tot_takeR _ _
  unfold eR
  rw [enc_len (by rw [List.length_take, List.length_take, wR_len, hr])]
  omega
theorem fitR_not {L : Lay} {r : List Nat} {k x : Nat} (hr : r.length = 7) (hx : r[k]? = some x) (h : ¬ x < 2 ^ wdR L k) : fitR L r = false := by
  have hk : k < 7 := by rw [← hr]; exact (List.getElem?_eq_some_iff.1 hx).1
  cases hf : fitR L r with
  | false => rfl
  | true => exact absurd (fitB_atX hf (wR_at hk) hx) h
theorem fitR_all : ∀ {ws : Ws} {xs : List Nat}, (∀ (k w m x : Nat), ws[k]? = some (w, m) → xs[k]? = some x → x < 2 ^ w) → fitB ws xs = true
  | [], _, _ => by unfold fitB; rfl
  | _ :: _, [], _ => by unfold fitB; rfl
  | (w, m) :: ws, x :: xs, h => by
    rw [fitB, fitR_all fun k w m x h1 h2 => h (k + 1) w m x h1 h2]
    simp [h 0 w m x rfl rfl]
theorem fld_len (L : Lay) (ps : List Nat) (k : Nat) : (fld L ps k).length = 3 := rfl
theorem fldsC_part (L : Lay) (ps : List Nat) {n k : Nat} (h : k < n) : k * 3 + 3 ≤ (fldsC L ps n).length ∧ ((fldsC L ps n).drop (k * 3)).take 3 = fld L ps k := by
  refine ⟨by rw [fldsC_len]; omega, ?_⟩
  apply List.ext_getElem?
  intro j
  rw [List.getElem?_take]
  by_cases hj : j < 3
  · rw [if_pos hj, List.getElem?_drop, fldsC_at L ps h hj]
  · rw [if_neg hj, List.getElem?_eq_none (by rw [fld_len]; omega)]
set_option maxHeartbeats 2000000 in
theorem rput0_spec (w0 : Base) (η : Heap) (hG : Sets w0) (L : Lay) (sv : Value) (rs : List (List Nat)) (hs : SlA (St w0 η) sv 7 rs.length (flatR rs)) (hr : ∀ r ∈ rs, RcF r) (hn : rs.length ≤ 100000000) :
    CallsT Tryd.prog 73 [L.val, sv] (St w0 η) fun v A' => ∃ bv H, v = .tuple #[bv, .int .i64 (errRP L rs)] ∧ Frag 5 1 bv (outRP L rs).length (byV (outRP L rs)) H ∧ A' = St w0 (H ++ η) := by
  obtain ⟨hfl, ad, cap, sb, so, rfl, hcap, had, hrd⟩ := hs.some
  refine CallsT.body Tryd.func73 rfl rfl ?_
  simp only [Tryd.ntmps73, slotsOf, Nat.reduceAdd]
  refine TC_seq ?_
  refine TC_reg ?_
  refine TL_e rfl rfl rfl (rfl) (ET_box rfl rfl) ?_
  rintro _ _ ⟨b2, rfl, rfl⟩
  refine TL_q rfl rfl (QT_assign rfl rfl rfl) ?_
  refine TL_q rfl rfl (QT_assign rfl rfl rfl) ?_
  refine TL_nil ?_
  refine TX_then ?_
  refine TC_seq ?_
  refine TC_seq ?_
  refine TC_A (St w0 ((b2, 27, L.cells) :: η)) (fun _ h => h) ?_
  refine TC_reg ?_
  first
    | refine TL_q rfl rfl (QT_loadW 0 rfl rfl Tryd.underlying27 rfl rfl rfl YtjdaglmkljbfkaaDoorF.sz_27) ?_
    | refine TL_q rfl rfl (QT_loadW 1 rfl rfl Tryd.underlying27 rfl rfl rfl YtjdaglmkljbfkaaDoorF.sz_27) ?_
    | refine TL_q rfl rfl (QT_loadW 2 rfl rfl Tryd.underlying27 rfl rfl rfl YtjdaglmkljbfkaaDoorF.sz_27) ?_
    | refine TL_q rfl rfl (QT_loadA 0 rfl rfl Tryd.underlying27 rfl rfl rfl YtjdaglmkljbfkaaDoorF.sz_27 (fun _ => rfl)) ?_
    | refine TL_q rfl rfl (QT_loadA 1 rfl rfl Tryd.underlying27 rfl rfl rfl YtjdaglmkljbfkaaDoorF.sz_27 (fun _ => rfl)) ?_
    | refine TL_q rfl rfl (QT_loadA 2 rfl rfl Tryd.underlying27 rfl rfl rfl YtjdaglmkljbfkaaDoorF.sz_27 (fun _ => rfl)) ?_
  refine TL_cq rfl rfl rfl rfl YtjdaglmkljbfkaaDoorF.cal_27 rfl (fun _ => rcheck0_spec w0 _ hG L) ?_
  refine TL_q rfl rfl (QT_assign rfl rfl rfl) ?_
  refine TL_nil ?_
  refine TX_then ?_
  refine TC_seq ?_
  refine TC_reg ?_
  refine TL_q rfl rfl (QT_move rfl rfl rfl) ?_
  refine TL_q rfl rfl (QT_neq rfl rfl rfl rfl) ?_
  refine TL_nil ?_
  refine TX_then ?_
  first
    | refine TC_cond_dec rfl (fun h18 => ?_) (fun h18 => ?_)
    | refine TC_cond rfl (fun h18 => ?_) (fun h18 => ?_)
  ·
    refine TC_seq ?_
    refine TC_reg ?_
    refine TL_q rfl rfl (QT_move rfl rfl rfl) ?_
    refine TL_q rfl rfl (QT_assign rfl rfl rfl) ?_
    refine TL_q rfl rfl (QT_assign rfl rfl rfl) ?_
    refine TL_nil ?_
    refine TX_then ?_
    refine TC_ret ?_
    refine TX_then_ret ?_
    have hne : ¬ (okB L = true ∧ L.ty ≤ 5) := fun hc => h18 (by unfold errCR; rw [if_pos hc])
    have eP : errRP L rs = 4 := by unfold errRP; rw [if_neg hne]
    have eC : errCR L = 4 := by unfold errCR; rw [if_neg hne]
    exact TX_ret (.inl rfl) (res2 rfl rfl rfl) ⟨_, ⟨_, [], by rw [eP, eC], fragNoneRB eP (by decide), rfl⟩, fun _ h => h.tail⟩
  ·
    refine TC_skip ?_
    refine TX_then ?_
    refine TC_seq ?_
    have hc := errCR_ok (Classical.not_not.1 h18)
    refine TC_reg ?_
    first
      | refine TL_q rfl rfl (QT_loadW 0 rfl rfl Tryd.underlying27 rfl rfl rfl YtjdaglmkljbfkaaDoorF.sz_27) ?_
      | refine TL_q rfl rfl (QT_loadW 1 rfl rfl Tryd.underlying27 rfl rfl rfl YtjdaglmkljbfkaaDoorF.sz_27) ?_
      | refine TL_q rfl rfl (QT_loadW 2 rfl rfl Tryd.underlying27 rfl rfl rfl YtjdaglmkljbfkaaDoorF.sz_27) ?_
      | refine TL_q rfl rfl (QT_loadA 0 rfl rfl Tryd.underlying27 rfl rfl rfl YtjdaglmkljbfkaaDoorF.sz_27 (fun _ => rfl)) ?_
      | refine TL_q rfl rfl (QT_loadA 1 rfl rfl Tryd.underlying27 rfl rfl rfl YtjdaglmkljbfkaaDoorF.sz_27 (fun _ => rfl)) ?_
      | refine TL_q rfl rfl (QT_loadA 2 rfl rfl Tryd.underlying27 rfl rfl rfl YtjdaglmkljbfkaaDoorF.sz_27 (fun _ => rfl)) ?_
    refine TL_e rfl rfl rfl (rfl) (ET_call rfl YtjdaglmkljbfkaaDoorF.cal_28 rfl (fields_spec w0 _ L hc.1)) ?_
    rintro fv _ ⟨ps, Hf, hps, hFf, rfl⟩
    refine TL_q rfl rfl (QT_assign rfl rfl rfl) ?_
    refine TL_nil ?_
    refine TX_then ?_
    refine TC_seq ?_
    obtain ⟨_, fad, fcap, fb, fo, rfl, hfcap, hfad, hfrd⟩ := (hFf.sla (w0 := w0) (η := [])).some
    obtain rfl := hfad (by decide)
    generalize hE : Hf ++ (psHeap ps 0 ++ ((b2, 27, L.cells) :: η)) = E
    have hEf : ∀ {X : Heap}, (∀ p : Blk → Bool, E.countP p ≤ X.countP p) → Rd (St w0 X) fb fo (fldsC L ps 7) := fun h => hfrd.mono fun w hw => hw.cnt fun p => by
      have := h p
      rw [← hE] at this
      simp only [List.countP_append, List.countP_cons, List.countP_nil] at this ⊢
      omega
    have hEp : ∀ {X : Heap}, (∀ p : Blk → Bool, E.countP p ≤ X.countP p) → PsOk (St w0 X) ps := fun {X} h => psOk_of hps fun p => by
      have := h p
      rw [← hE] at this
      simp only [List.countP_append, List.countP_cons] at this
      omega
    have hEη : ∀ {X : Heap} {w : World}, (∀ p : Blk → Bool, E.countP p ≤ X.countP p) → St w0 X w → St w0 η w := fun {X w} h hw => hw.cnt fun p => by
      have := h p
      rw [← hE] at this
      simp only [List.countP_append, List.countP_cons] at this
      omega
    refine TC_reg ?_
    refine TL_q rfl rfl (QT_assign rfl rfl rfl) ?_
    refine TL_nil ?_
    refine TX_then ?_
    refine TC_seq ?_
    refine TC_seq ?_
    refine TC_reg ?_
    refine TL_q rfl rfl (QT_move rfl rfl rfl) ?_
    refine TL_q rfl rfl (QT_len rfl rfl Tryd.underlying30 rfl) ?_
    refine TL_q rfl rfl (QT_move rfl rfl rfl) ?_
    refine TL_nil ?_
    refine TX_then ?_
    refine TC_block ?_
    refine TC_loop (γ := { t : Nat × Value × Heap // t.1 ≤ rs.length ∧ Frag 5 1 t.2.1 (bytesR L (rs.take t.1)).length (byV (bytesR L (rs.take t.1))) t.2.2 ∧ (rs.take t.1).all (fitR L) = true }) (fun u => [(7, true, .slice (some ⟨fb, fo, none⟩) 7 fcap), (8, true, u.1.2.1), (22, true, .slice ad rs.length cap), (23, true, .int .i64 (rs.length : Int)), (24, true, .int .i64 (u.1.1 : Int))]) (fun u => St w0 (u.1.2.2 ++ E)) (fun u => rs.length - u.1.1) ⟨(0, .slice none 0 0, []), Nat.zero_le _, Frag.nil _ _, rfl⟩ ⟨rfl, rfl, rfl, rfl, rfl, trivial⟩ (fun _ h => h) ?_
    rintro ⟨⟨i, bv, H⟩, hin, hF, hfit⟩
    dsimp only at hin hF hfit ⊢
    refine TC_seq ?_
    refine TC_reg ?_
    refine TL_q rfl rfl (QT_lss rfl rfl rfl rfl) ?_
    refine TL_nil ?_
    refine TX_then ?_
    refine TC_seq ?_
    first
      | refine TC_cond_dec rfl (fun h25 => ?_) (fun h25 => ?_)
      | refine TC_cond rfl (fun h25 => ?_) (fun h25 => ?_)
    ·
      have hi' : i < rs.length := by omega
      obtain ⟨r, hri⟩ : ∃ r, rs[i]? = some r := ⟨_, List.getElem?_eq_getElem hi'⟩
      have hrF := hr r (List.mem_of_getElem? hri)
      obtain ⟨hat1, hat2⟩ := flatR_at hr hri
      have htk := take_snocX hri
      have hrl : (rvV r).length = 7 := rvV_len hrF.len
      have hrz : Sz Tryd.prog 67 (rvV r).length := by rw [hrl]; exact YtjdaglmkljbfkaaDoorF.sz_67
      have hri2 := rvV_ints hrF
      have hbl := bytesR_len (L := L) (rs := rs.take i) fun z hz => hr z (List.mem_of_mem_take hz)
      have hsz17 := (szR_bd hc.1).2.1
      have hbl2 : (bytesR L (rs.take i)).length ≤ 17 * rs.length := by
        rw [hbl, List.length_take, Nat.mul_comm]
        exact Nat.mul_le_mul hsz17 (by omega)
      have hpl : (packR L r).length ≤ 17 := by rw [packR_len hrF]; exact hsz17
      refine TC_skip ?_
      refine TX_then ?_
      refine TC_seq ?_
      refine TC_block ?_
      refine TC_seq ?_
      refine TC_reg ?_
      refine TL_q rfl rfl (QT_indexG i rfl rfl Tryd.underlying30 YtjdaglmkljbfkaaDoorF.sz_67 rfl rfl rfl (fun _ => hi') (fun _ => had (by omega))) ?_
      refine TL_q rfl rfl (QT_loadRAj (out := rvV r) (i * 7) rfl rfl Tryd.underlying67 rfl YtjdaglmkljbfkaaDoorF.sz_67 (hrd.mono fun w h => hEη (fun p => by simp only [List.countP_append]; omega) h) rfl (fun _ => hat1) (fun _ => hat2)) ?_
      refine TL_e rfl rfl rfl (rfl) (ET_alloc rfl YtjdaglmkljbfkaaDoorF.zero_67) ?_
      rintro _ _ ⟨b10, rfl, rfl⟩
      refine TL_e0 rfl rfl (rfl) (ET_storeW (vs := rvV r) 0 rfl rfl rfl hrz rfl (List.all_eq_true.2 hri2.oneCell) (by rw [hrl]; rfl)) ?_
      rintro _ _ ⟨rfl, rfl⟩
      refine TL_nil ?_
      refine TX_then ?_
      refine TC_seq ?_
      refine TC_reg ?_
      refine TL_e rfl rfl rfl (rfl) (ET_call rfl YtjdaglmkljbfkaaDoorF.cal_75 rfl (newRowS w0 _)) ?_
      rintro _ _ ⟨rb, K0, rfl, hK0, rfl⟩
      refine TL_q rfl rfl (QT_assign rfl rfl rfl) ?_
      refine TL_nil ?_
      refine TX_then ?_
      refine TC_seq ?_
      refine TC_seq ?_
      refine TC_reg ?_
      refine TL_q rfl rfl (QT_move rfl rfl rfl) ?_
      refine TL_q rfl rfl (QT_len rfl rfl Tryd.underlying82 rfl) ?_
      refine TL_q rfl rfl (QT_move rfl rfl rfl) ?_
      refine TL_nil ?_
      refine TX_then ?_
      refine TC_block ?_
      refine TC_loop (γ := { t : Nat × Heap // t.1 ≤ 7 ∧ (∀ j x, j < t.1 → r[j]? = some x → x < 2 ^ wdR L j) ∧ RowAt rb (eR L r t.1) t.2 }) (fun u => [(7, true, .slice (some ⟨fb, fo, none⟩) 7 fcap), (8, true, bv), (10, true, .pointer (some ⟨b10, 0, none⟩)), (11, true, .pointer (some ⟨rb, 0, none⟩)), (22, true, .slice ad rs.length cap), (23, true, .int .i64 (rs.length : Int)), (24, true, .int .i64 (i : Int)), (29, true, .slice (some ⟨fb, fo, none⟩) 7 fcap), (30, true, .int .i64 7), (31, true, .int .i64 (u.1.1 : Int))]) (fun u => St w0 (u.1.2 ++ ((b10, 67, rvV r) :: (H ++ E)))) (fun u => 7 - u.1.1) ⟨(0, K0), by show 0 ≤ 7; decide, fun j x h => absurd h (Nat.not_lt_zero _), hK0⟩ ⟨rfl, rfl, rfl, rfl, rfl, rfl, rfl, rfl, rfl, rfl, trivial⟩ (fun _ h => h) ?_
      rintro ⟨⟨k, K⟩, hk7, hfits, hK⟩
      dsimp only at hk7 hfits hK ⊢
      refine TC_seq ?_
      refine TC_reg ?_
      refine TL_q rfl rfl (QT_lss rfl rfl rfl rfl) ?_
      refine TL_nil ?_
      refine TX_then ?_
      refine TC_seq ?_
      first
        | refine TC_cond_dec rfl (fun h32 => ?_) (fun h32 => ?_)
        | refine TC_cond rfl (fun h32 => ?_) (fun h32 => ?_)
      ·
        have hk : k < 7 := by omega
        obtain ⟨x, hx⟩ := get7 hrF.len hk
        obtain ⟨hp1, hp2⟩ := fldsC_part L ps (n := 7) hk
        have hxl := Nat.lt_of_lt_of_le (hrF.lt hx) (rkM_le k)
        have hwl := wdR_le hc.1 k
        have hel := eR_len hc.1 hrF.len k
        have hfz : Sz Tryd.prog 88 (fld L ps k).length := YtjdaglmkljbfkaaDoorF.sz_88
        have hstep := eR_step (L := L) hrF.len hx
        refine TC_skip ?_
        refine TX_then ?_
        refine TC_seq ?_
        refine TC_block ?_
        refine TC_seq ?_
        refine TC_reg ?_
        refine TL_q rfl rfl (QT_indexG k rfl rfl Tryd.underlying82 YtjdaglmkljbfkaaDoorF.sz_88 rfl rfl rfl (fun _ => hk) (fun _ => rfl)) ?_
        refine TL_q rfl rfl (QT_loadRAj (out := fld L ps k) (k * 3) rfl rfl Tryd.underlying88 rfl YtjdaglmkljbfkaaDoorF.sz_88 (hEf fun p => by simp only [List.countP_append, List.countP_cons]; omega) rfl (fun _ => hp1) (fun _ => hp2)) ?_
        refine TL_e rfl rfl rfl (rfl) (ET_alloc rfl YtjdaglmkljbfkaaDoorF.zero_88) ?_
        rintro _ _ ⟨b13, rfl, rfl⟩
        refine TL_e0 rfl rfl (rfl) (ET_storeW (vs := fld L ps k) 0 rfl rfl rfl hfz rfl (List.all_eq_true.2 (fld_one L ps k)) rfl) ?_
        rintro _ _ ⟨rfl, rfl⟩
        refine TL_nil ?_
        refine TX_then ?_
        refine TC_seq ?_
        refine TC_A (St w0 ((b13, 88, fld L ps k) :: (K ++ ((b10, 67, rvV r) :: (H ++ E))))) (fun _ h => h) ?_
        refine TC_draw [(0, 0), (1, 0), (2, 0), (4, 0), (5, 0), (3, 1), (6, 1), (7, 0)] YtjdaglmkljbfkaaDoorF.mixed (by kernel_rfl) (St.calm _ _) ?_
        refine TV_q rfl rfl rfl (fun _ => QT_move rfl rfl rfl) ?_
        refine TV_q rfl rfl rfl (fun _ => QT_field rfl rfl YtjdaglmkljbfkaaDoorF.fld_88_1 rfl) ?_
        refine TV_ql rfl rfl rfl (QT_load (v := .func (.func (gF k)) #[] (capF ps k)) 0 rfl rfl Tryd.underlying85 rfl rfl rfl (fun _ => rfl)) ?_
        refine TV_q rfl rfl rfl (fun _ => QT_field rfl rfl YtjdaglmkljbfkaaDoorF.fld_88_0 rfl) ?_
        refine TV_ql rfl rfl rfl (QT_load (v := .int .i64 (wdR L k : Int)) 0 rfl rfl Tryd.underlying3 rfl rfl rfl (fun _ => rfl)) ?_
        refine TV_gq rfl rfl rfl rfl (fun _ => Goes.value rfl rfl (gF_ok k) rfl) (fun _ => getter_spec w0 _ ps k b10 r x hk hrF hx ((Rd.own (w0 := w0) (η := [(b10, 67, rvV r)]) 0 rfl).mono (fun w h => h.cnt fun p => by simp only [List.countP_append, List.countP_cons, List.countP_nil]; omega)) (hEp fun p => by simp only [List.countP_append, List.countP_cons]; omega)) (.keep (by kernel_rfl) rfl (by first | exact QT_load (v := .int .i64 (wdR L k : Int)) 0 rfl rfl Tryd.underlying3 rfl rfl rfl (fun _ => rfl)) (.drop (by kernel_rfl) (.nil))) ?_
        refine TV_e rfl rfl rfl rfl (rfl) (ET_call rfl YtjdaglmkljbfkaaDoorF.cal_76 rfl (RowAt.putX [(b13, 88, fld L ps k)] _ hK hxl hwl (by omega))) ?_
        rintro _ _ ⟨K', rfl, hK', rfl⟩
        refine ⟨_, .drop (by kernel_rfl) (.nil), ?_⟩
        refine TV_q rfl rfl rfl (fun _ => QT_assign rfl rfl rfl) ?_
        refine TV_end ?_
        refine TX_then ?_
        refine TC_seq ?_
        refine TC_reg ?_
        refine TL_q rfl rfl (QT_move rfl rfl rfl) ?_
        refine TL_q rfl rfl (QT_neq rfl rfl rfl rfl) ?_
        refine TL_nil ?_
        refine TX_then ?_
        first
          | refine TC_cond_dec rfl (fun h43 => ?_) (fun h43 => ?_)
          | refine TC_cond rfl (fun h43 => ?_) (fun h43 => ?_)
        ·
          have hnf : ¬ x < 2 ^ wdR L k := fun hlt => h43 (putE_zero hwl hlt (by omega))
          have hbad := fitR_not hrF.len hx hnf
          have e1 : putE (eR L r k).length x (wdR L k : Int) = 1 := putE_one hnf
          have eP : errRP L rs = 1 := by
            unfold errRP
            rw [if_pos hc, if_neg]
            intro ha
            have := List.all_eq_true.1 ha r (List.mem_of_getElem? hri)
            rw [hbad] at this
            exact absurd this (by decide)
          rw [e1]
          refine TC_seq ?_
          refine TC_reg ?_
          refine TL_q rfl rfl (QT_move rfl rfl rfl) ?_
          refine TL_q rfl rfl (QT_assign rfl rfl rfl) ?_
          refine TL_q rfl rfl (QT_assign rfl rfl rfl) ?_
          refine TL_nil ?_
          refine TX_then ?_
          refine TC_ret ?_
          refine TX_block_ret ?_
          refine TX_then_ret ?_
          refine TX_then_ret ?_
          refine TX_block_ret ?_
          refine TX_then_ret ?_
          refine TX_block_ret ?_
          refine TX_then_ret ?_
          refine TX_then_ret ?_
          refine TX_block_ret ?_
          refine TX_then_ret ?_
          exact TX_ret (.inl rfl) (res2 rfl rfl rfl) ⟨_, ⟨_, [], by rw [eP], fragNoneRB eP (by decide), rfl⟩, fun w h => hEη (X := (b13, 88, fld L ps k) :: (K' ++ ((b10, 67, rvV r) :: (H ++ E)))) (fun p => by simp only [List.countP_append, List.countP_cons]; omega) h⟩
        ·
          have hlt : x < 2 ^ wdR L k := by
            refine Classical.byContradiction fun hnf => ?_
            rw [putE_one hnf] at h43
            exact h43 (by decide)
          rw [putL_okX hwl hlt (by omega), ← hstep] at hK'
          refine TC_skip ?_
          refine TX_block_normal ?_
          refine TX_then ?_
          refine TC_reg ?_
          refine TL_q rfl rfl (QT_add rfl rfl rfl rfl (fun _ => ⟨by omega, by omega⟩)) ?_
          refine TL_q rfl rfl (QT_move rfl rfl rfl) ?_
          refine TL_nil ?_
          refine TX_round ⟨(k + 1, K'), by show k + 1 ≤ 7; omega, fun j y hj hy => ?_, hK'⟩ (by show 7 - (k + 1) < 7 - k; omega) ⟨rfl, rfl, rfl, rfl, rfl, rfl, rfl, rfl, rfl, rfl, trivial⟩ (fun _ h => h.tail)
          by_cases e : j = k
          · subst e; rw [hx] at hy; cases hy; exact hlt
          · exact hfits j y (by have : j < k + 1 := hj; omega) hy
      ·
        refine TC_exit ?_
        refine TX_then_exit ?_
        refine TX_then_exit ?_
        refine TX_block_here ?_
        refine TX_then ?_
        obtain rfl : k = 7 := by omega
        have hok1 : fitR L r = true := fitR_all fun j w m y h1 h2 => by
          have hj : j < 7 := by rw [← hrF.len]; exact (List.getElem?_eq_some_iff.1 h2).1
          rw [wR_at hj] at h1
          cases h1
          exact hfits j y hj h2
        rw [eR_all hrF.len] at hK
        have hbx := RowAt.bytesX (w0 := w0) [] ((b10, 67, rvV r) :: (H ++ E)) hK (by rw [← eR_all hrF.len]; have := eR_len hc.1 hrF.len 7; omega)
        rw [show packB (encR L r) = packR L r from rfl] at hbx
        refine TC_reg ?_
        refine TL_q rfl rfl (QT_move rfl rfl rfl) ?_
        refine TL_q rfl rfl (QT_move rfl rfl rfl) ?_
        refine TL_e rfl rfl rfl (rfl) (ET_call rfl YtjdaglmkljbfkaaDoorF.cal_77 rfl (hbx)) ?_
        rintro nv _ ⟨H2, hF2, rfl⟩
        refine TL_e rfl rfl rfl (rfl) (ET_appendL (η := E) (L := H2) rfl Tryd.underlying28 el_Byte rfl rfl hF (fun w h => h.cnt fun p => by simp only [List.countP_append, List.countP_cons, List.countP_nil]; omega) (hF2.within fun p => by simp only [List.countP_append]; omega) (byV_ints (packB_lt _)).oneCell (by omega) (by omega)) ?_
        rintro bv2 _ ⟨H', hF', rfl⟩
        refine TL_q rfl rfl (QT_assign rfl rfl rfl) ?_
        refine TL_nil ?_
        refine TX_block_normal ?_
        refine TX_then ?_
        refine TC_reg ?_
        refine TL_q rfl rfl (QT_add rfl rfl rfl rfl (fun _ => ⟨by omega, by omega⟩)) ?_
        refine TL_q rfl rfl (QT_move rfl rfl rfl) ?_
        refine TL_nil ?_
        refine TX_round ⟨(i + 1, bv2, H'), hi', ?_, ?_⟩ (by show rs.length - (i + 1) < rs.length - i; omega) ⟨rfl, rfl, rfl, rfl, rfl, trivial⟩ (fun w h => h.app_right)
        · have e : bytesR L (rs.take (i + 1)) = bytesR L (rs.take i) ++ packR L r := by rw [htk, bytesR_append]; simp [bytesR]
          show Frag _ 1 _ (bytesR L (rs.take (i + 1))).length (byV (bytesR L (rs.take (i + 1)))) H'
          rw [e, List.length_append, byV_append]
          exact hF'
        · show (rs.take (i + 1)).all (fitR L) = true
          rw [htk, List.all_append, hfit]
          simp [hok1]
    ·
      refine TC_exit ?_
      refine TX_then_exit ?_
      refine TX_then_exit ?_
      refine TX_block_here ?_
      refine TX_then ?_
      refine TC_seq ?_
      refine TC_seq ?_
      obtain rfl : i = rs.length := by omega
      rw [List.take_of_length_le (Nat.le_refl _)] at hF hfit
      obtain ⟨bad, bcap, rfl, _, _⟩ := hF.slice
      refine TC_reg ?_
      refine TL_q rfl rfl (QT_move rfl rfl rfl) ?_
      refine TL_q rfl rfl (QT_len rfl rfl Tryd.underlying28 rfl) ?_
      refine TL_q rfl rfl (QT_gtr rfl rfl rfl rfl) ?_
      refine TL_nil ?_
      refine TX_then ?_
      first
        | refine TC_cond_dec rfl (fun h53 => ?_) (fun h53 => ?_)
        | refine TC_cond rfl (fun h53 => ?_) (fun h53 => ?_)
      ·
        refine TC_seq ?_
        refine TC_reg ?_
        refine TL_q rfl rfl (QT_assign rfl rfl rfl) ?_
        refine TL_q rfl rfl (QT_assign rfl rfl rfl) ?_
        refine TL_nil ?_
        refine TX_then ?_
        refine TC_ret ?_
        refine TX_then_ret ?_
        have eP : errRP L rs = 3 := by unfold errRP; rw [if_pos hc, if_pos hfit, if_pos (by omega)]
        exact TX_ret (.inl rfl) (res2 rfl rfl rfl) ⟨_, ⟨_, [], by rw [eP], fragNoneRB eP (by decide), rfl⟩, fun w h => hEη (X := H ++ E) (fun p => by simp only [List.countP_append]; omega) h⟩
      ·
        refine TC_skip ?_
        refine TX_then ?_
        refine TC_seq ?_
        refine TC_reg ?_
        refine TL_q rfl rfl (QT_move rfl rfl rfl) ?_
        refine TL_e rfl rfl rfl (rfl) (ET_call rfl YtjdaglmkljbfkaaDoorF.cal_78 rfl (clipB_spec w0 E H _ _ _ hF)) ?_
        rintro cv _ ⟨hF2, rfl⟩
        refine TL_q rfl rfl (QT_assign rfl rfl rfl) ?_
        refine TL_q rfl rfl (QT_assign rfl rfl rfl) ?_
        refine TL_nil ?_
        refine TX_then ?_
        refine TC_ret ?_
        have eP : errRP L rs = 0 := by unfold errRP; rw [if_pos hc, if_pos hfit, if_neg (by omega)]
        refine TX_ret (.inl rfl) (res2 rfl rfl rfl) ⟨_, ⟨cv, H, by rw [eP], by unfold outRP; rw [if_pos eP]; exact hF2, rfl⟩, fun w h => ?_⟩
        rw [← hE] at h
        exact h.cnt fun p => by simp only [List.countP_append, List.countP_cons]; omega
end Go.Proofs.YtjdaglmkljbfkaaDoor
namespace Go.Gx
open Go Go.RowKit
section
variable {P : Program} {n : Nat} {ops : Array Oper} {o : Oper} {σ : Slots} {A : World → Prop} {g : Bool} {x y z u : Operand} {c1 c2 c3 c4 : Bool} {t : TypeId} {k : IntKind} {p : Int}
/-- s[l:h:m] -/
theorem QT_slcLHM {e size len cap : Nat} {ad : Option Addr} {q r : Int} {k2 k3 : IntKind} (l h m : Nat) (hg : gdc ops σ o = some g) (hop : o.op = .slice t x (some y) (some z) (some u)) (hu : P.underlying t = some (.slice e)) (hm : Sz P e size)
    (hx : ev σ x = some (c1, .slice ad len cap)) (hy : ev σ y = some (c2, .int k p)) (hz : ev σ z = some (c3, .int k2 q)) (hv : ev σ u = some (c4, .int k3 r)) (hp : p = (l : Int)) (hq : q = (h : Int)) (hr : r = (m : Int)) (hl : g = true → l ≤ h ∧ h ≤ m ∧ m ≤ cap)
    (hc : g = true → c1 = true ∧ c2 = true ∧ c3 = true ∧ c4 = true := by first | exact fun _ => ⟨rfl, rfl, rfl, rfl⟩ | (intro h; first | grind | simp_all)) : QT P n ops o σ A g (.slice (if m = l then ad else ad.map (·.add (l * size))) (h - l) (m - l)) :=
  QT.mk hg fun a w hf _ hgt => by
    have e1 := fun code => run_bound (P := P) (w := w) (k := k) (code := code) hp (hl hgt).1
    have e2 := fun code => run_bound (P := P) (w := w) (k := k2) (code := code) hq (hl hgt).2.1
    have e3 := fun code => run_bound (P := P) (w := w) (k := k3) (code := code) hr (hl hgt).2.2
    simp [execOp, hop, hf.eval hx (hc hgt).1, hf.eval hy (hc hgt).2.1, hf.eval hz (hc hgt).2.2.1, hf.eval hv (hc hgt).2.2.2, Instr.sliceAt, Instr.slice, Instr.sliceBounds, run_underlying hu, e1, e2, e3, run_sizeOf hm]
end
section
variable {P : Program}
/-- what yield does at X -/
def Yields (P : Program) (l N : Nat) (cv : Nat → Value) (X : Nat → World → Prop) : Prop :=
  ∀ k W, k < N → X k W → ∃ fn tmps assign body, (Instr.yield l #[cv k]).run P W = .ok (.round l fn tmps assign body) W ∧ ∀ m', RoundIn (FR none) m' P l fn tmps assign body W fun e W' => e = .returned (.bool true) ∧ X (k + 1) W'
theorem iterOk_of {gf : FuncId} {fn : Func} {c : Code} {lb : List Value} {N l : Nat} {cv : Nat → Value} {X : Nat → World → Prop} (hf : P.funcs[gf]? = some fn) (hb : fn.body = some c) (hn : Nat.ble (lb.length + 1) fn.ntmps = true)
    (h : Yields P l N cv X → ∀ m, TCI P fn.ntmps none m c (bodyPost P fn fun e w' => ∃ v A', e = .returned v ∧ A' = X N ∧ A' w') (slotsOf (.func (.yield l) #[] #[] :: lb) 0) (X 0)) : IterOk P gf lb.toArray N cv l X := by
  intro w h0 hy m
  have hA : (#[.func (.yield l) #[] #[]] ++ lb.toArray : Array Value) = (.func (.yield l) #[] #[] :: lb).toArray := by apply Array.ext'; simp
  rw [hA]
  refine callsIn_of_wp hf hb trivial ?_
  refine wpIn_mono (Q := bodyPost P fn fun e w' => ∃ v A', e = .returned v ∧ A' = X N ∧ A' w') (h hy m (fun a w hx => by obtain ⟨v, A', he, _⟩ := hx; exact Ending.noConfusion he) _ w ⟨?_, rfl, fun t c v h => ?_⟩ h0) fun e a1 w1 h1 => ?_
  rotate_left 2
  ·
    cases e with
    | normal => obtain ⟨hd, v, hr, v', A', he, rfl, hX⟩ := h1; exact ⟨hd, v, hr, ⟨v', he⟩, hX⟩
    | ret => obtain ⟨hd, v, hr, v', A', he, rfl, hX⟩ := h1; exact ⟨hd, v, hr, ⟨v', he⟩, hX⟩
    | panic ch => obtain ⟨v', A', he, _⟩ := h1.2; exact Ending.noConfusion he
    | outgrown => obtain ⟨v', A', he, _⟩ := h1; exact Ending.noConfusion he
    | exit id => exact h1
    | goto id => exact h1
  · have := Nat.le_of_ble_eq_true hn
    simp; omega
  · obtain ⟨rfl, _, h3⟩ := look_slotsOf _ 0 t c v h
    simp only [Nat.sub_zero] at h3
    have hlt := (List.getElem?_eq_some_iff.1 h3).1
    simp only [Array.getD_eq_getD_getElem?, cond_true]
    rw [Array.getElem?_append_left (by simpa using hlt)]
    simp [h3]
end
end Go.Gx
namespace Go.Proofs.YtjdaglmkljbfkaaDoor
open Go Go.Gx Go.RowKit
set_option maxRecDepth 100000
/-- the k-th part of a slice -/
def chkV (ad : Option Addr) (sz k : Nat) : Value := .slice (if k * sz + sz = k * sz then ad else ad.map (·.add (k * sz * 1))) (k * sz + sz - k * sz) (k * sz + sz - k * sz)
theorem chkV_sla {A : World → Prop} {ad : Option Addr} {n cap sz k : Nat} {cs : List Value} (h : SlA A (.slice ad n cap) 1 n cs) (hk : k * sz + sz ≤ n) (h0 : 0 < sz) : SlA A (chkV ad sz k) 1 sz ((cs.drop (k * sz)).take sz) := by
  unfold chkV
  obtain ⟨hl, ad', cap', hv, hc, hr⟩ := h
  obtain ⟨rfl, _, rfl⟩ := Value.slice.inj hv
  rw [if_neg (by omega), show k * sz + sz - k * sz = sz by omega]
  refine ⟨by rw [List.length_take, List.length_drop]; omega, _, _, rfl, ⟨Nat.le_refl _, by omega⟩, .inr ?_⟩
  obtain ⟨b, off, rfl, hrd⟩ := hr.resolve_left (by omega)
  refine ⟨b, off + k * sz, by simp [add_mk], fun w hw j v hv => ?_⟩
  rw [List.getElem?_take] at hv
  split at hv
  · rw [Nat.add_assoc]
    exact hrd w hw _ v (by rw [← List.getElem?_drop]; exact hv)
  · cases hv
set_option maxHeartbeats 1000000 in
theorem chunk_iter (X : Nat → World → Prop) (hcalm : ∀ k, Go.Gx.Calm (X k)) (b1 b2 n cap sz N l : Nat) (ad : Option Addr) (hcap : n ≤ cap ∧ cap ≤ 9223372036854775807) (hz : 0 < sz) (hN : N * sz = n) (hnm : n ≤ 1000000) (h1 : ∀ k, Rd (X k) b1 0 [.slice ad n cap]) (h2 : ∀ k, Rd (X k) b2 0 [.int .i64 (sz : Int)]) :
    IterOk Tryd.prog 64 [.pointer (some ⟨b1, 0, none⟩), .pointer (some ⟨b2, 0, none⟩)].toArray N (chkV ad sz) l X := by
  refine iterOk_of Tryd.func64 rfl rfl fun hY m => ?_
  simp only [Tryd.ntmps64, slotsOf, Nat.reduceAdd]
  refine TCI_seq ?_
  refine TCI_regI ?_
  refine TLI_q rfl rfl (QT_assign rfl rfl rfl) ?_
  refine TLI_nil ?_
  refine TXI_then ?_
  refine TCI_block ?_
  refine TCI_loop (γ := { k : Nat // k ≤ N }) (fun k => [(0, true, .func (.yield l) #[] #[]), (1, true, .pointer (some ⟨b1, 0, none⟩)), (2, true, .pointer (some ⟨b2, 0, none⟩)), (4, true, .int .i64 ((k.1 * sz : Nat) : Int))]) (fun k => X k.1) (fun k => N - k.1) ⟨0, Nat.zero_le _⟩ ⟨rfl, rfl, rfl, slotI rfl (by show (0 : Int) = ((0 * sz : Nat) : Int); omega), trivial⟩ (fun _ h => h) ?_
  rintro ⟨k, hkN⟩
  dsimp only at hkN ⊢
  have hkn : k * sz ≤ n := by rw [← hN]; exact Nat.mul_le_mul_right _ hkN
  refine TCI_seq ?_
  refine TCI_seq ?_
  refine TCI_regI ?_
  refine TLI_q rfl rfl (QT_move rfl rfl rfl) ?_
  refine TLI_q rfl rfl (QT_loadRj (v := .slice ad n cap) 0 rfl rfl Tryd.underlying28 rfl (h1 k) rfl (fun _ => rfl)) ?_
  refine TLI_q rfl rfl (QT_len rfl rfl Tryd.underlying28 rfl) ?_
  refine TLI_q rfl rfl (QT_lss rfl rfl rfl rfl) ?_
  refine TLI_nil ?_
  refine TXI_then ?_
  first
    | refine TCI_cond_dec rfl (fun h9 => ?_) (fun h9 => ?_)
    | refine TCI_cond rfl (fun h9 => ?_) (fun h9 => ?_)
  ·
    have hk : k < N := by
      refine Classical.byContradiction fun hk => ?_
      have : k = N := by omega
      rw [this] at h9
      omega
    have hks : k * sz + sz ≤ n := by
      have : (k + 1) * sz ≤ N * sz := Nat.mul_le_mul_right _ hk
      rw [Nat.add_mul] at this
      omega
    have hcv : chkV ad sz k = .slice (if k * sz + sz = k * sz then ad else ad.map (·.add (k * sz * 1))) (k * sz + sz - k * sz) (k * sz + sz - k * sz) := rfl
    have hk1 : (k + 1) * sz = k * sz + sz := by rw [Nat.add_mul]; omega
    generalize hcE : k * sz = c at hkn hks hcv hk1 h9 ⊢
    refine TCI_skip ?_
    refine TXI_then ?_
    refine TCI_seq ?_
    refine TCI_block ?_
    refine TCI_seq ?_
    refine TCI_draw [(0, 0), (1, 0), (2, 0), (3, 0), (4, 0), (5, 0), (6, 0)] YtjdaglmkljbfkaaDoorF.mixed (by kernel_rfl) (hcalm _) ?_
    refine TV_ql rfl rfl rfl (QT_loadRj (v := .int .i64 (sz : Int)) 0 rfl rfl Tryd.underlying3 rfl (h2 k) rfl (fun _ => rfl)) ?_
    refine TV_ql rfl rfl rfl (QT_loadRj (v := .slice ad n cap) 0 rfl rfl Tryd.underlying28 rfl (h1 k) rfl (fun _ => rfl)) ?_
    refine TV_q rfl rfl rfl (fun _ => QT_move rfl rfl rfl) ?_
    refine TV_q rfl rfl rfl (fun _ => QT_slcL c rfl rfl rfl rfl Tryd.underlying28 YtjdaglmkljbfkaaDoorF.sz_5 rfl rfl rfl (fun _ => hkn)) ?_
    refine TV_q rfl rfl rfl (fun _ => QT_len rfl rfl Tryd.underlying28 rfl) ?_
    refine TV_q rfl rfl rfl (fun _ => QT_min rfl rfl rfl rfl) ?_
    refine TV_q rfl rfl rfl (fun _ => QT_assign rfl rfl rfl) ?_
    refine TV_end ?_
    refine TXI_then ?_
    refine TCI_seq ?_
    refine TCI_regI ?_
    refine TLI_q rfl rfl (QT_move rfl rfl rfl) ?_
    refine TLI_q rfl rfl (QT_loadRj (v := .slice ad n cap) 0 rfl rfl Tryd.underlying28 rfl (h1 k) rfl (fun _ => rfl)) ?_
    refine TLI_q rfl rfl (QT_move rfl rfl rfl) ?_
    refine TLI_q rfl rfl (QT_move rfl rfl rfl) ?_
    refine TLI_q rfl rfl (QT_move rfl rfl rfl) ?_
    refine TLI_q rfl rfl (QT_add rfl rfl rfl rfl (fun _ => ⟨by omega, by omega⟩)) ?_
    refine TLI_q rfl rfl (QT_move rfl rfl rfl) ?_
    refine TLI_q rfl rfl (QT_move rfl rfl rfl) ?_
    refine TLI_q rfl rfl (QT_add rfl rfl rfl rfl (fun _ => ⟨by omega, by omega⟩)) ?_
    refine TLI_q rfl rfl (QT_slcLHM c (c + sz) (c + sz) rfl rfl Tryd.underlying28 YtjdaglmkljbfkaaDoorF.sz_5 rfl rfl rfl rfl rfl (by omega) (by omega) (fun _ => ⟨by omega, by omega, by omega⟩)) ?_
    refine TLI_yield (A' := X (k + 1)) (l := l) rfl rfl rfl rfl rfl rfl (fun W hW => by rw [← hcv]; exact hY k W hk hW) ?_
    refine TLI_q rfl rfl (QT_not rfl rfl rfl) ?_
    refine TLI_nil ?_
    refine TXI_then ?_
    refine TCI_cond rfl (fun h => absurd h (by decide)) (fun _ => ?_)
    refine TCI_skip ?_
    refine TX_block_normal ?_
    refine TXI_then ?_
    refine TCI_regI ?_
    refine TLI_q rfl rfl (QT_move rfl rfl rfl) ?_
    refine TLI_q rfl rfl (QT_loadRj (v := .int .i64 (sz : Int)) 0 rfl rfl Tryd.underlying3 rfl (h2 (k + 1)) rfl (fun _ => rfl)) ?_
    refine TLI_q rfl rfl (QT_add rfl rfl rfl rfl (fun _ => ⟨by omega, by omega⟩)) ?_
    refine TLI_q rfl rfl (QT_assign rfl rfl rfl) ?_
    refine TLI_nil ?_
    exact TX_round ⟨k + 1, hk⟩ (by show N - (k + 1) < N - k; omega) ⟨rfl, rfl, rfl, slotI rfl (by show (c : Int) + (sz : Int) = (((k + 1) * sz : Nat) : Int); omega), trivial⟩ (fun _ h => h)
  ·
    obtain rfl : k = N := by
      refine Classical.byContradiction fun hk => ?_
      have : (k + 1) * sz ≤ N * sz := Nat.mul_le_mul_right _ (by omega)
      rw [Nat.add_mul] at this
      omega
    refine TCI_exit ?_
    refine TX_then_exit ?_
    refine TX_then_exit ?_
    refine TX_block_here ?_
    exact TX_ret (.inr rfl) (res0 rfl) ⟨_, rfl, fun _ h => h⟩
theorem chunk_spec (w0 : Base) (η : Heap) (n cap sz : Nat) (ad : Option Addr) (hz : 0 < sz) :
    CallsT Tryd.prog 29 [.slice ad n cap, .int .i64 (sz : Int)] (St w0 η) fun v A' => ∃ b1 b2, v = .func (.func 64) #[] #[.pointer (some ⟨b1, 0, none⟩), .pointer (some ⟨b2, 0, none⟩)] ∧ A' = St w0 ((b2, 3, [.int .i64 (sz : Int)]) :: (b1, 28, [.slice ad n cap]) :: η) := by
  refine CallsT.body Tryd.func29 rfl rfl ?_
  simp only [Tryd.ntmps29, slotsOf, Nat.reduceAdd]
  refine TC_seq ?_
  refine TC_reg ?_
  refine TL_e rfl rfl rfl (rfl) (ET_box rfl rfl) ?_
  rintro _ _ ⟨b2, rfl, rfl⟩
  refine TL_e rfl rfl rfl (rfl) (ET_box rfl rfl) ?_
  rintro _ _ ⟨b3, rfl, rfl⟩
  refine TL_q rfl rfl (QT_assign rfl rfl rfl) ?_
  refine TL_nil ?_
  refine TX_then ?_
  refine TC_seq ?_
  refine TC_seq ?_
  refine TC_reg ?_
  first
    | refine TL_q rfl rfl (QT_load 0 rfl rfl Tryd.underlying3 rfl rfl rfl (fun _ => rfl)) ?_
    | refine TL_q rfl rfl (QT_load 1 rfl rfl Tryd.underlying3 rfl rfl rfl (fun _ => rfl)) ?_
    | refine TL_q rfl rfl (QT_load 2 rfl rfl Tryd.underlying3 rfl rfl rfl (fun _ => rfl)) ?_
  refine TL_q rfl rfl (QT_lss rfl rfl rfl rfl) ?_
  refine TL_nil ?_
  refine TX_then ?_
  refine TC_cond rfl (fun h => absurd (h.symm.trans (decide_eq_false (by omega))) (by decide)) (fun _ => ?_)
  refine TC_skip ?_
  refine TX_then ?_
  refine TC_seq ?_
  refine TC_reg ?_
  refine TL_q rfl rfl (QT_makeFunc rfl rfl rfl rfl) ?_
  refine TL_q rfl rfl (QT_assign rfl rfl rfl) ?_
  refine TL_nil ?_
  refine TX_then ?_
  refine TC_ret ?_
  exact TX_ret (.inl rfl) (res1 rfl rfl) ⟨_, ⟨b2, b3, rfl, rfl⟩, fun _ h => h⟩
end Go.Proofs.YtjdaglmkljbfkaaDoor
namespace Go.Proofs.YtjdaglmkljbfkaaDoor
open Go Go.Gx Go.RowKit
set_option maxRecDepth 100000
theorem el_RecR : ElemOk Tryd.prog 67 7 20 (.agg #[.int .u8 0, .int .u32 0, .int .u32 0, .int .u16 0, .int .u16 0, .int .u16 0, .int .u16 0]) := .of YtjdaglmkljbfkaaDoorF.sz_67 (by kernel_rfl) (by unfold ZeroOk; kernel_rfl) (by kernel_rfl) (by decide)
theorem el_IntR : ElemOk Tryd.prog 3 1 8 (.int .i64 0) := .of YtjdaglmkljbfkaaDoorF.sz_3 (by kernel_rfl) (by unfold ZeroOk; kernel_rfl) (by kernel_rfl) (by decide)
theorem errRG_bad {L : Lay} {bs : List Nat} (h : errRG L bs ≠ 0) : outRG L bs = [] := by unfold outRG; rw [if_neg h]
theorem fragNoneRG {L : Lay} {bs : List Nat} {e : Int} (h : errRG L bs = e) (h0 : e ≠ 0) : Frag 67 7 (.slice none 0 0) (outRG L bs).length (flatR (outRG L bs)) [] := by
  rw [errRG_bad (by rw [h]; exact h0)]
  exact Frag.nil _ _
/-- a record whose first j numbers are set -/
def setRN (v : List Nat) (j : Nat) : List Nat := (List.range 7).map fun p => if p < j then v.getD p 0 % rkM p else 0
theorem setRN_len (v : List Nat) (j : Nat) : (setRN v j).length = 7 := by simp [setRN]
theorem setRN_step {v : List Nat} {j x : Nat} (hj : j < 7) (hx : v[j]? = some x) : (setRN v j).set j (x % rkM j) = setRN v (j + 1) := by
  apply List.ext_getElem?
  intro p
  rw [List.getElem?_set]
  by_cases e : j = p
  · subst e
    rw [if_pos rfl, if_pos (by rw [setRN_len]; exact hj), setRN, List.getElem?_map, List.getElem?_range hj]
    simp [hx]
  · rw [if_neg e, setRN, setRN, List.getElem?_map, List.getElem?_map]
    by_cases hp : p < 7
    · rw [List.getElem?_range hp]
      simp only [Option.map_some]
      congr 1
      by_cases h1 : p < j
      · rw [if_pos h1, if_pos (by omega)]
      · rw [if_neg h1, if_neg (by omega)]
    · rw [List.getElem?_eq_none (by simpa using hp)]
      rfl
theorem setRN_all {L : Lay} {l : List Bool} : setRN (decN (wR L) l) 7 = dcR L l := by
  apply List.ext_getElem?
  intro p
  by_cases hp : p < 7
  · rw [setRN, List.getElem?_map, List.getElem?_range hp, dcR, dec_at (wR_at hp)]
    simp only [Option.map_some]
    rw [if_pos hp]
    have := decN_at (l := l) (wR_at (L := L) hp)
    simp [this]
  · rw [List.getElem?_eq_none (by rw [setRN_len]; omega), List.getElem?_eq_none (by rw [(dcR_rcf L l).len]; omega)]
theorem recsB_snoc (L : Lay) (bs : List Nat) (k : Nat) : recsB L bs (k + 1) = recsB L bs k ++ [recAt L bs k] := by simp [recsB, List.range_succ]
theorem recsB_rcf {L : Lay} {bs : List Nat} {n : Nat} : ∀ r ∈ recsB L bs n, RcF r := by
  intro r hr
  obtain ⟨k, _, rfl⟩ := List.mem_map.1 hr
  exact dcR_rcf _ _
theorem recsB_len (L : Lay) (bs : List Nat) (n : Nat) : (recsB L bs n).length = n := by simp [recsB]
theorem recAt_cut {L : Lay} {bs : List Nat} {k : Nat} : dcR L (byB ((bs.drop (k * szR L)).take (szR L))) = recAt L bs k := by
  unfold recAt dcR
  rw [byB_take, dec_take]
  unfold szR
  omega
theorem wV_snoc {L : Lay} {k : Nat} (hk : k < 7) : wV ((wR L).take (k + 1)) = wV ((wR L).take k) ++ [.int .i64 (wdR L k : Int)] := by
  rw [take_snocX (wR_at hk)]
  simp [wV]
theorem byV_cut (bs : List Nat) (a b : Nat) : byV ((bs.drop a).take b) = ((byV bs).drop a).take b := by simp [byV, List.map_drop, List.map_take]
set_option maxHeartbeats 4000000 in
theorem rget0_spec (w0 : Base) (η : Heap) (hG : Sets w0) (L : Lay) (sv : Value) (bs : List Nat) (hs : SlA (St w0 η) sv 1 bs.length (byV bs)) (hb : ∀ c ∈ bs, c < 256) (hl : bs.length ≤ 100000000) :
    CallsT Tryd.prog 12 [L.val, sv] (St w0 η) fun v A' => ∃ rv H, v = .tuple #[rv, .int .i64 (errRG L bs)] ∧ Frag 67 7 rv (outRG L bs).length (flatR (outRG L bs)) H ∧ A' = St w0 (H ++ η) := by
  obtain ⟨hbl, ad, cap, sb, so, rfl, hcap, had, hrd⟩ := hs.some
  refine CallsT.bodyM Tryd.func12 rfl rfl ?_
  simp only [Tryd.ntmps12, slotsOf, Nat.reduceAdd]
  refine TC_seq ?_
  refine TC_reg ?_
  refine TL_e rfl rfl rfl (rfl) (ET_box rfl rfl) ?_
  rintro _ _ ⟨b2, rfl, rfl⟩
  refine TL_q rfl rfl (QT_assign rfl rfl rfl) ?_
  refine TL_q rfl rfl (QT_assign rfl rfl rfl) ?_
  refine TL_nil ?_
  refine TX_then ?_
  refine TC_seq ?_
  refine TC_A (St w0 ((b2, 27, L.cells) :: η)) (fun _ h => h) ?_
  refine TC_reg ?_
  first
    | refine TL_q rfl rfl (QT_loadW 0 rfl rfl Tryd.underlying27 rfl rfl rfl YtjdaglmkljbfkaaDoorF.sz_27) ?_
    | refine TL_q rfl rfl (QT_loadW 1 rfl rfl Tryd.underlying27 rfl rfl rfl YtjdaglmkljbfkaaDoorF.sz_27) ?_
    | refine TL_q rfl rfl (QT_loadW 2 rfl rfl Tryd.underlying27 rfl rfl rfl YtjdaglmkljbfkaaDoorF.sz_27) ?_
    | refine TL_q rfl rfl (QT_loadA 0 rfl rfl Tryd.underlying27 rfl rfl rfl YtjdaglmkljbfkaaDoorF.sz_27 (fun _ => rfl)) ?_
    | refine TL_q rfl rfl (QT_loadA 1 rfl rfl Tryd.underlying27 rfl rfl rfl YtjdaglmkljbfkaaDoorF.sz_27 (fun _ => rfl)) ?_
    | refine TL_q rfl rfl (QT_loadA 2 rfl rfl Tryd.underlying27 rfl rfl rfl YtjdaglmkljbfkaaDoorF.sz_27 (fun _ => rfl)) ?_
  refine TL_cq rfl rfl rfl rfl YtjdaglmkljbfkaaDoorF.cal_26 rfl (fun _ => size_spec w0 _ hG L 0 (by decide)) ?_
  refine TL_q rfl rfl (QT_assign rfl rfl rfl) ?_
  refine TL_nil ?_
  refine TX_then ?_
  refine TC_seq ?_
  refine TC_seq ?_
  refine TC_reg ?_
  first
    | refine TL_q rfl rfl (QT_loadW 0 rfl rfl Tryd.underlying27 rfl rfl rfl YtjdaglmkljbfkaaDoorF.sz_27) ?_
    | refine TL_q rfl rfl (QT_loadW 1 rfl rfl Tryd.underlying27 rfl rfl rfl YtjdaglmkljbfkaaDoorF.sz_27) ?_
    | refine TL_q rfl rfl (QT_loadW 2 rfl rfl Tryd.underlying27 rfl rfl rfl YtjdaglmkljbfkaaDoorF.sz_27) ?_
    | refine TL_q rfl rfl (QT_loadA 0 rfl rfl Tryd.underlying27 rfl rfl rfl YtjdaglmkljbfkaaDoorF.sz_27 (fun _ => rfl)) ?_
    | refine TL_q rfl rfl (QT_loadA 1 rfl rfl Tryd.underlying27 rfl rfl rfl YtjdaglmkljbfkaaDoorF.sz_27 (fun _ => rfl)) ?_
    | refine TL_q rfl rfl (QT_loadA 2 rfl rfl Tryd.underlying27 rfl rfl rfl YtjdaglmkljbfkaaDoorF.sz_27 (fun _ => rfl)) ?_
  refine TL_cq rfl rfl rfl rfl YtjdaglmkljbfkaaDoorF.cal_27 rfl (fun _ => rcheck0_spec w0 _ hG L) ?_
  refine TL_q rfl rfl (QT_assign rfl rfl rfl) ?_
  refine TL_nil ?_
  refine TX_then ?_
  refine TC_block ?_
  refine TC_seq ?_
  refine TC_reg ?_
  refine TL_q rfl rfl (QT_move rfl rfl rfl) ?_
  refine TL_q rfl rfl (QT_neq rfl rfl rfl rfl) ?_
  refine TL_q rfl rfl (QT_assign rfl rfl rfl) ?_
  refine TL_nil ?_
  refine TX_then ?_
  first
    | refine TC_cond_dec rfl (fun h21 => ?_) (fun h21 => ?_)
    | refine TC_cond rfl (fun h21 => ?_) (fun h21 => ?_)
  ·
    refine TC_seq ?_
    refine TC_reg ?_
    refine TL_q rfl rfl (QT_move rfl rfl rfl) ?_
    refine TL_q rfl rfl (QT_assign rfl rfl rfl) ?_
    refine TL_q rfl rfl (QT_assign rfl rfl rfl) ?_
    refine TL_nil ?_
    refine TX_then ?_
    refine TC_ret ?_
    refine TX_block_ret ?_
    refine TX_then_ret ?_
    have hne : ¬ (okB L = true ∧ L.ty ≤ 5) := fun hc => h21 (by unfold errCR; rw [if_pos hc])
    have eP : errRG L bs = 4 := by unfold errRG; rw [if_neg hne]
    have eC : errCR L = 4 := by unfold errCR; rw [if_neg hne]
    exact TX_retM (.inl rfl) (res2 rfl rfl rfl) ⟨_, ⟨_, [], by rw [eP, eC], fragNoneRG eP (by decide), rfl⟩, fun _ h => h.tail⟩
  ·
    have hc := errCR_ok (Classical.not_not.1 h21)
    have hsz := sizeR_eq hc.1 (ty45 hc) 0
    have hszb := szR_bd hc.1
    have hsz1 : (szR L : Int) ≠ 0 := by omega
    refine TC_seq ?_
    refine TC_reg ?_
    refine TL_q rfl rfl (QT_move rfl rfl rfl) ?_
    refine TL_q rfl rfl (QT_len rfl rfl Tryd.underlying28 rfl) ?_
    refine TL_q rfl rfl (QT_gtr rfl rfl rfl rfl) ?_
    refine TL_q rfl rfl (QT_assign rfl rfl rfl) ?_
    refine TL_nil ?_
    refine TX_then ?_
    first
      | refine TC_cond_dec rfl (fun h25 => ?_) (fun h25 => ?_)
      | refine TC_cond rfl (fun h25 => ?_) (fun h25 => ?_)
    ·
      refine TC_seq ?_
      refine TC_reg ?_
      refine TL_q rfl rfl (QT_assign rfl rfl rfl) ?_
      refine TL_q rfl rfl (QT_assign rfl rfl rfl) ?_
      refine TL_nil ?_
      refine TX_then ?_
      refine TC_ret ?_
      refine TX_block_ret ?_
      refine TX_then_ret ?_
      have eP : errRG L bs = 3 := by unfold errRG; rw [if_pos hc, if_pos (by omega)]
      exact TX_retM (.inl rfl) (res2 rfl rfl rfl) ⟨_, ⟨_, [], by rw [eP], fragNoneRG eP (by decide), rfl⟩, fun _ h => h.tail⟩
    ·
      refine TC_seq ?_
      refine TC_reg ?_
      refine TL_q rfl rfl (QT_move rfl rfl rfl) ?_
      refine TL_q rfl rfl (QT_len rfl rfl Tryd.underlying28 rfl) ?_
      refine TL_q rfl rfl (QT_move rfl rfl rfl) ?_
      refine TL_q rfl rfl (QT_rem rfl rfl rfl rfl (fun _ => ⟨by omega, by rw [hsz]; omega⟩)) ?_
      refine TL_q rfl rfl (QT_neq rfl rfl rfl rfl) ?_
      refine TL_q rfl rfl (QT_assign rfl rfl rfl) ?_
      refine TL_nil ?_
      refine TX_then ?_
      first
        | refine TC_cond_dec rfl (fun h29 => ?_) (fun h29 => ?_)
        | refine TC_cond rfl (fun h29 => ?_) (fun h29 => ?_)
      ·
        refine TC_seq ?_
        refine TC_reg ?_
        refine TL_q rfl rfl (QT_assign rfl rfl rfl) ?_
        refine TL_q rfl rfl (QT_assign rfl rfl rfl) ?_
        refine TL_nil ?_
        refine TX_then ?_
        refine TC_ret ?_
        refine TX_block_ret ?_
        refine TX_then_ret ?_
        have eP : errRG L bs = 5 := by
          unfold errRG
          rw [if_pos hc, if_neg (by omega), if_neg]
          intro e
          rw [hsz] at h29
          apply h29
          rw [← Int.natCast_emod, e]
          rfl
        exact TX_retM (.inl rfl) (res2 rfl rfl rfl) ⟨_, ⟨_, [], by rw [eP], fragNoneRG eP (by decide), rfl⟩, fun _ h => h.tail⟩
      ·
        have hmod : bs.length % szR L = 0 := by
          have h := Classical.not_not.1 h29
          rw [hsz, ← Int.natCast_emod] at h
          omega
        have hNs : bs.length / szR L * szR L = bs.length := Nat.div_mul_cancel (Nat.dvd_of_mod_eq_zero hmod)
        have hNl : bs.length / szR L ≤ 65536 := Nat.le_trans (Nat.div_le_self _ _) (by omega)
        have eP : errRG L bs = 0 := by unfold errRG; rw [if_pos hc, if_neg (by omega), if_pos hmod]
        have eO : outRG L bs = recsB L bs (bs.length / szR L) := by unfold outRG; rw [if_pos eP]
        refine TC_skip ?_
        refine TX_block_normal ?_
        refine TX_then ?_
        refine TC_seq ?_
        refine TC_reg ?_
        first
          | refine TL_q rfl rfl (QT_loadW 0 rfl rfl Tryd.underlying27 rfl rfl rfl YtjdaglmkljbfkaaDoorF.sz_27) ?_
          | refine TL_q rfl rfl (QT_loadW 1 rfl rfl Tryd.underlying27 rfl rfl rfl YtjdaglmkljbfkaaDoorF.sz_27) ?_
          | refine TL_q rfl rfl (QT_loadW 2 rfl rfl Tryd.underlying27 rfl rfl rfl YtjdaglmkljbfkaaDoorF.sz_27) ?_
          | refine TL_q rfl rfl (QT_loadA 0 rfl rfl Tryd.underlying27 rfl rfl rfl YtjdaglmkljbfkaaDoorF.sz_27 (fun _ => rfl)) ?_
          | refine TL_q rfl rfl (QT_loadA 1 rfl rfl Tryd.underlying27 rfl rfl rfl YtjdaglmkljbfkaaDoorF.sz_27 (fun _ => rfl)) ?_
          | refine TL_q rfl rfl (QT_loadA 2 rfl rfl Tryd.underlying27 rfl rfl rfl YtjdaglmkljbfkaaDoorF.sz_27 (fun _ => rfl)) ?_
        refine TL_e rfl rfl rfl (rfl) (ET_call rfl YtjdaglmkljbfkaaDoorF.cal_28 rfl (fields_spec w0 _ L hc.1)) ?_
        rintro fv _ ⟨ps, Hf, hps, hFf, rfl⟩
        obtain ⟨_, fad, fcap, fb, fo, rfl, hfcap, hfad, hfrd⟩ := (hFf.sla (w0 := w0) (η := [])).some
        obtain rfl := hfad (by decide)
        refine TL_e rfl rfl rfl (rfl) (ET_alloc rfl YtjdaglmkljbfkaaDoorF.zero_82) ?_
        rintro _ _ ⟨b8, rfl, rfl⟩
        first
          | refine TL_e0 rfl rfl (rfl) (ET_store 0 rfl rfl rfl rfl YtjdaglmkljbfkaaDoorF.sz_82 rfl rfl rfl) ?_
          | refine TL_e0 rfl rfl (rfl) (ET_store 1 rfl rfl rfl rfl YtjdaglmkljbfkaaDoorF.sz_82 rfl rfl rfl) ?_
          | refine TL_e0 rfl rfl (rfl) (ET_store 2 rfl rfl rfl rfl YtjdaglmkljbfkaaDoorF.sz_82 rfl rfl rfl) ?_
        rintro _ _ ⟨rfl, rfl⟩
        refine TL_nil ?_
        refine TX_then ?_
        refine TC_seq ?_
        obtain ⟨E, hE⟩ : ∃ E, E = Hf ++ (psHeap ps 0 ++ ((b2, 27, L.cells) :: η)) := ⟨_, rfl⟩
        refine TC_A (St w0 ((b8, 82, [.slice (some ⟨fb, fo, none⟩) 7 fcap]) :: E)) (fun _ h => by rw [hE]; exact h) ?_
        have hEc : ∀ p : Blk → Bool, E.countP p = Hf.countP p + (psHeap ps 0).countP p + (List.countP p [(b2, 27, L.cells)]) + η.countP p := fun p => by
          rw [hE]; simp only [List.countP_append, List.countP_cons, List.countP_nil]; omega
        have hEf : ∀ {B : Base} {X : Heap}, (∀ p : Blk → Bool, E.countP p ≤ X.countP p) → Rd (St B X) fb fo (fldsC L ps 7) := fun {B X} h => by
          obtain ⟨_, gad, gcap, gb, go, hgv, _, hgad, hgrd⟩ := (hFf.sla (w0 := B) (η := [])).some
          obtain ⟨rfl, rfl⟩ : fb = gb ∧ fo = go := by
            have h1 := hgad (by decide)
            rw [h1] at hgv
            injection hgv with h2
            injection h2 with h3
            injection h3 with h4 h5
            exact ⟨h4, h5⟩
          exact hgrd.mono fun w hw => hw.cnt fun p => by
            have := h p
            rw [hEc] at this
            simp only [List.countP_append, List.countP_nil]
            omega
        have hEp : ∀ {B : Base} {X : Heap}, (∀ p : Blk → Bool, E.countP p ≤ X.countP p) → PsOk (St B X) ps := fun {B X} h => psOk_of hps fun p => by
          have := h p
          rw [hEc] at this
          omega
        have hEη : ∀ {B : Base} {X : Heap} {w : World}, Under w0 B → (∀ p : Blk → Bool, E.countP p ≤ X.countP p) → St B X w → St w0 η w := fun {B X w} hU h hw => (hU.back hw).cnt fun p => by
          have := h p
          rw [hEc] at this
          omega
        refine TC_reg ?_
        refine TL_e rfl rfl rfl (rfl) (ET_alloc rfl YtjdaglmkljbfkaaDoorF.zero_84) ?_
        rintro _ _ ⟨b9, rfl, rfl⟩
        refine TL_nil ?_
        refine TX_then ?_
        refine TC_seq ?_
        refine TC_seq ?_
        refine TC_reg ?_
        first
          | refine TL_q rfl rfl (QT_load 0 rfl rfl Tryd.underlying82 rfl rfl rfl (fun _ => rfl)) ?_
          | refine TL_q rfl rfl (QT_load 1 rfl rfl Tryd.underlying82 rfl rfl rfl (fun _ => rfl)) ?_
          | refine TL_q rfl rfl (QT_load 2 rfl rfl Tryd.underlying82 rfl rfl rfl (fun _ => rfl)) ?_
        refine TL_q rfl rfl (QT_len rfl rfl Tryd.underlying82 rfl) ?_
        refine TL_q rfl rfl (QT_move rfl rfl rfl) ?_
        refine TL_nil ?_
        refine TX_then ?_
        refine TC_block ?_
        refine TC_loop (γ := { t : Nat × Value × Heap // t.1 ≤ 7 ∧ Frag 3 1 t.2.1 t.1 (wV ((wR L).take t.1)) t.2.2 }) (fun u => [(1, true, .slice ad bs.length cap), (6, true, .int .i64 (sizeZ L 0)), (8, true, .pointer (some ⟨b8, 0, none⟩)), (9, true, .pointer (some ⟨b9, 0, none⟩)), (37, true, .slice (some ⟨fb, fo, none⟩) 7 fcap), (38, true, .int .i64 7), (39, true, .int .i64 (u.1.1 : Int))]) (fun u => St w0 ((b9, 84, [u.1.2.1]) :: (u.1.2.2 ++ ((b8, 82, [.slice (some ⟨fb, fo, none⟩) 7 fcap]) :: E)))) (fun u => 7 - u.1.1) ⟨(0, .slice none 0 0, []), Nat.zero_le _, Frag.nil _ _⟩ ⟨rfl, rfl, rfl, rfl, rfl, rfl, rfl, trivial⟩ (fun _ h => h) ?_
        rintro ⟨⟨k, wv, Hw⟩, hk7, hF⟩
        dsimp only at hk7 hF ⊢
        refine TC_seq ?_
        refine TC_reg ?_
        refine TL_q rfl rfl (QT_lss rfl rfl rfl rfl) ?_
        refine TL_nil ?_
        refine TX_then ?_
        refine TC_seq ?_
        first
          | refine TC_cond_dec rfl (fun h40 => ?_) (fun h40 => ?_)
          | refine TC_cond rfl (fun h40 => ?_) (fun h40 => ?_)
        ·
          have hk : k < 7 := by omega
          obtain ⟨hp1, hp2⟩ := fldsC_part L ps (n := 7) hk
          have hfz : Sz Tryd.prog 88 (fld L ps k).length := YtjdaglmkljbfkaaDoorF.sz_88
          have hwl := wdR_le hc.1 k
          refine TC_skip ?_
          refine TX_then ?_
          refine TC_seq ?_
          refine TC_block ?_
          refine TC_seq ?_
          refine TC_reg ?_
          refine TL_q rfl rfl (QT_indexG k rfl rfl Tryd.underlying82 YtjdaglmkljbfkaaDoorF.sz_88 rfl rfl rfl (fun _ => hk) (fun _ => rfl)) ?_
          refine TL_q rfl rfl (QT_loadRAj (out := fld L ps k) (k * 3) rfl rfl Tryd.underlying88 rfl YtjdaglmkljbfkaaDoorF.sz_88 (hEf fun p => by simp only [List.countP_append, List.countP_cons]; omega) rfl (fun _ => hp1) (fun _ => hp2)) ?_
          refine TL_e rfl rfl rfl (rfl) (ET_alloc rfl YtjdaglmkljbfkaaDoorF.zero_88) ?_
          rintro _ _ ⟨b11, rfl, rfl⟩
          refine TL_e0 rfl rfl (rfl) (ET_storeW (vs := fld L ps k) 0 rfl rfl rfl hfz rfl (List.all_eq_true.2 (fld_one L ps k)) rfl) ?_
          rintro _ _ ⟨rfl, rfl⟩
          refine TL_nil ?_
          refine TX_then ?_
          refine TC_A (St w0 ((b11, 88, fld L ps k) :: (b9, 84, [wv]) :: (Hw ++ ((b8, 82, [.slice (some ⟨fb, fo, none⟩) 7 fcap]) :: E)))) (fun _ h => h) ?_
          refine TC_reg ?_
          refine TL_q rfl rfl (QT_load (v := wv) 1 rfl rfl Tryd.underlying84 rfl rfl rfl (fun _ => rfl)) ?_
          refine TL_q rfl rfl (QT_field rfl rfl YtjdaglmkljbfkaaDoorF.fld_88_0 rfl) ?_
          refine TL_q rfl rfl (QT_load (v := .int .i64 (wdR L k : Int)) 0 rfl rfl Tryd.underlying3 rfl rfl rfl (fun _ => rfl)) ?_
          refine TL_e rfl rfl rfl (rfl) (ET_buildN [_] rfl Tryd.underlying84 YtjdaglmkljbfkaaDoorF.sz_3 YtjdaglmkljbfkaaDoorF.zero_3 rfl rfl rfl (fun v hv => by cases List.mem_singleton.1 hv; rfl)) ?_
          rintro _ _ ⟨b46, rfl, rfl⟩
          refine TL_e rfl rfl rfl (rfl) (ET_appendL (L := [_, _, _]) rfl Tryd.underlying84 el_IntR rfl rfl hF (fun _ h => h) (SlA.own (n := 1) (xs := [.int .i64 (wdR L k : Int)]) 0 rfl rfl (Nat.le_refl 1) (by omega)) (fun u hu => by cases List.mem_singleton.1 hu; rfl) (by omega) (by omega)) ?_
          rintro wv2 _ ⟨H', hF', rfl⟩
          obtain ⟨wad2, wcap2, rfl, _, _⟩ := hF'.slice
          first
            | refine TL_e0 rfl rfl (rfl) (ET_store 0 rfl rfl rfl rfl YtjdaglmkljbfkaaDoorF.sz_84 rfl rfl rfl) ?_
            | refine TL_e0 rfl rfl (rfl) (ET_store 1 rfl rfl rfl rfl YtjdaglmkljbfkaaDoorF.sz_84 rfl rfl rfl) ?_
            | refine TL_e0 rfl rfl (rfl) (ET_store 2 rfl rfl rfl rfl YtjdaglmkljbfkaaDoorF.sz_84 rfl rfl rfl) ?_
          rintro _ _ ⟨rfl, rfl⟩
          refine TL_nil ?_
          refine TX_block_normal ?_
          refine TX_then ?_
          refine TC_reg ?_
          refine TL_q rfl rfl (QT_add rfl rfl rfl rfl (fun _ => ⟨by omega, by omega⟩)) ?_
          refine TL_q rfl rfl (QT_move rfl rfl rfl) ?_
          refine TL_nil ?_
          exact TX_round ⟨(k + 1, _, H'), by show k + 1 ≤ 7; omega, by rw [← wV_snoc hk] at hF'; exact hF'⟩ (by show 7 - (k + 1) < 7 - k; omega) ⟨rfl, rfl, rfl, rfl, rfl, rfl, rfl, trivial⟩ (fun _ h => h.tail.tail)
        ·
          refine TC_exit ?_
          refine TX_then_exit ?_
          refine TX_then_exit ?_
          refine TX_block_here ?_
          refine TX_then ?_
          refine TC_seq ?_
          obtain rfl : k = 7 := by omega
          rw [List.take_of_length_le (by rw [wR_len]; exact Nat.le_refl _)] at hF
          refine TC_reg ?_
          refine TL_q rfl rfl (QT_move rfl rfl rfl) ?_
          refine TL_q rfl rfl (QT_len rfl rfl Tryd.underlying28 rfl) ?_
          refine TL_q rfl rfl (QT_move rfl rfl rfl) ?_
          refine TL_q rfl rfl (QT_quo rfl rfl rfl rfl (fun _ => ⟨by omega, by omega, by rw [hsz]; omega⟩)) ?_
          refine TL_e rfl rfl rfl (rfl) (ET_make (bs.length / szR L) rfl Tryd.underlying30 el_RecR rfl rfl rfl (by rw [hsz, Int.natCast_ediv]) (by omega) (by omega)) ?_
          rintro _ _ ⟨b53, rest, rfl, hrest, rfl⟩
          refine TL_e rfl rfl rfl (rfl) (ET_alloc rfl YtjdaglmkljbfkaaDoorF.zero_30) ?_
          rintro _ _ ⟨b12, rfl, rfl⟩
          first
            | refine TL_e0 rfl rfl (rfl) (ET_store 0 rfl rfl rfl rfl YtjdaglmkljbfkaaDoorF.sz_30 rfl rfl rfl) ?_
            | refine TL_e0 rfl rfl (rfl) (ET_store 1 rfl rfl rfl rfl YtjdaglmkljbfkaaDoorF.sz_30 rfl rfl rfl) ?_
            | refine TL_e0 rfl rfl (rfl) (ET_store 2 rfl rfl rfl rfl YtjdaglmkljbfkaaDoorF.sz_30 rfl rfl rfl) ?_
          rintro _ _ ⟨rfl, rfl⟩
          refine TL_nil ?_
          refine TX_then ?_
          refine TC_seq ?_
          refine TC_seq ?_
          rw [hsz]
          refine TC_reg ?_
          refine TL_q rfl rfl (QT_move rfl rfl rfl) ?_
          refine TL_q rfl rfl (QT_move rfl rfl rfl) ?_
          refine TL_e rfl rfl rfl (rfl) (ET_call rfl YtjdaglmkljbfkaaDoorF.cal_29 rfl (chunk_spec w0 _ bs.length cap (szR L) ad (by omega))) ?_
          rintro _ _ ⟨c1, c2, rfl, rfl⟩
          refine TL_nil ?_
          refine TX_then ?_
          refine TC_block ?_
          obtain ⟨Y, hY⟩ : ∃ Y : Heap, Y = (c2, 3, [.int .i64 (szR L : Int)]) :: (c1, 28, [.slice ad bs.length cap]) :: (b9, 84, [wv]) :: (Hw ++ ((b8, 82, [.slice (some ⟨fb, fo, none⟩) 7 fcap]) :: E)) := ⟨_, rfl⟩
          refine TC_A (St w0 ((b12, 30, [.slice (some ⟨b53, 0, none⟩) 0 (bs.length / szR L)]) :: ([(b53, 67, [] ++ rest)] ++ Y))) (fun w h => by rw [hY]; exact (show St w0 ((c2, 3, [.int .i64 (szR L : Int)]) :: (c1, 28, [.slice ad bs.length cap]) :: (b12, 30, [.slice (some ⟨b53, 0, none⟩) 0 (bs.length / szR L)]) :: (b53, 67, [] ++ rest) :: (b9, 84, [wv]) :: (Hw ++ ((b8, 82, [.slice (some ⟨fb, fo, none⟩) 7 fcap]) :: E))) w from h).cnt fun p => by simp only [List.countP_append, List.countP_cons, List.countP_nil]; omega) ?_
          have hYc : ∀ p : Blk → Bool, Y.countP p = List.countP p [(c2, 3, [.int .i64 (szR L : Int)])] + List.countP p [(c1, 28, [.slice ad bs.length cap])] + List.countP p [(b9, 84, [wv])] + Hw.countP p + List.countP p [(b8, 82, [.slice (some ⟨fb, fo, none⟩) 7 fcap])] + E.countP p := fun p => by
            rw [hY]; simp only [List.countP_append, List.countP_cons, List.countP_nil]; omega
          have hYE : ∀ {X : Heap}, (∀ p : Blk → Bool, Y.countP p ≤ X.countP p) → ∀ p : Blk → Bool, E.countP p ≤ X.countP p := fun h p => by have := h p; rw [hYc] at this; omega
          have hm9 : (b9, 84, [wv]) ∈ Y := by rw [hY]; simp
          have hm8 : (b8, 82, [.slice (some ⟨fb, fo, none⟩) 7 fcap]) ∈ Y := by rw [hY]; simp
          have hm1 : (c1, 28, [.slice ad bs.length cap]) ∈ Y := by rw [hY]; simp
          have hm2 : (c2, 3, [.int .i64 (szR L : Int)]) ∈ Y := by rw [hY]; simp
          have hYw : ∀ {B : Base} {X : Heap}, (∀ p : Blk → Bool, Y.countP p ≤ X.countP p) → SlA (St B X) wv 1 (wR L).length (wV (wR L)) := fun {B X} h => by
            rw [wR_len]
            exact hF.within fun p => by have := h p; rw [hYc] at this; omega
          refine TC_range (m := 0) (bs.length / szR L) (chkV ad (szR L)) (fun k ζ => ∃ rv H, Frag 67 7 rv k (flatR (recsB L bs k)) H ∧ ζ = (b12, 30, [rv]) :: (H ++ Y)) (fun k => [(8, true, .pointer (some ⟨b8, 0, none⟩)), (9, true, .pointer (some ⟨b9, 0, none⟩)), (12, true, .pointer (some ⟨b12, 0, none⟩)), (13, true, chkV ad (szR L) k)]) rfl YtjdaglmkljbfkaaDoorF.cal_64 ⟨_, [(b53, 67, [] ++ rest)], ⟨rfl, .inr ⟨b53, _, rest, rfl, ⟨Nat.zero_le _, by omega⟩, by show bs.length / szR L * 7 ≤ rest.length; rw [hrest]; exact Nat.le_refl _, rfl⟩⟩, rfl⟩ rfl (fun B hU l => chunk_iter _ (fun k w h => by obtain ⟨ζ, hK, hS⟩ := h; exact ⟨ζ, hK, St.calm _ _ _ hS⟩) c1 c2 bs.length cap (szR L) (bs.length / szR L) l ad hcap (by omega) hNs (by omega) (fun k w h => by
            obtain ⟨ζ, ⟨rv, H, _, rfl⟩, hS⟩ := h
            exact Rd.ownA (w0 := B) (List.mem_cons_of_mem _ (List.mem_append_right _ hm1)) 0 rfl w hS) (fun k w h => by
            obtain ⟨ζ, ⟨rv, H, _, rfl⟩, hS⟩ := h
            exact Rd.ownA (w0 := B) (List.mem_cons_of_mem _ (List.mem_append_right _ hm2)) 0 rfl w hS)) ?assign ?body ?done
          ·
            intro B l k ζ hU hk hK
            refine TCI_reg ?_
            refine TL_q rfl rfl (QT_assign rfl rfl rfl) ?_
            refine TL_nil ?_
            exact TX_AQ ⟨rfl, rfl, rfl, rfl, trivial⟩ (fun _ h => h)
          ·
            intro B l k ζ hU hk hK
            obtain ⟨rv, H, hFr, rfl⟩ := hK
            have hks : k * szR L + szR L ≤ bs.length := by
              have : (k + 1) * szR L ≤ bs.length / szR L * szR L := Nat.mul_le_mul_right _ hk
              rw [Nat.add_mul, hNs] at this
              omega
            obtain ⟨cs, hcs⟩ : ∃ cs, cs = (bs.drop (k * szR L)).take (szR L) := ⟨_, rfl⟩
            have hcl : cs.length = szR L := by rw [hcs, List.length_take, List.length_drop]; omega
            have hcb : ∀ c ∈ cs, c < 256 := fun c hc => hb c (by rw [hcs] at hc; exact List.mem_of_mem_drop (List.mem_of_mem_take hc))
            have hcv : ∀ {X : Heap}, (∀ p : Blk → Bool, Y.countP p ≤ X.countP p) → SlA (St B X) (chkV ad (szR L) k) 1 cs.length (byV cs) := fun h => by
              rw [hcl, hcs, byV_cut]
              exact (chkV_sla hs hks (by omega)).mono fun w hw => hEη hU (hYE h) hw
            have htot : tot (wR L) ≤ 8 * cs.length := by rw [hcl]; unfold szR; omega
            obtain ⟨v, hv⟩ : ∃ v, v = decN (wR L) (byB cs) := ⟨_, rfl⟩
            have hvl : v.length = 7 := by rw [hv, decN_len, wR_len]
            have hrec : setRN v 7 = recAt L bs k := by rw [hv, setRN_all, hcs, recAt_cut]
            refine TCI_block ?_
            refine TCI_seq ?_
            refine TCI_reg ?_
            refine TL_e rfl rfl rfl (rfl) (ET_alloc rfl YtjdaglmkljbfkaaDoorF.zero_67) ?_
            rintro _ _ ⟨b14, rfl, rfl⟩
            refine TL_nil ?_
            refine TXI_then ?_
            refine TCI_seq ?_
            refine TCI_seq ?_
            refine TCI_A (St B ((b14, 67, rvV (setRN v 0)) :: (b12, 30, [rv]) :: (H ++ Y))) (fun _ h => h) ?_
            refine TCI_reg ?_
            refine TL_q rfl rfl (QT_move rfl rfl rfl) ?_
            refine TL_q rfl rfl (QT_loadRj (cs := [wv]) (v := wv) 0 rfl rfl Tryd.underlying84 rfl (Rd.ownA (w0 := B) (List.mem_cons_of_mem _ (List.mem_cons_of_mem _ (List.mem_append_right _ hm9))) 0 rfl) rfl (fun _ => rfl)) ?_
            refine TL_e rfl rfl rfl (rfl) (ET_call rfl YtjdaglmkljbfkaaDoorF.cal_30 rfl (read_spec B _ (chkV ad (szR L) k) wv cs (wR L) (hcv fun p => by simp only [List.countP_append, List.countP_cons]; omega) hcb (by omega) (hYw fun p => by simp only [List.countP_append, List.countP_cons]; omega) (by rw [wR_len]; decide) (wR_le hc.1) htot)) ?_
            rintro uv _ ⟨Hu, hFu, rfl⟩
            rw [wR_len, ← hv] at hFu
            obtain ⟨_, uad, ucap, ub, uo, rfl, hucap, huad, hurd⟩ := (hFu.sla (w0 := B) (η := [])).some
            obtain rfl := huad (by decide)
            refine TL_q rfl rfl (QT_len rfl rfl Tryd.underlying92 rfl) ?_
            refine TL_q rfl rfl (QT_move rfl rfl rfl) ?_
            refine TL_nil ?_
            refine TXI_then ?_
            refine TCI_block ?_
            refine TCI_loop (γ := { j : Nat // j ≤ 7 }) (fun u => [(8, true, .pointer (some ⟨b8, 0, none⟩)), (9, true, .pointer (some ⟨b9, 0, none⟩)), (12, true, .pointer (some ⟨b12, 0, none⟩)), (14, true, .pointer (some ⟨b14, 0, none⟩)), (60, true, .slice (some ⟨ub, uo, none⟩) 7 ucap), (61, true, .int .i64 7), (62, true, .int .i64 (u.1 : Int))]) (fun u => St B ((b14, 67, rvV (setRN v u.1)) :: (Hu ++ ((b12, 30, [rv]) :: (H ++ Y))))) (fun u => 7 - u.1) ⟨0, Nat.zero_le _⟩ ⟨rfl, rfl, rfl, rfl, rfl, rfl, rfl, trivial⟩ (fun w h => h.cnt fun p => by simp only [List.countP_append, List.countP_cons, List.countP_nil]; omega) ?_
            rintro ⟨j, hj7⟩
            dsimp only at hj7 ⊢
            refine TCI_seq ?_
            refine TCI_reg ?_
            refine TL_q rfl rfl (QT_lss rfl rfl rfl rfl) ?_
            refine TL_nil ?_
            refine TXI_then ?_
            refine TCI_seq ?_
            first
              | refine TCI_cond_dec rfl (fun h63 => ?_) (fun h63 => ?_)
              | refine TCI_cond rfl (fun h63 => ?_) (fun h63 => ?_)
            ·
              have hj : j < 7 := by omega
              obtain ⟨x, hx⟩ := get7 hvl hj
              have hst := setRN_step hj hx
              have hxv : (u32V v)[j]? = some (.int .u32 (x : Int)) := by simp [u32V, hx]
              have hx32 : x < 4294967296 := by
                rw [hv, decN_at (wR_at hj)] at hx
                cases hx
                have h1 := num_lt (((byB cs).drop (tot ((wR L).take j))).take (wdR L j))
                have h2 : (((byB cs).drop (tot ((wR L).take j))).take (wdR L j)).length ≤ 32 := by
                  rw [List.length_take]
                  have := wdR_le hc.1 j
                  omega
                exact Nat.lt_of_lt_of_le h1 (Nat.le_trans (Nat.pow_le_pow_right (by decide) h2) (by decide))
              have hfs : (fldsC L ps 7)[j * 3 + 2]? = some (.func (.func (sF j)) #[] (capF ps j)) := by rw [fldsC_at L ps hj (by decide)]; rfl
              refine TCI_skip ?_
              refine TXI_then ?_
              refine TCI_seq ?_
              refine TCI_block ?_
              refine TCI_seq ?_
              refine TCI_reg ?_
              refine TL_q rfl rfl (QT_move rfl rfl rfl) ?_
              refine TL_q rfl rfl (QT_indexG j rfl rfl Tryd.underlying92 YtjdaglmkljbfkaaDoorF.sz_60 rfl rfl rfl (fun _ => hj) (fun _ => rfl)) ?_
              refine TL_q rfl rfl (QT_loadRj (v := .int .u32 (x : Int)) j rfl rfl Tryd.underlying60 rfl (hurd.mono fun w h => h.cnt fun p => by simp only [List.countP_append, List.countP_cons, List.countP_nil]; omega) rfl (fun _ => hxv)) ?_
              refine TL_q rfl rfl (QT_assign rfl rfl rfl) ?_
              refine TL_q rfl rfl (QT_assign rfl rfl rfl) ?_
              refine TL_nil ?_
              refine TXI_then ?_
              refine TCI_reg ?_
              refine TL_q rfl rfl (QT_loadRj (cs := [.slice (some ⟨fb, fo, none⟩) 7 fcap]) (v := .slice (some ⟨fb, fo, none⟩) 7 fcap) 0 rfl rfl Tryd.underlying82 rfl (Rd.ownA (w0 := B) (List.mem_cons_of_mem _ (List.mem_append_right _ (List.mem_cons_of_mem _ (List.mem_append_right _ hm8)))) 0 rfl) rfl (fun _ => rfl)) ?_
              refine TL_q rfl rfl (QT_move rfl rfl rfl) ?_
              refine TL_q rfl rfl (QT_indexG j rfl rfl Tryd.underlying82 YtjdaglmkljbfkaaDoorF.sz_88 rfl rfl rfl (fun _ => hj) (fun _ => rfl)) ?_
              refine TL_q rfl rfl (QT_field rfl rfl YtjdaglmkljbfkaaDoorF.fld_88_2 rfl) ?_
              refine TL_q rfl rfl (QT_loadRj (v := .func (.func (sF j)) #[] (capF ps j)) (j * 3 + 2) rfl rfl Tryd.underlying86 rfl (hEf (hYE fun p => by simp only [List.countP_append, List.countP_cons]; omega)) rfl (fun _ => hfs)) ?_
              refine TL_q rfl rfl (QT_move rfl rfl rfl) ?_
              refine TL_e rfl rfl rfl (rfl) (ET_goes (Goes.value rfl rfl (sF_ok j) rfl) (setter_spec B _ ps j b14 (setRN v j) x hj (setRN_len v j) hx32 (hEp (hYE fun p => by simp only [List.countP_append, List.countP_cons]; omega)))) ?_
              rintro _ _ ⟨rfl, rfl⟩
              refine TL_nil ?_
              refine TX_block_normal ?_
              refine TXI_then ?_
              refine TCI_reg ?_
              refine TL_q rfl rfl (QT_add rfl rfl rfl rfl (fun _ => ⟨by omega, by omega⟩)) ?_
              refine TL_q rfl rfl (QT_move rfl rfl rfl) ?_
              refine TL_nil ?_
              exact TX_round ⟨j + 1, hj⟩ (by show 7 - (j + 1) < 7 - j; omega) ⟨rfl, rfl, rfl, rfl, rfl, rfl, rfl, trivial⟩ (fun _ h => by rw [hst] at h; exact h)
            ·
              refine TCI_exit ?_
              refine TX_then_exit ?_
              refine TX_then_exit ?_
              refine TX_block_here ?_
              refine TXI_then ?_
              obtain rfl : j = 7 := by omega
              rw [hrec]
              have hrF : RcF (recAt L bs k) := dcR_rcf _ _
              have hrl : (rvV (recAt L bs k)).length = 7 := rvV_len hrF.len
              have hri := rvV_ints hrF
              refine TCI_A (St B ((b12, 30, [rv]) :: (b14, 67, rvV (recAt L bs k)) :: (H ++ Y))) (fun w h => h.cnt fun p => by simp only [List.countP_append, List.countP_cons, List.countP_nil]; omega) ?_
              refine TCI_reg ?_
              first
                | refine TL_q rfl rfl (QT_load 0 rfl rfl Tryd.underlying30 rfl rfl rfl (fun _ => rfl)) ?_
                | refine TL_q rfl rfl (QT_load 1 rfl rfl Tryd.underlying30 rfl rfl rfl (fun _ => rfl)) ?_
                | refine TL_q rfl rfl (QT_load 2 rfl rfl Tryd.underlying30 rfl rfl rfl (fun _ => rfl)) ?_
              refine TL_q rfl rfl (QT_loadRAj (out := rvV (recAt L bs k)) 0 rfl rfl Tryd.underlying67 rfl YtjdaglmkljbfkaaDoorF.sz_67 (Rd.own (w0 := B) (cs := rvV (recAt L bs k)) 1 rfl) rfl (fun _ => by omega) (fun _ => by rw [List.drop_zero, List.take_of_length_le (by omega)])) ?_
              refine TL_e rfl rfl rfl (rfl) (ET_buildN [_] rfl Tryd.underlying30 YtjdaglmkljbfkaaDoorF.sz_67 YtjdaglmkljbfkaaDoorF.zero_67 rfl rfl rfl (fun v hv => by cases List.mem_singleton.1 hv; exact hrl)) ?_
              rintro _ _ ⟨b77, rfl, rfl⟩
              refine TL_e rfl rfl rfl (rfl) (ET_appendL (L := [_, _, _]) rfl Tryd.underlying30 el_RecR rfl rfl hFr (fun _ h => h) (SlA.own (n := 1) (xs := rvV (recAt L bs k)) 0 rfl (by rw [List.drop_zero, List.take_of_length_le (by simp [Value.cells, hrl])]; simp [Value.cells]) (by simp [Value.cells, hrl]) (by omega)) hri.oneCell (by omega) (by omega)) ?_
              rintro rv2 _ ⟨H', hF', rfl⟩
              obtain ⟨rad2, rcap2, rfl, _, _⟩ := hF'.slice
              first
                | refine TL_e0 rfl rfl (rfl) (ET_store 0 rfl rfl rfl rfl YtjdaglmkljbfkaaDoorF.sz_30 rfl rfl rfl) ?_
                | refine TL_e0 rfl rfl (rfl) (ET_store 1 rfl rfl rfl rfl YtjdaglmkljbfkaaDoorF.sz_30 rfl rfl rfl) ?_
                | refine TL_e0 rfl rfl (rfl) (ET_store 2 rfl rfl rfl rfl YtjdaglmkljbfkaaDoorF.sz_30 rfl rfl rfl) ?_
              rintro _ _ ⟨rfl, rfl⟩
              refine TL_nil ?_
              refine TX_block_normal ?_
              refine TX_RQ fun w h => ⟨_, ⟨_, H', by rw [recsB_snoc, flatR_snoc]; exact hF', rfl⟩, ?_⟩
              have h' : St B ((b77, 67, _) :: (b12, 30, [.slice rad2 (k + 1) rcap2]) :: (b14, 67, rvV (recAt L bs k)) :: (H' ++ Y)) w := h
              exact h'.cnt fun p => by simp only [List.countP_append, List.countP_cons, List.countP_nil]; omega
          ·
            intro D ζ hK
            obtain ⟨rv, H, hFr, rfl⟩ := hK
            refine TXD_block ?_
            refine TXD_then ?_
            refine TCD_seq ?_
            refine TCD_reg ?_
            refine TLD_q rfl rfl (QT_under (QT_load (w0 := w0) (η := (b12, 30, [rv]) :: (H ++ Y)) (v := rv) 0 rfl rfl Tryd.underlying30 rfl rfl rfl (fun _ => rfl)) (fun w h => h.1)) ?_
            refine TLD_q rfl rfl (QT_assign rfl rfl rfl) ?_
            refine TLD_q rfl rfl (QT_assign rfl rfl rfl) ?_
            refine TLD_nil ?_
            refine TXD_then ?_
            refine TCD_ret ?_
            exact fun a w hf hd hA => TXD_ret (w0 := w0) (η := H ++ η) (D := D) (fun a w hf => res2 (A := fun _ => True) rfl rfl rfl a w hf trivial) ⟨rv, H, by rw [eP], by rw [eO, recsB_len]; exact hFr, rfl⟩ a w hf hd ⟨hA.1.cnt fun p => by
              simp only [List.countP_append, List.countP_cons]
              rw [hYc, hEc]
              omega, hA.2⟩
end Go.Proofs.YtjdaglmkljbfkaaDoor
namespace Go.Proofs.YtjdaglmkljbfkaaDoor
open Go Go.Gx Go.RowKit
set_option maxRecDepth 100000
theorem layR_at {L : Lay} {k : Nat} {z : Int} {n : Nat} (h : L.cells[k]? = some (.int .i64 z)) (e : (n : Int) = z) : L.cells[k]? = some (.int .i64 (n : Int)) := by rw [e]; exact h
theorem getV_ltR (bs : List Nat) (p n : Int) : getV bs p n < 4294967296 := by
  unfold getV
  split
  · rename_i h
    unfold getE at h
    have hn : ¬ (p < 0 ∨ n < 0 ∨ 32 < n) := fun hx => by rw [if_pos hx] at h; exact absurd h (by decide)
    refine Nat.lt_of_lt_of_le (num_lt _) (Nat.le_trans (Nat.pow_le_pow_right (by decide) (show _ ≤ 32 by rw [List.length_take]; omega)) (by decide))
  · decide
theorem cells_ltR {cells : List Value} {off : Nat} {v : Value} (h : cells[off]? = some v) : Nat.ble (off + 1) cells.length = true := Nat.ble_eq_true_of_le (List.getElem?_eq_some_iff.1 h).1
def okRB (L : Lay) : Bool := decide (okB L = true ∧ L.ty ≤ 5)
theorem setRN_skip {L : Lay} {l : List Bool} : ∀ (n k : Nat), k + n ≤ 7 → (∀ p, k ≤ p → p < k + n → wdR L p = 0) → setRN (decN (wR L) l) (k + n) = setRN (decN (wR L) l) k
  | 0, _, _, _ => rfl
  | n + 1, k, hn, h => by
    rw [← Nat.add_assoc]
    have hk : k + n < 7 := by omega
    have hx := decN_at (l := l) (wR_at (L := L) hk)
    rw [← setRN_step hk hx, setRN_skip n k (by omega) fun p h1 h2 => h p h1 (by omega), h (k + n) (by omega) (by omega), List.take_zero]
    have e : num ([] : List Bool) % rkM (k + n) = 0 := Nat.zero_mod _
    rw [e]
    apply List.ext_getElem?
    intro p
    rw [List.getElem?_set]
    by_cases hp : k + n = p
    · subst hp
      rw [if_pos rfl, if_pos (by rw [setRN_len]; exact hk), setRN, List.getElem?_map, List.getElem?_range hk]
      simp only [Option.map_some]
      by_cases h1 : k + n < k
      · omega
      · rw [if_neg h1]
    · rw [if_neg hp]
end Go.Proofs.YtjdaglmkljbfkaaDoor
namespace Go.Proofs.YtjdaglmkljbfkaaDoor
open Go Go.Gx Go.RowKit
set_option maxRecDepth 100000
theorem shr_zeroR {v n : Nat} (hv : v < 4294967296) : decide ((v : Int).fdiv (2 ^ (min (n : Int).toNat IntKind.u64.bits)) = 0) = decide (v < 2 ^ n) := by
  rw [shr64 hv (Int.natCast_nonneg n), Bool.eq_iff_iff, decide_eq_true_eq, decide_eq_true_eq, Int.toNat_natCast, show ((v / 2 ^ n : Nat) : Int) = 0 ↔ v / 2 ^ n = 0 by omega, Nat.div_eq_zero_iff]
  have := Nat.two_pow_pos n
  omega
theorem eR_skip {L : Lay} {r : List Nat} (hr : r.length = 7) : ∀ (n k : Nat), k + n ≤ 7 → (∀ p, k ≤ p → p < k + n → wdR L p = 0) → eR L r (k + n) = eR L r k
  | 0, _, _, _ => rfl
  | n + 1, k, hn, h => by
    obtain ⟨x, hx⟩ := get7 hr (show k + n < 7 by omega)
    rw [← Nat.add_assoc, eR_step hr hx, eR_skip hr n k (by omega) fun p h1 h2 => h p h1 (by omega), h (k + n) (by omega) (by omega)]
    simp [bitsN]
theorem fitR_of {L : Lay} {r : List Nat} (hr : r.length = 7) (h : ∀ j x, j < 7 → r[j]? = some x → x < 2 ^ wdR L j) : fitR L r = true := fitR_all fun j w m y h1 h2 => by
  have hj : j < 7 := by rw [← hr]; exact (List.getElem?_eq_some_iff.1 h2).1
  rw [wR_at hj] at h1
  cases h1
  exact h j y hj h2
theorem errRP_one {L : Lay} {rs : List (List Nat)} {r : List Nat} (hc : okB L = true ∧ L.ty ≤ 5) (hm : r ∈ rs) (hb : fitR L r = false) : errRP L rs = 1 := by
  unfold errRP
  rw [if_pos hc, if_neg]
  intro ha
  have := List.all_eq_true.1 ha r hm
  rw [hb] at this
  exact absurd this (by decide)
end Go.Proofs.YtjdaglmkljbfkaaDoor
namespace Go.Proofs.YtjdaglmkljbfkaaDoor
open Go Go.Gx Go.RowKit
set_option maxRecDepth 100000
theorem rcf_chk {r : List Nat} (hl : r.length = 7) (h : ∀ p, p < 7 → r.getD p 0 < rkM p) : RcF r := ⟨hl, fun {p x} hx => by
  have hp : p < 7 := by rw [← hl]; exact (List.getElem?_eq_some_iff.1 hx).1
  have := h p hp
  rw [List.getD_eq_getElem?_getD, hx] at this
  exact this⟩
theorem sameOk_RecsR (w0 : Base) (η : Heap) (va vb : Value) (n : Nat) (xs : List Value) (ha : SlA (St w0 η) va 7 n xs) (hb : SlA (St w0 η) vb 7 n xs) (hi : Ints (rep n recK) xs) :
    CallsT Tryd.prog 14 [va, vb] (St w0 η) fun v A' => v = .bool true ∧ A' = St w0 η := by
  have h := same_Recs w0 η va vb n n xs xs ha hb hi hi
  rwa [eqC_refl hi] at h
def L9 : Lay := { ty := 4, co := 4, cm := 8, fl := 2, cs := 1, ro := 0, r := fun _ => 0 }
def L9b : Lay := { L9 with ty := 6 }
def x9 : List Nat := [1, 15, 0, 255, 0, 0, 0]
def y9 : List Nat := [4, 0, 0, 0, 0, 0, 0]
def z9 : List Nat := [0, 0, 0, 1, 1, 0, 0]
theorem l9_1 : errRP L9 [x9] = 0 ∧ outRP L9 [x9] = [124, 63, 192] := by decide +kernel
theorem l9_2 : errRG L9 [124, 63, 255] = 0 ∧ outRG L9 [124, 63, 255] = [x9] := by decide +kernel
theorem l9_3 : errRG L9 [124, 63] = 5 := by decide +kernel
theorem l9_4 : errRP L9 [y9] = 1 := by decide +kernel
theorem l9_5 : errRP L9 [z9] = 1 := by decide +kernel
theorem l9_6 : errRG L9b [] = 4 := by decide +kernel
theorem rcf_x9 : RcF x9 := rcf_chk rfl (by decide)
theorem rcf_y9 : RcF y9 := rcf_chk rfl (by decide)
theorem rcf_z9 : RcF z9 := rcf_chk rfl (by decide)
end Go.Proofs.YtjdaglmkljbfkaaDoor
namespace Go.Proofs.YtjdaglmkljbfkaaDoor
open Go Go.Gx Go.RowKit
set_option maxRecDepth 100000

end Go.Proofs.YtjdaglmkljbfkaaDoor
namespace Go.Proofs.YtjdaglmkljbfkaaDoor
open Go Go.Gx Go.RowKit
set_option maxRecDepth 100000
def mkBR : List Value := [.int .u8 171, .int .u8 171, .int .u8 171]
theorem twinFragRR {e b n : Nat} {xs mk : List Value} (hx : xs.length = n * 7) (hm : mk.length = 7) (hn : n ≤ 1000000) : Frag e 7 (.slice (some ⟨b, 0, none⟩) n (n + 3)) n xs [(b, e, xs ++ (mk ++ (mk ++ mk)))] :=
  ⟨hx, .inr ⟨b, n + 3, mk ++ (mk ++ mk), rfl, ⟨by omega, by omega⟩, by simp only [List.length_append, hx, hm]; omega, rfl⟩⟩
theorem twinFragBR {b n : Nat} {xs : List Value} (hx : xs.length = n * 1) (hn : n ≤ 1000000) : Frag 5 1 (.slice (some ⟨b, 0, none⟩) n (n + 3)) n xs [(b, 5, xs ++ mkBR)] :=
  ⟨hx, .inr ⟨b, n + 3, mkBR, rfl, ⟨by omega, by omega⟩, by simp only [List.length_append, hx, mkBR, List.length_cons, List.length_nil]; omega, rfl⟩⟩
theorem newCellsR : Bk.new.cells = [.int .i64 0, .slice none 0 0, .slice none 0 0, .slice none 0 0, .slice none 0 0, .slice none 0 0, .slice none 0 0, .slice none 0 0, .slice none 0 0, .slice none 0 0, .slice none 0 0, .slice none 0 0, .slice none 0 0, .slice none 0 0] := rfl
theorem bytesR_ge {L : Lay} (hk : okB L = true) {rs : List (List Nat)} (h : ∀ r ∈ rs, RcF r) : rs.length ≤ (bytesR L rs).length := by
  rw [bytesR_len h]
  have := (szR_bd hk).1
  exact Nat.le_mul_of_pos_right _ (by omega)
theorem errRG_zero {L : Lay} {bs : List Nat} (h : errRG L bs = 0) : (okB L = true ∧ L.ty ≤ 5) ∧ bs.length ≤ 65536 ∧ bs.length % szR L = 0 ∧ outRG L bs = recsB L bs (bs.length / szR L) := by
  have h0 := h
  unfold errRG at h
  split at h
  · rename_i hc
    split at h
    · exact absurd h (by decide)
    · split at h
      · exact ⟨hc, by omega, by assumption, by unfold outRG; rw [if_pos h0]⟩
      · exact absurd h (by decide)
  · exact absurd h (by decide)
theorem outRG_rcf {L : Lay} {bs : List Nat} : ∀ r ∈ outRG L bs, RcF r := by
  intro r hr
  unfold outRG at hr
  split at hr
  · exact recsB_rcf r hr
  · exact absurd hr List.not_mem_nil
theorem outRG_len (L : Lay) (bs : List Nat) : (outRG L bs).length ≤ bs.length := by
  unfold outRG
  split
  · rw [recsB_len]; exact Nat.div_le_self _ _
  · exact Nat.zero_le _
theorem outRP_lt (L : Lay) (rs : List (List Nat)) : ∀ c ∈ outRP L rs, c < 256 := by
  intro c hc
  unfold outRP at hc
  split at hc
  · exact bytesR_lt L rs c hc
  · exact absurd hc List.not_mem_nil
theorem outRP_len (L : Lay) (rs : List (List Nat)) : (outRP L rs).length ≤ 65536 := by
  unfold outRP
  split
  · rename_i h
    unfold errRP at h
    split at h
    · split at h
      · split at h
        · exact absurd h (by decide)
        · omega
      · exact absurd h (by decide)
    · exact absurd h (by decide)
  · exact Nat.zero_le _
end Go.Proofs.YtjdaglmkljbfkaaDoor
namespace Go.Proofs.YtjdaglmkljbfkaaDoor
open Go Go.Gx Go.RowKit
set_option maxRecDepth 100000
theorem mask_u8R : ∀ w : Fin 9, IntKind.u8.wrap (IntKind.u8.wrap (1 * 2 ^ (min ((w.1 : Nat) : Int).toNat IntKind.u8.bits)) - 1) = ((2 ^ w.1 - 1 : Nat) : Int) := by decide +kernel
theorem mask_u16R : ∀ w : Fin 17, IntKind.u16.wrap (IntKind.u16.wrap (1 * 2 ^ (min ((w.1 : Nat) : Int).toNat IntKind.u16.bits)) - 1) = ((2 ^ w.1 - 1 : Nat) : Int) := by decide +kernel
theorem mask_u32R : ∀ w : Fin 33, IntKind.u32.wrap (IntKind.u32.wrap (1 * 2 ^ (min ((w.1 : Nat) : Int).toNat IntKind.u32.bits)) - 1) = ((2 ^ w.1 - 1 : Nat) : Int) := by decide +kernel
theorem ofInt16R (a : Nat) (h : a < 65536) : (BitVec.ofInt 16 (a : Int)).toNat = a := by
  rw [BitVec.toNat_ofInt]
  have : ((2 ^ 16 : Nat) : Int) = 65536 := by decide
  rw [this]; omega
theorem and_u16R {a b : Nat} (ha : a < 65536) (hb : b < 65536) : bitsOf .and .u16 (a : Int) (b : Int) = ((a &&& b : Nat) : Int) := by
  have h : a &&& b ≤ a := Nat.and_le_left
  show IntKind.u16.wrap ((BitVec.ofInt 16 (a : Int) &&& BitVec.ofInt 16 (b : Int)).toNat : Int) = _
  rw [BitVec.toNat_and, ofInt16R a ha, ofInt16R b hb]
  exact IntWalk.u16_in ((a &&& b : Nat) : Int) ⟨by omega, by omega⟩
theorem pow_leR {w n : Nat} (h : w ≤ n) : 0 < 2 ^ w ∧ 2 ^ w ≤ 2 ^ n := ⟨Nat.two_pow_pos w, Nat.pow_le_pow_right (by decide) h⟩
theorem cut_u8R {x w : Nat} (hx : x < 256) (hw : w ≤ 8) : bitsOf .and .u8 (x : Int) ((2 ^ w - 1 : Nat) : Int) = ((x % 2 ^ w : Nat) : Int) := by
  have := pow_leR hw
  rw [and_u8 hx (by have : 2 ^ 8 = 256 := rfl; omega), Nat.and_two_pow_sub_one_eq_mod]
theorem cut_u16R {x w : Nat} (hx : x < 65536) (hw : w ≤ 16) : bitsOf .and .u16 (x : Int) ((2 ^ w - 1 : Nat) : Int) = ((x % 2 ^ w : Nat) : Int) := by
  have := pow_leR hw
  rw [and_u16R hx (by have : 2 ^ 16 = 65536 := rfl; omega), Nat.and_two_pow_sub_one_eq_mod]
theorem cut_u32R {x w : Nat} (hx : x < 4294967296) (hw : w ≤ 32) : bitsOf .and .u32 (x : Int) ((2 ^ w - 1 : Nat) : Int) = ((x % 2 ^ w : Nat) : Int) := by
  have := pow_leR hw
  rw [and_u32 hx (by have : 2 ^ 32 = 4294967296 := rfl; omega), Nat.and_two_pow_sub_one_eq_mod]
/-- a record some of whose numbers are cut -/
def cutF (L : Lay) (r : List Nat) (a b : Nat) : List Nat := (List.range 7).map fun p => if a ≤ p ∧ p < b then r.getD p 0 % 2 ^ wdR L p else r.getD p 0
def cutR (L : Lay) (r : List Nat) : List Nat := cutF L r 0 7
theorem cutF_len (L : Lay) (r : List Nat) (a b : Nat) : (cutF L r a b).length = 7 := by simp [cutF]
theorem cutF_at {L : Lay} {r : List Nat} {a b p x : Nat} (hp : p < 7) (hx : r[p]? = some x) : (cutF L r a b)[p]? = some (if a ≤ p ∧ p < b then x % 2 ^ wdR L p else x) := by
  rw [cutF, List.getElem?_map, List.getElem?_range hp]
  simp [hx]
theorem cutF_step {L : Lay} {r : List Nat} (hr : r.length = 7) {a b k x : Nat} (a' b' : Nat) (hk : k < 7) (hx : r[k]? = some x) (h : ∀ p, p < 7 → p ≠ k → ((a ≤ p ∧ p < b) ↔ (a' ≤ p ∧ p < b'))) (hk' : a' ≤ k ∧ k < b') : (cutF L r a b).set k (x % 2 ^ wdR L k) = cutF L r a' b' := by
  apply List.ext_getElem?
  intro p
  rw [List.getElem?_set]
  by_cases hp : p < 7
  · obtain ⟨y, hy⟩ := get7 hr hp
    rw [cutF_at hp hy]
    by_cases e : k = p
    · subst e
      rw [hx] at hy; cases hy
      rw [if_pos rfl, if_pos (by rw [cutF_len]; exact hp), cutF_at hp hx, if_pos hk']
    · rw [if_neg e, cutF_at hp hy]
      by_cases h1 : a ≤ p ∧ p < b
      · rw [if_pos h1, if_pos ((h p hp fun h => e h.symm).1 h1)]
      · rw [if_neg h1, if_neg fun h2 => h1 ((h p hp fun h => e h.symm).2 h2)]
  · rw [if_neg (by omega), List.getElem?_eq_none (by rw [cutF_len]; omega), List.getElem?_eq_none (by rw [cutF_len]; omega)]
theorem cutF_none {L : Lay} {r : List Nat} (hr : r.length = 7) : cutF L r 1 1 = r := by
  apply List.ext_getElem?
  intro p
  by_cases hp : p < 7
  · obtain ⟨y, hy⟩ := get7 hr hp
    rw [cutF_at hp hy, if_neg (by omega), hy]
  · rw [List.getElem?_eq_none (by rw [cutF_len]; omega), List.getElem?_eq_none (by omega)]
theorem cutR_rcf {L : Lay} {r : List Nat} (h : RcF r) : RcF (cutR L r) := ⟨cutF_len _ _ _ _, fun {p x} hx => by
  have hp : p < 7 := by rw [← cutF_len L r 0 7]; exact (List.getElem?_eq_some_iff.1 hx).1
  obtain ⟨y, hy⟩ := get7 h.len hp
  unfold cutR at hx
  rw [cutF_at hp hy, if_pos (by omega)] at hx
  cases hx
  exact Nat.lt_of_le_of_lt (Nat.mod_le _ _) (h.lt hy)⟩
theorem cutR_fit {L : Lay} {r : List Nat} (h : RcF r) : fitR L (cutR L r) = true := fitR_of (cutF_len _ _ _ _) fun p x hp hx => by
  obtain ⟨y, hy⟩ := get7 h.len hp
  unfold cutR at hx
  rw [cutF_at hp hy, if_pos (by omega)] at hx
  cases hx
  exact Nat.mod_lt _ (Nat.two_pow_pos _)
theorem cutAllR {L : Lay} {rs : List (List Nat)} (h : ∀ r ∈ rs, RcF r) : (∀ r ∈ rs.map (cutR L), RcF r) ∧ (rs.map (cutR L)).all (fitR L) = true := by
  constructor
  · intro y hy
    obtain ⟨z, hz, rfl⟩ := List.mem_map.1 hy
    exact cutR_rcf (h z hz)
  · rw [List.all_eq_true]
    intro y hy
    obtain ⟨z, hz, rfl⟩ := List.mem_map.1 hy
    exact cutR_fit (h z hz)
end Go.Proofs.YtjdaglmkljbfkaaDoor
namespace Go.Proofs.YtjdaglmkljbfkaaDoor
open Go Go.Gx Go.RowKit
set_option maxRecDepth 100000
theorem fitR_len {L : Lay} {rs : List (List Nat)} (hr : ∀ r ∈ rs, RcF r) : (bytesR L rs).length = rs.length * szR L := bytesR_len hr
theorem put_okR {L : Lay} {rs : List (List Nat)} (hc : okB L = true ∧ L.ty ≤ 5) (hf : rs.all (fitR L) = true) (hl : (bytesR L rs).length ≤ 65536) : errRP L rs = 0 ∧ outRP L rs = bytesR L rs := by
  have e : errRP L rs = 0 := by unfold errRP; rw [if_pos hc, if_pos hf, if_neg (by omega)]
  exact ⟨e, by unfold outRP; rw [if_pos e]⟩
theorem byB_packR (L : Lay) (r : List Nat) (t : List Nat) : ∃ q, byB (packR L r ++ t) = encR L r ++ q :=
  ⟨_, by rw [byB_append, packR, byB_packB, List.append_assoc]⟩
theorem dcR_pack {L : Lay} {r : List Nat} (h : RcF r) (hf : fitR L r = true) (t : List Nat) : dcR L (byB (packR L r ++ t)) = r := by
  obtain ⟨q, hq⟩ := byB_packR L r t
  rw [hq]
  exact dec_enc q (h.und L) hf
theorem recs_bytes {L : Lay} : ∀ {rs : List (List Nat)}, (∀ r ∈ rs, RcF r) → rs.all (fitR L) = true → ∀ {k : Nat} {r : List Nat} (t : List Nat), rs[k]? = some r → recAt L (bytesR L rs ++ t) k = r
  | [], _, _, k, r, t, h => by simp at h
  | z :: rs, hr, hf, 0, r, t, h => by
    obtain rfl : z = r := by simpa using h
    have e : bytesR L (z :: rs) = packR L z ++ bytesR L rs := by simp [bytesR]
    rw [List.all_cons, Bool.and_eq_true] at hf
    unfold recAt
    rw [Nat.zero_mul, List.drop_zero, e, List.append_assoc]
    exact dcR_pack (hr z (List.mem_cons_self ..)) hf.1 _
  | z :: rs, hr, hf, k + 1, r, t, h => by
    have e : bytesR L (z :: rs) = packR L z ++ bytesR L rs := by simp [bytesR]
    have hpl := packR_len (L := L) (hr z (List.mem_cons_self ..))
    rw [List.all_cons, Bool.and_eq_true] at hf
    have ih := recs_bytes (rs := rs) (fun w hw => hr w (List.mem_cons_of_mem _ hw)) hf.2 (k := k) (r := r) t (by simpa using h)
    unfold recAt at ih ⊢
    rw [e, List.append_assoc, List.drop_append, List.drop_eq_nil_of_le (by rw [hpl, Nat.add_mul, Nat.one_mul]; omega), hpl, List.nil_append, show (k + 1) * szR L - szR L = k * szR L by rw [Nat.add_mul, Nat.one_mul]; omega]
    exact ih
theorem recsB_bytes {L : Lay} {rs : List (List Nat)} (hr : ∀ r ∈ rs, RcF r) (hf : rs.all (fitR L) = true) (t : List Nat) : recsB L (bytesR L rs ++ t) rs.length = rs := by
  apply List.ext_getElem?
  intro k
  by_cases hk : k < rs.length
  · rw [recsB, List.getElem?_map, List.getElem?_range hk, List.getElem?_eq_getElem hk]
    exact congrArg some (recs_bytes hr hf t (List.getElem?_eq_getElem hk))
  · rw [List.getElem?_eq_none (by rw [recsB_len]; omega), List.getElem?_eq_none (by omega)]
theorem get_okR {L : Lay} {rs : List (List Nat)} (hc : okB L = true ∧ L.ty ≤ 5) (hr : ∀ r ∈ rs, RcF r) (hf : rs.all (fitR L) = true) (hl : (bytesR L rs).length ≤ 65536) : errRG L (bytesR L rs) = 0 ∧ outRG L (bytesR L rs) = rs := by
  have h1 := bytesR_len (L := L) hr
  have h2 := (szR_bd hc.1).1
  have e : errRG L (bytesR L rs) = 0 := by unfold errRG; rw [if_pos hc, if_neg (by omega), if_pos (by rw [h1]; exact Nat.mul_mod_left _ _)]
  refine ⟨e, ?_⟩
  unfold outRG
  rw [if_pos e, h1, Nat.mul_div_cancel _ (by omega)]
  have := recsB_bytes hr hf []
  rwa [List.append_nil] at this
theorem keptR_of {L : Lay} (h : (decide (errOf L ≠ 0) || decide (L.ty > 5)) = false) : okB L = true ∧ L.ty ≤ 5 := by
  simp only [Bool.or_eq_false_iff, decide_eq_false_iff_not] at h
  refine ⟨?_, by omega⟩
  unfold errOf at h
  by_cases h1 : okB L = true
  · exact h1
  · rw [if_neg h1] at h; exact absurd (fun h => absurd h (by decide)) h.1
theorem back_partR {L : Lay} (hc : okB L = true ∧ L.ty ≤ 5) {W : List (List Nat)} (hW : ∀ z ∈ W, RcF z) (h0 : 0 < (bytesR L W).length) (hl : (bytesR L W).length ≤ 65536) :
    (szR L = 1 → errRG L ((bytesR L W).take ((bytesR L W).length - 1)) = 0 ∧ (outRG L ((bytesR L W).take ((bytesR L W).length - 1))).length = W.length - 1) ∧ (1 < szR L → errRG L ((bytesR L W).take ((bytesR L W).length - 1)) = 5) := by
  have h1 := bytesR_len (L := L) hW
  have htl : ((bytesR L W).take ((bytesR L W).length - 1)).length = (bytesR L W).length - 1 := by rw [List.length_take]; omega
  constructor
  · intro hs
    have e : errRG L ((bytesR L W).take ((bytesR L W).length - 1)) = 0 := by unfold errRG; rw [if_pos hc, if_neg (by omega), if_pos (by rw [hs, Nat.mod_one])]
    refine ⟨e, ?_⟩
    unfold outRG
    rw [if_pos e, recsB_len, htl, h1, hs, Nat.div_one, Nat.mul_one]
  · intro hs
    unfold errRG
    rw [if_pos hc, if_neg (by omega), if_neg]
    rw [htl, h1]
    intro hm
    have hn : 0 < W.length := by
      rcases Nat.eq_zero_or_pos W.length with h | h
      · rw [h1, h, Nat.zero_mul] at h0; omega
      · exact h
    obtain ⟨n, hn'⟩ : ∃ n, W.length = n + 1 := ⟨W.length - 1, by omega⟩
    rw [hn', Nat.add_mul, Nat.one_mul, show n * szR L + szR L - 1 = n * szR L + (szR L - 1) by omega, Nat.mul_add_mod_self_right, Nat.mod_eq_of_lt (by omega)] at hm
    omega
theorem byV_takeR (bs : List Nat) (k : Nat) : (byV bs).take (k * 1) = byV (bs.take k) := by rw [Nat.mul_one]; simp [byV, List.map_take]
end Go.Proofs.YtjdaglmkljbfkaaDoor
namespace Go.Proofs.YtjdaglmkljbfkaaDoor
open Go Go.Gx Go.RowKit
set_option maxRecDepth 100000
theorem byte_relR {l : List Bool} {ch : List Nat} {T k b c : Nat} (hc : ∀ c ∈ ch, c < 256) (hT : T ≤ 8 * ch.length) (hT8 : 8 * ch.length < T + 8) (hl : l = (byB ch).take T) (hb : ch[k]? = some b) (hcc : (packB l)[k]? = some c) :
    c = b / 2 ^ (8 - min 8 (T - 8 * k)) * 2 ^ (8 - min 8 (T - 8 * k)) := by
  have hk : k < ch.length := (List.getElem?_eq_some_iff.1 hb).1
  have hb256 := hc b (List.mem_of_getElem? hb)
  have hc256 := packB_lt l c (List.mem_of_getElem? hcc)
  have hll : l.length = T := by rw [hl, List.length_take, byB_len]; omega
  have one : ∀ {bs : List Nat} {x : Nat}, bs[k]? = some x → ((byB bs).drop (8 * k)).take 8 = bitsN 8 x := by
    intro bs x hx
    rw [← byB_drop, ← show 8 * 1 = 8 from rfl, ← byB_take, ← byB_one]
    congr 1
    have := (List.getElem?_eq_some_iff.1 hx)
    rw [List.drop_eq_getElem_cons this.1, this.2]
    rfl
  have e1 := one hb
  have e2 := one hcc
  rw [byB_packB, hll] at e2
  obtain ⟨m, hm⟩ : ∃ m, m = min 8 (T - 8 * k) := ⟨_, rfl⟩
  have hm8 : m ≤ 8 := by omega
  rw [← hm]
  have e3 : bitsN 8 c = bitsN m (b / 2 ^ (8 - m)) ++ List.replicate (8 - m) false := by
    have hsp := bitsN_add m b (8 - m)
    rw [show m + (8 - m) = 8 by omega] at hsp
    have hbm : (bitsN 8 b).take m = bitsN m (b / 2 ^ (8 - m)) := by
      rw [hsp, List.take_append_of_le_length (by rw [bitsN_len]; exact Nat.le_refl _), List.take_of_length_le (by rw [bitsN_len]; exact Nat.le_refl _)]
    rw [← e2, ← hbm, ← e1, hl]
    have hXl := byB_len ch
    generalize byB ch = X at *
    apply List.ext_getElem?
    intro i
    rw [List.getElem?_take]
    by_cases hi : i < 8
    · rw [if_pos hi, List.getElem?_drop]
      by_cases hm' : i < m
      · rw [List.getElem?_append_left (by rw [List.length_take]; omega), List.getElem?_take, if_pos (by omega), List.getElem?_append_left (by rw [List.length_take, List.length_take, List.length_drop]; omega), List.getElem?_take, if_pos hm', List.getElem?_take, if_pos hi, List.getElem?_drop]
      · rw [List.getElem?_append_right (by rw [List.length_take]; omega), List.getElem?_replicate, if_pos (by rw [List.length_take]; omega), List.getElem?_append_right (by rw [List.length_take, List.length_take, List.length_drop]; omega), List.getElem?_replicate, if_pos (by rw [List.length_take, List.length_take, List.length_drop]; omega)]
    · rw [if_neg hi, List.getElem?_eq_none]
      rw [List.length_append, List.length_take, List.length_take, List.length_drop, List.length_replicate]
      omega
  have h1 := congrArg num e3
  rw [num_bitsN, num_append, num_bitsN, num_zeros, List.length_replicate, Nat.add_zero] at h1
  have h2 : b / 2 ^ (8 - m) < 2 ^ m := by
    rw [Nat.div_lt_iff_lt_mul (Nat.two_pow_pos _), ← Nat.pow_add, show m + (8 - m) = 8 by omega]
    exact hb256
  rw [Nat.mod_eq_of_lt (show c < 2 ^ 8 from hc256), Nat.mod_eq_of_lt h2] at h1
  exact h1
theorem bytesR_at {L : Lay} : ∀ {rs : List (List Nat)}, (∀ r ∈ rs, RcF r) → ∀ {k j : Nat} {r : List Nat}, rs[k]? = some r → j < szR L → (bytesR L rs)[k * szR L + j]? = (packR L r)[j]?
  | [], _, k, j, r, h, _ => by simp at h
  | z :: rs, hr, 0, j, r, h, hj => by
    obtain rfl : z = r := by simpa using h
    have hl := packR_len (L := L) (hr z (List.mem_cons_self ..))
    have e : bytesR L (z :: rs) = packR L z ++ bytesR L rs := by simp [bytesR]
    rw [e, Nat.zero_mul, Nat.zero_add, List.getElem?_append_left (by omega)]
  | z :: rs, hr, k + 1, j, r, h, hj => by
    have hl := packR_len (L := L) (hr z (List.mem_cons_self ..))
    have e : bytesR L (z :: rs) = packR L z ++ bytesR L rs := by simp [bytesR]
    have ih := bytesR_at (rs := rs) (fun w hw => hr w (List.mem_cons_of_mem _ hw)) (k := k) (j := j) (r := r) (by simpa using h) hj
    rw [e, List.getElem?_append_right (by rw [hl, Nat.add_mul, Nat.one_mul]; omega), hl, show (k + 1) * szR L + j - szR L = k * szR L + j by rw [Nat.add_mul, Nat.one_mul]; omega]
    exact ih
theorem recsB_fit {L : Lay} {bs : List Nat} {n : Nat} : (recsB L bs n).all (fitR L) = true := by
  rw [List.all_eq_true]
  intro r hr
  obtain ⟨k, _, rfl⟩ := List.mem_map.1 hr
  exact dec_fit _ _
theorem recsB_at {L : Lay} {bs : List Nat} {n k : Nat} (h : k < n) : (recsB L bs n)[k]? = some (recAt L bs k) := by
  rw [recsB, List.getElem?_map, List.getElem?_range h]; rfl
def rrR (L : Lay) (i : Nat) : Nat := if i % szR L = szR L - 1 then 8 * szR L - tot (wR L) else 0
theorem again_rel {L : Lay} (hok : okB L = true) {bs : List Nat} (hb : ∀ c ∈ bs, c < 256) (hm : bs.length % szR L = 0) {i : Nat} (hi : i < bs.length) :
    ∃ b, b < 256 ∧ bs[i]? = some b ∧ (bytesR L (recsB L bs (bs.length / szR L)))[i]? = some (b / 2 ^ rrR L i * 2 ^ rrR L i) := by
  have hsz := szR_bd hok
  have hT1 : tot (wR L) ≤ 8 * szR L := by unfold szR; omega
  have hT2 : 8 * szR L < tot (wR L) + 8 := by unfold szR; omega
  have hj : i % szR L < szR L := Nat.mod_lt _ (by omega)
  have hdm := Nat.div_add_mod i (szR L)
  have hkn : i / szR L < bs.length / szR L := by
    rw [Nat.div_lt_iff_lt_mul (by omega), Nat.div_mul_cancel (Nat.dvd_of_mod_eq_zero hm)]
    exact hi
  have hks : i / szR L * szR L + szR L ≤ bs.length := by
    have h1 : (i / szR L + 1) * szR L ≤ bs.length / szR L * szR L := Nat.mul_le_mul_right _ hkn
    rw [Nat.add_mul, Nat.one_mul, Nat.div_mul_cancel (Nat.dvd_of_mod_eq_zero hm)] at h1
    exact h1
  obtain ⟨k, hk⟩ : ∃ k, k = i / szR L := ⟨_, rfl⟩
  obtain ⟨j, hjE⟩ : ∃ j, j = i % szR L := ⟨_, rfl⟩
  have hrr : rrR L i = if j = szR L - 1 then 8 * szR L - tot (wR L) else 0 := by unfold rrR; rw [hjE]
  rw [← hk] at hkn hks hdm
  rw [← hjE] at hj hdm
  have hij : i = k * szR L + j := by rw [Nat.mul_comm] at hdm; omega
  obtain ⟨ch, hch⟩ : ∃ ch, ch = (bs.drop (k * szR L)).take (szR L) := ⟨_, rfl⟩
  have hcl : ch.length = szR L := by rw [hch, List.length_take, List.length_drop]; omega
  have hcb : ∀ c ∈ ch, c < 256 := fun c hx => hb c (by rw [hch] at hx; exact List.mem_of_mem_drop (List.mem_of_mem_take hx))
  have hl : encR L (recAt L bs k) = (byB ch).take (tot (wR L)) := by
    rw [← recAt_cut, ← hch]
    exact enc_dec (wR_mm hok) (by rw [byB_len]; omega)
  obtain ⟨b, hbj⟩ : ∃ b, ch[j]? = some b := ⟨_, List.getElem?_eq_getElem (by omega)⟩
  have hpl := packR_len (L := L) (dcR_rcf L (byB (bs.drop (k * szR L))))
  obtain ⟨c, hcj⟩ : ∃ c, (packR L (recAt L bs k))[j]? = some c := ⟨_, List.getElem?_eq_getElem (by show j < (packR L (recAt L bs k)).length; unfold recAt; omega)⟩
  have hrel := byte_relR hcb (by rw [hcl]; omega) (by rw [hcl]; omega) hl hbj hcj
  have e8 : 8 - min 8 (tot (wR L) - 8 * j) = rrR L i := by
    rw [hrr]
    split <;> omega
  rw [e8] at hrel
  refine ⟨b, hcb b (List.mem_of_getElem? hbj), ?_, ?_⟩
  · rw [hch, List.getElem?_take, if_pos hj, List.getElem?_drop] at hbj
    rw [hij]; exact hbj
  · have := bytesR_at (L := L) (rs := recsB L bs (bs.length / szR L)) recsB_rcf (recsB_at hkn) hj
    rw [← hij, hcj, hrel] at this
    exact this
theorem keep_u8 : ∀ (b : Fin 256) (r : Fin 8), b.1 &&& (256 - 2 ^ r.1) = b.1 / 2 ^ r.1 * 2 ^ r.1 := by decide +kernel
theorem shl_255 : ∀ r : Fin 8, IntKind.u8.wrap (255 * 2 ^ (min ((r.1 : Nat) : Int).toNat IntKind.u8.bits)) = ((256 - 2 ^ r.1 : Nat) : Int) := by decide +kernel
end Go.Proofs.YtjdaglmkljbfkaaDoor

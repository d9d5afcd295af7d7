/- RECORDS: their numbers, their bits; records of bytes, bytes of records, by definition. Plain. -/
import Derived.Test.YtjehicncbpljaaaDoorS11a
import Derived.Test.YtjehicncbpljaaaDoorL08a
import Derived.Test.YtjehicncbpljaaaDoorG01a
namespace Go.Proofs.YtjehicncbpljaaaDoor
open Go Go.Gx
set_option maxRecDepth 100000
def rkK (p : Nat) : IntKind := if p = 0 then .u8 else if p < 3 then .u32 else .u16
def rkM (p : Nat) : Nat := if p = 0 then 256 else if p < 3 then 4294967296 else 65536
theorem recK_at {p : Nat} (h : p < 7) : recK[p]? = some (rkK p) := (show ∀ p : Fin 7, recK[p.1]? = some (rkK p.1) by decide) ⟨p, h⟩
theorem recK_len : recK.length = 7 := by decide
def rvV (xs : List Nat) : List Value := List.zipWith (fun (k : IntKind) (x : Nat) => Value.int k (x : Int)) recK xs
theorem rvV_len {xs : List Nat} (h : xs.length = 7) : (rvV xs).length = 7 := by rw [rvV, List.length_zipWith, recK_len, h]; rfl
theorem rvV_at {xs : List Nat} {p x : Nat} (hp : p < 7) (h : xs[p]? = some x) : (rvV xs)[p]? = some (.int (rkK p) (x : Int)) := by
  rw [rvV, List.getElem?_zipWith, recK_at hp, h]
theorem rvV_set {xs : List Nat} {p v : Nat} (hp : p < 7) : (rvV xs).set p (.int (rkK p) (v : Int)) = rvV (xs.set p v) := by
  apply List.ext_getElem?
  intro k
  rw [List.getElem?_set]
  by_cases e : p = k
  · subst e
    rw [if_pos rfl]
    by_cases hl : p < xs.length
    · rw [if_pos (by rw [rvV, List.length_zipWith, recK_len]; omega), rvV_at (x := v) hp (by rw [List.getElem?_set, if_pos rfl, if_pos hl])]
    · rw [if_neg (by rw [rvV, List.length_zipWith]; omega), rvV, List.getElem?_zipWith, List.getElem?_eq_none (l := xs.set p v) (by rw [List.length_set]; omega), recK_at hp]
  · rw [if_neg e, rvV, rvV, List.getElem?_zipWith, List.getElem?_zipWith, List.getElem?_set, if_neg e]
/-- how wide a record's numbers are -/
def flN (L : Lay) : Nat := (flb L).toNat
def wdR (L : Lay) (p : Nat) : Nat := if p = 0 then flN L else if p < 3 then L.co.toNat else if p - 3 < L.cs.toNat then L.cm.toNat else 0
def wR (L : Lay) : Ws := (List.range 7).map fun p => (wdR L p, rkM p)
theorem wR_len (L : Lay) : (wR L).length = 7 := by simp [wR]
theorem wR_at {L : Lay} {p : Nat} (h : p < 7) : (wR L)[p]? = some (wdR L p, rkM p) := by rw [wR, List.getElem?_map, List.getElem?_range h]; rfl
/-- a record's numbers -/
structure RcF (r : List Nat) : Prop where
  len : r.length = 7
  lt : ∀ {p x}, r[p]? = some x → x < rkM p
theorem rkM_le (p : Nat) : rkM p ≤ 4294967296 := by unfold rkM; split; decide; split <;> decide
theorem get7 {r : List Nat} (h : r.length = 7) {p : Nat} (hp : p < 7) : ∃ x, r[p]? = some x := ⟨_, List.getElem?_eq_getElem (by omega)⟩
theorem flN_bd {L : Lay} (h : okB L = true) : flN L ≤ 8 ∧ (flN L : Int) = flb L := by
  have hb := (okB_bounds h).2.2.2.2.2
  have : 0 ≤ flb L ∧ flb L ≤ 8 := by
    unfold flb
    split
    · omega
    · have := hb (by assumption); omega
  unfold flN; omega
theorem wdR_le {L : Lay} (h : okB L = true) (p : Nat) : wdR L p ≤ 32 := by
  have h1 := (flN_bd h).1
  have h2 := (okB_bounds h).1
  have h3 := (okB_bounds h).2.1
  unfold wdR; split
  · omega
  · split
    · omega
    · split <;> omega
theorem wdR_m {L : Lay} (h : okB L = true) (p : Nat) : 2 ^ wdR L p ≤ rkM p := by
  have h1 := (flN_bd h).1
  have h2 := (okB_bounds h).1
  have h3 := (okB_bounds h).2.1
  unfold wdR rkM; split
  · exact Nat.le_trans (Nat.pow_le_pow_right (by decide) h1) (by decide)
  · split
    · exact Nat.le_trans (Nat.pow_le_pow_right (by decide) (show L.co.toNat ≤ 32 by omega)) (by decide)
    · split
      · exact Nat.le_trans (Nat.pow_le_pow_right (by decide) (show L.cm.toNat ≤ 16 by omega)) (by decide)
      · decide
theorem wR_le {L : Lay} (h : okB L = true) : ∀ p ∈ wR L, p.1 ≤ 32 := by
  intro p hp
  obtain ⟨k, _, rfl⟩ := List.mem_map.1 hp
  exact wdR_le h k
theorem wR_mm {L : Lay} (h : okB L = true) : ∀ p ∈ wR L, 2 ^ p.1 ≤ p.2 := by
  intro p hp
  obtain ⟨k, _, rfl⟩ := List.mem_map.1 hp
  exact wdR_m h k
theorem wR_m (L : Lay) : ∀ p ∈ wR L, 0 < p.2 := by
  intro p hp
  obtain ⟨k, _, rfl⟩ := List.mem_map.1 hp
  show 0 < rkM k
  unfold rkM; split; decide; split <;> decide
theorem Und_ofR : ∀ {ws : Ws} {xs : List Nat}, ws.length = xs.length → (∀ (k w m x : Nat), ws[k]? = some (w, m) → xs[k]? = some x → x < m) → Und ws xs
  | [], [], _, _ => trivial
  | [], _ :: _, h, _ => by simp at h
  | _ :: _, [], h, _ => by simp at h
  | (w, m) :: ws, x :: xs, h, hk => ⟨hk 0 w m x rfl rfl, Und_ofR (by simpa using h) fun k w m x h1 h2 => hk (k + 1) w m x h1 h2⟩
theorem Und_atR : ∀ {ws : Ws} {xs : List Nat}, Und ws xs → ∀ {k w m x : Nat}, ws[k]? = some (w, m) → xs[k]? = some x → x < m
  | [], [], _, k, w, m, x, h, _ => by simp at h
  | [], _ :: _, h, _, _, _, _, _, _ => h.elim
  | _ :: _, [], h, _, _, _, _, _, _ => h.elim
  | (w, m) :: ws, x :: xs, h, 0, _, _, _, h1, h2 => by cases h1; cases h2; exact h.1
  | (w, m) :: ws, x :: xs, h, k + 1, _, _, _, h1, h2 => Und_atR h.2 h1 h2
theorem RcF.und {r : List Nat} (h : RcF r) (L : Lay) : Und (wR L) r := by
  refine Und_ofR (by rw [wR_len, h.len]) fun k w m x h1 h2 => ?_
  have hk : k < 7 := by rw [← h.len]; exact (List.getElem?_eq_some_iff.1 h2).1
  rw [wR_at hk] at h1
  cases h1
  exact h.lt h2
theorem Und.rcf {r : List Nat} {L : Lay} (h : Und (wR L) r) : RcF r := by
  have hl := h.len
  rw [wR_len] at hl
  refine ⟨hl.symm, fun {p x} hx => ?_⟩
  have hk : p < 7 := by rw [hl]; exact (List.getElem?_eq_some_iff.1 hx).1
  exact Und_atR h (wR_at hk) hx
def fitR (L : Lay) (r : List Nat) : Bool := fitB (wR L) r
def encR (L : Lay) (r : List Nat) : List Bool := enc (wR L) r
def packR (L : Lay) (r : List Nat) : List Nat := packB (encR L r)
def bytesR (L : Lay) (rs : List (List Nat)) : List Nat := rs.flatMap (packR L)
def dcR (L : Lay) (l : List Bool) : List Nat := dec (wR L) l
def szR (L : Lay) : Nat := (tot (wR L) + 7) / 8
theorem tot_wR {L : Lay} (h : okB L = true) : tot (wR L) = flN L + 2 * L.co.toNat + L.cs.toNat * L.cm.toNat := by
  have hs := (okB_bounds h).2.2.1
  obtain ⟨c, hc⟩ : ∃ c, c = L.cs.toNat := ⟨_, rfl⟩
  have e : tot (wR L) = flN L + (L.co.toNat + (L.co.toNat + ((if 0 < L.cs.toNat then L.cm.toNat else 0) + ((if 1 < L.cs.toNat then L.cm.toNat else 0) + ((if 2 < L.cs.toNat then L.cm.toNat else 0) + ((if 3 < L.cs.toNat then L.cm.toNat else 0) + 0)))))) := rfl
  rw [e, ← hc]
  have : c = 1 ∨ c = 2 ∨ c = 3 ∨ c = 4 := by omega
  rcases this with h | h | h | h <;> rw [h] <;> simp <;> omega
theorem sizeR_eq {L : Lay} (h : okB L = true) (hty : L.ty = 4 ∨ L.ty = 5) (f : Int) : sizeZ L f = (szR L : Int) := by
  have hb := okB_bounds h
  have h1 := flN_bd h
  have e2 : L.co = (L.co.toNat : Int) := by omega
  have e3 : L.cm = (L.cm.toNat : Int) := by omega
  have e4 : L.cs = (L.cs.toNat : Int) := by omega
  have ep : ptsZ L f = 1 := by unfold ptsZ; rw [if_neg (by omega), if_neg (by omega)]
  have ec : colZ L f = 1 := by unfold colZ; rw [if_neg (by omega)]
  have et : bitsZ L f = (tot (wR L) : Int) := by
    unfold bitsZ
    rw [ep, ec, tot_wR h, Int.natCast_add, Int.natCast_add, h1.2, Int.natCast_mul, Int.natCast_mul, ← e2, ← e3, ← e4, Int.one_mul, Int.add_assoc]
    rfl
  unfold sizeZ szR
  rw [if_pos h, et]
  omega
theorem szR_bd {L : Lay} (h : okB L = true) : 1 ≤ szR L ∧ szR L ≤ 17 ∧ tot (wR L) ≤ 136 ∧ 3 ≤ tot (wR L) := by
  have hb := okB_bounds h
  have h1 := (flN_bd h).1
  have h2 := mul_bd (a := L.cs) (b := L.cm) (by omega) (by omega) (by omega) (by omega)
  have h3 := tot_wR h
  have e : ((L.cs.toNat * L.cm.toNat : Nat) : Int) = L.cs * L.cm := by rw [Int.natCast_mul]; congr 1 <;> omega
  unfold szR
  omega
theorem RcF.enc_len {r : List Nat} (h : RcF r) (L : Lay) : (encR L r).length = tot (wR L) := _root_.Go.Proofs.YtjehicncbpljaaaDoor.enc_len (by rw [wR_len, h.len])
theorem packR_len {L : Lay} {r : List Nat} (h : RcF r) : (packR L r).length = szR L := by rw [packR, packB_len, h.enc_len]; rfl
theorem dcR_rcf (L : Lay) (l : List Bool) : RcF (dcR L l) := Und.rcf (L := L) (dec_und l (wR_m L))
theorem bytesR_append (L : Lay) (a b : List (List Nat)) : bytesR L (a ++ b) = bytesR L a ++ bytesR L b := by simp [bytesR]
theorem bytesR_lt (L : Lay) (rs : List (List Nat)) : ∀ c ∈ bytesR L rs, c < 256 := by
  intro c hc
  obtain ⟨y, _, h⟩ := List.mem_flatMap.1 hc
  exact packB_lt _ c h
theorem bytesR_len {L : Lay} : ∀ {rs : List (List Nat)}, (∀ r ∈ rs, RcF r) → (bytesR L rs).length = rs.length * szR L
  | [], _ => by simp [bytesR]
  | r :: rs, h => by
    have h1 := packR_len (L := L) (h r (List.mem_cons_self ..))
    have h3 := bytesR_len (L := L) (rs := rs) fun z hz => h z (List.mem_cons_of_mem _ hz)
    have e : bytesR L (r :: rs) = packR L r ++ bytesR L rs := by simp [bytesR]
    rw [e, List.length_append, List.length_cons, Nat.add_mul]
    omega
/-- the k-th record of bytes -/
def recAt (L : Lay) (bs : List Nat) (k : Nat) : List Nat := dcR L (byB (bs.drop (k * szR L)))
def recsB (L : Lay) (bs : List Nat) (n : Nat) : List (List Nat) := (List.range n).map (recAt L bs)
def okR (L : Lay) : Prop := okB L = true ∧ L.ty ≤ 5
theorem ty45 {L : Lay} (h : okR L) : L.ty = 4 ∨ L.ty = 5 := by
  have := (okB_bounds h.1).2.2.2.1
  have := h.2
  omega
def errRG (L : Lay) (bs : List Nat) : Int := if okB L = true ∧ L.ty ≤ 5 then (if 65536 < bs.length then 3 else if bs.length % szR L = 0 then 0 else 5) else 4
def outRG (L : Lay) (bs : List Nat) : List (List Nat) := if errRG L bs = 0 then recsB L bs (bs.length / szR L) else []
def errRP (L : Lay) (rs : List (List Nat)) : Int := if okB L = true ∧ L.ty ≤ 5 then (if rs.all (fitR L) = true then (if 65536 < (bytesR L rs).length then 3 else 0) else 1) else 4
def outRP (L : Lay) (rs : List (List Nat)) : List Nat := if errRP L rs = 0 then bytesR L rs else []
/-- records, one behind the other, in memory -/
def flatR (rs : List (List Nat)) : List Value := (rs.map rvV).flatten
theorem flatR_cons (r : List Nat) (rs : List (List Nat)) : flatR (r :: rs) = rvV r ++ flatR rs := by simp [flatR]
theorem flatR_snoc (rs : List (List Nat)) (r : List Nat) : flatR (rs ++ [r]) = flatR rs ++ rvV r := by simp [flatR]
theorem flatR_append (a b : List (List Nat)) : flatR (a ++ b) = flatR a ++ flatR b := by simp [flatR]
theorem flatR_len : ∀ {rs : List (List Nat)}, (∀ r ∈ rs, RcF r) → (flatR rs).length = rs.length * 7
  | [], _ => rfl
  | r :: rs, h => by
    have h1 := rvV_len (h r (List.mem_cons_self ..)).len
    have h2 := flatR_len (rs := rs) fun z hz => h z (List.mem_cons_of_mem _ hz)
    rw [flatR_cons, List.length_append, h1, h2, List.length_cons]; omega
theorem flatR_at : ∀ {rs : List (List Nat)}, (∀ r ∈ rs, RcF r) → ∀ {i : Nat} {r : List Nat}, rs[i]? = some r → i * 7 + 7 ≤ (flatR rs).length ∧ ((flatR rs).drop (i * 7)).take 7 = rvV r
  | [], _, i, r, hi => by simp at hi
  | z :: rs, h, 0, r, hi => by
    obtain rfl : z = r := by simpa using hi
    have h1 := rvV_len (h z (List.mem_cons_self ..)).len
    rw [flatR_cons, List.length_append, h1, Nat.zero_mul, List.drop_zero, List.take_append_of_le_length (by omega), List.take_of_length_le (by omega)]
    exact ⟨by omega, rfl⟩
  | z :: rs, h, i + 1, r, hi => by
    have h1 := rvV_len (h z (List.mem_cons_self ..)).len
    obtain ⟨h2, h3⟩ := flatR_at (rs := rs) (fun w hw => h w (List.mem_cons_of_mem _ hw)) (i := i) (r := r) (by simpa using hi)
    rw [flatR_cons, List.length_append, h1]
    refine ⟨by omega, ?_⟩
    rw [List.drop_append, List.drop_eq_nil_of_le (by omega), h1, List.nil_append, show (i + 1) * 7 - 7 = i * 7 by omega, h3]
theorem flatR_elem {rs : List (List Nat)} (h : ∀ r ∈ rs, RcF r) {i p : Nat} {r : List Nat} (hi : rs[i]? = some r) (hp : p < 7) : (flatR rs)[i * 7 + p]? = (rvV r)[p]? := by
  rw [← (flatR_at h hi).2, List.getElem?_take, if_pos hp, List.getElem?_drop]
theorem zip_intsR : ∀ {ks : List IntKind} {xs : List Nat}, ks.length = xs.length → (∀ (p : Nat) (k : IntKind) (x : Nat), ks[p]? = some k → xs[p]? = some x → (Lit.int k (x : Int)).wf = true) → Ints ks (List.zipWith (fun (k : IntKind) (x : Nat) => Value.int k (x : Int)) ks xs)
  | [], [], _, _ => .nil
  | [], _ :: _, h, _ => by simp at h
  | _ :: _, [], h, _ => by simp at h
  | k :: ks, x :: xs, h, hw => .cons (hw 0 k x rfl rfl) (zip_intsR (by simpa using h) fun p k x h1 h2 => hw (p + 1) k x h1 h2)
theorem rvV_ints {r : List Nat} (h : RcF r) : Ints recK (rvV r) := by
  refine zip_intsR (by rw [recK_len, h.len]) fun p k x hk hv => ?_
  have hp : p < 7 := by rw [← recK_len]; exact (List.getElem?_eq_some_iff.1 hk).1
  rw [recK_at hp] at hk
  cases hk
  have hx := h.lt hv
  have a1 : IntKind.u8.min = 0 := rfl
  have a2 : IntKind.u8.max = 255 := rfl
  have a3 : IntKind.u16.min = 0 := rfl
  have a4 : IntKind.u16.max = 65535 := rfl
  have a5 : IntKind.u32.min = 0 := rfl
  have a6 : IntKind.u32.max = 4294967295 := rfl
  unfold rkM at hx
  unfold rkK
  split
  · rename_i e; rw [if_pos e] at hx; simp only [Lit.wf, Bool.and_eq_true, decide_eq_true_eq]; omega
  · rename_i e
    rw [if_neg e] at hx
    split
    · rename_i e2; rw [if_pos e2] at hx; simp only [Lit.wf, Bool.and_eq_true, decide_eq_true_eq]; omega
    · rename_i e2; rw [if_neg e2] at hx; simp only [Lit.wf, Bool.and_eq_true, decide_eq_true_eq]; omega
theorem flatR_ints : ∀ {rs : List (List Nat)}, (∀ r ∈ rs, RcF r) → Ints (rep rs.length recK) (flatR rs)
  | [], _ => .nil
  | r :: rs, h => by
    have e2 : rep (r :: rs).length recK = recK ++ rep rs.length recK := by simp [rep, List.replicate_succ]
    rw [flatR_cons, e2]
    exact (rvV_ints (h r (List.mem_cons_self ..))).append (flatR_ints fun z hz => h z (List.mem_cons_of_mem _ hz))
end Go.Proofs.YtjehicncbpljaaaDoor

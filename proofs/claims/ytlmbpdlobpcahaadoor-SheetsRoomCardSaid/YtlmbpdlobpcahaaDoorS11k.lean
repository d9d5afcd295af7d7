/- SHEETS AND BYTES: what is put is got, and back. Plain. -/
import Derived.Test.YtlmbpdlobpcahaaDoorS11j
namespace Go.Proofs.YtlmbpdlobpcahaaDoor
open Go Go.Gx
set_option maxRecDepth 100000
theorem ShF.und {y : List Nat} (h : ShF y) (L : Lay) : Und (fS L (y.headD 0)) y := by
  obtain ⟨x0, X, rfl, h0, hX⟩ := h
  exact ⟨h0, hX.und L x0⟩
section
variable {L : Lay}
theorem flB_pack {y : List Nat} (h : ShF y) (hf : fitS L y = true) (r : List Bool) : flB L (encS L y ++ r) = y.headD 0 := by
  obtain ⟨x0, X, rfl, h0, hX⟩ := h
  unfold fitS at hf
  simp only [List.headD_cons, fS, fitB, Bool.and_eq_true, decide_eq_true_eq] at hf
  have e : (encS L (x0 :: X) ++ r).take L.fl.toNat = bitsN L.fl.toNat x0 := by
    unfold encS
    rw [List.headD_cons, fS, enc, List.append_assoc, List.take_append_of_le_length (by rw [bitsN_len]; exact Nat.le_refl _), List.take_of_length_le (by rw [bitsN_len]; exact Nat.le_refl _)]
  unfold flB
  rw [e, num_bitsN, Nat.mod_eq_of_lt hf.1, Nat.mod_eq_of_lt h0]
  rfl
theorem dcS_pack {y : List Nat} (h : ShF y) (hf : fitS L y = true) (r : List Bool) : dcS L (encS L y ++ r) = y := by
  unfold dcS
  rw [flB_pack h hf]
  exact dec_enc r (h.und L) hf
theorem byB_pack (y : List Nat) (r : List Nat) : ∃ q, byB (packS L y ++ r) = encS L y ++ q :=
  ⟨List.replicate (8 * (((encS L y).length + 7) / 8) - (encS L y).length) false ++ byB r, by rw [byB_append, packS, byB_packB, List.append_assoc]⟩
theorem dcS_head (l : List Bool) : (dcS L l).headD 0 = flB L l := rfl
theorem dcS_fit (l : List Bool) : fitS L (dcS L l) = true := by
  unfold fitS
  rw [dcS_head]
  exact dec_fit _ _
end
section
variable {L : Lay} (hok : okB L = true) (hty : L.ty = 6 ∨ L.ty = 7)
include hok hty
theorem getS_pack {y : List Nat} (h : ShF y) (hf : fitS L y = true) (r : List Nat) : getS L (packS L y ++ r) = (getS L r).map (y :: ·) := by
  have hl := packS_len (L := L) h
  have hp := szN_pos hok hty (y.headD 0)
  obtain ⟨q, hq⟩ := byB_pack y r
  have h0 : packS L y ++ r ≠ [] := by
    intro e
    have := congrArg List.length e
    rw [List.length_append, hl] at this
    have h2 : szN L (y.headD 0) + r.length = 0 := this
    omega
  rw [getS_cons hok hty h0, hq, flB_pack h hf, dcS_pack h hf, if_neg, ← hl, List.drop_left]
  rw [List.length_append, hl]
  unfold szN
  omega
theorem getS_bytes : ∀ {ys : List (List Nat)}, (∀ y ∈ ys, ShF y) → ys.all (fitS L) = true → ∀ r, getS L (bytesS L ys ++ r) = (getS L r).map (ys ++ ·)
  | [], _, _, r => by
    rw [show bytesS L [] = [] from rfl, List.nil_append, show (fun x : List (List Nat) => [] ++ x) = id from rfl, Option.map_id]; rfl
  | y :: ys, h, hf, r => by
    simp only [List.all_cons, Bool.and_eq_true] at hf
    have e : bytesS L (y :: ys) = packS L y ++ bytesS L ys := by simp [bytesS]
    rw [e, List.append_assoc, getS_pack hok hty (h y (List.mem_cons_self ..)) hf.1, getS_bytes (fun z hz => h z (List.mem_cons_of_mem _ hz)) hf.2, Option.map_map]
    exact congrArg (fun F => Option.map F (getS L r)) (funext fun x => by simp)
theorem got_cons {bs : List Nat} {ys : List (List Nat)} (h0 : bs ≠ []) (h : getS L bs = some ys) :
    ∃ zs, ys = dcS L (byB bs) :: zs ∧ tot (fS L (flB L (byB bs))) ≤ 8 * bs.length ∧ getS L (bs.drop (szN L (flB L (byB bs)))) = some zs := by
  rw [getS_cons hok hty h0] at h
  split at h
  · cases h
  · rename_i hc
    obtain ⟨zs, hz, rfl⟩ := Option.map_eq_some_iff.1 h
    exact ⟨zs, rfl, Nat.le_of_not_lt hc, hz⟩
theorem got_facts : ∀ (k : Nat) {bs : List Nat} {ys : List (List Nat)}, bs.length ≤ k → getS L bs = some ys → (∀ y ∈ ys, ShF y) ∧ ys.all (fitS L) = true ∧ (bytesS L ys).length = bs.length
  | 0, bs, ys, hk, h => by
    obtain rfl : bs = [] := List.length_eq_zero_iff.1 (by omega)
    rw [getS_nil] at h
    cases h
    exact ⟨fun _ h => absurd h List.not_mem_nil, rfl, rfl⟩
  | k + 1, bs, ys, hk, h => by
    by_cases h0 : bs = []
    · subst h0
      rw [getS_nil] at h
      cases h
      exact ⟨fun _ h => absurd h List.not_mem_nil, rfl, rfl⟩
    · obtain ⟨zs, rfl, ht, hz⟩ := got_cons hok hty h0 h
      have hb : 0 < bs.length := List.length_pos_iff.2 h0
      have h1 := (szN_pos hok hty (flB L (byB bs))).1
      have hsz : szN L (flB L (byB bs)) = (tot (fS L (flB L (byB bs))) + 7) / 8 := rfl
      obtain ⟨h2, h3, h4⟩ := got_facts k (by rw [List.length_drop]; omega) hz
      have hsh := dcS_shf L (byB bs)
      refine ⟨fun y hy => ?_, ?_, ?_⟩
      · rcases List.mem_cons.1 hy with rfl | hy
        · exact hsh
        · exact h2 y hy
      · rw [List.all_cons, dcS_fit, h3]; rfl
      · have e : bytesS L (dcS L (byB bs) :: zs) = packS L (dcS L (byB bs)) ++ bytesS L zs := by simp [bytesS]
        rw [e, List.length_append, h4, packS_len hsh, dcS_head, List.length_drop]
        generalize tot (fS L (flB L (byB bs))) = T at *
        generalize szN L (flB L (byB bs)) = m at *
        omega
theorem getS_append : ∀ (k : Nat) {a : List Nat} {ys : List (List Nat)}, a.length ≤ k → getS L a = some ys → ∀ b, getS L (a ++ b) = (getS L b).map (ys ++ ·)
  | 0, a, ys, hk, h, b => by
    obtain rfl : a = [] := List.length_eq_zero_iff.1 (by omega)
    rw [getS_nil] at h
    cases h
    rw [List.nil_append, show (fun x : List (List Nat) => [] ++ x) = id from rfl, Option.map_id]; rfl
  | k + 1, a, ys, hk, h, b => by
    by_cases h0 : a = []
    · subst h0
      rw [getS_nil] at h
      cases h
      rw [List.nil_append, show (fun x : List (List Nat) => [] ++ x) = id from rfl, Option.map_id]; rfl
    · obtain ⟨zs, rfl, ht, hz⟩ := got_cons hok hty h0 h
      have hb : 0 < a.length := List.length_pos_iff.2 h0
      have h1 := (szN_pos hok hty (flB L (byB a))).1
      have h8 := (fS_tot hok hty (flB L (byB a))).1
      have hsz : szN L (flB L (byB a)) = (tot (fS L (flB L (byB a))) + 7) / 8 := rfl
      have hbl := byB_len a
      have hfl : flB L (byB (a ++ b)) = flB L (byB a) := by
        unfold flB
        rw [byB_append, List.take_append_of_le_length (by omega)]
      have hdc : dcS L (byB (a ++ b)) = dcS L (byB a) := by
        unfold dcS
        rw [hfl, ← dec_take (k := 8 * a.length) (l := byB (a ++ b)) ht, byB_append, ← hbl, List.take_left]
      rw [getS_cons hok hty (by intro e; exact h0 (List.append_eq_nil_iff.1 e).1), hfl, hdc, if_neg (by rw [List.length_append]; omega), List.drop_append_of_le_length (by omega), getS_append k (a := a.drop (szN L (flB L (byB a)))) (by rw [List.length_drop]; omega) hz b, Option.map_map]
      exact congrArg (fun F => Option.map F (getS L b)) (funext fun x => by simp)
/-- of less than a whole record nothing is got -/
theorem getS_part {y : List Nat} (h : ShF y) (hf : fitS L y = true) {k : Nat} (h0 : 0 < k) (hk : k < szN L (y.headD 0)) : getS L ((packS L y).take k) = none := by
  have hl := packS_len (L := L) h
  have hlen : ((packS L y).take k).length = k := by rw [List.length_take, hl]; omega
  have hne : (packS L y).take k ≠ [] := by intro e; rw [e] at hlen; simp at hlen; omega
  obtain ⟨q, hq⟩ := byB_pack y []
  rw [List.append_nil] at hq
  have h8 := fS_tot hok hty (y.headD 0)
  have hfl : flB L (byB ((packS L y).take k)) = y.headD 0 := by
    have h1 := flB_pack h hf q
    rw [← hq] at h1
    rw [← h1]
    unfold flB
    rw [byB_take, List.take_take, Nat.min_eq_left (by omega)]
  rw [getS_cons hok hty hne, hfl, if_pos]
  rw [hlen]
  unfold szN at hk
  omega
/-- where a record stands -/
theorem got_at : ∀ (i : Nat) {bs : List Nat} {ys : List (List Nat)} {y : List Nat}, getS L bs = some ys → ys[i]? = some y →
    (bytesS L (ys.take i)).length + szN L (y.headD 0) ≤ bs.length ∧ encS L y = (byB (bs.drop (bytesS L (ys.take i)).length)).take (tot (fS L (y.headD 0)))
  | i, bs, ys, y, h, hy => by
    have h0 : bs ≠ [] := by
      intro e
      subst e
      rw [getS_nil] at h
      cases h
      simp at hy
    obtain ⟨zs, rfl, ht, hz⟩ := got_cons hok hty h0 h
    have hsh := dcS_shf L (byB bs)
    have hsz : szN L (flB L (byB bs)) = (tot (fS L (flB L (byB bs))) + 7) / 8 := rfl
    match i with
    | 0 =>
      obtain rfl : dcS L (byB bs) = y := by simpa using hy
      rw [List.take_zero, show bytesS L [] = [] from rfl, List.length_nil, List.drop_zero, dcS_head]
      refine ⟨by omega, ?_⟩
      unfold encS
      rw [dcS_head]
      exact enc_dec (fS_mm hok hty _) (by rw [byB_len]; exact ht)
    | i + 1 =>
      rw [List.getElem?_cons_succ] at hy
      obtain ⟨h1, h2⟩ := got_at i hz hy
      have e : bytesS L ((dcS L (byB bs) :: zs).take (i + 1)) = packS L (dcS L (byB bs)) ++ bytesS L (zs.take i) := by simp [bytesS]
      rw [e, List.length_append, packS_len hsh, dcS_head]
      rw [List.length_drop] at h1
      rw [List.drop_drop] at h2
      refine ⟨?_, h2⟩
      generalize tot (fS L (flB L (byB bs))) = T at *
      generalize szN L (flB L (byB bs)) = m at *
      omega
end
/-- a byte, and the same byte with some last bits off -/
theorem byte_rel {l : List Bool} {ch : List Nat} {T k b c : Nat} (hc : ∀ c ∈ ch, c < 256) (hT : T ≤ 8 * ch.length) (hT8 : 8 * ch.length < T + 8) (hl : l = (byB ch).take T) (hb : ch[k]? = some b) (hcc : (packB l)[k]? = some c) :
    ∃ r, r ≤ 7 ∧ (k + 1 < ch.length → r = 0) ∧ c = b / 2 ^ r * 2 ^ r := by
  have hk : k < ch.length := (List.getElem?_eq_some_iff.1 hb).1
  have hb256 := hc b (List.mem_of_getElem? hb)
  have hc256 := packB_lt l c (List.mem_of_getElem? hcc)
  have hll : l.length = T := by rw [hl, List.length_take, byB_len]; omega
  have one : ∀ {bs : List Nat} {x : Nat}, bs[k]? = some x → ((byB bs).drop (8 * k)).take 8 = bitsN 8 x := by
    intro bs x hx
    rw [← byB_drop, ← show 8 * 1 = 8 from rfl, ← byB_take, ← byB_one]
    congr 1
    have := (List.getElem?_eq_some_iff.1 hx)
    rw [List.drop_eq_getElem_cons this.1, this.2]
    rfl
  have e1 := one hb
  have e2 := one hcc
  rw [byB_packB, hll] at e2
  obtain ⟨m, hm⟩ : ∃ m, m = min 8 (T - 8 * k) := ⟨_, rfl⟩
  have hm8 : m ≤ 8 := by omega
  refine ⟨8 - m, by omega, fun h => by omega, ?_⟩
  have e3 : bitsN 8 c = bitsN m (b / 2 ^ (8 - m)) ++ List.replicate (8 - m) false := by
    have hsp := bitsN_add m b (8 - m)
    rw [show m + (8 - m) = 8 by omega] at hsp
    have hbm : (bitsN 8 b).take m = bitsN m (b / 2 ^ (8 - m)) := by
      rw [hsp, List.take_append_of_le_length (by rw [bitsN_len]; exact Nat.le_refl _), List.take_of_length_le (by rw [bitsN_len]; exact Nat.le_refl _)]
    rw [← e2, ← hbm, ← e1, hl]
    have hXl := byB_len ch
    generalize byB ch = X at *
    apply List.ext_getElem?
    intro i
    rw [List.getElem?_take]
    by_cases hi : i < 8
    · rw [if_pos hi, List.getElem?_drop]
      by_cases hm' : i < m
      · rw [List.getElem?_append_left (by rw [List.length_take]; omega), List.getElem?_take, if_pos (by omega), List.getElem?_append_left (by rw [List.length_take, List.length_take, List.length_drop]; omega), List.getElem?_take, if_pos hm', List.getElem?_take, if_pos hi, List.getElem?_drop]
      · rw [List.getElem?_append_right (by rw [List.length_take]; omega), List.getElem?_replicate, if_pos (by rw [List.length_take]; omega), List.getElem?_append_right (by rw [List.length_take, List.length_take, List.length_drop]; omega), List.getElem?_replicate, if_pos (by rw [List.length_take, List.length_take, List.length_drop]; omega)]
    · rw [if_neg hi, List.getElem?_eq_none]
      rw [List.length_append, List.length_take, List.length_take, List.length_drop, List.length_replicate]
      omega
  have h1 := congrArg num e3
  rw [num_bitsN, num_append, num_bitsN, num_zeros, List.length_replicate, Nat.add_zero] at h1
  have h2 : b / 2 ^ (8 - m) < 2 ^ m := by
    rw [Nat.div_lt_iff_lt_mul (Nat.two_pow_pos _), ← Nat.pow_add, show m + (8 - m) = 8 by omega]
    exact hb256
  rw [Nat.mod_eq_of_lt (show c < 2 ^ 8 from hc256), Nat.mod_eq_of_lt h2] at h1
  exact h1
theorem byte_off : ∀ (b : Fin 256) (r : Fin 8), (b.1 ^^^ (b.1 / 2 ^ r.1 * 2 ^ r.1)) &&& 128 = 0 ∧ (b.1 / 2 ^ r.1 * 2 ^ r.1) &&& (b.1 ^^^ (b.1 / 2 ^ r.1 * 2 ^ r.1)) = 0 ∧ (r.1 = 0 → b.1 ^^^ (b.1 / 2 ^ r.1 * 2 ^ r.1) = 0) := by decide +kernel
end Go.Proofs.YtlmbpdlobpcahaaDoor

/- THE LAW: bytes that are got are put as the same, but for what fills each record's last byte. -/
import Derived.Test.YtjehicncbpljaaaDoorS09u
namespace Go.Proofs.YtjehicncbpljaaaDoor
open Go Go.Gx Go.RowKit
set_option maxRecDepth 100000
theorem byte_relR {l : List Bool} {ch : List Nat} {T k b c : Nat} (hc : ∀ c ∈ ch, c < 256) (hT : T ≤ 8 * ch.length) (hT8 : 8 * ch.length < T + 8) (hl : l = (byB ch).take T) (hb : ch[k]? = some b) (hcc : (packB l)[k]? = some c) :
    c = b / 2 ^ (8 - min 8 (T - 8 * k)) * 2 ^ (8 - min 8 (T - 8 * k)) := by
  have hk : k < ch.length := (List.getElem?_eq_some_iff.1 hb).1
  have hb256 := hc b (List.mem_of_getElem? hb)
  have hc256 := packB_lt l c (List.mem_of_getElem? hcc)
  have hll : l.length = T := by rw [hl, List.length_take, byB_len]; omega
  have one : ∀ {bs : List Nat} {x : Nat}, bs[k]? = some x → ((byB bs).drop (8 * k)).take 8 = bitsN 8 x := by
    intro bs x hx
    rw [← byB_drop, ← show 8 * 1 = 8 from rfl, ← byB_take, ← byB_one]
    congr 1
    have := (List.getElem?_eq_some_iff.1 hx)
    rw [List.drop_eq_getElem_cons this.1, this.2]
    rfl
  have e1 := one hb
  have e2 := one hcc
  rw [byB_packB, hll] at e2
  obtain ⟨m, hm⟩ : ∃ m, m = min 8 (T - 8 * k) := ⟨_, rfl⟩
  have hm8 : m ≤ 8 := by omega
  rw [← hm]
  have e3 : bitsN 8 c = bitsN m (b / 2 ^ (8 - m)) ++ List.replicate (8 - m) false := by
    have hsp := bitsN_add m b (8 - m)
    rw [show m + (8 - m) = 8 by omega] at hsp
    have hbm : (bitsN 8 b).take m = bitsN m (b / 2 ^ (8 - m)) := by
      rw [hsp, List.take_append_of_le_length (by rw [bitsN_len]; exact Nat.le_refl _), List.take_of_length_le (by rw [bitsN_len]; exact Nat.le_refl _)]
    rw [← e2, ← hbm, ← e1, hl]
    have hXl := byB_len ch
    generalize byB ch = X at *
    apply List.ext_getElem?
    intro i
    rw [List.getElem?_take]
    by_cases hi : i < 8
    · rw [if_pos hi, List.getElem?_drop]
      by_cases hm' : i < m
      · rw [List.getElem?_append_left (by rw [List.length_take]; omega), List.getElem?_take, if_pos (by omega), List.getElem?_append_left (by rw [List.length_take, List.length_take, List.length_drop]; omega), List.getElem?_take, if_pos hm', List.getElem?_take, if_pos hi, List.getElem?_drop]
      · rw [List.getElem?_append_right (by rw [List.length_take]; omega), List.getElem?_replicate, if_pos (by rw [List.length_take]; omega), List.getElem?_append_right (by rw [List.length_take, List.length_take, List.length_drop]; omega), List.getElem?_replicate, if_pos (by rw [List.length_take, List.length_take, List.length_drop]; omega)]
    · rw [if_neg hi, List.getElem?_eq_none]
      rw [List.length_append, List.length_take, List.length_take, List.length_drop, List.length_replicate]
      omega
  have h1 := congrArg num e3
  rw [num_bitsN, num_append, num_bitsN, num_zeros, List.length_replicate, Nat.add_zero] at h1
  have h2 : b / 2 ^ (8 - m) < 2 ^ m := by
    rw [Nat.div_lt_iff_lt_mul (Nat.two_pow_pos _), ← Nat.pow_add, show m + (8 - m) = 8 by omega]
    exact hb256
  rw [Nat.mod_eq_of_lt (show c < 2 ^ 8 from hc256), Nat.mod_eq_of_lt h2] at h1
  exact h1
theorem bytesR_at {L : Lay} : ∀ {rs : List (List Nat)}, (∀ r ∈ rs, RcF r) → ∀ {k j : Nat} {r : List Nat}, rs[k]? = some r → j < szR L → (bytesR L rs)[k * szR L + j]? = (packR L r)[j]?
  | [], _, k, j, r, h, _ => by simp at h
  | z :: rs, hr, 0, j, r, h, hj => by
    obtain rfl : z = r := by simpa using h
    have hl := packR_len (L := L) (hr z (List.mem_cons_self ..))
    have e : bytesR L (z :: rs) = packR L z ++ bytesR L rs := by simp [bytesR]
    rw [e, Nat.zero_mul, Nat.zero_add, List.getElem?_append_left (by omega)]
  | z :: rs, hr, k + 1, j, r, h, hj => by
    have hl := packR_len (L := L) (hr z (List.mem_cons_self ..))
    have e : bytesR L (z :: rs) = packR L z ++ bytesR L rs := by simp [bytesR]
    have ih := bytesR_at (rs := rs) (fun w hw => hr w (List.mem_cons_of_mem _ hw)) (k := k) (j := j) (r := r) (by simpa using h) hj
    rw [e, List.getElem?_append_right (by rw [hl, Nat.add_mul, Nat.one_mul]; omega), hl, show (k + 1) * szR L + j - szR L = k * szR L + j by rw [Nat.add_mul, Nat.one_mul]; omega]
    exact ih
theorem recsB_fit {L : Lay} {bs : List Nat} {n : Nat} : (recsB L bs n).all (fitR L) = true := by
  rw [List.all_eq_true]
  intro r hr
  obtain ⟨k, _, rfl⟩ := List.mem_map.1 hr
  exact dec_fit _ _
theorem recsB_at {L : Lay} {bs : List Nat} {n k : Nat} (h : k < n) : (recsB L bs n)[k]? = some (recAt L bs k) := by
  rw [recsB, List.getElem?_map, List.getElem?_range h]; rfl
def rrR (L : Lay) (i : Nat) : Nat := if i % szR L = szR L - 1 then 8 * szR L - tot (wR L) else 0
theorem again_rel {L : Lay} (hok : okB L = true) {bs : List Nat} (hb : ∀ c ∈ bs, c < 256) (hm : bs.length % szR L = 0) {i : Nat} (hi : i < bs.length) :
    ∃ b, b < 256 ∧ bs[i]? = some b ∧ (bytesR L (recsB L bs (bs.length / szR L)))[i]? = some (b / 2 ^ rrR L i * 2 ^ rrR L i) := by
  have hsz := szR_bd hok
  have hT1 : tot (wR L) ≤ 8 * szR L := by unfold szR; omega
  have hT2 : 8 * szR L < tot (wR L) + 8 := by unfold szR; omega
  have hj : i % szR L < szR L := Nat.mod_lt _ (by omega)
  have hdm := Nat.div_add_mod i (szR L)
  have hkn : i / szR L < bs.length / szR L := by
    rw [Nat.div_lt_iff_lt_mul (by omega), Nat.div_mul_cancel (Nat.dvd_of_mod_eq_zero hm)]
    exact hi
  have hks : i / szR L * szR L + szR L ≤ bs.length := by
    have h1 : (i / szR L + 1) * szR L ≤ bs.length / szR L * szR L := Nat.mul_le_mul_right _ hkn
    rw [Nat.add_mul, Nat.one_mul, Nat.div_mul_cancel (Nat.dvd_of_mod_eq_zero hm)] at h1
    exact h1
  obtain ⟨k, hk⟩ : ∃ k, k = i / szR L := ⟨_, rfl⟩
  obtain ⟨j, hjE⟩ : ∃ j, j = i % szR L := ⟨_, rfl⟩
  have hrr : rrR L i = if j = szR L - 1 then 8 * szR L - tot (wR L) else 0 := by unfold rrR; rw [hjE]
  rw [← hk] at hkn hks hdm
  rw [← hjE] at hj hdm
  have hij : i = k * szR L + j := by rw [Nat.mul_comm] at hdm; omega
  obtain ⟨ch, hch⟩ : ∃ ch, ch = (bs.drop (k * szR L)).take (szR L) := ⟨_, rfl⟩
  have hcl : ch.length = szR L := by rw [hch, List.length_take, List.length_drop]; omega
  have hcb : ∀ c ∈ ch, c < 256 := fun c hx => hb c (by rw [hch] at hx; exact List.mem_of_mem_drop (List.mem_of_mem_take hx))
  have hl : encR L (recAt L bs k) = (byB ch).take (tot (wR L)) := by
    rw [← recAt_cut, ← hch]
    exact enc_dec (wR_mm hok) (by rw [byB_len]; omega)
  obtain ⟨b, hbj⟩ : ∃ b, ch[j]? = some b := ⟨_, List.getElem?_eq_getElem (by omega)⟩
  have hpl := packR_len (L := L) (dcR_rcf L (byB (bs.drop (k * szR L))))
  obtain ⟨c, hcj⟩ : ∃ c, (packR L (recAt L bs k))[j]? = some c := ⟨_, List.getElem?_eq_getElem (by show j < (packR L (recAt L bs k)).length; unfold recAt; omega)⟩
  have hrel := byte_relR hcb (by rw [hcl]; omega) (by rw [hcl]; omega) hl hbj hcj
  have e8 : 8 - min 8 (tot (wR L) - 8 * j) = rrR L i := by
    rw [hrr]
    split <;> omega
  rw [e8] at hrel
  refine ⟨b, hcb b (List.mem_of_getElem? hbj), ?_, ?_⟩
  · rw [hch, List.getElem?_take, if_pos hj, List.getElem?_drop] at hbj
    rw [hij]; exact hbj
  · have := bytesR_at (L := L) (rs := recsB L bs (bs.length / szR L)) recsB_rcf (recsB_at hkn) hj
    rw [← hij, hcj, hrel] at this
    exact this
theorem keep_u8 : ∀ (b : Fin 256) (r : Fin 8), b.1 &&& (256 - 2 ^ r.1) = b.1 / 2 ^ r.1 * 2 ^ r.1 := by decide +kernel
theorem shl_255 : ∀ r : Fin 8, IntKind.u8.wrap (255 * 2 ^ (min ((r.1 : Nat) : Int).toNat IntKind.u8.bits)) = ((256 - 2 ^ r.1 : Nat) : Int) := by decide +kernel
set_option maxHeartbeats 4000000 in
theorem law_recordsAgain (w0 : Base) (η : Heap) (hG : Sets w0) (L : Lay) (bv : Value) (bs : List Nat) (hs : SlA (St w0 η) bv 1 bs.length (byV bs)) (hb : ∀ c ∈ bs, c < 256) (hl : bs.length ≤ 140737488355328) :
    CallsT Tryd.prog 6 [L.val, bv] (St w0 η) fun v A' => v = .bool true ∧ A' = St w0 η := by
  have hs0 := hs
  obtain ⟨hxl, ad, cap, bb, bo, rfl, hcap, had, hrd⟩ := hs.some
  have hs : ∀ X : Heap, SlA (St w0 (X ++ η)) (.slice ad bs.length cap) 1 bs.length (byV bs) := fun X => hs0.mono fun _ h => h.app_right
  refine CallsT.body Tryd.func6 rfl rfl ?_
  simp only [Tryd.ntmps6, slotsOf, Nat.reduceAdd]
  refine TC_seq ?_
  refine TC_reg ?_
  refine TL_e rfl rfl rfl (rfl) (ET_box rfl rfl) ?_
  rintro _ _ ⟨b2, rfl, rfl⟩
  refine TL_q rfl rfl (QT_assign rfl rfl rfl) ?_
  refine TL_nil ?_
  refine TX_then ?_
  refine TC_seq ?_
  refine TC_seq ?_
  refine TC_reg ?_
  refine TL_q rfl rfl (QT_move rfl rfl rfl) ?_
  refine TL_q rfl rfl (QT_len rfl rfl Tryd.underlying28 rfl) ?_
  refine TL_q rfl rfl (QT_gtr rfl rfl rfl rfl) ?_
  refine TL_nil ?_
  refine TX_then ?_
  first
    | refine TC_cond_dec rfl (fun h19 => ?_) (fun h19 => ?_)
    | refine TC_cond rfl (fun h19 => ?_) (fun h19 => ?_)
  ·
    refine TC_seq ?_
    refine TC_reg ?_
    refine TL_cq rfl rfl rfl rfl YtjehicncbpljaaaDoorF.cal_9 rfl (fun _ => lives09 w0 _ hG) ?_
    refine TL_q rfl rfl (QT_assign rfl rfl rfl) ?_
    refine TL_nil ?_
    refine TX_then ?_
    refine TC_ret ?_
    refine TX_then_ret ?_
    exact TX_ret (.inl rfl) (res1 rfl rfl) ⟨_, ⟨rfl, rfl⟩, (fun _ h => by first | exact h | exact h.tail | exact h.tail.tail | exact h.tail.tail.tail | exact h.tail.tail.tail.tail | exact h.tail.tail.tail.tail.tail | exact h.tail.tail.tail.tail.tail.tail | exact h.tail.tail.tail.tail.tail.tail.tail | exact h.tail.tail.tail.tail.tail.tail.tail.tail | exact h.tail.tail.tail.tail.tail.tail.tail.tail.tail | exact h.tail.tail.tail.tail.tail.tail.tail.tail.tail.tail | exact h.tail.tail.tail.tail.tail.tail.tail.tail.tail.tail.tail | exact h.tail.tail.tail.tail.tail.tail.tail.tail.tail.tail.tail.tail | exact h.tail.tail.tail.tail.tail.tail.tail.tail.tail.tail.tail.tail.tail)⟩
  ·
    refine TC_skip ?_
    refine TX_then ?_
    refine TC_seq ?_
    have hn : bs.length ≤ 5000 := by omega
    refine TC_A (St w0 ((b2, 27, L.cells) :: η)) (fun _ h => h) ?_
    refine TC_reg ?_
    first
      | refine TL_q rfl rfl (QT_loadW 0 rfl rfl Tryd.underlying27 rfl rfl rfl YtjehicncbpljaaaDoorF.sz_27) ?_
      | refine TL_q rfl rfl (QT_loadW 1 rfl rfl Tryd.underlying27 rfl rfl rfl YtjehicncbpljaaaDoorF.sz_27) ?_
      | refine TL_q rfl rfl (QT_loadW 2 rfl rfl Tryd.underlying27 rfl rfl rfl YtjehicncbpljaaaDoorF.sz_27) ?_
      | refine TL_q rfl rfl (QT_loadA 0 rfl rfl Tryd.underlying27 rfl rfl rfl YtjehicncbpljaaaDoorF.sz_27 (fun _ => rfl)) ?_
      | refine TL_q rfl rfl (QT_loadA 1 rfl rfl Tryd.underlying27 rfl rfl rfl YtjehicncbpljaaaDoorF.sz_27 (fun _ => rfl)) ?_
      | refine TL_q rfl rfl (QT_loadA 2 rfl rfl Tryd.underlying27 rfl rfl rfl YtjehicncbpljaaaDoorF.sz_27 (fun _ => rfl)) ?_
    refine TL_q rfl rfl (QT_move rfl rfl rfl) ?_
    refine TL_e rfl rfl rfl (rfl) (ET_call rfl YtjehicncbpljaaaDoorF.cal_11 rfl (rget0_spec w0 _ hG L _ bs (hs [_]) hb (by omega))) ?_
    rintro _ _ ⟨sv, H1, rfl, hF1, rfl⟩
    refine TL_q rfl rfl (QT_move rfl rfl rfl) ?_
    refine TL_q rfl rfl (QT_extract rfl rfl rfl rfl) ?_
    refine TL_q rfl rfl (QT_extract rfl rfl rfl rfl) ?_
    refine TL_q rfl rfl (QT_assign rfl rfl rfl) ?_
    refine TL_q rfl rfl (QT_assign rfl rfl rfl) ?_
    refine TL_nil ?_
    refine TX_then ?_
    refine TC_seq ?_
    refine TC_seq ?_
    refine TC_reg ?_
    refine TL_q rfl rfl (QT_move rfl rfl rfl) ?_
    refine TL_q rfl rfl (QT_neq rfl rfl rfl rfl) ?_
    refine TL_nil ?_
    refine TX_then ?_
    first
      | refine TC_cond_dec rfl (fun h28 => ?_) (fun h28 => ?_)
      | refine TC_cond rfl (fun h28 => ?_) (fun h28 => ?_)
    ·
      have ho : outRG L bs = [] := errRG_bad h28
      rw [ho] at hF1
      obtain ⟨sad, scap, rfl, _, _⟩ := hF1.slice
      refine TC_seq ?_
      refine TC_reg ?_
      refine TL_q rfl rfl (QT_move rfl rfl rfl) ?_
      refine TL_q rfl rfl (QT_len rfl rfl Tryd.underlying31 rfl) ?_
      refine TL_q rfl rfl (QT_eql rfl rfl rfl rfl) ?_
      refine TL_q rfl rfl (QT_move rfl rfl rfl) ?_
      refine TL_cq rfl rfl rfl rfl YtjehicncbpljaaaDoorF.cal_9 rfl (fun _ => lives09 w0 _ hG) ?_
      refine TL_q rfl rfl (QT_and rfl rfl rfl rfl) ?_
      refine TL_q rfl rfl (QT_assign rfl rfl rfl) ?_
      refine TL_nil ?_
      refine TX_then ?_
      refine TC_ret ?_
      refine TX_then_ret ?_
      exact TX_ret (.inl rfl) (res1 rfl rfl) ⟨_, ⟨congrArg Value.bool (show (_ : Bool) = true by rfl), rfl⟩, fun w h => h.app_right.tail⟩
    ·
      refine TC_skip ?_
      refine TX_then ?_
      refine TC_seq ?_
      have e0 := Classical.not_not.1 h28
      obtain ⟨hc, _, hmod, ho⟩ := errRG_zero e0
      have hszb := szR_bd hc.1
      have hsz := sizeR_eq hc.1 (ty45 hc) 0
      have hszL := fun A => size_spec w0 A hG L 0 (by decide)
      rw [hsz] at hszL
      have hrel := fun {i : Nat} (hi : i < bs.length) => again_rel hc.1 hb hmod hi
      have hsh : ∀ r ∈ recsB L bs (bs.length / szR L), RcF r := recsB_rcf
      have hfit : (recsB L bs (bs.length / szR L)).all (fitR L) = true := recsB_fit
      have hol := recsB_len L bs (bs.length / szR L)
      have hlen : (bytesR L (recsB L bs (bs.length / szR L))).length = bs.length := by rw [bytesR_len hsh, hol, Nat.div_mul_cancel (Nat.dvd_of_mod_eq_zero hmod)]
      have hdl : bs.length / szR L ≤ bs.length := Nat.div_le_self _ _
      rw [ho] at hF1
      generalize recsB L bs (bs.length / szR L) = ys at *
      obtain ⟨p1, p2⟩ := put_okR hc hfit (by omega)
      obtain ⟨g1, g2⟩ := get_okR hc hsh hfit (by omega)
      have hbl := bytesR_lt L ys
      have hT := tot_wR hc.1
      have hflN := (flN_bd hc.1)
      have hT1 : tot (wR L) ≤ 8 * szR L := by unfold szR; omega
      have hT2 : 8 * szR L < tot (wR L) + 8 := by unfold szR; omega
      have hbd := okB_bounds hc.1
      have hmc : L.cs * L.cm = ((L.cs.toNat * L.cm.toNat : Nat) : Int) := by rw [Int.natCast_mul]; congr 1 <;> omega
      have hmb := mul_bd (a := L.cs) (b := L.cm) (by omega) (by omega) (by omega) (by omega)
      refine TC_A (St w0 ((b2, 27, L.cells) :: (H1 ++ η))) (fun w h => h.cnt fun p => by simp only [List.countP_append, List.countP_cons, List.countP_nil]; omega) ?_
      refine TC_reg ?_
      first
        | refine TL_q rfl rfl (QT_loadW 0 rfl rfl Tryd.underlying27 rfl rfl rfl YtjehicncbpljaaaDoorF.sz_27) ?_
        | refine TL_q rfl rfl (QT_loadW 1 rfl rfl Tryd.underlying27 rfl rfl rfl YtjehicncbpljaaaDoorF.sz_27) ?_
        | refine TL_q rfl rfl (QT_loadW 2 rfl rfl Tryd.underlying27 rfl rfl rfl YtjehicncbpljaaaDoorF.sz_27) ?_
        | refine TL_q rfl rfl (QT_loadA 0 rfl rfl Tryd.underlying27 rfl rfl rfl YtjehicncbpljaaaDoorF.sz_27 (fun _ => rfl)) ?_
        | refine TL_q rfl rfl (QT_loadA 1 rfl rfl Tryd.underlying27 rfl rfl rfl YtjehicncbpljaaaDoorF.sz_27 (fun _ => rfl)) ?_
        | refine TL_q rfl rfl (QT_loadA 2 rfl rfl Tryd.underlying27 rfl rfl rfl YtjehicncbpljaaaDoorF.sz_27 (fun _ => rfl)) ?_
      refine TL_q rfl rfl (QT_move rfl rfl rfl) ?_
      refine TL_e rfl rfl rfl (rfl) (ET_call rfl YtjehicncbpljaaaDoorF.cal_19 rfl (rput0_spec w0 _ hG L _ ys (hF1.within fun p => by simp only [List.countP_append, List.countP_cons]; omega) hsh (by omega))) ?_
      rintro _ _ ⟨cv, H2, rfl, hF2, rfl⟩
      refine TL_q rfl rfl (QT_move rfl rfl rfl) ?_
      refine TL_q rfl rfl (QT_extract rfl rfl rfl rfl) ?_
      refine TL_q rfl rfl (QT_extract rfl rfl rfl rfl) ?_
      refine TL_q rfl rfl (QT_assign rfl rfl rfl) ?_
      refine TL_q rfl rfl (QT_assign rfl rfl rfl) ?_
      refine TL_nil ?_
      refine TX_then ?_
      refine TC_seq ?_
      rw [p2] at hF2
      simp only [p1, e0]
      refine TC_A (St w0 ((b2, 27, L.cells) :: (H1 ++ (H2 ++ η)))) (fun w h => h.cnt fun p => by simp only [List.countP_append, List.countP_cons, List.countP_nil]; omega) ?_
      refine TC_reg ?_
      first
        | refine TL_q rfl rfl (QT_loadW 0 rfl rfl Tryd.underlying27 rfl rfl rfl YtjehicncbpljaaaDoorF.sz_27) ?_
        | refine TL_q rfl rfl (QT_loadW 1 rfl rfl Tryd.underlying27 rfl rfl rfl YtjehicncbpljaaaDoorF.sz_27) ?_
        | refine TL_q rfl rfl (QT_loadW 2 rfl rfl Tryd.underlying27 rfl rfl rfl YtjehicncbpljaaaDoorF.sz_27) ?_
        | refine TL_q rfl rfl (QT_loadA 0 rfl rfl Tryd.underlying27 rfl rfl rfl YtjehicncbpljaaaDoorF.sz_27 (fun _ => rfl)) ?_
        | refine TL_q rfl rfl (QT_loadA 1 rfl rfl Tryd.underlying27 rfl rfl rfl YtjehicncbpljaaaDoorF.sz_27 (fun _ => rfl)) ?_
        | refine TL_q rfl rfl (QT_loadA 2 rfl rfl Tryd.underlying27 rfl rfl rfl YtjehicncbpljaaaDoorF.sz_27 (fun _ => rfl)) ?_
      refine TL_q rfl rfl (QT_move rfl rfl rfl) ?_
      refine TL_e rfl rfl rfl (rfl) (ET_call rfl YtjehicncbpljaaaDoorF.cal_11 rfl (rget0_spec w0 _ hG L _ (bytesR L ys) (hF2.within fun p => by simp only [List.countP_append, List.countP_cons]; omega) hbl (by omega))) ?_
      rintro _ _ ⟨nv, H3, rfl, hF3, rfl⟩
      refine TL_q rfl rfl (QT_move rfl rfl rfl) ?_
      refine TL_q rfl rfl (QT_extract rfl rfl rfl rfl) ?_
      refine TL_q rfl rfl (QT_extract rfl rfl rfl rfl) ?_
      refine TL_q rfl rfl (QT_assign rfl rfl rfl) ?_
      refine TL_q rfl rfl (QT_assign rfl rfl rfl) ?_
      refine TL_nil ?_
      refine TX_then ?_
      refine TC_seq ?_
      rw [g2] at hF3
      simp only [g1]
      refine TC_A (St w0 ((b2, 27, L.cells) :: (H1 ++ (H2 ++ (H3 ++ η))))) (fun w h => h.cnt fun p => by simp only [List.countP_append, List.countP_cons, List.countP_nil]; omega) ?_
      refine TC_reg ?_
      first
        | refine TL_q rfl rfl (QT_loadW 0 rfl rfl Tryd.underlying27 rfl rfl rfl YtjehicncbpljaaaDoorF.sz_27) ?_
        | refine TL_q rfl rfl (QT_loadW 1 rfl rfl Tryd.underlying27 rfl rfl rfl YtjehicncbpljaaaDoorF.sz_27) ?_
        | refine TL_q rfl rfl (QT_loadW 2 rfl rfl Tryd.underlying27 rfl rfl rfl YtjehicncbpljaaaDoorF.sz_27) ?_
        | refine TL_q rfl rfl (QT_loadA 0 rfl rfl Tryd.underlying27 rfl rfl rfl YtjehicncbpljaaaDoorF.sz_27 (fun _ => rfl)) ?_
        | refine TL_q rfl rfl (QT_loadA 1 rfl rfl Tryd.underlying27 rfl rfl rfl YtjehicncbpljaaaDoorF.sz_27 (fun _ => rfl)) ?_
        | refine TL_q rfl rfl (QT_loadA 2 rfl rfl Tryd.underlying27 rfl rfl rfl YtjehicncbpljaaaDoorF.sz_27 (fun _ => rfl)) ?_
      refine TL_q rfl rfl (QT_move rfl rfl rfl) ?_
      refine TL_e rfl rfl rfl (rfl) (ET_call rfl YtjehicncbpljaaaDoorF.cal_19 rfl (rput0_spec w0 _ hG L _ ys (hF3.within fun p => by simp only [List.countP_append, List.countP_cons]; omega) hsh (by omega))) ?_
      rintro _ _ ⟨dv, H4, rfl, hF4, rfl⟩
      refine TL_q rfl rfl (QT_move rfl rfl rfl) ?_
      refine TL_q rfl rfl (QT_extract rfl rfl rfl rfl) ?_
      refine TL_q rfl rfl (QT_extract rfl rfl rfl rfl) ?_
      refine TL_q rfl rfl (QT_assign rfl rfl rfl) ?_
      refine TL_q rfl rfl (QT_assign rfl rfl rfl) ?_
      refine TL_nil ?_
      refine TX_then ?_
      refine TC_seq ?_
      rw [p2] at hF4
      simp only [p1]
      obtain ⟨cad, ccap, rfl, _, _⟩ := hF2.slice
      obtain ⟨sad, scap, rfl, _, _⟩ := hF1.slice
      refine TC_A (St w0 ((b2, 27, L.cells) :: (H1 ++ (H2 ++ (H3 ++ (H4 ++ η)))))) (fun w h => h.cnt fun p => by simp only [List.countP_append, List.countP_cons, List.countP_nil]; omega) ?_
      refine TC_reg ?_
      first
        | refine TL_q rfl rfl (QT_loadW 0 rfl rfl Tryd.underlying27 rfl rfl rfl YtjehicncbpljaaaDoorF.sz_27) ?_
        | refine TL_q rfl rfl (QT_loadW 1 rfl rfl Tryd.underlying27 rfl rfl rfl YtjehicncbpljaaaDoorF.sz_27) ?_
        | refine TL_q rfl rfl (QT_loadW 2 rfl rfl Tryd.underlying27 rfl rfl rfl YtjehicncbpljaaaDoorF.sz_27) ?_
        | refine TL_q rfl rfl (QT_loadA 0 rfl rfl Tryd.underlying27 rfl rfl rfl YtjehicncbpljaaaDoorF.sz_27 (fun _ => rfl)) ?_
        | refine TL_q rfl rfl (QT_loadA 1 rfl rfl Tryd.underlying27 rfl rfl rfl YtjehicncbpljaaaDoorF.sz_27 (fun _ => rfl)) ?_
        | refine TL_q rfl rfl (QT_loadA 2 rfl rfl Tryd.underlying27 rfl rfl rfl YtjehicncbpljaaaDoorF.sz_27 (fun _ => rfl)) ?_
      refine TL_cq rfl rfl rfl rfl YtjehicncbpljaaaDoorF.cal_25 rfl (fun _ => hszL _) ?_
      refine TL_q rfl rfl (QT_assign rfl rfl rfl) ?_
      refine TL_nil ?_
      refine TX_then ?_
      refine TC_seq ?_
      refine TC_seq ?_
      refine TC_reg ?_
      refine TL_q rfl rfl (QT_move rfl rfl rfl) ?_
      refine TL_q rfl rfl (QT_neq rfl rfl rfl rfl) ?_
      refine TL_q rfl rfl (QT_move rfl rfl rfl) ?_
      refine TL_q rfl rfl (QT_move rfl rfl rfl) ?_
      refine TL_q rfl rfl (QT_neq rfl rfl rfl rfl) ?_
      refine TL_q rfl rfl (QT_or rfl rfl rfl rfl) ?_
      refine TL_q rfl rfl (QT_move rfl rfl rfl) ?_
      refine TL_q rfl rfl (QT_move rfl rfl rfl) ?_
      refine TL_q rfl rfl (QT_neq rfl rfl rfl rfl) ?_
      refine TL_q rfl rfl (QT_or rfl rfl rfl rfl) ?_
      refine TL_q rfl rfl (QT_move rfl rfl rfl) ?_
      refine TL_q rfl rfl (QT_move rfl rfl rfl) ?_
      refine TL_q rfl rfl (QT_len rfl rfl Tryd.underlying28 rfl) ?_
      refine TL_q rfl rfl (QT_move rfl rfl rfl) ?_
      refine TL_q rfl rfl (QT_len rfl rfl Tryd.underlying28 rfl) ?_
      refine TL_q rfl rfl (QT_neq rfl rfl rfl rfl) ?_
      refine TL_q rfl rfl (QT_or rfl rfl rfl rfl) ?_
      refine TL_q rfl rfl (QT_move rfl rfl rfl) ?_
      refine TL_q rfl rfl (QT_move rfl rfl rfl) ?_
      refine TL_q rfl rfl (QT_move rfl rfl rfl) ?_
      refine TL_cq rfl rfl rfl rfl YtjehicncbpljaaaDoorF.cal_15 rfl (fun _ => sameOk_RecsR w0 _ _ _ ys.length (flatR ys) (hF1.within fun p => by simp only [List.countP_append, List.countP_cons]; omega) (hF3.within fun p => by simp only [List.countP_append, List.countP_cons]; omega) (flatR_ints hsh)) ?_
      refine TL_q rfl rfl (QT_not rfl rfl rfl) ?_
      refine TL_q rfl rfl (QT_or rfl rfl rfl rfl) ?_
      refine TL_q rfl rfl (QT_move rfl rfl rfl) ?_
      refine TL_q rfl rfl (QT_move rfl rfl rfl) ?_
      refine TL_q rfl rfl (QT_move rfl rfl rfl) ?_
      refine TL_cq rfl rfl rfl rfl YtjehicncbpljaaaDoorF.cal_21 rfl (fun _ => sameOk_Bytes w0 _ _ _ (bytesR L ys).length (byV (bytesR L ys)) (hF2.within fun p => by simp only [List.countP_append, List.countP_cons]; omega) (hF4.within fun p => by simp only [List.countP_append, List.countP_cons]; omega) (byV_ints hbl)) ?_
      refine TL_q rfl rfl (QT_not rfl rfl rfl) ?_
      refine TL_q rfl rfl (QT_or rfl rfl rfl rfl) ?_
      refine TL_q rfl rfl (QT_move rfl rfl rfl) ?_
      refine TL_q rfl rfl (QT_move rfl rfl rfl) ?_
      refine TL_q rfl rfl (QT_lss rfl rfl rfl rfl) ?_
      refine TL_q rfl rfl (QT_or rfl rfl rfl rfl) ?_
      refine TL_nil ?_
      refine TX_then ?_
      refine TC_cond rfl (fun h => absurd (h.symm.trans ((show (_ : Bool) = false by
       have h1 : ¬ ((szR L : Int) < 1) := by omega
       simp [hlen, h1]))) (by decide)) (fun _ => ?_)
      refine TC_skip ?_
      refine TX_then ?_
      refine TC_seq ?_
      refine TC_A (St w0 ((b2, 27, L.cells) :: (H2 ++ η))) (fun w h => h.cnt fun p => by simp only [List.countP_append, List.countP_cons, List.countP_nil]; omega) ?_
      obtain ⟨_, cad2, ccap2, cb, co, hce, _, hcad, hcrd⟩ := (hF2.sla (w0 := w0) (η := [])).some
      obtain ⟨rfl, _, rfl⟩ := Value.slice.inj hce
      have hCr : Rd (St w0 ((b2, 27, L.cells) :: (H2 ++ η))) cb co (byV (bytesR L ys)) := hcrd.mono (fun w h => h.cnt fun p => by simp only [List.countP_append, List.countP_cons, List.countP_nil]; omega)
      have hBr : Rd (St w0 ((b2, 27, L.cells) :: (H2 ++ η))) bb bo (byV bs) := hrd.mono fun w h => h.tail.app_right
      clear hcrd hF3 hF4 hrd
      refine TC_reg ?_
      refine TL_q rfl rfl (QT_field rfl rfl YtjehicncbpljaaaDoorF.fld_27_1 rfl) ?_
      refine TL_q rfl rfl (QT_load (v := .int .i64 L.co) 0 rfl rfl Tryd.underlying3 rfl rfl rfl (fun _ => rfl)) ?_
      refine TL_q rfl rfl (QT_mul rfl rfl rfl rfl (fun _ => ⟨by omega, by omega⟩)) ?_
      refine TL_q rfl rfl (QT_field rfl rfl YtjehicncbpljaaaDoorF.fld_27_4 rfl) ?_
      refine TL_q rfl rfl (QT_load (v := .int .i64 L.cs) 0 rfl rfl Tryd.underlying3 rfl rfl rfl (fun _ => rfl)) ?_
      refine TL_q rfl rfl (QT_field rfl rfl YtjehicncbpljaaaDoorF.fld_27_2 rfl) ?_
      refine TL_q rfl rfl (QT_load (v := .int .i64 L.cm) 0 rfl rfl Tryd.underlying3 rfl rfl rfl (fun _ => rfl)) ?_
      refine TL_q rfl rfl (QT_mul rfl rfl rfl rfl (fun _ => ⟨by omega, by omega⟩)) ?_
      refine TL_q rfl rfl (QT_add rfl rfl rfl rfl (fun _ => ⟨by omega, by omega⟩)) ?_
      refine TL_q rfl rfl (QT_assign rfl rfl rfl) ?_
      refine TL_nil ?_
      refine TX_then ?_
      refine TC_cut (γ := Unit) (fun _ => [(1, true, .slice ad bs.length cap), (2, true, .pointer (some ⟨b2, 0, none⟩)), (7, true, .slice cad (bytesR L ys).length ccap), (13, true, .int .i64 (szR L : Int)), (14, true, .int .i64 (tot (wR L) : Int))]) (fun _ => St w0 ((b2, 27, L.cells) :: (H2 ++ η))) ?_ ?_
      ·
        refine TC_seq ?_
        refine TC_reg ?_
        refine TL_q rfl rfl (QT_field rfl rfl YtjehicncbpljaaaDoorF.fld_27_0 rfl) ?_
        refine TL_q rfl rfl (QT_load (v := .int .i64 L.ty) 0 rfl rfl Tryd.underlying3 rfl rfl rfl (fun _ => rfl)) ?_
        refine TL_q rfl rfl (QT_eql rfl rfl rfl rfl) ?_
        refine TL_nil ?_
        refine TX_then ?_
        first
          | refine TC_cond_dec rfl (fun h99 => ?_) (fun h99 => ?_)
          | refine TC_cond rfl (fun h99 => ?_) (fun h99 => ?_)
        ·
          refine TC_reg ?_
          refine TL_q rfl rfl (QT_move rfl rfl rfl) ?_
          refine TL_q rfl rfl (QT_field rfl rfl YtjehicncbpljaaaDoorF.fld_27_3 rfl) ?_
          refine TL_q rfl rfl (QT_load (v := .int .i64 L.fl) 0 rfl rfl Tryd.underlying3 rfl rfl rfl (fun _ => rfl)) ?_
          refine TL_q rfl rfl (QT_add rfl rfl rfl rfl (fun _ => ⟨by omega, by omega⟩)) ?_
          refine TL_q rfl rfl (QT_assign rfl rfl rfl) ?_
          refine TL_nil ?_
          exact TX_cut () ⟨rfl, rfl, rfl, rfl, slotI rfl (by
            have hz : flN L = L.fl.toNat := by unfold flN flb; rw [if_neg (by omega)]
            have := hbd.2.2.2.2.2 (by omega)
            show 2 * L.co + L.cs * L.cm + L.fl = _
            rw [hmc, hT, hz]
            omega), trivial⟩ (fun _ h => h)
        ·
          refine TC_skip ?_
          exact TX_cut () ⟨rfl, rfl, rfl, rfl, slotI rfl (by
            have hty := ty45 hc
            have hz : flN L = 0 := by unfold flN flb; rw [if_pos (by omega)]; rfl
            show 2 * L.co + L.cs * L.cm = _
            rw [hmc, hT, hz]
            omega), trivial⟩ (fun _ h => h)
      rintro ⟨⟩
      refine TC_seq ?_
      refine TC_seq ?_
      refine TC_reg ?_
      refine TL_q rfl rfl (QT_assign rfl rfl rfl) ?_
      refine TL_nil ?_
      refine TX_then ?_
      refine TC_block ?_
      refine TC_loop (γ := { i : Nat // i ≤ bs.length }) (fun u => [(1, true, .slice ad bs.length cap), (2, true, .pointer (some ⟨b2, 0, none⟩)), (7, true, .slice cad (bytesR L ys).length ccap), (13, true, .int .i64 (szR L : Int)), (14, true, .int .i64 (tot (wR L) : Int)), (15, true, .int .i64 (u.1 : Int))]) (fun _ => St w0 ((b2, 27, L.cells) :: (H2 ++ η))) (fun u => bs.length - u.1) ⟨0, Nat.zero_le _⟩ ⟨rfl, rfl, rfl, rfl, rfl, rfl, trivial⟩ (fun _ h => h) ?_
      rintro ⟨i, hi⟩
      dsimp only
      refine TC_seq ?_
      refine TC_seq ?_
      refine TC_reg ?_
      refine TL_q rfl rfl (QT_move rfl rfl rfl) ?_
      refine TL_q rfl rfl (QT_move rfl rfl rfl) ?_
      refine TL_q rfl rfl (QT_len rfl rfl Tryd.underlying28 rfl) ?_
      refine TL_q rfl rfl (QT_lss rfl rfl rfl rfl) ?_
      refine TL_nil ?_
      refine TX_then ?_
      first
        | refine TC_cond_dec rfl (fun h107 => ?_) (fun h107 => ?_)
        | refine TC_cond rfl (fun h107 => ?_) (fun h107 => ?_)
      ·
        have hi' : i < bs.length := by omega
        obtain ⟨b, hb256, hbi, hci⟩ := hrel hi'
        have hr8 : rrR L i ≤ 7 := by unfold rrR; split <;> omega
        have hk := keep_u8 ⟨b, hb256⟩ ⟨rrR L i, by omega⟩
        dsimp only at hk
        have hp2 : 0 < 2 ^ rrR L i := Nat.two_pow_pos _
        rw [← hk] at hci
        have hc256 := hbl _ (List.mem_of_getElem? hci)
        refine TC_skip ?_
        refine TX_then ?_
        refine TC_seq ?_
        refine TC_block ?_
        refine TC_seq ?_
        refine TC_reg ?_
        refine TL_q rfl rfl (QT_assign rfl rfl rfl) ?_
        refine TL_nil ?_
        refine TX_then ?_
        refine TC_cut (γ := Unit) (fun _ => [(1, true, .slice ad bs.length cap), (2, true, .pointer (some ⟨b2, 0, none⟩)), (7, true, .slice cad (bytesR L ys).length ccap), (13, true, .int .i64 (szR L : Int)), (14, true, .int .i64 (tot (wR L) : Int)), (15, true, .int .i64 (i : Int)), (16, true, .int .u8 ((256 - 2 ^ rrR L i : Nat) : Int))]) (fun _ => St w0 ((b2, 27, L.cells) :: (H2 ++ η))) ?_ ?_
        ·
          refine TC_seq ?_
          refine TC_reg ?_
          refine TL_q rfl rfl (QT_move rfl rfl rfl) ?_
          refine TL_q rfl rfl (QT_move rfl rfl rfl) ?_
          refine TL_q rfl rfl (QT_rem rfl rfl rfl rfl (fun _ => ⟨by omega, by omega⟩)) ?_
          refine TL_q rfl rfl (QT_move rfl rfl rfl) ?_
          refine TL_q rfl rfl (QT_sub rfl rfl rfl rfl (fun _ => ⟨by omega, by omega⟩)) ?_
          refine TL_q rfl rfl (QT_eql rfl rfl rfl rfl) ?_
          refine TL_nil ?_
          refine TX_then ?_
          first
            | refine TC_cond_dec rfl (fun h115 => ?_) (fun h115 => ?_)
            | refine TC_cond rfl (fun h115 => ?_) (fun h115 => ?_)
          ·
            refine TC_reg ?_
            refine TL_q rfl rfl (QT_move rfl rfl rfl) ?_
            refine TL_q rfl rfl (QT_mul rfl rfl rfl rfl (fun _ => ⟨by omega, by omega⟩)) ?_
            refine TL_q rfl rfl (QT_move rfl rfl rfl) ?_
            refine TL_q rfl rfl (QT_to (QT_sub rfl rfl rfl rfl (fun _ => ⟨by omega, by omega⟩)) (show 8 * (szR L : Int) - (tot (wR L) : Int) = ((8 * szR L - tot (wR L) : Nat) : Int) by omega)) ?_
            refine TL_q rfl rfl (QT_to (QT_shl rfl rfl rfl rfl (fun _ => by omega)) (shl_255 ⟨8 * szR L - tot (wR L), by omega⟩)) ?_
            refine TL_q rfl rfl (QT_assign rfl rfl rfl) ?_
            refine TL_nil ?_
            have hrr : rrR L i = 8 * szR L - tot (wR L) := by
              unfold rrR
              rw [if_pos]
              have h1 : (i : Int) % (szR L : Int) = ((i % szR L : Nat) : Int) := rfl
              rw [h1] at h115
              omega
            exact TX_cut () ⟨rfl, rfl, rfl, rfl, rfl, rfl, slotI rfl (by rw [hrr]), trivial⟩ (fun _ h => h)
          ·
            refine TC_skip ?_
            have hrr : rrR L i = 0 := by
              unfold rrR
              rw [if_neg]
              intro hx
              apply h115
              have h1 : (i : Int) % (szR L : Int) = ((i % szR L : Nat) : Int) := rfl
              rw [h1]
              omega
            exact TX_cut () ⟨rfl, rfl, rfl, rfl, rfl, rfl, slotI rfl (by rw [hrr]; rfl), trivial⟩ (fun _ h => h)
        rintro ⟨⟩
        refine TC_seq ?_
        refine TC_draw [(0, 0), (1, 0), (2, 0), (3, 0), (4, 0), (5, 0), (6, 0), (7, 0), (8, 0), (9, 0), (10, 0)] YtjehicncbpljaaaDoorF.mixed (by kernel_rfl) (St.calm _ _) ?_
        refine TV_q rfl rfl rfl (fun _ => QT_move rfl rfl rfl) ?_
        refine TV_q rfl rfl rfl (fun _ => QT_move rfl rfl rfl) ?_
        refine TV_q rfl rfl rfl (fun _ => QT_indexG i rfl rfl Tryd.underlying28 YtjehicncbpljaaaDoorF.sz_5 rfl rfl rfl (fun _ => by omega) (fun _ => hcad (by omega))) ?_
        refine TV_ql rfl rfl rfl (QT_loadRj (v := .int .u8 ((b &&& (256 - 2 ^ rrR L i) : Nat) : Int)) i rfl rfl Tryd.underlying5 rfl hCr rfl (fun _ => byV_at hci)) ?_
        refine TV_q rfl rfl rfl (fun _ => QT_move rfl rfl rfl) ?_
        refine TV_q rfl rfl rfl (fun _ => QT_move rfl rfl rfl) ?_
        refine TV_q rfl rfl rfl (fun _ => QT_indexG i rfl rfl Tryd.underlying28 YtjehicncbpljaaaDoorF.sz_5 rfl rfl rfl (fun _ => by omega) (fun _ => had (by omega))) ?_
        refine TV_ql rfl rfl rfl (QT_loadRj (v := .int .u8 (b : Int)) i rfl rfl Tryd.underlying5 rfl hBr rfl (fun _ => byV_at hbi)) ?_
        refine TV_q rfl rfl rfl (fun _ => QT_move rfl rfl rfl) ?_
        refine TV_q rfl rfl rfl (fun _ => QT_to (QT_bits rfl rfl (by decide) rfl rfl) (and_u8 hb256 (by omega))) ?_
        refine TV_q rfl rfl rfl (fun _ => QT_neq rfl rfl rfl rfl) ?_
        refine TV_end ?_
        refine TX_then ?_
        refine TC_cond rfl (fun h => absurd (h.symm.trans ((show (_ : Bool) = false by simp))) (by decide)) (fun _ => ?_)
        refine TC_skip ?_
        refine TX_block_normal ?_
        refine TX_then ?_
        refine TC_reg ?_
        refine TL_q rfl rfl (QT_move rfl rfl rfl) ?_
        refine TL_q rfl rfl (QT_add rfl rfl rfl rfl (fun _ => ⟨by omega, by omega⟩)) ?_
        refine TL_q rfl rfl (QT_assign rfl rfl rfl) ?_
        refine TL_nil ?_
        exact TX_round ⟨i + 1, hi'⟩ (by show bs.length - (i + 1) < bs.length - i; omega) ⟨rfl, rfl, rfl, rfl, rfl, rfl, trivial⟩ (fun _ h => h)
      ·
        refine TC_exit ?_
        refine TX_then_exit ?_
        refine TX_then_exit ?_
        refine TX_block_here ?_
        refine TX_then ?_
        refine TC_seq ?_
        refine TC_reg ?_
        refine TL_cq rfl rfl rfl rfl YtjehicncbpljaaaDoorF.cal_9 rfl (fun _ => lives09 w0 _ hG) ?_
        refine TL_q rfl rfl (QT_assign rfl rfl rfl) ?_
        refine TL_nil ?_
        refine TX_then ?_
        refine TC_ret ?_
        exact TX_ret (.inl rfl) (res1 rfl rfl) ⟨_, ⟨rfl, rfl⟩, fun w h => h.tail.app_right⟩
end Go.Proofs.YtjehicncbpljaaaDoor

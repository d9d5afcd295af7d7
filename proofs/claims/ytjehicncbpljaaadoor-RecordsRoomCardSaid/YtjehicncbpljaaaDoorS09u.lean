/- THE LAW: what has room is put, and got as it was; without the last byte it is not. -/
import Derived.Test.YtjehicncbpljaaaDoorS09t
namespace Go.Proofs.YtjehicncbpljaaaDoor
open Go Go.Gx Go.RowKit
set_option maxRecDepth 100000
theorem fitR_len {L : Lay} {rs : List (List Nat)} (hr : ∀ r ∈ rs, RcF r) : (bytesR L rs).length = rs.length * szR L := bytesR_len hr
theorem put_okR {L : Lay} {rs : List (List Nat)} (hc : okB L = true ∧ L.ty ≤ 5) (hf : rs.all (fitR L) = true) (hl : (bytesR L rs).length ≤ 65536) : errRP L rs = 0 ∧ outRP L rs = bytesR L rs := by
  have e : errRP L rs = 0 := by unfold errRP; rw [if_pos hc, if_pos hf, if_neg (by omega)]
  exact ⟨e, by unfold outRP; rw [if_pos e]⟩
theorem byB_packR (L : Lay) (r : List Nat) (t : List Nat) : ∃ q, byB (packR L r ++ t) = encR L r ++ q :=
  ⟨_, by rw [byB_append, packR, byB_packB, List.append_assoc]⟩
theorem dcR_pack {L : Lay} {r : List Nat} (h : RcF r) (hf : fitR L r = true) (t : List Nat) : dcR L (byB (packR L r ++ t)) = r := by
  obtain ⟨q, hq⟩ := byB_packR L r t
  rw [hq]
  exact dec_enc q (h.und L) hf
theorem recs_bytes {L : Lay} : ∀ {rs : List (List Nat)}, (∀ r ∈ rs, RcF r) → rs.all (fitR L) = true → ∀ {k : Nat} {r : List Nat} (t : List Nat), rs[k]? = some r → recAt L (bytesR L rs ++ t) k = r
  | [], _, _, k, r, t, h => by simp at h
  | z :: rs, hr, hf, 0, r, t, h => by
    obtain rfl : z = r := by simpa using h
    have e : bytesR L (z :: rs) = packR L z ++ bytesR L rs := by simp [bytesR]
    rw [List.all_cons, Bool.and_eq_true] at hf
    unfold recAt
    rw [Nat.zero_mul, List.drop_zero, e, List.append_assoc]
    exact dcR_pack (hr z (List.mem_cons_self ..)) hf.1 _
  | z :: rs, hr, hf, k + 1, r, t, h => by
    have e : bytesR L (z :: rs) = packR L z ++ bytesR L rs := by simp [bytesR]
    have hpl := packR_len (L := L) (hr z (List.mem_cons_self ..))
    rw [List.all_cons, Bool.and_eq_true] at hf
    have ih := recs_bytes (rs := rs) (fun w hw => hr w (List.mem_cons_of_mem _ hw)) hf.2 (k := k) (r := r) t (by simpa using h)
    unfold recAt at ih ⊢
    rw [e, List.append_assoc, List.drop_append, List.drop_eq_nil_of_le (by rw [hpl, Nat.add_mul, Nat.one_mul]; omega), hpl, List.nil_append, show (k + 1) * szR L - szR L = k * szR L by rw [Nat.add_mul, Nat.one_mul]; omega]
    exact ih
theorem recsB_bytes {L : Lay} {rs : List (List Nat)} (hr : ∀ r ∈ rs, RcF r) (hf : rs.all (fitR L) = true) (t : List Nat) : recsB L (bytesR L rs ++ t) rs.length = rs := by
  apply List.ext_getElem?
  intro k
  by_cases hk : k < rs.length
  · rw [recsB, List.getElem?_map, List.getElem?_range hk, List.getElem?_eq_getElem hk]
    exact congrArg some (recs_bytes hr hf t (List.getElem?_eq_getElem hk))
  · rw [List.getElem?_eq_none (by rw [recsB_len]; omega), List.getElem?_eq_none (by omega)]
theorem get_okR {L : Lay} {rs : List (List Nat)} (hc : okB L = true ∧ L.ty ≤ 5) (hr : ∀ r ∈ rs, RcF r) (hf : rs.all (fitR L) = true) (hl : (bytesR L rs).length ≤ 65536) : errRG L (bytesR L rs) = 0 ∧ outRG L (bytesR L rs) = rs := by
  have h1 := bytesR_len (L := L) hr
  have h2 := (szR_bd hc.1).1
  have e : errRG L (bytesR L rs) = 0 := by unfold errRG; rw [if_pos hc, if_neg (by omega), if_pos (by rw [h1]; exact Nat.mul_mod_left _ _)]
  refine ⟨e, ?_⟩
  unfold outRG
  rw [if_pos e, h1, Nat.mul_div_cancel _ (by omega)]
  have := recsB_bytes hr hf []
  rwa [List.append_nil] at this
theorem keptR_of {L : Lay} (h : (decide (errOf L ≠ 0) || decide (L.ty > 5)) = false) : okB L = true ∧ L.ty ≤ 5 := by
  simp only [Bool.or_eq_false_iff, decide_eq_false_iff_not] at h
  refine ⟨?_, by omega⟩
  unfold errOf at h
  by_cases h1 : okB L = true
  · exact h1
  · rw [if_neg h1] at h; exact absurd (fun h => absurd h (by decide)) h.1
theorem back_partR {L : Lay} (hc : okB L = true ∧ L.ty ≤ 5) {W : List (List Nat)} (hW : ∀ z ∈ W, RcF z) (h0 : 0 < (bytesR L W).length) (hl : (bytesR L W).length ≤ 65536) :
    (szR L = 1 → errRG L ((bytesR L W).take ((bytesR L W).length - 1)) = 0 ∧ (outRG L ((bytesR L W).take ((bytesR L W).length - 1))).length = W.length - 1) ∧ (1 < szR L → errRG L ((bytesR L W).take ((bytesR L W).length - 1)) = 5) := by
  have h1 := bytesR_len (L := L) hW
  have htl : ((bytesR L W).take ((bytesR L W).length - 1)).length = (bytesR L W).length - 1 := by rw [List.length_take]; omega
  constructor
  · intro hs
    have e : errRG L ((bytesR L W).take ((bytesR L W).length - 1)) = 0 := by unfold errRG; rw [if_pos hc, if_neg (by omega), if_pos (by rw [hs, Nat.mod_one])]
    refine ⟨e, ?_⟩
    unfold outRG
    rw [if_pos e, recsB_len, htl, h1, hs, Nat.div_one, Nat.mul_one]
  · intro hs
    unfold errRG
    rw [if_pos hc, if_neg (by omega), if_neg]
    rw [htl, h1]
    intro hm
    have hn : 0 < W.length := by
      rcases Nat.eq_zero_or_pos W.length with h | h
      · rw [h1, h, Nat.zero_mul] at h0; omega
      · exact h
    obtain ⟨n, hn'⟩ : ∃ n, W.length = n + 1 := ⟨W.length - 1, by omega⟩
    rw [hn', Nat.add_mul, Nat.one_mul, show n * szR L + szR L - 1 = n * szR L + (szR L - 1) by omega, Nat.mul_add_mod_self_right, Nat.mod_eq_of_lt (by omega)] at hm
    omega
theorem byV_takeR (bs : List Nat) (k : Nat) : (byV bs).take (k * 1) = byV (bs.take k) := by rw [Nat.mul_one]; simp [byV, List.map_take]
set_option maxHeartbeats 4000000 in
theorem law_recordsBack (w0 : Base) (η : Heap) (hG : Sets w0) (L : Lay) (sv : Value) (rs : List (List Nat)) (hs : SlA (St w0 η) sv 7 rs.length (flatR rs)) (hr : ∀ r ∈ rs, RcF r) :
    CallsT Tryd.prog 5 [L.val, sv] (St w0 η) fun v A' => v = .bool true ∧ A' = St w0 η := by
  have hs0 := hs
  obtain ⟨hxl, ad, cap, sb, so, rfl, hcap, had, hrd⟩ := hs.some
  refine CallsT.body Tryd.func5 rfl rfl ?_
  simp only [Tryd.ntmps5, slotsOf, Nat.reduceAdd]
  refine TC_seq ?_
  refine TC_reg ?_
  refine TL_e rfl rfl rfl (rfl) (ET_box rfl rfl) ?_
  rintro _ _ ⟨b2, rfl, rfl⟩
  refine TL_q rfl rfl (QT_assign rfl rfl rfl) ?_
  refine TL_nil ?_
  refine TX_then ?_
  refine TC_seq ?_
  refine TC_seq ?_
  refine TC_A (St w0 ((b2, 27, L.cells) :: η)) (fun _ h => h) ?_
  refine TC_reg ?_
  first
    | refine TL_q rfl rfl (QT_loadW 0 rfl rfl Tryd.underlying27 rfl rfl rfl YtjehicncbpljaaaDoorF.sz_27) ?_
    | refine TL_q rfl rfl (QT_loadW 1 rfl rfl Tryd.underlying27 rfl rfl rfl YtjehicncbpljaaaDoorF.sz_27) ?_
    | refine TL_q rfl rfl (QT_loadW 2 rfl rfl Tryd.underlying27 rfl rfl rfl YtjehicncbpljaaaDoorF.sz_27) ?_
    | refine TL_q rfl rfl (QT_loadA 0 rfl rfl Tryd.underlying27 rfl rfl rfl YtjehicncbpljaaaDoorF.sz_27 (fun _ => rfl)) ?_
    | refine TL_q rfl rfl (QT_loadA 1 rfl rfl Tryd.underlying27 rfl rfl rfl YtjehicncbpljaaaDoorF.sz_27 (fun _ => rfl)) ?_
    | refine TL_q rfl rfl (QT_loadA 2 rfl rfl Tryd.underlying27 rfl rfl rfl YtjehicncbpljaaaDoorF.sz_27 (fun _ => rfl)) ?_
  refine TL_cq rfl rfl rfl rfl YtjehicncbpljaaaDoorF.cal_23 rfl (fun _ => check_spec w0 _ hG L) ?_
  refine TL_q rfl rfl (QT_neq rfl rfl rfl rfl) ?_
  refine TL_q rfl rfl (QT_move rfl rfl rfl) ?_
  refine TL_q rfl rfl (QT_field rfl rfl YtjehicncbpljaaaDoorF.fld_27_0 rfl) ?_
  refine TL_q rfl rfl (QT_load (v := .int .i64 L.ty) 0 rfl rfl Tryd.underlying3 rfl rfl rfl (fun _ => rfl)) ?_
  refine TL_q rfl rfl (QT_gtr rfl rfl rfl rfl) ?_
  refine TL_q rfl rfl (QT_or rfl rfl rfl rfl) ?_
  refine TL_q rfl rfl (QT_move rfl rfl rfl) ?_
  refine TL_q rfl rfl (QT_move rfl rfl rfl) ?_
  refine TL_q rfl rfl (QT_len rfl rfl Tryd.underlying31 rfl) ?_
  refine TL_q rfl rfl (QT_gtr rfl rfl rfl rfl) ?_
  refine TL_q rfl rfl (QT_or rfl rfl rfl rfl) ?_
  refine TL_q rfl rfl (QT_move rfl rfl rfl) ?_
  refine TL_q rfl rfl (QT_field rfl rfl YtjehicncbpljaaaDoorF.fld_27_0 rfl) ?_
  refine TL_q rfl rfl (QT_load (v := .int .i64 L.ty) 0 rfl rfl Tryd.underlying3 rfl rfl rfl (fun _ => rfl)) ?_
  refine TL_q rfl rfl (QT_eql rfl rfl rfl rfl) ?_
  refine TL_q rfl rfl (QT_move rfl rfl rfl) ?_
  refine TL_q rfl rfl (QT_field rfl rfl YtjehicncbpljaaaDoorF.fld_27_3 rfl) ?_
  refine TL_q rfl rfl (QT_load (v := .int .i64 L.fl) 0 rfl rfl Tryd.underlying3 rfl rfl rfl (fun _ => rfl)) ?_
  refine TL_q rfl rfl (QT_lss rfl rfl rfl rfl) ?_
  refine TL_q rfl rfl (QT_move rfl rfl rfl) ?_
  refine TL_q rfl rfl (QT_field rfl rfl YtjehicncbpljaaaDoorF.fld_27_3 rfl) ?_
  refine TL_q rfl rfl (QT_load (v := .int .i64 L.fl) 0 rfl rfl Tryd.underlying3 rfl rfl rfl (fun _ => rfl)) ?_
  refine TL_q rfl rfl (QT_gtr rfl rfl rfl rfl) ?_
  refine TL_q rfl rfl (QT_or rfl rfl rfl rfl) ?_
  refine TL_q rfl rfl (QT_and rfl rfl rfl rfl) ?_
  refine TL_q rfl rfl (QT_or rfl rfl rfl rfl) ?_
  refine TL_nil ?_
  refine TX_then ?_
  first
    | refine TC_cond_dec rfl (fun h39 => ?_) (fun h39 => ?_)
    | refine TC_cond rfl (fun h39 => ?_) (fun h39 => ?_)
  ·
    refine TC_seq ?_
    refine TC_reg ?_
    refine TL_cq rfl rfl rfl rfl YtjehicncbpljaaaDoorF.cal_9 rfl (fun _ => lives09 w0 _ hG) ?_
    refine TL_q rfl rfl (QT_assign rfl rfl rfl) ?_
    refine TL_nil ?_
    refine TX_then ?_
    refine TC_ret ?_
    refine TX_then_ret ?_
    exact TX_ret (.inl rfl) (res1 rfl rfl) ⟨_, ⟨rfl, rfl⟩, (fun _ h => by first | exact h | exact h.tail | exact h.tail.tail | exact h.tail.tail.tail | exact h.tail.tail.tail.tail | exact h.tail.tail.tail.tail.tail | exact h.tail.tail.tail.tail.tail.tail | exact h.tail.tail.tail.tail.tail.tail.tail | exact h.tail.tail.tail.tail.tail.tail.tail.tail | exact h.tail.tail.tail.tail.tail.tail.tail.tail.tail | exact h.tail.tail.tail.tail.tail.tail.tail.tail.tail.tail | exact h.tail.tail.tail.tail.tail.tail.tail.tail.tail.tail.tail | exact h.tail.tail.tail.tail.tail.tail.tail.tail.tail.tail.tail.tail | exact h.tail.tail.tail.tail.tail.tail.tail.tail.tail.tail.tail.tail.tail)⟩
  ·
    obtain ⟨hc, hn, hf⟩ : (okB L = true ∧ L.ty ≤ 5) ∧ rs.length ≤ 400 ∧ (0 ≤ L.fl ∧ L.fl ≤ 60) := by
      rw [Bool.or_eq_false_iff, Bool.or_eq_false_iff] at h39
      have hc := keptR_of h39.1.1
      refine ⟨hc, ?_, ?_⟩
      · have := h39.1.2
        simp only [decide_eq_false_iff_not] at this
        omega
      · have h2 := h39.2
        simp only [Bool.and_eq_false_iff, Bool.or_eq_false_iff, decide_eq_false_iff_not] at h2
        rcases h2 with h2 | h2
        · have := (okB_bounds hc.1).2.2.2.2.2 h2; omega
        · omega
    obtain ⟨hWF, hWf⟩ := cutAllR (L := L) hr
    have hszb := szR_bd hc.1
    have hsz := sizeR_eq hc.1 (ty45 hc) 0
    have hszL := fun A => size_spec w0 A hG L 0 (by decide)
    rw [hsz] at hszL
    refine TC_skip ?_
    refine TX_then ?_
    refine TC_seq ?_
    refine TC_reg ?_
    refine TL_q rfl rfl (QT_assign rfl rfl rfl) ?_
    refine TL_nil ?_
    refine TX_then ?_
    refine TC_seq ?_
    refine TC_seq ?_
    refine TC_reg ?_
    refine TL_q rfl rfl (QT_assign rfl rfl rfl) ?_
    refine TL_nil ?_
    refine TX_then ?_
    refine TC_block ?_
    refine TC_loop (γ := { t : Nat × Value × Heap // t.1 ≤ rs.length ∧ Frag 67 7 t.2.1 t.1 (flatR ((rs.take t.1).map (cutR L))) t.2.2 }) (fun u => [(1, true, .slice ad rs.length cap), (2, true, .pointer (some ⟨b2, 0, none⟩)), (5, true, u.1.2.1), (6, true, .int .i64 (u.1.1 : Int))]) (fun u => St w0 ((b2, 27, L.cells) :: (u.1.2.2 ++ η))) (fun u => rs.length - u.1.1) ⟨(0, .slice none 0 0, []), Nat.zero_le _, Frag.nil _ _⟩ ⟨rfl, rfl, rfl, rfl, trivial⟩ (fun _ h => h) ?_
    rintro ⟨⟨i, ov, H⟩, hin, hF⟩
    dsimp only at hin hF ⊢
    refine TC_seq ?_
    refine TC_seq ?_
    refine TC_reg ?_
    refine TL_q rfl rfl (QT_move rfl rfl rfl) ?_
    refine TL_q rfl rfl (QT_move rfl rfl rfl) ?_
    refine TL_q rfl rfl (QT_len rfl rfl Tryd.underlying31 rfl) ?_
    refine TL_q rfl rfl (QT_lss rfl rfl rfl rfl) ?_
    refine TL_nil ?_
    refine TX_then ?_
    first
      | refine TC_cond_dec rfl (fun h44 => ?_) (fun h44 => ?_)
      | refine TC_cond rfl (fun h44 => ?_) (fun h44 => ?_)
    ·
      have hi' : i < rs.length := by omega
      obtain ⟨y, hyi⟩ : ∃ y, rs[i]? = some y := ⟨_, List.getElem?_eq_getElem hi'⟩
      have hyF := hr y (List.mem_of_getElem? hyi)
      obtain ⟨hat1, hat2⟩ := flatR_at hr hyi
      have htk := take_snocX hyi
      have hcF := cutR_rcf (L := L) hyF
      have hcl : (rvV (cutR L y)).length = 7 := rvV_len hcF.len
      have hci := rvV_ints hcF
      refine TC_skip ?_
      refine TX_then ?_
      refine TC_seq ?_
      refine TC_block ?_
      refine TC_draw [(0, 0), (1, 0), (2, 0), (3, 0), (4, 0), (5, 0), (6, 1), (7, 1), (8, 1), (9, 0)] YtjehicncbpljaaaDoorF.mixed (by kernel_rfl) (St.calm _ _) ?_
      refine TV_q rfl rfl rfl (fun _ => QT_move rfl rfl rfl) ?_
      first
        | refine TV_ql rfl rfl rfl (QT_loadW (cs := L.cells) 0 rfl rfl Tryd.underlying27 rfl rfl rfl YtjehicncbpljaaaDoorF.sz_27) ?_
        | refine TV_ql rfl rfl rfl (QT_loadW (cs := L.cells) 1 rfl rfl Tryd.underlying27 rfl rfl rfl YtjehicncbpljaaaDoorF.sz_27) ?_
      refine TV_q rfl rfl rfl (fun _ => QT_move rfl rfl rfl) ?_
      refine TV_q rfl rfl rfl (fun _ => QT_move rfl rfl rfl) ?_
      refine TV_q rfl rfl rfl (fun _ => QT_indexG i rfl rfl Tryd.underlying31 YtjehicncbpljaaaDoorF.sz_67 rfl rfl rfl (fun _ => hi') (fun _ => had (by omega))) ?_
      refine TV_ql rfl rfl rfl (QT_loadRAj (out := rvV y) (i * 7) rfl rfl Tryd.underlying67 rfl YtjehicncbpljaaaDoorF.sz_67 (hrd.mono fun _ h => h.tail.app_right) rfl (fun _ => hat1) (fun _ => hat2)) ?_
      refine TV_cq rfl rfl rfl rfl rfl YtjehicncbpljaaaDoorF.cal_24 rfl (fun _ => fittingR_spec w0 _ L hc hf y hyF) (.drop (by kernel_rfl) (.drop (by kernel_rfl) (.nil))) ?_
      refine TV_e rfl rfl rfl rfl (rfl) (ET_buildN [_] rfl Tryd.underlying31 YtjehicncbpljaaaDoorF.sz_67 YtjehicncbpljaaaDoorF.zero_67 rfl rfl rfl (fun v hv => by cases List.mem_singleton.1 hv; exact hcl)) ?_
      rintro _ _ ⟨b54, rfl, rfl⟩
      refine ⟨_, .nil, ?_⟩
      refine TV_e rfl rfl rfl rfl (rfl) (ET_appendL (L := [_, _]) rfl Tryd.underlying31 el_RecR rfl rfl hF (fun _ h => h) (SlA.own (n := 1) (xs := rvV (cutR L y)) 0 rfl (by rw [List.drop_zero, List.take_of_length_le (by simp [Value.cells, hcl])]; simp [Value.cells]) (by simp [Value.cells, hcl]) (by omega)) hci.oneCell (by omega) (by omega)) ?_
      rintro sv2 _ ⟨H', hF', rfl⟩
      refine ⟨_, .nil, ?_⟩
      refine TV_q rfl rfl rfl (fun _ => QT_assign rfl rfl rfl) ?_
      refine TV_end ?_
      refine TX_block_normal ?_
      refine TX_then ?_
      refine TC_reg ?_
      refine TL_q rfl rfl (QT_move rfl rfl rfl) ?_
      refine TL_q rfl rfl (QT_add rfl rfl rfl rfl (fun _ => ⟨by omega, by omega⟩)) ?_
      refine TL_q rfl rfl (QT_assign rfl rfl rfl) ?_
      refine TL_nil ?_
      exact TX_round ⟨(i + 1, sv2, H'), hi', by rw [htk, List.map_append, flatR_append]; simpa [flatR] using hF'⟩ (by show rs.length - (i + 1) < rs.length - i; omega) ⟨rfl, rfl, rfl, rfl, trivial⟩ (fun _ h => h.tail)
    ·
      refine TC_exit ?_
      refine TX_then_exit ?_
      refine TX_then_exit ?_
      refine TX_block_here ?_
      refine TX_then ?_
      refine TC_seq ?_
      obtain rfl : i = rs.length := by omega
      rw [List.take_of_length_le (Nat.le_refl _)] at hF
      have hWl : (rs.map (cutR L)).length = rs.length := List.length_map ..
      rw [← hWl] at hF
      obtain ⟨W, hWE⟩ : ∃ W, W = rs.map (cutR L) := ⟨_, rfl⟩
      rw [← hWE] at hF hWF hWf hWl
      have hWb := bytesR_len (L := L) hWF
      have hbd : (bytesR L W).length ≤ 6800 := by
        rw [hWb, hWl]
        exact Nat.le_trans (Nat.mul_le_mul hn hszb.2.1) (by decide)
      obtain ⟨p1, p2⟩ := put_okR hc hWf (by omega)
      obtain ⟨g1, g2⟩ := get_okR hc hWF hWf (by omega)
      have hbl := bytesR_lt L W
      have hWi := flatR_ints hWF
      obtain ⟨wad, wcap, rfl, _, _⟩ := hF.slice
      refine TC_reg ?_
      first
        | refine TL_q rfl rfl (QT_loadW 0 rfl rfl Tryd.underlying27 rfl rfl rfl YtjehicncbpljaaaDoorF.sz_27) ?_
        | refine TL_q rfl rfl (QT_loadW 1 rfl rfl Tryd.underlying27 rfl rfl rfl YtjehicncbpljaaaDoorF.sz_27) ?_
        | refine TL_q rfl rfl (QT_loadW 2 rfl rfl Tryd.underlying27 rfl rfl rfl YtjehicncbpljaaaDoorF.sz_27) ?_
        | refine TL_q rfl rfl (QT_loadA 0 rfl rfl Tryd.underlying27 rfl rfl rfl YtjehicncbpljaaaDoorF.sz_27 (fun _ => rfl)) ?_
        | refine TL_q rfl rfl (QT_loadA 1 rfl rfl Tryd.underlying27 rfl rfl rfl YtjehicncbpljaaaDoorF.sz_27 (fun _ => rfl)) ?_
        | refine TL_q rfl rfl (QT_loadA 2 rfl rfl Tryd.underlying27 rfl rfl rfl YtjehicncbpljaaaDoorF.sz_27 (fun _ => rfl)) ?_
      refine TL_q rfl rfl (QT_move rfl rfl rfl) ?_
      refine TL_e rfl rfl rfl (rfl) (ET_call rfl YtjehicncbpljaaaDoorF.cal_19 rfl (rput0_spec w0 _ hG L _ W (hF.within fun p => by simp only [List.countP_append, List.countP_cons]; omega) hWF (by omega))) ?_
      rintro _ _ ⟨cv, H2, rfl, hF2, rfl⟩
      refine TL_q rfl rfl (QT_move rfl rfl rfl) ?_
      refine TL_q rfl rfl (QT_extract rfl rfl rfl rfl) ?_
      refine TL_q rfl rfl (QT_extract rfl rfl rfl rfl) ?_
      refine TL_q rfl rfl (QT_assign rfl rfl rfl) ?_
      refine TL_q rfl rfl (QT_assign rfl rfl rfl) ?_
      refine TL_nil ?_
      refine TX_then ?_
      refine TC_seq ?_
      rw [p2] at hF2
      simp only [p1]
      refine TC_A (St w0 ((b2, 27, L.cells) :: (H ++ (H2 ++ η)))) (fun w h => h.cnt fun p => by simp only [List.countP_append, List.countP_cons, List.countP_nil]; omega) ?_
      refine TC_reg ?_
      first
        | refine TL_q rfl rfl (QT_loadW 0 rfl rfl Tryd.underlying27 rfl rfl rfl YtjehicncbpljaaaDoorF.sz_27) ?_
        | refine TL_q rfl rfl (QT_loadW 1 rfl rfl Tryd.underlying27 rfl rfl rfl YtjehicncbpljaaaDoorF.sz_27) ?_
        | refine TL_q rfl rfl (QT_loadW 2 rfl rfl Tryd.underlying27 rfl rfl rfl YtjehicncbpljaaaDoorF.sz_27) ?_
        | refine TL_q rfl rfl (QT_loadA 0 rfl rfl Tryd.underlying27 rfl rfl rfl YtjehicncbpljaaaDoorF.sz_27 (fun _ => rfl)) ?_
        | refine TL_q rfl rfl (QT_loadA 1 rfl rfl Tryd.underlying27 rfl rfl rfl YtjehicncbpljaaaDoorF.sz_27 (fun _ => rfl)) ?_
        | refine TL_q rfl rfl (QT_loadA 2 rfl rfl Tryd.underlying27 rfl rfl rfl YtjehicncbpljaaaDoorF.sz_27 (fun _ => rfl)) ?_
      refine TL_q rfl rfl (QT_move rfl rfl rfl) ?_
      refine TL_e rfl rfl rfl (rfl) (ET_call rfl YtjehicncbpljaaaDoorF.cal_11 rfl (rget0_spec w0 _ hG L _ (bytesR L W) (hF2.within fun p => by simp only [List.countP_append, List.countP_cons]; omega) hbl (by omega))) ?_
      rintro _ _ ⟨uv, H3, rfl, hF3, rfl⟩
      refine TL_q rfl rfl (QT_move rfl rfl rfl) ?_
      refine TL_q rfl rfl (QT_extract rfl rfl rfl rfl) ?_
      refine TL_q rfl rfl (QT_extract rfl rfl rfl rfl) ?_
      refine TL_q rfl rfl (QT_assign rfl rfl rfl) ?_
      refine TL_q rfl rfl (QT_assign rfl rfl rfl) ?_
      refine TL_nil ?_
      refine TX_then ?_
      refine TC_seq ?_
      rw [g2] at hF3
      simp only [g1]
      obtain ⟨cad, ccap, rfl, hccap, _⟩ := hF2.slice
      refine TC_A (St w0 ((b2, 27, L.cells) :: (H ++ (H2 ++ (H3 ++ η))))) (fun w h => h.cnt fun p => by simp only [List.countP_append, List.countP_cons, List.countP_nil]; omega) ?_
      have hml : (szR L : Int) * (rs.length : Int) = ((bytesR L W).length : Int) := by rw [hWb, hWl, Int.natCast_mul, Int.mul_comm]
      refine TC_reg ?_
      first
        | refine TL_q rfl rfl (QT_loadW 0 rfl rfl Tryd.underlying27 rfl rfl rfl YtjehicncbpljaaaDoorF.sz_27) ?_
        | refine TL_q rfl rfl (QT_loadW 1 rfl rfl Tryd.underlying27 rfl rfl rfl YtjehicncbpljaaaDoorF.sz_27) ?_
        | refine TL_q rfl rfl (QT_loadW 2 rfl rfl Tryd.underlying27 rfl rfl rfl YtjehicncbpljaaaDoorF.sz_27) ?_
        | refine TL_q rfl rfl (QT_loadA 0 rfl rfl Tryd.underlying27 rfl rfl rfl YtjehicncbpljaaaDoorF.sz_27 (fun _ => rfl)) ?_
        | refine TL_q rfl rfl (QT_loadA 1 rfl rfl Tryd.underlying27 rfl rfl rfl YtjehicncbpljaaaDoorF.sz_27 (fun _ => rfl)) ?_
        | refine TL_q rfl rfl (QT_loadA 2 rfl rfl Tryd.underlying27 rfl rfl rfl YtjehicncbpljaaaDoorF.sz_27 (fun _ => rfl)) ?_
      refine TL_cq rfl rfl rfl rfl YtjehicncbpljaaaDoorF.cal_25 rfl (fun _ => hszL _) ?_
      refine TL_q rfl rfl (QT_assign rfl rfl rfl) ?_
      refine TL_nil ?_
      refine TX_then ?_
      refine TC_seq ?_
      refine TC_seq ?_
      refine TC_reg ?_
      refine TL_q rfl rfl (QT_move rfl rfl rfl) ?_
      refine TL_q rfl rfl (QT_neq rfl rfl rfl rfl) ?_
      refine TL_q rfl rfl (QT_move rfl rfl rfl) ?_
      refine TL_q rfl rfl (QT_move rfl rfl rfl) ?_
      refine TL_q rfl rfl (QT_neq rfl rfl rfl rfl) ?_
      refine TL_q rfl rfl (QT_or rfl rfl rfl rfl) ?_
      refine TL_q rfl rfl (QT_move rfl rfl rfl) ?_
      refine TL_q rfl rfl (QT_move rfl rfl rfl) ?_
      refine TL_q rfl rfl (QT_len rfl rfl Tryd.underlying28 rfl) ?_
      refine TL_q rfl rfl (QT_move rfl rfl rfl) ?_
      refine TL_q rfl rfl (QT_move rfl rfl rfl) ?_
      refine TL_q rfl rfl (QT_len rfl rfl Tryd.underlying31 rfl) ?_
      refine TL_q rfl rfl (QT_to (QT_mul rfl rfl rfl rfl (fun _ => by rw [hml]; exact ⟨by omega, by omega⟩)) hml) ?_
      refine TL_q rfl rfl (QT_neq rfl rfl rfl rfl) ?_
      refine TL_q rfl rfl (QT_or rfl rfl rfl rfl) ?_
      refine TL_q rfl rfl (QT_move rfl rfl rfl) ?_
      refine TL_q rfl rfl (QT_move rfl rfl rfl) ?_
      refine TL_q rfl rfl (QT_move rfl rfl rfl) ?_
      refine TL_cq rfl rfl rfl rfl YtjehicncbpljaaaDoorF.cal_15 rfl (fun _ => sameOk_RecsR w0 _ _ _ W.length (flatR W) (hF3.within fun p => by simp only [List.countP_append, List.countP_cons]; omega) ((hF.within fun p => by simp only [List.countP_append, List.countP_cons]; omega)) hWi) ?_
      refine TL_q rfl rfl (QT_not rfl rfl rfl) ?_
      refine TL_q rfl rfl (QT_or rfl rfl rfl rfl) ?_
      refine TL_nil ?_
      refine TX_then ?_
      refine TC_cond rfl (fun h => absurd (h.symm.trans ((show (_ : Bool) = false by simp))) (by decide)) (fun _ => ?_)
      refine TC_skip ?_
      refine TX_then ?_
      refine TC_seq ?_
      refine TC_seq ?_
      refine TC_reg ?_
      refine TL_q rfl rfl (QT_move rfl rfl rfl) ?_
      refine TL_q rfl rfl (QT_len rfl rfl Tryd.underlying28 rfl) ?_
      refine TL_q rfl rfl (QT_eql rfl rfl rfl rfl) ?_
      refine TL_nil ?_
      refine TX_then ?_
      first
        | refine TC_cond_dec rfl (fun h93 => ?_) (fun h93 => ?_)
        | refine TC_cond rfl (fun h93 => ?_) (fun h93 => ?_)
      ·
        refine TC_seq ?_
        refine TC_reg ?_
        refine TL_cq rfl rfl rfl rfl YtjehicncbpljaaaDoorF.cal_9 rfl (fun _ => lives09 w0 _ hG) ?_
        refine TL_q rfl rfl (QT_assign rfl rfl rfl) ?_
        refine TL_nil ?_
        refine TX_then ?_
        refine TC_ret ?_
        refine TX_then_ret ?_
        exact TX_ret (.inl rfl) (res1 rfl rfl) ⟨_, ⟨rfl, rfl⟩, fun w h => h.cnt fun p => by simp only [List.countP_append, List.countP_cons, List.countP_nil]; omega⟩
      ·
        refine TC_skip ?_
        refine TX_then ?_
        refine TC_seq ?_
        have hpos : 0 < (bytesR L W).length := by omega
        obtain ⟨bp1, bp2⟩ := back_partR hc hWF hpos (by omega)
        have hfs : SlA (St w0 ((b2, 27, L.cells) :: (H ++ (H2 ++ (H3 ++ η))))) (.slice cad (bytesR L W).length ccap) 1 (bytesR L W).length (byV (bytesR L W)) := hF2.within fun p => by simp only [List.countP_append, List.countP_cons]; omega
        have hfr := hfs.front (show (bytesR L W).length - 1 ≤ (bytesR L W).length by omega)
        rw [byV_takeR] at hfr
        have htl : ((bytesR L W).take ((bytesR L W).length - 1)).length = (bytesR L W).length - 1 := by rw [List.length_take]; omega
        have htb : ∀ c ∈ (bytesR L W).take ((bytesR L W).length - 1), c < 256 := fun c hx => hbl c (List.mem_of_mem_take hx)
        generalize (bytesR L W).take ((bytesR L W).length - 1) = tb at bp1 bp2 hfr htl htb
        rw [← htl] at hfr
        refine TC_draw [(0, 0), (1, 0), (2, 0), (3, 0), (4, 0), (5, 0), (6, 1), (7, 0), (8, 0), (9, 0), (10, 0), (11, 0)] YtjehicncbpljaaaDoorF.mixed (by kernel_rfl) (St.calm _ _) ?_
        refine TV_ql rfl rfl rfl (QT_loadW (cs := L.cells) 0 rfl rfl Tryd.underlying27 rfl rfl rfl YtjehicncbpljaaaDoorF.sz_27) ?_
        refine TV_q rfl rfl rfl (fun _ => QT_move rfl rfl rfl) ?_
        refine TV_q rfl rfl rfl (fun _ => QT_move rfl rfl rfl) ?_
        refine TV_q rfl rfl rfl (fun _ => QT_len rfl rfl Tryd.underlying28 rfl) ?_
        refine TV_q rfl rfl rfl (fun _ => QT_to (QT_sub rfl rfl rfl rfl (fun _ => ⟨by omega, by omega⟩)) (show (((bytesR L W).length : Nat) : Int) - 1 = ((tb.length : Nat) : Int) by omega)) ?_
        refine TV_q rfl rfl rfl (fun _ => QT_slcH (tb.length) rfl rfl rfl rfl Tryd.underlying28 YtjehicncbpljaaaDoorF.sz_5 rfl rfl rfl (fun _ => by omega)) ?_
        refine TV_e rfl rfl rfl rfl (rfl) (ET_call rfl YtjehicncbpljaaaDoorF.cal_11 rfl (rget0_spec w0 _ hG L _ tb hfr htb (by omega))) ?_
        rintro _ _ ⟨tv, H4, rfl, hF4, rfl⟩
        refine ⟨_, .drop (by kernel_rfl) (.nil), ?_⟩
        refine TV_q rfl rfl rfl (fun _ => QT_move rfl rfl rfl) ?_
        refine TV_q rfl rfl rfl (fun _ => QT_extract rfl rfl rfl rfl) ?_
        refine TV_q rfl rfl rfl (fun _ => QT_extract rfl rfl rfl rfl) ?_
        refine TV_q rfl rfl rfl (fun _ => QT_assign rfl rfl rfl) ?_
        refine TV_q rfl rfl rfl (fun _ => QT_assign rfl rfl rfl) ?_
        refine TV_end ?_
        refine TX_then ?_
        refine TC_seq ?_
        obtain ⟨tad, tcap, rfl, _, _⟩ := hF4.slice
        have hfin : (szR L = 1 ∧ errRG L tb = 0 ∧ (outRG L tb).length = rs.length - 1) ∨ (1 < szR L ∧ errRG L tb = 5 ∧ (outRG L tb).length = 0) := by
          by_cases h1 : szR L = 1
          · obtain ⟨e1, e2⟩ := bp1 h1
            exact .inl ⟨h1, e1, by rw [e2, hWl]⟩
          · have e1 := bp2 (by omega)
            exact .inr ⟨by omega, e1, by rw [errRG_bad (by rw [e1]; decide)]; rfl⟩
        have hrs0 : 0 < rs.length := by
          rcases Nat.eq_zero_or_pos rs.length with h | h
          · rw [hWb, hWl, h, Nat.zero_mul] at hpos; omega
          · exact h
        refine TC_reg ?_
        refine TL_q rfl rfl (QT_move rfl rfl rfl) ?_
        refine TL_q rfl rfl (QT_eql rfl rfl rfl rfl) ?_
        refine TL_q rfl rfl (QT_move rfl rfl rfl) ?_
        refine TL_q rfl rfl (QT_move rfl rfl rfl) ?_
        refine TL_q rfl rfl (QT_eql rfl rfl rfl rfl) ?_
        refine TL_q rfl rfl (QT_and rfl rfl rfl rfl) ?_
        refine TL_q rfl rfl (QT_move rfl rfl rfl) ?_
        refine TL_q rfl rfl (QT_move rfl rfl rfl) ?_
        refine TL_q rfl rfl (QT_len rfl rfl Tryd.underlying31 rfl) ?_
        refine TL_q rfl rfl (QT_move rfl rfl rfl) ?_
        refine TL_q rfl rfl (QT_len rfl rfl Tryd.underlying31 rfl) ?_
        refine TL_q rfl rfl (QT_sub rfl rfl rfl rfl (fun _ => ⟨by omega, by omega⟩)) ?_
        refine TL_q rfl rfl (QT_eql rfl rfl rfl rfl) ?_
        refine TL_q rfl rfl (QT_and rfl rfl rfl rfl) ?_
        refine TL_q rfl rfl (QT_move rfl rfl rfl) ?_
        refine TL_q rfl rfl (QT_move rfl rfl rfl) ?_
        refine TL_q rfl rfl (QT_gtr rfl rfl rfl rfl) ?_
        refine TL_q rfl rfl (QT_move rfl rfl rfl) ?_
        refine TL_q rfl rfl (QT_move rfl rfl rfl) ?_
        refine TL_q rfl rfl (QT_eql rfl rfl rfl rfl) ?_
        refine TL_q rfl rfl (QT_and rfl rfl rfl rfl) ?_
        refine TL_q rfl rfl (QT_move rfl rfl rfl) ?_
        refine TL_q rfl rfl (QT_move rfl rfl rfl) ?_
        refine TL_q rfl rfl (QT_len rfl rfl Tryd.underlying31 rfl) ?_
        refine TL_q rfl rfl (QT_eql rfl rfl rfl rfl) ?_
        refine TL_q rfl rfl (QT_and rfl rfl rfl rfl) ?_
        refine TL_q rfl rfl (QT_or rfl rfl rfl rfl) ?_
        refine TL_q rfl rfl (QT_move rfl rfl rfl) ?_
        refine TL_cq rfl rfl rfl rfl YtjehicncbpljaaaDoorF.cal_9 rfl (fun _ => lives09 w0 _ hG) ?_
        refine TL_q rfl rfl (QT_and rfl rfl rfl rfl) ?_
        refine TL_q rfl rfl (QT_assign rfl rfl rfl) ?_
        refine TL_nil ?_
        refine TX_then ?_
        refine TC_ret ?_
        refine TX_ret (.inl rfl) (res1 rfl rfl) ⟨_, ⟨congrArg Value.bool (show (_ : Bool) = true from ?_), rfl⟩, fun w h => h.cnt fun p => by simp only [List.countP_append, List.countP_cons, List.countP_nil]; omega⟩
        rcases hfin with ⟨f1, f2, f3⟩ | ⟨f1, f2, f3⟩
        · have g3 : (((outRG L tb).length : Nat) : Int) = (rs.length : Int) - 1 := by omega
          simp [f1, f2, g3]
        · have g3 : (((outRG L tb).length : Nat) : Int) = 0 := by omega
          have g4 : (1 : Int) < (szR L : Int) := by omega
          simp [f2, g3, g4]
end Go.Proofs.YtjehicncbpljaaaDoor

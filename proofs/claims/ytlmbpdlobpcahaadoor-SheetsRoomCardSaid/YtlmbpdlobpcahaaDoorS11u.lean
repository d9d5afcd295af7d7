/- THE LAW: sheets that have room are put, and got as they were; cut within the last one they are not, cut ahead of it they are the others. -/
import Derived.Test.YtlmbpdlobpcahaaDoorS11t
namespace Go.Proofs.YtlmbpdlobpcahaaDoor
open Go Go.Gx Go.RowKit
set_option maxRecDepth 100000
theorem kept_of {L : Lay} {v : Nat} (h : (decide (errOf L ≠ 0) || decide (L.ty < 6)) = false) : okB L = true ∧ 6 ≤ L.ty := by
  simp only [Bool.or_eq_false_iff, decide_eq_false_iff_not] at h
  refine ⟨?_, by omega⟩
  unfold errOf at h
  by_cases h1 : okB L = true
  · exact h1
  · rw [if_neg h1] at h; exact absurd (fun h => absurd h (by decide)) h.1
theorem cutAll {L : Lay} {ys : List (List Nat)} (hy : ∀ y ∈ ys, ShF y) : (∀ y ∈ ys.map (cutS L), ShF y) ∧ (ys.map (cutS L)).all (fitS L) = true := by
  constructor
  · intro y h
    obtain ⟨z, hz, rfl⟩ := List.mem_map.1 h
    exact cutS_shf (hy z hz)
  · rw [List.all_eq_true]
    intro y h
    obtain ⟨z, hz, rfl⟩ := List.mem_map.1 h
    exact cutS_fit (hy z hz)
theorem next_len {L : Lay} {ys : List (List Nat)} {i : Nat} {y : List Nat} (h : ys[i]? = some y) (hy : ShF y) : (bytesS L (ys.take (i + 1))).length = (bytesS L (ys.take i)).length + szN L (y.headD 0) := by
  rw [show ys.take (i + 1) = ys.take i ++ [y] by rw [List.take_add_one, h]; rfl, bytesS_append, List.length_append]
  have : bytesS L [y] = packS L y := by simp [bytesS]
  rw [this, packS_len hy]
theorem back_part {L : Lay} (hc : okB L = true ∧ 6 ≤ L.ty) {W : List (List Nat)} {y : List Nat} {k : Nat} (hW : ∀ z ∈ W ++ [y], ShF z) (hf : (W ++ [y]).all (fitS L) = true) (h1 : 1 ≤ k) (hk : k ≤ szN L (y.headD 0)) (hl : (bytesS L (W ++ [y])).length ≤ 65536) :
    (k < szN L (y.headD 0) → errG L ((bytesS L (W ++ [y])).take ((bytesS L (W ++ [y])).length - k)) = 5) ∧ (k = szN L (y.headD 0) → errG L ((bytesS L (W ++ [y])).take ((bytesS L (W ++ [y])).length - k)) = 0 ∧ outG L ((bytesS L (W ++ [y])).take ((bytesS L (W ++ [y])).length - k)) = W) := by
  have hty := ty67 hc
  have hyF := hW y (List.mem_append_right _ (List.mem_singleton.2 rfl))
  have hWF : ∀ z ∈ W, ShF z := fun z hz => hW z (List.mem_append_left _ hz)
  rw [List.all_append, Bool.and_eq_true] at hf
  have hyf : fitS L y = true := by simpa using hf.2
  have hpl := packS_len (L := L) hyF
  have e : bytesS L (W ++ [y]) = bytesS L W ++ packS L y := by rw [bytesS_append]; simp [bytesS]
  have e2 : (bytesS L (W ++ [y])).take ((bytesS L (W ++ [y])).length - k) = bytesS L W ++ (packS L y).take (szN L (y.headD 0) - k) := by
    rw [e, List.length_append, hpl, List.take_append, List.take_of_length_le (by omega), show (bytesS L W).length + szN L (y.headD 0) - k - (bytesS L W).length = szN L (y.headD 0) - k by omega]
  have hll : (bytesS L W ++ (packS L y).take (szN L (y.headD 0) - k)).length ≤ 65536 := by rw [← e2, List.length_take]; omega
  rw [e2]
  constructor
  · intro hlt
    exact errG_none hc (by omega) (by rw [getS_bytes hc.1 hty hWF hf.1, getS_part hc.1 hty hyF hyf (by omega) (by omega)]; rfl)
  · intro heq
    rw [heq, Nat.sub_self, List.take_zero] at hll ⊢
    exact errG_ok hc (by omega) (by rw [getS_bytes hc.1 hty hWF hf.1, getS_nil]; simp)
set_option maxHeartbeats 2000000 in
theorem law_sheetsBack (w0 : World) (η : Heap) (hG : Sets w0) (L : Lay) (sv : Value) (ys : List (List Nat)) (of : Nat) (hs : SlA (St w0 η) sv 49 ys.length (flatS ys)) (hy : ∀ y ∈ ys, ShF y) (hof : of ≤ 255) :
    CallsT Tryd.prog 5 [L.val, sv, .int .u8 (of : Int)] (St w0 η) fun v A' => v = .bool true ∧ A' = St w0 η := by
  have hs0 := hs
  obtain ⟨hxl, ad, cap, rfl, hcap, hsr⟩ := hs
  refine CallsT.body Tryd.func5 rfl rfl ?_
  simp only [Tryd.ntmps5, slotsOf, Nat.reduceAdd]
  refine TC_seq ?_
  refine TC_reg ?_
  refine TL_e rfl rfl rfl (rfl) (ET_box rfl rfl) ?_
  rintro _ _ ⟨b3, rfl, rfl⟩
  refine TL_q rfl rfl (QT_assign rfl rfl rfl) ?_
  refine TL_nil ?_
  refine TX_then ?_
  refine TC_seq ?_
  refine TC_seq ?_
  refine TC_reg ?_
  first
    | refine TL_q rfl rfl (QT_loadW 0 rfl rfl Tryd.underlying27 rfl rfl rfl YtlmbpdlobpcahaaDoorF.sz_27) ?_
    | refine TL_q rfl rfl (QT_loadW 1 rfl rfl Tryd.underlying27 rfl rfl rfl YtlmbpdlobpcahaaDoorF.sz_27) ?_
    | refine TL_q rfl rfl (QT_loadW 2 rfl rfl Tryd.underlying27 rfl rfl rfl YtlmbpdlobpcahaaDoorF.sz_27) ?_
    | refine TL_q rfl rfl (QT_loadA 0 rfl rfl Tryd.underlying27 rfl rfl rfl YtlmbpdlobpcahaaDoorF.sz_27 (fun _ => rfl)) ?_
    | refine TL_q rfl rfl (QT_loadA 1 rfl rfl Tryd.underlying27 rfl rfl rfl YtlmbpdlobpcahaaDoorF.sz_27 (fun _ => rfl)) ?_
    | refine TL_q rfl rfl (QT_loadA 2 rfl rfl Tryd.underlying27 rfl rfl rfl YtlmbpdlobpcahaaDoorF.sz_27 (fun _ => rfl)) ?_
  refine TL_cq rfl rfl rfl rfl YtlmbpdlobpcahaaDoorF.cal_23 rfl (fun _ => check_spec w0 _ hG L) ?_
  refine TL_q rfl rfl (QT_neq rfl rfl rfl rfl) ?_
  refine TL_q rfl rfl (QT_move rfl rfl rfl) ?_
  refine TL_q rfl rfl (QT_field rfl rfl YtlmbpdlobpcahaaDoorF.fld_27_0 rfl) ?_
  first
    | refine TL_q rfl rfl (QT_load 0 rfl rfl Tryd.underlying3 rfl rfl rfl (fun _ => rfl)) ?_
    | refine TL_q rfl rfl (QT_load 1 rfl rfl Tryd.underlying3 rfl rfl rfl (fun _ => rfl)) ?_
    | refine TL_q rfl rfl (QT_load 2 rfl rfl Tryd.underlying3 rfl rfl rfl (fun _ => rfl)) ?_
  refine TL_q rfl rfl (QT_lss rfl rfl rfl rfl) ?_
  refine TL_q rfl rfl (QT_or rfl rfl rfl rfl) ?_
  refine TL_q rfl rfl (QT_move rfl rfl rfl) ?_
  refine TL_q rfl rfl (QT_move rfl rfl rfl) ?_
  refine TL_q rfl rfl (QT_len rfl rfl Tryd.underlying31 rfl) ?_
  refine TL_q rfl rfl (QT_gtr rfl rfl rfl rfl) ?_
  refine TL_q rfl rfl (QT_or rfl rfl rfl rfl) ?_
  refine TL_nil ?_
  refine TX_then ?_
  first
    | refine TC_cond_dec rfl (fun h28 => ?_) (fun h28 => ?_)
    | refine TC_cond rfl (fun h28 => ?_) (fun h28 => ?_)
  ·
    refine TC_seq ?_
    refine TC_reg ?_
    refine TL_cq rfl rfl rfl rfl YtlmbpdlobpcahaaDoorF.cal_9 rfl (fun _ => lives11 w0 _ hG) ?_
    refine TL_q rfl rfl (QT_assign rfl rfl rfl) ?_
    refine TL_nil ?_
    refine TX_then ?_
    refine TC_ret ?_
    refine TX_then_ret ?_
    exact TX_ret (.inl rfl) (res1 rfl rfl) ⟨_, ⟨rfl, rfl⟩, (fun _ h => by first | exact h | exact h.tail | exact h.tail.tail | exact h.tail.tail.tail | exact h.tail.tail.tail.tail | exact h.tail.tail.tail.tail.tail | exact h.tail.tail.tail.tail.tail.tail | exact h.tail.tail.tail.tail.tail.tail.tail | exact h.tail.tail.tail.tail.tail.tail.tail.tail | exact h.tail.tail.tail.tail.tail.tail.tail.tail.tail | exact h.tail.tail.tail.tail.tail.tail.tail.tail.tail.tail | exact h.tail.tail.tail.tail.tail.tail.tail.tail.tail.tail.tail | exact h.tail.tail.tail.tail.tail.tail.tail.tail.tail.tail.tail.tail | exact h.tail.tail.tail.tail.tail.tail.tail.tail.tail.tail.tail.tail.tail)⟩
  ·
    refine TC_skip ?_
    refine TX_then ?_
    refine TC_seq ?_
    obtain ⟨hc, hn⟩ : (okB L = true ∧ 6 ≤ L.ty) ∧ ys.length ≤ 60 := by
      rw [Bool.or_eq_false_iff] at h28
      refine ⟨kept_of (v := 0) h28.1, ?_⟩
      have := h28.2
      simp only [decide_eq_false_iff_not] at this
      omega
    have hty := ty67 hc
    obtain ⟨hWF, hWf⟩ := cutAll (L := L) hy
    have hWl : (ys.map (cutS L)).length ≤ 60 := by rw [List.length_map]; exact hn
    refine TC_A (St w0 ((b3, 27, L.cells) :: η)) (fun _ h => h) ?_
    refine TC_reg ?_
    first
      | refine TL_q rfl rfl (QT_loadW 0 rfl rfl Tryd.underlying27 rfl rfl rfl YtlmbpdlobpcahaaDoorF.sz_27) ?_
      | refine TL_q rfl rfl (QT_loadW 1 rfl rfl Tryd.underlying27 rfl rfl rfl YtlmbpdlobpcahaaDoorF.sz_27) ?_
      | refine TL_q rfl rfl (QT_loadW 2 rfl rfl Tryd.underlying27 rfl rfl rfl YtlmbpdlobpcahaaDoorF.sz_27) ?_
      | refine TL_q rfl rfl (QT_loadA 0 rfl rfl Tryd.underlying27 rfl rfl rfl YtlmbpdlobpcahaaDoorF.sz_27 (fun _ => rfl)) ?_
      | refine TL_q rfl rfl (QT_loadA 1 rfl rfl Tryd.underlying27 rfl rfl rfl YtlmbpdlobpcahaaDoorF.sz_27 (fun _ => rfl)) ?_
      | refine TL_q rfl rfl (QT_loadA 2 rfl rfl Tryd.underlying27 rfl rfl rfl YtlmbpdlobpcahaaDoorF.sz_27 (fun _ => rfl)) ?_
    refine TL_q rfl rfl (QT_move rfl rfl rfl) ?_
    refine TL_e rfl rfl rfl (rfl) (ET_call rfl YtlmbpdlobpcahaaDoorF.cal_24 rfl (cut_spec w0 _ L hc.1 hty _ ys (hs0.mono fun _ h => h.tail) hy (by omega))) ?_
    rintro wv _ ⟨H1, hF1, rfl⟩
    refine TL_q rfl rfl (QT_assign rfl rfl rfl) ?_
    refine TL_nil ?_
    refine TX_then ?_
    refine TC_seq ?_
    generalize ys.map (cutS L) = W at hF1 hWF hWf hWl
    have hbd := bytesS_bd hc.1 hty hWF
    obtain ⟨p1, p2⟩ := put_ok hc hWf (by omega)
    obtain ⟨g1, g2⟩ := get_ok hc hWF hWf (by omega)
    have hbl := bytesS_lt L W
    refine TC_A (St w0 ((b3, 27, L.cells) :: (H1 ++ η))) (fun w h => h.cnt fun p => by simp only [List.countP_append, List.countP_cons, List.countP_nil]; omega) ?_
    refine TC_reg ?_
    first
      | refine TL_q rfl rfl (QT_loadW 0 rfl rfl Tryd.underlying27 rfl rfl rfl YtlmbpdlobpcahaaDoorF.sz_27) ?_
      | refine TL_q rfl rfl (QT_loadW 1 rfl rfl Tryd.underlying27 rfl rfl rfl YtlmbpdlobpcahaaDoorF.sz_27) ?_
      | refine TL_q rfl rfl (QT_loadW 2 rfl rfl Tryd.underlying27 rfl rfl rfl YtlmbpdlobpcahaaDoorF.sz_27) ?_
      | refine TL_q rfl rfl (QT_loadA 0 rfl rfl Tryd.underlying27 rfl rfl rfl YtlmbpdlobpcahaaDoorF.sz_27 (fun _ => rfl)) ?_
      | refine TL_q rfl rfl (QT_loadA 1 rfl rfl Tryd.underlying27 rfl rfl rfl YtlmbpdlobpcahaaDoorF.sz_27 (fun _ => rfl)) ?_
      | refine TL_q rfl rfl (QT_loadA 2 rfl rfl Tryd.underlying27 rfl rfl rfl YtlmbpdlobpcahaaDoorF.sz_27 (fun _ => rfl)) ?_
    refine TL_q rfl rfl (QT_move rfl rfl rfl) ?_
    refine TL_e rfl rfl rfl (rfl) (ET_call rfl YtlmbpdlobpcahaaDoorF.cal_19 rfl (sput_spec w0 _ hG L _ W (hF1.within fun p => by simp only [List.countP_append, List.countP_cons]; omega) hWF (by omega))) ?_
    rintro _ _ ⟨cv, H2, rfl, hF2, rfl⟩
    refine TL_q rfl rfl (QT_move rfl rfl rfl) ?_
    refine TL_q rfl rfl (QT_extract rfl rfl rfl rfl) ?_
    refine TL_q rfl rfl (QT_extract rfl rfl rfl rfl) ?_
    refine TL_q rfl rfl (QT_assign rfl rfl rfl) ?_
    refine TL_q rfl rfl (QT_assign rfl rfl rfl) ?_
    refine TL_nil ?_
    refine TX_then ?_
    refine TC_seq ?_
    rw [p2] at hF2
    simp only [p1]
    refine TC_A (St w0 ((b3, 27, L.cells) :: (H1 ++ (H2 ++ η)))) (fun w h => h.cnt fun p => by simp only [List.countP_append, List.countP_cons, List.countP_nil]; omega) ?_
    refine TC_reg ?_
    first
      | refine TL_q rfl rfl (QT_loadW 0 rfl rfl Tryd.underlying27 rfl rfl rfl YtlmbpdlobpcahaaDoorF.sz_27) ?_
      | refine TL_q rfl rfl (QT_loadW 1 rfl rfl Tryd.underlying27 rfl rfl rfl YtlmbpdlobpcahaaDoorF.sz_27) ?_
      | refine TL_q rfl rfl (QT_loadW 2 rfl rfl Tryd.underlying27 rfl rfl rfl YtlmbpdlobpcahaaDoorF.sz_27) ?_
      | refine TL_q rfl rfl (QT_loadA 0 rfl rfl Tryd.underlying27 rfl rfl rfl YtlmbpdlobpcahaaDoorF.sz_27 (fun _ => rfl)) ?_
      | refine TL_q rfl rfl (QT_loadA 1 rfl rfl Tryd.underlying27 rfl rfl rfl YtlmbpdlobpcahaaDoorF.sz_27 (fun _ => rfl)) ?_
      | refine TL_q rfl rfl (QT_loadA 2 rfl rfl Tryd.underlying27 rfl rfl rfl YtlmbpdlobpcahaaDoorF.sz_27 (fun _ => rfl)) ?_
    refine TL_q rfl rfl (QT_move rfl rfl rfl) ?_
    refine TL_e rfl rfl rfl (rfl) (ET_call rfl YtlmbpdlobpcahaaDoorF.cal_11 rfl (sget_spec w0 _ hG L _ (bytesS L W) (hF2.within fun p => by simp only [List.countP_append, List.countP_cons]; omega) hbl (by omega))) ?_
    rintro _ _ ⟨uv, H3, rfl, hF3, rfl⟩
    refine TL_q rfl rfl (QT_move rfl rfl rfl) ?_
    refine TL_q rfl rfl (QT_extract rfl rfl rfl rfl) ?_
    refine TL_q rfl rfl (QT_extract rfl rfl rfl rfl) ?_
    refine TL_q rfl rfl (QT_assign rfl rfl rfl) ?_
    refine TL_q rfl rfl (QT_assign rfl rfl rfl) ?_
    refine TL_nil ?_
    refine TX_then ?_
    refine TC_seq ?_
    rw [g2] at hF3
    simp only [g1]
    obtain ⟨_, wad, wcap, wb, wo, rfl, _, hwad, hwrd⟩ := (hF1.sla (w0 := w0) (η := [])).some
    obtain ⟨cad, ccap, rfl, hccap, _⟩ := hF2.slice
    refine TC_A (St w0 ((b3, 27, L.cells) :: (H1 ++ (H2 ++ (H3 ++ η))))) (fun w h => h.cnt fun p => by simp only [List.countP_append, List.countP_cons, List.countP_nil]; omega) ?_
    have hWr : Rd (St w0 ((b3, 27, L.cells) :: (H1 ++ (H2 ++ (H3 ++ η))))) wb wo (flatS W) := hwrd.mono (fun w h => h.cnt fun p => by simp only [List.countP_append, List.countP_cons, List.countP_nil]; omega)
    refine TC_reg ?_
    refine TL_q rfl rfl (QT_assign rfl rfl rfl) ?_
    refine TL_nil ?_
    refine TX_then ?_
    refine TC_seq ?_
    refine TC_seq ?_
    refine TC_reg ?_
    refine TL_q rfl rfl (QT_assign rfl rfl rfl) ?_
    refine TL_nil ?_
    refine TX_then ?_
    refine TC_block ?_
    refine TC_loop (γ := { i : Nat // i ≤ W.length }) (fun u => [(2, true, .int .u8 (of : Int)), (3, true, .pointer (some ⟨b3, 0, none⟩)), (7, true, .slice wad W.length wcap), (8, true, .slice cad (bytesS L W).length ccap), (9, true, .int .i64 0), (10, true, uv), (11, true, .int .i64 0), (12, true, .int .i64 ((bytesS L (W.take u.1)).length : Int)), (13, true, .int .i64 (u.1 : Int))]) (fun _ => St w0 ((b3, 27, L.cells) :: (H1 ++ (H2 ++ (H3 ++ η))))) (fun u => W.length - u.1) ⟨0, Nat.zero_le _⟩ ⟨rfl, rfl, rfl, rfl, rfl, rfl, rfl, rfl, rfl, trivial⟩ (fun _ h => h) ?_
    rintro ⟨i, hi⟩
    dsimp only
    refine TC_seq ?_
    refine TC_seq ?_
    refine TC_reg ?_
    refine TL_q rfl rfl (QT_move rfl rfl rfl) ?_
    refine TL_q rfl rfl (QT_move rfl rfl rfl) ?_
    refine TL_q rfl rfl (QT_len rfl rfl Tryd.underlying31 rfl) ?_
    refine TL_q rfl rfl (QT_lss rfl rfl rfl rfl) ?_
    refine TL_nil ?_
    refine TX_then ?_
    first
      | refine TC_cond_dec rfl (fun h48 => ?_) (fun h48 => ?_)
      | refine TC_cond rfl (fun h48 => ?_) (fun h48 => ?_)
    ·
      have hi' : i < W.length := by omega
      obtain ⟨y, hyi⟩ : ∃ y, W[i]? = some y := ⟨_, List.getElem?_eq_getElem hi'⟩
      have hyF := hWF y (List.mem_of_getElem? hyi)
      have hnext := next_len (L := L) hyi hyF
      have hk1 := szN_pos hc.1 hty (y.headD 0)
      have hszL := fun A => size_spec w0 A hG L (y.headD 0 : Int) (Int.natCast_nonneg _)
      rw [size_eq hc.1 hty] at hszL
      have hv0 : (flatS W)[i * 49 + 0]? = some (.int .u8 (y.headD 0 : Int)) := by
        rw [flatS_elem hWF hyi (by decide)]
        exact shV_at (xs := y) (p := 0) (by decide) (by obtain ⟨x0, X, rfl, _, _⟩ := hyF; rfl)
      have hati := bytesS_bd hc.1 hty (ys := W.take i) fun z hz => hWF z (List.mem_of_mem_take hz)
      rw [List.length_take] at hati
      generalize szN L (y.headD 0) = m at hk1 hszL hnext
      refine TC_skip ?_
      refine TX_then ?_
      refine TC_seq ?_
      refine TC_block ?_
      refine TC_draw [(0, 0), (1, 0), (2, 0), (3, 0), (4, 0), (5, 0), (6, 0), (7, 1), (8, 0), (9, 0)] YtlmbpdlobpcahaaDoorF.mixed (by kernel_rfl) (St.calm _ _) ?_
      refine TV_q rfl rfl rfl (fun _ => QT_move rfl rfl rfl) ?_
      refine TV_ql rfl rfl rfl (QT_loadW (cs := L.cells) 0 rfl rfl Tryd.underlying27 rfl rfl rfl YtlmbpdlobpcahaaDoorF.sz_27) ?_
      refine TV_q rfl rfl rfl (fun _ => QT_move rfl rfl rfl) ?_
      refine TV_q rfl rfl rfl (fun _ => QT_move rfl rfl rfl) ?_
      refine TV_q rfl rfl rfl (fun _ => QT_indexG i rfl rfl Tryd.underlying31 YtlmbpdlobpcahaaDoorF.sz_71 rfl rfl rfl (fun _ => hi') (fun _ => hwad (by omega))) ?_
      refine TV_q rfl rfl rfl (fun _ => QT_field rfl rfl YtlmbpdlobpcahaaDoorF.fld_71_0 rfl) ?_
      refine TV_ql rfl rfl rfl (QT_loadRj (v := .int .u8 (y.headD 0 : Int)) (i * 49 + 0) rfl rfl Tryd.underlying5 rfl hWr rfl (fun _ => hv0)) ?_
      refine TV_cq rfl rfl rfl rfl rfl YtlmbpdlobpcahaaDoorF.cal_25 rfl (fun _ => hszL _) (.drop (by kernel_rfl) (.drop (by kernel_rfl) (.nil))) ?_
      refine TV_q rfl rfl rfl (fun _ => QT_add rfl rfl rfl rfl (fun _ => ⟨by omega, by omega⟩)) ?_
      refine TV_q rfl rfl rfl (fun _ => QT_assign rfl rfl rfl) ?_
      refine TV_end ?_
      refine TX_block_normal ?_
      refine TX_then ?_
      refine TC_reg ?_
      refine TL_q rfl rfl (QT_move rfl rfl rfl) ?_
      refine TL_q rfl rfl (QT_add rfl rfl rfl rfl (fun _ => ⟨by omega, by omega⟩)) ?_
      refine TL_q rfl rfl (QT_assign rfl rfl rfl) ?_
      refine TL_nil ?_
      exact TX_round ⟨i + 1, hi'⟩ (by show W.length - (i + 1) < W.length - i; omega) ⟨rfl, rfl, rfl, rfl, rfl, rfl, rfl, slotI rfl (by show ((bytesS L (W.take i)).length : Int) + (m : Int) = ((bytesS L (W.take (i + 1))).length : Int); omega), rfl, trivial⟩ (fun _ h => h)
    ·
      refine TC_exit ?_
      refine TX_then_exit ?_
      refine TX_then_exit ?_
      refine TX_block_here ?_
      refine TX_then ?_
      refine TC_seq ?_
      refine TC_seq ?_
      obtain rfl : i = W.length := by omega
      rw [List.take_of_length_le (Nat.le_refl _)]
      refine TC_reg ?_
      refine TL_q rfl rfl (QT_move rfl rfl rfl) ?_
      refine TL_q rfl rfl (QT_neq rfl rfl rfl rfl) ?_
      refine TL_q rfl rfl (QT_move rfl rfl rfl) ?_
      refine TL_q rfl rfl (QT_move rfl rfl rfl) ?_
      refine TL_q rfl rfl (QT_neq rfl rfl rfl rfl) ?_
      refine TL_q rfl rfl (QT_or rfl rfl rfl rfl) ?_
      refine TL_q rfl rfl (QT_move rfl rfl rfl) ?_
      refine TL_q rfl rfl (QT_move rfl rfl rfl) ?_
      refine TL_q rfl rfl (QT_len rfl rfl Tryd.underlying28 rfl) ?_
      refine TL_q rfl rfl (QT_move rfl rfl rfl) ?_
      refine TL_q rfl rfl (QT_neq rfl rfl rfl rfl) ?_
      refine TL_q rfl rfl (QT_or rfl rfl rfl rfl) ?_
      refine TL_q rfl rfl (QT_move rfl rfl rfl) ?_
      refine TL_q rfl rfl (QT_move rfl rfl rfl) ?_
      refine TL_q rfl rfl (QT_move rfl rfl rfl) ?_
      refine TL_cq rfl rfl rfl rfl YtlmbpdlobpcahaaDoorF.cal_15 rfl (fun _ => sameOk_Sheets w0 _ _ _ W.length (flatS W) (hF3.within fun p => by simp only [List.countP_append, List.countP_cons]; omega) (hF1.within fun p => by simp only [List.countP_append, List.countP_cons]; omega) (flatS_ints hWF)) ?_
      refine TL_q rfl rfl (QT_not rfl rfl rfl) ?_
      refine TL_q rfl rfl (QT_or rfl rfl rfl rfl) ?_
      refine TL_nil ?_
      refine TX_then ?_
      refine TC_cond rfl (fun h => absurd (h.symm.trans ((show (_ : Bool) = false by simp))) (by decide)) (fun _ => ?_)
      refine TC_skip ?_
      refine TX_then ?_
      refine TC_seq ?_
      refine TC_seq ?_
      refine TC_reg ?_
      refine TL_q rfl rfl (QT_move rfl rfl rfl) ?_
      refine TL_q rfl rfl (QT_len rfl rfl Tryd.underlying31 rfl) ?_
      refine TL_q rfl rfl (QT_eql rfl rfl rfl rfl) ?_
      refine TL_nil ?_
      refine TX_then ?_
      first
        | refine TC_cond_dec rfl (fun h80 => ?_) (fun h80 => ?_)
        | refine TC_cond rfl (fun h80 => ?_) (fun h80 => ?_)
      ·
        refine TC_seq ?_
        refine TC_reg ?_
        refine TL_cq rfl rfl rfl rfl YtlmbpdlobpcahaaDoorF.cal_9 rfl (fun _ => lives11 w0 _ hG) ?_
        refine TL_q rfl rfl (QT_assign rfl rfl rfl) ?_
        refine TL_nil ?_
        refine TX_then ?_
        refine TC_ret ?_
        refine TX_then_ret ?_
        exact TX_ret (.inl rfl) (res1 rfl rfl) ⟨_, ⟨rfl, rfl⟩, fun w h => h.tail.app_right.app_right.app_right⟩
      ·
        refine TC_skip ?_
        refine TX_then ?_
        refine TC_seq ?_
        obtain ⟨W, y, rfl⟩ : ∃ W' y, W = W' ++ [y] := by
          rcases List.eq_nil_or_concat W with h | ⟨a, b, h⟩
          · subst h; simp at h80
          · exact ⟨a, b, by rw [h]; simp⟩
        have hlW : (W ++ [y]).length = W.length + 1 := by simp
        have hyi : (W ++ [y])[W.length]? = some y := by simp
        have hyF := hWF y (List.mem_of_getElem? hyi)
        have hk1 := szN_pos hc.1 hty (y.headD 0)
        have hszL := fun A => size_spec w0 A hG L (y.headD 0 : Int) (Int.natCast_nonneg _)
        rw [size_eq hc.1 hty] at hszL
        have hv0 : (flatS (W ++ [y]))[W.length * 49 + 0]? = some (.int .u8 (y.headD 0 : Int)) := by
          rw [flatS_elem hWF hyi (by decide)]
          exact shV_at (xs := y) (p := 0) (by decide) (by obtain ⟨x0, X, rfl, _, _⟩ := hyF; rfl)
        have hbp := fun {k : Nat} (h1 : 1 ≤ k) (hk : k ≤ szN L (y.headD 0)) => back_part hc hWF hWf h1 hk (by omega)
        have hbyl : szN L (y.headD 0) ≤ (bytesS L (W ++ [y])).length := by
          rw [bytesS_append, List.length_append]
          have : bytesS L [y] = packS L y := by simp [bytesS]
          rw [this, packS_len hyF]; omega
        have hWi := flatS_ints hWF
        have hW1 := flatS_len hWF
        have hW2 : flatS W = (flatS (W ++ [y])).take (W.length * 49) := by
          rw [flatS_append, ← flatS_len (ys := W) (fun z hz => hWF z (List.mem_append_left _ hz)), List.take_left]
        have hWFi := flatS_ints (ys := W) (fun z hz => hWF z (List.mem_append_left _ hz))
        generalize hm : szN L (y.headD 0) = m at hk1 hszL hbp hbyl
        obtain ⟨k, hk⟩ : ∃ k, k = 1 + of % m := ⟨_, rfl⟩
        have hkm : of % m < m := Nat.mod_lt _ (by omega)
        obtain ⟨bp1, bp2⟩ := hbp (k := k) (by omega) (by omega)
        have hfs : SlA (St w0 ((b3, 27, L.cells) :: (H1 ++ (H2 ++ (H3 ++ η))))) (.slice cad (bytesS L (W ++ [y])).length ccap) 1 (bytesS L (W ++ [y])).length (byV (bytesS L (W ++ [y]))) := hF2.within fun p => by simp only [List.countP_append, List.countP_cons]; omega
        have hfr := hfs.front (show (bytesS L (W ++ [y])).length - k ≤ (bytesS L (W ++ [y])).length by omega)
        rw [byV_take] at hfr
        have htl : ((bytesS L (W ++ [y])).take ((bytesS L (W ++ [y])).length - k)).length = (bytesS L (W ++ [y])).length - k := by rw [List.length_take]; omega
        have htb : ∀ c ∈ (bytesS L (W ++ [y])).take ((bytesS L (W ++ [y])).length - k), c < 256 := fun c hx => hbl c (List.mem_of_mem_take hx)
        have hwf := (show SlA (St w0 (H1 ++ [])) (.slice wad (W ++ [y]).length wcap) 49 (W ++ [y]).length (flatS (W ++ [y])) from hF1.sla).front (show W.length ≤ (W ++ [y]).length by omega)
        rw [← hW2] at hwf
        generalize (bytesS L (W ++ [y])).take ((bytesS L (W ++ [y])).length - k) = tb at bp1 bp2 hfr htl htb
        rw [← htl] at hfr
        refine TC_draw [(0, 0), (1, 0), (2, 0), (3, 0), (4, 0), (5, 0), (6, 0), (7, 0), (8, 1), (9, 0)] YtlmbpdlobpcahaaDoorF.mixed (by kernel_rfl) (St.calm _ _) ?_
        refine TV_ql rfl rfl rfl (QT_loadW (cs := L.cells) 0 rfl rfl Tryd.underlying27 rfl rfl rfl YtlmbpdlobpcahaaDoorF.sz_27) ?_
        refine TV_q rfl rfl rfl (fun _ => QT_move rfl rfl rfl) ?_
        refine TV_q rfl rfl rfl (fun _ => QT_move rfl rfl rfl) ?_
        refine TV_q rfl rfl rfl (fun _ => QT_len rfl rfl Tryd.underlying31 rfl) ?_
        refine TV_q rfl rfl rfl (fun _ => QT_to (QT_sub rfl rfl rfl rfl (fun _ => ⟨by omega, by omega⟩)) (show (((W ++ [y]).length : Nat) : Int) - 1 = ((W.length : Nat) : Int) by omega)) ?_
        refine TV_q rfl rfl rfl (fun _ => QT_indexG W.length rfl rfl Tryd.underlying31 YtlmbpdlobpcahaaDoorF.sz_71 rfl rfl rfl (fun _ => by omega) (fun _ => hwad (by omega))) ?_
        refine TV_q rfl rfl rfl (fun _ => QT_field rfl rfl YtlmbpdlobpcahaaDoorF.fld_71_0 rfl) ?_
        refine TV_ql rfl rfl rfl (QT_loadRj (v := .int .u8 (y.headD 0 : Int)) (W.length * 49 + 0) rfl rfl Tryd.underlying5 rfl hWr rfl (fun _ => hv0)) ?_
        refine TV_cq rfl rfl rfl rfl rfl YtlmbpdlobpcahaaDoorF.cal_25 rfl (fun _ => hszL _) (.drop (by kernel_rfl) (.drop (by kernel_rfl) (.nil))) ?_
        refine TV_q rfl rfl rfl (fun _ => QT_assign rfl rfl rfl) ?_
        refine TV_end ?_
        refine TX_then ?_
        refine TC_seq ?_
        refine TC_reg ?_
        refine TL_q rfl rfl (QT_move rfl rfl rfl) ?_
        refine TL_q rfl rfl (QT_convN rfl rfl Tryd.underlying5 Tryd.underlying3 rfl (IntWalk.i64_in _ ⟨by omega, by omega⟩)) ?_
        refine TL_q rfl rfl (QT_move rfl rfl rfl) ?_
        refine TL_q rfl rfl (QT_rem rfl rfl rfl rfl (fun _ => ⟨by omega, by omega⟩)) ?_
        refine TL_q rfl rfl (QT_to (QT_add rfl rfl rfl rfl (fun _ => ⟨by omega, by omega⟩)) (show 1 + (of : Int) % (m : Int) = (k : Int) by rw [show (of : Int) % (m : Int) = ((of % m : Nat) : Int) from rfl]; omega)) ?_
        refine TL_q rfl rfl (QT_assign rfl rfl rfl) ?_
        refine TL_nil ?_
        refine TX_then ?_
        refine TC_seq ?_
        refine TC_seq ?_
        refine TC_reg ?_
        refine TL_q rfl rfl (QT_move rfl rfl rfl) ?_
        refine TL_q rfl rfl (QT_lss rfl rfl rfl rfl) ?_
        refine TL_q rfl rfl (QT_move rfl rfl rfl) ?_
        refine TL_q rfl rfl (QT_move rfl rfl rfl) ?_
        refine TL_q rfl rfl (QT_move rfl rfl rfl) ?_
        refine TL_q rfl rfl (QT_len rfl rfl Tryd.underlying28 rfl) ?_
        refine TL_q rfl rfl (QT_gtr rfl rfl rfl rfl) ?_
        refine TL_q rfl rfl (QT_or rfl rfl rfl rfl) ?_
        refine TL_nil ?_
        refine TX_then ?_
        refine TC_cond rfl (fun h => absurd (h.symm.trans ((show (_ : Bool) = false by simp only [Bool.or_eq_false_iff, decide_eq_false_iff_not]; omega))) (by decide)) (fun _ => ?_)
        refine TC_skip ?_
        refine TX_then ?_
        refine TC_seq ?_
        refine TC_draw [(0, 0), (1, 0), (2, 0), (3, 0), (4, 0), (5, 0), (6, 0), (7, 1), (8, 0), (9, 0), (10, 0), (11, 0), (12, 0)] YtlmbpdlobpcahaaDoorF.mixed (by kernel_rfl) (St.calm _ _) ?_
        refine TV_ql rfl rfl rfl (QT_loadW (cs := L.cells) 0 rfl rfl Tryd.underlying27 rfl rfl rfl YtlmbpdlobpcahaaDoorF.sz_27) ?_
        refine TV_q rfl rfl rfl (fun _ => QT_move rfl rfl rfl) ?_
        refine TV_q rfl rfl rfl (fun _ => QT_move rfl rfl rfl) ?_
        refine TV_q rfl rfl rfl (fun _ => QT_len rfl rfl Tryd.underlying28 rfl) ?_
        refine TV_q rfl rfl rfl (fun _ => QT_move rfl rfl rfl) ?_
        refine TV_q rfl rfl rfl (fun _ => QT_to (QT_sub rfl rfl rfl rfl (fun _ => ⟨by omega, by omega⟩)) (show (((bytesS L (W ++ [y])).length : Nat) : Int) - (k : Int) = ((tb.length : Nat) : Int) by omega)) ?_
        refine TV_q rfl rfl rfl (fun _ => QT_slcH (tb.length) rfl rfl rfl rfl Tryd.underlying28 YtlmbpdlobpcahaaDoorF.sz_5 rfl rfl rfl (fun _ => by omega)) ?_
        refine TV_e rfl rfl rfl rfl (rfl) (ET_call rfl YtlmbpdlobpcahaaDoorF.cal_11 rfl (sget_spec w0 _ hG L _ tb hfr htb (by omega))) ?_
        rintro _ _ ⟨tv, H4, rfl, hF4, rfl⟩
        refine ⟨_, .drop (by kernel_rfl) (.nil), ?_⟩
        refine TV_q rfl rfl rfl (fun _ => QT_move rfl rfl rfl) ?_
        refine TV_q rfl rfl rfl (fun _ => QT_extract rfl rfl rfl rfl) ?_
        refine TV_q rfl rfl rfl (fun _ => QT_extract rfl rfl rfl rfl) ?_
        refine TV_q rfl rfl rfl (fun _ => QT_assign rfl rfl rfl) ?_
        refine TV_q rfl rfl rfl (fun _ => QT_assign rfl rfl rfl) ?_
        refine TV_end ?_
        refine TX_then ?_
        refine TC_seq ?_
        refine TC_seq ?_
        refine TC_A (St w0 (H1 ++ (H4 ++ η))) (fun w h => h.cnt fun p => by simp only [List.countP_append, List.countP_cons, List.countP_nil]; omega) ?_
        refine TC_reg ?_
        refine TL_q rfl rfl (QT_move rfl rfl rfl) ?_
        refine TL_q rfl rfl (QT_move rfl rfl rfl) ?_
        refine TL_q rfl rfl (QT_lss rfl rfl rfl rfl) ?_
        refine TL_nil ?_
        refine TX_then ?_
        first
          | refine TC_cond_dec rfl (fun h117 => ?_) (fun h117 => ?_)
          | refine TC_cond rfl (fun h117 => ?_) (fun h117 => ?_)
        ·
          have e5 := bp1 (by omega)
          rw [e5]
          rw [outG_bad (by rw [e5]; decide)] at hF4
          obtain ⟨tad, tcap, rfl, _, _⟩ := hF4.slice
          refine TC_seq ?_
          refine TC_reg ?_
          refine TL_q rfl rfl (QT_move rfl rfl rfl) ?_
          refine TL_q rfl rfl (QT_eql rfl rfl rfl rfl) ?_
          refine TL_q rfl rfl (QT_move rfl rfl rfl) ?_
          refine TL_q rfl rfl (QT_move rfl rfl rfl) ?_
          refine TL_q rfl rfl (QT_len rfl rfl Tryd.underlying31 rfl) ?_
          refine TL_q rfl rfl (QT_eql rfl rfl rfl rfl) ?_
          refine TL_q rfl rfl (QT_and rfl rfl rfl rfl) ?_
          refine TL_q rfl rfl (QT_move rfl rfl rfl) ?_
          refine TL_cq rfl rfl rfl rfl YtlmbpdlobpcahaaDoorF.cal_9 rfl (fun _ => lives11 w0 _ hG) ?_
          refine TL_q rfl rfl (QT_and rfl rfl rfl rfl) ?_
          refine TL_q rfl rfl (QT_assign rfl rfl rfl) ?_
          refine TL_nil ?_
          refine TX_then ?_
          refine TC_ret ?_
          refine TX_then_ret ?_
          exact TX_ret (.inl rfl) (res1 rfl rfl) ⟨_, ⟨congrArg Value.bool (show (_ : Bool) = true by rfl), rfl⟩, fun w h => h.app_right.app_right⟩
        ·
          refine TC_skip ?_
          refine TX_then ?_
          refine TC_seq ?_
          obtain ⟨e6, e7⟩ := bp2 (by omega)
          rw [e6]
          rw [e7] at hF4
          refine TC_reg ?_
          refine TL_q rfl rfl (QT_move rfl rfl rfl) ?_
          refine TL_q rfl rfl (QT_eql rfl rfl rfl rfl) ?_
          refine TL_q rfl rfl (QT_move rfl rfl rfl) ?_
          refine TL_q rfl rfl (QT_move rfl rfl rfl) ?_
          refine TL_q rfl rfl (QT_move rfl rfl rfl) ?_
          refine TL_q rfl rfl (QT_move rfl rfl rfl) ?_
          refine TL_q rfl rfl (QT_len rfl rfl Tryd.underlying31 rfl) ?_
          refine TL_q rfl rfl (QT_to (QT_sub rfl rfl rfl rfl (fun _ => ⟨by omega, by omega⟩)) (show (((W ++ [y]).length : Nat) : Int) - 1 = ((W.length : Nat) : Int) by omega)) ?_
          refine TL_q rfl rfl (QT_slcH (W.length) rfl rfl rfl rfl Tryd.underlying31 YtlmbpdlobpcahaaDoorF.sz_71 rfl rfl rfl (fun _ => by omega)) ?_
          refine TL_cq rfl rfl rfl rfl YtlmbpdlobpcahaaDoorF.cal_15 rfl (fun _ => sameOk_Sheets w0 _ _ _ W.length (flatS W) (hF4.within fun p => by simp only [List.countP_append]; omega) (hwf.mono (fun w h => h.cnt fun p => by simp only [List.countP_append, List.countP_cons, List.countP_nil]; omega)) hWFi) ?_
          refine TL_q rfl rfl (QT_and rfl rfl rfl rfl) ?_
          refine TL_q rfl rfl (QT_move rfl rfl rfl) ?_
          refine TL_cq rfl rfl rfl rfl YtlmbpdlobpcahaaDoorF.cal_9 rfl (fun _ => lives11 w0 _ hG) ?_
          refine TL_q rfl rfl (QT_and rfl rfl rfl rfl) ?_
          refine TL_q rfl rfl (QT_assign rfl rfl rfl) ?_
          refine TL_nil ?_
          refine TX_then ?_
          refine TC_ret ?_
          exact TX_ret (.inl rfl) (res1 rfl rfl) ⟨_, ⟨congrArg Value.bool (show (_ : Bool) = true by rfl), rfl⟩, fun w h => h.app_right.app_right⟩
end Go.Proofs.YtlmbpdlobpcahaaDoor

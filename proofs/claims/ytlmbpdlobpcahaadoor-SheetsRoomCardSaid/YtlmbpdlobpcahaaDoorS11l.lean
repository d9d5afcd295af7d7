/- THE CHAPTER's EXAMPLES. -/
import Derived.Test.YtlmbpdlobpcahaaDoorS11j
namespace Go.Proofs.YtlmbpdlobpcahaaDoor
open Go Go.Gx Go.RowKit
set_option maxRecDepth 100000
def ofB (f n : Nat) : List Nat := f :: List.replicate n 7
theorem ofB_len (f n : Nat) : (ofB f n).length = n + 1 := by simp [ofB]
theorem ofB_lt {f n : Nat} (h : f < 256) : ∀ c ∈ ofB f n, c < 256 := by
  intro c hc
  rcases List.mem_cons.1 hc with rfl | hc
  · exact h
  · have := List.eq_of_mem_replicate hc; omega
theorem of_spec (w0 : World) (η : Heap) (f n : Nat) (hf : f < 256) (hn : n ≤ 1000) :
    CallsT Tryd.prog 26 [.int .u8 (f : Int), .int .i64 (n : Int)] (St w0 η) fun v A' => ∃ H, Frag 5 1 v (ofB f n).length (byV (ofB f n)) H ∧ A' = St w0 (H ++ η) := by
  refine CallsT.body Tryd.func26 rfl rfl ?_
  simp only [Tryd.ntmps26, slotsOf, Nat.reduceAdd]
  refine TC_seq ?_
  refine TC_reg ?_
  refine TL_q rfl rfl (QT_assign rfl rfl rfl) ?_
  refine TL_nil ?_
  refine TX_then ?_
  refine TC_seq ?_
  refine TC_reg ?_
  refine TL_q rfl rfl (QT_move rfl rfl rfl) ?_
  refine TL_e rfl rfl rfl (rfl) (ET_buildSlice rfl Tryd.underlying28 YtlmbpdlobpcahaaDoorF.sz_5 YtlmbpdlobpcahaaDoorF.zero_5 rfl rfl rfl) ?_
  rintro _ _ ⟨b8, rfl, rfl⟩
  refine TL_q rfl rfl (QT_assign rfl rfl rfl) ?_
  refine TL_nil ?_
  refine TX_then ?_
  refine TC_seq ?_
  refine TC_seq ?_
  refine TC_reg ?_
  refine TL_q rfl rfl (QT_assign rfl rfl rfl) ?_
  refine TL_nil ?_
  refine TX_then ?_
  refine TC_block ?_
  refine TC_loop (γ := { t : Nat × Value × Heap // t.1 ≤ n ∧ Frag 5 1 t.2.1 (t.1 + 1) (byV (ofB f t.1)) t.2.2 }) (fun u => [(1, true, .int .i64 (n : Int)), (5, true, u.1.2.1), (6, true, .int .i64 (u.1.1 : Int))]) (fun u => St w0 (u.1.2.2 ++ η)) (fun u => n - u.1.1) ⟨(0, _, [(b8, 5, [.int .u8 (f : Int)])]), Nat.zero_le _, ⟨rfl, .inr ⟨b8, 1, [], rfl, ⟨Nat.le_refl 1, show 1 ≤ 9223372036854775807 by decide⟩, Nat.le_refl 1, rfl⟩⟩⟩ ⟨rfl, rfl, rfl, trivial⟩ (fun _ h => h) ?_
  rintro ⟨⟨i, bv, H⟩, hi, hF⟩
  dsimp only at hi hF ⊢
  refine TC_seq ?_
  refine TC_seq ?_
  refine TC_reg ?_
  refine TL_q rfl rfl (QT_move rfl rfl rfl) ?_
  refine TL_q rfl rfl (QT_move rfl rfl rfl) ?_
  refine TL_q rfl rfl (QT_lss rfl rfl rfl rfl) ?_
  refine TL_nil ?_
  refine TX_then ?_
  first
    | refine TC_cond_dec rfl (fun h11 => ?_) (fun h11 => ?_)
    | refine TC_cond rfl (fun h11 => ?_) (fun h11 => ?_)
  ·
    have hi' : i < n := by omega
    refine TC_skip ?_
    refine TX_then ?_
    refine TC_seq ?_
    refine TC_block ?_
    refine TC_reg ?_
    refine TL_q rfl rfl (QT_move rfl rfl rfl) ?_
    refine TL_e rfl rfl rfl (rfl) (ET_buildSlice rfl Tryd.underlying28 YtlmbpdlobpcahaaDoorF.sz_5 YtlmbpdlobpcahaaDoorF.zero_5 rfl rfl rfl) ?_
    rintro _ _ ⟨b15, rfl, rfl⟩
    refine TL_e rfl rfl rfl (rfl) (ET_appendL (L := [_]) rfl Tryd.underlying28 el_Byte rfl rfl hF (fun _ h => h) (SlA.own (n := 1) (xs := [.int .u8 7]) 0 rfl rfl (Nat.le_refl _) (by omega)) (fun u hu => by cases List.mem_singleton.1 hu; rfl) (by omega) (by omega)) ?_
    rintro bv2 _ ⟨H', hF', rfl⟩
    refine TL_q rfl rfl (QT_assign rfl rfl rfl) ?_
    refine TL_nil ?_
    refine TX_block_normal ?_
    refine TX_then ?_
    refine TC_reg ?_
    refine TL_q rfl rfl (QT_move rfl rfl rfl) ?_
    refine TL_q rfl rfl (QT_add rfl rfl rfl rfl (fun _ => ⟨by omega, by omega⟩)) ?_
    refine TL_q rfl rfl (QT_assign rfl rfl rfl) ?_
    refine TL_nil ?_
    exact TX_round ⟨(i + 1, bv2, H'), hi', by rw [show ofB f (i + 1) = ofB f i ++ [7] by simp [ofB, List.replicate_succ'], byV_append]; exact hF'⟩ (by show n - (i + 1) < n - i; omega) ⟨rfl, rfl, rfl, trivial⟩ (fun _ h => h.tail)
  ·
    refine TC_exit ?_
    refine TX_then_exit ?_
    refine TX_then_exit ?_
    refine TX_block_here ?_
    refine TX_then ?_
    refine TC_seq ?_
    refine TC_reg ?_
    refine TL_q rfl rfl (QT_move rfl rfl rfl) ?_
    refine TL_q rfl rfl (QT_assign rfl rfl rfl) ?_
    refine TL_nil ?_
    refine TX_then ?_
    refine TC_ret ?_
    obtain rfl : i = n := by omega
    exact TX_ret (.inl rfl) (res1 rfl rfl) ⟨_, ⟨H, by rw [ofB_len]; exact hF, rfl⟩, fun _ h => h⟩
def L11 : Lay := { ty := 6, co := 8, cm := 8, fl := 8, cs := 1, ro := 0, r := fun _ => 0 }
def L11b : Lay := { L11 with ty := 4 }
def y11 : List Nat := 1 :: (List.replicate 16 7 ++ List.replicate 16 0 ++ [7, 0, 0, 0, 7, 0, 0, 0] ++ List.replicate 8 0)
def z11 : List Nat := y11.set 17 1
theorem l11_1 : errG L11 (ofB 1 18) = 0 ∧ outG L11 (ofB 1 18) = [y11] := by decide +kernel
theorem l11_2 : errG L11 (ofB 1 17) = 5 := by decide +kernel
theorem l11_3 : errG L11 (ofB 0 28) = 0 ∧ (outG L11 (ofB 0 28)).length = 1 := by decide +kernel
theorem l11_4 : errG L11 (ofB 0 28 ++ [3]) = 5 := by decide +kernel
theorem l11_5 : errP L11b [] = 4 := by decide +kernel
theorem l11_6 : errP L11 [z11] = 1 := by decide +kernel
theorem shf_y11 : ShF y11 := ⟨1, y11.tail, rfl, by decide, rfl, fun {p x} h _ => by
    have := List.mem_of_getElem? h
    have : ∀ x ∈ y11.tail, x < 65536 := by decide
    exact Nat.lt_trans (this x (List.mem_of_getElem? h)) (by decide), fun {p x} h _ => by
    have : ∀ x ∈ y11.tail, x < 65536 := by decide
    exact this x (List.mem_of_getElem? h)⟩
theorem shf_z11 : ShF z11 := ⟨1, z11.tail, rfl, by decide, rfl, fun {p x} h _ => by
    have : ∀ x ∈ z11.tail, x < 65536 := by decide
    exact Nat.lt_trans (this x (List.mem_of_getElem? h)) (by decide), fun {p x} h _ => by
    have : ∀ x ∈ z11.tail, x < 65536 := by decide
    exact this x (List.mem_of_getElem? h)⟩
def c11 : List Value := shV y11
theorem eqCol : EqOk Tryd.prog 68 colK := ⟨by kernel_rfl, by kernel_rfl, by kernel_rfl, by kernel_rfl⟩
set_option maxHeartbeats 2000000 in
theorem lives11 (w0 : World) (η : Heap) (hG : Sets w0) :
    CallsT Tryd.prog 9 [] (St w0 η) fun v A' => v = .bool true ∧ A' = St w0 η := by
  refine CallsT.body Tryd.func9 rfl rfl ?_
  simp only [Tryd.ntmps9, slotsOf, Nat.reduceAdd]
  refine TC_seq ?_
  refine TC_reg ?_
  refine TL_q rfl rfl (QT_assign rfl rfl rfl) ?_
  refine TL_nil ?_
  refine TX_then ?_
  refine TC_seq ?_
  refine TC_reg ?_
  refine TL_q rfl rfl (QT_build rfl rfl YtlmbpdlobpcahaaDoorF.zero_27 YtlmbpdlobpcahaaDoorF.pl_27 rfl rfl rfl) ?_
  refine TL_e rfl rfl rfl (rfl) (ET_alloc rfl YtlmbpdlobpcahaaDoorF.zero_27) ?_
  rintro _ _ ⟨b1, rfl, rfl⟩
  first
    | refine TL_e0 rfl rfl (rfl) (ET_storeW 0 rfl rfl rfl YtlmbpdlobpcahaaDoorF.sz_27 rfl rfl rfl) ?_
    | refine TL_e0 rfl rfl (rfl) (ET_storeW 1 rfl rfl rfl YtlmbpdlobpcahaaDoorF.sz_27 rfl rfl rfl) ?_
    | refine TL_e0 rfl rfl (rfl) (ET_storeW 2 rfl rfl rfl YtlmbpdlobpcahaaDoorF.sz_27 rfl rfl rfl) ?_
    | refine TL_e0 rfl rfl (rfl) (ET_store 0 rfl rfl rfl rfl YtlmbpdlobpcahaaDoorF.sz_27 rfl rfl rfl) ?_
    | refine TL_e0 rfl rfl (rfl) (ET_store 1 rfl rfl rfl rfl YtlmbpdlobpcahaaDoorF.sz_27 rfl rfl rfl) ?_
    | refine TL_e0 rfl rfl (rfl) (ET_store 2 rfl rfl rfl rfl YtlmbpdlobpcahaaDoorF.sz_27 rfl rfl rfl) ?_
  rintro _ _ ⟨rfl, rfl⟩
  refine TL_nil ?_
  refine TX_then ?_
  refine TC_seq ?_
  refine TC_A (St w0 ((b1, 27, L11.cells) :: η)) (fun _ h => h) ?_
  refine TC_draw [(0, 0), (1, 1), (2, 1), (3, 0), (4, 0), (5, 0), (6, 0), (7, 0)] YtlmbpdlobpcahaaDoorF.mixed (by kernel_rfl) (St.calm _ _) ?_
  refine TV_ql rfl rfl rfl (QT_loadRAj (cs := L11.cells) (out := L11.cells) 0 rfl rfl Tryd.underlying27 rfl YtlmbpdlobpcahaaDoorF.sz_27 ((Rd.own (w0 := w0) (η := [(b1, 27, L11.cells)]) 0 rfl).mono fun w h => h.cnt fun p => by simp only [List.countP_append, List.countP_cons, List.countP_nil]; omega) rfl (fun _ => Nat.le_refl 18) (fun _ => rfl)) ?_
  refine TV_e rfl rfl rfl rfl (rfl) (ET_call rfl YtlmbpdlobpcahaaDoorF.cal_26 rfl (of_spec w0 _ 1 18 (by decide) (by decide))) ?_
  rintro _ _ ⟨H1, hF1, rfl⟩
  refine ⟨_, .keep (by kernel_rfl) rfl (by first | exact QT_loadRAj (cs := L11.cells) (out := L11.cells) 0 rfl rfl Tryd.underlying27 rfl YtlmbpdlobpcahaaDoorF.sz_27 ((Rd.own (w0 := w0) (η := [(b1, 27, L11.cells)]) 0 rfl).mono fun w h => h.cnt fun p => by simp only [List.countP_append, List.countP_cons, List.countP_nil]; omega) rfl (fun _ => Nat.le_refl 18) (fun _ => rfl)) (.nil), ?_⟩
  refine TV_e rfl rfl rfl rfl (rfl) (ET_call rfl YtlmbpdlobpcahaaDoorF.cal_11 rfl (sget_spec w0 _ hG L11 _ _ hF1.sla (ofB_lt (by decide)) (by decide))) ?_
  rintro _ _ ⟨sv, H2, rfl, hF2, rfl⟩
  refine ⟨_, .drop (by kernel_rfl) (.nil), ?_⟩
  refine TV_q rfl rfl rfl (fun _ => QT_move rfl rfl rfl) ?_
  refine TV_q rfl rfl rfl (fun _ => QT_extract rfl rfl rfl rfl) ?_
  refine TV_q rfl rfl rfl (fun _ => QT_extract rfl rfl rfl rfl) ?_
  refine TV_q rfl rfl rfl (fun _ => QT_assign rfl rfl rfl) ?_
  refine TV_q rfl rfl rfl (fun _ => QT_assign rfl rfl rfl) ?_
  refine TV_end ?_
  refine TX_then ?_
  refine TC_seq ?_
  rw [l11_1.2] at hF2
  simp only [l11_1.1]
  obtain ⟨hfl2, ad2, cap2, sb2, so2, rfl, hcap2, had2, hrd2⟩ := (hF2.sla (w0 := w0) (η := [])).some
  obtain rfl := had2 (by decide)
  refine TC_A (St w0 ((b1, 27, L11.cells) :: (H2 ++ η))) (fun w h => h.cnt fun p => by simp only [List.countP_append, List.countP_cons, List.countP_nil]; omega) ?_
  refine TC_draw [(0, 0), (1, 1), (2, 1), (3, 0), (4, 0), (5, 0), (6, 0), (7, 0)] YtlmbpdlobpcahaaDoorF.mixed (by kernel_rfl) (St.calm _ _) ?_
  refine TV_ql rfl rfl rfl (QT_loadRAj (cs := L11.cells) (out := L11.cells) 0 rfl rfl Tryd.underlying27 rfl YtlmbpdlobpcahaaDoorF.sz_27 ((Rd.own (w0 := w0) (η := [(b1, 27, L11.cells)]) 0 rfl).mono fun w h => h.cnt fun p => by simp only [List.countP_append, List.countP_cons, List.countP_nil]; omega) rfl (fun _ => Nat.le_refl 18) (fun _ => rfl)) ?_
  refine TV_e rfl rfl rfl rfl (rfl) (ET_call rfl YtlmbpdlobpcahaaDoorF.cal_26 rfl (of_spec w0 _ 1 17 (by decide) (by decide))) ?_
  rintro _ _ ⟨H3, hF3, rfl⟩
  refine ⟨_, .keep (by kernel_rfl) rfl (by first | exact QT_loadRAj (cs := L11.cells) (out := L11.cells) 0 rfl rfl Tryd.underlying27 rfl YtlmbpdlobpcahaaDoorF.sz_27 ((Rd.own (w0 := w0) (η := [(b1, 27, L11.cells)]) 0 rfl).mono fun w h => h.cnt fun p => by simp only [List.countP_append, List.countP_cons, List.countP_nil]; omega) rfl (fun _ => Nat.le_refl 18) (fun _ => rfl)) (.nil), ?_⟩
  refine TV_e rfl rfl rfl rfl (rfl) (ET_call rfl YtlmbpdlobpcahaaDoorF.cal_11 rfl (sget_spec w0 _ hG L11 _ _ hF3.sla (ofB_lt (by decide)) (by decide))) ?_
  rintro _ _ ⟨sv4, H4, rfl, hF4, rfl⟩
  refine ⟨_, .drop (by kernel_rfl) (.nil), ?_⟩
  refine TV_q rfl rfl rfl (fun _ => QT_move rfl rfl rfl) ?_
  refine TV_q rfl rfl rfl (fun _ => QT_extract rfl rfl rfl rfl) ?_
  refine TV_q rfl rfl rfl (fun _ => QT_extract rfl rfl rfl rfl) ?_
  refine TV_q rfl rfl rfl (fun _ => QT_assign rfl rfl rfl) ?_
  refine TV_q rfl rfl rfl (fun _ => QT_assign rfl rfl rfl) ?_
  refine TV_end ?_
  refine TX_then ?_
  refine TC_seq ?_
  simp only [l11_2]
  refine TC_A (St w0 ((b1, 27, L11.cells) :: (H2 ++ η))) (fun w h => h.app_right.app_right) ?_
  refine TC_draw [(0, 0), (1, 1), (2, 1), (3, 0), (4, 0), (5, 0), (6, 0), (7, 0)] YtlmbpdlobpcahaaDoorF.mixed (by kernel_rfl) (St.calm _ _) ?_
  refine TV_ql rfl rfl rfl (QT_loadRAj (cs := L11.cells) (out := L11.cells) 0 rfl rfl Tryd.underlying27 rfl YtlmbpdlobpcahaaDoorF.sz_27 ((Rd.own (w0 := w0) (η := [(b1, 27, L11.cells)]) 0 rfl).mono fun w h => h.cnt fun p => by simp only [List.countP_append, List.countP_cons, List.countP_nil]; omega) rfl (fun _ => Nat.le_refl 18) (fun _ => rfl)) ?_
  refine TV_e rfl rfl rfl rfl (rfl) (ET_call rfl YtlmbpdlobpcahaaDoorF.cal_26 rfl (of_spec w0 _ 0 28 (by decide) (by decide))) ?_
  rintro _ _ ⟨H5, hF5, rfl⟩
  refine ⟨_, .keep (by kernel_rfl) rfl (by first | exact QT_loadRAj (cs := L11.cells) (out := L11.cells) 0 rfl rfl Tryd.underlying27 rfl YtlmbpdlobpcahaaDoorF.sz_27 ((Rd.own (w0 := w0) (η := [(b1, 27, L11.cells)]) 0 rfl).mono fun w h => h.cnt fun p => by simp only [List.countP_append, List.countP_cons, List.countP_nil]; omega) rfl (fun _ => Nat.le_refl 18) (fun _ => rfl)) (.nil), ?_⟩
  refine TV_e rfl rfl rfl rfl (rfl) (ET_call rfl YtlmbpdlobpcahaaDoorF.cal_11 rfl (sget_spec w0 _ hG L11 _ _ hF5.sla (ofB_lt (by decide)) (by decide))) ?_
  rintro _ _ ⟨sv6, H6, rfl, hF6, rfl⟩
  refine ⟨_, .drop (by kernel_rfl) (.nil), ?_⟩
  refine TV_q rfl rfl rfl (fun _ => QT_move rfl rfl rfl) ?_
  refine TV_q rfl rfl rfl (fun _ => QT_extract rfl rfl rfl rfl) ?_
  refine TV_q rfl rfl rfl (fun _ => QT_extract rfl rfl rfl rfl) ?_
  refine TV_q rfl rfl rfl (fun _ => QT_assign rfl rfl rfl) ?_
  refine TV_q rfl rfl rfl (fun _ => QT_assign rfl rfl rfl) ?_
  refine TV_end ?_
  refine TX_then ?_
  refine TC_seq ?_
  simp only [l11_3.1]
  rw [l11_3.2] at hF6
  obtain ⟨ad6, cap6, rfl, _, _⟩ := hF6.slice
  refine TC_A (St w0 ((b1, 27, L11.cells) :: (H2 ++ η))) (fun w h => h.app_right.app_right) ?_
  refine TC_draw [(0, 0), (1, 2), (2, 1), (3, 1), (4, 1), (5, 1), (6, 1), (7, 1), (8, 1), (9, 1)] YtlmbpdlobpcahaaDoorF.mixed (by kernel_rfl) (St.calm _ _) ?_
  refine TV_ql rfl rfl rfl (QT_loadRAj (cs := L11.cells) (out := L11.cells) 0 rfl rfl Tryd.underlying27 rfl YtlmbpdlobpcahaaDoorF.sz_27 ((Rd.own (w0 := w0) (η := [(b1, 27, L11.cells)]) 0 rfl).mono fun w h => h.cnt fun p => by simp only [List.countP_append, List.countP_cons, List.countP_nil]; omega) rfl (fun _ => Nat.le_refl 18) (fun _ => rfl)) ?_
  refine TV_two (i := 1) (j := 2) [(2, 1), (3, 1), (4, 1), (5, 0), (6, 0), (7, 0), (8, 0), (9, 0)] [(1, 1), (3, 1), (4, 1), (5, 0), (6, 0), (7, 0), (8, 0), (9, 0)] (by kernel_rfl) ?_ ?_
  ·
    refine TVB_e rfl rfl rfl rfl (rfl) (ET_call rfl YtlmbpdlobpcahaaDoorF.cal_26 rfl (of_spec w0 _ 0 28 (by decide) (by decide))) ?_
    rintro _ _ ⟨H7, hF7, rfl⟩
    refine ⟨_, .keep (by kernel_rfl) rfl (by first | exact QT_loadRAj (cs := L11.cells) (out := L11.cells) 0 rfl rfl Tryd.underlying27 rfl YtlmbpdlobpcahaaDoorF.sz_27 ((Rd.own (w0 := w0) (η := [(b1, 27, L11.cells)]) 0 rfl).mono fun w h => h.cnt fun p => by simp only [List.countP_append, List.countP_cons, List.countP_nil]; omega) rfl (fun _ => Nat.le_refl 18) (fun _ => rfl)) (.nil), ?_⟩
    refine TV_e rfl rfl rfl rfl (rfl) (ET_buildN [.int .u8 3] rfl Tryd.underlying28 YtlmbpdlobpcahaaDoorF.sz_5 YtlmbpdlobpcahaaDoorF.zero_5 rfl rfl rfl (fun v hv => by cases List.mem_singleton.1 hv; rfl)) ?_
    rintro _ _ ⟨b37, rfl, rfl⟩
    refine ⟨_, .keep (by kernel_rfl) rfl (by first | exact QT_loadRAj (cs := L11.cells) (out := L11.cells) 0 rfl rfl Tryd.underlying27 rfl YtlmbpdlobpcahaaDoorF.sz_27 ((Rd.own (w0 := w0) (η := [(b1, 27, L11.cells)]) 0 rfl).mono fun w h => h.cnt fun p => by simp only [List.countP_append, List.countP_cons, List.countP_nil]; omega) rfl (fun _ => Nat.le_refl 18) (fun _ => rfl)) (.nil), ?_⟩
    refine TV_e rfl rfl rfl rfl (rfl) (ET_appendL (η := (b1, 27, L11.cells) :: (H2 ++ η)) (L := []) rfl Tryd.underlying28 el_Byte rfl rfl hF7 (fun w h => h.cnt fun p => by simp only [List.countP_append, List.countP_cons, List.countP_nil]; omega) ((SlA.own (w0 := w0) (η := [(b37, 5, (List.map (fun v : Value => v.cells.toList) [Value.int .u8 3]).flatten)]) (n := 1) (xs := [.int .u8 3]) 0 rfl rfl (Nat.le_refl _) (by omega)).mono fun w h => h.cnt fun p => by simp only [List.countP_append, List.countP_cons, List.countP_nil]; omega) (fun u hu => by cases List.mem_singleton.1 hu; rfl) (by decide) (by decide)) ?_
    rintro av _ ⟨H8, hF8, rfl⟩
    refine ⟨_, .keep (by kernel_rfl) rfl (by first | exact QT_loadRAj (cs := L11.cells) (out := L11.cells) 0 rfl rfl Tryd.underlying27 rfl YtlmbpdlobpcahaaDoorF.sz_27 ((Rd.own (w0 := w0) (η := [(b1, 27, L11.cells)]) 0 rfl).mono fun w h => h.cnt fun p => by simp only [List.countP_append, List.countP_cons, List.countP_nil]; omega) rfl (fun _ => Nat.le_refl 18) (fun _ => rfl)) (.nil), ?_⟩
    have hF9 : Frag 5 1 av (ofB 0 28 ++ [3]).length (byV (ofB 0 28 ++ [3])) H8 := by rw [List.length_append, byV_append]; exact hF8
    refine TV_e rfl rfl rfl rfl (rfl) (ET_call rfl YtlmbpdlobpcahaaDoorF.cal_11 rfl (sget_spec w0 _ hG L11 _ _ hF9.sla (fun c hc => by rcases List.mem_append.1 hc with hc | hc; exact ofB_lt (by decide) c hc; cases List.mem_singleton.1 hc; decide) (by decide))) ?_
    rintro _ _ ⟨sv9, H9, rfl, hF9', rfl⟩
    refine ⟨_, .drop (by kernel_rfl) (.nil), ?_⟩
    refine TV_q rfl rfl rfl (fun _ => QT_move rfl rfl rfl) ?_
    refine TV_q rfl rfl rfl (fun _ => QT_extract rfl rfl rfl rfl) ?_
    refine TV_q rfl rfl rfl (fun _ => QT_extract rfl rfl rfl rfl) ?_
    refine TV_q rfl rfl rfl (fun _ => QT_assign rfl rfl rfl) ?_
    refine TV_q rfl rfl rfl (fun _ => QT_assign rfl rfl rfl) ?_
    refine TV_end ?_
    refine TX_then ?_
    refine TC_seq ?_
    refine TC_seq ?_
    simp only [l11_4]
    refine TC_A (St w0 ((b1, 27, L11.cells) :: (H2 ++ η))) (fun w h => h.cnt fun p => by simp only [List.countP_append, List.countP_cons, List.countP_nil]; omega) ?_
    refine TC_reg ?_
    refine TL_q rfl rfl (QT_move rfl rfl rfl) ?_
    refine TL_q rfl rfl (QT_len rfl rfl Tryd.underlying31 rfl) ?_
    refine TL_q rfl rfl (QT_neq rfl rfl rfl rfl) ?_
    refine TL_q rfl rfl (QT_move rfl rfl rfl) ?_
    refine TL_q rfl rfl (QT_move rfl rfl rfl) ?_
    refine TL_q rfl rfl (QT_neq rfl rfl rfl rfl) ?_
    refine TL_q rfl rfl (QT_or rfl rfl rfl rfl) ?_
    refine TL_q rfl rfl (QT_move rfl rfl rfl) ?_
    refine TL_q rfl rfl (QT_move rfl rfl rfl) ?_
    refine TL_q rfl rfl (QT_neq rfl rfl rfl rfl) ?_
    refine TL_q rfl rfl (QT_or rfl rfl rfl rfl) ?_
    refine TL_q rfl rfl (QT_move rfl rfl rfl) ?_
    refine TL_q rfl rfl (QT_move rfl rfl rfl) ?_
    refine TL_q rfl rfl (QT_len rfl rfl Tryd.underlying31 rfl) ?_
    refine TL_q rfl rfl (QT_neq rfl rfl rfl rfl) ?_
    refine TL_q rfl rfl (QT_or rfl rfl rfl rfl) ?_
    refine TL_q rfl rfl (QT_move rfl rfl rfl) ?_
    refine TL_q rfl rfl (QT_move rfl rfl rfl) ?_
    refine TL_q rfl rfl (QT_neq rfl rfl rfl rfl) ?_
    refine TL_q rfl rfl (QT_or rfl rfl rfl rfl) ?_
    refine TL_q rfl rfl (QT_move rfl rfl rfl) ?_
    refine TL_q rfl rfl (QT_move rfl rfl rfl) ?_
    refine TL_q rfl rfl (QT_neq rfl rfl rfl rfl) ?_
    refine TL_q rfl rfl (QT_or rfl rfl rfl rfl) ?_
    refine TL_nil ?_
    refine TX_then ?_
    refine TC_cond rfl (fun h => absurd (h.symm.trans ((show (_ : Bool) = false by rfl))) (by decide)) (fun _ => ?_)
    refine TC_skip ?_
    refine TX_then ?_
    refine TC_seq ?_
    refine TC_reg ?_
    refine TL_q rfl rfl (QT_build rfl rfl YtlmbpdlobpcahaaDoorF.zero_27 YtlmbpdlobpcahaaDoorF.pl_27 rfl rfl rfl) ?_
    refine TL_e rfl rfl rfl (rfl) (ET_call rfl YtlmbpdlobpcahaaDoorF.cal_19 rfl (sput_spec w0 _ hG L11b (.slice none 0 0) [] ((Frag.nil 71 49).sla (H := [])) (fun _ h => absurd h List.not_mem_nil) (by decide))) ?_
    rintro _ _ ⟨bv10, H10, rfl, hF10, rfl⟩
    refine TL_q rfl rfl (QT_move rfl rfl rfl) ?_
    refine TL_q rfl rfl (QT_extract rfl rfl rfl rfl) ?_
    refine TL_q rfl rfl (QT_extract rfl rfl rfl rfl) ?_
    refine TL_q rfl rfl (QT_assign rfl rfl rfl) ?_
    refine TL_q rfl rfl (QT_assign rfl rfl rfl) ?_
    refine TL_nil ?_
    refine TX_then ?_
    refine TC_seq ?_
    simp only [l11_5]
    refine TC_A (St w0 ((b1, 27, L11.cells) :: (H2 ++ η))) (fun w h => h.app_right) ?_
    have hyl : (shV y11).length = 49 := shV_len rfl
    have hyz : Sz Tryd.prog 71 (shV y11).length := by rw [hyl]; exact YtlmbpdlobpcahaaDoorF.sz_71
    have hzl : (shV z11).length = 49 := shV_len rfl
    have hzz : Sz Tryd.prog 71 (shV z11).length := by rw [hzl]; exact YtlmbpdlobpcahaaDoorF.sz_71
    have hset : setAt (shV y11) (0 + 1 + 8 * 2 + 0) [.int .u32 1] = shV z11 := shV_set (xs := y11) (p := 17) (v := 1) (by decide)
    have hR : ∀ {X : Heap}, (∀ w, St w0 X w → St w0 (H2 ++ []) w) → Rd (St w0 X) sb2 so2 (flatS [y11]) := fun h => hrd2.mono h
    have hfs : flatS [y11] = shV y11 := by simp [flatS]
    rw [hfs] at hR
    refine TC_reg ?_
    refine TL_q rfl rfl (QT_move rfl rfl rfl) ?_
    refine TL_q rfl rfl (QT_indexG 0 rfl rfl Tryd.underlying31 YtlmbpdlobpcahaaDoorF.sz_71 rfl rfl rfl (fun _ => by decide) (fun _ => rfl)) ?_
    refine TL_q rfl rfl (QT_loadRAj (out := shV y11) 0 rfl rfl Tryd.underlying71 rfl YtlmbpdlobpcahaaDoorF.sz_71 (hR (fun w h => h.cnt fun p => by simp only [List.countP_append, List.countP_cons, List.countP_nil]; omega)) rfl (fun _ => by rw [hyl]; decide) (fun _ => by rw [List.drop_zero, List.take_of_length_le (by rw [hyl]; decide)])) ?_
    refine TL_e rfl rfl rfl (rfl) (ET_alloc rfl YtlmbpdlobpcahaaDoorF.zero_71) ?_
    rintro _ _ ⟨b12, rfl, rfl⟩
    refine TL_e0 rfl rfl (rfl) (ET_storeW (vs := shV y11) 0 rfl rfl rfl hyz rfl (List.all_eq_true.2 (shV_ints shf_y11).oneCell) (by rw [hyl]; rfl)) ?_
    rintro _ _ ⟨rfl, rfl⟩
    refine TL_nil ?_
    refine TX_then ?_
    refine TC_seq ?_
    refine TC_reg ?_
    refine TL_q rfl rfl (QT_field rfl rfl YtlmbpdlobpcahaaDoorF.fld_71_1 rfl) ?_
    refine TL_q rfl rfl (QT_indexArr (8) rfl rfl Tryd.underlying65 YtlmbpdlobpcahaaDoorF.sz_64 rfl rfl (rfl) (fun _ => by decide)) ?_
    refine TL_q rfl rfl (QT_field rfl rfl YtlmbpdlobpcahaaDoorF.fld_64_0 rfl) ?_
    refine TL_e0 rfl rfl (rfl) (ET_store (vs := [.int .u32 1]) 0 rfl rfl rfl rfl YtlmbpdlobpcahaaDoorF.sz_62 rfl rfl (Nat.ble_eq_true_of_le (by rw [hyl]; decide))) ?_
    rintro _ _ ⟨rfl, rfl⟩
    refine TL_nil ?_
    refine TX_then ?_
    refine TC_seq ?_
    refine TC_A (St w0 ((b12, 71, shV z11) :: (b1, 27, L11.cells) :: (H2 ++ η))) (fun w h => by
      rw [← hset]; exact h) ?_
    refine TC_reg ?_
    refine TL_q rfl rfl (QT_loadRAj (cs := L11.cells) (out := L11.cells) 0 rfl rfl Tryd.underlying27 rfl YtlmbpdlobpcahaaDoorF.sz_27 ((Rd.own (w0 := w0) (η := [(b1, 27, L11.cells)]) 0 rfl).mono fun w h => h.cnt fun p => by simp only [List.countP_append, List.countP_cons, List.countP_nil]; omega) rfl (fun _ => Nat.le_refl 18) (fun _ => rfl)) ?_
    refine TL_q rfl rfl (QT_loadW (cs := shV z11) 0 rfl rfl Tryd.underlying71 rfl rfl rfl hzz) ?_
    refine TL_e rfl rfl rfl (rfl) (ET_buildN [_] rfl Tryd.underlying31 YtlmbpdlobpcahaaDoorF.sz_71 YtlmbpdlobpcahaaDoorF.zero_71 rfl rfl rfl (fun v hv => by cases List.mem_singleton.1 hv; exact hzl)) ?_
    rintro _ _ ⟨b80, rfl, rfl⟩
    refine TL_e rfl rfl rfl (rfl) (ET_call rfl YtlmbpdlobpcahaaDoorF.cal_19 rfl (sput_spec w0 _ hG L11 _ [z11] (SlA.own (n := 1) (xs := flatS [z11]) 0 rfl (by rw [show flatS [z11] = shV z11 by simp [flatS], List.drop_zero, List.take_of_length_le (by simp [Value.cells, hzl])]; simp [Value.cells]) (by simp [Value.cells, hzl]) (by omega)) (fun y hy => by cases List.mem_singleton.1 hy; exact shf_z11) (by decide))) ?_
    rintro _ _ ⟨bv11, H11, rfl, hF11, rfl⟩
    refine TL_q rfl rfl (QT_move rfl rfl rfl) ?_
    refine TL_q rfl rfl (QT_extract rfl rfl rfl rfl) ?_
    refine TL_q rfl rfl (QT_extract rfl rfl rfl rfl) ?_
    refine TL_q rfl rfl (QT_assign rfl rfl rfl) ?_
    refine TL_q rfl rfl (QT_assign rfl rfl rfl) ?_
    refine TL_nil ?_
    refine TX_then ?_
    refine TC_seq ?_
    simp only [l11_6]
    refine TC_A (St w0 (H2 ++ η)) (fun w h => h.cnt fun p => by simp only [List.countP_append, List.countP_cons, List.countP_nil]; omega) ?_
    refine TC_reg ?_
    refine TL_q rfl rfl (QT_move rfl rfl rfl) ?_
    refine TL_q rfl rfl (QT_indexG 0 rfl rfl Tryd.underlying31 YtlmbpdlobpcahaaDoorF.sz_71 rfl rfl rfl (fun _ => by decide) (fun _ => rfl)) ?_
    refine TL_q rfl rfl (QT_field rfl rfl YtlmbpdlobpcahaaDoorF.fld_71_0 rfl) ?_
    refine TL_q rfl rfl (QT_loadRj (v := .int .u8 1) 0 rfl rfl Tryd.underlying5 rfl (hR (fun w h => h.cnt fun p => by simp only [List.countP_append, List.countP_cons, List.countP_nil]; omega)) rfl (fun _ => by kernel_rfl)) ?_
    refine TL_q rfl rfl (QT_eql rfl rfl rfl rfl) ?_
    refine TL_q rfl rfl (QT_move rfl rfl rfl) ?_
    refine TL_q rfl rfl (QT_move rfl rfl rfl) ?_
    refine TL_q rfl rfl (QT_indexG 0 rfl rfl Tryd.underlying31 YtlmbpdlobpcahaaDoorF.sz_71 rfl rfl rfl (fun _ => by decide) (fun _ => rfl)) ?_
    refine TL_q rfl rfl (QT_field rfl rfl YtlmbpdlobpcahaaDoorF.fld_71_1 rfl) ?_
    refine TL_q rfl rfl (QT_indexArr (7) rfl rfl Tryd.underlying65 YtlmbpdlobpcahaaDoorF.sz_64 rfl rfl (rfl) (fun _ => by decide)) ?_
    refine TL_q rfl rfl (QT_loadRAj (out := [.int .u32 7, .int .u32 7]) 15 rfl rfl Tryd.underlying64 rfl YtlmbpdlobpcahaaDoorF.sz_64 (hR (fun w h => h.cnt fun p => by simp only [List.countP_append, List.countP_cons, List.countP_nil]; omega)) rfl (fun _ => by rw [hyl]; decide) (fun _ => by kernel_rfl)) ?_
    refine TL_q rfl rfl (QT_build rfl rfl YtlmbpdlobpcahaaDoorF.zero_64 YtlmbpdlobpcahaaDoorF.pl_64 rfl rfl rfl) ?_
    refine TL_q rfl rfl (QT_eqA (ks := spotK) rfl rfl eq0 rfl rfl (fun _ => .cons rfl (.cons rfl .nil)) (fun _ => .cons rfl (.cons rfl .nil))) ?_
    refine TL_q rfl rfl (QT_and rfl rfl rfl rfl) ?_
    refine TL_q rfl rfl (QT_move rfl rfl rfl) ?_
    refine TL_q rfl rfl (QT_move rfl rfl rfl) ?_
    refine TL_q rfl rfl (QT_indexG 0 rfl rfl Tryd.underlying31 YtlmbpdlobpcahaaDoorF.sz_71 rfl rfl rfl (fun _ => by decide) (fun _ => rfl)) ?_
    refine TL_q rfl rfl (QT_field rfl rfl YtlmbpdlobpcahaaDoorF.fld_71_1 rfl) ?_
    refine TL_q rfl rfl (QT_indexArr (8) rfl rfl Tryd.underlying65 YtlmbpdlobpcahaaDoorF.sz_64 rfl rfl (rfl) (fun _ => by decide)) ?_
    refine TL_q rfl rfl (QT_loadRAj (out := [.int .u32 0, .int .u32 0]) 17 rfl rfl Tryd.underlying64 rfl YtlmbpdlobpcahaaDoorF.sz_64 (hR (fun w h => h.cnt fun p => by simp only [List.countP_append, List.countP_cons, List.countP_nil]; omega)) rfl (fun _ => by rw [hyl]; decide) (fun _ => by kernel_rfl)) ?_
    refine TL_q rfl rfl (QT_build rfl rfl YtlmbpdlobpcahaaDoorF.zero_64 YtlmbpdlobpcahaaDoorF.pl_64 rfl rfl rfl) ?_
    refine TL_q rfl rfl (QT_eqA (ks := spotK) rfl rfl eq0 rfl rfl (fun _ => .cons rfl (.cons rfl .nil)) (fun _ => .cons rfl (.cons rfl .nil))) ?_
    refine TL_q rfl rfl (QT_and rfl rfl rfl rfl) ?_
    refine TL_q rfl rfl (QT_move rfl rfl rfl) ?_
    refine TL_q rfl rfl (QT_move rfl rfl rfl) ?_
    refine TL_q rfl rfl (QT_indexG 0 rfl rfl Tryd.underlying31 YtlmbpdlobpcahaaDoorF.sz_71 rfl rfl rfl (fun _ => by decide) (fun _ => rfl)) ?_
    refine TL_q rfl rfl (QT_field rfl rfl YtlmbpdlobpcahaaDoorF.fld_71_2 rfl) ?_
    refine TL_q rfl rfl (QT_indexArr (1) rfl rfl Tryd.underlying69 YtlmbpdlobpcahaaDoorF.sz_68 rfl rfl (rfl) (fun _ => by decide)) ?_
    refine TL_q rfl rfl (QT_loadRAj (out := [.int .u16 7, .int .u16 0, .int .u16 0, .int .u16 0]) 37 rfl rfl Tryd.underlying68 rfl YtlmbpdlobpcahaaDoorF.sz_68 (hR (fun w h => h.cnt fun p => by simp only [List.countP_append, List.countP_cons, List.countP_nil]; omega)) rfl (fun _ => by rw [hyl]; decide) (fun _ => by kernel_rfl)) ?_
    refine TL_q rfl rfl (QT_buildArr rfl rfl YtlmbpdlobpcahaaDoorF.zero_68 Tryd.underlying68 YtlmbpdlobpcahaaDoorF.sz_66 rfl rfl rfl) ?_
    refine TL_q rfl rfl (QT_eqA (ks := colK) rfl rfl eqCol rfl rfl (fun _ => .cons rfl (.cons rfl (.cons rfl (.cons rfl .nil)))) (fun _ => .cons rfl (.cons rfl (.cons rfl (.cons rfl .nil))))) ?_
    refine TL_q rfl rfl (QT_and rfl rfl rfl rfl) ?_
    refine TL_q rfl rfl (QT_move rfl rfl rfl) ?_
    refine TL_q rfl rfl (QT_move rfl rfl rfl) ?_
    refine TL_q rfl rfl (QT_indexG 0 rfl rfl Tryd.underlying31 YtlmbpdlobpcahaaDoorF.sz_71 rfl rfl rfl (fun _ => by decide) (fun _ => rfl)) ?_
    refine TL_q rfl rfl (QT_field rfl rfl YtlmbpdlobpcahaaDoorF.fld_71_2 rfl) ?_
    refine TL_q rfl rfl (QT_indexArr (2) rfl rfl Tryd.underlying69 YtlmbpdlobpcahaaDoorF.sz_68 rfl rfl (rfl) (fun _ => by decide)) ?_
    refine TL_q rfl rfl (QT_loadRAj (out := [.int .u16 0, .int .u16 0, .int .u16 0, .int .u16 0]) 41 rfl rfl Tryd.underlying68 rfl YtlmbpdlobpcahaaDoorF.sz_68 (hR (fun w h => h.cnt fun p => by simp only [List.countP_append, List.countP_cons, List.countP_nil]; omega)) rfl (fun _ => by rw [hyl]; decide) (fun _ => by kernel_rfl)) ?_
    refine TL_q rfl rfl (QT_buildArr rfl rfl YtlmbpdlobpcahaaDoorF.zero_68 Tryd.underlying68 YtlmbpdlobpcahaaDoorF.sz_66 rfl rfl rfl) ?_
    refine TL_q rfl rfl (QT_eqA (ks := colK) rfl rfl eqCol rfl rfl (fun _ => .cons rfl (.cons rfl (.cons rfl (.cons rfl .nil)))) (fun _ => .cons rfl (.cons rfl (.cons rfl (.cons rfl .nil))))) ?_
    refine TL_q rfl rfl (QT_and rfl rfl rfl rfl) ?_
    refine TL_q rfl rfl (QT_move rfl rfl rfl) ?_
    refine TL_q rfl rfl (QT_move rfl rfl rfl) ?_
    refine TL_q rfl rfl (QT_eql rfl rfl rfl rfl) ?_
    refine TL_q rfl rfl (QT_and rfl rfl rfl rfl) ?_
    refine TL_q rfl rfl (QT_move rfl rfl rfl) ?_
    refine TL_q rfl rfl (QT_move rfl rfl rfl) ?_
    refine TL_q rfl rfl (QT_eql rfl rfl rfl rfl) ?_
    refine TL_q rfl rfl (QT_and rfl rfl rfl rfl) ?_
    refine TL_q rfl rfl (QT_assign rfl rfl rfl) ?_
    refine TL_nil ?_
    refine TX_then ?_
    refine TC_ret ?_
    exact TX_ret (.inl rfl) (res1 rfl rfl) ⟨_, ⟨congrArg Value.bool (show (_ : Bool) = true by decide), rfl⟩, fun _ h => h.app_right⟩
  ·
    refine TVB_e rfl rfl rfl rfl (rfl) (ET_buildN [.int .u8 3] rfl Tryd.underlying28 YtlmbpdlobpcahaaDoorF.sz_5 YtlmbpdlobpcahaaDoorF.zero_5 rfl rfl rfl (fun v hv => by cases List.mem_singleton.1 hv; rfl)) ?_
    rintro _ _ ⟨b37, rfl, rfl⟩
    refine ⟨_, .keep (by kernel_rfl) rfl (by first | exact QT_loadRAj (cs := L11.cells) (out := L11.cells) 0 rfl rfl Tryd.underlying27 rfl YtlmbpdlobpcahaaDoorF.sz_27 ((Rd.own (w0 := w0) (η := [(b1, 27, L11.cells)]) 0 rfl).mono fun w h => h.cnt fun p => by simp only [List.countP_append, List.countP_cons, List.countP_nil]; omega) rfl (fun _ => Nat.le_refl 18) (fun _ => rfl)) (.nil), ?_⟩
    refine TV_e rfl rfl rfl rfl (rfl) (ET_call rfl YtlmbpdlobpcahaaDoorF.cal_26 rfl (of_spec w0 _ 0 28 (by decide) (by decide))) ?_
    rintro _ _ ⟨H7, hF7, rfl⟩
    refine ⟨_, .keep (by kernel_rfl) rfl (by first | exact QT_loadRAj (cs := L11.cells) (out := L11.cells) 0 rfl rfl Tryd.underlying27 rfl YtlmbpdlobpcahaaDoorF.sz_27 ((Rd.own (w0 := w0) (η := [(b1, 27, L11.cells)]) 0 rfl).mono fun w h => h.cnt fun p => by simp only [List.countP_append, List.countP_cons, List.countP_nil]; omega) rfl (fun _ => Nat.le_refl 18) (fun _ => rfl)) (.nil), ?_⟩
    refine TV_e rfl rfl rfl rfl (rfl) (ET_appendL (η := (b1, 27, L11.cells) :: (H2 ++ η)) (L := []) rfl Tryd.underlying28 el_Byte rfl rfl hF7 (fun w h => h.cnt fun p => by simp only [List.countP_append, List.countP_cons, List.countP_nil]; omega) ((SlA.own (w0 := w0) (η := [(b37, 5, (List.map (fun v : Value => v.cells.toList) [Value.int .u8 3]).flatten)]) (n := 1) (xs := [.int .u8 3]) 0 rfl rfl (Nat.le_refl _) (by omega)).mono fun w h => h.cnt fun p => by simp only [List.countP_append, List.countP_cons, List.countP_nil]; omega) (fun u hu => by cases List.mem_singleton.1 hu; rfl) (by decide) (by decide)) ?_
    rintro av _ ⟨H8, hF8, rfl⟩
    refine ⟨_, .keep (by kernel_rfl) rfl (by first | exact QT_loadRAj (cs := L11.cells) (out := L11.cells) 0 rfl rfl Tryd.underlying27 rfl YtlmbpdlobpcahaaDoorF.sz_27 ((Rd.own (w0 := w0) (η := [(b1, 27, L11.cells)]) 0 rfl).mono fun w h => h.cnt fun p => by simp only [List.countP_append, List.countP_cons, List.countP_nil]; omega) rfl (fun _ => Nat.le_refl 18) (fun _ => rfl)) (.nil), ?_⟩
    have hF9 : Frag 5 1 av (ofB 0 28 ++ [3]).length (byV (ofB 0 28 ++ [3])) H8 := by rw [List.length_append, byV_append]; exact hF8
    refine TV_e rfl rfl rfl rfl (rfl) (ET_call rfl YtlmbpdlobpcahaaDoorF.cal_11 rfl (sget_spec w0 _ hG L11 _ _ hF9.sla (fun c hc => by rcases List.mem_append.1 hc with hc | hc; exact ofB_lt (by decide) c hc; cases List.mem_singleton.1 hc; decide) (by decide))) ?_
    rintro _ _ ⟨sv9, H9, rfl, hF9', rfl⟩
    refine ⟨_, .drop (by kernel_rfl) (.nil), ?_⟩
    refine TV_q rfl rfl rfl (fun _ => QT_move rfl rfl rfl) ?_
    refine TV_q rfl rfl rfl (fun _ => QT_extract rfl rfl rfl rfl) ?_
    refine TV_q rfl rfl rfl (fun _ => QT_extract rfl rfl rfl rfl) ?_
    refine TV_q rfl rfl rfl (fun _ => QT_assign rfl rfl rfl) ?_
    refine TV_q rfl rfl rfl (fun _ => QT_assign rfl rfl rfl) ?_
    refine TV_end ?_
    refine TX_then ?_
    refine TC_seq ?_
    refine TC_seq ?_
    simp only [l11_4]
    refine TC_A (St w0 ((b1, 27, L11.cells) :: (H2 ++ η))) (fun w h => h.cnt fun p => by simp only [List.countP_append, List.countP_cons, List.countP_nil]; omega) ?_
    refine TC_reg ?_
    refine TL_q rfl rfl (QT_move rfl rfl rfl) ?_
    refine TL_q rfl rfl (QT_len rfl rfl Tryd.underlying31 rfl) ?_
    refine TL_q rfl rfl (QT_neq rfl rfl rfl rfl) ?_
    refine TL_q rfl rfl (QT_move rfl rfl rfl) ?_
    refine TL_q rfl rfl (QT_move rfl rfl rfl) ?_
    refine TL_q rfl rfl (QT_neq rfl rfl rfl rfl) ?_
    refine TL_q rfl rfl (QT_or rfl rfl rfl rfl) ?_
    refine TL_q rfl rfl (QT_move rfl rfl rfl) ?_
    refine TL_q rfl rfl (QT_move rfl rfl rfl) ?_
    refine TL_q rfl rfl (QT_neq rfl rfl rfl rfl) ?_
    refine TL_q rfl rfl (QT_or rfl rfl rfl rfl) ?_
    refine TL_q rfl rfl (QT_move rfl rfl rfl) ?_
    refine TL_q rfl rfl (QT_move rfl rfl rfl) ?_
    refine TL_q rfl rfl (QT_len rfl rfl Tryd.underlying31 rfl) ?_
    refine TL_q rfl rfl (QT_neq rfl rfl rfl rfl) ?_
    refine TL_q rfl rfl (QT_or rfl rfl rfl rfl) ?_
    refine TL_q rfl rfl (QT_move rfl rfl rfl) ?_
    refine TL_q rfl rfl (QT_move rfl rfl rfl) ?_
    refine TL_q rfl rfl (QT_neq rfl rfl rfl rfl) ?_
    refine TL_q rfl rfl (QT_or rfl rfl rfl rfl) ?_
    refine TL_q rfl rfl (QT_move rfl rfl rfl) ?_
    refine TL_q rfl rfl (QT_move rfl rfl rfl) ?_
    refine TL_q rfl rfl (QT_neq rfl rfl rfl rfl) ?_
    refine TL_q rfl rfl (QT_or rfl rfl rfl rfl) ?_
    refine TL_nil ?_
    refine TX_then ?_
    refine TC_cond rfl (fun h => absurd (h.symm.trans ((show (_ : Bool) = false by rfl))) (by decide)) (fun _ => ?_)
    refine TC_skip ?_
    refine TX_then ?_
    refine TC_seq ?_
    refine TC_reg ?_
    refine TL_q rfl rfl (QT_build rfl rfl YtlmbpdlobpcahaaDoorF.zero_27 YtlmbpdlobpcahaaDoorF.pl_27 rfl rfl rfl) ?_
    refine TL_e rfl rfl rfl (rfl) (ET_call rfl YtlmbpdlobpcahaaDoorF.cal_19 rfl (sput_spec w0 _ hG L11b (.slice none 0 0) [] ((Frag.nil 71 49).sla (H := [])) (fun _ h => absurd h List.not_mem_nil) (by decide))) ?_
    rintro _ _ ⟨bv10, H10, rfl, hF10, rfl⟩
    refine TL_q rfl rfl (QT_move rfl rfl rfl) ?_
    refine TL_q rfl rfl (QT_extract rfl rfl rfl rfl) ?_
    refine TL_q rfl rfl (QT_extract rfl rfl rfl rfl) ?_
    refine TL_q rfl rfl (QT_assign rfl rfl rfl) ?_
    refine TL_q rfl rfl (QT_assign rfl rfl rfl) ?_
    refine TL_nil ?_
    refine TX_then ?_
    refine TC_seq ?_
    simp only [l11_5]
    refine TC_A (St w0 ((b1, 27, L11.cells) :: (H2 ++ η))) (fun w h => h.app_right) ?_
    have hyl : (shV y11).length = 49 := shV_len rfl
    have hyz : Sz Tryd.prog 71 (shV y11).length := by rw [hyl]; exact YtlmbpdlobpcahaaDoorF.sz_71
    have hzl : (shV z11).length = 49 := shV_len rfl
    have hzz : Sz Tryd.prog 71 (shV z11).length := by rw [hzl]; exact YtlmbpdlobpcahaaDoorF.sz_71
    have hset : setAt (shV y11) (0 + 1 + 8 * 2 + 0) [.int .u32 1] = shV z11 := shV_set (xs := y11) (p := 17) (v := 1) (by decide)
    have hR : ∀ {X : Heap}, (∀ w, St w0 X w → St w0 (H2 ++ []) w) → Rd (St w0 X) sb2 so2 (flatS [y11]) := fun h => hrd2.mono h
    have hfs : flatS [y11] = shV y11 := by simp [flatS]
    rw [hfs] at hR
    refine TC_reg ?_
    refine TL_q rfl rfl (QT_move rfl rfl rfl) ?_
    refine TL_q rfl rfl (QT_indexG 0 rfl rfl Tryd.underlying31 YtlmbpdlobpcahaaDoorF.sz_71 rfl rfl rfl (fun _ => by decide) (fun _ => rfl)) ?_
    refine TL_q rfl rfl (QT_loadRAj (out := shV y11) 0 rfl rfl Tryd.underlying71 rfl YtlmbpdlobpcahaaDoorF.sz_71 (hR (fun w h => h.cnt fun p => by simp only [List.countP_append, List.countP_cons, List.countP_nil]; omega)) rfl (fun _ => by rw [hyl]; decide) (fun _ => by rw [List.drop_zero, List.take_of_length_le (by rw [hyl]; decide)])) ?_
    refine TL_e rfl rfl rfl (rfl) (ET_alloc rfl YtlmbpdlobpcahaaDoorF.zero_71) ?_
    rintro _ _ ⟨b12, rfl, rfl⟩
    refine TL_e0 rfl rfl (rfl) (ET_storeW (vs := shV y11) 0 rfl rfl rfl hyz rfl (List.all_eq_true.2 (shV_ints shf_y11).oneCell) (by rw [hyl]; rfl)) ?_
    rintro _ _ ⟨rfl, rfl⟩
    refine TL_nil ?_
    refine TX_then ?_
    refine TC_seq ?_
    refine TC_reg ?_
    refine TL_q rfl rfl (QT_field rfl rfl YtlmbpdlobpcahaaDoorF.fld_71_1 rfl) ?_
    refine TL_q rfl rfl (QT_indexArr (8) rfl rfl Tryd.underlying65 YtlmbpdlobpcahaaDoorF.sz_64 rfl rfl (rfl) (fun _ => by decide)) ?_
    refine TL_q rfl rfl (QT_field rfl rfl YtlmbpdlobpcahaaDoorF.fld_64_0 rfl) ?_
    refine TL_e0 rfl rfl (rfl) (ET_store (vs := [.int .u32 1]) 0 rfl rfl rfl rfl YtlmbpdlobpcahaaDoorF.sz_62 rfl rfl (Nat.ble_eq_true_of_le (by rw [hyl]; decide))) ?_
    rintro _ _ ⟨rfl, rfl⟩
    refine TL_nil ?_
    refine TX_then ?_
    refine TC_seq ?_
    refine TC_A (St w0 ((b12, 71, shV z11) :: (b1, 27, L11.cells) :: (H2 ++ η))) (fun w h => by
      rw [← hset]; exact h) ?_
    refine TC_reg ?_
    refine TL_q rfl rfl (QT_loadRAj (cs := L11.cells) (out := L11.cells) 0 rfl rfl Tryd.underlying27 rfl YtlmbpdlobpcahaaDoorF.sz_27 ((Rd.own (w0 := w0) (η := [(b1, 27, L11.cells)]) 0 rfl).mono fun w h => h.cnt fun p => by simp only [List.countP_append, List.countP_cons, List.countP_nil]; omega) rfl (fun _ => Nat.le_refl 18) (fun _ => rfl)) ?_
    refine TL_q rfl rfl (QT_loadW (cs := shV z11) 0 rfl rfl Tryd.underlying71 rfl rfl rfl hzz) ?_
    refine TL_e rfl rfl rfl (rfl) (ET_buildN [_] rfl Tryd.underlying31 YtlmbpdlobpcahaaDoorF.sz_71 YtlmbpdlobpcahaaDoorF.zero_71 rfl rfl rfl (fun v hv => by cases List.mem_singleton.1 hv; exact hzl)) ?_
    rintro _ _ ⟨b80, rfl, rfl⟩
    refine TL_e rfl rfl rfl (rfl) (ET_call rfl YtlmbpdlobpcahaaDoorF.cal_19 rfl (sput_spec w0 _ hG L11 _ [z11] (SlA.own (n := 1) (xs := flatS [z11]) 0 rfl (by rw [show flatS [z11] = shV z11 by simp [flatS], List.drop_zero, List.take_of_length_le (by simp [Value.cells, hzl])]; simp [Value.cells]) (by simp [Value.cells, hzl]) (by omega)) (fun y hy => by cases List.mem_singleton.1 hy; exact shf_z11) (by decide))) ?_
    rintro _ _ ⟨bv11, H11, rfl, hF11, rfl⟩
    refine TL_q rfl rfl (QT_move rfl rfl rfl) ?_
    refine TL_q rfl rfl (QT_extract rfl rfl rfl rfl) ?_
    refine TL_q rfl rfl (QT_extract rfl rfl rfl rfl) ?_
    refine TL_q rfl rfl (QT_assign rfl rfl rfl) ?_
    refine TL_q rfl rfl (QT_assign rfl rfl rfl) ?_
    refine TL_nil ?_
    refine TX_then ?_
    refine TC_seq ?_
    simp only [l11_6]
    refine TC_A (St w0 (H2 ++ η)) (fun w h => h.cnt fun p => by simp only [List.countP_append, List.countP_cons, List.countP_nil]; omega) ?_
    refine TC_reg ?_
    refine TL_q rfl rfl (QT_move rfl rfl rfl) ?_
    refine TL_q rfl rfl (QT_indexG 0 rfl rfl Tryd.underlying31 YtlmbpdlobpcahaaDoorF.sz_71 rfl rfl rfl (fun _ => by decide) (fun _ => rfl)) ?_
    refine TL_q rfl rfl (QT_field rfl rfl YtlmbpdlobpcahaaDoorF.fld_71_0 rfl) ?_
    refine TL_q rfl rfl (QT_loadRj (v := .int .u8 1) 0 rfl rfl Tryd.underlying5 rfl (hR (fun w h => h.cnt fun p => by simp only [List.countP_append, List.countP_cons, List.countP_nil]; omega)) rfl (fun _ => by kernel_rfl)) ?_
    refine TL_q rfl rfl (QT_eql rfl rfl rfl rfl) ?_
    refine TL_q rfl rfl (QT_move rfl rfl rfl) ?_
    refine TL_q rfl rfl (QT_move rfl rfl rfl) ?_
    refine TL_q rfl rfl (QT_indexG 0 rfl rfl Tryd.underlying31 YtlmbpdlobpcahaaDoorF.sz_71 rfl rfl rfl (fun _ => by decide) (fun _ => rfl)) ?_
    refine TL_q rfl rfl (QT_field rfl rfl YtlmbpdlobpcahaaDoorF.fld_71_1 rfl) ?_
    refine TL_q rfl rfl (QT_indexArr (7) rfl rfl Tryd.underlying65 YtlmbpdlobpcahaaDoorF.sz_64 rfl rfl (rfl) (fun _ => by decide)) ?_
    refine TL_q rfl rfl (QT_loadRAj (out := [.int .u32 7, .int .u32 7]) 15 rfl rfl Tryd.underlying64 rfl YtlmbpdlobpcahaaDoorF.sz_64 (hR (fun w h => h.cnt fun p => by simp only [List.countP_append, List.countP_cons, List.countP_nil]; omega)) rfl (fun _ => by rw [hyl]; decide) (fun _ => by kernel_rfl)) ?_
    refine TL_q rfl rfl (QT_build rfl rfl YtlmbpdlobpcahaaDoorF.zero_64 YtlmbpdlobpcahaaDoorF.pl_64 rfl rfl rfl) ?_
    refine TL_q rfl rfl (QT_eqA (ks := spotK) rfl rfl eq0 rfl rfl (fun _ => .cons rfl (.cons rfl .nil)) (fun _ => .cons rfl (.cons rfl .nil))) ?_
    refine TL_q rfl rfl (QT_and rfl rfl rfl rfl) ?_
    refine TL_q rfl rfl (QT_move rfl rfl rfl) ?_
    refine TL_q rfl rfl (QT_move rfl rfl rfl) ?_
    refine TL_q rfl rfl (QT_indexG 0 rfl rfl Tryd.underlying31 YtlmbpdlobpcahaaDoorF.sz_71 rfl rfl rfl (fun _ => by decide) (fun _ => rfl)) ?_
    refine TL_q rfl rfl (QT_field rfl rfl YtlmbpdlobpcahaaDoorF.fld_71_1 rfl) ?_
    refine TL_q rfl rfl (QT_indexArr (8) rfl rfl Tryd.underlying65 YtlmbpdlobpcahaaDoorF.sz_64 rfl rfl (rfl) (fun _ => by decide)) ?_
    refine TL_q rfl rfl (QT_loadRAj (out := [.int .u32 0, .int .u32 0]) 17 rfl rfl Tryd.underlying64 rfl YtlmbpdlobpcahaaDoorF.sz_64 (hR (fun w h => h.cnt fun p => by simp only [List.countP_append, List.countP_cons, List.countP_nil]; omega)) rfl (fun _ => by rw [hyl]; decide) (fun _ => by kernel_rfl)) ?_
    refine TL_q rfl rfl (QT_build rfl rfl YtlmbpdlobpcahaaDoorF.zero_64 YtlmbpdlobpcahaaDoorF.pl_64 rfl rfl rfl) ?_
    refine TL_q rfl rfl (QT_eqA (ks := spotK) rfl rfl eq0 rfl rfl (fun _ => .cons rfl (.cons rfl .nil)) (fun _ => .cons rfl (.cons rfl .nil))) ?_
    refine TL_q rfl rfl (QT_and rfl rfl rfl rfl) ?_
    refine TL_q rfl rfl (QT_move rfl rfl rfl) ?_
    refine TL_q rfl rfl (QT_move rfl rfl rfl) ?_
    refine TL_q rfl rfl (QT_indexG 0 rfl rfl Tryd.underlying31 YtlmbpdlobpcahaaDoorF.sz_71 rfl rfl rfl (fun _ => by decide) (fun _ => rfl)) ?_
    refine TL_q rfl rfl (QT_field rfl rfl YtlmbpdlobpcahaaDoorF.fld_71_2 rfl) ?_
    refine TL_q rfl rfl (QT_indexArr (1) rfl rfl Tryd.underlying69 YtlmbpdlobpcahaaDoorF.sz_68 rfl rfl (rfl) (fun _ => by decide)) ?_
    refine TL_q rfl rfl (QT_loadRAj (out := [.int .u16 7, .int .u16 0, .int .u16 0, .int .u16 0]) 37 rfl rfl Tryd.underlying68 rfl YtlmbpdlobpcahaaDoorF.sz_68 (hR (fun w h => h.cnt fun p => by simp only [List.countP_append, List.countP_cons, List.countP_nil]; omega)) rfl (fun _ => by rw [hyl]; decide) (fun _ => by kernel_rfl)) ?_
    refine TL_q rfl rfl (QT_buildArr rfl rfl YtlmbpdlobpcahaaDoorF.zero_68 Tryd.underlying68 YtlmbpdlobpcahaaDoorF.sz_66 rfl rfl rfl) ?_
    refine TL_q rfl rfl (QT_eqA (ks := colK) rfl rfl eqCol rfl rfl (fun _ => .cons rfl (.cons rfl (.cons rfl (.cons rfl .nil)))) (fun _ => .cons rfl (.cons rfl (.cons rfl (.cons rfl .nil))))) ?_
    refine TL_q rfl rfl (QT_and rfl rfl rfl rfl) ?_
    refine TL_q rfl rfl (QT_move rfl rfl rfl) ?_
    refine TL_q rfl rfl (QT_move rfl rfl rfl) ?_
    refine TL_q rfl rfl (QT_indexG 0 rfl rfl Tryd.underlying31 YtlmbpdlobpcahaaDoorF.sz_71 rfl rfl rfl (fun _ => by decide) (fun _ => rfl)) ?_
    refine TL_q rfl rfl (QT_field rfl rfl YtlmbpdlobpcahaaDoorF.fld_71_2 rfl) ?_
    refine TL_q rfl rfl (QT_indexArr (2) rfl rfl Tryd.underlying69 YtlmbpdlobpcahaaDoorF.sz_68 rfl rfl (rfl) (fun _ => by decide)) ?_
    refine TL_q rfl rfl (QT_loadRAj (out := [.int .u16 0, .int .u16 0, .int .u16 0, .int .u16 0]) 41 rfl rfl Tryd.underlying68 rfl YtlmbpdlobpcahaaDoorF.sz_68 (hR (fun w h => h.cnt fun p => by simp only [List.countP_append, List.countP_cons, List.countP_nil]; omega)) rfl (fun _ => by rw [hyl]; decide) (fun _ => by kernel_rfl)) ?_
    refine TL_q rfl rfl (QT_buildArr rfl rfl YtlmbpdlobpcahaaDoorF.zero_68 Tryd.underlying68 YtlmbpdlobpcahaaDoorF.sz_66 rfl rfl rfl) ?_
    refine TL_q rfl rfl (QT_eqA (ks := colK) rfl rfl eqCol rfl rfl (fun _ => .cons rfl (.cons rfl (.cons rfl (.cons rfl .nil)))) (fun _ => .cons rfl (.cons rfl (.cons rfl (.cons rfl .nil))))) ?_
    refine TL_q rfl rfl (QT_and rfl rfl rfl rfl) ?_
    refine TL_q rfl rfl (QT_move rfl rfl rfl) ?_
    refine TL_q rfl rfl (QT_move rfl rfl rfl) ?_
    refine TL_q rfl rfl (QT_eql rfl rfl rfl rfl) ?_
    refine TL_q rfl rfl (QT_and rfl rfl rfl rfl) ?_
    refine TL_q rfl rfl (QT_move rfl rfl rfl) ?_
    refine TL_q rfl rfl (QT_move rfl rfl rfl) ?_
    refine TL_q rfl rfl (QT_eql rfl rfl rfl rfl) ?_
    refine TL_q rfl rfl (QT_and rfl rfl rfl rfl) ?_
    refine TL_q rfl rfl (QT_assign rfl rfl rfl) ?_
    refine TL_nil ?_
    refine TX_then ?_
    refine TC_ret ?_
    exact TX_ret (.inl rfl) (res1 rfl rfl) ⟨_, ⟨congrArg Value.bool (show (_ : Bool) = true by decide), rfl⟩, fun _ h => h.app_right⟩
end Go.Proofs.YtlmbpdlobpcahaaDoor

/- THE CHAPTER's EXAMPLES OF RECORDS. -/
import Derived.Test.YtjehicncbpljaaaDoorS09h
import Derived.Test.YtjehicncbpljaaaDoorN
import Derived.Test.YtjehicncbpljaaaDoorG01b
namespace Go.Proofs.YtjehicncbpljaaaDoor
open Go Go.Gx Go.RowKit
set_option maxRecDepth 100000
theorem rcf_chk {r : List Nat} (hl : r.length = 7) (h : ∀ p, p < 7 → r.getD p 0 < rkM p) : RcF r := ⟨hl, fun {p x} hx => by
  have hp : p < 7 := by rw [← hl]; exact (List.getElem?_eq_some_iff.1 hx).1
  have := h p hp
  rw [List.getD_eq_getElem?_getD, hx] at this
  exact this⟩
theorem sameOk_RecsR (w0 : Base) (η : Heap) (va vb : Value) (n : Nat) (xs : List Value) (ha : SlA (St w0 η) va 7 n xs) (hb : SlA (St w0 η) vb 7 n xs) (hi : Ints (rep n recK) xs) :
    CallsT Tryd.prog 15 [va, vb] (St w0 η) fun v A' => v = .bool true ∧ A' = St w0 η := by
  have h := same_Recs w0 η va vb n n xs xs ha hb hi hi
  rwa [eqC_refl hi] at h
def L9 : Lay := { ty := 4, co := 4, cm := 8, fl := 2, cs := 1, ro := 0, r := fun _ => 0 }
def L9b : Lay := { L9 with ty := 6 }
def x9 : List Nat := [1, 15, 0, 255, 0, 0, 0]
def y9 : List Nat := [4, 0, 0, 0, 0, 0, 0]
def z9 : List Nat := [0, 0, 0, 1, 1, 0, 0]
theorem l9_1 : errRP L9 [x9] = 0 ∧ outRP L9 [x9] = [124, 63, 192] := by decide +kernel
theorem l9_2 : errRG L9 [124, 63, 255] = 0 ∧ outRG L9 [124, 63, 255] = [x9] := by decide +kernel
theorem l9_3 : errRG L9 [124, 63] = 5 := by decide +kernel
theorem l9_4 : errRP L9 [y9] = 1 := by decide +kernel
theorem l9_5 : errRP L9 [z9] = 1 := by decide +kernel
theorem l9_6 : errRG L9b [] = 4 := by decide +kernel
theorem rcf_x9 : RcF x9 := rcf_chk rfl (by decide)
theorem rcf_y9 : RcF y9 := rcf_chk rfl (by decide)
theorem rcf_z9 : RcF z9 := rcf_chk rfl (by decide)
set_option maxHeartbeats 2000000 in
theorem lives09 (w0 : Base) (η : Heap) (hG : Sets w0) :
    CallsT Tryd.prog 9 [] (St w0 η) fun v A' => v = .bool true ∧ A' = St w0 η := by
  have hx2 := flatR_ints (rs := [x9]) fun r hr => by cases List.mem_singleton.1 hr; exact rcf_x9
  refine CallsT.body Tryd.func9 rfl rfl ?_
  simp only [Tryd.ntmps9, slotsOf, Nat.reduceAdd]
  refine TC_seq ?_
  refine TC_reg ?_
  refine TL_q rfl rfl (QT_assign rfl rfl rfl) ?_
  refine TL_nil ?_
  refine TX_then ?_
  refine TC_seq ?_
  refine TC_reg ?_
  refine TL_q rfl rfl (QT_build rfl rfl YtjehicncbpljaaaDoorF.zero_27 YtjehicncbpljaaaDoorF.pl_27 rfl rfl rfl) ?_
  refine TL_e rfl rfl rfl (rfl) (ET_alloc rfl YtjehicncbpljaaaDoorF.zero_27) ?_
  rintro _ _ ⟨b1, rfl, rfl⟩
  first
    | refine TL_e0 rfl rfl (rfl) (ET_storeW 0 rfl rfl rfl YtjehicncbpljaaaDoorF.sz_27 rfl rfl rfl) ?_
    | refine TL_e0 rfl rfl (rfl) (ET_storeW 1 rfl rfl rfl YtjehicncbpljaaaDoorF.sz_27 rfl rfl rfl) ?_
    | refine TL_e0 rfl rfl (rfl) (ET_storeW 2 rfl rfl rfl YtjehicncbpljaaaDoorF.sz_27 rfl rfl rfl) ?_
    | refine TL_e0 rfl rfl (rfl) (ET_store 0 rfl rfl rfl rfl YtjehicncbpljaaaDoorF.sz_27 rfl rfl rfl) ?_
    | refine TL_e0 rfl rfl (rfl) (ET_store 1 rfl rfl rfl rfl YtjehicncbpljaaaDoorF.sz_27 rfl rfl rfl) ?_
    | refine TL_e0 rfl rfl (rfl) (ET_store 2 rfl rfl rfl rfl YtjehicncbpljaaaDoorF.sz_27 rfl rfl rfl) ?_
  rintro _ _ ⟨rfl, rfl⟩
  refine TL_nil ?_
  refine TX_then ?_
  refine TC_seq ?_
  refine TC_reg ?_
  refine TL_q rfl rfl (QT_build rfl rfl YtjehicncbpljaaaDoorF.zero_62 YtjehicncbpljaaaDoorF.pl_62 rfl rfl rfl) ?_
  refine TL_q rfl rfl (QT_buildArr rfl rfl YtjehicncbpljaaaDoorF.zero_65 Tryd.underlying65 YtjehicncbpljaaaDoorF.sz_63 rfl rfl rfl) ?_
  refine TL_q rfl rfl (QT_build rfl rfl YtjehicncbpljaaaDoorF.zero_67 YtjehicncbpljaaaDoorF.pl_67 rfl rfl rfl) ?_
  refine TL_e rfl rfl rfl (rfl) (ET_alloc rfl YtjehicncbpljaaaDoorF.zero_67) ?_
  rintro _ _ ⟨b2, rfl, rfl⟩
  first
    | refine TL_e0 rfl rfl (rfl) (ET_storeW 0 rfl rfl rfl YtjehicncbpljaaaDoorF.sz_67 rfl rfl rfl) ?_
    | refine TL_e0 rfl rfl (rfl) (ET_storeW 1 rfl rfl rfl YtjehicncbpljaaaDoorF.sz_67 rfl rfl rfl) ?_
    | refine TL_e0 rfl rfl (rfl) (ET_storeW 2 rfl rfl rfl YtjehicncbpljaaaDoorF.sz_67 rfl rfl rfl) ?_
    | refine TL_e0 rfl rfl (rfl) (ET_store 0 rfl rfl rfl rfl YtjehicncbpljaaaDoorF.sz_67 rfl rfl rfl) ?_
    | refine TL_e0 rfl rfl (rfl) (ET_store 1 rfl rfl rfl rfl YtjehicncbpljaaaDoorF.sz_67 rfl rfl rfl) ?_
    | refine TL_e0 rfl rfl (rfl) (ET_store 2 rfl rfl rfl rfl YtjehicncbpljaaaDoorF.sz_67 rfl rfl rfl) ?_
  rintro _ _ ⟨rfl, rfl⟩
  refine TL_nil ?_
  refine TX_then ?_
  refine TC_seq ?_
  refine TC_A (St w0 ((b2, 67, rvV x9) :: (b1, 27, L9.cells) :: η)) (fun _ h => h) ?_
  refine TC_reg ?_
  first
    | refine TL_q rfl rfl (QT_loadW 0 rfl rfl Tryd.underlying27 rfl rfl rfl YtjehicncbpljaaaDoorF.sz_27) ?_
    | refine TL_q rfl rfl (QT_loadW 1 rfl rfl Tryd.underlying27 rfl rfl rfl YtjehicncbpljaaaDoorF.sz_27) ?_
    | refine TL_q rfl rfl (QT_loadW 2 rfl rfl Tryd.underlying27 rfl rfl rfl YtjehicncbpljaaaDoorF.sz_27) ?_
    | refine TL_q rfl rfl (QT_loadA 0 rfl rfl Tryd.underlying27 rfl rfl rfl YtjehicncbpljaaaDoorF.sz_27 (fun _ => rfl)) ?_
    | refine TL_q rfl rfl (QT_loadA 1 rfl rfl Tryd.underlying27 rfl rfl rfl YtjehicncbpljaaaDoorF.sz_27 (fun _ => rfl)) ?_
    | refine TL_q rfl rfl (QT_loadA 2 rfl rfl Tryd.underlying27 rfl rfl rfl YtjehicncbpljaaaDoorF.sz_27 (fun _ => rfl)) ?_
  first
    | refine TL_q rfl rfl (QT_loadW 0 rfl rfl Tryd.underlying67 rfl rfl rfl YtjehicncbpljaaaDoorF.sz_67) ?_
    | refine TL_q rfl rfl (QT_loadW 1 rfl rfl Tryd.underlying67 rfl rfl rfl YtjehicncbpljaaaDoorF.sz_67) ?_
    | refine TL_q rfl rfl (QT_loadW 2 rfl rfl Tryd.underlying67 rfl rfl rfl YtjehicncbpljaaaDoorF.sz_67) ?_
    | refine TL_q rfl rfl (QT_loadA 0 rfl rfl Tryd.underlying67 rfl rfl rfl YtjehicncbpljaaaDoorF.sz_67 (fun _ => rfl)) ?_
    | refine TL_q rfl rfl (QT_loadA 1 rfl rfl Tryd.underlying67 rfl rfl rfl YtjehicncbpljaaaDoorF.sz_67 (fun _ => rfl)) ?_
    | refine TL_q rfl rfl (QT_loadA 2 rfl rfl Tryd.underlying67 rfl rfl rfl YtjehicncbpljaaaDoorF.sz_67 (fun _ => rfl)) ?_
  refine TL_e rfl rfl rfl (rfl) (ET_buildN [_] rfl Tryd.underlying31 YtjehicncbpljaaaDoorF.sz_67 YtjehicncbpljaaaDoorF.zero_67 rfl rfl rfl (fun v hv => by cases List.mem_singleton.1 hv; rfl)) ?_
  rintro _ _ ⟨b22, rfl, rfl⟩
  refine TL_e rfl rfl rfl (rfl) (ET_call rfl YtjehicncbpljaaaDoorF.cal_19 rfl (rput0_spec w0 _ hG L9 _ [x9] (SlA.own (n := 1) (xs := flatR [x9]) 0 rfl rfl (by decide) (by decide)) (fun r hr => by cases List.mem_singleton.1 hr; exact rcf_x9) (by decide))) ?_
  rintro _ _ ⟨bv3, H3, rfl, hF3, rfl⟩
  refine TL_q rfl rfl (QT_move rfl rfl rfl) ?_
  refine TL_q rfl rfl (QT_extract rfl rfl rfl rfl) ?_
  refine TL_q rfl rfl (QT_extract rfl rfl rfl rfl) ?_
  refine TL_q rfl rfl (QT_assign rfl rfl rfl) ?_
  refine TL_q rfl rfl (QT_assign rfl rfl rfl) ?_
  refine TL_nil ?_
  refine TX_then ?_
  refine TC_seq ?_
  rw [l9_1.2] at hF3
  simp only [l9_1.1]
  obtain ⟨ad3, cap3, rfl, _, _⟩ := hF3.slice
  refine TC_A (St w0 ((b2, 67, rvV x9) :: (b1, 27, L9.cells) :: (H3 ++ η))) (fun w h => h.cnt fun p => by simp only [List.countP_append, List.countP_cons, List.countP_nil]; omega) ?_
  refine TC_reg ?_
  first
    | refine TL_q rfl rfl (QT_loadW 0 rfl rfl Tryd.underlying27 rfl rfl rfl YtjehicncbpljaaaDoorF.sz_27) ?_
    | refine TL_q rfl rfl (QT_loadW 1 rfl rfl Tryd.underlying27 rfl rfl rfl YtjehicncbpljaaaDoorF.sz_27) ?_
    | refine TL_q rfl rfl (QT_loadW 2 rfl rfl Tryd.underlying27 rfl rfl rfl YtjehicncbpljaaaDoorF.sz_27) ?_
    | refine TL_q rfl rfl (QT_loadA 0 rfl rfl Tryd.underlying27 rfl rfl rfl YtjehicncbpljaaaDoorF.sz_27 (fun _ => rfl)) ?_
    | refine TL_q rfl rfl (QT_loadA 1 rfl rfl Tryd.underlying27 rfl rfl rfl YtjehicncbpljaaaDoorF.sz_27 (fun _ => rfl)) ?_
    | refine TL_q rfl rfl (QT_loadA 2 rfl rfl Tryd.underlying27 rfl rfl rfl YtjehicncbpljaaaDoorF.sz_27 (fun _ => rfl)) ?_
  refine TL_e rfl rfl rfl (rfl) (ET_buildN [_, _, _] rfl Tryd.underlying28 YtjehicncbpljaaaDoorF.sz_5 YtjehicncbpljaaaDoorF.zero_5 rfl rfl rfl (fun v hv => by
   rcases List.mem_cons.1 hv with rfl | hv
   · rfl
   · rcases List.mem_cons.1 hv with rfl | hv
     · rfl
     · cases List.mem_singleton.1 hv; rfl)) ?_
  rintro _ _ ⟨b28, rfl, rfl⟩
  refine TL_e rfl rfl rfl (rfl) (ET_call rfl YtjehicncbpljaaaDoorF.cal_11 rfl (rget0_spec w0 _ hG L9 _ [124, 63, 255] (SlA.own (n := 3) (xs := byV [124, 63, 255]) 0 rfl rfl (by decide) (by decide)) (by decide) (by decide))) ?_
  rintro _ _ ⟨rv5, H5, rfl, hF5, rfl⟩
  refine TL_q rfl rfl (QT_move rfl rfl rfl) ?_
  refine TL_q rfl rfl (QT_extract rfl rfl rfl rfl) ?_
  refine TL_q rfl rfl (QT_extract rfl rfl rfl rfl) ?_
  refine TL_q rfl rfl (QT_assign rfl rfl rfl) ?_
  refine TL_q rfl rfl (QT_assign rfl rfl rfl) ?_
  refine TL_nil ?_
  refine TX_then ?_
  refine TC_seq ?_
  rw [l9_2.2] at hF5
  simp only [l9_2.1]
  obtain ⟨ad5, cap5, rfl, _, _⟩ := hF5.slice
  refine TC_A (St w0 ((b2, 67, rvV x9) :: (b1, 27, L9.cells) :: (H3 ++ (H5 ++ η)))) (fun w h => h.cnt fun p => by simp only [List.countP_append, List.countP_cons, List.countP_nil]; omega) ?_
  refine TC_reg ?_
  first
    | refine TL_q rfl rfl (QT_loadW 0 rfl rfl Tryd.underlying27 rfl rfl rfl YtjehicncbpljaaaDoorF.sz_27) ?_
    | refine TL_q rfl rfl (QT_loadW 1 rfl rfl Tryd.underlying27 rfl rfl rfl YtjehicncbpljaaaDoorF.sz_27) ?_
    | refine TL_q rfl rfl (QT_loadW 2 rfl rfl Tryd.underlying27 rfl rfl rfl YtjehicncbpljaaaDoorF.sz_27) ?_
    | refine TL_q rfl rfl (QT_loadA 0 rfl rfl Tryd.underlying27 rfl rfl rfl YtjehicncbpljaaaDoorF.sz_27 (fun _ => rfl)) ?_
    | refine TL_q rfl rfl (QT_loadA 1 rfl rfl Tryd.underlying27 rfl rfl rfl YtjehicncbpljaaaDoorF.sz_27 (fun _ => rfl)) ?_
    | refine TL_q rfl rfl (QT_loadA 2 rfl rfl Tryd.underlying27 rfl rfl rfl YtjehicncbpljaaaDoorF.sz_27 (fun _ => rfl)) ?_
  refine TL_e rfl rfl rfl (rfl) (ET_buildN [_, _] rfl Tryd.underlying28 YtjehicncbpljaaaDoorF.sz_5 YtjehicncbpljaaaDoorF.zero_5 rfl rfl rfl (fun v hv => by
   rcases List.mem_cons.1 hv with rfl | hv
   · rfl
   · cases List.mem_singleton.1 hv; rfl)) ?_
  rintro _ _ ⟨b34, rfl, rfl⟩
  refine TL_e rfl rfl rfl (rfl) (ET_call rfl YtjehicncbpljaaaDoorF.cal_11 rfl (rget0_spec w0 _ hG L9 _ [124, 63] (SlA.own (n := 2) (xs := byV [124, 63]) 0 rfl rfl (by decide) (by decide)) (by decide) (by decide))) ?_
  rintro _ _ ⟨rv7, H7, rfl, hF7, rfl⟩
  refine TL_q rfl rfl (QT_move rfl rfl rfl) ?_
  refine TL_q rfl rfl (QT_extract rfl rfl rfl rfl) ?_
  refine TL_q rfl rfl (QT_extract rfl rfl rfl rfl) ?_
  refine TL_q rfl rfl (QT_assign rfl rfl rfl) ?_
  refine TL_q rfl rfl (QT_assign rfl rfl rfl) ?_
  refine TL_nil ?_
  refine TX_then ?_
  refine TC_seq ?_
  simp only [l9_3]
  refine TC_A (St w0 ((b2, 67, rvV x9) :: (b1, 27, L9.cells) :: (H3 ++ (H5 ++ η)))) (fun w h => h.cnt fun p => by simp only [List.countP_append, List.countP_cons, List.countP_nil]; omega) ?_
  refine TC_reg ?_
  first
    | refine TL_q rfl rfl (QT_loadW 0 rfl rfl Tryd.underlying27 rfl rfl rfl YtjehicncbpljaaaDoorF.sz_27) ?_
    | refine TL_q rfl rfl (QT_loadW 1 rfl rfl Tryd.underlying27 rfl rfl rfl YtjehicncbpljaaaDoorF.sz_27) ?_
    | refine TL_q rfl rfl (QT_loadW 2 rfl rfl Tryd.underlying27 rfl rfl rfl YtjehicncbpljaaaDoorF.sz_27) ?_
    | refine TL_q rfl rfl (QT_loadA 0 rfl rfl Tryd.underlying27 rfl rfl rfl YtjehicncbpljaaaDoorF.sz_27 (fun _ => rfl)) ?_
    | refine TL_q rfl rfl (QT_loadA 1 rfl rfl Tryd.underlying27 rfl rfl rfl YtjehicncbpljaaaDoorF.sz_27 (fun _ => rfl)) ?_
    | refine TL_q rfl rfl (QT_loadA 2 rfl rfl Tryd.underlying27 rfl rfl rfl YtjehicncbpljaaaDoorF.sz_27 (fun _ => rfl)) ?_
  refine TL_q rfl rfl (QT_build rfl rfl YtjehicncbpljaaaDoorF.zero_67 YtjehicncbpljaaaDoorF.pl_67 rfl rfl rfl) ?_
  refine TL_e rfl rfl rfl (rfl) (ET_buildN [_] rfl Tryd.underlying31 YtjehicncbpljaaaDoorF.sz_67 YtjehicncbpljaaaDoorF.zero_67 rfl rfl rfl (fun v hv => by cases List.mem_singleton.1 hv; rfl)) ?_
  rintro _ _ ⟨b41, rfl, rfl⟩
  refine TL_e rfl rfl rfl (rfl) (ET_call rfl YtjehicncbpljaaaDoorF.cal_19 rfl (rput0_spec w0 _ hG L9 _ [y9] (SlA.own (n := 1) (xs := flatR [y9]) 0 rfl rfl (by decide) (by decide)) (fun r hr => by cases List.mem_singleton.1 hr; exact rcf_y9) (by decide))) ?_
  rintro _ _ ⟨bv9, H9, rfl, hF9, rfl⟩
  refine TL_q rfl rfl (QT_move rfl rfl rfl) ?_
  refine TL_q rfl rfl (QT_extract rfl rfl rfl rfl) ?_
  refine TL_q rfl rfl (QT_extract rfl rfl rfl rfl) ?_
  refine TL_q rfl rfl (QT_assign rfl rfl rfl) ?_
  refine TL_q rfl rfl (QT_assign rfl rfl rfl) ?_
  refine TL_nil ?_
  refine TX_then ?_
  refine TC_seq ?_
  simp only [l9_4]
  refine TC_A (St w0 ((b2, 67, rvV x9) :: (b1, 27, L9.cells) :: (H3 ++ (H5 ++ η)))) (fun w h => h.cnt fun p => by simp only [List.countP_append, List.countP_cons, List.countP_nil]; omega) ?_
  refine TC_reg ?_
  first
    | refine TL_q rfl rfl (QT_loadW 0 rfl rfl Tryd.underlying27 rfl rfl rfl YtjehicncbpljaaaDoorF.sz_27) ?_
    | refine TL_q rfl rfl (QT_loadW 1 rfl rfl Tryd.underlying27 rfl rfl rfl YtjehicncbpljaaaDoorF.sz_27) ?_
    | refine TL_q rfl rfl (QT_loadW 2 rfl rfl Tryd.underlying27 rfl rfl rfl YtjehicncbpljaaaDoorF.sz_27) ?_
    | refine TL_q rfl rfl (QT_loadA 0 rfl rfl Tryd.underlying27 rfl rfl rfl YtjehicncbpljaaaDoorF.sz_27 (fun _ => rfl)) ?_
    | refine TL_q rfl rfl (QT_loadA 1 rfl rfl Tryd.underlying27 rfl rfl rfl YtjehicncbpljaaaDoorF.sz_27 (fun _ => rfl)) ?_
    | refine TL_q rfl rfl (QT_loadA 2 rfl rfl Tryd.underlying27 rfl rfl rfl YtjehicncbpljaaaDoorF.sz_27 (fun _ => rfl)) ?_
  refine TL_q rfl rfl (QT_buildArr rfl rfl YtjehicncbpljaaaDoorF.zero_65 Tryd.underlying65 YtjehicncbpljaaaDoorF.sz_63 rfl rfl rfl) ?_
  refine TL_q rfl rfl (QT_build rfl rfl YtjehicncbpljaaaDoorF.zero_67 YtjehicncbpljaaaDoorF.pl_67 rfl rfl rfl) ?_
  refine TL_e rfl rfl rfl (rfl) (ET_buildN [_] rfl Tryd.underlying31 YtjehicncbpljaaaDoorF.sz_67 YtjehicncbpljaaaDoorF.zero_67 rfl rfl rfl (fun v hv => by cases List.mem_singleton.1 hv; rfl)) ?_
  rintro _ _ ⟨b49, rfl, rfl⟩
  refine TL_e rfl rfl rfl (rfl) (ET_call rfl YtjehicncbpljaaaDoorF.cal_19 rfl (rput0_spec w0 _ hG L9 _ [z9] (SlA.own (n := 1) (xs := flatR [z9]) 0 rfl rfl (by decide) (by decide)) (fun r hr => by cases List.mem_singleton.1 hr; exact rcf_z9) (by decide))) ?_
  rintro _ _ ⟨bv11, H11, rfl, hF11, rfl⟩
  refine TL_q rfl rfl (QT_move rfl rfl rfl) ?_
  refine TL_q rfl rfl (QT_extract rfl rfl rfl rfl) ?_
  refine TL_q rfl rfl (QT_extract rfl rfl rfl rfl) ?_
  refine TL_q rfl rfl (QT_assign rfl rfl rfl) ?_
  refine TL_q rfl rfl (QT_assign rfl rfl rfl) ?_
  refine TL_nil ?_
  refine TX_then ?_
  refine TC_seq ?_
  simp only [l9_5]
  refine TC_A (St w0 ((b2, 67, rvV x9) :: (b1, 27, L9.cells) :: (H3 ++ (H5 ++ η)))) (fun w h => h.cnt fun p => by simp only [List.countP_append, List.countP_cons, List.countP_nil]; omega) ?_
  refine TC_reg ?_
  refine TL_q rfl rfl (QT_field rfl rfl YtjehicncbpljaaaDoorF.fld_27_0 rfl) ?_
  first
    | refine TL_e0 rfl rfl (rfl) (ET_store 0 rfl rfl rfl rfl YtjehicncbpljaaaDoorF.sz_3 rfl rfl rfl) ?_
    | refine TL_e0 rfl rfl (rfl) (ET_store 1 rfl rfl rfl rfl YtjehicncbpljaaaDoorF.sz_3 rfl rfl rfl) ?_
    | refine TL_e0 rfl rfl (rfl) (ET_store 2 rfl rfl rfl rfl YtjehicncbpljaaaDoorF.sz_3 rfl rfl rfl) ?_
  rintro _ _ ⟨rfl, rfl⟩
  refine TL_nil ?_
  refine TX_then ?_
  refine TC_seq ?_
  refine TC_A (St w0 ((b2, 67, rvV x9) :: (b1, 27, L9b.cells) :: (H3 ++ (H5 ++ η)))) (fun _ h => h) ?_
  refine TC_reg ?_
  first
    | refine TL_q rfl rfl (QT_loadW 0 rfl rfl Tryd.underlying27 rfl rfl rfl YtjehicncbpljaaaDoorF.sz_27) ?_
    | refine TL_q rfl rfl (QT_loadW 1 rfl rfl Tryd.underlying27 rfl rfl rfl YtjehicncbpljaaaDoorF.sz_27) ?_
    | refine TL_q rfl rfl (QT_loadW 2 rfl rfl Tryd.underlying27 rfl rfl rfl YtjehicncbpljaaaDoorF.sz_27) ?_
    | refine TL_q rfl rfl (QT_loadA 0 rfl rfl Tryd.underlying27 rfl rfl rfl YtjehicncbpljaaaDoorF.sz_27 (fun _ => rfl)) ?_
    | refine TL_q rfl rfl (QT_loadA 1 rfl rfl Tryd.underlying27 rfl rfl rfl YtjehicncbpljaaaDoorF.sz_27 (fun _ => rfl)) ?_
    | refine TL_q rfl rfl (QT_loadA 2 rfl rfl Tryd.underlying27 rfl rfl rfl YtjehicncbpljaaaDoorF.sz_27 (fun _ => rfl)) ?_
  refine TL_e rfl rfl rfl (rfl) (ET_call rfl YtjehicncbpljaaaDoorF.cal_11 rfl (rget0_spec w0 _ hG L9b (.slice none 0 0) [] ((Frag.nil 5 1).sla (H := [])) (by decide) (by decide))) ?_
  rintro _ _ ⟨rv13, H13, rfl, hF13, rfl⟩
  refine TL_q rfl rfl (QT_move rfl rfl rfl) ?_
  refine TL_q rfl rfl (QT_extract rfl rfl rfl rfl) ?_
  refine TL_q rfl rfl (QT_extract rfl rfl rfl rfl) ?_
  refine TL_q rfl rfl (QT_assign rfl rfl rfl) ?_
  refine TL_q rfl rfl (QT_assign rfl rfl rfl) ?_
  refine TL_nil ?_
  refine TX_then ?_
  refine TC_seq ?_
  simp only [l9_6]
  refine TC_A (St w0 ((b2, 67, rvV x9) :: (H3 ++ (H5 ++ η)))) (fun w h => h.cnt fun p => by simp only [List.countP_append, List.countP_cons, List.countP_nil]; omega) ?_
  refine TC_reg ?_
  refine TL_q rfl rfl (QT_move rfl rfl rfl) ?_
  refine TL_q rfl rfl (QT_convBS (l := [124, 63, 192]) rfl rfl Tryd.underlying28 Tryd.underlying5 Tryd.underlying9 rfl (fun _ => hF3.within fun p => by simp only [List.countP_append, List.countP_cons]; omega)) ?_
  refine TL_q rfl rfl (QT_eqStr rfl rfl rfl rfl) ?_
  refine TL_q rfl rfl (QT_move rfl rfl rfl) ?_
  refine TL_q rfl rfl (QT_move rfl rfl rfl) ?_
  refine TL_q rfl rfl (QT_eql rfl rfl rfl rfl) ?_
  refine TL_q rfl rfl (QT_and rfl rfl rfl rfl) ?_
  refine TL_q rfl rfl (QT_move rfl rfl rfl) ?_
  refine TL_q rfl rfl (QT_move rfl rfl rfl) ?_
  refine TL_q rfl rfl (QT_loadW (cs := rvV x9) 0 rfl rfl Tryd.underlying67 rfl rfl rfl YtjehicncbpljaaaDoorF.sz_67) ?_
  refine TL_e rfl rfl rfl ((by decide)) (ET_buildN [_] rfl Tryd.underlying31 YtjehicncbpljaaaDoorF.sz_67 YtjehicncbpljaaaDoorF.zero_67 rfl rfl rfl (fun v hv => by cases List.mem_singleton.1 hv; rfl)) ?_
  rintro _ _ ⟨b69, rfl, rfl⟩
  refine TL_cq rfl rfl rfl rfl YtjehicncbpljaaaDoorF.cal_15 rfl (fun _ => sameOk_RecsR w0 _ _ _ 1 (flatR [x9]) (hF5.within fun p => by simp only [List.countP_append, List.countP_cons]; omega) (SlA.own (n := 1) (xs := flatR [x9]) 0 rfl rfl (by decide) (by decide)) hx2) ?_
  refine TL_q rfl rfl (QT_and rfl rfl rfl rfl) ?_
  refine TL_q rfl rfl (QT_move rfl rfl rfl) ?_
  refine TL_q rfl rfl (QT_move rfl rfl rfl) ?_
  refine TL_q rfl rfl (QT_eql rfl rfl rfl rfl) ?_
  refine TL_q rfl rfl (QT_and rfl rfl rfl rfl) ?_
  refine TL_q rfl rfl (QT_move rfl rfl rfl) ?_
  refine TL_q rfl rfl (QT_move rfl rfl rfl) ?_
  refine TL_q rfl rfl (QT_eql rfl rfl rfl rfl) ?_
  refine TL_q rfl rfl (QT_and rfl rfl rfl rfl) ?_
  refine TL_q rfl rfl (QT_move rfl rfl rfl) ?_
  refine TL_q rfl rfl (QT_move rfl rfl rfl) ?_
  refine TL_q rfl rfl (QT_eql rfl rfl rfl rfl) ?_
  refine TL_q rfl rfl (QT_and rfl rfl rfl rfl) ?_
  refine TL_q rfl rfl (QT_move rfl rfl rfl) ?_
  refine TL_q rfl rfl (QT_move rfl rfl rfl) ?_
  refine TL_q rfl rfl (QT_eql rfl rfl rfl rfl) ?_
  refine TL_q rfl rfl (QT_and rfl rfl rfl rfl) ?_
  refine TL_q rfl rfl (QT_move rfl rfl rfl) ?_
  refine TL_q rfl rfl (QT_move rfl rfl rfl) ?_
  refine TL_q rfl rfl (QT_eql rfl rfl rfl rfl) ?_
  refine TL_q rfl rfl (QT_and rfl rfl rfl rfl) ?_
  refine TL_q rfl rfl (QT_assign rfl rfl rfl) ?_
  refine TL_nil ?_
  refine TX_then ?_
  refine TC_ret ?_
  exact TX_ret (.inl rfl) (res1 rfl rfl) ⟨_, ⟨congrArg Value.bool (show (_ : Bool) = true by decide), rfl⟩, fun _ h => h.cnt fun p => by simp only [List.countP_append, List.countP_cons, List.countP_nil]; omega⟩
end Go.Proofs.YtjehicncbpljaaaDoor

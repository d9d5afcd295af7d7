/- THE LAWS OF THE LAYER OF LAYOUTS, walked. -/
import Derived.Test.YtlipbopmdfpobaaDoorL08b
namespace Go.Proofs.YtlipbopmdfpobaaDoor
open Go Go.Gx Go.RowKit
set_option maxRecDepth 100000

theorem size_at (w0 : World) (η : Heap) (hG : Sets w0) (L : Lay) (f m : Int) (h0 : 0 ≤ f) (hm : sizeZ L f = m) :
    CallsT Tryd.prog 9 [L.val, .int .u8 f] (St w0 η) fun v A' => v = .int .i64 m ∧ A' = St w0 η := hm ▸ size_spec w0 η hG L f h0
theorem check_at (w0 : World) (η : Heap) (hG : Sets w0) (L : Lay) (m : Int) (hm : errOf L = m) :
    CallsT Tryd.prog 7 [L.val] (St w0 η) fun v A' => v = .int .i64 m ∧ A' = St w0 η := hm ▸ check_spec w0 η hG L
def z32 : Nat → Int := fun _ => 0

theorem lives08 (w0 : World) (η : Heap) (hG : Sets w0) : CallsT Tryd.prog 11 [] (St w0 η) fun v A' => v = .bool true ∧ A' = St w0 η := by
  refine CallsT.body Tryd.func11 rfl rfl ?_
  simp only [Tryd.ntmps11, slotsOf]
  refine TC_seq ?_
  refine TC_reg ?_
  refine TL_q rfl rfl (QT_assign rfl rfl rfl) ?_
  refine TL_nil ?_
  refine TX_then ?_
  refine TC_seq ?_
  refine TC_reg ?_
  refine TL_cq rfl rfl rfl rfl YtlipbopmdfpobaaDoorF.cal_12 rfl (fun _ => plain_spec w0 _ 4 8 8 8) ?_
  refine TL_e rfl rfl rfl (rfl) (ET_alloc rfl YtlipbopmdfpobaaDoorF.zero_27) ?_
  rintro _ _ ⟨b1, rfl, rfl⟩
  first
    | refine TL_e0 rfl rfl (rfl) (ET_storeW 0 rfl rfl rfl YtlipbopmdfpobaaDoorF.sz_27 rfl rfl rfl) ?_
    | refine TL_e0 rfl rfl (rfl) (ET_storeW 1 rfl rfl rfl YtlipbopmdfpobaaDoorF.sz_27 rfl rfl rfl) ?_
    | refine TL_e0 rfl rfl (rfl) (ET_storeW 2 rfl rfl rfl YtlipbopmdfpobaaDoorF.sz_27 rfl rfl rfl) ?_
    | refine TL_e0 rfl rfl (rfl) (ET_store 0 rfl rfl rfl rfl YtlipbopmdfpobaaDoorF.sz_27 rfl rfl rfl) ?_
    | refine TL_e0 rfl rfl (rfl) (ET_store 1 rfl rfl rfl rfl YtlipbopmdfpobaaDoorF.sz_27 rfl rfl rfl) ?_
    | refine TL_e0 rfl rfl (rfl) (ET_store 2 rfl rfl rfl rfl YtlipbopmdfpobaaDoorF.sz_27 rfl rfl rfl) ?_
  rintro _ _ ⟨rfl, rfl⟩
  refine TL_nil ?_
  refine TX_then ?_
  refine TC_seq ?_
  refine TC_reg ?_
  refine TL_q rfl rfl (QT_field rfl rfl YtlipbopmdfpobaaDoorF.fld_27_4 rfl) ?_
  first
    | refine TL_e0 rfl rfl (rfl) (ET_store 0 rfl rfl rfl rfl YtlipbopmdfpobaaDoorF.sz_3 rfl rfl rfl) ?_
    | refine TL_e0 rfl rfl (rfl) (ET_store 1 rfl rfl rfl rfl YtlipbopmdfpobaaDoorF.sz_3 rfl rfl rfl) ?_
    | refine TL_e0 rfl rfl (rfl) (ET_store 2 rfl rfl rfl rfl YtlipbopmdfpobaaDoorF.sz_3 rfl rfl rfl) ?_
  rintro _ _ ⟨rfl, rfl⟩
  refine TL_nil ?_
  refine TX_then ?_
  refine TC_seq ?_
  refine TC_reg ?_
  refine TL_cq rfl rfl rfl rfl YtlipbopmdfpobaaDoorF.cal_12 rfl (fun _ => plain_spec w0 _ 7 32 16 8) ?_
  refine TL_e rfl rfl rfl (rfl) (ET_alloc rfl YtlipbopmdfpobaaDoorF.zero_27) ?_
  rintro _ _ ⟨b2, rfl, rfl⟩
  first
    | refine TL_e0 rfl rfl (rfl) (ET_storeW 0 rfl rfl rfl YtlipbopmdfpobaaDoorF.sz_27 rfl rfl rfl) ?_
    | refine TL_e0 rfl rfl (rfl) (ET_storeW 1 rfl rfl rfl YtlipbopmdfpobaaDoorF.sz_27 rfl rfl rfl) ?_
    | refine TL_e0 rfl rfl (rfl) (ET_storeW 2 rfl rfl rfl YtlipbopmdfpobaaDoorF.sz_27 rfl rfl rfl) ?_
    | refine TL_e0 rfl rfl (rfl) (ET_store 0 rfl rfl rfl rfl YtlipbopmdfpobaaDoorF.sz_27 rfl rfl rfl) ?_
    | refine TL_e0 rfl rfl (rfl) (ET_store 1 rfl rfl rfl rfl YtlipbopmdfpobaaDoorF.sz_27 rfl rfl rfl) ?_
    | refine TL_e0 rfl rfl (rfl) (ET_store 2 rfl rfl rfl rfl YtlipbopmdfpobaaDoorF.sz_27 rfl rfl rfl) ?_
  rintro _ _ ⟨rfl, rfl⟩
  refine TL_nil ?_
  refine TX_then ?_
  refine TC_seq ?_
  refine TC_reg ?_
  refine TL_q rfl rfl (QT_field rfl rfl YtlipbopmdfpobaaDoorF.fld_27_4 rfl) ?_
  first
    | refine TL_e0 rfl rfl (rfl) (ET_store 0 rfl rfl rfl rfl YtlipbopmdfpobaaDoorF.sz_3 rfl rfl rfl) ?_
    | refine TL_e0 rfl rfl (rfl) (ET_store 1 rfl rfl rfl rfl YtlipbopmdfpobaaDoorF.sz_3 rfl rfl rfl) ?_
    | refine TL_e0 rfl rfl (rfl) (ET_store 2 rfl rfl rfl rfl YtlipbopmdfpobaaDoorF.sz_3 rfl rfl rfl) ?_
  rintro _ _ ⟨rfl, rfl⟩
  refine TL_nil ?_
  refine TX_then ?_
  refine TC_seq ?_
  refine TC_reg ?_
  refine TL_cq rfl rfl rfl rfl YtlipbopmdfpobaaDoorF.cal_12 rfl (fun _ => plain_spec w0 _ 5 8 8 8) ?_
  refine TL_e rfl rfl rfl (rfl) (ET_alloc rfl YtlipbopmdfpobaaDoorF.zero_27) ?_
  rintro _ _ ⟨b3, rfl, rfl⟩
  first
    | refine TL_e0 rfl rfl (rfl) (ET_storeW 0 rfl rfl rfl YtlipbopmdfpobaaDoorF.sz_27 rfl rfl rfl) ?_
    | refine TL_e0 rfl rfl (rfl) (ET_storeW 1 rfl rfl rfl YtlipbopmdfpobaaDoorF.sz_27 rfl rfl rfl) ?_
    | refine TL_e0 rfl rfl (rfl) (ET_storeW 2 rfl rfl rfl YtlipbopmdfpobaaDoorF.sz_27 rfl rfl rfl) ?_
    | refine TL_e0 rfl rfl (rfl) (ET_store 0 rfl rfl rfl rfl YtlipbopmdfpobaaDoorF.sz_27 rfl rfl rfl) ?_
    | refine TL_e0 rfl rfl (rfl) (ET_store 1 rfl rfl rfl rfl YtlipbopmdfpobaaDoorF.sz_27 rfl rfl rfl) ?_
    | refine TL_e0 rfl rfl (rfl) (ET_store 2 rfl rfl rfl rfl YtlipbopmdfpobaaDoorF.sz_27 rfl rfl rfl) ?_
  rintro _ _ ⟨rfl, rfl⟩
  refine TL_nil ?_
  refine TX_then ?_
  refine TC_seq ?_
  refine TC_reg ?_
  refine TL_q rfl rfl (QT_field rfl rfl YtlipbopmdfpobaaDoorF.fld_27_5 rfl) ?_
  first
    | refine TL_e0 rfl rfl (rfl) (ET_store 0 rfl rfl rfl rfl YtlipbopmdfpobaaDoorF.sz_3 rfl rfl rfl) ?_
    | refine TL_e0 rfl rfl (rfl) (ET_store 1 rfl rfl rfl rfl YtlipbopmdfpobaaDoorF.sz_3 rfl rfl rfl) ?_
    | refine TL_e0 rfl rfl (rfl) (ET_store 2 rfl rfl rfl rfl YtlipbopmdfpobaaDoorF.sz_3 rfl rfl rfl) ?_
  rintro _ _ ⟨rfl, rfl⟩
  refine TL_nil ?_
  refine TX_then ?_
  refine TC_seq ?_
  refine TC_seq ?_
  refine TC_reg ?_
  first
    | refine TL_q rfl rfl (QT_loadW 0 rfl rfl Tryd.underlying27 rfl rfl rfl YtlipbopmdfpobaaDoorF.sz_27) ?_
    | refine TL_q rfl rfl (QT_loadW 1 rfl rfl Tryd.underlying27 rfl rfl rfl YtlipbopmdfpobaaDoorF.sz_27) ?_
    | refine TL_q rfl rfl (QT_loadW 2 rfl rfl Tryd.underlying27 rfl rfl rfl YtlipbopmdfpobaaDoorF.sz_27) ?_
    | refine TL_q rfl rfl (QT_loadA 0 rfl rfl Tryd.underlying27 rfl rfl rfl YtlipbopmdfpobaaDoorF.sz_27 (fun _ => rfl)) ?_
    | refine TL_q rfl rfl (QT_loadA 1 rfl rfl Tryd.underlying27 rfl rfl rfl YtlipbopmdfpobaaDoorF.sz_27 (fun _ => rfl)) ?_
    | refine TL_q rfl rfl (QT_loadA 2 rfl rfl Tryd.underlying27 rfl rfl rfl YtlipbopmdfpobaaDoorF.sz_27 (fun _ => rfl)) ?_
  refine TL_cq rfl rfl rfl rfl YtlipbopmdfpobaaDoorF.cal_9 rfl (fun _ => size_at w0 _ hG ⟨4, 8, 8, 8, 3, 2, z32⟩ 0 6 (by decide) (by decide +kernel)) ?_
  refine TL_q rfl rfl (QT_neq rfl rfl rfl rfl) ?_
  refine TL_q rfl rfl (QT_move rfl rfl rfl) ?_
  refine TL_cq rfl rfl rfl rfl YtlipbopmdfpobaaDoorF.cal_12 rfl (fun _ => plain_spec w0 _ 5 8 8 8) ?_
  refine TL_cq rfl rfl rfl rfl YtlipbopmdfpobaaDoorF.cal_9 rfl (fun _ => size_at w0 _ hG ⟨5, 8, 8, 8, 1, 2, z32⟩ 0 3 (by decide) (by decide +kernel)) ?_
  refine TL_q rfl rfl (QT_neq rfl rfl rfl rfl) ?_
  refine TL_q rfl rfl (QT_or rfl rfl rfl rfl) ?_
  refine TL_q rfl rfl (QT_move rfl rfl rfl) ?_
  refine TL_cq rfl rfl rfl rfl YtlipbopmdfpobaaDoorF.cal_12 rfl (fun _ => plain_spec w0 _ 6 8 8 8) ?_
  refine TL_cq rfl rfl rfl rfl YtlipbopmdfpobaaDoorF.cal_9 rfl (fun _ => size_at w0 _ hG ⟨6, 8, 8, 8, 1, 2, z32⟩ 0 29 (by decide) (by decide +kernel)) ?_
  refine TL_q rfl rfl (QT_neq rfl rfl rfl rfl) ?_
  refine TL_q rfl rfl (QT_or rfl rfl rfl rfl) ?_
  refine TL_q rfl rfl (QT_move rfl rfl rfl) ?_
  refine TL_cq rfl rfl rfl rfl YtlipbopmdfpobaaDoorF.cal_12 rfl (fun _ => plain_spec w0 _ 6 8 8 8) ?_
  refine TL_cq rfl rfl rfl rfl YtlipbopmdfpobaaDoorF.cal_9 rfl (fun _ => size_at w0 _ hG ⟨6, 8, 8, 8, 1, 2, z32⟩ 1 19 (by decide) (by decide +kernel)) ?_
  refine TL_q rfl rfl (QT_neq rfl rfl rfl rfl) ?_
  refine TL_q rfl rfl (QT_or rfl rfl rfl rfl) ?_
  refine TL_q rfl rfl (QT_move rfl rfl rfl) ?_
  first
    | refine TL_q rfl rfl (QT_loadW 0 rfl rfl Tryd.underlying27 rfl rfl rfl YtlipbopmdfpobaaDoorF.sz_27) ?_
    | refine TL_q rfl rfl (QT_loadW 1 rfl rfl Tryd.underlying27 rfl rfl rfl YtlipbopmdfpobaaDoorF.sz_27) ?_
    | refine TL_q rfl rfl (QT_loadW 2 rfl rfl Tryd.underlying27 rfl rfl rfl YtlipbopmdfpobaaDoorF.sz_27) ?_
    | refine TL_q rfl rfl (QT_loadA 0 rfl rfl Tryd.underlying27 rfl rfl rfl YtlipbopmdfpobaaDoorF.sz_27 (fun _ => rfl)) ?_
    | refine TL_q rfl rfl (QT_loadA 1 rfl rfl Tryd.underlying27 rfl rfl rfl YtlipbopmdfpobaaDoorF.sz_27 (fun _ => rfl)) ?_
    | refine TL_q rfl rfl (QT_loadA 2 rfl rfl Tryd.underlying27 rfl rfl rfl YtlipbopmdfpobaaDoorF.sz_27 (fun _ => rfl)) ?_
  refine TL_cq rfl rfl rfl rfl YtlipbopmdfpobaaDoorF.cal_9 rfl (fun _ => size_at w0 _ hG ⟨7, 32, 16, 8, 4, 2, z32⟩ 0 161 (by decide) (by decide +kernel)) ?_
  refine TL_q rfl rfl (QT_neq rfl rfl rfl rfl) ?_
  refine TL_q rfl rfl (QT_or rfl rfl rfl rfl) ?_
  refine TL_nil ?_
  refine TX_then ?_
  refine TC_cond rfl (fun h => absurd h (by decide)) (fun _ => ?_)
  refine TC_skip ?_
  refine TX_then ?_
  refine TC_seq ?_
  refine TC_reg ?_
  refine TL_cq rfl rfl rfl rfl YtlipbopmdfpobaaDoorF.cal_12 rfl (fun _ => plain_spec w0 _ 4 3 8 8) ?_
  refine TL_cq rfl rfl rfl rfl YtlipbopmdfpobaaDoorF.cal_7 rfl (fun _ => check_at w0 _ hG ⟨4, 3, 8, 8, 1, 2, z32⟩ 4 (by decide +kernel)) ?_
  refine TL_q rfl rfl (QT_eql rfl rfl rfl rfl) ?_
  refine TL_q rfl rfl (QT_move rfl rfl rfl) ?_
  first
    | refine TL_q rfl rfl (QT_loadW 0 rfl rfl Tryd.underlying27 rfl rfl rfl YtlipbopmdfpobaaDoorF.sz_27) ?_
    | refine TL_q rfl rfl (QT_loadW 1 rfl rfl Tryd.underlying27 rfl rfl rfl YtlipbopmdfpobaaDoorF.sz_27) ?_
    | refine TL_q rfl rfl (QT_loadW 2 rfl rfl Tryd.underlying27 rfl rfl rfl YtlipbopmdfpobaaDoorF.sz_27) ?_
    | refine TL_q rfl rfl (QT_loadA 0 rfl rfl Tryd.underlying27 rfl rfl rfl YtlipbopmdfpobaaDoorF.sz_27 (fun _ => rfl)) ?_
    | refine TL_q rfl rfl (QT_loadA 1 rfl rfl Tryd.underlying27 rfl rfl rfl YtlipbopmdfpobaaDoorF.sz_27 (fun _ => rfl)) ?_
    | refine TL_q rfl rfl (QT_loadA 2 rfl rfl Tryd.underlying27 rfl rfl rfl YtlipbopmdfpobaaDoorF.sz_27 (fun _ => rfl)) ?_
  refine TL_cq rfl rfl rfl rfl YtlipbopmdfpobaaDoorF.cal_7 rfl (fun _ => check_at w0 _ hG ⟨5, 8, 8, 8, 1, 1, z32⟩ 4 (by decide +kernel)) ?_
  refine TL_q rfl rfl (QT_eql rfl rfl rfl rfl) ?_
  refine TL_q rfl rfl (QT_and rfl rfl rfl rfl) ?_
  refine TL_q rfl rfl (QT_move rfl rfl rfl) ?_
  refine TL_cq rfl rfl rfl rfl YtlipbopmdfpobaaDoorF.cal_12 rfl (fun _ => plain_spec w0 _ 5 8 8 3) ?_
  refine TL_cq rfl rfl rfl rfl YtlipbopmdfpobaaDoorF.cal_7 rfl (fun _ => check_at w0 _ hG ⟨5, 8, 8, 3, 1, 2, z32⟩ 0 (by decide +kernel)) ?_
  refine TL_q rfl rfl (QT_eql rfl rfl rfl rfl) ?_
  refine TL_q rfl rfl (QT_and rfl rfl rfl rfl) ?_
  refine TL_q rfl rfl (QT_assign rfl rfl rfl) ?_
  refine TL_nil ?_
  refine TX_then ?_
  refine TC_ret ?_
  exact TX_ret (.inl rfl) (res1 rfl rfl) ⟨_, ⟨rfl, rfl⟩, (fun _ h => by first | exact h | exact h.tail | exact h.tail.tail | exact h.tail.tail.tail | exact h.tail.tail.tail.tail | exact h.tail.tail.tail.tail.tail | exact h.tail.tail.tail.tail.tail.tail | exact h.tail.tail.tail.tail.tail.tail.tail | exact h.tail.tail.tail.tail.tail.tail.tail.tail | exact h.tail.tail.tail.tail.tail.tail.tail.tail.tail | exact h.tail.tail.tail.tail.tail.tail.tail.tail.tail.tail | exact h.tail.tail.tail.tail.tail.tail.tail.tail.tail.tail.tail | exact h.tail.tail.tail.tail.tail.tail.tail.tail.tail.tail.tail.tail | exact h.tail.tail.tail.tail.tail.tail.tail.tail.tail.tail.tail.tail.tail)⟩

theorem lawOf (w0 : World) (η : Heap) (hG : Sets w0) (L : Lay) (f : Int) (h0 : 0 ≤ f) : CallsT Tryd.prog 3 [L.val, .int .u8 f] (St w0 η) fun v A' => v = .bool true ∧ A' = St w0 η := by
  refine CallsT.body Tryd.func3 rfl rfl ?_
  simp only [Tryd.ntmps3, slotsOf, Nat.reduceAdd]
  refine TC_seq ?_
  refine TC_reg ?_
  refine TL_e rfl rfl rfl (rfl) (ET_box rfl rfl) ?_
  rintro _ _ ⟨b2, rfl, rfl⟩
  refine TL_q rfl rfl (QT_assign rfl rfl rfl) ?_
  refine TL_nil ?_
  refine TX_then ?_
  refine TC_seq ?_
  refine TC_draw [(0, false), (2, false), (1, true), (3, true), (4, false), (5, false), (6, false), (7, false), (9, false), (10, false), (8, true), (11, true), (12, false), (13, false), (14, false), (15, true), (16, false), (17, false)] YtlipbopmdfpobaaDoorF.mixed (by kernel_rfl) (St.calm _ _) ?_
  first
    | refine TV_ql rfl rfl rfl (QT_loadW 0 rfl rfl Tryd.underlying27 rfl rfl rfl YtlipbopmdfpobaaDoorF.sz_27) ?_
    | refine TV_ql rfl rfl rfl (QT_loadW 1 rfl rfl Tryd.underlying27 rfl rfl rfl YtlipbopmdfpobaaDoorF.sz_27) ?_
    | refine TV_ql rfl rfl rfl (QT_loadW 2 rfl rfl Tryd.underlying27 rfl rfl rfl YtlipbopmdfpobaaDoorF.sz_27) ?_
    | refine TV_ql rfl rfl rfl (QT_loadA 0 rfl rfl Tryd.underlying27 rfl rfl rfl YtlipbopmdfpobaaDoorF.sz_27 (fun _ => rfl)) ?_
    | refine TV_ql rfl rfl rfl (QT_loadA 1 rfl rfl Tryd.underlying27 rfl rfl rfl YtlipbopmdfpobaaDoorF.sz_27 (fun _ => rfl)) ?_
    | refine TV_ql rfl rfl rfl (QT_loadA 2 rfl rfl Tryd.underlying27 rfl rfl rfl YtlipbopmdfpobaaDoorF.sz_27 (fun _ => rfl)) ?_
  first
    | refine TV_ql rfl rfl rfl (QT_loadW 0 rfl rfl Tryd.underlying27 rfl rfl rfl YtlipbopmdfpobaaDoorF.sz_27) ?_
    | refine TV_ql rfl rfl rfl (QT_loadW 1 rfl rfl Tryd.underlying27 rfl rfl rfl YtlipbopmdfpobaaDoorF.sz_27) ?_
    | refine TV_ql rfl rfl rfl (QT_loadW 2 rfl rfl Tryd.underlying27 rfl rfl rfl YtlipbopmdfpobaaDoorF.sz_27) ?_
    | refine TV_ql rfl rfl rfl (QT_loadA 0 rfl rfl Tryd.underlying27 rfl rfl rfl YtlipbopmdfpobaaDoorF.sz_27 (fun _ => rfl)) ?_
    | refine TV_ql rfl rfl rfl (QT_loadA 1 rfl rfl Tryd.underlying27 rfl rfl rfl YtlipbopmdfpobaaDoorF.sz_27 (fun _ => rfl)) ?_
    | refine TV_ql rfl rfl rfl (QT_loadA 2 rfl rfl Tryd.underlying27 rfl rfl rfl YtlipbopmdfpobaaDoorF.sz_27 (fun _ => rfl)) ?_
  refine TV_cq rfl rfl rfl rfl rfl YtlipbopmdfpobaaDoorF.cal_7 rfl (fun _ => check_spec w0 _ hG L) (.keep (by kernel_rfl) rfl (by first | exact QT_loadW 0 rfl rfl Tryd.underlying27 rfl rfl rfl YtlipbopmdfpobaaDoorF.sz_27 | exact QT_loadW 1 rfl rfl Tryd.underlying27 rfl rfl rfl YtlipbopmdfpobaaDoorF.sz_27 | exact QT_loadW 2 rfl rfl Tryd.underlying27 rfl rfl rfl YtlipbopmdfpobaaDoorF.sz_27 | exact QT_loadA 0 rfl rfl Tryd.underlying27 rfl rfl rfl YtlipbopmdfpobaaDoorF.sz_27 (fun _ => rfl) | exact QT_loadA 1 rfl rfl Tryd.underlying27 rfl rfl rfl YtlipbopmdfpobaaDoorF.sz_27 (fun _ => rfl) | exact QT_loadA 2 rfl rfl Tryd.underlying27 rfl rfl rfl YtlipbopmdfpobaaDoorF.sz_27 (fun _ => rfl)) (.drop (by kernel_rfl) (.nil))) ?_
  refine TV_cq rfl rfl rfl rfl rfl YtlipbopmdfpobaaDoorF.cal_8 rfl (fun _ => rcheck_spec w0 _ L) (.drop (by kernel_rfl) (.nil)) ?_
  refine TV_q rfl rfl rfl (fun _ => QT_eql rfl rfl rfl rfl) ?_
  refine TV_q rfl rfl rfl (fun _ => QT_move rfl rfl rfl) ?_
  first
    | refine TV_ql rfl rfl rfl (QT_loadW 0 rfl rfl Tryd.underlying27 rfl rfl rfl YtlipbopmdfpobaaDoorF.sz_27) ?_
    | refine TV_ql rfl rfl rfl (QT_loadW 1 rfl rfl Tryd.underlying27 rfl rfl rfl YtlipbopmdfpobaaDoorF.sz_27) ?_
    | refine TV_ql rfl rfl rfl (QT_loadW 2 rfl rfl Tryd.underlying27 rfl rfl rfl YtlipbopmdfpobaaDoorF.sz_27) ?_
    | refine TV_ql rfl rfl rfl (QT_loadA 0 rfl rfl Tryd.underlying27 rfl rfl rfl YtlipbopmdfpobaaDoorF.sz_27 (fun _ => rfl)) ?_
    | refine TV_ql rfl rfl rfl (QT_loadA 1 rfl rfl Tryd.underlying27 rfl rfl rfl YtlipbopmdfpobaaDoorF.sz_27 (fun _ => rfl)) ?_
    | refine TV_ql rfl rfl rfl (QT_loadA 2 rfl rfl Tryd.underlying27 rfl rfl rfl YtlipbopmdfpobaaDoorF.sz_27 (fun _ => rfl)) ?_
  refine TV_q rfl rfl rfl (fun _ => QT_move rfl rfl rfl) ?_
  first
    | refine TV_ql rfl rfl rfl (QT_loadW 0 rfl rfl Tryd.underlying27 rfl rfl rfl YtlipbopmdfpobaaDoorF.sz_27) ?_
    | refine TV_ql rfl rfl rfl (QT_loadW 1 rfl rfl Tryd.underlying27 rfl rfl rfl YtlipbopmdfpobaaDoorF.sz_27) ?_
    | refine TV_ql rfl rfl rfl (QT_loadW 2 rfl rfl Tryd.underlying27 rfl rfl rfl YtlipbopmdfpobaaDoorF.sz_27) ?_
    | refine TV_ql rfl rfl rfl (QT_loadA 0 rfl rfl Tryd.underlying27 rfl rfl rfl YtlipbopmdfpobaaDoorF.sz_27 (fun _ => rfl)) ?_
    | refine TV_ql rfl rfl rfl (QT_loadA 1 rfl rfl Tryd.underlying27 rfl rfl rfl YtlipbopmdfpobaaDoorF.sz_27 (fun _ => rfl)) ?_
    | refine TV_ql rfl rfl rfl (QT_loadA 2 rfl rfl Tryd.underlying27 rfl rfl rfl YtlipbopmdfpobaaDoorF.sz_27 (fun _ => rfl)) ?_
  refine TV_q rfl rfl rfl (fun _ => QT_move rfl rfl rfl) ?_
  refine TV_cq rfl rfl rfl rfl rfl YtlipbopmdfpobaaDoorF.cal_9 rfl (fun _ => size_spec w0 _ hG L f h0) (.keep (by kernel_rfl) rfl (by first | exact QT_loadW 0 rfl rfl Tryd.underlying27 rfl rfl rfl YtlipbopmdfpobaaDoorF.sz_27 | exact QT_loadW 1 rfl rfl Tryd.underlying27 rfl rfl rfl YtlipbopmdfpobaaDoorF.sz_27 | exact QT_loadW 2 rfl rfl Tryd.underlying27 rfl rfl rfl YtlipbopmdfpobaaDoorF.sz_27 | exact QT_loadA 0 rfl rfl Tryd.underlying27 rfl rfl rfl YtlipbopmdfpobaaDoorF.sz_27 (fun _ => rfl) | exact QT_loadA 1 rfl rfl Tryd.underlying27 rfl rfl rfl YtlipbopmdfpobaaDoorF.sz_27 (fun _ => rfl) | exact QT_loadA 2 rfl rfl Tryd.underlying27 rfl rfl rfl YtlipbopmdfpobaaDoorF.sz_27 (fun _ => rfl)) (.drop (by kernel_rfl) (.nil))) ?_
  refine TV_cq rfl rfl rfl rfl rfl YtlipbopmdfpobaaDoorF.cal_10 rfl (fun _ => rsize_spec w0 _ L f h0) (.drop (by kernel_rfl) (.nil)) ?_
  refine TV_q rfl rfl rfl (fun _ => QT_eql rfl rfl rfl rfl) ?_
  refine TV_q rfl rfl rfl (fun _ => QT_and rfl rfl rfl rfl) ?_
  refine TV_q rfl rfl rfl (fun _ => QT_move rfl rfl rfl) ?_
  refine TV_cq rfl rfl rfl rfl rfl YtlipbopmdfpobaaDoorF.cal_11 rfl (fun _ => lives08 w0 _ hG) (.nil) ?_
  refine TV_q rfl rfl rfl (fun _ => QT_and rfl rfl rfl rfl) ?_
  refine TV_q rfl rfl rfl (fun _ => QT_assign rfl rfl rfl) ?_
  refine TV_end ?_
  refine TX_then ?_
  refine TC_ret ?_
  exact TX_ret (.inl rfl) (res1 rfl rfl) ⟨_, ⟨by simp, rfl⟩, (fun _ h => by first | exact h | exact h.tail | exact h.tail.tail | exact h.tail.tail.tail | exact h.tail.tail.tail.tail | exact h.tail.tail.tail.tail.tail | exact h.tail.tail.tail.tail.tail.tail | exact h.tail.tail.tail.tail.tail.tail.tail | exact h.tail.tail.tail.tail.tail.tail.tail.tail | exact h.tail.tail.tail.tail.tail.tail.tail.tail.tail | exact h.tail.tail.tail.tail.tail.tail.tail.tail.tail.tail | exact h.tail.tail.tail.tail.tail.tail.tail.tail.tail.tail.tail | exact h.tail.tail.tail.tail.tail.tail.tail.tail.tail.tail.tail.tail | exact h.tail.tail.tail.tail.tail.tail.tail.tail.tail.tail.tail.tail.tail)⟩
end Go.Proofs.YtlipbopmdfpobaaDoor

/- STREAMS, by the document's answer: faces, decoding, encoding: the same. STREAMS, by the document's answer: decoding, encoding: the same. STREAMS, by the document's answer: decoding in all cases, encoding. MESHES in the book; a twin of a mesh, and what is left of it. THE LAW: what any bytes tell is what the chapter says, in new memory, or refused; the bytes stay as they were. THE LAW: the bytes, and the faces, of any mesh are what the chapter says, in new memory, or refused; the mesh stays as it was. -/
import Derived.Test.YtjdaglmkljbfkaaGreatDoorDD06
namespace Go.Proofs.YtjdaglmkljbfkaaGreatDoor
open Go Go.Gx Go.RowKit
set_option maxRecDepth 100000
theorem rFaces_bad (w0 : Base) (η : Heap) (L : Lay) (hk : okB L = false) (ra sa : Option Addr) (nr ns rc sc : Nat) :
    CallsT Tryz.prog 18 [L.val, .agg #[.slice ra nr rc, .slice sa ns sc]] (St w0 η) fun v A' => v = .tuple #[nilS, nilS, .int .i64 4] ∧ A' = St w0 η := by
  have he : errOf L = 4 := by unfold errOf; rw [hk]; rfl
  refine CallsT.body Tryz.func18 rfl rfl ?_
  simp only [Tryz.ntmps18, slotsOf, Nat.reduceAdd]
  refine TC_seq ?_
  refine TC_reg ?_
  refine TL_e rfl rfl rfl (rfl) (ET_box rfl rfl) ?_
  rintro _ _ ⟨b2, rfl, rfl⟩
  refine TL_e rfl rfl rfl (rfl) (ET_box rfl rfl) ?_
  rintro _ _ ⟨b3, rfl, rfl⟩
  refine TL_q rfl rfl (QT_assign rfl rfl rfl) ?_
  refine TL_q rfl rfl (QT_assign rfl rfl rfl) ?_
  refine TL_q rfl rfl (QT_assign rfl rfl rfl) ?_
  refine TL_nil ?_
  refine TX_then ?_
  refine TC_seq ?_
  refine TC_seq ?_
  refine TC_A (St w0 ((b3, 34, [.slice ra nr rc, .slice sa ns sc]) :: (b2, 27, L.cells) :: η)) (fun _ h => h) ?_
  refine TC_reg ?_
  refine TL_q rfl rfl (QT_loadW 1 rfl rfl Tryz.underlying27 rfl rfl rfl YtjdaglmkljbfkaaGreatDoorF.sz_27) ?_
  refine TL_cq rfl rfl rfl rfl YtjdaglmkljbfkaaGreatDoorF.cal_28 rfl (fun _ => rcheck_spec w0 _ L) ?_
  refine TL_q rfl rfl (QT_neq rfl rfl rfl rfl) ?_
  refine TL_nil ?_
  refine TX_then ?_
  refine TC_cond rfl (fun _ => ?_) (fun h => absurd (h.symm.trans ((show decide (errOf L ≠ 0) = true by rw [he]; decide))) (by decide))
  refine TC_seq ?_
  refine TC_reg ?_
  refine TL_q rfl rfl (QT_assign rfl rfl rfl) ?_
  refine TL_q rfl rfl (QT_assign rfl rfl rfl) ?_
  refine TL_q rfl rfl (QT_assign rfl rfl rfl) ?_
  refine TL_nil ?_
  refine TX_then ?_
  refine TC_ret ?_
  refine TX_then_ret ?_
  exact TX_ret (.inl rfl) (res3 rfl rfl rfl rfl) ⟨_, ⟨rfl, rfl⟩, fun _ h => h.tail.tail⟩
theorem rFaces_wrong (w0 : Base) (η : Heap) (L : Lay) (hk : okB L = true) (ra sa : Option Addr) (nr ns rc sc : Nat) (hw : (L.ty ≤ 5 ∧ 0 < ns) ∨ (6 ≤ L.ty ∧ 0 < nr)) :
    CallsT Tryz.prog 18 [L.val, .agg #[.slice ra nr rc, .slice sa ns sc]] (St w0 η) fun v A' => v = .tuple #[nilS, nilS, .int .i64 1] ∧ A' = St w0 η := by
  have he : errOf L = 0 := by unfold errOf; rw [if_pos hk]
  refine CallsT.body Tryz.func18 rfl rfl ?_
  simp only [Tryz.ntmps18, slotsOf, Nat.reduceAdd]
  refine TC_seq ?_
  refine TC_reg ?_
  refine TL_e rfl rfl rfl (rfl) (ET_box rfl rfl) ?_
  rintro _ _ ⟨b2, rfl, rfl⟩
  refine TL_e rfl rfl rfl (rfl) (ET_box rfl rfl) ?_
  rintro _ _ ⟨b3, rfl, rfl⟩
  refine TL_q rfl rfl (QT_assign rfl rfl rfl) ?_
  refine TL_q rfl rfl (QT_assign rfl rfl rfl) ?_
  refine TL_q rfl rfl (QT_assign rfl rfl rfl) ?_
  refine TL_nil ?_
  refine TX_then ?_
  refine TC_seq ?_
  refine TC_seq ?_
  refine TC_A (St w0 ((b3, 34, [.slice ra nr rc, .slice sa ns sc]) :: (b2, 27, L.cells) :: η)) (fun _ h => h) ?_
  refine TC_reg ?_
  refine TL_q rfl rfl (QT_loadW 1 rfl rfl Tryz.underlying27 rfl rfl rfl YtjdaglmkljbfkaaGreatDoorF.sz_27) ?_
  refine TL_cq rfl rfl rfl rfl YtjdaglmkljbfkaaGreatDoorF.cal_28 rfl (fun _ => rcheck_spec w0 _ L) ?_
  refine TL_q rfl rfl (QT_neq rfl rfl rfl rfl) ?_
  refine TL_nil ?_
  refine TX_then ?_
  refine TC_cond rfl (fun h => absurd (h.symm.trans ((show decide (errOf L ≠ 0) = false by rw [he]; decide))) (by decide)) (fun _ => ?_)
  refine TC_skip ?_
  refine TX_then ?_
  refine TC_seq ?_
  refine TC_seq ?_
  refine TC_reg ?_
  refine TL_q rfl rfl (QT_field rfl rfl YtjdaglmkljbfkaaGreatDoorF.fld_27_0 rfl) ?_
  refine TL_q rfl rfl (QT_load 1 rfl rfl Tryz.underlying3 rfl rfl rfl (fun _ => rfl)) ?_
  refine TL_q rfl rfl (QT_leq rfl rfl rfl rfl) ?_
  refine TL_q rfl rfl (QT_move rfl rfl rfl) ?_
  refine TL_q rfl rfl (QT_field rfl rfl YtjdaglmkljbfkaaGreatDoorF.fld_34_1 rfl) ?_
  refine TL_q rfl rfl (QT_load 0 rfl rfl Tryz.underlying32 rfl rfl rfl (fun _ => rfl)) ?_
  refine TL_q rfl rfl (QT_len rfl rfl Tryz.underlying32 rfl) ?_
  refine TL_q rfl rfl (QT_gtr rfl rfl rfl rfl) ?_
  refine TL_q rfl rfl (QT_and rfl rfl rfl rfl) ?_
  refine TL_q rfl rfl (QT_move rfl rfl rfl) ?_
  refine TL_q rfl rfl (QT_field rfl rfl YtjdaglmkljbfkaaGreatDoorF.fld_27_0 rfl) ?_
  refine TL_q rfl rfl (QT_load 1 rfl rfl Tryz.underlying3 rfl rfl rfl (fun _ => rfl)) ?_
  refine TL_q rfl rfl (QT_geq rfl rfl rfl rfl) ?_
  refine TL_q rfl rfl (QT_move rfl rfl rfl) ?_
  refine TL_q rfl rfl (QT_field rfl rfl YtjdaglmkljbfkaaGreatDoorF.fld_34_0 rfl) ?_
  refine TL_q rfl rfl (QT_load 0 rfl rfl Tryz.underlying31 rfl rfl rfl (fun _ => rfl)) ?_
  refine TL_q rfl rfl (QT_len rfl rfl Tryz.underlying31 rfl) ?_
  refine TL_q rfl rfl (QT_gtr rfl rfl rfl rfl) ?_
  refine TL_q rfl rfl (QT_and rfl rfl rfl rfl) ?_
  refine TL_q rfl rfl (QT_or rfl rfl rfl rfl) ?_
  refine TL_nil ?_
  refine TX_then ?_
  refine TC_cond rfl (fun _ => ?_) (fun h => absurd (h.symm.trans ((show (_ : Bool) = true by simp only [Bool.or_eq_true, Bool.and_eq_true, decide_eq_true_eq]; omega))) (by decide))
  refine TC_seq ?_
  refine TC_reg ?_
  refine TL_q rfl rfl (QT_assign rfl rfl rfl) ?_
  refine TL_q rfl rfl (QT_assign rfl rfl rfl) ?_
  refine TL_q rfl rfl (QT_assign rfl rfl rfl) ?_
  refine TL_nil ?_
  refine TX_then ?_
  refine TC_ret ?_
  refine TX_then_ret ?_
  exact TX_ret (.inl rfl) (res3 rfl rfl rfl rfl) ⟨_, ⟨rfl, rfl⟩, fun _ h => h.tail.tail⟩
set_option maxHeartbeats 1000000 in
theorem rFaces_A (w0 : Base) (η : Heap) (L : Lay) (hk : okB L = true) (h5 : L.ty ≤ 5) (ra sa : Option Addr) (rc sc : Nat) (rs : List (List Nat)) (hs : SlA (St w0 η) (.slice ra rs.length rc) 7 rs.length (flatR rs)) (hr : ∀ r ∈ rs, RcF r) (hn : rs.length ≤ 1000000) :
    CallsT Tryz.prog 18 [L.val, .agg #[.slice ra rs.length rc, .slice sa 0 sc]] (St w0 η) fun v A' => ∃ pv H, v = .tuple #[pv, nilS, .int .i64 (trioF L (rs.map rvV)).2] ∧ Frag 79 21 pv (trioF L (rs.map rvV)).1.length (trioF L (rs.map rvV)).1.flatten H ∧ A' = St w0 (H ++ η) := by
  have he : errOf L = 0 := by unfold errOf; rw [if_pos hk]
  have hs2 : SlA (St w0 η) (.slice ra rs.length rc) 7 (rs.map rvV).length (rs.map rvV).flatten := by rw [List.length_map]; exact hs
  refine CallsT.body Tryz.func18 rfl rfl ?_
  simp only [Tryz.ntmps18, slotsOf, Nat.reduceAdd]
  refine TC_seq ?_
  refine TC_reg ?_
  refine TL_e rfl rfl rfl (rfl) (ET_box rfl rfl) ?_
  rintro _ _ ⟨b2, rfl, rfl⟩
  refine TL_e rfl rfl rfl (rfl) (ET_box rfl rfl) ?_
  rintro _ _ ⟨b3, rfl, rfl⟩
  refine TL_q rfl rfl (QT_assign rfl rfl rfl) ?_
  refine TL_q rfl rfl (QT_assign rfl rfl rfl) ?_
  refine TL_q rfl rfl (QT_assign rfl rfl rfl) ?_
  refine TL_nil ?_
  refine TX_then ?_
  refine TC_seq ?_
  refine TC_seq ?_
  refine TC_A (St w0 ((b3, 34, [.slice ra rs.length rc, .slice sa 0 sc]) :: (b2, 27, L.cells) :: η)) (fun _ h => h) ?_
  refine TC_reg ?_
  refine TL_q rfl rfl (QT_loadW 1 rfl rfl Tryz.underlying27 rfl rfl rfl YtjdaglmkljbfkaaGreatDoorF.sz_27) ?_
  refine TL_cq rfl rfl rfl rfl YtjdaglmkljbfkaaGreatDoorF.cal_28 rfl (fun _ => rcheck_spec w0 _ L) ?_
  refine TL_q rfl rfl (QT_neq rfl rfl rfl rfl) ?_
  refine TL_nil ?_
  refine TX_then ?_
  refine TC_cond rfl (fun h => absurd (h.symm.trans ((show decide (errOf L ≠ 0) = false by rw [he]; decide))) (by decide)) (fun _ => ?_)
  refine TC_skip ?_
  refine TX_then ?_
  refine TC_seq ?_
  refine TC_seq ?_
  refine TC_reg ?_
  refine TL_q rfl rfl (QT_field rfl rfl YtjdaglmkljbfkaaGreatDoorF.fld_27_0 rfl) ?_
  refine TL_q rfl rfl (QT_load 1 rfl rfl Tryz.underlying3 rfl rfl rfl (fun _ => rfl)) ?_
  refine TL_q rfl rfl (QT_leq rfl rfl rfl rfl) ?_
  refine TL_q rfl rfl (QT_move rfl rfl rfl) ?_
  refine TL_q rfl rfl (QT_field rfl rfl YtjdaglmkljbfkaaGreatDoorF.fld_34_1 rfl) ?_
  refine TL_q rfl rfl (QT_load 0 rfl rfl Tryz.underlying32 rfl rfl rfl (fun _ => rfl)) ?_
  refine TL_q rfl rfl (QT_len rfl rfl Tryz.underlying32 rfl) ?_
  refine TL_q rfl rfl (QT_gtr rfl rfl rfl rfl) ?_
  refine TL_q rfl rfl (QT_and rfl rfl rfl rfl) ?_
  refine TL_q rfl rfl (QT_move rfl rfl rfl) ?_
  refine TL_q rfl rfl (QT_field rfl rfl YtjdaglmkljbfkaaGreatDoorF.fld_27_0 rfl) ?_
  refine TL_q rfl rfl (QT_load 1 rfl rfl Tryz.underlying3 rfl rfl rfl (fun _ => rfl)) ?_
  refine TL_q rfl rfl (QT_geq rfl rfl rfl rfl) ?_
  refine TL_q rfl rfl (QT_move rfl rfl rfl) ?_
  refine TL_q rfl rfl (QT_field rfl rfl YtjdaglmkljbfkaaGreatDoorF.fld_34_0 rfl) ?_
  refine TL_q rfl rfl (QT_load 0 rfl rfl Tryz.underlying31 rfl rfl rfl (fun _ => rfl)) ?_
  refine TL_q rfl rfl (QT_len rfl rfl Tryz.underlying31 rfl) ?_
  refine TL_q rfl rfl (QT_gtr rfl rfl rfl rfl) ?_
  refine TL_q rfl rfl (QT_and rfl rfl rfl rfl) ?_
  refine TL_q rfl rfl (QT_or rfl rfl rfl rfl) ?_
  refine TL_nil ?_
  refine TX_then ?_
  refine TC_cond rfl (fun h => absurd (h.symm.trans ((show (_ : Bool) = false by simp only [Bool.or_eq_false_iff, Bool.and_eq_false_iff, decide_eq_false_iff_not]; omega))) (by decide)) (fun _ => ?_)
  refine TC_skip ?_
  refine TX_then ?_
  refine TC_seq ?_
  refine TC_seq ?_
  refine TC_reg ?_
  refine TL_q rfl rfl (QT_field rfl rfl YtjdaglmkljbfkaaGreatDoorF.fld_27_0 rfl) ?_
  refine TL_q rfl rfl (QT_load 1 rfl rfl Tryz.underlying3 rfl rfl rfl (fun _ => rfl)) ?_
  refine TL_q rfl rfl (QT_leq rfl rfl rfl rfl) ?_
  refine TL_nil ?_
  refine TX_then ?_
  refine TC_cond rfl (fun _ => ?_) (fun h => absurd (h.symm.trans ((show decide (L.ty ≤ 5) = true from decide_eq_true h5))) (by decide))
  refine TC_seq ?_
  refine TC_reg ?_
  refine TL_q rfl rfl (QT_loadW 1 rfl rfl Tryz.underlying27 rfl rfl rfl YtjdaglmkljbfkaaGreatDoorF.sz_27) ?_
  refine TL_q rfl rfl (QT_field rfl rfl YtjdaglmkljbfkaaGreatDoorF.fld_34_0 rfl) ?_
  refine TL_q rfl rfl (QT_load 0 rfl rfl Tryz.underlying31 rfl rfl rfl (fun _ => rfl)) ?_
  refine TL_e rfl rfl rfl (rfl) (ET_call rfl YtjdaglmkljbfkaaGreatDoorF.cal_83 rfl (rof_spec w0 _ L _ (rs.map rvV) (hs2.mono fun _ h => h.tail.tail) (all7R hr) (by rw [List.length_map]; omega))) ?_
  rintro _ _ ⟨pv, H1, rfl, hF1, rfl⟩
  refine TL_q rfl rfl (QT_move rfl rfl rfl) ?_
  refine TL_q rfl rfl (QT_extract rfl rfl rfl rfl) ?_
  refine TL_q rfl rfl (QT_extract rfl rfl rfl rfl) ?_
  refine TL_q rfl rfl (QT_assign rfl rfl rfl) ?_
  refine TL_q rfl rfl (QT_assign rfl rfl rfl) ?_
  refine TL_nil ?_
  refine TX_then ?_
  refine TC_seq ?_
  refine TC_reg ?_
  refine TL_q rfl rfl (QT_move rfl rfl rfl) ?_
  refine TL_q rfl rfl (QT_move rfl rfl rfl) ?_
  refine TL_q rfl rfl (QT_assign rfl rfl rfl) ?_
  refine TL_q rfl rfl (QT_assign rfl rfl rfl) ?_
  refine TL_q rfl rfl (QT_assign rfl rfl rfl) ?_
  refine TL_nil ?_
  refine TX_then ?_
  refine TC_ret ?_
  refine TX_then_ret ?_
  exact TX_ret (.inl rfl) (res3 rfl rfl rfl rfl) ⟨_, ⟨pv, H1, rfl, hF1, rfl⟩, fun w h => h.cnt fun p => by simp only [List.countP_append, List.countP_cons, List.countP_nil]; omega⟩
set_option maxHeartbeats 1000000 in
theorem rFaces_B (w0 : Base) (η : Heap) (L : Lay) (hk : okB L = true) (h5 : ¬L.ty ≤ 5) (ra sa : Option Addr) (rc sc : Nat) (rs : List (List Nat)) (hs : SlA (St w0 η) (.slice sa rs.length sc) 49 rs.length (flatS rs)) (hr : ∀ r ∈ rs, ShF r) (hn : rs.length ≤ 1000000) :
    CallsT Tryz.prog 18 [L.val, .agg #[.slice ra 0 rc, .slice sa rs.length sc]] (St w0 η) fun v A' => ∃ pv H, v = .tuple #[nilS, pv, .int .i64 (T12.errT L rs.length (flatS rs))] ∧ Frag 112 48 pv (T12.cntT L rs.length (flatS rs)) (T12.outT L rs.length (flatS rs)) H ∧ A' = St w0 (H ++ η) := by
  have he : errOf L = 0 := by unfold errOf; rw [if_pos hk]
  refine CallsT.body Tryz.func18 rfl rfl ?_
  simp only [Tryz.ntmps18, slotsOf, Nat.reduceAdd]
  refine TC_seq ?_
  refine TC_reg ?_
  refine TL_e rfl rfl rfl (rfl) (ET_box rfl rfl) ?_
  rintro _ _ ⟨b2, rfl, rfl⟩
  refine TL_e rfl rfl rfl (rfl) (ET_box rfl rfl) ?_
  rintro _ _ ⟨b3, rfl, rfl⟩
  refine TL_q rfl rfl (QT_assign rfl rfl rfl) ?_
  refine TL_q rfl rfl (QT_assign rfl rfl rfl) ?_
  refine TL_q rfl rfl (QT_assign rfl rfl rfl) ?_
  refine TL_nil ?_
  refine TX_then ?_
  refine TC_seq ?_
  refine TC_seq ?_
  refine TC_A (St w0 ((b3, 34, [.slice ra 0 rc, .slice sa rs.length sc]) :: (b2, 27, L.cells) :: η)) (fun _ h => h) ?_
  refine TC_reg ?_
  refine TL_q rfl rfl (QT_loadW 1 rfl rfl Tryz.underlying27 rfl rfl rfl YtjdaglmkljbfkaaGreatDoorF.sz_27) ?_
  refine TL_cq rfl rfl rfl rfl YtjdaglmkljbfkaaGreatDoorF.cal_28 rfl (fun _ => rcheck_spec w0 _ L) ?_
  refine TL_q rfl rfl (QT_neq rfl rfl rfl rfl) ?_
  refine TL_nil ?_
  refine TX_then ?_
  refine TC_cond rfl (fun h => absurd (h.symm.trans ((show decide (errOf L ≠ 0) = false by rw [he]; decide))) (by decide)) (fun _ => ?_)
  refine TC_skip ?_
  refine TX_then ?_
  refine TC_seq ?_
  refine TC_seq ?_
  refine TC_reg ?_
  refine TL_q rfl rfl (QT_field rfl rfl YtjdaglmkljbfkaaGreatDoorF.fld_27_0 rfl) ?_
  refine TL_q rfl rfl (QT_load 1 rfl rfl Tryz.underlying3 rfl rfl rfl (fun _ => rfl)) ?_
  refine TL_q rfl rfl (QT_leq rfl rfl rfl rfl) ?_
  refine TL_q rfl rfl (QT_move rfl rfl rfl) ?_
  refine TL_q rfl rfl (QT_field rfl rfl YtjdaglmkljbfkaaGreatDoorF.fld_34_1 rfl) ?_
  refine TL_q rfl rfl (QT_load 0 rfl rfl Tryz.underlying32 rfl rfl rfl (fun _ => rfl)) ?_
  refine TL_q rfl rfl (QT_len rfl rfl Tryz.underlying32 rfl) ?_
  refine TL_q rfl rfl (QT_gtr rfl rfl rfl rfl) ?_
  refine TL_q rfl rfl (QT_and rfl rfl rfl rfl) ?_
  refine TL_q rfl rfl (QT_move rfl rfl rfl) ?_
  refine TL_q rfl rfl (QT_field rfl rfl YtjdaglmkljbfkaaGreatDoorF.fld_27_0 rfl) ?_
  refine TL_q rfl rfl (QT_load 1 rfl rfl Tryz.underlying3 rfl rfl rfl (fun _ => rfl)) ?_
  refine TL_q rfl rfl (QT_geq rfl rfl rfl rfl) ?_
  refine TL_q rfl rfl (QT_move rfl rfl rfl) ?_
  refine TL_q rfl rfl (QT_field rfl rfl YtjdaglmkljbfkaaGreatDoorF.fld_34_0 rfl) ?_
  refine TL_q rfl rfl (QT_load 0 rfl rfl Tryz.underlying31 rfl rfl rfl (fun _ => rfl)) ?_
  refine TL_q rfl rfl (QT_len rfl rfl Tryz.underlying31 rfl) ?_
  refine TL_q rfl rfl (QT_gtr rfl rfl rfl rfl) ?_
  refine TL_q rfl rfl (QT_and rfl rfl rfl rfl) ?_
  refine TL_q rfl rfl (QT_or rfl rfl rfl rfl) ?_
  refine TL_nil ?_
  refine TX_then ?_
  refine TC_cond rfl (fun h => absurd (h.symm.trans ((show (_ : Bool) = false by simp only [Bool.or_eq_false_iff, Bool.and_eq_false_iff, decide_eq_false_iff_not]; omega))) (by decide)) (fun _ => ?_)
  refine TC_skip ?_
  refine TX_then ?_
  refine TC_seq ?_
  refine TC_seq ?_
  refine TC_reg ?_
  refine TL_q rfl rfl (QT_field rfl rfl YtjdaglmkljbfkaaGreatDoorF.fld_27_0 rfl) ?_
  refine TL_q rfl rfl (QT_load 1 rfl rfl Tryz.underlying3 rfl rfl rfl (fun _ => rfl)) ?_
  refine TL_q rfl rfl (QT_leq rfl rfl rfl rfl) ?_
  refine TL_nil ?_
  refine TX_then ?_
  refine TC_cond rfl (fun h => absurd (h.symm.trans ((show decide (L.ty ≤ 5) = false from decide_eq_false h5))) (by decide)) (fun _ => ?_)
  refine TC_skip ?_
  refine TX_then ?_
  refine TC_seq ?_
  refine TC_reg ?_
  refine TL_q rfl rfl (QT_loadW 1 rfl rfl Tryz.underlying27 rfl rfl rfl YtjdaglmkljbfkaaGreatDoorF.sz_27) ?_
  refine TL_q rfl rfl (QT_field rfl rfl YtjdaglmkljbfkaaGreatDoorF.fld_34_1 rfl) ?_
  refine TL_q rfl rfl (QT_load 0 rfl rfl Tryz.underlying32 rfl rfl rfl (fun _ => rfl)) ?_
  refine TL_e rfl rfl rfl (rfl) (ET_call rfl YtjdaglmkljbfkaaGreatDoorF.cal_84 rfl (T12.rof_spec w0 _ L _ _ (flatS rs) (hs.mono fun _ h => h.tail.tail) (flatS_ints hr) (by omega))) ?_
  rintro _ _ ⟨pv, H1, rfl, hF1, rfl⟩
  refine TL_q rfl rfl (QT_move rfl rfl rfl) ?_
  refine TL_q rfl rfl (QT_extract rfl rfl rfl rfl) ?_
  refine TL_q rfl rfl (QT_extract rfl rfl rfl rfl) ?_
  refine TL_q rfl rfl (QT_assign rfl rfl rfl) ?_
  refine TL_q rfl rfl (QT_assign rfl rfl rfl) ?_
  refine TL_nil ?_
  refine TX_then ?_
  refine TC_seq ?_
  refine TC_reg ?_
  refine TL_q rfl rfl (QT_move rfl rfl rfl) ?_
  refine TL_q rfl rfl (QT_move rfl rfl rfl) ?_
  refine TL_q rfl rfl (QT_assign rfl rfl rfl) ?_
  refine TL_q rfl rfl (QT_assign rfl rfl rfl) ?_
  refine TL_q rfl rfl (QT_assign rfl rfl rfl) ?_
  refine TL_nil ?_
  refine TX_then ?_
  refine TC_ret ?_
  exact TX_ret (.inl rfl) (res3 rfl rfl rfl rfl) ⟨_, ⟨pv, H1, rfl, hF1, rfl⟩, fun w h => h.cnt fun p => by simp only [List.countP_append, List.countP_cons, List.countP_nil]; omega⟩
theorem rFaces_spec (w0 : Base) (η : Heap) (L : Lay) (rv tv : Value) (rs ss : List (List Nat)) (hs : SlA (St w0 η) rv 7 rs.length (flatR rs)) (ht : SlA (St w0 η) tv 49 ss.length (flatS ss)) (hr : ∀ r ∈ rs, RcF r) (hq : ∀ r ∈ ss, ShF r) (hn : rs.length ≤ 1000000) (hm : ss.length ≤ 1000000) :
    CallsT Tryz.prog 18 [L.val, .agg #[rv, tv]] (St w0 η) fun v A' => ∃ pv H qv H', v = .tuple #[pv, qv, .int .i64 (faE L rs ss)] ∧ Frag 79 21 pv (faT L rs ss).length (faT L rs ss).flatten H ∧ Frag 112 48 qv (faN L rs ss) (faP L rs ss) H' ∧ A' = St w0 (H ++ (H' ++ η)) := by
  obtain ⟨ra, rc, rfl⟩ := slval hs
  obtain ⟨sa, sc, rfl⟩ := slval ht
  by_cases h0 : kiE L rs.length ss.length = 0
  · by_cases h5 : L.ty ≤ 5
    · obtain ⟨hk, hz⟩ := kiE_A h0 h5
      have e1 : faE L rs ss = (trioF L (rs.map rvV)).2 := by unfold faE; rw [if_pos h0, if_pos h5]
      have e2 : faT L rs ss = (trioF L (rs.map rvV)).1 := by unfold faT; rw [if_pos ⟨h0, h5⟩]
      have e3 : faN L rs ss = 0 := by unfold faN; rw [if_neg fun h => h.2 h5]
      have e4 : faP L rs ss = [] := by unfold faP; rw [if_neg fun h => h.2 h5]
      obtain rfl : ss = [] := List.eq_nil_of_length_eq_zero hz
      refine (rFaces_A w0 η L hk h5 ra sa rc sc rs hs hr hn).mono ?_
      rintro _ _ ⟨pv, H, rfl, hF, rfl⟩
      exact ⟨_, ⟨pv, H, nilS, [], by rw [e1], by rw [e2]; exact hF, by rw [e3, e4]; exact Frag.nil _ _, rfl⟩, fun _ h => h⟩
    · obtain ⟨hk, hz⟩ := kiE_B h0 h5
      have e1 : faE L rs ss = T12.errT L ss.length (flatS ss) := by unfold faE; rw [if_pos h0, if_neg h5]
      have e2 : faT L rs ss = [] := by unfold faT; rw [if_neg fun h => h5 h.2]
      have e3 : faN L rs ss = T12.cntT L ss.length (flatS ss) := by unfold faN; rw [if_pos ⟨h0, h5⟩]
      have e4 : faP L rs ss = T12.outT L ss.length (flatS ss) := by unfold faP; rw [if_pos ⟨h0, h5⟩]
      obtain rfl : rs = [] := List.eq_nil_of_length_eq_zero hz
      refine (rFaces_B w0 η L hk h5 ra sa rc sc ss ht hq hm).mono ?_
      rintro _ _ ⟨pv, H, rfl, hF, rfl⟩
      exact ⟨_, ⟨nilS, [], pv, H, by rw [e1], by rw [e2]; exact Frag.nil _ _, by rw [e3, e4]; exact hF, rfl⟩, fun _ h => h⟩
  · have e1 : faE L rs ss = kiE L rs.length ss.length := by unfold faE; rw [if_neg h0]
    have e2 : faT L rs ss = [] := by unfold faT; rw [if_neg fun h => h0 h.1]
    have e3 : faN L rs ss = 0 := by unfold faN; rw [if_neg fun h => h0 h.1]
    have e4 : faP L rs ss = [] := by unfold faP; rw [if_neg fun h => h0 h.1]
    by_cases hk : okB L = true
    · have hk1 : kiE L rs.length ss.length = 1 ∧ ((L.ty ≤ 5 ∧ 0 < ss.length) ∨ (6 ≤ L.ty ∧ 0 < rs.length)) := by
        unfold kiE at h0 ⊢
        rw [if_pos hk] at h0 ⊢
        by_cases h5 : L.ty ≤ 5
        · rw [if_pos h5] at h0 ⊢
          by_cases hz : ss.length = 0
          · rw [if_pos hz] at h0; exact absurd rfl h0
          · rw [if_neg hz]; exact ⟨rfl, .inl ⟨h5, by omega⟩⟩
        · rw [if_neg h5] at h0 ⊢
          by_cases hz : rs.length = 0
          · rw [if_pos hz] at h0; exact absurd rfl h0
          · rw [if_neg hz]; exact ⟨rfl, .inr ⟨by omega, by omega⟩⟩
      refine (rFaces_wrong w0 η L hk ra sa _ _ rc sc hk1.2).mono ?_
      rintro _ _ ⟨rfl, rfl⟩
      exact ⟨_, ⟨nilS, [], nilS, [], by rw [e1, hk1.1], by rw [e2]; exact Frag.nil _ _, by rw [e3, e4]; exact Frag.nil _ _, rfl⟩, fun _ h => h⟩
    · have hk1 : kiE L rs.length ss.length = 4 := by unfold kiE; rw [if_neg hk]
      refine (rFaces_bad w0 η L (by simpa using hk) ra sa _ _ rc sc).mono ?_
      rintro _ _ ⟨rfl, rfl⟩
      exact ⟨_, ⟨nilS, [], nilS, [], by rw [e1, hk1], by rw [e2]; exact Frag.nil _ _, by rw [e3, e4]; exact Frag.nil _ _, rfl⟩, fun _ h => h⟩
end Go.Proofs.YtjdaglmkljbfkaaGreatDoor
namespace Go.Proofs.YtjdaglmkljbfkaaGreatDoor
open Go Go.Gx Go.RowKit
set_option maxRecDepth 100000
theorem rDecode_bad (w0 : Base) (η : Heap) (L : Lay) (hk : okB L = false) (sv : Value) :
    CallsT Tryz.prog 8 [L.val, sv] (St w0 η) fun v A' => v = .tuple #[.agg #[nilS, nilS], .int .i64 4] ∧ A' = St w0 η := by
  have he : errOf L = 4 := by unfold errOf; rw [hk]; rfl
  refine CallsT.body Tryz.func8 rfl rfl ?_
  simp only [Tryz.ntmps8, slotsOf, Nat.reduceAdd]
  refine TC_seq ?_
  refine TC_reg ?_
  refine TL_e rfl rfl rfl (rfl) (ET_box rfl rfl) ?_
  rintro _ _ ⟨b2, rfl, rfl⟩
  refine TL_e rfl rfl rfl (rfl) (ET_alloc rfl YtjdaglmkljbfkaaGreatDoorF.zero_34) ?_
  rintro _ _ ⟨b4, rfl, rfl⟩
  refine TL_q rfl rfl (QT_assign rfl rfl rfl) ?_
  refine TL_nil ?_
  refine TX_then ?_
  refine TC_seq ?_
  refine TC_reg ?_
  refine TL_q rfl rfl (QT_build rfl rfl YtjdaglmkljbfkaaGreatDoorF.zero_34 YtjdaglmkljbfkaaGreatDoorF.pl_34 rfl rfl rfl) ?_
  refine TL_e rfl rfl rfl (rfl) (ET_alloc rfl YtjdaglmkljbfkaaGreatDoorF.zero_34) ?_
  rintro _ _ ⟨b6, rfl, rfl⟩
  refine TL_e0 rfl rfl (rfl) (ET_storeW 0 rfl rfl rfl YtjdaglmkljbfkaaGreatDoorF.sz_34 rfl rfl rfl) ?_
  rintro _ _ ⟨rfl, rfl⟩
  refine TL_nil ?_
  refine TX_then ?_
  refine TC_seq ?_
  refine TC_reg ?_
  refine TL_q rfl rfl (QT_assign rfl rfl rfl) ?_
  refine TL_nil ?_
  refine TX_then ?_
  refine TC_seq ?_
  refine TC_seq ?_
  refine TC_A (St w0 ((b6, 34, [nilS, nilS]) :: (b4, 34, [nilS, nilS]) :: (b2, 27, L.cells) :: η)) (fun _ h => h) ?_
  refine TC_reg ?_
  refine TL_q rfl rfl (QT_loadW 2 rfl rfl Tryz.underlying27 rfl rfl rfl YtjdaglmkljbfkaaGreatDoorF.sz_27) ?_
  refine TL_cq rfl rfl rfl rfl YtjdaglmkljbfkaaGreatDoorF.cal_28 rfl (fun _ => rcheck_spec w0 _ L) ?_
  refine TL_q rfl rfl (QT_neq rfl rfl rfl rfl) ?_
  refine TL_nil ?_
  refine TX_then ?_
  refine TC_cond rfl (fun _ => ?_) (fun h => absurd (h.symm.trans ((show decide (errOf L ≠ 0) = true by rw [he]; decide))) (by decide))
  refine TC_seq ?_
  refine TC_reg ?_
  refine TL_q rfl rfl (QT_loadW 0 rfl rfl Tryz.underlying34 rfl rfl rfl YtjdaglmkljbfkaaGreatDoorF.sz_34) ?_
  refine TL_q rfl rfl (QT_move rfl rfl rfl) ?_
  refine TL_e0 rfl rfl (rfl) (ET_storeW 1 rfl rfl rfl YtjdaglmkljbfkaaGreatDoorF.sz_34 rfl rfl rfl) ?_
  rintro _ _ ⟨rfl, rfl⟩
  refine TL_q rfl rfl (QT_assign rfl rfl rfl) ?_
  refine TL_nil ?_
  refine TX_then ?_
  refine TC_ret ?_
  refine TX_then_ret ?_
  exact TX_ret (.inl rfl) (resCT 1 rfl rfl rfl Tryz.underlying34 rfl rfl YtjdaglmkljbfkaaGreatDoorF.sz_34) ⟨_, ⟨rfl, rfl⟩, fun w h => h.cnt fun p => by simp only [upd, List.countP_append, List.countP_cons, List.countP_nil] <;> omega⟩
set_option maxHeartbeats 2000000 in
theorem rDecode_A (w0 : Base) (η : Heap) (L : Lay) (hk : okB L = true) (h5 : L.ty ≤ 5) (sv : Value) (bs : List Nat) (hs : SlA (St w0 η) sv 1 bs.length (byV bs)) (hb : ∀ c ∈ bs, c < 256) (hl : bs.length ≤ 1000000) :
    CallsT Tryz.prog 8 [L.val, sv] (St w0 η) fun v A' => ∃ rv H, v = .tuple #[.agg #[rv, nilS], .int .i64 (dcE L bs)] ∧ Frag 77 7 rv (dcO L bs).length (flatR (dcO L bs)) H ∧ ∃ X, A' = St w0 (H ++ (X ++ η)) := by
  have he : errOf L = 0 := by unfold errOf; rw [if_pos hk]
  have hl : bs.length ≤ 100000000 := by omega
  refine CallsT.body Tryz.func8 rfl rfl ?_
  simp only [Tryz.ntmps8, slotsOf, Nat.reduceAdd]
  refine TC_seq ?_
  refine TC_reg ?_
  refine TL_e rfl rfl rfl (rfl) (ET_box rfl rfl) ?_
  rintro _ _ ⟨b2, rfl, rfl⟩
  refine TL_e rfl rfl rfl (rfl) (ET_alloc rfl YtjdaglmkljbfkaaGreatDoorF.zero_34) ?_
  rintro _ _ ⟨b4, rfl, rfl⟩
  refine TL_q rfl rfl (QT_assign rfl rfl rfl) ?_
  refine TL_nil ?_
  refine TX_then ?_
  refine TC_seq ?_
  refine TC_reg ?_
  refine TL_q rfl rfl (QT_build rfl rfl YtjdaglmkljbfkaaGreatDoorF.zero_34 YtjdaglmkljbfkaaGreatDoorF.pl_34 rfl rfl rfl) ?_
  refine TL_e rfl rfl rfl (rfl) (ET_alloc rfl YtjdaglmkljbfkaaGreatDoorF.zero_34) ?_
  rintro _ _ ⟨b6, rfl, rfl⟩
  refine TL_e0 rfl rfl (rfl) (ET_storeW 0 rfl rfl rfl YtjdaglmkljbfkaaGreatDoorF.sz_34 rfl rfl rfl) ?_
  rintro _ _ ⟨rfl, rfl⟩
  refine TL_nil ?_
  refine TX_then ?_
  refine TC_seq ?_
  refine TC_reg ?_
  refine TL_q rfl rfl (QT_assign rfl rfl rfl) ?_
  refine TL_nil ?_
  refine TX_then ?_
  refine TC_seq ?_
  refine TC_seq ?_
  refine TC_A (St w0 ((b6, 34, [nilS, nilS]) :: (b4, 34, [nilS, nilS]) :: (b2, 27, L.cells) :: η)) (fun _ h => h) ?_
  refine TC_reg ?_
  refine TL_q rfl rfl (QT_loadW 2 rfl rfl Tryz.underlying27 rfl rfl rfl YtjdaglmkljbfkaaGreatDoorF.sz_27) ?_
  refine TL_cq rfl rfl rfl rfl YtjdaglmkljbfkaaGreatDoorF.cal_28 rfl (fun _ => rcheck_spec w0 _ L) ?_
  refine TL_q rfl rfl (QT_neq rfl rfl rfl rfl) ?_
  refine TL_nil ?_
  refine TX_then ?_
  refine TC_cond rfl (fun h => absurd (h.symm.trans ((show decide (errOf L ≠ 0) = false by rw [he]; decide))) (by decide)) (fun _ => ?_)
  refine TC_skip ?_
  refine TX_then ?_
  refine TC_seq ?_
  refine TC_seq ?_
  refine TC_reg ?_
  refine TL_q rfl rfl (QT_field rfl rfl YtjdaglmkljbfkaaGreatDoorF.fld_27_0 rfl) ?_
  refine TL_q rfl rfl (QT_load 2 rfl rfl Tryz.underlying3 rfl rfl rfl (fun _ => rfl)) ?_
  refine TL_q rfl rfl (QT_leq rfl rfl rfl rfl) ?_
  refine TL_nil ?_
  refine TX_then ?_
  refine TC_cond rfl (fun _ => ?_) (fun h => absurd (h.symm.trans ((show decide (L.ty ≤ 5) = true from decide_eq_true h5))) (by decide))
  refine TC_reg ?_
  refine TL_q rfl rfl (QT_loadW 2 rfl rfl Tryz.underlying27 rfl rfl rfl YtjdaglmkljbfkaaGreatDoorF.sz_27) ?_
  refine TL_q rfl rfl (QT_move rfl rfl rfl) ?_
  refine TL_e rfl rfl rfl (rfl) (ET_call rfl YtjdaglmkljbfkaaGreatDoorF.cal_29 rfl (rrget_spec w0 _ L _ bs (hs.mono fun _ h => h.tail.tail.tail) hb hl)) ?_
  rintro _ _ ⟨rv, H1, rfl, hF1, rfl⟩
  refine TL_q rfl rfl (QT_move rfl rfl rfl) ?_
  refine TL_q rfl rfl (QT_extract rfl rfl rfl rfl) ?_
  refine TL_q rfl rfl (QT_extract rfl rfl rfl rfl) ?_
  refine TL_q rfl rfl (QT_field rfl rfl YtjdaglmkljbfkaaGreatDoorF.fld_34_0 rfl) ?_
  obtain ⟨rad, rcap, rfl, _, _⟩ := hF1.slice
  refine TL_e0 rfl rfl (rfl) (ET_under (ET_store (w0 := w0) (η := (b6, 34, [nilS, nilS]) :: (H1 ++ ((b4, 34, [nilS, nilS]) :: (b2, 27, L.cells) :: η))) (vs := [.slice rad (outRG L bs).length rcap]) 0 rfl rfl rfl rfl YtjdaglmkljbfkaaGreatDoorF.sz_31 rfl rfl rfl) (fun w h => h.cnt fun p => by simp only [List.countP_append, List.countP_cons, List.countP_nil]; omega)) ?_
  rintro _ _ ⟨rfl, rfl⟩
  refine TL_q rfl rfl (QT_assign rfl rfl rfl) ?_
  refine TL_nil ?_
  refine TX_then ?_
  refine TC_seq ?_
  refine TC_seq ?_
  have hol := outRG_len L bs
  have hsh : ∀ r ∈ outRG L bs, RcF r := outRG_rcf
  refine TC_A (St w0 ((b6, 34, [.slice rad (outRG L bs).length rcap, nilS]) :: (H1 ++ ((b4, 34, [nilS, nilS]) :: (b2, 27, L.cells) :: η)))) (fun _ h => h) ?_
  refine TC_A (St w0 ((b6, 34, [.slice rad (outRG L bs).length rcap, nilS]) :: (b4, 34, [nilS, nilS]) :: (b2, 27, L.cells) :: (H1 ++ η))) (fun w h => h.cnt fun p => by simp only [ List.countP_append, List.countP_cons, List.countP_nil]; omega) ?_
  refine TC_reg ?_
  refine TL_q rfl rfl (QT_move rfl rfl rfl) ?_
  refine TL_q rfl rfl (QT_neq rfl rfl rfl rfl) ?_
  refine TL_nil ?_
  refine TX_then ?_
  refine TC_cond_dec rfl (fun h32 => ?_) (fun h32 => ?_)
  ·
    refine TC_seq ?_
    refine TC_reg ?_
    refine TL_q rfl rfl (QT_build rfl rfl YtjdaglmkljbfkaaGreatDoorF.zero_34 YtjdaglmkljbfkaaGreatDoorF.pl_34 rfl rfl rfl) ?_
    refine TL_q rfl rfl (QT_move rfl rfl rfl) ?_
    refine TL_e0 rfl rfl (rfl) (ET_storeW 1 rfl rfl rfl YtjdaglmkljbfkaaGreatDoorF.sz_34 rfl rfl rfl) ?_
    rintro _ _ ⟨rfl, rfl⟩
    refine TL_q rfl rfl (QT_assign rfl rfl rfl) ?_
    refine TL_nil ?_
    refine TX_then ?_
    refine TC_ret ?_
    refine TX_then_ret ?_
    have e : dcE L bs = errRG L bs := by unfold dcE; rw [if_neg h32]
    have eo : dcO L bs = [] := by unfold dcO; rw [e, if_neg h32]
    exact TX_ret (.inl rfl) (resCT 1 rfl rfl rfl Tryz.underlying34 rfl rfl YtjdaglmkljbfkaaGreatDoorF.sz_34) ⟨_, ⟨nilS, [], by rw [e]; rfl, by rw [eo]; exact Frag.nil _ _, [], rfl⟩, fun w h => h.cnt fun p => by simp only [upd, List.countP_append, List.countP_cons, List.countP_nil] <;> omega⟩
  ·
    refine TC_skip ?_
    refine TX_then ?_
    refine TC_seq ?_
    have e0 := Classical.not_not.1 h32
    obtain ⟨f1, _, _, _⟩ := fa_A hk h5 (outRG L bs)
    refine TC_A (St w0 ((b6, 34, [.slice rad (outRG L bs).length rcap, nilS]) :: (b4, 34, [nilS, nilS]) :: (b2, 27, L.cells) :: (H1 ++ η))) (fun _ h => h) ?_
    refine TC_reg ?_
    refine TL_q rfl rfl (QT_loadW 2 rfl rfl Tryz.underlying27 rfl rfl rfl YtjdaglmkljbfkaaGreatDoorF.sz_27) ?_
    refine TL_q rfl rfl (QT_loadW 0 rfl rfl Tryz.underlying34 rfl rfl rfl YtjdaglmkljbfkaaGreatDoorF.sz_34) ?_
    refine TL_e rfl rfl rfl (rfl) (ET_call rfl YtjdaglmkljbfkaaGreatDoorF.cal_18 rfl (rFaces_spec w0 _ L _ _ (outRG L bs) [] (hF1.within fun p => by simp only [List.countP_append, List.countP_cons]; omega) ((Frag.nil 102 49).sla (H := [])) hsh (fun r hr => by cases hr) (by first | omega | exact Nat.zero_le _) (by first | omega | exact Nat.zero_le _))) ?_
    rintro _ _ ⟨pv, H2, qv, G2, rfl, hF2, hT2, rfl⟩
    refine TL_q rfl rfl (QT_move rfl rfl rfl) ?_
    refine TL_q rfl rfl (QT_extract rfl rfl rfl rfl) ?_
    refine TL_q rfl rfl (QT_extract rfl rfl rfl rfl) ?_
    refine TL_q rfl rfl (QT_extract rfl rfl rfl rfl) ?_
    refine TL_q rfl rfl (QT_assign rfl rfl rfl) ?_
    refine TL_nil ?_
    refine TX_then ?_
    refine TC_seq ?_
    refine TC_seq ?_
    simp only [f1]
    refine TC_A (St w0 ((b6, 34, [.slice rad (outRG L bs).length rcap, nilS]) :: (b4, 34, [nilS, nilS]) :: (b2, 27, L.cells) :: (H1 ++ η))) (fun w h => h.cnt fun p => by simp only [List.countP_append, List.countP_cons, List.countP_nil]; omega) ?_
    refine TC_reg ?_
    refine TL_q rfl rfl (QT_move rfl rfl rfl) ?_
    refine TL_q rfl rfl (QT_neq rfl rfl rfl rfl) ?_
    refine TL_nil ?_
    refine TX_then ?_
    refine TC_cond_dec rfl (fun h43 => ?_) (fun h43 => ?_)
    ·
      refine TC_seq ?_
      refine TC_reg ?_
      refine TL_q rfl rfl (QT_build rfl rfl YtjdaglmkljbfkaaGreatDoorF.zero_34 YtjdaglmkljbfkaaGreatDoorF.pl_34 rfl rfl rfl) ?_
      refine TL_q rfl rfl (QT_move rfl rfl rfl) ?_
      refine TL_e0 rfl rfl (rfl) (ET_storeW 1 rfl rfl rfl YtjdaglmkljbfkaaGreatDoorF.sz_34 rfl rfl rfl) ?_
      rintro _ _ ⟨rfl, rfl⟩
      refine TL_q rfl rfl (QT_assign rfl rfl rfl) ?_
      refine TL_nil ?_
      refine TX_then ?_
      refine TC_ret ?_
      refine TX_then_ret ?_
      have e : dcE L bs = (trioF L ((outRG L bs).map rvV)).2 := by unfold dcE; rw [if_pos e0]
      have eo : dcO L bs = [] := by unfold dcO; rw [e, if_neg h43]
      exact TX_ret (.inl rfl) (resCT 1 rfl rfl rfl Tryz.underlying34 rfl rfl YtjdaglmkljbfkaaGreatDoorF.sz_34) ⟨_, ⟨nilS, [], by rw [e]; rfl, by rw [eo]; exact Frag.nil _ _, [], rfl⟩, fun w h => h.cnt fun p => by simp only [upd, List.countP_append, List.countP_cons, List.countP_nil] <;> omega⟩
    ·
      refine TC_skip ?_
      refine TX_then ?_
      refine TC_seq ?_
      refine TC_reg ?_
      refine TL_q rfl rfl (QT_loadW 0 rfl rfl Tryz.underlying34 rfl rfl rfl YtjdaglmkljbfkaaGreatDoorF.sz_34) ?_
      refine TL_e0 rfl rfl (rfl) (ET_storeW 1 rfl rfl rfl YtjdaglmkljbfkaaGreatDoorF.sz_34 rfl rfl rfl) ?_
      rintro _ _ ⟨rfl, rfl⟩
      refine TL_q rfl rfl (QT_assign rfl rfl rfl) ?_
      refine TL_nil ?_
      refine TX_then ?_
      refine TC_ret ?_
      have e2 := Classical.not_not.1 h43
      have e : dcE L bs = 0 := by unfold dcE; rw [if_pos e0, e2]
      have eo : dcO L bs = outRG L bs := by unfold dcO; rw [if_pos e]
      exact TX_ret (.inl rfl) (resCT 1 rfl rfl rfl Tryz.underlying34 rfl rfl YtjdaglmkljbfkaaGreatDoorF.sz_34) ⟨_, ⟨_, H1, by rw [e], by rw [eo]; exact hF1, [], rfl⟩, fun w h => h.cnt fun p => by simp only [upd, List.countP_append, List.countP_cons, List.countP_nil] <;> omega⟩
set_option maxHeartbeats 2000000 in
theorem rDecode_B (w0 : Base) (η : Heap) (L : Lay) (hk : okB L = true) (h5 : ¬L.ty ≤ 5) (sv : Value) (bs : List Nat) (hs : SlA (St w0 η) sv 1 bs.length (byV bs)) (hb : ∀ c ∈ bs, c < 256) (hl : bs.length ≤ 1000000) :
    CallsT Tryz.prog 8 [L.val, sv] (St w0 η) fun v A' => ∃ rv H, v = .tuple #[.agg #[nilS, rv], .int .i64 (dsE L bs)] ∧ Frag 102 49 rv (dsO L bs).length (flatS (dsO L bs)) H ∧ ∃ X, A' = St w0 (H ++ (X ++ η)) := by
  have he : errOf L = 0 := by unfold errOf; rw [if_pos hk]
  have hl : bs.length ≤ 100000000 := by omega
  refine CallsT.body Tryz.func8 rfl rfl ?_
  simp only [Tryz.ntmps8, slotsOf, Nat.reduceAdd]
  refine TC_seq ?_
  refine TC_reg ?_
  refine TL_e rfl rfl rfl (rfl) (ET_box rfl rfl) ?_
  rintro _ _ ⟨b2, rfl, rfl⟩
  refine TL_e rfl rfl rfl (rfl) (ET_alloc rfl YtjdaglmkljbfkaaGreatDoorF.zero_34) ?_
  rintro _ _ ⟨b4, rfl, rfl⟩
  refine TL_q rfl rfl (QT_assign rfl rfl rfl) ?_
  refine TL_nil ?_
  refine TX_then ?_
  refine TC_seq ?_
  refine TC_reg ?_
  refine TL_q rfl rfl (QT_build rfl rfl YtjdaglmkljbfkaaGreatDoorF.zero_34 YtjdaglmkljbfkaaGreatDoorF.pl_34 rfl rfl rfl) ?_
  refine TL_e rfl rfl rfl (rfl) (ET_alloc rfl YtjdaglmkljbfkaaGreatDoorF.zero_34) ?_
  rintro _ _ ⟨b6, rfl, rfl⟩
  refine TL_e0 rfl rfl (rfl) (ET_storeW 0 rfl rfl rfl YtjdaglmkljbfkaaGreatDoorF.sz_34 rfl rfl rfl) ?_
  rintro _ _ ⟨rfl, rfl⟩
  refine TL_nil ?_
  refine TX_then ?_
  refine TC_seq ?_
  refine TC_reg ?_
  refine TL_q rfl rfl (QT_assign rfl rfl rfl) ?_
  refine TL_nil ?_
  refine TX_then ?_
  refine TC_seq ?_
  refine TC_seq ?_
  refine TC_A (St w0 ((b6, 34, [nilS, nilS]) :: (b4, 34, [nilS, nilS]) :: (b2, 27, L.cells) :: η)) (fun _ h => h) ?_
  refine TC_reg ?_
  refine TL_q rfl rfl (QT_loadW 2 rfl rfl Tryz.underlying27 rfl rfl rfl YtjdaglmkljbfkaaGreatDoorF.sz_27) ?_
  refine TL_cq rfl rfl rfl rfl YtjdaglmkljbfkaaGreatDoorF.cal_28 rfl (fun _ => rcheck_spec w0 _ L) ?_
  refine TL_q rfl rfl (QT_neq rfl rfl rfl rfl) ?_
  refine TL_nil ?_
  refine TX_then ?_
  refine TC_cond rfl (fun h => absurd (h.symm.trans ((show decide (errOf L ≠ 0) = false by rw [he]; decide))) (by decide)) (fun _ => ?_)
  refine TC_skip ?_
  refine TX_then ?_
  refine TC_seq ?_
  refine TC_seq ?_
  refine TC_reg ?_
  refine TL_q rfl rfl (QT_field rfl rfl YtjdaglmkljbfkaaGreatDoorF.fld_27_0 rfl) ?_
  refine TL_q rfl rfl (QT_load 2 rfl rfl Tryz.underlying3 rfl rfl rfl (fun _ => rfl)) ?_
  refine TL_q rfl rfl (QT_leq rfl rfl rfl rfl) ?_
  refine TL_nil ?_
  refine TX_then ?_
  refine TC_cond rfl (fun h => absurd (h.symm.trans ((show decide (L.ty ≤ 5) = false from decide_eq_false h5))) (by decide)) (fun _ => ?_)
  refine TC_reg ?_
  refine TL_q rfl rfl (QT_loadW 2 rfl rfl Tryz.underlying27 rfl rfl rfl YtjdaglmkljbfkaaGreatDoorF.sz_27) ?_
  refine TL_q rfl rfl (QT_move rfl rfl rfl) ?_
  refine TL_e rfl rfl rfl (rfl) (ET_call rfl YtjdaglmkljbfkaaGreatDoorF.cal_30 rfl (rsget_spec w0 _ L _ bs (hs.mono fun _ h => h.tail.tail.tail) hb (by omega))) ?_
  rintro _ _ ⟨rv, H1, rfl, hF1, rfl⟩
  refine TL_q rfl rfl (QT_move rfl rfl rfl) ?_
  refine TL_q rfl rfl (QT_extract rfl rfl rfl rfl) ?_
  refine TL_q rfl rfl (QT_extract rfl rfl rfl rfl) ?_
  refine TL_q rfl rfl (QT_field rfl rfl YtjdaglmkljbfkaaGreatDoorF.fld_34_1 rfl) ?_
  obtain ⟨rad, rcap, rfl, _, _⟩ := hF1.slice
  refine TL_e0 rfl rfl (rfl) (ET_under (ET_store (w0 := w0) (η := (b6, 34, [nilS, nilS]) :: (H1 ++ ((b4, 34, [nilS, nilS]) :: (b2, 27, L.cells) :: η))) (vs := [.slice rad (outG L bs).length rcap]) 0 rfl rfl rfl rfl YtjdaglmkljbfkaaGreatDoorF.sz_32 rfl rfl rfl) (fun w h => h.cnt fun p => by simp only [List.countP_append, List.countP_cons, List.countP_nil]; omega)) ?_
  rintro _ _ ⟨rfl, rfl⟩
  refine TL_q rfl rfl (QT_assign rfl rfl rfl) ?_
  refine TL_nil ?_
  refine TX_then ?_
  refine TC_seq ?_
  refine TC_seq ?_
  have hol := outG_len L bs
  have hsh : ∀ r ∈ outG L bs, ShF r := outG_shf
  refine TC_A (St w0 ((b6, 34, [nilS, .slice rad (outG L bs).length rcap]) :: (H1 ++ ((b4, 34, [nilS, nilS]) :: (b2, 27, L.cells) :: η)))) (fun _ h => h) ?_
  refine TC_A (St w0 ((b6, 34, [nilS, .slice rad (outG L bs).length rcap]) :: (b4, 34, [nilS, nilS]) :: (b2, 27, L.cells) :: (H1 ++ η))) (fun w h => h.cnt fun p => by simp only [ List.countP_append, List.countP_cons, List.countP_nil]; omega) ?_
  refine TC_reg ?_
  refine TL_q rfl rfl (QT_move rfl rfl rfl) ?_
  refine TL_q rfl rfl (QT_neq rfl rfl rfl rfl) ?_
  refine TL_nil ?_
  refine TX_then ?_
  refine TC_cond_dec rfl (fun h32 => ?_) (fun h32 => ?_)
  ·
    refine TC_seq ?_
    refine TC_reg ?_
    refine TL_q rfl rfl (QT_build rfl rfl YtjdaglmkljbfkaaGreatDoorF.zero_34 YtjdaglmkljbfkaaGreatDoorF.pl_34 rfl rfl rfl) ?_
    refine TL_q rfl rfl (QT_move rfl rfl rfl) ?_
    refine TL_e0 rfl rfl (rfl) (ET_storeW 1 rfl rfl rfl YtjdaglmkljbfkaaGreatDoorF.sz_34 rfl rfl rfl) ?_
    rintro _ _ ⟨rfl, rfl⟩
    refine TL_q rfl rfl (QT_assign rfl rfl rfl) ?_
    refine TL_nil ?_
    refine TX_then ?_
    refine TC_ret ?_
    refine TX_then_ret ?_
    have e : dsE L bs = errG L bs := by unfold dsE; rw [if_neg h32]
    have eo : dsO L bs = [] := by unfold dsO; rw [e, if_neg h32]
    exact TX_ret (.inl rfl) (resCT 1 rfl rfl rfl Tryz.underlying34 rfl rfl YtjdaglmkljbfkaaGreatDoorF.sz_34) ⟨_, ⟨nilS, [], by rw [e]; rfl, by rw [eo]; exact Frag.nil _ _, [], rfl⟩, fun w h => h.cnt fun p => by simp only [upd, List.countP_append, List.countP_cons, List.countP_nil] <;> omega⟩
  ·
    refine TC_skip ?_
    refine TX_then ?_
    refine TC_seq ?_
    have e0 := Classical.not_not.1 h32
    obtain ⟨f1, _, _, _⟩ := fa_B hk h5 (outG L bs)
    refine TC_A (St w0 ((b6, 34, [nilS, .slice rad (outG L bs).length rcap]) :: (b4, 34, [nilS, nilS]) :: (b2, 27, L.cells) :: (H1 ++ η))) (fun _ h => h) ?_
    refine TC_reg ?_
    refine TL_q rfl rfl (QT_loadW 2 rfl rfl Tryz.underlying27 rfl rfl rfl YtjdaglmkljbfkaaGreatDoorF.sz_27) ?_
    refine TL_q rfl rfl (QT_loadW 0 rfl rfl Tryz.underlying34 rfl rfl rfl YtjdaglmkljbfkaaGreatDoorF.sz_34) ?_
    refine TL_e rfl rfl rfl (rfl) (ET_call rfl YtjdaglmkljbfkaaGreatDoorF.cal_18 rfl (rFaces_spec w0 _ L _ _ [] (outG L bs) ((Frag.nil 77 7).sla (H := [])) (hF1.within fun p => by simp only [List.countP_append, List.countP_cons]; omega) (fun r hr => by cases hr) hsh (by first | omega | exact Nat.zero_le _) (by first | omega | exact Nat.zero_le _))) ?_
    rintro _ _ ⟨pv, H2, qv, G2, rfl, hF2, hT2, rfl⟩
    refine TL_q rfl rfl (QT_move rfl rfl rfl) ?_
    refine TL_q rfl rfl (QT_extract rfl rfl rfl rfl) ?_
    refine TL_q rfl rfl (QT_extract rfl rfl rfl rfl) ?_
    refine TL_q rfl rfl (QT_extract rfl rfl rfl rfl) ?_
    refine TL_q rfl rfl (QT_assign rfl rfl rfl) ?_
    refine TL_nil ?_
    refine TX_then ?_
    refine TC_seq ?_
    refine TC_seq ?_
    simp only [f1]
    refine TC_A (St w0 ((b6, 34, [nilS, .slice rad (outG L bs).length rcap]) :: (b4, 34, [nilS, nilS]) :: (b2, 27, L.cells) :: (H1 ++ η))) (fun w h => h.cnt fun p => by simp only [List.countP_append, List.countP_cons, List.countP_nil]; omega) ?_
    refine TC_reg ?_
    refine TL_q rfl rfl (QT_move rfl rfl rfl) ?_
    refine TL_q rfl rfl (QT_neq rfl rfl rfl rfl) ?_
    refine TL_nil ?_
    refine TX_then ?_
    refine TC_cond_dec rfl (fun h43 => ?_) (fun h43 => ?_)
    ·
      refine TC_seq ?_
      refine TC_reg ?_
      refine TL_q rfl rfl (QT_build rfl rfl YtjdaglmkljbfkaaGreatDoorF.zero_34 YtjdaglmkljbfkaaGreatDoorF.pl_34 rfl rfl rfl) ?_
      refine TL_q rfl rfl (QT_move rfl rfl rfl) ?_
      refine TL_e0 rfl rfl (rfl) (ET_storeW 1 rfl rfl rfl YtjdaglmkljbfkaaGreatDoorF.sz_34 rfl rfl rfl) ?_
      rintro _ _ ⟨rfl, rfl⟩
      refine TL_q rfl rfl (QT_assign rfl rfl rfl) ?_
      refine TL_nil ?_
      refine TX_then ?_
      refine TC_ret ?_
      refine TX_then_ret ?_
      have e : dsE L bs = T12.errT L (outG L bs).length (flatS (outG L bs)) := by unfold dsE; rw [if_pos e0]
      have eo : dsO L bs = [] := by unfold dsO; rw [e, if_neg h43]
      exact TX_ret (.inl rfl) (resCT 1 rfl rfl rfl Tryz.underlying34 rfl rfl YtjdaglmkljbfkaaGreatDoorF.sz_34) ⟨_, ⟨nilS, [], by rw [e]; rfl, by rw [eo]; exact Frag.nil _ _, [], rfl⟩, fun w h => h.cnt fun p => by simp only [upd, List.countP_append, List.countP_cons, List.countP_nil] <;> omega⟩
    ·
      refine TC_skip ?_
      refine TX_then ?_
      refine TC_seq ?_
      refine TC_reg ?_
      refine TL_q rfl rfl (QT_loadW 0 rfl rfl Tryz.underlying34 rfl rfl rfl YtjdaglmkljbfkaaGreatDoorF.sz_34) ?_
      refine TL_e0 rfl rfl (rfl) (ET_storeW 1 rfl rfl rfl YtjdaglmkljbfkaaGreatDoorF.sz_34 rfl rfl rfl) ?_
      rintro _ _ ⟨rfl, rfl⟩
      refine TL_q rfl rfl (QT_assign rfl rfl rfl) ?_
      refine TL_nil ?_
      refine TX_then ?_
      refine TC_ret ?_
      have e2 := Classical.not_not.1 h43
      have e : dsE L bs = 0 := by unfold dsE; rw [if_pos e0, e2]
      have eo : dsO L bs = outG L bs := by unfold dsO; rw [if_pos e]
      exact TX_ret (.inl rfl) (resCT 1 rfl rfl rfl Tryz.underlying34 rfl rfl YtjdaglmkljbfkaaGreatDoorF.sz_34) ⟨_, ⟨_, H1, by rw [e], by rw [eo]; exact hF1, [], rfl⟩, fun w h => h.cnt fun p => by simp only [upd, List.countP_append, List.countP_cons, List.countP_nil] <;> omega⟩
end Go.Proofs.YtjdaglmkljbfkaaGreatDoor
namespace Go.Proofs.YtjdaglmkljbfkaaGreatDoor
open Go Go.Gx Go.RowKit
set_option maxRecDepth 100000
theorem rDecode_spec (w0 : Base) (η : Heap) (L : Lay) (sv : Value) (bs : List Nat) (hs : SlA (St w0 η) sv 1 bs.length (byV bs)) (hb : ∀ c ∈ bs, c < 256) (hl : bs.length ≤ 1000000) :
    CallsT Tryz.prog 8 [L.val, sv] (St w0 η) fun v A' => ∃ rv H tv H', v = .tuple #[.agg #[rv, tv], .int .i64 (dmE L bs)] ∧ Frag 77 7 rv (dmR L bs).length (flatR (dmR L bs)) H ∧ Frag 102 49 tv (dmS L bs).length (flatS (dmS L bs)) H' ∧ ∃ X, A' = St w0 (H ++ (H' ++ (X ++ η))) := by
  by_cases hk : okB L = true
  · by_cases h5 : L.ty ≤ 5
    · obtain ⟨e1, e2, e3⟩ := dmE_A hk h5 bs
      refine (rDecode_A w0 η L hk h5 sv bs hs hb hl).mono ?_
      rintro _ _ ⟨rv, H, rfl, hF, X, rfl⟩
      exact ⟨_, ⟨rv, H, nilS, [], by rw [e1], by rw [e2]; exact hF, by rw [e3]; exact Frag.nil _ _, X, rfl⟩, fun _ h => h⟩
    · obtain ⟨e1, e2, e3⟩ := dmE_B hk h5 bs
      refine (rDecode_B w0 η L hk h5 sv bs hs hb hl).mono ?_
      rintro _ _ ⟨rv, H, rfl, hF, X, rfl⟩
      exact ⟨_, ⟨nilS, [], rv, H, by rw [e1], by rw [e2]; exact Frag.nil _ _, by rw [e3]; exact hF, X, rfl⟩, fun _ h => h⟩
  · have e1 : dmE L bs = 4 := by unfold dmE; rw [if_neg hk]
    have e2 : dmR L bs = [] := by unfold dmR; rw [if_neg fun h => hk h.1]
    have e3 : dmS L bs = [] := by unfold dmS; rw [if_neg fun h => hk h.1]
    refine (rDecode_bad w0 η L (by simpa using hk) sv).mono ?_
    rintro _ _ ⟨rfl, rfl⟩
    exact ⟨_, ⟨nilS, [], nilS, [], by rw [e1], by rw [e2]; exact Frag.nil _ _, by rw [e3]; exact Frag.nil _ _, [], rfl⟩, fun _ h => h⟩
end Go.Proofs.YtjdaglmkljbfkaaGreatDoor
namespace Go.Proofs.YtjdaglmkljbfkaaGreatDoor
open Go Go.Gx Go.RowKit
set_option maxRecDepth 100000
set_option maxHeartbeats 1000000 in
theorem book_Mesh (w0 : Base) (η HR HS : Heap) (kb : Nat) (k : Bk) (sr ss : List Strip) (rv tv : Value) (n m : Nat) (xs ys : List Value) (Hv Gv : Heap) (h0 : 0 ≤ k.many ∧ k.many ≤ 900) (hF : Frag 186 9 k.recs sr.length (arrOf sr) HR) (hs : ∀ s ∈ sr, s.ok 77 7 recK) (hsl : sr.length ≤ 900)
    (hF2 : Frag 188 51 k.sheets ss.length (arrOf ss) HS) (hs2 : ∀ s ∈ ss, s.ok 102 49 sheetK) (hsl2 : ss.length ≤ 900) (hv : ∃ ad n cap, rv = .slice ad n cap) (hv2 : ∃ ad n cap, tv = .slice ad n cap) :
    CallsT Tryz.prog 10 [.pointer (some ⟨kb, 0, none⟩), .agg #[rv, tv]] (St w0 ((kb, 52, k.cells) :: (HR ++ (HS ++ η)))) fun _ A' => ∃ r HR' s HS', Frag 186 9 r (sr.length + 1) (arrOf (sr ++ [⟨rv, n, xs, nilS, rcMark (k.many + 1), Hv⟩])) HR' ∧
      Frag 188 51 s (ss.length + 1) (arrOf (ss ++ [⟨tv, m, ys, nilS, shMark (k.many + 1 + 1), Gv⟩])) HS' ∧ A' = St w0 ((kb, 52, { k with many := k.many + 1 + 1, recs := r, sheets := s }.cells) :: (HR' ++ (HS' ++ η))) := by
  obtain ⟨rad, rn, rcap, rfl⟩ := hv
  obtain ⟨tad, tn, tcap, rfl⟩ := hv2
  refine CallsT.body Tryz.func10 rfl rfl ?_
  simp only [Tryz.ntmps10, slotsOf, Nat.reduceAdd]
  refine TC_seq ?_
  refine TC_reg ?_
  refine TL_e rfl rfl rfl (rfl) (ET_box rfl rfl) ?_
  rintro _ _ ⟨b3, rfl, rfl⟩
  refine TL_nil ?_
  refine TX_then ?_
  refine TC_seq ?_
  refine TC_A (St w0 ((b3, 34, [.slice rad rn rcap, .slice tad tn tcap]) :: (kb, 52, k.cells) :: (HR ++ (HS ++ η)))) (fun _ h => h) ?_
  refine TC_reg ?_
  refine TL_q rfl rfl (QT_move rfl rfl rfl) ?_
  refine TL_q rfl rfl (QT_field rfl rfl YtjdaglmkljbfkaaGreatDoorF.fld_34_0 rfl) ?_
  refine TL_q rfl rfl (QT_load 0 rfl rfl Tryz.underlying31 rfl rfl rfl (fun _ => rfl)) ?_
  refine TL_A (St w0 ((kb, 52, k.cells) :: (HR ++ ((b3, 34, [.slice rad rn rcap, .slice tad tn tcap]) :: (HS ++ η))))) (fun _ h => h.cnt fun p => by simp only [List.countP_append, List.countP_cons, List.countP_nil]; omega) ?_
  refine TL_e rfl rfl rfl (rfl) (ET_call rfl YtjdaglmkljbfkaaGreatDoorF.cal_32 rfl (book_Recs w0 _ HR kb k sr _ n xs Hv (by omega) hF hs (by omega) ⟨_, _, _, rfl⟩)) ?_
  rintro _ _ ⟨r1, HR', hF1, rfl⟩
  refine TL_nil ?_
  refine TX_then ?_
  refine TC_A (St w0 ((b3, 34, [.slice rad rn rcap, .slice tad tn tcap]) :: (kb, 52, Bk.cells { k with many := k.many + 1, recs := r1 }) :: (HR' ++ (HS ++ η)))) (fun _ h => h.cnt fun p => by simp only [List.countP_append, List.countP_cons, List.countP_nil]; omega) ?_
  refine TC_reg ?_
  refine TL_q rfl rfl (QT_move rfl rfl rfl) ?_
  refine TL_q rfl rfl (QT_field rfl rfl YtjdaglmkljbfkaaGreatDoorF.fld_34_1 rfl) ?_
  refine TL_q rfl rfl (QT_load 0 rfl rfl Tryz.underlying32 rfl rfl rfl (fun _ => rfl)) ?_
  refine TL_A (St w0 ((kb, 52, Bk.cells { k with many := k.many + 1, recs := r1 }) :: (HS ++ ((b3, 34, [.slice rad rn rcap, .slice tad tn tcap]) :: (HR' ++ η))))) (fun _ h => h.cnt fun p => by simp only [List.countP_append, List.countP_cons, List.countP_nil]; omega) ?_
  refine TL_e rfl rfl rfl (rfl) (ET_call rfl YtjdaglmkljbfkaaGreatDoorF.cal_33 rfl (book_Sheets w0 _ HS kb { k with many := k.many + 1, recs := r1 } ss _ m ys Gv (by dsimp only; omega) hF2 hs2 (by omega) ⟨_, _, _, rfl⟩)) ?_
  rintro _ _ ⟨r2, HS', hF3, rfl⟩
  refine TL_nil ?_
  exact TX_ret (.inr rfl) (res0 rfl) ⟨_, ⟨r1, HR', r2, HS', hF1, hF3, rfl⟩, fun _ h => h.cnt fun p => by simp only [List.countP_append, List.countP_cons, List.countP_nil]; omega⟩
end Go.Proofs.YtjdaglmkljbfkaaGreatDoor
namespace Go.Proofs.YtjdaglmkljbfkaaGreatDoor
open Go Go.Gx Go.RowKit
set_option maxRecDepth 100000
set_option maxHeartbeats 8000000 in
theorem law_streamsDecode (w0 : Base) (η : Heap) (hG : Sets w0) (hE : T12.Edges w0) (L : Lay) (bv : Value) (bs : List Nat) (hs : SlA (St w0 η) bv 1 bs.length (byV bs)) (hb : ∀ c ∈ bs, c < 256) :
    CallsT Tryz.prog 3 [L.val, bv] (St w0 η) fun v A' => v = .bool true ∧ A' = St w0 η := by
  have hs0 := hs
  have hxl := hs.1
  obtain ⟨ba, bc, rfl⟩ := slval hs
  have hs1 : ∀ X : Heap, SlA (St w0 (X ++ η)) (.slice ba bs.length bc) 1 bs.length (byV bs) := fun X => hs0.mono fun _ h => h.app_right
  have hi := byV_ints hb
  have hrr : ∀ r ∈ dmR L bs, RcF r := dmR_rcf
  have hqq : ∀ r ∈ dmS L bs, ShF r := dmS_shf
  have hrl := dmR_len L bs
  have hql := dmS_len L bs
  refine CallsT.body Tryz.func3 rfl rfl ?_
  simp only [Tryz.ntmps3, slotsOf, Nat.reduceAdd]
  refine TC_seq ?_
  refine TC_reg ?_
  refine TL_e rfl rfl rfl (rfl) (ET_box rfl rfl) ?_
  rintro _ _ ⟨b2, rfl, rfl⟩
  refine TL_q rfl rfl (QT_assign rfl rfl rfl) ?_
  refine TL_nil ?_
  refine TX_then ?_
  refine TC_seq ?_
  refine TC_seq ?_
  refine TC_reg ?_
  refine TL_q rfl rfl (QT_move rfl rfl rfl) ?_
  refine TL_q rfl rfl (QT_len rfl rfl Tryz.underlying28 rfl) ?_
  refine TL_q rfl rfl (QT_gtr rfl rfl rfl rfl) ?_
  refine TL_q rfl rfl (QT_move rfl rfl rfl) ?_
  refine TL_q rfl rfl (QT_move rfl rfl rfl) ?_
  refine TL_q rfl rfl (QT_len rfl rfl Tryz.underlying28 rfl) ?_
  refine TL_q rfl rfl (QT_leq rfl rfl rfl rfl) ?_
  refine TL_q rfl rfl (QT_and rfl rfl rfl rfl) ?_
  refine TL_q rfl rfl (QT_move rfl rfl rfl) ?_
  refine TL_q rfl rfl (QT_move rfl rfl rfl) ?_
  refine TL_q rfl rfl (QT_len rfl rfl Tryz.underlying28 rfl) ?_
  refine TL_q rfl rfl (QT_gtr rfl rfl rfl rfl) ?_
  refine TL_q rfl rfl (QT_or rfl rfl rfl rfl) ?_
  refine TL_nil ?_
  refine TX_then ?_
  refine TC_cond rfl (fun h25 => ?_) (fun h25 => ?_)
  ·
    refine TC_seq ?_
    refine TC_reg ?_
    refine TL_cq rfl rfl rfl rfl YtjdaglmkljbfkaaGreatDoorF.cal_5 rfl (fun _ => lives13 w0 _ hG hE) ?_
    refine TL_q rfl rfl (QT_assign rfl rfl rfl) ?_
    refine TL_nil ?_
    refine TX_then ?_
    refine TC_ret ?_
    refine TX_then_ret ?_
    exact TX_ret (.inl rfl) (res1 rfl rfl) ⟨_, ⟨rfl, rfl⟩, fun _ h => h.tail⟩
  ·
    refine TC_skip ?_
    refine TX_then ?_
    refine TC_seq ?_
    have hn : bs.length ≤ 70000 := by
      simp only [Bool.or_eq_false_iff, Bool.and_eq_false_iff, decide_eq_false_iff_not] at h25
      omega
    refine TC_A (St w0 ((b2, 27, L.cells) :: η)) (fun _ h => h) ?_
    refine TC_reg ?_
    refine TL_q rfl rfl (QT_move rfl rfl rfl) ?_
    refine TL_e rfl rfl rfl (rfl) (ET_call rfl YtjdaglmkljbfkaaGreatDoorF.cal_6 rfl (twin_Bytes w0 _ _ bs.length (byV bs) (hs1 [_]) hi (by omega))) ?_
    rintro _ _ ⟨bt, rfl, rfl⟩
    refine TL_q rfl rfl (QT_assign rfl rfl rfl) ?_
    refine TL_nil ?_
    refine TX_then ?_
    refine TC_seq ?_
    have hDec := fun (X : Heap) (sv : Value) (hsv : SlA (St w0 X) sv 1 bs.length (byV bs)) => Decode_spec w0 X hG hE L sv bs hsv hb (by omega)
    have hRef := fun (X : Heap) (sv : Value) (hsv : SlA (St w0 X) sv 1 bs.length (byV bs)) => rDecode_spec w0 X L sv bs hsv hb (by omega)
    generalize hEE : dmE L bs = E at *
    generalize hRE : dmR L bs = rs at *
    generalize hSE : dmS L bs = ss at *
    have hri := flatR_ints hrr
    have hqi := flatS_ints hqq
    refine TC_A (St w0 ((b2, 27, L.cells) :: (bt, 5, byV bs ++ mkB) :: η)) (fun w h => h.cnt fun p => by simp only [List.countP_append, List.countP_cons, List.countP_nil]; omega) ?_
    refine TC_reg ?_
    refine TL_q rfl rfl (QT_loadW 0 rfl rfl Tryz.underlying27 rfl rfl rfl YtjdaglmkljbfkaaGreatDoorF.sz_27) ?_
    refine TL_q rfl rfl (QT_move rfl rfl rfl) ?_
    refine TL_e rfl rfl rfl (rfl) (ET_call rfl YtjdaglmkljbfkaaGreatDoorF.cal_7 rfl (hDec _ _ ((twinFragB hxl (by omega)).within fun p => by simp only [List.countP_cons, List.countP_nil]; omega))) ?_
    rintro _ _ ⟨pv, H1, qv, G1, rfl, hF1, hT1, rfl⟩
    refine TL_q rfl rfl (QT_move rfl rfl rfl) ?_
    refine TL_q rfl rfl (QT_extract rfl rfl rfl rfl) ?_
    refine TL_q rfl rfl (QT_extract rfl rfl rfl rfl) ?_
    refine TL_e rfl rfl rfl (rfl) (ET_alloc rfl YtjdaglmkljbfkaaGreatDoorF.zero_34) ?_
    rintro _ _ ⟨b6, rfl, rfl⟩
    obtain ⟨pad, pcap, rfl, _, _⟩ := hF1.slice
    obtain ⟨qad, qcap, rfl, _, _⟩ := hT1.slice
    refine TL_e0 rfl rfl (rfl) (ET_storeW 0 rfl rfl rfl YtjdaglmkljbfkaaGreatDoorF.sz_34 rfl rfl rfl) ?_
    rintro _ _ ⟨rfl, rfl⟩
    refine TL_q rfl rfl (QT_assign rfl rfl rfl) ?_
    refine TL_nil ?_
    refine TX_then ?_
    refine TC_seq ?_
    refine TC_A (St w0 ((b6, 34, [.slice pad rs.length pcap, .slice qad ss.length qcap]) :: (b2, 27, L.cells) :: (bt, 5, byV bs ++ mkB) :: (H1 ++ (G1 ++ η)))) (fun w h => h.cnt fun p => by simp only [upd, List.countP_append, List.countP_cons, List.countP_nil]; omega) ?_
    refine TC_reg ?_
    refine TL_q rfl rfl (QT_loadW 1 rfl rfl Tryz.underlying27 rfl rfl rfl YtjdaglmkljbfkaaGreatDoorF.sz_27) ?_
    refine TL_q rfl rfl (QT_move rfl rfl rfl) ?_
    refine TL_e rfl rfl rfl (rfl) (ET_call rfl YtjdaglmkljbfkaaGreatDoorF.cal_8 rfl (hRef _ _ (hs0.mono fun _ h => h.tail.tail.tail.app_right.app_right))) ?_
    rintro _ _ ⟨rv, H2, tv, G2, rfl, hF2, hT2, X2, rfl⟩
    refine TL_q rfl rfl (QT_move rfl rfl rfl) ?_
    refine TL_q rfl rfl (QT_extract rfl rfl rfl rfl) ?_
    refine TL_q rfl rfl (QT_extract rfl rfl rfl rfl) ?_
    refine TL_e rfl rfl rfl (rfl) (ET_alloc rfl YtjdaglmkljbfkaaGreatDoorF.zero_34) ?_
    rintro _ _ ⟨b8, rfl, rfl⟩
    obtain ⟨rad, rcap, rfl, _, _⟩ := hF2.slice
    obtain ⟨tad, tcap, rfl, _, _⟩ := hT2.slice
    refine TL_e0 rfl rfl (rfl) (ET_storeW 0 rfl rfl rfl YtjdaglmkljbfkaaGreatDoorF.sz_34 rfl rfl rfl) ?_
    rintro _ _ ⟨rfl, rfl⟩
    refine TL_q rfl rfl (QT_assign rfl rfl rfl) ?_
    refine TL_nil ?_
    refine TX_then ?_
    refine TC_seq ?_
    refine TC_A (St w0 ((b2, 27, L.cells) :: (b8, 34, [.slice rad rs.length rcap, .slice tad ss.length tcap]) :: (b6, 34, [.slice pad rs.length pcap, .slice qad ss.length qcap]) :: (bt, 5, byV bs ++ mkB) :: (H1 ++ (G1 ++ (H2 ++ (G2 ++ η)))))) (fun w h => h.cnt fun p => by simp only [upd, List.countP_append, List.countP_cons, List.countP_nil]; omega) ?_
    refine TC_reg ?_
    refine TL_q rfl rfl (QT_loadW 0 rfl rfl Tryz.underlying27 rfl rfl rfl YtjdaglmkljbfkaaGreatDoorF.sz_27) ?_
    refine TL_q rfl rfl (QT_move rfl rfl rfl) ?_
    refine TL_e rfl rfl rfl (rfl) (ET_call rfl YtjdaglmkljbfkaaGreatDoorF.cal_7 rfl (hDec _ _ ((twinFragB hxl (by omega)).within fun p => by simp only [List.countP_append, List.countP_cons, List.countP_nil]; omega))) ?_
    rintro _ _ ⟨ov, H3, uv, G3, rfl, hF3, hT3, rfl⟩
    refine TL_q rfl rfl (QT_move rfl rfl rfl) ?_
    refine TL_q rfl rfl (QT_extract rfl rfl rfl rfl) ?_
    refine TL_q rfl rfl (QT_extract rfl rfl rfl rfl) ?_
    refine TL_e rfl rfl rfl (rfl) (ET_alloc rfl YtjdaglmkljbfkaaGreatDoorF.zero_34) ?_
    rintro _ _ ⟨b10, rfl, rfl⟩
    obtain ⟨oad, ocap, rfl, _, _⟩ := hF3.slice
    obtain ⟨uad, ucap, rfl, _, _⟩ := hT3.slice
    refine TL_e0 rfl rfl (rfl) (ET_storeW 0 rfl rfl rfl YtjdaglmkljbfkaaGreatDoorF.sz_34 rfl rfl rfl) ?_
    rintro _ _ ⟨rfl, rfl⟩
    refine TL_q rfl rfl (QT_assign rfl rfl rfl) ?_
    refine TL_nil ?_
    refine TX_then ?_
    refine TC_seq ?_
    refine TC_A (St w0 ((b10, 34, [.slice oad rs.length ocap, .slice uad ss.length ucap]) :: (b8, 34, [.slice rad rs.length rcap, .slice tad ss.length tcap]) :: (b6, 34, [.slice pad rs.length pcap, .slice qad ss.length qcap]) :: (bt, 5, byV bs ++ mkB) :: (H1 ++ (G1 ++ (H2 ++ (G2 ++ (H3 ++ (G3 ++ η)))))))) (fun w h => h.cnt fun p => by simp only [upd, List.countP_append, List.countP_cons, List.countP_nil]; omega) ?_
    refine TC_reg ?_
    refine TL_q rfl rfl (QT_build rfl rfl YtjdaglmkljbfkaaGreatDoorF.zero_52 YtjdaglmkljbfkaaGreatDoorF.pl_52 rfl rfl rfl) ?_
    refine TL_e rfl rfl rfl (rfl) (ET_alloc rfl YtjdaglmkljbfkaaGreatDoorF.zero_52) ?_
    rintro _ _ ⟨b12, rfl, rfl⟩
    refine TL_e0 rfl rfl (rfl) (ET_storeW 0 rfl rfl rfl YtjdaglmkljbfkaaGreatDoorF.sz_52 rfl rfl rfl) ?_
    rintro _ _ ⟨rfl, rfl⟩
    refine TL_nil ?_
    refine TX_then ?_
    refine TC_seq ?_
    refine TC_reg ?_
    refine TL_q rfl rfl (QT_move rfl rfl rfl) ?_
    refine TL_A (St w0 ((b12, 52, Bk.new.cells) :: ([] ++ ((b10, 34, [.slice oad rs.length ocap, .slice uad ss.length ucap]) :: (b8, 34, [.slice rad rs.length rcap, .slice tad ss.length tcap]) :: (b6, 34, [.slice pad rs.length pcap, .slice qad ss.length qcap]) :: (bt, 5, byV bs ++ mkB) :: (H1 ++ (G1 ++ (H2 ++ (G2 ++ (H3 ++ (G3 ++ η)))))))))) (fun w h => by rw [newCells]; exact h) ?_
    refine TL_e rfl rfl rfl (rfl) (ET_call rfl YtjdaglmkljbfkaaGreatDoorF.cal_9 rfl (book_Bytes w0 _ [] b12 Bk.new [] _ bs.length (byV bs) [(bt, 5, byV bs ++ mkB)] (by decide) (Frag.nil _ _) (fun s h => by cases h) (Nat.zero_le _) ⟨_, _, _, rfl⟩)) ?_
    rintro _ _ ⟨r1, HB, hFB, rfl⟩
    refine TL_nil ?_
    refine TX_then ?_
    refine TC_seq ?_
    refine TC_A (St w0 ((b12, 52, Bk.cells { Bk.new with many := 0 + 1, bytes := r1 }) :: (HB ++ ((b10, 34, [.slice oad rs.length ocap, .slice uad ss.length ucap]) :: (b8, 34, [.slice rad rs.length rcap, .slice tad ss.length tcap]) :: (b6, 34, [.slice pad rs.length pcap, .slice qad ss.length qcap]) :: (bt, 5, byV bs ++ mkB) :: (H1 ++ (G1 ++ (H2 ++ (G2 ++ (H3 ++ (G3 ++ η)))))))))) (fun _ h => h) ?_
    refine TC_A (St w0 ((b6, 34, [.slice pad rs.length pcap, .slice qad ss.length qcap]) :: (b12, 52, Bk.cells { Bk.new with many := 0 + 1, bytes := r1 }) :: (HB ++ ((b10, 34, [.slice oad rs.length ocap, .slice uad ss.length ucap]) :: (b8, 34, [.slice rad rs.length rcap, .slice tad ss.length tcap]) :: (bt, 5, byV bs ++ mkB) :: (H1 ++ (G1 ++ (H2 ++ (G2 ++ (H3 ++ (G3 ++ η)))))))))) (fun _ h => h.cnt fun p => by simp only [List.countP_append, List.countP_cons, List.countP_nil]; omega) ?_
    refine TC_reg ?_
    refine TL_q rfl rfl (QT_loadW 0 rfl rfl Tryz.underlying34 rfl rfl rfl YtjdaglmkljbfkaaGreatDoorF.sz_34) ?_
    refine TL_A (St w0 ((b12, 52, Bk.cells { Bk.new with many := 0 + 1, bytes := r1 }) :: ([] ++ ([] ++ (HB ++ ((b6, 34, [.slice pad rs.length pcap, .slice qad ss.length qcap]) :: (b10, 34, [.slice oad rs.length ocap, .slice uad ss.length ucap]) :: (b8, 34, [.slice rad rs.length rcap, .slice tad ss.length tcap]) :: (bt, 5, byV bs ++ mkB) :: (H1 ++ (G1 ++ (H2 ++ (G2 ++ (H3 ++ (G3 ++ η)))))))))))) (fun _ h => h.cnt fun p => by simp only [List.countP_append, List.countP_cons, List.countP_nil]; omega) ?_
    refine TL_e rfl rfl rfl (rfl) (ET_call rfl YtjdaglmkljbfkaaGreatDoorF.cal_10 rfl (book_Mesh w0 _ [] [] b12 { Bk.new with many := 0 + 1, bytes := r1 } [] [] (.slice pad rs.length pcap) (.slice qad ss.length qcap) rs.length ss.length (flatR rs) (flatS ss) H1 G1 (by dsimp only; omega) (Frag.nil _ _) (fun s h => by cases h) (Nat.zero_le _) (Frag.nil _ _) (fun s h => by cases h) (Nat.zero_le _) ⟨_, _, _, rfl⟩ ⟨_, _, _, rfl⟩)) ?_
    rintro _ _ ⟨r2, HR, r3, HS, hFR, hFS, rfl⟩
    refine TL_nil ?_
    refine TX_then ?_
    refine TC_seq ?_
    refine TC_A (St w0 ((b12, 52, Bk.cells { Bk.new with many := 0 + 1 + 1 + 1, bytes := r1, recs := r2, sheets := r3 }) :: (HR ++ (HS ++ (HB ++ ((b6, 34, [.slice pad rs.length pcap, .slice qad ss.length qcap]) :: (b10, 34, [.slice oad rs.length ocap, .slice uad ss.length ucap]) :: (b8, 34, [.slice rad rs.length rcap, .slice tad ss.length tcap]) :: (bt, 5, byV bs ++ mkB) :: (H1 ++ (G1 ++ (H2 ++ (G2 ++ (H3 ++ (G3 ++ η)))))))))))) (fun _ h => h) ?_
    refine TC_A (St w0 ((b10, 34, [.slice oad rs.length ocap, .slice uad ss.length ucap]) :: (b12, 52, Bk.cells { Bk.new with many := 0 + 1 + 1 + 1, bytes := r1, recs := r2, sheets := r3 }) :: (HR ++ (HS ++ (HB ++ ((b6, 34, [.slice pad rs.length pcap, .slice qad ss.length qcap]) :: (b8, 34, [.slice rad rs.length rcap, .slice tad ss.length tcap]) :: (bt, 5, byV bs ++ mkB) :: (H1 ++ (G1 ++ (H2 ++ (G2 ++ (H3 ++ (G3 ++ η)))))))))))) (fun _ h => h.cnt fun p => by simp only [List.countP_append, List.countP_cons, List.countP_nil]; omega) ?_
    refine TC_reg ?_
    refine TL_q rfl rfl (QT_loadW 0 rfl rfl Tryz.underlying34 rfl rfl rfl YtjdaglmkljbfkaaGreatDoorF.sz_34) ?_
    refine TL_A (St w0 ((b12, 52, Bk.cells { Bk.new with many := 0 + 1 + 1 + 1, bytes := r1, recs := r2, sheets := r3 }) :: (HR ++ (HS ++ (HB ++ ((b6, 34, [.slice pad rs.length pcap, .slice qad ss.length qcap]) :: (b8, 34, [.slice rad rs.length rcap, .slice tad ss.length tcap]) :: (bt, 5, byV bs ++ mkB) :: (H1 ++ (G1 ++ (H2 ++ (G2 ++ (H3 ++ (G3 ++ η)))))))))))) (fun _ h => h.cnt fun p => by simp only [List.countP_append, List.countP_cons, List.countP_nil]; omega) ?_
    refine TL_e rfl rfl rfl (rfl) (ET_call rfl YtjdaglmkljbfkaaGreatDoorF.cal_10 rfl (book_Mesh w0 _ HR HS b12 { Bk.new with many := 0 + 1 + 1 + 1, bytes := r1, recs := r2, sheets := r3 } [⟨.slice pad rs.length pcap, rs.length, flatR rs, nilS, rcMark (0 + 1 + 1), H1⟩] [⟨.slice qad ss.length qcap, ss.length, flatS ss, nilS, shMark (0 + 1 + 1 + 1), G1⟩] (.slice oad rs.length ocap) (.slice uad ss.length ucap) rs.length ss.length (flatR rs) (flatS ss) H3 G3 (by dsimp only; omega) hFR (fun s h => by
     cases List.mem_singleton.1 h
     exact ⟨hF1, rcMark_ints (by decide), by show rs.length ≤ 2000000; omega⟩) (by simp) hFS (fun s h => by
     cases List.mem_singleton.1 h
     exact ⟨hT1, shMark_ints (by decide), by show ss.length ≤ 2000000; omega⟩) (by simp) ⟨_, _, _, rfl⟩ ⟨_, _, _, rfl⟩)) ?_
    rintro _ _ ⟨r4, HR2, r5, HS2, hFR2, hFS2, rfl⟩
    refine TL_nil ?_
    refine TX_then ?_
    refine TC_seq ?_
    refine TC_A (St w0 ((b12, 52, Bk.cells { Bk.new with many := 0 + 1 + 1 + 1 + 1 + 1, bytes := r1, recs := r4, sheets := r5 }) :: (HR2 ++ (HS2 ++ (HB ++ ((b6, 34, [.slice pad rs.length pcap, .slice qad ss.length qcap]) :: (b8, 34, [.slice rad rs.length rcap, .slice tad ss.length tcap]) :: (bt, 5, byV bs ++ mkB) :: (H1 ++ (G1 ++ (H2 ++ (G2 ++ (H3 ++ (G3 ++ η)))))))))))) (fun _ h => h) ?_
    refine TC_A (St w0 ((b6, 34, [.slice pad rs.length pcap, .slice qad ss.length qcap]) :: (b8, 34, [.slice rad rs.length rcap, .slice tad ss.length tcap]) :: (b12, 52, Bk.cells { Bk.new with many := 0 + 1 + 1 + 1 + 1 + 1, bytes := r1, recs := r4, sheets := r5 }) :: (HR2 ++ (HS2 ++ (HB ++ ((bt, 5, byV bs ++ mkB) :: (H1 ++ (G1 ++ (H2 ++ (G2 ++ (H3 ++ (G3 ++ η))))))))))))  (fun _ h => h.cnt fun p => by simp only [List.countP_append, List.countP_cons, List.countP_nil]; omega) ?_
    refine TC_reg ?_
    refine TL_q rfl rfl (QT_move rfl rfl rfl) ?_
    refine TL_q rfl rfl (QT_move rfl rfl rfl) ?_
    refine TL_q rfl rfl (QT_eql rfl rfl rfl rfl) ?_
    refine TL_q rfl rfl (QT_move rfl rfl rfl) ?_
    refine TL_q rfl rfl (QT_loadW 0 rfl rfl Tryz.underlying34 rfl rfl rfl YtjdaglmkljbfkaaGreatDoorF.sz_34) ?_
    refine TL_q rfl rfl (QT_loadW 1 rfl rfl Tryz.underlying34 rfl rfl rfl YtjdaglmkljbfkaaGreatDoorF.sz_34) ?_
    refine TL_cq rfl rfl rfl rfl YtjdaglmkljbfkaaGreatDoorF.cal_11 rfl (fun _ => sameOk_Mesh w0 _ _ _ _ _ rs ss (hF1.within fun p => by simp only [List.countP_append, List.countP_cons]; omega) (hF2.within fun p => by simp only [List.countP_append, List.countP_cons]; omega) (hT1.within fun p => by simp only [List.countP_append, List.countP_cons]; omega) (hT2.within fun p => by simp only [List.countP_append, List.countP_cons]; omega) hrr hqq) ?_
    refine TL_q rfl rfl (QT_and rfl rfl rfl rfl) ?_
    refine TL_q rfl rfl (QT_move rfl rfl rfl) ?_
    refine TL_q rfl rfl (QT_move rfl rfl rfl) ?_
    refine TL_q rfl rfl (QT_move rfl rfl rfl) ?_
    refine TL_cq rfl rfl rfl rfl YtjdaglmkljbfkaaGreatDoorF.cal_12 rfl (fun _ => left_Bytes w0 _ _ bt bs.length (byV bs) (hs0.mono fun _ h => h.cnt fun p => by simp only [List.countP_append, List.countP_cons, List.countP_nil]; omega) (by simp) hi (by omega)) ?_
    refine TL_q rfl rfl (QT_and rfl rfl rfl rfl) ?_
    refine TL_q rfl rfl (QT_move rfl rfl rfl) ?_
    refine TL_A (St w0 ((b12, 52, Bk.cells { Bk.new with many := 0 + 1 + 1 + 1 + 1 + 1, bytes := r1, recs := r4, sheets := r5 }) :: (HB ++ (HR2 ++ ([] ++ (HS2 ++ ([] ++ (heapOf [⟨.slice (some ⟨bt, 0, none⟩) bs.length (bs.length + 3), bs.length, byV bs, nilS, [.int .u8 (0 + 1)], [(bt, 5, byV bs ++ mkB)]⟩] ++ (heapOf [⟨.slice pad rs.length pcap, rs.length, flatR rs, nilS, rcMark (0 + 1 + 1), H1⟩, ⟨.slice oad rs.length ocap, rs.length, flatR rs, nilS, rcMark (0 + 1 + 1 + 1 + 1), H3⟩] ++ (heapOf [] ++ (heapOf [⟨.slice qad ss.length qcap, ss.length, flatS ss, nilS, shMark (0 + 1 + 1 + 1), G1⟩, ⟨.slice uad ss.length ucap, ss.length, flatS ss, nilS, shMark (0 + 1 + 1 + 1 + 1 + 1), G3⟩] ++ (heapOf [] ++ η)))))))))))) (fun _ h => h.cnt fun p => by simp only [heapOf, List.map_cons, List.map_nil, List.flatten_cons, List.flatten_nil, List.countP_append, List.countP_cons, List.countP_nil]; omega) ?_
    refine TL_e rfl rfl rfl ((by simp)) (ET_call rfl YtjdaglmkljbfkaaGreatDoorF.cal_13 rfl (apart_spec w0 η b12 { Bk.new with many := 0 + 1 + 1 + 1 + 1 + 1, bytes := r1, recs := r4, sheets := r5 } (by dsimp only; omega) _ HB hFB (fun s h => by
     cases List.mem_singleton.1 h
     exact ⟨twinFragB hxl (by omega), .cons (by decide) .nil, by show bs.length ≤ 2000000; omega⟩) _ HR2 hFR2 (fun s h => by
     rcases List.mem_cons.1 h with rfl | h
     · exact ⟨hF1, rcMark_ints (by decide), by show rs.length ≤ 2000000; omega⟩
     · cases List.mem_singleton.1 h
       exact ⟨hF3, rcMark_ints (by dsimp only; omega), by show rs.length ≤ 2000000; omega⟩) [] [] (Frag.nil _ _) (fun s h => by cases h) _ HS2 hFS2 (fun s h => by
     rcases List.mem_cons.1 h with rfl | h
     · exact ⟨hT1, shMark_ints (by decide), by show ss.length ≤ 2000000; omega⟩
     · cases List.mem_singleton.1 h
       exact ⟨hT3, shMark_ints (by dsimp only; omega), by show ss.length ≤ 2000000; omega⟩) [] [] (Frag.nil _ _) (fun s h => by cases h) rfl rfl rfl rfl rfl rfl rfl rfl)) ?_
    rintro _ _ ⟨rfl, rfl⟩
    refine TL_q rfl rfl (QT_and rfl rfl rfl rfl) ?_
    refine TL_q rfl rfl (QT_move rfl rfl rfl) ?_
    refine TL_cq rfl rfl rfl rfl YtjdaglmkljbfkaaGreatDoorF.cal_5 rfl (fun _ => lives13 w0 _ hG hE) ?_
    refine TL_q rfl rfl (QT_and rfl rfl rfl rfl) ?_
    refine TL_q rfl rfl (QT_assign rfl rfl rfl) ?_
    refine TL_nil ?_
    refine TX_then ?_
    refine TC_ret ?_
    exact TX_ret (.inl rfl) (res1 rfl rfl) ⟨_, ⟨by simp, rfl⟩, fun _ h => h⟩
end Go.Proofs.YtjdaglmkljbfkaaGreatDoor
namespace Go.Proofs.YtjdaglmkljbfkaaGreatDoor
open Go Go.Gx Go.RowKit
set_option maxRecDepth 100000
end Go.Proofs.YtjdaglmkljbfkaaGreatDoor

/- THE LAW: bytes behind others are got as the sheets of both; sheets behind others are put as the bytes of both. -/
import Derived.Test.YtlmbpdlobpcahaaDoorS11p
namespace Go.Proofs.YtlmbpdlobpcahaaDoor
open Go Go.Gx Go.RowKit
set_option maxRecDepth 100000
theorem join_err {L : Lay} {a b : List Nat} (h : errG L a = 0) (hb : errG L b ≠ 0) (hl : a.length + b.length ≤ 65536) : errG L (a ++ b) = errG L b := by
  obtain ⟨hc, _, hg⟩ := errG_zero h
  have hbn : getS L b = none := by
    cases hx : getS L b with
    | none => rfl
    | some ys => exact absurd (errG_ok hc (by omega) hx).1 hb
  have hab : getS L (a ++ b) = none := by rw [getS_append hc.1 (ty67 hc) a.length (Nat.le_refl _) hg, hbn]; rfl
  rw [errG_none hc (by omega) hbn, errG_none hc (by rw [List.length_append]; omega) hab]
theorem join_ok {L : Lay} {a b : List Nat} (h : errG L a = 0) (hb : errG L b = 0) (hl : a.length + b.length ≤ 65536) : errG L (a ++ b) = 0 ∧ outG L (a ++ b) = outG L a ++ outG L b := by
  obtain ⟨hc, _, hg⟩ := errG_zero h
  obtain ⟨_, _, hg2⟩ := errG_zero hb
  have hab : getS L (a ++ b) = some (outG L a ++ outG L b) := by rw [getS_append hc.1 (ty67 hc) a.length (Nat.le_refl _) hg, hg2]; rfl
  exact errG_ok hc (by rw [List.length_append]; omega) hab
theorem flatS_append (a b : List (List Nat)) : flatS (a ++ b) = flatS a ++ flatS b := by simp [flatS]
set_option maxHeartbeats 2000000 in
theorem law_sheetsJoin (w0 : World) (η : Heap) (hG : Sets w0) (L : Lay) (av bv : Value) (ls bs : List Nat) (hsa : SlA (St w0 η) av 1 ls.length (byV ls)) (ha : ∀ c ∈ ls, c < 256) (hs : SlA (St w0 η) bv 1 bs.length (byV bs)) (hb : ∀ c ∈ bs, c < 256) (hla : ls.length ≤ 140737488355328) (hl : bs.length ≤ 140737488355328) :
    CallsT Tryd.prog 7 [L.val, av, bv] (St w0 η) fun v A' => v = .bool true ∧ A' = St w0 η := by
  have hsa0 := hsa
  have hs0 := hs
  obtain ⟨_, aad, acap, rfl, _, _⟩ := hsa
  obtain ⟨_, bad, bcap, rfl, _, _⟩ := hs
  have hA : ∀ {X : Heap}, (∀ w, St w0 X w → St w0 η w) → SlA (St w0 X) (.slice aad ls.length acap) 1 ls.length (byV ls) := fun h => hsa0.mono h
  have hB : ∀ {X : Heap}, (∀ w, St w0 X w → St w0 η w) → SlA (St w0 X) (.slice bad bs.length bcap) 1 bs.length (byV bs) := fun h => hs0.mono h
  refine CallsT.body Tryd.func7 rfl rfl ?_
  simp only [Tryd.ntmps7, slotsOf, Nat.reduceAdd]
  refine TC_seq ?_
  refine TC_reg ?_
  refine TL_e rfl rfl rfl (rfl) (ET_box rfl rfl) ?_
  rintro _ _ ⟨b3, rfl, rfl⟩
  refine TL_q rfl rfl (QT_assign rfl rfl rfl) ?_
  refine TL_nil ?_
  refine TX_then ?_
  refine TC_seq ?_
  refine TC_seq ?_
  refine TC_reg ?_
  refine TL_q rfl rfl (QT_move rfl rfl rfl) ?_
  refine TL_q rfl rfl (QT_len rfl rfl Tryd.underlying28 rfl) ?_
  refine TL_q rfl rfl (QT_move rfl rfl rfl) ?_
  refine TL_q rfl rfl (QT_len rfl rfl Tryd.underlying28 rfl) ?_
  refine TL_q rfl rfl (QT_add rfl rfl rfl rfl (fun _ => ⟨by omega, by omega⟩)) ?_
  refine TL_q rfl rfl (QT_gtr rfl rfl rfl rfl) ?_
  refine TL_nil ?_
  refine TX_then ?_
  first
    | refine TC_cond_dec rfl (fun h25 => ?_) (fun h25 => ?_)
    | refine TC_cond rfl (fun h25 => ?_) (fun h25 => ?_)
  ·
    refine TC_seq ?_
    refine TC_reg ?_
    refine TL_cq rfl rfl rfl rfl YtlmbpdlobpcahaaDoorF.cal_9 rfl (fun _ => lives11 w0 _ hG) ?_
    refine TL_q rfl rfl (QT_assign rfl rfl rfl) ?_
    refine TL_nil ?_
    refine TX_then ?_
    refine TC_ret ?_
    refine TX_then_ret ?_
    exact TX_ret (.inl rfl) (res1 rfl rfl) ⟨_, ⟨rfl, rfl⟩, (fun _ h => by first | exact h | exact h.tail | exact h.tail.tail | exact h.tail.tail.tail | exact h.tail.tail.tail.tail | exact h.tail.tail.tail.tail.tail | exact h.tail.tail.tail.tail.tail.tail | exact h.tail.tail.tail.tail.tail.tail.tail | exact h.tail.tail.tail.tail.tail.tail.tail.tail | exact h.tail.tail.tail.tail.tail.tail.tail.tail.tail | exact h.tail.tail.tail.tail.tail.tail.tail.tail.tail.tail | exact h.tail.tail.tail.tail.tail.tail.tail.tail.tail.tail.tail | exact h.tail.tail.tail.tail.tail.tail.tail.tail.tail.tail.tail.tail | exact h.tail.tail.tail.tail.tail.tail.tail.tail.tail.tail.tail.tail.tail)⟩
  ·
    refine TC_skip ?_
    refine TX_then ?_
    refine TC_seq ?_
    have hn : ls.length + bs.length ≤ 4000 := by omega
    have hab : (∀ c ∈ ls ++ bs, c < 256) := fun c hc => by
      rcases List.mem_append.1 hc with hc | hc
      · exact ha c hc
      · exact hb c hc
    refine TC_A (St w0 ((b3, 27, L.cells) :: η)) (fun _ h => h) ?_
    refine TC_reg ?_
    first
      | refine TL_q rfl rfl (QT_loadW 0 rfl rfl Tryd.underlying27 rfl rfl rfl YtlmbpdlobpcahaaDoorF.sz_27) ?_
      | refine TL_q rfl rfl (QT_loadW 1 rfl rfl Tryd.underlying27 rfl rfl rfl YtlmbpdlobpcahaaDoorF.sz_27) ?_
      | refine TL_q rfl rfl (QT_loadW 2 rfl rfl Tryd.underlying27 rfl rfl rfl YtlmbpdlobpcahaaDoorF.sz_27) ?_
      | refine TL_q rfl rfl (QT_loadA 0 rfl rfl Tryd.underlying27 rfl rfl rfl YtlmbpdlobpcahaaDoorF.sz_27 (fun _ => rfl)) ?_
      | refine TL_q rfl rfl (QT_loadA 1 rfl rfl Tryd.underlying27 rfl rfl rfl YtlmbpdlobpcahaaDoorF.sz_27 (fun _ => rfl)) ?_
      | refine TL_q rfl rfl (QT_loadA 2 rfl rfl Tryd.underlying27 rfl rfl rfl YtlmbpdlobpcahaaDoorF.sz_27 (fun _ => rfl)) ?_
    refine TL_q rfl rfl (QT_move rfl rfl rfl) ?_
    refine TL_e rfl rfl rfl (rfl) (ET_call rfl YtlmbpdlobpcahaaDoorF.cal_11 rfl (sget_spec w0 _ hG L _ ls (hA (fun w h => h.cnt fun p => by simp only [List.countP_append, List.countP_cons, List.countP_nil]; omega)) ha (by omega))) ?_
    rintro _ _ ⟨sv, H1, rfl, hF1, rfl⟩
    refine TL_q rfl rfl (QT_move rfl rfl rfl) ?_
    refine TL_q rfl rfl (QT_extract rfl rfl rfl rfl) ?_
    refine TL_q rfl rfl (QT_extract rfl rfl rfl rfl) ?_
    refine TL_q rfl rfl (QT_assign rfl rfl rfl) ?_
    refine TL_q rfl rfl (QT_assign rfl rfl rfl) ?_
    refine TL_nil ?_
    refine TX_then ?_
    refine TC_seq ?_
    refine TC_A (St w0 ((b3, 27, L.cells) :: (H1 ++ η))) (fun w h => h.cnt fun p => by simp only [List.countP_append, List.countP_cons, List.countP_nil]; omega) ?_
    refine TC_reg ?_
    first
      | refine TL_q rfl rfl (QT_loadW 0 rfl rfl Tryd.underlying27 rfl rfl rfl YtlmbpdlobpcahaaDoorF.sz_27) ?_
      | refine TL_q rfl rfl (QT_loadW 1 rfl rfl Tryd.underlying27 rfl rfl rfl YtlmbpdlobpcahaaDoorF.sz_27) ?_
      | refine TL_q rfl rfl (QT_loadW 2 rfl rfl Tryd.underlying27 rfl rfl rfl YtlmbpdlobpcahaaDoorF.sz_27) ?_
      | refine TL_q rfl rfl (QT_loadA 0 rfl rfl Tryd.underlying27 rfl rfl rfl YtlmbpdlobpcahaaDoorF.sz_27 (fun _ => rfl)) ?_
      | refine TL_q rfl rfl (QT_loadA 1 rfl rfl Tryd.underlying27 rfl rfl rfl YtlmbpdlobpcahaaDoorF.sz_27 (fun _ => rfl)) ?_
      | refine TL_q rfl rfl (QT_loadA 2 rfl rfl Tryd.underlying27 rfl rfl rfl YtlmbpdlobpcahaaDoorF.sz_27 (fun _ => rfl)) ?_
    refine TL_q rfl rfl (QT_move rfl rfl rfl) ?_
    refine TL_e rfl rfl rfl (rfl) (ET_call rfl YtlmbpdlobpcahaaDoorF.cal_11 rfl (sget_spec w0 _ hG L _ bs (hB (fun w h => h.cnt fun p => by simp only [List.countP_append, List.countP_cons, List.countP_nil]; omega)) hb (by omega))) ?_
    rintro _ _ ⟨tv, H2, rfl, hF2, rfl⟩
    refine TL_q rfl rfl (QT_move rfl rfl rfl) ?_
    refine TL_q rfl rfl (QT_extract rfl rfl rfl rfl) ?_
    refine TL_q rfl rfl (QT_extract rfl rfl rfl rfl) ?_
    refine TL_q rfl rfl (QT_assign rfl rfl rfl) ?_
    refine TL_q rfl rfl (QT_assign rfl rfl rfl) ?_
    refine TL_nil ?_
    refine TX_then ?_
    refine TC_seq ?_
    refine TC_A (St w0 ((b3, 27, L.cells) :: (H1 ++ (H2 ++ η)))) (fun w h => h.cnt fun p => by simp only [List.countP_append, List.countP_cons, List.countP_nil]; omega) ?_
    refine TC_draw [(0, 0), (1, 0), (3, 0), (2, 1), (4, 1), (5, 1), (6, 0), (7, 0), (8, 0), (9, 0), (10, 0)] YtlmbpdlobpcahaaDoorF.mixed (by kernel_rfl) (St.calm _ _) ?_
    refine TV_ql rfl rfl rfl (QT_loadRAj (cs := L.cells) (out := L.cells) 0 rfl rfl Tryd.underlying27 rfl YtlmbpdlobpcahaaDoorF.sz_27 ((Rd.own (w0 := w0) (η := [(b3, 27, L.cells)]) 0 rfl).mono (fun w h => h.cnt fun p => by simp only [List.countP_append, List.countP_cons, List.countP_nil]; omega)) rfl (fun _ => Nat.le_refl 18) (fun _ => rfl)) ?_
    refine TV_q rfl rfl rfl (fun _ => QT_move rfl rfl rfl) ?_
    refine TV_q rfl rfl rfl (fun _ => QT_move rfl rfl rfl) ?_
    refine TV_e rfl rfl rfl rfl (rfl) (ET_appendL (η := (b3, 27, L.cells) :: (H1 ++ (H2 ++ η))) (L := []) (H := []) rfl Tryd.underlying28 el_Byte rfl rfl (Frag.nil _ _) (fun _ h => h) (hA (fun w h => h.cnt fun p => by simp only [List.countP_append, List.countP_cons, List.countP_nil]; omega)) (byV_ints ha).oneCell (by omega) (by omega)) ?_
    rintro v42 _ ⟨H3, hF3, rfl⟩
    refine ⟨_, .keep (by kernel_rfl) rfl (by first | exact QT_loadRAj (cs := L.cells) (out := L.cells) 0 rfl rfl Tryd.underlying27 rfl YtlmbpdlobpcahaaDoorF.sz_27 ((Rd.own (w0 := w0) (η := [(b3, 27, L.cells)]) 0 rfl).mono (fun w h => h.cnt fun p => by simp only [List.countP_append, List.countP_cons, List.countP_nil]; omega)) rfl (fun _ => Nat.le_refl 18) (fun _ => rfl)) (.nil), ?_⟩
    refine TV_e rfl rfl rfl rfl (rfl) (ET_appendL (η := (b3, 27, L.cells) :: (H1 ++ (H2 ++ η))) (L := []) rfl Tryd.underlying28 el_Byte rfl rfl hF3 (fun w h => h.cnt fun p => by simp only [List.countP_append, List.countP_cons, List.countP_nil]; omega) (hB (fun w h => h.cnt fun p => by simp only [List.countP_append, List.countP_cons, List.countP_nil]; omega)) (byV_ints hb).oneCell (by omega) (by omega)) ?_
    rintro v44 _ ⟨H4, hF4, rfl⟩
    refine ⟨_, .keep (by kernel_rfl) rfl (by first | exact QT_loadRAj (cs := L.cells) (out := L.cells) 0 rfl rfl Tryd.underlying27 rfl YtlmbpdlobpcahaaDoorF.sz_27 ((Rd.own (w0 := w0) (η := [(b3, 27, L.cells)]) 0 rfl).mono (fun w h => h.cnt fun p => by simp only [List.countP_append, List.countP_cons, List.countP_nil]; omega)) rfl (fun _ => Nat.le_refl 18) (fun _ => rfl)) (.nil), ?_⟩
    have hF5 : Frag 5 1 v44 (ls ++ bs).length (byV (ls ++ bs)) H4 := by
      rw [List.length_append, byV_append]
      rw [Nat.zero_add, List.nil_append] at hF4
      exact hF4
    refine TV_e rfl rfl rfl rfl (rfl) (ET_call rfl YtlmbpdlobpcahaaDoorF.cal_11 rfl (sget_spec w0 _ hG L _ (ls ++ bs) (hF5.within fun p => by simp only [List.countP_append, List.countP_nil]; omega) hab (by rw [List.length_append]; omega))) ?_
    rintro _ _ ⟨uv, H6, rfl, hF6, rfl⟩
    refine ⟨_, .drop (by kernel_rfl) (.nil), ?_⟩
    refine TV_q rfl rfl rfl (fun _ => QT_move rfl rfl rfl) ?_
    refine TV_q rfl rfl rfl (fun _ => QT_extract rfl rfl rfl rfl) ?_
    refine TV_q rfl rfl rfl (fun _ => QT_extract rfl rfl rfl rfl) ?_
    refine TV_q rfl rfl rfl (fun _ => QT_assign rfl rfl rfl) ?_
    refine TV_q rfl rfl rfl (fun _ => QT_assign rfl rfl rfl) ?_
    refine TV_end ?_
    refine TX_then ?_
    refine TC_seq ?_
    refine TC_seq ?_
    refine TC_A (St w0 ((b3, 27, L.cells) :: (H1 ++ (H2 ++ (H6 ++ η))))) (fun w h => h.cnt fun p => by simp only [List.countP_append, List.countP_cons, List.countP_nil]; omega) ?_
    refine TC_reg ?_
    refine TL_q rfl rfl (QT_move rfl rfl rfl) ?_
    refine TL_q rfl rfl (QT_neq rfl rfl rfl rfl) ?_
    refine TL_q rfl rfl (QT_move rfl rfl rfl) ?_
    refine TL_q rfl rfl (QT_move rfl rfl rfl) ?_
    refine TL_q rfl rfl (QT_neq rfl rfl rfl rfl) ?_
    refine TL_q rfl rfl (QT_or rfl rfl rfl rfl) ?_
    refine TL_nil ?_
    refine TX_then ?_
    first
      | refine TC_cond_dec rfl (fun h53 => ?_) (fun h53 => ?_)
      | refine TC_cond rfl (fun h53 => ?_) (fun h53 => ?_)
    ·
      have hor : errG L ls ≠ 0 ∨ (errG L ls = 0 ∧ errG L (ls ++ bs) = errG L bs) := by
        by_cases h0 : errG L ls = 0
        · refine .inr ⟨h0, join_err h0 ?_ (by omega)⟩
          intro h1
          rw [h0, h1] at h53
          simp at h53
        · exact .inl h0
      have hv60 : (decide (errG L ls ≠ 0) || decide (errG L (ls ++ bs) = errG L bs)) = true := by
        rcases hor with h | h
        · simp [h]
        · simp [h.2]
      refine TC_seq ?_
      refine TC_reg ?_
      refine TL_q rfl rfl (QT_move rfl rfl rfl) ?_
      refine TL_q rfl rfl (QT_neq rfl rfl rfl rfl) ?_
      refine TL_q rfl rfl (QT_move rfl rfl rfl) ?_
      refine TL_q rfl rfl (QT_move rfl rfl rfl) ?_
      refine TL_q rfl rfl (QT_move rfl rfl rfl) ?_
      refine TL_q rfl rfl (QT_eql rfl rfl rfl rfl) ?_
      refine TL_q rfl rfl (QT_v (QT_or rfl rfl rfl rfl) (congrArg Value.bool hv60)) ?_
      refine TL_q rfl rfl (QT_move rfl rfl rfl) ?_
      refine TL_cq rfl rfl rfl rfl YtlmbpdlobpcahaaDoorF.cal_9 rfl (fun _ => lives11 w0 _ hG) ?_
      refine TL_q rfl rfl (QT_and rfl rfl rfl rfl) ?_
      refine TL_q rfl rfl (QT_assign rfl rfl rfl) ?_
      refine TL_nil ?_
      refine TX_then ?_
      refine TC_ret ?_
      refine TX_then_ret ?_
      exact TX_ret (.inl rfl) (res1 rfl rfl) ⟨_, ⟨rfl, rfl⟩, fun w h => h.tail.app_right.app_right.app_right⟩
    ·
      refine TC_skip ?_
      refine TX_then ?_
      refine TC_seq ?_
      obtain ⟨e1, e2⟩ : errG L ls = 0 ∧ errG L bs = 0 := by
        simp only [Bool.or_eq_false_iff, decide_eq_false_iff_not] at h53
        exact ⟨by omega, by omega⟩
      obtain ⟨e3, e4⟩ := join_ok e1 e2 (by omega)
      obtain ⟨hc, _, hg1⟩ := errG_zero e1
      obtain ⟨_, _, hg2⟩ := errG_zero e2
      have hty := ty67 hc
      have hol1 := outG_len L ls
      have hol2 := outG_len L bs
      rw [e4] at hF6
      simp only [e1, e2, e3]
      generalize outG L ls = ys at hF1 hF6 hg1 hol1
      generalize outG L bs = zs at hF2 hF6 hg2 hol2
      obtain ⟨hy1, hy2, hy3⟩ := got_facts hc.1 hty ls.length (Nat.le_refl _) hg1
      obtain ⟨hz1, hz2, hz3⟩ := got_facts hc.1 hty bs.length (Nat.le_refl _) hg2
      have hyz : ∀ y ∈ ys ++ zs, ShF y := fun y hy => by
        rcases List.mem_append.1 hy with hy | hy
        · exact hy1 y hy
        · exact hz1 y hy
      have hyzf : (ys ++ zs).all (fitS L) = true := by rw [List.all_append, hy2, hz2]; rfl
      obtain ⟨p1, p2⟩ := put_ok hc hy2 (by omega)
      obtain ⟨q1, q2⟩ := put_ok hc hz2 (by omega)
      obtain ⟨r1, r2⟩ := put_ok hc hyzf (by rw [bytesS_append, List.length_append]; omega)
      refine TC_reg ?_
      refine TL_q rfl rfl (QT_move rfl rfl rfl) ?_
      refine TL_e rfl rfl rfl (rfl) (ET_appendL (η := (b3, 27, L.cells) :: (H1 ++ (H2 ++ (H6 ++ η)))) (L := []) (H := []) rfl Tryd.underlying31 el_Sheet rfl rfl (Frag.nil _ _) (fun _ h => h) (hF1.within fun p => by simp only [List.countP_append, List.countP_cons]; omega) (flatS_ints hy1).oneCell (by omega) (by omega)) ?_
      rintro v65 _ ⟨H7, hF7, rfl⟩
      refine TL_q rfl rfl (QT_move rfl rfl rfl) ?_
      refine TL_e rfl rfl rfl (rfl) (ET_appendL (η := (b3, 27, L.cells) :: (H1 ++ (H2 ++ (H6 ++ η)))) (L := []) rfl Tryd.underlying31 el_Sheet rfl rfl hF7 (fun w h => h.cnt fun p => by simp only [List.countP_append, List.countP_cons, List.countP_nil]; omega) (hF2.within fun p => by simp only [List.countP_append, List.countP_cons, List.countP_nil]; omega) (flatS_ints hz1).oneCell (by omega) (by omega)) ?_
      rintro v67 _ ⟨H8, hF8, rfl⟩
      refine TL_q rfl rfl (QT_assign rfl rfl rfl) ?_
      refine TL_nil ?_
      refine TX_then ?_
      refine TC_seq ?_
      have hF9 : Frag 71 49 v67 (ys ++ zs).length (flatS (ys ++ zs)) H8 := by
        rw [List.length_append, flatS_append]
        rw [Nat.zero_add, List.nil_append] at hF8
        exact hF8
      refine TC_A (St w0 ((b3, 27, L.cells) :: (H1 ++ (H2 ++ (H6 ++ (H8 ++ η)))))) (fun w h => h.cnt fun p => by simp only [List.countP_append, List.countP_cons, List.countP_nil]; omega) ?_
      refine TC_reg ?_
      first
        | refine TL_q rfl rfl (QT_loadW 0 rfl rfl Tryd.underlying27 rfl rfl rfl YtlmbpdlobpcahaaDoorF.sz_27) ?_
        | refine TL_q rfl rfl (QT_loadW 1 rfl rfl Tryd.underlying27 rfl rfl rfl YtlmbpdlobpcahaaDoorF.sz_27) ?_
        | refine TL_q rfl rfl (QT_loadW 2 rfl rfl Tryd.underlying27 rfl rfl rfl YtlmbpdlobpcahaaDoorF.sz_27) ?_
        | refine TL_q rfl rfl (QT_loadA 0 rfl rfl Tryd.underlying27 rfl rfl rfl YtlmbpdlobpcahaaDoorF.sz_27 (fun _ => rfl)) ?_
        | refine TL_q rfl rfl (QT_loadA 1 rfl rfl Tryd.underlying27 rfl rfl rfl YtlmbpdlobpcahaaDoorF.sz_27 (fun _ => rfl)) ?_
        | refine TL_q rfl rfl (QT_loadA 2 rfl rfl Tryd.underlying27 rfl rfl rfl YtlmbpdlobpcahaaDoorF.sz_27 (fun _ => rfl)) ?_
      refine TL_q rfl rfl (QT_move rfl rfl rfl) ?_
      refine TL_e rfl rfl rfl (rfl) (ET_call rfl YtlmbpdlobpcahaaDoorF.cal_19 rfl (sput_spec w0 _ hG L _ ys (hF1.within fun p => by simp only [List.countP_append, List.countP_cons]; omega) hy1 (by omega))) ?_
      rintro _ _ ⟨xv, H9, rfl, hX, rfl⟩
      refine TL_q rfl rfl (QT_move rfl rfl rfl) ?_
      refine TL_q rfl rfl (QT_extract rfl rfl rfl rfl) ?_
      refine TL_q rfl rfl (QT_extract rfl rfl rfl rfl) ?_
      refine TL_q rfl rfl (QT_assign rfl rfl rfl) ?_
      refine TL_q rfl rfl (QT_assign rfl rfl rfl) ?_
      refine TL_nil ?_
      refine TX_then ?_
      refine TC_seq ?_
      rw [p2] at hX
      simp only [p1]
      refine TC_A (St w0 ((b3, 27, L.cells) :: (H2 ++ (H6 ++ (H8 ++ (H9 ++ η)))))) (fun w h => h.cnt fun p => by simp only [List.countP_append, List.countP_cons, List.countP_nil]; omega) ?_
      refine TC_reg ?_
      first
        | refine TL_q rfl rfl (QT_loadW 0 rfl rfl Tryd.underlying27 rfl rfl rfl YtlmbpdlobpcahaaDoorF.sz_27) ?_
        | refine TL_q rfl rfl (QT_loadW 1 rfl rfl Tryd.underlying27 rfl rfl rfl YtlmbpdlobpcahaaDoorF.sz_27) ?_
        | refine TL_q rfl rfl (QT_loadW 2 rfl rfl Tryd.underlying27 rfl rfl rfl YtlmbpdlobpcahaaDoorF.sz_27) ?_
        | refine TL_q rfl rfl (QT_loadA 0 rfl rfl Tryd.underlying27 rfl rfl rfl YtlmbpdlobpcahaaDoorF.sz_27 (fun _ => rfl)) ?_
        | refine TL_q rfl rfl (QT_loadA 1 rfl rfl Tryd.underlying27 rfl rfl rfl YtlmbpdlobpcahaaDoorF.sz_27 (fun _ => rfl)) ?_
        | refine TL_q rfl rfl (QT_loadA 2 rfl rfl Tryd.underlying27 rfl rfl rfl YtlmbpdlobpcahaaDoorF.sz_27 (fun _ => rfl)) ?_
      refine TL_q rfl rfl (QT_move rfl rfl rfl) ?_
      refine TL_e rfl rfl rfl (rfl) (ET_call rfl YtlmbpdlobpcahaaDoorF.cal_19 rfl (sput_spec w0 _ hG L _ zs (hF2.within fun p => by simp only [List.countP_append, List.countP_cons]; omega) hz1 (by omega))) ?_
      rintro _ _ ⟨yv, H10, rfl, hY, rfl⟩
      refine TL_q rfl rfl (QT_move rfl rfl rfl) ?_
      refine TL_q rfl rfl (QT_extract rfl rfl rfl rfl) ?_
      refine TL_q rfl rfl (QT_extract rfl rfl rfl rfl) ?_
      refine TL_q rfl rfl (QT_assign rfl rfl rfl) ?_
      refine TL_q rfl rfl (QT_assign rfl rfl rfl) ?_
      refine TL_nil ?_
      refine TX_then ?_
      refine TC_seq ?_
      rw [q2] at hY
      simp only [q1]
      refine TC_A (St w0 ((b3, 27, L.cells) :: (H6 ++ (H8 ++ (H9 ++ (H10 ++ η)))))) (fun w h => h.cnt fun p => by simp only [List.countP_append, List.countP_cons, List.countP_nil]; omega) ?_
      refine TC_reg ?_
      first
        | refine TL_q rfl rfl (QT_loadW 0 rfl rfl Tryd.underlying27 rfl rfl rfl YtlmbpdlobpcahaaDoorF.sz_27) ?_
        | refine TL_q rfl rfl (QT_loadW 1 rfl rfl Tryd.underlying27 rfl rfl rfl YtlmbpdlobpcahaaDoorF.sz_27) ?_
        | refine TL_q rfl rfl (QT_loadW 2 rfl rfl Tryd.underlying27 rfl rfl rfl YtlmbpdlobpcahaaDoorF.sz_27) ?_
        | refine TL_q rfl rfl (QT_loadA 0 rfl rfl Tryd.underlying27 rfl rfl rfl YtlmbpdlobpcahaaDoorF.sz_27 (fun _ => rfl)) ?_
        | refine TL_q rfl rfl (QT_loadA 1 rfl rfl Tryd.underlying27 rfl rfl rfl YtlmbpdlobpcahaaDoorF.sz_27 (fun _ => rfl)) ?_
        | refine TL_q rfl rfl (QT_loadA 2 rfl rfl Tryd.underlying27 rfl rfl rfl YtlmbpdlobpcahaaDoorF.sz_27 (fun _ => rfl)) ?_
      refine TL_q rfl rfl (QT_move rfl rfl rfl) ?_
      refine TL_e rfl rfl rfl (rfl) (ET_call rfl YtlmbpdlobpcahaaDoorF.cal_19 rfl (sput_spec w0 _ hG L _ (ys ++ zs) (hF9.within fun p => by simp only [List.countP_append, List.countP_cons]; omega) hyz (by rw [List.length_append]; omega))) ?_
      rintro _ _ ⟨zv, H11, rfl, hZ, rfl⟩
      refine TL_q rfl rfl (QT_move rfl rfl rfl) ?_
      refine TL_q rfl rfl (QT_extract rfl rfl rfl rfl) ?_
      refine TL_q rfl rfl (QT_extract rfl rfl rfl rfl) ?_
      refine TL_q rfl rfl (QT_assign rfl rfl rfl) ?_
      refine TL_q rfl rfl (QT_assign rfl rfl rfl) ?_
      refine TL_nil ?_
      refine TX_then ?_
      refine TC_seq ?_
      rw [r2, bytesS_append] at hZ
      simp only [r1]
      have hbl1 := bytesS_lt L ys
      have hbl2 := bytesS_lt L zs
      have hbl3 : ∀ c ∈ bytesS L ys ++ bytesS L zs, c < 256 := fun c hc => by
        rcases List.mem_append.1 hc with hc | hc
        · exact hbl1 c hc
        · exact hbl2 c hc
      refine TC_A (St w0 (H6 ++ (H8 ++ (H9 ++ (H10 ++ (H11 ++ η)))))) (fun w h => h.cnt fun p => by simp only [List.countP_append, List.countP_cons, List.countP_nil]; omega) ?_
      refine TC_reg ?_
      refine TL_q rfl rfl (QT_move rfl rfl rfl) ?_
      refine TL_q rfl rfl (QT_eql rfl rfl rfl rfl) ?_
      refine TL_q rfl rfl (QT_move rfl rfl rfl) ?_
      refine TL_q rfl rfl (QT_move rfl rfl rfl) ?_
      refine TL_q rfl rfl (QT_move rfl rfl rfl) ?_
      refine TL_cq rfl rfl rfl rfl YtlmbpdlobpcahaaDoorF.cal_15 rfl (fun _ => sameOk_Sheets w0 _ _ _ (ys ++ zs).length (flatS (ys ++ zs)) (hF6.within fun p => by simp only [List.countP_append, List.countP_cons]; omega) (hF9.within fun p => by simp only [List.countP_append, List.countP_cons]; omega) (flatS_ints hyz)) ?_
      refine TL_q rfl rfl (QT_and rfl rfl rfl rfl) ?_
      refine TL_q rfl rfl (QT_move rfl rfl rfl) ?_
      refine TL_q rfl rfl (QT_move rfl rfl rfl) ?_
      refine TL_q rfl rfl (QT_eql rfl rfl rfl rfl) ?_
      refine TL_q rfl rfl (QT_and rfl rfl rfl rfl) ?_
      refine TL_q rfl rfl (QT_move rfl rfl rfl) ?_
      refine TL_q rfl rfl (QT_move rfl rfl rfl) ?_
      refine TL_q rfl rfl (QT_eql rfl rfl rfl rfl) ?_
      refine TL_q rfl rfl (QT_and rfl rfl rfl rfl) ?_
      refine TL_q rfl rfl (QT_move rfl rfl rfl) ?_
      refine TL_q rfl rfl (QT_move rfl rfl rfl) ?_
      refine TL_q rfl rfl (QT_eql rfl rfl rfl rfl) ?_
      refine TL_q rfl rfl (QT_and rfl rfl rfl rfl) ?_
      refine TL_q rfl rfl (QT_move rfl rfl rfl) ?_
      refine TL_q rfl rfl (QT_move rfl rfl rfl) ?_
      refine TL_q rfl rfl (QT_move rfl rfl rfl) ?_
      refine TL_e rfl rfl rfl ((by simp)) (ET_appendL (η := H6 ++ (H8 ++ (H9 ++ (H10 ++ (H11 ++ η))))) (L := []) (H := []) rfl Tryd.underlying28 el_Byte rfl rfl (Frag.nil _ _) (fun _ h => h) (hX.within fun p => by simp only [List.countP_append]; omega) (byV_ints hbl1).oneCell (by omega) (by omega)) ?_
      rintro v108 _ ⟨H12, hF12, rfl⟩
      refine TL_q rfl rfl (QT_move rfl rfl rfl) ?_
      refine TL_e rfl rfl rfl ((by simp)) (ET_appendL (η := H6 ++ (H8 ++ (H9 ++ (H10 ++ (H11 ++ η))))) (L := []) rfl Tryd.underlying28 el_Byte rfl rfl hF12 (fun _ h => h) (hY.within fun p => by simp only [List.countP_append, List.countP_nil]; omega) (byV_ints hbl2).oneCell (by omega) (by omega)) ?_
      rintro v110 _ ⟨H13, hF13, rfl⟩
      rw [Nat.zero_add, List.nil_append, ← byV_append, ← List.length_append] at hF13
      refine TL_cq rfl rfl rfl rfl YtlmbpdlobpcahaaDoorF.cal_21 rfl (fun _ => sameOk_Bytes w0 _ _ _ (bytesS L ys ++ bytesS L zs).length (byV (bytesS L ys ++ bytesS L zs)) (hZ.within fun p => by simp only [List.countP_append, List.countP_nil]; omega) (hF13.within fun p => by simp only [List.countP_append, List.countP_nil]; omega) (byV_ints hbl3)) ?_
      refine TL_q rfl rfl (QT_and rfl rfl rfl rfl) ?_
      refine TL_q rfl rfl (QT_move rfl rfl rfl) ?_
      refine TL_cq rfl rfl rfl rfl YtlmbpdlobpcahaaDoorF.cal_9 rfl (fun _ => lives11 w0 _ hG) ?_
      refine TL_q rfl rfl (QT_and rfl rfl rfl rfl) ?_
      refine TL_q rfl rfl (QT_assign rfl rfl rfl) ?_
      refine TL_nil ?_
      refine TX_then ?_
      refine TC_ret ?_
      exact TX_ret (.inl rfl) (res1 rfl rfl) ⟨_, ⟨by simp, rfl⟩, fun w h => h.cnt fun p => by simp only [List.countP_append, List.countP_cons, List.countP_nil]; omega⟩
end Go.Proofs.YtlmbpdlobpcahaaDoor

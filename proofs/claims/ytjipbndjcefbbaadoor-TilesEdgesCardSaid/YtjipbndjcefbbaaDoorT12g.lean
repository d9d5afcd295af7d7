/- THE LAW OF EDGES: behind a patch one of the flag 1, 2 or 3 has that one's edge; its others are the sheet's own. -/
import Derived.Test.YtjipbndjcefbbaaDoorT12f
namespace Go.Proofs.YtjipbndjcefbbaaDoor
open Go Go.Gx Go.RowKit
set_option maxRecDepth 100000

theorem law_tilesEdges (w0 : World) (η : Heap) (hG : Sets w0) (hE : Edges w0) (L : Lay) (sv : Value) (n : Nat) (xs : List Value) (hs : SlA (St w0 η) sv 49 n xs) (hi : Ints (rep n sheetK) xs) (hn1 : n * 160 ≤ 140737488355328) :
    CallsT Tryd.prog 4 [L.val, sv] (St w0 η) fun v A' => v = .bool true ∧ A' = St w0 η := by
  have hs0 := hs
  obtain ⟨hl, ad, cap, b, off, rfl, hcap, had, hrd⟩ := hs.some
  refine CallsT.body Tryd.func4 rfl rfl ?_
  simp only [Tryd.ntmps4, slotsOf, Nat.reduceAdd]
  refine TC_seq ?_
  refine TC_reg ?_
  refine TL_e rfl rfl rfl (rfl) (ET_box rfl rfl) ?_
  rintro _ _ ⟨b2, rfl, rfl⟩
  refine TL_q rfl rfl (QT_assign rfl rfl rfl) ?_
  refine TL_nil ?_
  refine TX_then ?_
  refine TC_seq ?_
  refine TC_reg ?_
  first
    | refine TL_q rfl rfl (QT_loadW 0 rfl rfl Tryd.underlying27 rfl rfl rfl YtjipbndjcefbbaaDoorF.sz_27) ?_
    | refine TL_q rfl rfl (QT_loadW 1 rfl rfl Tryd.underlying27 rfl rfl rfl YtjipbndjcefbbaaDoorF.sz_27) ?_
    | refine TL_q rfl rfl (QT_loadW 2 rfl rfl Tryd.underlying27 rfl rfl rfl YtjipbndjcefbbaaDoorF.sz_27) ?_
    | refine TL_q rfl rfl (QT_loadA 0 rfl rfl Tryd.underlying27 rfl rfl rfl YtjipbndjcefbbaaDoorF.sz_27 (fun _ => rfl)) ?_
    | refine TL_q rfl rfl (QT_loadA 1 rfl rfl Tryd.underlying27 rfl rfl rfl YtjipbndjcefbbaaDoorF.sz_27 (fun _ => rfl)) ?_
    | refine TL_q rfl rfl (QT_loadA 2 rfl rfl Tryd.underlying27 rfl rfl rfl YtjipbndjcefbbaaDoorF.sz_27 (fun _ => rfl)) ?_
  refine TL_q rfl rfl (QT_move rfl rfl rfl) ?_
  refine TL_e rfl rfl rfl (rfl) (ET_call rfl YtjipbndjcefbbaaDoorF.cal_10 rfl (of_spec w0 _ hG hE L _ n xs hs0.tail hi hn1)) ?_
  rintro _ _ ⟨pv, H, rfl, hF, rfl⟩
  refine TL_q rfl rfl (QT_move rfl rfl rfl) ?_
  refine TL_q rfl rfl (QT_extract rfl rfl rfl rfl) ?_
  refine TL_q rfl rfl (QT_extract rfl rfl rfl rfl) ?_
  refine TL_q rfl rfl (QT_assign rfl rfl rfl) ?_
  refine TL_q rfl rfl (QT_assign rfl rfl rfl) ?_
  refine TL_nil ?_
  refine TX_then ?_
  refine TC_seq ?_
  refine TC_seq ?_
  refine TC_A (St w0 ((b2, 27, L.val.cells.toList) :: (H ++ η))) (fun _ h => h.cnt fun p => by simp only [List.countP_append, List.countP_cons]; omega) ?_
  obtain ⟨_, pad, pcap, pb, poff, rfl, hpc, hpad, hpr⟩ := (hF.sla (w0 := w0) (η := [])).some
  have hP : ∀ X : Heap, Rd (St w0 (X ++ (H ++ η))) pb poff (outT L n xs) := fun X => hpr.mono fun _ h => h.cnt fun p => by simp only [List.countP_append, List.countP_nil]; omega
  have hR : ∀ X : Heap, Rd (St w0 (X ++ η)) b off xs := fun X => hrd.mono fun _ h => h.app_right
  refine TC_reg ?_
  refine TL_q rfl rfl (QT_move rfl rfl rfl) ?_
  refine TL_q rfl rfl (QT_len rfl rfl Tryd.underlying28 rfl) ?_
  refine TL_q rfl rfl (QT_gtr rfl rfl rfl rfl) ?_
  refine TL_q rfl rfl (QT_move rfl rfl rfl) ?_
  refine TL_q rfl rfl (QT_move rfl rfl rfl) ?_
  refine TL_q rfl rfl (QT_neq rfl rfl rfl rfl) ?_
  refine TL_q rfl rfl (QT_or rfl rfl rfl rfl) ?_
  refine TL_nil ?_
  refine TX_then ?_
  first
    | refine TC_cond_dec rfl (fun h27 => ?_) (fun h27 => ?_)
    | refine TC_cond rfl (fun h27 => ?_) (fun h27 => ?_)
  ·
    refine TC_seq ?_
    refine TC_reg ?_
    refine TL_q rfl rfl (QT_move rfl rfl rfl) ?_
    refine TL_q rfl rfl (QT_len rfl rfl Tryd.underlying28 rfl) ?_
    refine TL_q rfl rfl (QT_gtr rfl rfl rfl rfl) ?_
    refine TL_q rfl rfl (QT_move rfl rfl rfl) ?_
    refine TL_q rfl rfl (QT_move rfl rfl rfl) ?_
    refine TL_q rfl rfl (QT_len rfl rfl Tryd.underlying31 rfl) ?_
    refine TL_q rfl rfl (QT_eql rfl rfl rfl rfl) ?_
    refine TL_q rfl rfl (QT_or rfl rfl rfl rfl) ?_
    refine TL_q rfl rfl (QT_move rfl rfl rfl) ?_
    refine TL_cq rfl rfl rfl rfl YtjipbndjcefbbaaDoorF.cal_8 rfl (fun _ => lives12 w0 _ hG hE) ?_
    refine TL_q rfl rfl (QT_and rfl rfl rfl rfl) ?_
    refine TL_q rfl rfl (QT_assign rfl rfl rfl) ?_
    refine TL_nil ?_
    refine TX_then ?_
    refine TC_ret ?_
    refine TX_then_ret ?_
    have h1 : (decide ((200 : Int) < (n : Int)) || decide (((cntT L n xs : Nat) : Int) = 0)) = true := by
      simp only [Bool.or_eq_true, decide_eq_true_eq] at h27 ⊢
      rcases h27 with h | h
      · exact .inl h
      · right; unfold cntT; rw [if_neg h]; rfl
    exact TX_ret (.inl rfl) (res1 rfl rfl) ⟨_, ⟨by rw [h1]; rfl, rfl⟩, fun _ h => h.tail.app_right⟩
  ·
    refine TC_skip ?_
    refine TX_then ?_
    refine TC_seq ?_
    refine TC_seq ?_
    have e0 : errT L n xs = 0 := by
      simp only [Bool.or_eq_false_iff, decide_eq_false_iff_not, ne_eq, Classical.not_not] at h27
      exact h27.2
    have hn200 : n ≤ 200 := by
      simp only [Bool.or_eq_false_iff, decide_eq_false_iff_not] at h27
      omega
    obtain ⟨hok, hty, hz, hbf⟩ := errT_zero e0
    have hcn : cntT L n xs = n := by unfold cntT; rw [if_pos e0]
    have hot : outT L n xs = tilesC (ptsT L) xs n := by unfold outT; rw [if_pos e0]
    have hp12 := ptsT_or L
    have hti : ∀ j, j ≤ n → Ints patchK (tileB (ptsT L) xs j) := fun j hj => tileB_ints hi hp12 hbf j hj
    have htl : ∀ j, j ≤ n → (tileB (ptsT L) xs j).length = 48 := fun j hj => (hti j hj).length
    have hel : ∀ i, i < n → elem (outT L n xs) 48 i = tileB (ptsT L) xs (i + 1) := fun i h => by rw [hot]; exact take_elem htl n i (Nat.le_refl _) h
    have hol : (outT L n xs).length = n * 48 := by rw [hot]; exact take_len htl n (Nat.le_refl _)
    rw [hcn]
    refine TC_reg ?_
    refine TL_q rfl rfl (QT_move rfl rfl rfl) ?_
    refine TL_q rfl rfl (QT_len rfl rfl Tryd.underlying31 rfl) ?_
    refine TL_q rfl rfl (QT_move rfl rfl rfl) ?_
    refine TL_q rfl rfl (QT_len rfl rfl Tryd.underlying28 rfl) ?_
    refine TL_q rfl rfl (QT_neq rfl rfl rfl rfl) ?_
    refine TL_q rfl rfl (QT_move rfl rfl rfl) ?_
    refine TL_q rfl rfl (QT_field rfl rfl YtjipbndjcefbbaaDoorF.fld_27_0 rfl) ?_
    first
      | refine TL_q rfl rfl (QT_load 0 rfl rfl Tryd.underlying3 rfl rfl rfl (fun _ => rfl)) ?_
      | refine TL_q rfl rfl (QT_load 1 rfl rfl Tryd.underlying3 rfl rfl rfl (fun _ => rfl)) ?_
      | refine TL_q rfl rfl (QT_load 2 rfl rfl Tryd.underlying3 rfl rfl rfl (fun _ => rfl)) ?_
    refine TL_q rfl rfl (QT_neq rfl rfl rfl rfl) ?_
    refine TL_q rfl rfl (QT_move rfl rfl rfl) ?_
    refine TL_q rfl rfl (QT_field rfl rfl YtjipbndjcefbbaaDoorF.fld_27_0 rfl) ?_
    first
      | refine TL_q rfl rfl (QT_load 0 rfl rfl Tryd.underlying3 rfl rfl rfl (fun _ => rfl)) ?_
      | refine TL_q rfl rfl (QT_load 1 rfl rfl Tryd.underlying3 rfl rfl rfl (fun _ => rfl)) ?_
      | refine TL_q rfl rfl (QT_load 2 rfl rfl Tryd.underlying3 rfl rfl rfl (fun _ => rfl)) ?_
    refine TL_q rfl rfl (QT_neq rfl rfl rfl rfl) ?_
    refine TL_q rfl rfl (QT_and rfl rfl rfl rfl) ?_
    refine TL_q rfl rfl (QT_or rfl rfl rfl rfl) ?_
    refine TL_nil ?_
    refine TX_then ?_
    refine TC_cond rfl (fun h => absurd (h.symm.trans ((show (_ : Bool) = false by rcases hty with h | h <;> simp [h]))) (by decide)) (fun _ => ?_)
    refine TC_skip ?_
    refine TX_then ?_
    refine TC_seq ?_
    refine TC_reg ?_
    refine TL_q rfl rfl (QT_field rfl rfl YtjipbndjcefbbaaDoorF.fld_27_0 rfl) ?_
    first
      | refine TL_q rfl rfl (QT_load 0 rfl rfl Tryd.underlying3 rfl rfl rfl (fun _ => rfl)) ?_
      | refine TL_q rfl rfl (QT_load 1 rfl rfl Tryd.underlying3 rfl rfl rfl (fun _ => rfl)) ?_
      | refine TL_q rfl rfl (QT_load 2 rfl rfl Tryd.underlying3 rfl rfl rfl (fun _ => rfl)) ?_
    refine TL_q rfl rfl (QT_sub rfl rfl rfl rfl (fun _ => ⟨by omega, by omega⟩)) ?_
    refine TL_q rfl rfl (QT_mul rfl rfl rfl rfl (fun _ => ⟨by omega, by omega⟩)) ?_
    refine TL_q rfl rfl (QT_assign rfl rfl rfl) ?_
    refine TL_nil ?_
    refine TX_then ?_
    refine TC_seq ?_
    refine TC_seq ?_
    have hpe : (4 : Int) * (L.ty - 3) = ((ptsT L : Nat) : Int) := by unfold ptsT; rcases hty with h | h <;> simp [h]
    refine TC_reg ?_
    refine TL_q rfl rfl (QT_assign rfl rfl rfl) ?_
    refine TL_nil ?_
    refine TX_then ?_
    refine TC_block ?_
    refine TC_loop (γ := { i : Nat // i ≤ n }) (fun t => [(1, true, .slice ad n cap), (5, true, .slice pad n pcap), (7, true, .int .i64 ((ptsT L : Nat) : Int)), (8, true, .int .i64 (t.1 : Int))]) (fun _ => St w0 ((b2, 27, L.val.cells.toList) :: (H ++ η))) (fun t => n - t.1) ⟨0, by omega⟩ ⟨rfl, rfl, slotI rfl hpe, rfl, trivial⟩ (fun _ h => h) ?_
    rintro ⟨i, hin⟩
    dsimp only
    refine TC_seq ?_
    refine TC_seq ?_
    refine TC_reg ?_
    refine TL_q rfl rfl (QT_move rfl rfl rfl) ?_
    refine TL_q rfl rfl (QT_move rfl rfl rfl) ?_
    refine TL_q rfl rfl (QT_len rfl rfl Tryd.underlying31 rfl) ?_
    refine TL_q rfl rfl (QT_lss rfl rfl rfl rfl) ?_
    refine TL_nil ?_
    refine TX_then ?_
    first
      | refine TC_cond_dec rfl (fun h61 => ?_) (fun h61 => ?_)
      | refine TC_cond rfl (fun h61 => ?_) (fun h61 => ?_)
    ·
      have hi' : i < n := by omega
      obtain ⟨hf1, hf2, hf3⟩ := flg_spec hi hi'
      have hf3' := hbf i hi'
      have hf4 : flg xs i = 0 ∨ flg xs i = 1 ∨ flg xs i = 2 ∨ flg xs i = 3 := by omega
      obtain rfl := had (by omega)
      obtain rfl := hpad (by omega)
      have hle : i * 49 + 49 ≤ xs.length := by rw [hl]; have : (i + 1) * 49 ≤ n * 49 := Nat.mul_le_mul_right _ hi'; omega
      have hle2 : i * 48 + 48 ≤ (outT L n xs).length := by rw [hol]; have : (i + 1) * 48 ≤ n * 48 := Nat.mul_le_mul_right _ hi'; omega
      have hei : Ints sheetK (elem xs 49 i) := hi.elem hi'
      have hels : (elem xs 49 i).length = 49 := hei.length
      have hT : tileB (ptsT L) xs (i + 1) = wholeC (ptsT L) (flg xs i) (elem xs 49 i) (tileB (ptsT L) xs i) := rfl
      have hTi := hti (i + 1) hi'
      have hsp : ∀ k, k < 16 → ((outT L n xs).drop (i * 48 + k * 2)).take 2 = spC (tileB (ptsT L) xs (i + 1)) k := fun k hk => by rw [part48 _ i (k * 2) 2 (by omega), hel i hi']; rfl
      have hco : ∀ k, k < 4 → ((outT L n xs).drop (i * 48 + (32 + k * 4))).take 4 = coC (tileB (ptsT L) xs (i + 1)) k := fun k hk => by rw [part48 _ i (32 + k * 4) 4 (by omega), hel i hi']; rfl
      refine TC_skip ?_
      refine TX_then ?_
      refine TC_seq ?_
      refine TC_block ?_
      refine TC_seq ?_
      refine TC_reg ?_
      refine TL_q rfl rfl (QT_move rfl rfl rfl) ?_
      refine TL_q rfl rfl (QT_move rfl rfl rfl) ?_
      refine TL_q rfl rfl (QT_indexSlice (i) rfl rfl Tryd.underlying28 YtjipbndjcefbbaaDoorF.sz_64 rfl rfl (rfl) (fun _ => hi')) ?_
      refine TL_q rfl rfl (QT_field rfl rfl YtjipbndjcefbbaaDoorF.fld_64_0 rfl) ?_
      refine TL_q rfl rfl (QT_loadRj (i * 49) rfl rfl Tryd.underlying5 rfl (hR (_ :: H)) rfl (fun _ => hf1)) ?_
      refine TL_q rfl rfl (QT_convN rfl rfl Tryd.underlying5 Tryd.underlying3 rfl (show IntKind.i64.wrap (flg xs i : Int) = (flg xs i : Int) from wrap_i64 ⟨by omega, by omega⟩)) ?_
      refine TL_q rfl rfl (QT_assign rfl rfl rfl) ?_
      refine TL_nil ?_
      refine TX_then ?_
      refine TC_seq ?_
      refine TC_reg ?_
      refine TL_q rfl rfl (QT_assign rfl rfl rfl) ?_
      refine TL_nil ?_
      refine TX_then ?_
      refine TC_seq ?_
      refine TC_reg ?_
      refine TL_q rfl rfl (QT_assign rfl rfl rfl) ?_
      refine TL_nil ?_
      refine TX_then ?_
      refine TC_cut (γ := Unit) (fun _ => [(1, true, .slice (some ⟨b, off, none⟩) n cap), (5, true, .slice (some ⟨pb, poff, none⟩) n pcap), (7, true, .int .i64 ((ptsT L : Nat) : Int)), (8, true, .int .i64 (i : Int)), (10, true, .int .i64 ((atN (flg xs i) : Nat) : Int)), (11, true, .int .i64 ((hvN (flg xs i) : Nat) : Int))]) (fun _ => St w0 ((b2, 27, L.val.cells.toList) :: (H ++ η))) ?_ ?_
      ·
        refine TC_seq ?_
        refine TC_reg ?_
        refine TL_q rfl rfl (QT_move rfl rfl rfl) ?_
        refine TL_q rfl rfl (QT_gtr rfl rfl rfl rfl) ?_
        refine TL_nil ?_
        refine TX_then ?_
        first
          | refine TC_cond_dec rfl (fun h71 => ?_) (fun h71 => ?_)
          | refine TC_cond rfl (fun h71 => ?_) (fun h71 => ?_)
        ·
          have hf5 : flg xs i = 1 ∨ flg xs i = 2 ∨ flg xs i = 3 := by omega
          have hi0 : 0 < i := by
            refine Nat.pos_of_ne_zero fun h0 => ?_
            subst h0
            have := hz hi'
            omega
          have hel' : elem (outT L n xs) 48 (i - 1) = tileB (ptsT L) xs i := by
            rw [hel (i - 1) (by omega)]; congr 1; omega
          have hsq : ∀ k, k < 16 → ((outT L n xs).drop ((i - 1) * 48 + k * 2)).take 2 = spC (tileB (ptsT L) xs i) k := fun k hk => by rw [part48 _ (i - 1) (k * 2) 2 (by omega), hel']; rfl
          have hcq : ∀ k, k < 4 → ((outT L n xs).drop ((i - 1) * 48 + (32 + k * 4))).take 4 = coC (tileB (ptsT L) xs i) k := fun k hk => by rw [part48 _ (i - 1) (32 + k * 4) 4 (by omega), hel']; rfl
          have hTa := hti i (by omega)
          refine TC_seq ?_
          refine TC_seq ?_
          refine TC_reg ?_
          refine TL_q rfl rfl (QT_move rfl rfl rfl) ?_
          refine TL_q rfl rfl (QT_eql rfl rfl rfl rfl) ?_
          refine TL_nil ?_
          refine TX_then ?_
          refine TC_cond rfl (fun h => absurd (h.symm.trans ((decide_eq_false (by omega)))) (by decide)) (fun _ => ?_)
          refine TC_skip ?_
          refine TX_then ?_
          refine TC_seq ?_
          refine TC_seq ?_
          refine TC_reg ?_
          refine TL_q rfl rfl (QT_assign rfl rfl rfl) ?_
          refine TL_nil ?_
          refine TX_then ?_
          refine TC_block ?_
          refine TC_loop (γ := { k : Nat // k ≤ 4 }) (fun t => [(1, true, .slice (some ⟨b, off, none⟩) n cap), (5, true, .slice (some ⟨pb, poff, none⟩) n pcap), (7, true, .int .i64 ((ptsT L : Nat) : Int)), (8, true, .int .i64 (i : Int)), (9, true, .int .i64 (flg xs i : Int)), (12, true, .int .i64 (t.1 : Int))]) (fun _ => St w0 ((b2, 27, L.val.cells.toList) :: (H ++ η))) (fun t => 4 - t.1) ⟨0, by omega⟩ ⟨rfl, rfl, rfl, rfl, rfl, rfl, trivial⟩ (fun _ h => h) ?_
          rintro ⟨k, hk⟩
          dsimp only
          refine TC_seq ?_
          refine TC_seq ?_
          refine TC_reg ?_
          refine TL_q rfl rfl (QT_move rfl rfl rfl) ?_
          refine TL_q rfl rfl (QT_lss rfl rfl rfl rfl) ?_
          refine TL_nil ?_
          refine TX_then ?_
          first
            | refine TC_cond_dec rfl (fun h75 => ?_) (fun h75 => ?_)
            | refine TC_cond rfl (fun h75 => ?_) (fun h75 => ?_)
          ·
            have hk' : k < 4 := by omega
            have hep := eP_lt (flg xs i) k
            have hec := eC_lt (flg xs i) k
            have hX : spC (tileB (ptsT L) xs (i + 1)) k = spC (tileB (ptsT L) xs i) (eP (flg xs i) k) := by rw [hT]; exact wh_sp hels hTa.length hp12 hf5 hk'
            have hY : k < 2 → coC (tileB (ptsT L) xs (i + 1)) k = coC (tileB (ptsT L) xs i) (eC (flg xs i) k) := fun h => by rw [hT]; exact wh_co hels hTa.length hp12 hf5 h
            refine TC_skip ?_
            refine TX_then ?_
            refine TC_seq ?_
            refine TC_block ?_
            refine TC_seq ?_
            refine TC_draw [(0, 0), (1, 0), (2, 0), (3, 0), (4, 0), (5, 0), (6, 0), (7, 0), (8, 0), (9, 0), (10, 0), (11, 0), (12, 0), (13, 0), (14, 0), (15, 0), (16, 0), (17, 0), (18, 0), (19, 0), (20, 0), (21, 0), (22, 0), (23, 0), (24, 0), (25, 0), (26, 0), (27, 0), (28, 0), (29, 0), (30, 0), (31, 0), (32, 0), (33, 0), (34, 0), (35, 0), (36, 0), (37, 0), (38, 0), (39, 0), (40, 0), (41, 0), (42, 0), (43, 0), (44, 0)] YtjipbndjcefbbaaDoorF.mixed (by kernel_rfl) (St.calm _ _) ?_
            refine TV_q rfl rfl rfl (fun _ => QT_move rfl rfl rfl) ?_
            refine TV_q rfl rfl rfl (fun _ => QT_move rfl rfl rfl) ?_
            refine TV_q rfl rfl rfl (fun _ => QT_move rfl rfl rfl) ?_
            refine TV_q rfl rfl rfl (fun _ => QT_indexSlice (i) rfl rfl Tryd.underlying31 YtjipbndjcefbbaaDoorF.sz_66 rfl rfl (rfl) (fun _ => hi')) ?_
            refine TV_q rfl rfl rfl (fun _ => QT_field rfl rfl YtjipbndjcefbbaaDoorF.fld_66_0 rfl) ?_
            refine TV_q rfl rfl rfl (fun _ => QT_indexArr (k) rfl rfl Tryd.underlying58 YtjipbndjcefbbaaDoorF.sz_57 rfl rfl (rfl) (fun _ => by omega)) ?_
            refine TV_ql rfl rfl rfl (QT_loadRAj (i * 48 + k * 2) rfl rfl Tryd.underlying57 rfl YtjipbndjcefbbaaDoorF.sz_57 (hP [_]) rfl (fun _ => by omega) (fun _ => hsp k (by omega))) ?_
            refine TV_q rfl rfl rfl (fun _ => QT_move rfl rfl rfl) ?_
            refine TV_q rfl rfl rfl (fun _ => QT_move rfl rfl rfl) ?_
            refine TV_q rfl rfl rfl (fun _ => QT_sub rfl rfl rfl rfl (fun _ => ⟨by omega, by omega⟩)) ?_
            refine TV_q rfl rfl rfl (fun _ => QT_move rfl rfl rfl) ?_
            refine TV_q rfl rfl rfl (fun _ => QT_mul rfl rfl rfl rfl (fun _ => ⟨by omega, by omega⟩)) ?_
            refine TV_q rfl rfl rfl (fun _ => QT_move rfl rfl rfl) ?_
            refine TV_q rfl rfl rfl (fun _ => QT_add rfl rfl rfl rfl (fun _ => ⟨by omega, by omega⟩)) ?_
            refine TV_q rfl rfl rfl (fun _ => QT_rem rfl rfl rfl rfl (fun _ => ⟨by omega, by omega⟩)) ?_
            refine TV_q rfl rfl rfl (fun _ => QT_indexSlice (i - 1) rfl rfl Tryd.underlying31 YtjipbndjcefbbaaDoorF.sz_66 rfl rfl ((by omega)) (fun _ => by omega)) ?_
            refine TV_q rfl rfl rfl (fun _ => QT_field rfl rfl YtjipbndjcefbbaaDoorF.fld_66_0 rfl) ?_
            refine TV_q rfl rfl rfl (fun _ => QT_indexArr (eP (flg xs i) k) rfl rfl Tryd.underlying58 YtjipbndjcefbbaaDoorF.sz_57 rfl rfl ((by unfold eP; omega)) (fun _ => by omega)) ?_
            refine TV_ql rfl rfl rfl (QT_loadRAj ((i - 1) * 48 + eP (flg xs i) k * 2) rfl rfl Tryd.underlying57 rfl YtjipbndjcefbbaaDoorF.sz_57 (hP [_]) rfl (fun _ => by omega) (fun _ => hsq _ (by omega))) ?_
            refine TV_q rfl rfl rfl (fun _ => QT_neA rfl rfl eq_Spot rfl rfl (fun _ => spC_ints hTi (by omega)) (fun _ => spC_ints hTa (by omega))) ?_
            refine TV_q rfl rfl rfl (fun _ => QT_move rfl rfl rfl) ?_
            refine TV_q rfl rfl rfl (fun _ => QT_move rfl rfl rfl) ?_
            refine TV_q rfl rfl rfl (fun _ => QT_lss rfl rfl rfl rfl) ?_
            refine TV_q rfl rfl rfl (fun _ => QT_move rfl rfl rfl) ?_
            refine TV_q rfl rfl rfl (fun _ => QT_move rfl rfl rfl) ?_
            refine TV_q rfl rfl rfl (fun _ => QT_move rfl rfl rfl) ?_
            refine TV_q rfl rfl rfl (fun _ => QT_move rfl rfl rfl) ?_
            refine TV_q rfl rfl rfl (fun _ => QT_indexSlice (i) rfl rfl Tryd.underlying31 YtjipbndjcefbbaaDoorF.sz_66 rfl rfl (rfl) (fun _ => hi')) ?_
            refine TV_q rfl rfl rfl (fun _ => QT_field rfl rfl YtjipbndjcefbbaaDoorF.fld_66_1 rfl) ?_
            refine TV_q rfl rfl rfl (fun _ => QT_indexArr (k) rfl rfl Tryd.underlying62 YtjipbndjcefbbaaDoorF.sz_61 rfl rfl (rfl) (fun _ => by omega)) ?_
            refine TV_ql rfl rfl rfl (QT_loadRAj (i * 48 + (32 + k * 4)) rfl rfl Tryd.underlying61 rfl YtjipbndjcefbbaaDoorF.sz_61 (hP [_]) rfl (fun _ => by omega) (fun _ => hco k hk')) ?_
            refine TV_q rfl rfl rfl (fun _ => QT_move rfl rfl rfl) ?_
            refine TV_q rfl rfl rfl (fun _ => QT_move rfl rfl rfl) ?_
            refine TV_q rfl rfl rfl (fun _ => QT_sub rfl rfl rfl rfl (fun _ => ⟨by omega, by omega⟩)) ?_
            refine TV_q rfl rfl rfl (fun _ => QT_move rfl rfl rfl) ?_
            refine TV_q rfl rfl rfl (fun _ => QT_move rfl rfl rfl) ?_
            refine TV_q rfl rfl rfl (fun _ => QT_add rfl rfl rfl rfl (fun _ => ⟨by omega, by omega⟩)) ?_
            refine TV_q rfl rfl rfl (fun _ => QT_rem rfl rfl rfl rfl (fun _ => ⟨by omega, by omega⟩)) ?_
            refine TV_q rfl rfl rfl (fun _ => QT_indexSlice (i - 1) rfl rfl Tryd.underlying31 YtjipbndjcefbbaaDoorF.sz_66 rfl rfl ((by omega)) (fun _ => by omega)) ?_
            refine TV_q rfl rfl rfl (fun _ => QT_field rfl rfl YtjipbndjcefbbaaDoorF.fld_66_1 rfl) ?_
            refine TV_q rfl rfl rfl (fun _ => QT_indexArr (eC (flg xs i) k) rfl rfl Tryd.underlying62 YtjipbndjcefbbaaDoorF.sz_61 rfl rfl ((by unfold eC; omega)) (fun _ => by omega)) ?_
            refine TV_ql rfl rfl rfl (QT_loadRAj ((i - 1) * 48 + (32 + eC (flg xs i) k * 4)) rfl rfl Tryd.underlying61 rfl YtjipbndjcefbbaaDoorF.sz_61 (hP [_]) rfl (fun _ => by omega) (fun _ => hcq _ hec)) ?_
            refine TV_q rfl rfl rfl (fun _ => QT_neA rfl rfl eq_Colour rfl rfl (fun _ => coC_ints hTi hk') (fun _ => coC_ints hTa hec)) ?_
            refine TV_q rfl rfl rfl (fun _ => QT_and rfl rfl rfl rfl) ?_
            refine TV_q rfl rfl rfl (fun _ => QT_or rfl rfl rfl rfl) ?_
            refine TV_end ?_
            refine TX_then ?_
            refine TC_cond rfl (fun h => absurd (h.symm.trans ((show (_ : Bool) = false by
             rw [hX, eqC_refl (spC_ints hTa (by omega))]
             by_cases hk2 : k < 2
             · rw [hY hk2, eqC_refl (coC_ints hTa hec)]; simp
             · have : ¬ (k : Int) < 2 := by omega
               simp [this]))) (by decide)) (fun _ => ?_)
            refine TC_skip ?_
            refine TX_block_normal ?_
            refine TX_then ?_
            refine TC_reg ?_
            refine TL_q rfl rfl (QT_move rfl rfl rfl) ?_
            refine TL_q rfl rfl (QT_add rfl rfl rfl rfl (fun _ => ⟨by omega, by omega⟩)) ?_
            refine TL_q rfl rfl (QT_assign rfl rfl rfl) ?_
            refine TL_nil ?_
            exact TX_round ⟨k + 1, by omega⟩ (by show 4 - (k + 1) < 4 - k; omega) ⟨rfl, rfl, rfl, rfl, rfl, rfl, trivial⟩ (fun _ h => h)
          ·
            refine TC_exit ?_
            refine TX_then_exit ?_
            refine TX_then_exit ?_
            refine TX_block_here ?_
            refine TX_then ?_
            refine TC_seq ?_
            refine TC_reg ?_
            refine TL_q rfl rfl (QT_assign rfl rfl rfl) ?_
            refine TL_nil ?_
            refine TX_then ?_
            refine TC_reg ?_
            refine TL_q rfl rfl (QT_assign rfl rfl rfl) ?_
            refine TL_nil ?_
            exact TX_cut () ⟨rfl, rfl, rfl, rfl, slotI rfl (by unfold atN; rw [if_neg (by omega)]; rfl), slotI rfl (by unfold hvN; rw [if_neg (by omega)]; rfl), trivial⟩ (fun _ h => h)
        ·
          refine TC_skip ?_
          exact TX_cut () ⟨rfl, rfl, rfl, rfl, slotI rfl (by unfold atN; rw [if_pos (by omega)]; rfl), slotI rfl (by unfold hvN; rw [if_pos (by omega)]; rfl), trivial⟩ (fun _ h => h)
      rintro ⟨⟩
      have hb1 := npN_bd (f := flg xs i) hp12
      have hb2 := ncN_bd (flg xs i)
      refine TC_seq ?_
      refine TC_seq ?_
      refine TC_reg ?_
      refine TL_q rfl rfl (QT_move rfl rfl rfl) ?_
      refine TL_q rfl rfl (QT_assign rfl rfl rfl) ?_
      refine TL_nil ?_
      refine TX_then ?_
      refine TC_block ?_
      refine TC_loop (γ := { k : Nat // atN (flg xs i) ≤ k ∧ k ≤ 16 }) (fun t => [(1, true, .slice (some ⟨b, off, none⟩) n cap), (5, true, .slice (some ⟨pb, poff, none⟩) n pcap), (7, true, .int .i64 ((ptsT L : Nat) : Int)), (8, true, .int .i64 (i : Int)), (10, true, .int .i64 ((atN (flg xs i) : Nat) : Int)), (11, true, .int .i64 ((hvN (flg xs i) : Nat) : Int)), (13, true, .int .i64 (t.1 : Int))]) (fun _ => St w0 ((b2, 27, L.val.cells.toList) :: (H ++ η))) (fun t => 16 - t.1) ⟨atN (flg xs i), by omega, by omega⟩ ⟨rfl, rfl, rfl, rfl, rfl, rfl, rfl, trivial⟩ (fun _ h => h) ?_
      rintro ⟨k, hk1, hk⟩
      dsimp only
      refine TC_seq ?_
      refine TC_seq ?_
      refine TC_reg ?_
      refine TL_q rfl rfl (QT_move rfl rfl rfl) ?_
      refine TL_q rfl rfl (QT_lss rfl rfl rfl rfl) ?_
      refine TL_nil ?_
      refine TX_then ?_
      first
        | refine TC_cond_dec rfl (fun h125 => ?_) (fun h125 => ?_)
        | refine TC_cond rfl (fun h125 => ?_) (fun h125 => ?_)
      ·
        have hk' : k < 16 := by omega
        have hX : k < ptsT L → spC (tileB (ptsT L) xs (i + 1)) k = spS (elem xs 49 i) (k - atN (flg xs i)) := fun h => by
          have := wh_own (pts := ptsT L) (f := flg xs i) (j := k - atN (flg xs i)) hels (htl i (by omega)) hp12 hf4 (by omega)
          rw [show atN (flg xs i) + (k - atN (flg xs i)) = k by omega] at this
          rw [hT]; exact this
        have hZ : ¬ k < ptsT L → spC (tileB (ptsT L) xs (i + 1)) k = [.int .u32 0, .int .u32 0] := fun h => by
          have := wh_none (pts := ptsT L) (f := flg xs i) (j := k - ptsT L) hels (htl i (by omega)) hp12 hf4 (by omega)
          rw [show ptsT L + (k - ptsT L) = k by omega] at this
          rw [hT]; exact this
        refine TC_skip ?_
        refine TX_then ?_
        refine TC_seq ?_
        refine TC_block ?_
        refine TC_seq ?_
        refine TC_draw [(0, 0), (1, 0), (2, 0), (3, 0), (4, 0), (5, 0), (6, 0), (7, 0), (8, 0), (9, 0), (10, 0), (11, 0), (12, 0), (13, 0), (14, 0), (15, 0), (16, 0), (17, 0), (18, 0), (19, 0), (20, 0), (21, 0), (22, 0), (23, 0), (24, 0), (25, 0), (26, 0), (27, 0), (28, 0), (29, 0), (30, 0), (31, 0), (32, 0), (33, 0), (34, 0), (35, 0), (36, 0), (37, 0)] YtjipbndjcefbbaaDoorF.mixed (by kernel_rfl) (St.calm _ _) ?_
        refine TV_q rfl rfl rfl (fun _ => QT_move rfl rfl rfl) ?_
        refine TV_q rfl rfl rfl (fun _ => QT_move rfl rfl rfl) ?_
        refine TV_q rfl rfl rfl (fun _ => QT_lss rfl rfl rfl rfl) ?_
        refine TV_q rfl rfl rfl (fun _ => QT_move rfl rfl rfl) ?_
        refine TV_q rfl rfl rfl (fun _ => QT_move rfl rfl rfl) ?_
        refine TV_q rfl rfl rfl (fun _ => QT_move rfl rfl rfl) ?_
        refine TV_q rfl rfl rfl (fun _ => QT_move rfl rfl rfl) ?_
        refine TV_q rfl rfl rfl (fun _ => QT_indexSlice (i) rfl rfl Tryd.underlying31 YtjipbndjcefbbaaDoorF.sz_66 rfl rfl (rfl) (fun _ => hi')) ?_
        refine TV_q rfl rfl rfl (fun _ => QT_field rfl rfl YtjipbndjcefbbaaDoorF.fld_66_0 rfl) ?_
        refine TV_q rfl rfl rfl (fun _ => QT_indexArr (k) rfl rfl Tryd.underlying58 YtjipbndjcefbbaaDoorF.sz_57 rfl rfl (rfl) (fun _ => by omega)) ?_
        refine TV_ql rfl rfl rfl (QT_loadRAj (i * 48 + k * 2) rfl rfl Tryd.underlying57 rfl YtjipbndjcefbbaaDoorF.sz_57 (hP [_]) rfl (fun _ => by omega) (fun _ => hsp k hk')) ?_
        refine TV_q rfl rfl rfl (fun _ => QT_move rfl rfl rfl) ?_
        refine TV_q rfl rfl rfl (fun _ => QT_move rfl rfl rfl) ?_
        refine TV_q rfl rfl rfl (fun _ => QT_move rfl rfl rfl) ?_
        refine TV_q rfl rfl rfl (fun _ => QT_move rfl rfl rfl) ?_
        refine TV_q rfl rfl rfl (fun _ => QT_sub rfl rfl rfl rfl (fun _ => ⟨by omega, by omega⟩)) ?_
        refine TV_q rfl rfl rfl (fun _ => QT_indexSlice (i) rfl rfl Tryd.underlying28 YtjipbndjcefbbaaDoorF.sz_64 rfl rfl (rfl) (fun _ => hi')) ?_
        refine TV_q rfl rfl rfl (fun _ => QT_field rfl rfl YtjipbndjcefbbaaDoorF.fld_64_1 rfl) ?_
        refine TV_q rfl rfl rfl (fun _ => QT_indexArr (k - atN (flg xs i)) rfl rfl Tryd.underlying58 YtjipbndjcefbbaaDoorF.sz_57 rfl rfl ((by omega)) (fun _ => by omega)) ?_
        refine TV_ql rfl rfl rfl (QT_loadRAj (i * 49 + (1 + (k - atN (flg xs i)) * 2)) rfl rfl Tryd.underlying57 rfl YtjipbndjcefbbaaDoorF.sz_57 (hR (_ :: H)) rfl (fun _ => by omega) (fun _ => elem_part xs i (1 + (k - atN (flg xs i)) * 2) 2 (by omega))) ?_
        refine TV_q rfl rfl rfl (fun _ => QT_neA rfl rfl eq_Spot rfl rfl (fun _ => spC_ints hTi hk') (fun _ => spS_ints hei (by omega))) ?_
        refine TV_q rfl rfl rfl (fun _ => QT_and rfl rfl rfl rfl) ?_
        refine TV_q rfl rfl rfl (fun _ => QT_move rfl rfl rfl) ?_
        refine TV_q rfl rfl rfl (fun _ => QT_move rfl rfl rfl) ?_
        refine TV_q rfl rfl rfl (fun _ => QT_move rfl rfl rfl) ?_
        refine TV_q rfl rfl rfl (fun _ => QT_geq rfl rfl rfl rfl) ?_
        refine TV_q rfl rfl rfl (fun _ => QT_move rfl rfl rfl) ?_
        refine TV_q rfl rfl rfl (fun _ => QT_move rfl rfl rfl) ?_
        refine TV_q rfl rfl rfl (fun _ => QT_move rfl rfl rfl) ?_
        refine TV_q rfl rfl rfl (fun _ => QT_move rfl rfl rfl) ?_
        refine TV_q rfl rfl rfl (fun _ => QT_indexSlice (i) rfl rfl Tryd.underlying31 YtjipbndjcefbbaaDoorF.sz_66 rfl rfl (rfl) (fun _ => hi')) ?_
        refine TV_q rfl rfl rfl (fun _ => QT_field rfl rfl YtjipbndjcefbbaaDoorF.fld_66_0 rfl) ?_
        refine TV_q rfl rfl rfl (fun _ => QT_indexArr (k) rfl rfl Tryd.underlying58 YtjipbndjcefbbaaDoorF.sz_57 rfl rfl (rfl) (fun _ => by omega)) ?_
        refine TV_ql rfl rfl rfl (QT_loadRAj (i * 48 + k * 2) rfl rfl Tryd.underlying57 rfl YtjipbndjcefbbaaDoorF.sz_57 (hP [_]) rfl (fun _ => by omega) (fun _ => hsp k hk')) ?_
        refine TV_q rfl rfl rfl (fun _ => QT_build rfl rfl YtjipbndjcefbbaaDoorF.zero_57 YtjipbndjcefbbaaDoorF.pl_57 rfl rfl rfl) ?_
        refine TV_q rfl rfl rfl (fun _ => QT_neA rfl rfl eq_Spot rfl rfl (fun _ => spC_ints hTi hk') (fun _ => (intsB_ok _ _ rfl : Ints spotK [.int .u32 0, .int .u32 0]))) ?_
        refine TV_q rfl rfl rfl (fun _ => QT_and rfl rfl rfl rfl) ?_
        refine TV_q rfl rfl rfl (fun _ => QT_or rfl rfl rfl rfl) ?_
        refine TV_end ?_
        refine TX_then ?_
        refine TC_cond rfl (fun h => absurd (h.symm.trans ((show (_ : Bool) = false by
         by_cases hk2 : k < ptsT L
         · have h1 : (k : Int) < ((ptsT L : Nat) : Int) := by omega
           have h2 : eqC (spC (tileB (ptsT L) xs (i + 1)) k) (spS (elem xs 49 i) (k - atN (flg xs i))) = true := by rw [hX hk2]; exact eqC_refl (spS_ints hei (by omega))
           have h3 : ¬ ((ptsT L : Nat) : Int) ≤ (k : Int) := by omega
           simp only [spS] at h2
           simp [h1, h2, h3]
         · have h1 : ¬ (k : Int) < ((ptsT L : Nat) : Int) := by omega
           have h2 : eqC (spC (tileB (ptsT L) xs (i + 1)) k) [.int .u32 0, .int .u32 0] = true := by rw [hZ hk2]; exact eqC_refl (intsB_ok spotK _ rfl)
           simp [h1]
           exact fun _ => h2))) (by decide)) (fun _ => ?_)
        refine TC_skip ?_
        refine TX_block_normal ?_
        refine TX_then ?_
        refine TC_reg ?_
        refine TL_q rfl rfl (QT_move rfl rfl rfl) ?_
        refine TL_q rfl rfl (QT_add rfl rfl rfl rfl (fun _ => ⟨by omega, by omega⟩)) ?_
        refine TL_q rfl rfl (QT_assign rfl rfl rfl) ?_
        refine TL_nil ?_
        exact TX_round ⟨k + 1, by omega, by omega⟩ (by show 16 - (k + 1) < 16 - k; omega) ⟨rfl, rfl, rfl, rfl, rfl, rfl, rfl, trivial⟩ (fun _ h => h)
      ·
        refine TC_exit ?_
        refine TX_then_exit ?_
        refine TX_then_exit ?_
        refine TX_block_here ?_
        refine TX_then ?_
        refine TC_seq ?_
        refine TC_reg ?_
        refine TL_q rfl rfl (QT_move rfl rfl rfl) ?_
        refine TL_q rfl rfl (QT_assign rfl rfl rfl) ?_
        refine TL_nil ?_
        refine TX_then ?_
        refine TC_block ?_
        refine TC_loop (γ := { k : Nat // hvN (flg xs i) ≤ k ∧ k ≤ 4 }) (fun t => [(1, true, .slice (some ⟨b, off, none⟩) n cap), (5, true, .slice (some ⟨pb, poff, none⟩) n pcap), (7, true, .int .i64 ((ptsT L : Nat) : Int)), (8, true, .int .i64 (i : Int)), (11, true, .int .i64 ((hvN (flg xs i) : Nat) : Int)), (14, true, .int .i64 (t.1 : Int))]) (fun _ => St w0 ((b2, 27, L.val.cells.toList) :: (H ++ η))) (fun t => 4 - t.1) ⟨hvN (flg xs i), by omega, by omega⟩ ⟨rfl, rfl, rfl, rfl, rfl, rfl, trivial⟩ (fun _ h => h) ?_
        rintro ⟨m, hm1, hm⟩
        dsimp only
        refine TC_seq ?_
        refine TC_seq ?_
        refine TC_reg ?_
        refine TL_q rfl rfl (QT_move rfl rfl rfl) ?_
        refine TL_q rfl rfl (QT_lss rfl rfl rfl rfl) ?_
        refine TL_nil ?_
        refine TX_then ?_
        first
          | refine TC_cond_dec rfl (fun h168 => ?_) (fun h168 => ?_)
          | refine TC_cond rfl (fun h168 => ?_) (fun h168 => ?_)
        ·
          have hm' : m < 4 := by omega
          have hX : coC (tileB (ptsT L) xs (i + 1)) m = coS (elem xs 49 i) (m - hvN (flg xs i)) := by
            have := wh_cols (pts := ptsT L) (f := flg xs i) (j := m - hvN (flg xs i)) hels (htl i (by omega)) hp12 hf4 (by omega)
            rw [show hvN (flg xs i) + (m - hvN (flg xs i)) = m by omega] at this
            rw [hT]; exact this
          refine TC_skip ?_
          refine TX_then ?_
          refine TC_seq ?_
          refine TC_block ?_
          refine TC_seq ?_
          refine TC_draw [(0, 0), (1, 0), (2, 0), (3, 0), (4, 0), (5, 0), (6, 0), (7, 0), (8, 0), (9, 0), (10, 0), (11, 0), (12, 0), (13, 0), (14, 0), (15, 0), (16, 0)] YtjipbndjcefbbaaDoorF.mixed (by kernel_rfl) (St.calm _ _) ?_
          refine TV_q rfl rfl rfl (fun _ => QT_move rfl rfl rfl) ?_
          refine TV_q rfl rfl rfl (fun _ => QT_move rfl rfl rfl) ?_
          refine TV_q rfl rfl rfl (fun _ => QT_move rfl rfl rfl) ?_
          refine TV_q rfl rfl rfl (fun _ => QT_indexSlice (i) rfl rfl Tryd.underlying31 YtjipbndjcefbbaaDoorF.sz_66 rfl rfl (rfl) (fun _ => hi')) ?_
          refine TV_q rfl rfl rfl (fun _ => QT_field rfl rfl YtjipbndjcefbbaaDoorF.fld_66_1 rfl) ?_
          refine TV_q rfl rfl rfl (fun _ => QT_indexArr (m) rfl rfl Tryd.underlying62 YtjipbndjcefbbaaDoorF.sz_61 rfl rfl (rfl) (fun _ => by omega)) ?_
          refine TV_ql rfl rfl rfl (QT_loadRAj (i * 48 + (32 + m * 4)) rfl rfl Tryd.underlying61 rfl YtjipbndjcefbbaaDoorF.sz_61 (hP [_]) rfl (fun _ => by omega) (fun _ => hco m hm')) ?_
          refine TV_q rfl rfl rfl (fun _ => QT_move rfl rfl rfl) ?_
          refine TV_q rfl rfl rfl (fun _ => QT_move rfl rfl rfl) ?_
          refine TV_q rfl rfl rfl (fun _ => QT_move rfl rfl rfl) ?_
          refine TV_q rfl rfl rfl (fun _ => QT_move rfl rfl rfl) ?_
          refine TV_q rfl rfl rfl (fun _ => QT_sub rfl rfl rfl rfl (fun _ => ⟨by omega, by omega⟩)) ?_
          refine TV_q rfl rfl rfl (fun _ => QT_indexSlice (i) rfl rfl Tryd.underlying28 YtjipbndjcefbbaaDoorF.sz_64 rfl rfl (rfl) (fun _ => hi')) ?_
          refine TV_q rfl rfl rfl (fun _ => QT_field rfl rfl YtjipbndjcefbbaaDoorF.fld_64_2 rfl) ?_
          refine TV_q rfl rfl rfl (fun _ => QT_indexArr (m - hvN (flg xs i)) rfl rfl Tryd.underlying62 YtjipbndjcefbbaaDoorF.sz_61 rfl rfl ((by omega)) (fun _ => by omega)) ?_
          refine TV_ql rfl rfl rfl (QT_loadRAj (out := coS (elem xs 49 i) (m - hvN (flg xs i))) (i * 49 + (33 + (m - hvN (flg xs i)) * 4)) rfl rfl Tryd.underlying61 rfl YtjipbndjcefbbaaDoorF.sz_61 (hR (_ :: H)) rfl (fun _ => by omega) (fun _ => elem_part xs i (33 + (m - hvN (flg xs i)) * 4) 4 (by omega))) ?_
          refine TV_q rfl rfl rfl (fun _ => QT_neA rfl rfl eq_Colour rfl rfl (fun _ => coC_ints hTi hm') (fun _ => coS_ints hei (by omega))) ?_
          refine TV_end ?_
          refine TX_then ?_
          refine TC_cond rfl (fun h => absurd (h.symm.trans ((show (_ : Bool) = false by rw [hX, eqC_refl (coS_ints hei (by omega))]; rfl))) (by decide)) (fun _ => ?_)
          refine TC_skip ?_
          refine TX_block_normal ?_
          refine TX_then ?_
          refine TC_reg ?_
          refine TL_q rfl rfl (QT_move rfl rfl rfl) ?_
          refine TL_q rfl rfl (QT_add rfl rfl rfl rfl (fun _ => ⟨by omega, by omega⟩)) ?_
          refine TL_q rfl rfl (QT_assign rfl rfl rfl) ?_
          refine TL_nil ?_
          exact TX_round ⟨m + 1, by omega, by omega⟩ (by show 4 - (m + 1) < 4 - m; omega) ⟨rfl, rfl, rfl, rfl, rfl, rfl, trivial⟩ (fun _ h => h)
        ·
          refine TC_exit ?_
          refine TX_then_exit ?_
          refine TX_then_exit ?_
          refine TX_block_here ?_
          refine TX_block_normal ?_
          refine TX_then ?_
          refine TC_reg ?_
          refine TL_q rfl rfl (QT_move rfl rfl rfl) ?_
          refine TL_q rfl rfl (QT_add rfl rfl rfl rfl (fun _ => ⟨by omega, by omega⟩)) ?_
          refine TL_q rfl rfl (QT_assign rfl rfl rfl) ?_
          refine TL_nil ?_
          exact TX_round ⟨i + 1, by omega⟩ (by show n - (i + 1) < n - i; omega) ⟨rfl, rfl, rfl, rfl, trivial⟩ (fun _ h => h)
    ·
      refine TC_exit ?_
      refine TX_then_exit ?_
      refine TX_then_exit ?_
      refine TX_block_here ?_
      refine TX_then ?_
      refine TC_seq ?_
      refine TC_reg ?_
      refine TL_cq rfl rfl rfl rfl YtjipbndjcefbbaaDoorF.cal_8 rfl (fun _ => lives12 w0 _ hG hE) ?_
      refine TL_q rfl rfl (QT_assign rfl rfl rfl) ?_
      refine TL_nil ?_
      refine TX_then ?_
      refine TC_ret ?_
      exact TX_ret (.inl rfl) (res1 rfl rfl) ⟨_, ⟨rfl, rfl⟩, fun _ h => h.tail.app_right⟩
end Go.Proofs.YtjipbndjcefbbaaDoor

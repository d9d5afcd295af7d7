/- SHEETS OF BYTES: the walk. -/
import Derived.Test.YtlmbpdlobpcahaaDoorS11e
namespace Go.Proofs.YtlmbpdlobpcahaaDoor
open Go Go.Gx Go.RowKit
set_option maxRecDepth 100000
def errC (L : Lay) : Int := if okB L = true ∧ 6 ≤ L.ty then 0 else 4
theorem scheck_spec (w0 : World) (η : Heap) (hG : Sets w0) (L : Lay) :
    CallsT Tryd.prog 28 [L.val] (St w0 η) fun v A' => v = .int .i64 (errC L) ∧ A' = St w0 η := by
  refine CallsT.body Tryd.func28 rfl rfl ?_
  simp only [Tryd.ntmps28, slotsOf, Nat.reduceAdd]
  refine TC_seq ?_
  refine TC_reg ?_
  refine TL_e rfl rfl rfl (rfl) (ET_box rfl rfl) ?_
  rintro _ _ ⟨b1, rfl, rfl⟩
  refine TL_q rfl rfl (QT_assign rfl rfl rfl) ?_
  refine TL_nil ?_
  refine TX_then ?_
  refine TC_seq ?_
  refine TC_seq ?_
  refine TC_reg ?_
  first
    | refine TL_q rfl rfl (QT_loadW 0 rfl rfl Tryd.underlying27 rfl rfl rfl YtlmbpdlobpcahaaDoorF.sz_27) ?_
    | refine TL_q rfl rfl (QT_loadW 1 rfl rfl Tryd.underlying27 rfl rfl rfl YtlmbpdlobpcahaaDoorF.sz_27) ?_
    | refine TL_q rfl rfl (QT_loadW 2 rfl rfl Tryd.underlying27 rfl rfl rfl YtlmbpdlobpcahaaDoorF.sz_27) ?_
    | refine TL_q rfl rfl (QT_loadA 0 rfl rfl Tryd.underlying27 rfl rfl rfl YtlmbpdlobpcahaaDoorF.sz_27 (fun _ => rfl)) ?_
    | refine TL_q rfl rfl (QT_loadA 1 rfl rfl Tryd.underlying27 rfl rfl rfl YtlmbpdlobpcahaaDoorF.sz_27 (fun _ => rfl)) ?_
    | refine TL_q rfl rfl (QT_loadA 2 rfl rfl Tryd.underlying27 rfl rfl rfl YtlmbpdlobpcahaaDoorF.sz_27 (fun _ => rfl)) ?_
  refine TL_cq rfl rfl rfl rfl YtlmbpdlobpcahaaDoorF.cal_23 rfl (fun _ => check_spec w0 _ hG L) ?_
  refine TL_q rfl rfl (QT_neq rfl rfl rfl rfl) ?_
  refine TL_q rfl rfl (QT_move rfl rfl rfl) ?_
  refine TL_q rfl rfl (QT_field rfl rfl YtlmbpdlobpcahaaDoorF.fld_27_0 rfl) ?_
  first
    | refine TL_q rfl rfl (QT_load 0 rfl rfl Tryd.underlying3 rfl rfl rfl (fun _ => rfl)) ?_
    | refine TL_q rfl rfl (QT_load 1 rfl rfl Tryd.underlying3 rfl rfl rfl (fun _ => rfl)) ?_
    | refine TL_q rfl rfl (QT_load 2 rfl rfl Tryd.underlying3 rfl rfl rfl (fun _ => rfl)) ?_
  refine TL_q rfl rfl (QT_lss rfl rfl rfl rfl) ?_
  refine TL_q rfl rfl (QT_or rfl rfl rfl rfl) ?_
  refine TL_nil ?_
  refine TX_then ?_
  first
    | refine TC_cond_dec rfl (fun h10 => ?_) (fun h10 => ?_)
    | refine TC_cond rfl (fun h10 => ?_) (fun h10 => ?_)
  ·
    refine TC_seq ?_
    refine TC_reg ?_
    refine TL_q rfl rfl (QT_assign rfl rfl rfl) ?_
    refine TL_nil ?_
    refine TX_then ?_
    refine TC_ret ?_
    refine TX_then_ret ?_
    refine TX_ret (.inl rfl) (res1 rfl rfl) ⟨_, ⟨?_, rfl⟩, fun _ h => h.tail⟩
    have e : errC L = 4 := by
      simp only [Bool.or_eq_true, decide_eq_true_eq] at h10
      unfold errC
      rw [if_neg]
      rintro ⟨h1, h2⟩
      unfold errOf at h10
      rw [if_pos h1] at h10
      omega
    rw [e]
  ·
    refine TC_skip ?_
    refine TX_then ?_
    refine TC_seq ?_
    refine TC_reg ?_
    refine TL_q rfl rfl (QT_assign rfl rfl rfl) ?_
    refine TL_nil ?_
    refine TX_then ?_
    refine TC_ret ?_
    refine TX_ret (.inl rfl) (res1 rfl rfl) ⟨_, ⟨?_, rfl⟩, fun _ h => h.tail⟩
    have e : errC L = 0 := by
      simp only [Bool.or_eq_false_iff, decide_eq_false_iff_not] at h10
      unfold errC
      rw [if_pos]
      unfold errOf at h10
      refine ⟨?_, by omega⟩
      by_cases h1 : okB L = true
      · exact h1
      · rw [if_neg h1] at h10; omega
    rw [e]
theorem clipS_spec (w0 : World) (η H : Heap) (v : Value) (n : Nat) (xs : List Value) (hF : Frag 71 49 v n xs H) :
    CallsT Tryd.prog 30 [v] (St w0 (H ++ η)) fun v A' => Frag 71 49 v n xs H ∧ A' = St w0 (H ++ η) := by
  obtain ⟨hl, hF⟩ := hF
  rcases hF with ⟨rfl, rfl, rfl⟩ | ⟨b, cap, rest, rfl, hc, hlen, rfl⟩
  · refine CallsT.body Tryd.func30 rfl rfl ?_
    simp only [Tryd.ntmps30, slotsOf, Nat.reduceAdd]
    refine TC_seq ?_
    refine TC_reg ?_
    refine TL_q rfl rfl (QT_assign rfl rfl rfl) ?_
    refine TL_nil ?_
    refine TX_then ?_
    refine TC_seq ?_
    refine TC_reg ?_
    refine TL_q rfl rfl (QT_move rfl rfl rfl) ?_
    refine TL_q rfl rfl (QT_move rfl rfl rfl) ?_
    refine TL_q rfl rfl (QT_len rfl rfl Tryd.underlying31 rfl) ?_
    refine TL_q rfl rfl (QT_move rfl rfl rfl) ?_
    refine TL_q rfl rfl (QT_len rfl rfl Tryd.underlying31 rfl) ?_
    refine TL_q rfl rfl (QT_slcHM (0) (0) rfl rfl rfl Tryd.underlying31 YtlmbpdlobpcahaaDoorF.sz_71 rfl rfl rfl rfl rfl (fun _ => ⟨by omega, by omega⟩)) ?_
    refine TL_q rfl rfl (QT_assign rfl rfl rfl) ?_
    refine TL_nil ?_
    refine TX_then ?_
    refine TC_ret ?_
    exact TX_ret (.inl rfl) (res1 rfl rfl) ⟨_, ⟨⟨hl, .inl ⟨rfl, rfl, rfl⟩⟩, rfl⟩, fun _ h => h⟩
  · refine CallsT.body Tryd.func30 rfl rfl ?_
    simp only [Tryd.ntmps30, slotsOf, Nat.reduceAdd]
    refine TC_seq ?_
    refine TC_reg ?_
    refine TL_q rfl rfl (QT_assign rfl rfl rfl) ?_
    refine TL_nil ?_
    refine TX_then ?_
    refine TC_seq ?_
    refine TC_reg ?_
    refine TL_q rfl rfl (QT_move rfl rfl rfl) ?_
    refine TL_q rfl rfl (QT_move rfl rfl rfl) ?_
    refine TL_q rfl rfl (QT_len rfl rfl Tryd.underlying31 rfl) ?_
    refine TL_q rfl rfl (QT_move rfl rfl rfl) ?_
    refine TL_q rfl rfl (QT_len rfl rfl Tryd.underlying31 rfl) ?_
    refine TL_q rfl rfl (QT_slcHM (n) (n) rfl rfl rfl Tryd.underlying31 YtlmbpdlobpcahaaDoorF.sz_71 rfl rfl rfl rfl rfl (fun _ => ⟨by omega, by omega⟩)) ?_
    refine TL_q rfl rfl (QT_assign rfl rfl rfl) ?_
    refine TL_nil ?_
    refine TX_then ?_
    refine TC_ret ?_
    exact TX_ret (.inl rfl) (res1 rfl rfl) ⟨_, ⟨⟨hl, .inr ⟨b, n, rest, rfl, ⟨Nat.le_refl _, by omega⟩, Nat.le_trans (Nat.mul_le_mul_right _ hc.1) hlen, rfl⟩⟩, rfl⟩, fun _ h => h⟩
/-- sheets, one behind the other, in memory -/
def flatS (ys : List (List Nat)) : List Value := (ys.map shV).flatten
theorem flatS_snoc (ys : List (List Nat)) (y : List Nat) : flatS (ys ++ [y]) = flatS ys ++ shV y := by simp [flatS]
theorem errC_ok {L : Lay} (h : errC L = 0) : okB L = true ∧ 6 ≤ L.ty := by
  unfold errC at h
  split at h
  · assumption
  · exact absurd h (by decide)
theorem errC_bad {L : Lay} (h : errC L ≠ 0) : errC L = 4 ∧ ∀ bs, errG L bs = 4 := by
  unfold errC at h ⊢
  split at h
  · exact absurd rfl h
  · rename_i hn
    rw [if_neg hn]
    exact ⟨rfl, fun bs => by unfold errG; rw [if_neg hn]⟩
theorem fragNone {L : Lay} {bs : List Nat} {e : Int} (h : errG L bs = e) (h0 : e ≠ 0) : Frag 71 49 (.slice none 0 0) (outG L bs).length (flatS (outG L bs)) [] := by
  rw [outG_bad (by rw [h]; exact h0)]
  exact Frag.nil _ _
set_option maxHeartbeats 1000000 in
theorem sget_spec (w0 : World) (η : Heap) (hG : Sets w0) (L : Lay) (bv : Value) (bs : List Nat) (hs : SlA (St w0 η) bv 1 bs.length (byV bs)) (hb : ∀ c ∈ bs, c < 256) (hl : bs.length ≤ 140737488355328) :
    CallsT Tryd.prog 11 [L.val, bv] (St w0 η) fun v A' => ∃ sv H, v = .tuple #[sv, .int .i64 (errG L bs)] ∧ Frag 71 49 sv (outG L bs).length (flatS (outG L bs)) H ∧ A' = St w0 (H ++ η) := by
  have hs0 := hs
  obtain ⟨_, ad, cap, rfl, hcap, _⟩ := hs
  refine CallsT.body Tryd.func11 rfl rfl ?_
  simp only [Tryd.ntmps11, slotsOf, Nat.reduceAdd]
  refine TC_seq ?_
  refine TC_reg ?_
  refine TL_e rfl rfl rfl (rfl) (ET_box rfl rfl) ?_
  rintro _ _ ⟨b2, rfl, rfl⟩
  refine TL_q rfl rfl (QT_assign rfl rfl rfl) ?_
  refine TL_q rfl rfl (QT_assign rfl rfl rfl) ?_
  refine TL_nil ?_
  refine TX_then ?_
  refine TC_seq ?_
  refine TC_seq ?_
  refine TC_reg ?_
  first
    | refine TL_q rfl rfl (QT_loadW 0 rfl rfl Tryd.underlying27 rfl rfl rfl YtlmbpdlobpcahaaDoorF.sz_27) ?_
    | refine TL_q rfl rfl (QT_loadW 1 rfl rfl Tryd.underlying27 rfl rfl rfl YtlmbpdlobpcahaaDoorF.sz_27) ?_
    | refine TL_q rfl rfl (QT_loadW 2 rfl rfl Tryd.underlying27 rfl rfl rfl YtlmbpdlobpcahaaDoorF.sz_27) ?_
    | refine TL_q rfl rfl (QT_loadA 0 rfl rfl Tryd.underlying27 rfl rfl rfl YtlmbpdlobpcahaaDoorF.sz_27 (fun _ => rfl)) ?_
    | refine TL_q rfl rfl (QT_loadA 1 rfl rfl Tryd.underlying27 rfl rfl rfl YtlmbpdlobpcahaaDoorF.sz_27 (fun _ => rfl)) ?_
    | refine TL_q rfl rfl (QT_loadA 2 rfl rfl Tryd.underlying27 rfl rfl rfl YtlmbpdlobpcahaaDoorF.sz_27 (fun _ => rfl)) ?_
  refine TL_cq rfl rfl rfl rfl YtlmbpdlobpcahaaDoorF.cal_28 rfl (fun _ => scheck_spec w0 _ hG L) ?_
  refine TL_q rfl rfl (QT_assign rfl rfl rfl) ?_
  refine TL_nil ?_
  refine TX_then ?_
  refine TC_seq ?_
  refine TC_reg ?_
  refine TL_q rfl rfl (QT_move rfl rfl rfl) ?_
  refine TL_q rfl rfl (QT_neq rfl rfl rfl rfl) ?_
  refine TL_nil ?_
  refine TX_then ?_
  first
    | refine TC_cond_dec rfl (fun h13 => ?_) (fun h13 => ?_)
    | refine TC_cond rfl (fun h13 => ?_) (fun h13 => ?_)
  ·
    refine TC_seq ?_
    refine TC_reg ?_
    refine TL_q rfl rfl (QT_move rfl rfl rfl) ?_
    refine TL_q rfl rfl (QT_assign rfl rfl rfl) ?_
    refine TL_q rfl rfl (QT_assign rfl rfl rfl) ?_
    refine TL_nil ?_
    refine TX_then ?_
    refine TC_ret ?_
    refine TX_then_ret ?_
    obtain ⟨e4, eG⟩ := errC_bad h13
    exact TX_ret (.inl rfl) (res2 rfl rfl rfl) ⟨_, ⟨_, [], by rw [eG bs, e4], fragNone (eG bs) (by decide), rfl⟩, fun _ h => h.tail⟩
  ·
    refine TC_skip ?_
    refine TX_then ?_
    refine TC_seq ?_
    refine TC_seq ?_
    refine TC_reg ?_
    refine TL_q rfl rfl (QT_move rfl rfl rfl) ?_
    refine TL_q rfl rfl (QT_len rfl rfl Tryd.underlying28 rfl) ?_
    refine TL_q rfl rfl (QT_gtr rfl rfl rfl rfl) ?_
    refine TL_nil ?_
    refine TX_then ?_
    first
      | refine TC_cond_dec rfl (fun h17 => ?_) (fun h17 => ?_)
      | refine TC_cond rfl (fun h17 => ?_) (fun h17 => ?_)
    ·
      refine TC_seq ?_
      refine TC_reg ?_
      refine TL_q rfl rfl (QT_assign rfl rfl rfl) ?_
      refine TL_q rfl rfl (QT_assign rfl rfl rfl) ?_
      refine TL_nil ?_
      refine TX_then ?_
      refine TC_ret ?_
      refine TX_then_ret ?_
      have hc := errC_ok (Classical.not_not.1 h13)
      have e3 : errG L bs = 3 := by unfold errG; rw [if_pos hc, if_pos (by omega)]
      exact TX_ret (.inl rfl) (res2 rfl rfl rfl) ⟨_, ⟨_, [], by rw [e3], fragNone e3 (by decide), rfl⟩, fun _ h => h.tail⟩
    ·
      refine TC_skip ?_
      refine TX_then ?_
      refine TC_seq ?_
      have hc := errC_ok (Classical.not_not.1 h13)
      have hty := ty67 hc
      have hle : ¬ 65536 < bs.length := by omega
      refine TC_reg ?_
      refine TL_q rfl rfl (QT_assign rfl rfl rfl) ?_
      refine TL_nil ?_
      refine TX_then ?_
      refine TC_seq ?_
      refine TC_block ?_
      refine TC_loop (γ := { t : List (List Nat) × List Nat × Value × Value × Heap // SlA (St w0 η) t.2.2.1 1 t.2.1.length (byV t.2.1) ∧ Frag 71 49 t.2.2.2.1 t.1.length (flatS t.1) t.2.2.2.2 ∧ (∀ c ∈ t.2.1, c < 256) ∧ getS L bs = (getS L t.2.1).map (t.1 ++ ·) ∧ t.1.length + t.2.1.length ≤ bs.length }) (fun u => [(1, true, u.1.2.2.1), (2, true, .pointer (some ⟨b2, 0, none⟩)), (7, true, u.1.2.2.2.1)]) (fun u => St w0 ((b2, 27, L.cells) :: (u.1.2.2.2.2 ++ η))) (fun u => u.1.2.1.length) ⟨([], bs, .slice ad bs.length cap, .slice none 0 0, []), hs0, Frag.nil _ _, hb, by rw [show (fun x : List (List Nat) => [] ++ x) = id from rfl, Option.map_id]; rfl, by show 0 + bs.length ≤ _; omega⟩ ⟨rfl, rfl, rfl, trivial⟩ (fun _ h => h) ?_
      rintro ⟨⟨acc, rest, rv, sv, H⟩, hR, hF, hrb, hgs, hal⟩
      dsimp only at hR hF hrb hgs hal ⊢
      have hR0 := hR
      obtain ⟨_, rad, rcap, rfl, hrc, _⟩ := hR
      refine TC_seq ?_
      refine TC_seq ?_
      refine TC_reg ?_
      refine TL_q rfl rfl (QT_move rfl rfl rfl) ?_
      refine TL_q rfl rfl (QT_len rfl rfl Tryd.underlying28 rfl) ?_
      refine TL_q rfl rfl (QT_gtr rfl rfl rfl rfl) ?_
      refine TL_nil ?_
      refine TX_then ?_
      first
        | refine TC_cond_dec rfl (fun h20 => ?_) (fun h20 => ?_)
        | refine TC_cond rfl (fun h20 => ?_) (fun h20 => ?_)
      ·
        have hr0 : rest ≠ [] := by intro h; subst h; simp at h20
        have hrl : 0 < rest.length := List.length_pos_iff.2 hr0
        refine TC_skip ?_
        refine TX_then ?_
        refine TC_block ?_
        refine TC_seq ?_
        refine TC_reg ?_
        refine TL_e rfl rfl rfl (rfl) (ET_alloc rfl YtlmbpdlobpcahaaDoorF.zero_71) ?_
        rintro _ _ ⟨b8, rfl, rfl⟩
        refine TL_nil ?_
        refine TX_then ?_
        refine TC_seq ?_
        refine TC_reg ?_
        refine TL_q rfl rfl (QT_move rfl rfl rfl) ?_
        refine TL_q rfl rfl (QT_build rfl rfl YtlmbpdlobpcahaaDoorF.zero_82 YtlmbpdlobpcahaaDoorF.pl_82 rfl rfl rfl) ?_
        refine TL_e rfl rfl rfl (rfl) (ET_box rfl rfl) ?_
        rintro _ _ ⟨b23, rfl, rfl⟩
        refine TL_q rfl rfl (QT_assign rfl rfl rfl) ?_
        refine TL_nil ?_
        refine TX_then ?_
        refine TC_seq ?_
        refine TC_A (St w0 ((b8, 71, shV (0 :: zer)) :: (b23, 82, [.slice rad rest.length rcap, .int .i64 0, .int .i64 0]) :: (b2, 27, L.cells) :: (H ++ η))) (fun w h => h.swap) ?_
        obtain ⟨G, hGd⟩ : ∃ G, G = thr (goR rest) L 0 zer (0, 0) := ⟨_, rfl⟩
        have hok2 := thr_R_ok (bs := rest) hc.1 hty
        have hbad2 := thr_R_bad (bs := rest) hc.1 hty hr0
        have hthr := through_spec (reader_ok w0 b23 (.slice rad rest.length rcap) rest hrb (by omega)) ((b2, 27, L.cells) :: (H ++ η)) [(b23, 82, [.slice rad rest.length rcap, .int .i64 0, .int .i64 0])] L hc.1 hty (0, 0) b8 0 zer (by decide) zer_sh (hR0.mono fun w h => h.tail.app_right) rfl (by decide)
        rw [← hGd] at hok2 hbad2 hthr
        obtain ⟨ys, at', e⟩ := G
        have hcons := getS_cons hc.1 hty hr0
        have hk1 := (szN_pos hc.1 hty (flB L (byB rest))).1
        have hszL := fun A => size_spec w0 A hG L (flB L (byB rest) : Int) (Int.natCast_nonneg _)
        rw [size_eq hc.1 hty] at hszL
        have hnT : szN L (flB L (byB rest)) = (tot (fS L (flB L (byB rest))) + 7) / 8 := rfl
        have hdc := dcS_eq L (byB rest)
        have hshf := dcS_shf L (byB rest)
        obtain ⟨D, hD⟩ : ∃ D, D = dcS L (byB rest) := ⟨_, rfl⟩
        obtain ⟨fl, hfl⟩ : ∃ fl, fl = flB L (byB rest) := ⟨_, rfl⟩
        rw [← hD, ← hfl] at hdc hok2
        rw [← hD] at hshf
        rw [← hfl] at hbad2 hk1 hszL hnT
        rw [← hD, ← hfl] at hcons
        obtain ⟨T, hT⟩ : ∃ T, T = tot (fS L fl) := ⟨_, rfl⟩
        obtain ⟨m, hm⟩ : ∃ m, m = szN L fl := ⟨_, rfl⟩
        rw [← hm, ← hT] at hcons hnT
        rw [← hT] at hok2 hbad2
        rw [← hm] at hk1 hszL
        clear hT hm hD
        refine TC_reg ?_
        refine TL_q rfl rfl (QT_loadW (cs := L.cells) 2 rfl rfl Tryd.underlying27 rfl rfl rfl YtlmbpdlobpcahaaDoorF.sz_27) ?_
        refine TL_q rfl rfl (QT_move rfl rfl rfl) ?_
        refine TL_q rfl rfl (QT_makeIface rfl rfl Tryd.underlying80 rfl rfl) ?_
        refine TL_e rfl rfl rfl (rfl) (ET_call rfl YtlmbpdlobpcahaaDoorF.cal_29 rfl (hthr)) ?_
        rintro _ _ ⟨rfl, K', hK', rfl⟩
        refine TL_nil ?_
        refine TX_then ?_
        refine TC_seq ?_
        refine TC_seq ?_
        have hK2 : K' = [(b23, 82, [.slice rad rest.length rcap, .int .i64 (at' : Int), .int .i64 e])] := hK'
        subst hK2
        refine TC_reg ?_
        refine TL_q rfl rfl (QT_move rfl rfl rfl) ?_
        refine TL_q rfl rfl (QT_nilCheck rfl rfl rfl) ?_
        refine TL_q rfl rfl (QT_field rfl rfl YtlmbpdlobpcahaaDoorF.fld_82_2 rfl) ?_
        refine TL_q rfl rfl (QT_load (v := .int .i64 e) 1 rfl rfl Tryd.underlying32 rfl rfl rfl (fun _ => rfl)) ?_
        refine TL_q rfl rfl (QT_neq rfl rfl rfl rfl) ?_
        refine TL_nil ?_
        refine TX_then ?_
        first
          | refine TC_cond_dec rfl (fun h32 => ?_) (fun h32 => ?_)
          | refine TC_cond rfl (fun h32 => ?_) (fun h32 => ?_)
        ·
          refine TC_seq ?_
          refine TC_reg ?_
          refine TL_q rfl rfl (QT_assign rfl rfl rfl) ?_
          refine TL_q rfl rfl (QT_assign rfl rfl rfl) ?_
          refine TL_nil ?_
          refine TX_then ?_
          refine TC_ret ?_
          refine TX_then_ret ?_
          refine TX_block_ret ?_
          refine TX_then_ret ?_
          refine TX_block_ret ?_
          refine TX_then_ret ?_
          have hbad : 8 * rest.length < T := by
            refine Nat.lt_of_not_le fun hc2 => ?_
            have := hok2 hc2
            simp only [Prod.mk.injEq] at this
            exact h32 this.2.2
          have e5 : errG L bs = 5 := errG_none hc hle (by rw [hgs, hcons, if_pos hbad]; rfl)
          exact TX_ret (.inl rfl) (res2 rfl rfl rfl) ⟨_, ⟨_, [], by rw [e5], fragNone e5 (by decide), rfl⟩, fun _ h => h.tail.tail.tail.app_right⟩
        ·
          refine TC_skip ?_
          refine TX_then ?_
          have hfit : ¬ 8 * rest.length < T := fun hb2 => hbad2 hb2 (Classical.not_not.1 h32)
          obtain ⟨rfl, rfl, rfl⟩ : ys = D ∧ at' = T ∧ e = 0 := by
            have := hok2 (Nat.le_of_not_lt hfit)
            simp only [Prod.mk.injEq] at this
            exact ⟨this.1, this.2.1, this.2.2⟩
          have hyl : (shV ys).length = 49 := shV_len hshf.len
          have hys : Sz Tryd.prog 71 (shV ys).length := by rw [hyl]; exact YtlmbpdlobpcahaaDoorF.sz_71
          have hyi := shV_ints hshf
          have hyf : (shV ys)[0]? = some (.int .u8 (fl : Int)) := shV_at (xs := ys) (p := 0) (by decide) (by rw [hdc]; rfl)
          have hk0 : m ≤ rest.length := by omega
          have hR2 := hR0.back hk0
          rw [byV_drop] at hR2
          have hdl : (rest.drop m).length = rest.length - m := List.length_drop ..
          refine TC_draw [(0, 0), (1, 0), (4, 0), (5, 0), (6, 0), (7, 0), (2, 1), (3, 1), (8, 1), (9, 0), (10, 0), (11, 0)] YtlmbpdlobpcahaaDoorF.mixed (by kernel_rfl) (St.calm _ _) ?_
          refine TV_q rfl rfl rfl (fun _ => QT_move rfl rfl rfl) ?_
          first
            | refine TV_ql rfl rfl rfl (QT_loadW (cs := shV ys) 0 rfl rfl Tryd.underlying71 rfl rfl rfl hys) ?_
            | refine TV_ql rfl rfl rfl (QT_loadW (cs := shV ys) 1 rfl rfl Tryd.underlying71 rfl rfl rfl hys) ?_
          refine TV_q rfl rfl rfl (fun _ => QT_move rfl rfl rfl) ?_
          first
            | refine TV_ql rfl rfl rfl (QT_loadW (cs := L.cells) 2 rfl rfl Tryd.underlying27 rfl rfl rfl YtlmbpdlobpcahaaDoorF.sz_27) ?_
            | refine TV_ql rfl rfl rfl (QT_loadW (cs := L.cells) 3 rfl rfl Tryd.underlying27 rfl rfl rfl YtlmbpdlobpcahaaDoorF.sz_27) ?_
          refine TV_q rfl rfl rfl (fun _ => QT_field rfl rfl YtlmbpdlobpcahaaDoorF.fld_71_0 rfl) ?_
          first
            | refine TV_ql rfl rfl rfl (QT_load (v := .int .u8 (fl : Int)) 0 rfl rfl Tryd.underlying5 rfl rfl rfl (fun _ => hyf)) ?_
            | refine TV_ql rfl rfl rfl (QT_load (v := .int .u8 (fl : Int)) 1 rfl rfl Tryd.underlying5 rfl rfl rfl (fun _ => hyf)) ?_
          refine TV_e rfl rfl rfl rfl (rfl) (ET_buildN [_] rfl Tryd.underlying31 YtlmbpdlobpcahaaDoorF.sz_71 YtlmbpdlobpcahaaDoorF.zero_71 rfl rfl rfl (fun v hv => by cases List.mem_singleton.1 hv; exact hyl)) ?_
          rintro _ _ ⟨b35, rfl, rfl⟩
          refine ⟨_, .keep (by kernel_rfl) rfl (by first | exact QT_load (v := .int .u8 (fl : Int)) 0 rfl rfl Tryd.underlying5 rfl rfl rfl (fun _ => hyf) | exact QT_load (v := .int .u8 (fl : Int)) 1 rfl rfl Tryd.underlying5 rfl rfl rfl (fun _ => hyf)) (.keep (by kernel_rfl) rfl (by first | exact QT_loadW (cs := L.cells) 2 rfl rfl Tryd.underlying27 rfl rfl rfl YtlmbpdlobpcahaaDoorF.sz_27 | exact QT_loadW (cs := L.cells) 3 rfl rfl Tryd.underlying27 rfl rfl rfl YtlmbpdlobpcahaaDoorF.sz_27) (.drop (by kernel_rfl) (.nil))), ?_⟩
          refine TV_e rfl rfl rfl rfl (rfl) (ET_appendL (L := [_, _, _, _]) rfl Tryd.underlying31 el_Sheet rfl rfl hF (fun _ h => h) (SlA.own (n := 1) (xs := shV ys) 0 rfl (by rw [List.drop_zero, List.take_of_length_le (by simp [Value.cells, hyl])]; simp [Value.cells]) (by simp [Value.cells, hyl]) (by omega)) hyi.oneCell (by omega) (by omega)) ?_
          rintro sv2 _ ⟨H', hF', rfl⟩
          refine ⟨_, .keep (by kernel_rfl) rfl (by first | exact QT_load (v := .int .u8 (fl : Int)) 0 rfl rfl Tryd.underlying5 rfl rfl rfl (fun _ => hyf) | exact QT_load (v := .int .u8 (fl : Int)) 1 rfl rfl Tryd.underlying5 rfl rfl rfl (fun _ => hyf)) (.keep (by kernel_rfl) rfl (by first | exact QT_loadW (cs := L.cells) 2 rfl rfl Tryd.underlying27 rfl rfl rfl YtlmbpdlobpcahaaDoorF.sz_27 | exact QT_loadW (cs := L.cells) 3 rfl rfl Tryd.underlying27 rfl rfl rfl YtlmbpdlobpcahaaDoorF.sz_27) (.nil)), ?_⟩
          refine TV_cq rfl rfl rfl rfl rfl YtlmbpdlobpcahaaDoorF.cal_25 rfl (fun _ => hszL _) (.drop (by kernel_rfl) (.drop (by kernel_rfl) (.nil))) ?_
          refine TV_q rfl rfl rfl (fun _ => QT_slcL (m) rfl rfl rfl rfl Tryd.underlying28 YtlmbpdlobpcahaaDoorF.sz_5 rfl rfl rfl (fun _ => by omega)) ?_
          refine TV_q rfl rfl rfl (fun _ => QT_assign rfl rfl rfl) ?_
          refine TV_q rfl rfl rfl (fun _ => QT_assign rfl rfl rfl) ?_
          refine TV_end ?_
          refine TX_block_normal ?_
          refine TX_round ⟨(acc ++ [ys], rest.drop m, _, sv2, H'), by rw [hdl]; exact hR2, by rw [List.length_append, flatS_snoc]; exact hF', fun c hc => hrb c (List.mem_of_mem_drop hc), ?_, ?_⟩ (by show (rest.drop m).length < rest.length; rw [hdl]; omega) ⟨rfl, rfl, rfl, trivial⟩ (fun _ h => h.tail.tail.tail)
          · rw [hgs, hcons, if_neg hfit, Option.map_map]
            congr 1
            funext x
            simp
          · show (acc ++ [ys]).length + (rest.drop m).length ≤ _
            rw [List.length_append, hdl]
            show acc.length + 1 + _ ≤ _
            omega
      ·
        refine TC_exit ?_
        refine TX_then_exit ?_
        refine TX_then_exit ?_
        refine TX_block_here ?_
        refine TX_then ?_
        refine TC_seq ?_
        refine TC_reg ?_
        refine TL_q rfl rfl (QT_move rfl rfl rfl) ?_
        refine TL_A (St w0 (H ++ η)) (fun _ h => h.tail) ?_
        refine TL_e rfl rfl rfl (rfl) (ET_call rfl YtlmbpdlobpcahaaDoorF.cal_30 rfl (clipS_spec w0 η H sv acc.length _ hF)) ?_
        rintro cv _ ⟨hF2, rfl⟩
        refine TL_q rfl rfl (QT_assign rfl rfl rfl) ?_
        refine TL_q rfl rfl (QT_assign rfl rfl rfl) ?_
        refine TL_nil ?_
        refine TX_then ?_
        refine TC_ret ?_
        obtain rfl : rest = [] := List.length_eq_zero_iff.1 (by omega)
        obtain ⟨e0, eo⟩ := errG_ok (ys := acc) hc hle (by rw [hgs, getS_nil]; simp)
        exact TX_ret (.inl rfl) (res2 rfl rfl rfl) ⟨_, ⟨cv, H, by rw [e0], by rw [eo]; exact hF2, rfl⟩, fun _ h => h⟩
end Go.Proofs.YtlmbpdlobpcahaaDoor

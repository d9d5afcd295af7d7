/- THE LAWS OF THE RECORDS that ask the document's answer. -/
import Derived.Test.YtjehicncbpljaaaDoorS09i
import Derived.Test.YtjehicncbpljaaaDoorG01e
import Derived.Test.YtjehicncbpljaaaDoorG09e
namespace Go.Proofs.YtjehicncbpljaaaDoor
open Go Go.Gx Go.RowKit
set_option maxRecDepth 100000
def mkBR : List Value := [.int .u8 171, .int .u8 171, .int .u8 171]
theorem twin_BytesR (w0 : Base) (η : Heap) (va : Value) (n : Nat) (xs : List Value) (ha : SlA (St w0 η) va 1 n xs) (hi : Ints (rep n byteK) xs) (hn : n ≤ 1000000) :
    CallsT Tryd.prog 10 [va] (St w0 η) fun v A' => ∃ b, v = .slice (some ⟨b, 0, none⟩) n (n + 3) ∧ A' = St w0 ((b, 5, xs ++ mkBR) :: η) := by
  refine CallsT.body Tryd.func10 rfl rfl ?_
  simp only [Tryd.ntmps10, slotsOf, Nat.reduceAdd]
  refine TC_seq ?_
  refine TC_reg ?_
  refine TL_q rfl rfl (QT_assign rfl rfl rfl) ?_
  refine TL_nil ?_
  refine TX_then ?_
  refine TC_seq ?_
  refine TC_reg ?_
  refine TL_q rfl rfl (QT_move rfl rfl rfl) ?_
  refine TL_e rfl rfl rfl (rfl) (ET_call rfl YtjehicncbpljaaaDoorF.cal_26 rfl (twin_Byte w0 _ va n xs 171 ha hi (by decide) hn)) ?_
  rintro _ _ ⟨b5, rfl, rfl⟩
  refine TL_q rfl rfl (QT_assign rfl rfl rfl) ?_
  refine TL_nil ?_
  refine TX_then ?_
  refine TC_ret ?_
  exact TX_ret (.inl rfl) (res1 rfl rfl) ⟨_, ⟨_, rfl, rfl⟩, (fun _ h => by first | exact h | exact h.tail | exact h.tail.tail | exact h.tail.tail.tail | exact h.tail.tail.tail.tail | exact h.tail.tail.tail.tail.tail | exact h.tail.tail.tail.tail.tail.tail | exact h.tail.tail.tail.tail.tail.tail.tail | exact h.tail.tail.tail.tail.tail.tail.tail.tail | exact h.tail.tail.tail.tail.tail.tail.tail.tail.tail | exact h.tail.tail.tail.tail.tail.tail.tail.tail.tail.tail | exact h.tail.tail.tail.tail.tail.tail.tail.tail.tail.tail.tail | exact h.tail.tail.tail.tail.tail.tail.tail.tail.tail.tail.tail.tail | exact h.tail.tail.tail.tail.tail.tail.tail.tail.tail.tail.tail.tail.tail)⟩
theorem left_BytesR (w0 : Base) (η : Heap) (va : Value) (b n : Nat) (xs : List Value) (ha : SlA (St w0 η) va 1 n xs) (hb : (b, 5, xs ++ mkBR) ∈ η) (hi : Ints (rep n byteK) xs) (hn : n ≤ 1000000) :
    CallsT Tryd.prog 16 [.slice (some ⟨b, 0, none⟩) n (n + 3), va] (St w0 η) fun v A' => v = .bool true ∧ A' = St w0 η := by
  refine CallsT.body Tryd.func16 rfl rfl ?_
  simp only [Tryd.ntmps16, slotsOf, Nat.reduceAdd]
  refine TC_seq ?_
  refine TC_reg ?_
  refine TL_q rfl rfl (QT_assign rfl rfl rfl) ?_
  refine TL_nil ?_
  refine TX_then ?_
  refine TC_seq ?_
  refine TC_reg ?_
  refine TL_q rfl rfl (QT_move rfl rfl rfl) ?_
  refine TL_q rfl rfl (QT_move rfl rfl rfl) ?_
  refine TL_cq rfl rfl rfl rfl YtjehicncbpljaaaDoorF.cal_37 rfl (fun _ => left_Byte w0 _ va b n xs 171 ha hb hi (by decide) hn) ?_
  refine TL_q rfl rfl (QT_assign rfl rfl rfl) ?_
  refine TL_nil ?_
  refine TX_then ?_
  refine TC_ret ?_
  exact TX_ret (.inl rfl) (res1 rfl rfl) ⟨_, ⟨rfl, rfl⟩, (fun _ h => by first | exact h | exact h.tail | exact h.tail.tail | exact h.tail.tail.tail | exact h.tail.tail.tail.tail | exact h.tail.tail.tail.tail.tail | exact h.tail.tail.tail.tail.tail.tail | exact h.tail.tail.tail.tail.tail.tail.tail | exact h.tail.tail.tail.tail.tail.tail.tail.tail | exact h.tail.tail.tail.tail.tail.tail.tail.tail.tail | exact h.tail.tail.tail.tail.tail.tail.tail.tail.tail.tail | exact h.tail.tail.tail.tail.tail.tail.tail.tail.tail.tail.tail | exact h.tail.tail.tail.tail.tail.tail.tail.tail.tail.tail.tail.tail | exact h.tail.tail.tail.tail.tail.tail.tail.tail.tail.tail.tail.tail.tail)⟩
theorem twinFragRR {e b n : Nat} {xs mk : List Value} (hx : xs.length = n * 7) (hm : mk.length = 7) (hn : n ≤ 1000000) : Frag e 7 (.slice (some ⟨b, 0, none⟩) n (n + 3)) n xs [(b, e, xs ++ (mk ++ (mk ++ mk)))] :=
  ⟨hx, .inr ⟨b, n + 3, mk ++ (mk ++ mk), rfl, ⟨by omega, by omega⟩, by simp only [List.length_append, hx, hm]; omega, rfl⟩⟩
theorem twinFragBR {b n : Nat} {xs : List Value} (hx : xs.length = n * 1) (hn : n ≤ 1000000) : Frag 5 1 (.slice (some ⟨b, 0, none⟩) n (n + 3)) n xs [(b, 5, xs ++ mkBR)] :=
  ⟨hx, .inr ⟨b, n + 3, mkBR, rfl, ⟨by omega, by omega⟩, by simp only [List.length_append, hx, mkBR, List.length_cons, List.length_nil]; omega, rfl⟩⟩
theorem newCellsR : Bk.new.cells = [.int .i64 0, .slice none 0 0, .slice none 0 0, .slice none 0 0, .slice none 0 0, .slice none 0 0, .slice none 0 0, .slice none 0 0, .slice none 0 0, .slice none 0 0, .slice none 0 0, .slice none 0 0, .slice none 0 0, .slice none 0 0] := rfl
theorem bytesR_ge {L : Lay} (hk : okB L = true) {rs : List (List Nat)} (h : ∀ r ∈ rs, RcF r) : rs.length ≤ (bytesR L rs).length := by
  rw [bytesR_len h]
  have := (szR_bd hk).1
  exact Nat.le_mul_of_pos_right _ (by omega)
theorem errRG_zero {L : Lay} {bs : List Nat} (h : errRG L bs = 0) : (okB L = true ∧ L.ty ≤ 5) ∧ bs.length ≤ 65536 ∧ bs.length % szR L = 0 ∧ outRG L bs = recsB L bs (bs.length / szR L) := by
  have h0 := h
  unfold errRG at h
  split at h
  · rename_i hc
    split at h
    · exact absurd h (by decide)
    · split at h
      · exact ⟨hc, by omega, by assumption, by unfold outRG; rw [if_pos h0]⟩
      · exact absurd h (by decide)
  · exact absurd h (by decide)
theorem outRG_rcf {L : Lay} {bs : List Nat} : ∀ r ∈ outRG L bs, RcF r := by
  intro r hr
  unfold outRG at hr
  split at hr
  · exact recsB_rcf r hr
  · exact absurd hr List.not_mem_nil
theorem outRG_len (L : Lay) (bs : List Nat) : (outRG L bs).length ≤ bs.length := by
  unfold outRG
  split
  · rw [recsB_len]; exact Nat.div_le_self _ _
  · exact Nat.zero_le _
theorem outRP_lt (L : Lay) (rs : List (List Nat)) : ∀ c ∈ outRP L rs, c < 256 := by
  intro c hc
  unfold outRP at hc
  split at hc
  · exact bytesR_lt L rs c hc
  · exact absurd hc List.not_mem_nil
theorem outRP_len (L : Lay) (rs : List (List Nat)) : (outRP L rs).length ≤ 65536 := by
  unfold outRP
  split
  · rename_i h
    unfold errRP at h
    split at h
    · split at h
      · split at h
        · exact absurd h (by decide)
        · omega
      · exact absurd h (by decide)
    · exact absurd h (by decide)
  · exact Nat.zero_le _
set_option maxHeartbeats 1000000 in
theorem law_recordsGet (w0 : Base) (η : Heap) (hG : Sets w0) (L : Lay) (bv : Value) (bs : List Nat) (hs : SlA (St w0 η) bv 1 bs.length (byV bs)) (hb : ∀ c ∈ bs, c < 256) (hl : bs.length ≤ 140737488355328) :
    CallsT Tryd.prog 3 [L.val, bv] (St w0 η) fun v A' => v = .bool true ∧ A' = St w0 η := by
  have hs0 := hs
  obtain ⟨hxl, ad, cap, rfl, hcap, hsr⟩ := hs
  have hs : ∀ X : Heap, SlA (St w0 (X ++ η)) (.slice ad bs.length cap) 1 bs.length (byV bs) := fun X => hs0.mono fun _ h => h.app_right
  have hi := byV_ints hb
  have hoi := flatR_ints (rs := outRG L bs) fun y hy => outRG_rcf y hy
  have hol := outRG_len L bs
  refine CallsT.body Tryd.func3 rfl rfl ?_
  simp only [Tryd.ntmps3, slotsOf, Nat.reduceAdd]
  refine TC_seq ?_
  refine TC_reg ?_
  refine TL_e rfl rfl rfl (rfl) (ET_box rfl rfl) ?_
  rintro _ _ ⟨b2, rfl, rfl⟩
  refine TL_q rfl rfl (QT_assign rfl rfl rfl) ?_
  refine TL_nil ?_
  refine TX_then ?_
  refine TC_seq ?_
  refine TC_seq ?_
  refine TC_reg ?_
  refine TL_q rfl rfl (QT_move rfl rfl rfl) ?_
  refine TL_q rfl rfl (QT_len rfl rfl Tryd.underlying28 rfl) ?_
  refine TL_q rfl rfl (QT_gtr rfl rfl rfl rfl) ?_
  refine TL_q rfl rfl (QT_move rfl rfl rfl) ?_
  refine TL_q rfl rfl (QT_move rfl rfl rfl) ?_
  refine TL_q rfl rfl (QT_len rfl rfl Tryd.underlying28 rfl) ?_
  refine TL_q rfl rfl (QT_leq rfl rfl rfl rfl) ?_
  refine TL_q rfl rfl (QT_and rfl rfl rfl rfl) ?_
  refine TL_q rfl rfl (QT_move rfl rfl rfl) ?_
  refine TL_q rfl rfl (QT_move rfl rfl rfl) ?_
  refine TL_q rfl rfl (QT_len rfl rfl Tryd.underlying28 rfl) ?_
  refine TL_q rfl rfl (QT_gtr rfl rfl rfl rfl) ?_
  refine TL_q rfl rfl (QT_or rfl rfl rfl rfl) ?_
  refine TL_nil ?_
  refine TX_then ?_
  first
    | refine TC_cond_dec rfl (fun h25 => ?_) (fun h25 => ?_)
    | refine TC_cond rfl (fun h25 => ?_) (fun h25 => ?_)
  ·
    refine TC_seq ?_
    refine TC_reg ?_
    refine TL_cq rfl rfl rfl rfl YtjehicncbpljaaaDoorF.cal_9 rfl (fun _ => lives09 w0 _ hG) ?_
    refine TL_q rfl rfl (QT_assign rfl rfl rfl) ?_
    refine TL_nil ?_
    refine TX_then ?_
    refine TC_ret ?_
    refine TX_then_ret ?_
    exact TX_ret (.inl rfl) (res1 rfl rfl) ⟨_, ⟨rfl, rfl⟩, (fun _ h => by first | exact h | exact h.tail | exact h.tail.tail | exact h.tail.tail.tail | exact h.tail.tail.tail.tail | exact h.tail.tail.tail.tail.tail | exact h.tail.tail.tail.tail.tail.tail | exact h.tail.tail.tail.tail.tail.tail.tail | exact h.tail.tail.tail.tail.tail.tail.tail.tail | exact h.tail.tail.tail.tail.tail.tail.tail.tail.tail | exact h.tail.tail.tail.tail.tail.tail.tail.tail.tail.tail | exact h.tail.tail.tail.tail.tail.tail.tail.tail.tail.tail.tail | exact h.tail.tail.tail.tail.tail.tail.tail.tail.tail.tail.tail.tail | exact h.tail.tail.tail.tail.tail.tail.tail.tail.tail.tail.tail.tail.tail)⟩
  ·
    refine TC_skip ?_
    refine TX_then ?_
    refine TC_seq ?_
    have hn : bs.length ≤ 70000 := by
      simp only [Bool.or_eq_false_iff, Bool.and_eq_false_iff, decide_eq_false_iff_not] at h25
      omega
    refine TC_reg ?_
    refine TL_q rfl rfl (QT_move rfl rfl rfl) ?_
    refine TL_e rfl rfl rfl (rfl) (ET_call rfl YtjehicncbpljaaaDoorF.cal_10 rfl (twin_BytesR w0 _ _ bs.length (byV bs) (hs [_]) hi (by omega))) ?_
    rintro _ _ ⟨bt, rfl, rfl⟩
    refine TL_q rfl rfl (QT_assign rfl rfl rfl) ?_
    refine TL_nil ?_
    refine TX_then ?_
    refine TC_seq ?_
    refine TC_reg ?_
    first
      | refine TL_q rfl rfl (QT_loadW 0 rfl rfl Tryd.underlying27 rfl rfl rfl YtjehicncbpljaaaDoorF.sz_27) ?_
      | refine TL_q rfl rfl (QT_loadW 1 rfl rfl Tryd.underlying27 rfl rfl rfl YtjehicncbpljaaaDoorF.sz_27) ?_
      | refine TL_q rfl rfl (QT_loadW 2 rfl rfl Tryd.underlying27 rfl rfl rfl YtjehicncbpljaaaDoorF.sz_27) ?_
      | refine TL_q rfl rfl (QT_loadA 0 rfl rfl Tryd.underlying27 rfl rfl rfl YtjehicncbpljaaaDoorF.sz_27 (fun _ => rfl)) ?_
      | refine TL_q rfl rfl (QT_loadA 1 rfl rfl Tryd.underlying27 rfl rfl rfl YtjehicncbpljaaaDoorF.sz_27 (fun _ => rfl)) ?_
      | refine TL_q rfl rfl (QT_loadA 2 rfl rfl Tryd.underlying27 rfl rfl rfl YtjehicncbpljaaaDoorF.sz_27 (fun _ => rfl)) ?_
    refine TL_q rfl rfl (QT_move rfl rfl rfl) ?_
    refine TL_e rfl rfl rfl (rfl) (ET_call rfl YtjehicncbpljaaaDoorF.cal_11 rfl (rget0_spec w0 _ hG L _ bs ((twinFragBR hxl (by omega)).within fun p => by simp only [List.countP_cons, List.countP_nil]; omega) hb (by omega))) ?_
    rintro _ _ ⟨pv, H1, rfl, hF1, rfl⟩
    refine TL_q rfl rfl (QT_move rfl rfl rfl) ?_
    refine TL_q rfl rfl (QT_extract rfl rfl rfl rfl) ?_
    refine TL_q rfl rfl (QT_extract rfl rfl rfl rfl) ?_
    refine TL_q rfl rfl (QT_assign rfl rfl rfl) ?_
    refine TL_q rfl rfl (QT_assign rfl rfl rfl) ?_
    refine TL_nil ?_
    refine TX_then ?_
    refine TC_seq ?_
    refine TC_A (St w0 ((b2, 27, L.val.cells.toList) :: (bt, 5, byV bs ++ mkBR) :: (H1 ++ η))) (fun _ h => h.cnt fun p => by simp only [List.countP_append, List.countP_cons]; omega) ?_
    refine TC_reg ?_
    first
      | refine TL_q rfl rfl (QT_loadW 0 rfl rfl Tryd.underlying27 rfl rfl rfl YtjehicncbpljaaaDoorF.sz_27) ?_
      | refine TL_q rfl rfl (QT_loadW 1 rfl rfl Tryd.underlying27 rfl rfl rfl YtjehicncbpljaaaDoorF.sz_27) ?_
      | refine TL_q rfl rfl (QT_loadW 2 rfl rfl Tryd.underlying27 rfl rfl rfl YtjehicncbpljaaaDoorF.sz_27) ?_
      | refine TL_q rfl rfl (QT_loadA 0 rfl rfl Tryd.underlying27 rfl rfl rfl YtjehicncbpljaaaDoorF.sz_27 (fun _ => rfl)) ?_
      | refine TL_q rfl rfl (QT_loadA 1 rfl rfl Tryd.underlying27 rfl rfl rfl YtjehicncbpljaaaDoorF.sz_27 (fun _ => rfl)) ?_
      | refine TL_q rfl rfl (QT_loadA 2 rfl rfl Tryd.underlying27 rfl rfl rfl YtjehicncbpljaaaDoorF.sz_27 (fun _ => rfl)) ?_
    refine TL_q rfl rfl (QT_move rfl rfl rfl) ?_
    refine TL_e rfl rfl rfl (rfl) (ET_call rfl YtjehicncbpljaaaDoorF.cal_12 rfl (rrget_spec w0 _ L _ bs (hs (_ :: _ :: H1)) hb (by omega))) ?_
    rintro _ _ ⟨qv, H2, rfl, hF2, rfl⟩
    refine TL_q rfl rfl (QT_move rfl rfl rfl) ?_
    refine TL_q rfl rfl (QT_extract rfl rfl rfl rfl) ?_
    refine TL_q rfl rfl (QT_extract rfl rfl rfl rfl) ?_
    refine TL_q rfl rfl (QT_assign rfl rfl rfl) ?_
    refine TL_q rfl rfl (QT_assign rfl rfl rfl) ?_
    refine TL_nil ?_
    refine TX_then ?_
    refine TC_seq ?_
    refine TC_A (St w0 ((b2, 27, L.val.cells.toList) :: (bt, 5, byV bs ++ mkBR) :: (H1 ++ (H2 ++ η)))) (fun _ h => h.cnt fun p => by simp only [List.countP_append, List.countP_cons]; omega) ?_
    refine TC_reg ?_
    first
      | refine TL_q rfl rfl (QT_loadW 0 rfl rfl Tryd.underlying27 rfl rfl rfl YtjehicncbpljaaaDoorF.sz_27) ?_
      | refine TL_q rfl rfl (QT_loadW 1 rfl rfl Tryd.underlying27 rfl rfl rfl YtjehicncbpljaaaDoorF.sz_27) ?_
      | refine TL_q rfl rfl (QT_loadW 2 rfl rfl Tryd.underlying27 rfl rfl rfl YtjehicncbpljaaaDoorF.sz_27) ?_
      | refine TL_q rfl rfl (QT_loadA 0 rfl rfl Tryd.underlying27 rfl rfl rfl YtjehicncbpljaaaDoorF.sz_27 (fun _ => rfl)) ?_
      | refine TL_q rfl rfl (QT_loadA 1 rfl rfl Tryd.underlying27 rfl rfl rfl YtjehicncbpljaaaDoorF.sz_27 (fun _ => rfl)) ?_
      | refine TL_q rfl rfl (QT_loadA 2 rfl rfl Tryd.underlying27 rfl rfl rfl YtjehicncbpljaaaDoorF.sz_27 (fun _ => rfl)) ?_
    refine TL_q rfl rfl (QT_move rfl rfl rfl) ?_
    refine TL_e rfl rfl rfl (rfl) (ET_call rfl YtjehicncbpljaaaDoorF.cal_11 rfl (rget0_spec w0 _ hG L _ bs ((twinFragBR hxl (by omega)).within fun p => by simp only [List.countP_append, List.countP_cons, List.countP_nil]; omega) hb (by omega))) ?_
    rintro _ _ ⟨ov, H3, rfl, hF3, rfl⟩
    refine TL_q rfl rfl (QT_move rfl rfl rfl) ?_
    refine TL_q rfl rfl (QT_extract rfl rfl rfl rfl) ?_
    refine TL_q rfl rfl (QT_extract rfl rfl rfl rfl) ?_
    refine TL_q rfl rfl (QT_assign rfl rfl rfl) ?_
    refine TL_q rfl rfl (QT_assign rfl rfl rfl) ?_
    refine TL_nil ?_
    refine TX_then ?_
    refine TC_seq ?_
    refine TC_A (St w0 ((bt, 5, byV bs ++ mkBR) :: (H1 ++ (H2 ++ (H3 ++ η))))) (fun _ h => h.cnt fun p => by simp only [List.countP_append, List.countP_cons]; omega) ?_
    obtain ⟨pad, pcap, hpv, _, _⟩ := hF1.slice
    obtain ⟨oad, ocap, hov, _, _⟩ := hF3.slice
    refine TC_reg ?_
    refine TL_q rfl rfl (QT_build rfl rfl YtjehicncbpljaaaDoorF.zero_49 YtjehicncbpljaaaDoorF.pl_49 rfl rfl rfl) ?_
    refine TL_e rfl rfl rfl (rfl) (ET_alloc rfl YtjehicncbpljaaaDoorF.zero_49) ?_
    rintro _ _ ⟨b12, rfl, rfl⟩
    first
      | refine TL_e0 rfl rfl (rfl) (ET_storeW 0 rfl rfl rfl YtjehicncbpljaaaDoorF.sz_49 rfl rfl rfl) ?_
      | refine TL_e0 rfl rfl (rfl) (ET_storeW 1 rfl rfl rfl YtjehicncbpljaaaDoorF.sz_49 rfl rfl rfl) ?_
      | refine TL_e0 rfl rfl (rfl) (ET_storeW 2 rfl rfl rfl YtjehicncbpljaaaDoorF.sz_49 rfl rfl rfl) ?_
      | refine TL_e0 rfl rfl (rfl) (ET_store 0 rfl rfl rfl rfl YtjehicncbpljaaaDoorF.sz_49 rfl rfl rfl) ?_
      | refine TL_e0 rfl rfl (rfl) (ET_store 1 rfl rfl rfl rfl YtjehicncbpljaaaDoorF.sz_49 rfl rfl rfl) ?_
      | refine TL_e0 rfl rfl (rfl) (ET_store 2 rfl rfl rfl rfl YtjehicncbpljaaaDoorF.sz_49 rfl rfl rfl) ?_
    rintro _ _ ⟨rfl, rfl⟩
    refine TL_nil ?_
    refine TX_then ?_
    refine TC_seq ?_
    refine TC_reg ?_
    refine TL_q rfl rfl (QT_move rfl rfl rfl) ?_
    refine TL_A (St w0 ((b12, 49, Bk.new.cells) :: ([] ++ ((bt, 5, byV bs ++ mkBR) :: (H1 ++ (H2 ++ (H3 ++ η))))))) (fun w h => by rw [newCellsR]; exact h) ?_
    refine TL_e rfl rfl rfl (rfl) (ET_call rfl YtjehicncbpljaaaDoorF.cal_13 rfl (book_Bytes w0 _ [] b12 Bk.new [] _ bs.length (byV bs) [(bt, 5, byV bs ++ mkBR)] (by decide) (Frag.nil _ _) (fun s h => by cases h) (Nat.zero_le _) ⟨_, _, _, rfl⟩)) ?_
    rintro _ _ ⟨r1, HS, hFS, rfl⟩
    refine TL_nil ?_
    refine TX_then ?_
    refine TC_seq ?_
    refine TC_reg ?_
    refine TL_q rfl rfl (QT_move rfl rfl rfl) ?_
    refine TL_e rfl rfl rfl (rfl) (ET_call rfl YtjehicncbpljaaaDoorF.cal_14 rfl (book_Recs w0 (HS ++ _) [] b12 { Bk.new with many := 0 + 1, bytes := r1 } [] pv (outRG L bs).length (flatR (outRG L bs)) H1 (by dsimp only; omega) (Frag.nil _ _) (fun s h => by cases h) (Nat.zero_le _) ⟨_, _, _, hpv⟩)) ?_
    rintro _ _ ⟨r2, HT, hFT, rfl⟩
    refine TL_nil ?_
    refine TX_then ?_
    refine TC_seq ?_
    refine TC_reg ?_
    refine TL_q rfl rfl (QT_move rfl rfl rfl) ?_
    refine TL_e rfl rfl rfl (rfl) (ET_call rfl YtjehicncbpljaaaDoorF.cal_14 rfl (book_Recs w0 (HS ++ _) HT b12 { Bk.new with many := 0 + 1 + 1, bytes := r1, recs := r2 } [⟨pv, (outRG L bs).length, flatR (outRG L bs), nilS, rcMark (0 + 1 + 1), H1⟩] ov (outRG L bs).length (flatR (outRG L bs)) H3 (by dsimp only; omega) hFT (fun s h => by
     cases List.mem_singleton.1 h
     exact ⟨hF1, rcMark_ints (by decide), by show (outRG L bs).length ≤ 2000000; omega⟩) (by simp) ⟨_, _, _, hov⟩)) ?_
    rintro _ _ ⟨r3, HT2, hFT2, rfl⟩
    refine TL_nil ?_
    refine TX_then ?_
    refine TC_seq ?_
    refine TC_reg ?_
    refine TL_q rfl rfl (QT_move rfl rfl rfl) ?_
    refine TL_q rfl rfl (QT_move rfl rfl rfl) ?_
    refine TL_q rfl rfl (QT_eql rfl rfl rfl rfl) ?_
    refine TL_q rfl rfl (QT_move rfl rfl rfl) ?_
    refine TL_q rfl rfl (QT_move rfl rfl rfl) ?_
    refine TL_q rfl rfl (QT_move rfl rfl rfl) ?_
    refine TL_cq rfl rfl rfl rfl YtjehicncbpljaaaDoorF.cal_15 rfl (fun _ => sameOk_RecsR w0 _ pv qv (outRG L bs).length (flatR (outRG L bs)) (hF1.within fun p => by simp only [List.countP_append, List.countP_cons]; omega) (hF2.within fun p => by simp only [List.countP_append, List.countP_cons]; omega) hoi) ?_
    refine TL_q rfl rfl (QT_and rfl rfl rfl rfl) ?_
    refine TL_q rfl rfl (QT_move rfl rfl rfl) ?_
    refine TL_q rfl rfl (QT_move rfl rfl rfl) ?_
    refine TL_q rfl rfl (QT_move rfl rfl rfl) ?_
    refine TL_cq rfl rfl rfl rfl YtjehicncbpljaaaDoorF.cal_16 rfl (fun _ => left_BytesR w0 _ _ bt bs.length (byV bs) ((hs []).mono fun _ h => h.cnt fun p => by simp only [List.countP_append, List.countP_cons, List.countP_nil]; omega) (by simp) hi (by omega)) ?_
    refine TL_q rfl rfl (QT_and rfl rfl rfl rfl) ?_
    refine TL_q rfl rfl (QT_move rfl rfl rfl) ?_
    refine TL_A (St w0 ((b12, 49, Bk.cells { Bk.new with many := 0 + 1 + 1 + 1, bytes := r1, recs := r3 }) :: (HS ++ (HT2 ++ (heapOf [⟨.slice (some ⟨bt, 0, none⟩) bs.length (bs.length + 3), bs.length, byV bs, nilS, [.int .u8 (0 + 1)], [(bt, 5, byV bs ++ mkBR)]⟩] ++ (heapOf [⟨pv, (outRG L bs).length, flatR (outRG L bs), nilS, rcMark (0 + 1 + 1), H1⟩, ⟨ov, (outRG L bs).length, flatR (outRG L bs), nilS, rcMark (0 + 1 + 1 + 1), H3⟩] ++ η)))))) (fun _ h => h.cnt fun p => by simp only [heapOf, List.map_cons, List.map_nil, List.flatten_cons, List.flatten_nil, List.countP_append, List.countP_cons, List.countP_nil]; omega) ?_
    refine TL_e rfl rfl rfl ((by simp)) (ET_call rfl YtjehicncbpljaaaDoorF.cal_17 rfl (apart_spec w0 η b12 { Bk.new with many := 0 + 1 + 1 + 1, bytes := r1, recs := r3 } (by dsimp only; omega) _ HS hFS (fun s h => by
     cases List.mem_singleton.1 h
     exact ⟨twinFragBR hxl (by omega), .cons (by decide) .nil, by show bs.length ≤ 2000000; omega⟩) _ HT2 hFT2 (fun s h => by
     rcases List.mem_cons.1 h with rfl | h
     · exact ⟨hF1, rcMark_ints (by decide), by show (outRG L bs).length ≤ 2000000; omega⟩
     · cases List.mem_singleton.1 h
       exact ⟨hF3, rcMark_ints (by decide), by show (outRG L bs).length ≤ 2000000; omega⟩) rfl rfl rfl rfl rfl rfl rfl rfl rfl rfl rfl)) ?_
    rintro _ _ ⟨rfl, rfl⟩
    refine TL_q rfl rfl (QT_and rfl rfl rfl rfl) ?_
    refine TL_q rfl rfl (QT_move rfl rfl rfl) ?_
    refine TL_cq rfl rfl rfl rfl YtjehicncbpljaaaDoorF.cal_9 rfl (fun _ => lives09 w0 _ hG) ?_
    refine TL_q rfl rfl (QT_and rfl rfl rfl rfl) ?_
    refine TL_q rfl rfl (QT_assign rfl rfl rfl) ?_
    refine TL_nil ?_
    refine TX_then ?_
    refine TC_ret ?_
    exact TX_ret (.inl rfl) (res1 rfl rfl) ⟨_, ⟨by simp, rfl⟩, fun _ h => h⟩
set_option maxHeartbeats 1000000 in
theorem law_recordsPut (w0 : Base) (η : Heap) (hG : Sets w0) (L : Lay) (sv : Value) (ys : List (List Nat)) (hs : SlA (St w0 η) sv 7 ys.length (flatR ys)) (hy : ∀ y ∈ ys, RcF y) :
    CallsT Tryd.prog 4 [L.val, sv] (St w0 η) fun v A' => v = .bool true ∧ A' = St w0 η := by
  have hs0 := hs
  obtain ⟨hxl, ad, cap, rfl, hcap, hsr⟩ := hs
  have hs : ∀ X : Heap, SlA (St w0 (X ++ η)) (.slice ad ys.length cap) 7 ys.length (flatR ys) := fun X => hs0.mono fun _ h => h.app_right
  have hml : mark_Rec.length = 7 := rfl
  have hi := flatR_ints hy
  have hoi := byV_ints (outRP_lt L ys)
  have hol := outRP_len L ys
  refine CallsT.body Tryd.func4 rfl rfl ?_
  simp only [Tryd.ntmps4, slotsOf, Nat.reduceAdd]
  refine TC_seq ?_
  refine TC_reg ?_
  refine TL_e rfl rfl rfl (rfl) (ET_box rfl rfl) ?_
  rintro _ _ ⟨b2, rfl, rfl⟩
  refine TL_q rfl rfl (QT_assign rfl rfl rfl) ?_
  refine TL_nil ?_
  refine TX_then ?_
  refine TC_seq ?_
  refine TC_seq ?_
  refine TC_reg ?_
  refine TL_q rfl rfl (QT_move rfl rfl rfl) ?_
  refine TL_q rfl rfl (QT_len rfl rfl Tryd.underlying31 rfl) ?_
  refine TL_q rfl rfl (QT_gtr rfl rfl rfl rfl) ?_
  refine TL_nil ?_
  refine TX_then ?_
  first
    | refine TC_cond_dec rfl (fun h13 => ?_) (fun h13 => ?_)
    | refine TC_cond rfl (fun h13 => ?_) (fun h13 => ?_)
  ·
    refine TC_seq ?_
    refine TC_reg ?_
    refine TL_cq rfl rfl rfl rfl YtjehicncbpljaaaDoorF.cal_9 rfl (fun _ => lives09 w0 _ hG) ?_
    refine TL_q rfl rfl (QT_assign rfl rfl rfl) ?_
    refine TL_nil ?_
    refine TX_then ?_
    refine TC_ret ?_
    refine TX_then_ret ?_
    exact TX_ret (.inl rfl) (res1 rfl rfl) ⟨_, ⟨rfl, rfl⟩, (fun _ h => by first | exact h | exact h.tail | exact h.tail.tail | exact h.tail.tail.tail | exact h.tail.tail.tail.tail | exact h.tail.tail.tail.tail.tail | exact h.tail.tail.tail.tail.tail.tail | exact h.tail.tail.tail.tail.tail.tail.tail | exact h.tail.tail.tail.tail.tail.tail.tail.tail | exact h.tail.tail.tail.tail.tail.tail.tail.tail.tail | exact h.tail.tail.tail.tail.tail.tail.tail.tail.tail.tail | exact h.tail.tail.tail.tail.tail.tail.tail.tail.tail.tail.tail | exact h.tail.tail.tail.tail.tail.tail.tail.tail.tail.tail.tail.tail | exact h.tail.tail.tail.tail.tail.tail.tail.tail.tail.tail.tail.tail.tail)⟩
  ·
    refine TC_skip ?_
    refine TX_then ?_
    refine TC_seq ?_
    have hn : ys.length ≤ 400 := by omega
    refine TC_reg ?_
    refine TL_q rfl rfl (QT_move rfl rfl rfl) ?_
    refine TL_e rfl rfl rfl (rfl) (ET_call rfl YtjehicncbpljaaaDoorF.cal_18 rfl (twin_Recs w0 _ _ ys.length (flatR ys) (hs [_]) hi (by omega))) ?_
    rintro _ _ ⟨bt, rfl, rfl⟩
    refine TL_q rfl rfl (QT_assign rfl rfl rfl) ?_
    refine TL_nil ?_
    refine TX_then ?_
    refine TC_seq ?_
    refine TC_reg ?_
    first
      | refine TL_q rfl rfl (QT_loadW 0 rfl rfl Tryd.underlying27 rfl rfl rfl YtjehicncbpljaaaDoorF.sz_27) ?_
      | refine TL_q rfl rfl (QT_loadW 1 rfl rfl Tryd.underlying27 rfl rfl rfl YtjehicncbpljaaaDoorF.sz_27) ?_
      | refine TL_q rfl rfl (QT_loadW 2 rfl rfl Tryd.underlying27 rfl rfl rfl YtjehicncbpljaaaDoorF.sz_27) ?_
      | refine TL_q rfl rfl (QT_loadA 0 rfl rfl Tryd.underlying27 rfl rfl rfl YtjehicncbpljaaaDoorF.sz_27 (fun _ => rfl)) ?_
      | refine TL_q rfl rfl (QT_loadA 1 rfl rfl Tryd.underlying27 rfl rfl rfl YtjehicncbpljaaaDoorF.sz_27 (fun _ => rfl)) ?_
      | refine TL_q rfl rfl (QT_loadA 2 rfl rfl Tryd.underlying27 rfl rfl rfl YtjehicncbpljaaaDoorF.sz_27 (fun _ => rfl)) ?_
    refine TL_q rfl rfl (QT_move rfl rfl rfl) ?_
    refine TL_e rfl rfl rfl (rfl) (ET_call rfl YtjehicncbpljaaaDoorF.cal_19 rfl (rput0_spec w0 _ hG L _ ys ((twinFragRR (e := 67) hxl hml (by omega)).within fun p => by simp only [List.countP_cons, List.countP_nil]; omega) hy (by omega))) ?_
    rintro _ _ ⟨pv, H1, rfl, hF1, rfl⟩
    refine TL_q rfl rfl (QT_move rfl rfl rfl) ?_
    refine TL_q rfl rfl (QT_extract rfl rfl rfl rfl) ?_
    refine TL_q rfl rfl (QT_extract rfl rfl rfl rfl) ?_
    refine TL_q rfl rfl (QT_assign rfl rfl rfl) ?_
    refine TL_q rfl rfl (QT_assign rfl rfl rfl) ?_
    refine TL_nil ?_
    refine TX_then ?_
    refine TC_seq ?_
    refine TC_A (St w0 ((b2, 27, L.val.cells.toList) :: (bt, 67, flatR ys ++ (mark_Rec ++ (mark_Rec ++ mark_Rec))) :: (H1 ++ η))) (fun _ h => h.cnt fun p => by simp only [List.countP_append, List.countP_cons]; omega) ?_
    refine TC_reg ?_
    first
      | refine TL_q rfl rfl (QT_loadW 0 rfl rfl Tryd.underlying27 rfl rfl rfl YtjehicncbpljaaaDoorF.sz_27) ?_
      | refine TL_q rfl rfl (QT_loadW 1 rfl rfl Tryd.underlying27 rfl rfl rfl YtjehicncbpljaaaDoorF.sz_27) ?_
      | refine TL_q rfl rfl (QT_loadW 2 rfl rfl Tryd.underlying27 rfl rfl rfl YtjehicncbpljaaaDoorF.sz_27) ?_
      | refine TL_q rfl rfl (QT_loadA 0 rfl rfl Tryd.underlying27 rfl rfl rfl YtjehicncbpljaaaDoorF.sz_27 (fun _ => rfl)) ?_
      | refine TL_q rfl rfl (QT_loadA 1 rfl rfl Tryd.underlying27 rfl rfl rfl YtjehicncbpljaaaDoorF.sz_27 (fun _ => rfl)) ?_
      | refine TL_q rfl rfl (QT_loadA 2 rfl rfl Tryd.underlying27 rfl rfl rfl YtjehicncbpljaaaDoorF.sz_27 (fun _ => rfl)) ?_
    refine TL_q rfl rfl (QT_move rfl rfl rfl) ?_
    refine TL_e rfl rfl rfl (rfl) (ET_call rfl YtjehicncbpljaaaDoorF.cal_20 rfl (rrput_spec w0 _ L _ ys (hs (_ :: _ :: H1)) hy (by omega))) ?_
    rintro _ _ ⟨qv, H2, rfl, hF2, rfl⟩
    refine TL_q rfl rfl (QT_move rfl rfl rfl) ?_
    refine TL_q rfl rfl (QT_extract rfl rfl rfl rfl) ?_
    refine TL_q rfl rfl (QT_extract rfl rfl rfl rfl) ?_
    refine TL_q rfl rfl (QT_assign rfl rfl rfl) ?_
    refine TL_q rfl rfl (QT_assign rfl rfl rfl) ?_
    refine TL_nil ?_
    refine TX_then ?_
    refine TC_seq ?_
    refine TC_A (St w0 ((bt, 67, flatR ys ++ (mark_Rec ++ (mark_Rec ++ mark_Rec))) :: (H1 ++ (H2 ++ η)))) (fun _ h => h.cnt fun p => by simp only [List.countP_append, List.countP_cons]; omega) ?_
    obtain ⟨pad, pcap, hpv, _, _⟩ := hF1.slice
    refine TC_reg ?_
    refine TL_q rfl rfl (QT_build rfl rfl YtjehicncbpljaaaDoorF.zero_49 YtjehicncbpljaaaDoorF.pl_49 rfl rfl rfl) ?_
    refine TL_e rfl rfl rfl (rfl) (ET_alloc rfl YtjehicncbpljaaaDoorF.zero_49) ?_
    rintro _ _ ⟨b10, rfl, rfl⟩
    first
      | refine TL_e0 rfl rfl (rfl) (ET_storeW 0 rfl rfl rfl YtjehicncbpljaaaDoorF.sz_49 rfl rfl rfl) ?_
      | refine TL_e0 rfl rfl (rfl) (ET_storeW 1 rfl rfl rfl YtjehicncbpljaaaDoorF.sz_49 rfl rfl rfl) ?_
      | refine TL_e0 rfl rfl (rfl) (ET_storeW 2 rfl rfl rfl YtjehicncbpljaaaDoorF.sz_49 rfl rfl rfl) ?_
      | refine TL_e0 rfl rfl (rfl) (ET_store 0 rfl rfl rfl rfl YtjehicncbpljaaaDoorF.sz_49 rfl rfl rfl) ?_
      | refine TL_e0 rfl rfl (rfl) (ET_store 1 rfl rfl rfl rfl YtjehicncbpljaaaDoorF.sz_49 rfl rfl rfl) ?_
      | refine TL_e0 rfl rfl (rfl) (ET_store 2 rfl rfl rfl rfl YtjehicncbpljaaaDoorF.sz_49 rfl rfl rfl) ?_
    rintro _ _ ⟨rfl, rfl⟩
    refine TL_nil ?_
    refine TX_then ?_
    refine TC_seq ?_
    refine TC_reg ?_
    refine TL_q rfl rfl (QT_move rfl rfl rfl) ?_
    refine TL_A (St w0 ((b10, 49, Bk.new.cells) :: ([] ++ ((bt, 67, flatR ys ++ (mark_Rec ++ (mark_Rec ++ mark_Rec))) :: (H1 ++ (H2 ++ η)))))) (fun w h => by rw [newCellsR]; exact h) ?_
    refine TL_e rfl rfl rfl (rfl) (ET_call rfl YtjehicncbpljaaaDoorF.cal_14 rfl (book_Recs w0 _ [] b10 Bk.new [] _ ys.length (flatR ys) [(bt, 67, flatR ys ++ (mark_Rec ++ (mark_Rec ++ mark_Rec)))] (by decide) (Frag.nil _ _) (fun s h => by cases h) (Nat.zero_le _) ⟨_, _, _, rfl⟩)) ?_
    rintro _ _ ⟨r1, HS, hFS, rfl⟩
    refine TL_nil ?_
    refine TX_then ?_
    refine TC_seq ?_
    refine TC_reg ?_
    refine TL_q rfl rfl (QT_move rfl rfl rfl) ?_
    refine TL_e rfl rfl rfl (rfl) (ET_call rfl YtjehicncbpljaaaDoorF.cal_13 rfl (book_Bytes w0 (HS ++ _) [] b10 { Bk.new with many := 0 + 1, recs := r1 } [] pv (outRP L ys).length (byV (outRP L ys)) H1 (by dsimp only; omega) (Frag.nil _ _) (fun s h => by cases h) (Nat.zero_le _) ⟨_, _, _, hpv⟩)) ?_
    rintro _ _ ⟨r2, HT, hFT, rfl⟩
    refine TL_nil ?_
    refine TX_then ?_
    refine TC_seq ?_
    refine TC_reg ?_
    refine TL_q rfl rfl (QT_move rfl rfl rfl) ?_
    refine TL_q rfl rfl (QT_move rfl rfl rfl) ?_
    refine TL_q rfl rfl (QT_eql rfl rfl rfl rfl) ?_
    refine TL_q rfl rfl (QT_move rfl rfl rfl) ?_
    refine TL_q rfl rfl (QT_move rfl rfl rfl) ?_
    refine TL_q rfl rfl (QT_move rfl rfl rfl) ?_
    refine TL_cq rfl rfl rfl rfl YtjehicncbpljaaaDoorF.cal_21 rfl (fun _ => sameOk_Bytes w0 _ pv qv (outRP L ys).length (byV (outRP L ys)) (hF1.within fun p => by simp only [List.countP_append, List.countP_cons]; omega) (hF2.within fun p => by simp only [List.countP_append, List.countP_cons]; omega) hoi) ?_
    refine TL_q rfl rfl (QT_and rfl rfl rfl rfl) ?_
    refine TL_q rfl rfl (QT_move rfl rfl rfl) ?_
    refine TL_q rfl rfl (QT_move rfl rfl rfl) ?_
    refine TL_q rfl rfl (QT_move rfl rfl rfl) ?_
    refine TL_cq rfl rfl rfl rfl YtjehicncbpljaaaDoorF.cal_22 rfl (fun _ => left_Recs w0 _ _ bt ys.length (flatR ys) ((hs []).mono fun _ h => h.cnt fun p => by simp only [List.countP_append, List.countP_cons, List.countP_nil]; omega) (by simp) hi (by omega)) ?_
    refine TL_q rfl rfl (QT_and rfl rfl rfl rfl) ?_
    refine TL_q rfl rfl (QT_move rfl rfl rfl) ?_
    refine TL_A (St w0 ((b10, 49, Bk.cells { Bk.new with many := 0 + 1 + 1, recs := r1, bytes := r2 }) :: (HT ++ (HS ++ (heapOf [⟨pv, (outRP L ys).length, byV (outRP L ys), nilS, [.int .u8 (0 + 1 + 1)], H1⟩] ++ (heapOf [⟨.slice (some ⟨bt, 0, none⟩) ys.length (ys.length + 3), ys.length, flatR ys, nilS, rcMark (0 + 1), [(bt, 67, flatR ys ++ (mark_Rec ++ (mark_Rec ++ mark_Rec)))]⟩] ++ η)))))) (fun _ h => h.cnt fun p => by simp only [heapOf, List.map_cons, List.map_nil, List.flatten_cons, List.flatten_nil, List.countP_append, List.countP_cons, List.countP_nil]; omega) ?_
    refine TL_e rfl rfl rfl ((by simp)) (ET_call rfl YtjehicncbpljaaaDoorF.cal_17 rfl (apart_spec w0 η b10 { Bk.new with many := 0 + 1 + 1, recs := r1, bytes := r2 } (by dsimp only; omega) _ HT hFT (fun s h => by
     cases List.mem_singleton.1 h
     exact ⟨hF1, .cons (show (Lit.int .u8 (0 + 1 + 1)).wf = true by decide) .nil, by show (outRP L ys).length ≤ 2000000; omega⟩) _ HS hFS (fun s h => by
     cases List.mem_singleton.1 h
     exact ⟨twinFragRR hxl hml (by omega), rcMark_ints (by decide), by show ys.length ≤ 2000000; omega⟩) rfl rfl rfl rfl rfl rfl rfl rfl rfl rfl rfl)) ?_
    rintro _ _ ⟨rfl, rfl⟩
    refine TL_q rfl rfl (QT_and rfl rfl rfl rfl) ?_
    refine TL_q rfl rfl (QT_move rfl rfl rfl) ?_
    refine TL_cq rfl rfl rfl rfl YtjehicncbpljaaaDoorF.cal_9 rfl (fun _ => lives09 w0 _ hG) ?_
    refine TL_q rfl rfl (QT_and rfl rfl rfl rfl) ?_
    refine TL_q rfl rfl (QT_assign rfl rfl rfl) ?_
    refine TL_nil ?_
    refine TX_then ?_
    refine TC_ret ?_
    exact TX_ret (.inl rfl) (res1 rfl rfl) ⟨_, ⟨by simp, rfl⟩, fun _ h => h⟩
end Go.Proofs.YtjehicncbpljaaaDoor

/- THE LAWS OF THE SHEETS that ask the document's answer. -/
import Derived.Test.YtlmbpdlobpcahaaDoorS11l
import Derived.Test.YtlmbpdlobpcahaaDoorS11k
import Derived.Test.YtlmbpdlobpcahaaDoorS11o
import Derived.Test.YtlmbpdlobpcahaaDoorG11e
namespace Go.Proofs.YtlmbpdlobpcahaaDoor
open Go Go.Gx Go.RowKit
set_option maxRecDepth 100000
def mkB : List Value := [.int .u8 171, .int .u8 171, .int .u8 171]
theorem twin_Bytes (w0 : World) (η : Heap) (va : Value) (n : Nat) (xs : List Value) (ha : SlA (St w0 η) va 1 n xs) (hi : Ints (rep n byteK) xs) (hn : n ≤ 1000000) :
    CallsT Tryd.prog 10 [va] (St w0 η) fun v A' => ∃ b, v = .slice (some ⟨b, 0, none⟩) n (n + 3) ∧ A' = St w0 ((b, 5, xs ++ mkB) :: η) := by
  refine CallsT.body Tryd.func10 rfl rfl ?_
  simp only [Tryd.ntmps10, slotsOf, Nat.reduceAdd]
  refine TC_seq ?_
  refine TC_reg ?_
  refine TL_q rfl rfl (QT_assign rfl rfl rfl) ?_
  refine TL_nil ?_
  refine TX_then ?_
  refine TC_seq ?_
  refine TC_reg ?_
  refine TL_q rfl rfl (QT_move rfl rfl rfl) ?_
  refine TL_e rfl rfl rfl (rfl) (ET_call rfl YtlmbpdlobpcahaaDoorF.cal_27 rfl (twin_Byte w0 _ va n xs 171 ha hi (by decide) hn)) ?_
  rintro _ _ ⟨b5, rfl, rfl⟩
  refine TL_q rfl rfl (QT_assign rfl rfl rfl) ?_
  refine TL_nil ?_
  refine TX_then ?_
  refine TC_ret ?_
  exact TX_ret (.inl rfl) (res1 rfl rfl) ⟨_, ⟨_, rfl, rfl⟩, (fun _ h => by first | exact h | exact h.tail | exact h.tail.tail | exact h.tail.tail.tail | exact h.tail.tail.tail.tail | exact h.tail.tail.tail.tail.tail | exact h.tail.tail.tail.tail.tail.tail | exact h.tail.tail.tail.tail.tail.tail.tail | exact h.tail.tail.tail.tail.tail.tail.tail.tail | exact h.tail.tail.tail.tail.tail.tail.tail.tail.tail | exact h.tail.tail.tail.tail.tail.tail.tail.tail.tail.tail | exact h.tail.tail.tail.tail.tail.tail.tail.tail.tail.tail.tail | exact h.tail.tail.tail.tail.tail.tail.tail.tail.tail.tail.tail.tail | exact h.tail.tail.tail.tail.tail.tail.tail.tail.tail.tail.tail.tail.tail)⟩
theorem left_Bytes (w0 : World) (η : Heap) (va : Value) (b n : Nat) (xs : List Value) (ha : SlA (St w0 η) va 1 n xs) (hb : (b, 5, xs ++ mkB) ∈ η) (hi : Ints (rep n byteK) xs) (hn : n ≤ 1000000) :
    CallsT Tryd.prog 16 [.slice (some ⟨b, 0, none⟩) n (n + 3), va] (St w0 η) fun v A' => v = .bool true ∧ A' = St w0 η := by
  refine CallsT.body Tryd.func16 rfl rfl ?_
  simp only [Tryd.ntmps16, slotsOf, Nat.reduceAdd]
  refine TC_seq ?_
  refine TC_reg ?_
  refine TL_q rfl rfl (QT_assign rfl rfl rfl) ?_
  refine TL_nil ?_
  refine TX_then ?_
  refine TC_seq ?_
  refine TC_reg ?_
  refine TL_q rfl rfl (QT_move rfl rfl rfl) ?_
  refine TL_q rfl rfl (QT_move rfl rfl rfl) ?_
  refine TL_cq rfl rfl rfl rfl YtlmbpdlobpcahaaDoorF.cal_37 rfl (fun _ => left_Byte w0 _ va b n xs 171 ha hb hi (by decide) hn) ?_
  refine TL_q rfl rfl (QT_assign rfl rfl rfl) ?_
  refine TL_nil ?_
  refine TX_then ?_
  refine TC_ret ?_
  exact TX_ret (.inl rfl) (res1 rfl rfl) ⟨_, ⟨rfl, rfl⟩, (fun _ h => by first | exact h | exact h.tail | exact h.tail.tail | exact h.tail.tail.tail | exact h.tail.tail.tail.tail | exact h.tail.tail.tail.tail.tail | exact h.tail.tail.tail.tail.tail.tail | exact h.tail.tail.tail.tail.tail.tail.tail | exact h.tail.tail.tail.tail.tail.tail.tail.tail | exact h.tail.tail.tail.tail.tail.tail.tail.tail.tail | exact h.tail.tail.tail.tail.tail.tail.tail.tail.tail.tail | exact h.tail.tail.tail.tail.tail.tail.tail.tail.tail.tail.tail | exact h.tail.tail.tail.tail.tail.tail.tail.tail.tail.tail.tail.tail | exact h.tail.tail.tail.tail.tail.tail.tail.tail.tail.tail.tail.tail.tail)⟩
theorem sameOk_Sheets (w0 : World) (η : Heap) (va vb : Value) (n : Nat) (xs : List Value) (ha : SlA (St w0 η) va 49 n xs) (hb : SlA (St w0 η) vb 49 n xs) (hi : Ints (rep n sheetK) xs) :
    CallsT Tryd.prog 15 [va, vb] (St w0 η) fun v A' => v = .bool true ∧ A' = St w0 η := by
  have h := same_Sheets w0 η va vb n n xs xs ha hb hi hi
  rwa [eqC_refl hi] at h
theorem twinFragS {e b n : Nat} {xs mk : List Value} (hx : xs.length = n * 49) (hm : mk.length = 49) (hn : n ≤ 1000000) : Frag e 49 (.slice (some ⟨b, 0, none⟩) n (n + 3)) n xs [(b, e, xs ++ (mk ++ (mk ++ mk)))] :=
  ⟨hx, .inr ⟨b, n + 3, mk ++ (mk ++ mk), rfl, ⟨by omega, by omega⟩, by simp only [List.length_append, hx, hm]; omega, rfl⟩⟩
theorem twinFragB {b n : Nat} {xs : List Value} (hx : xs.length = n * 1) (hn : n ≤ 1000000) : Frag 5 1 (.slice (some ⟨b, 0, none⟩) n (n + 3)) n xs [(b, 5, xs ++ mkB)] :=
  ⟨hx, .inr ⟨b, n + 3, mkB, rfl, ⟨by omega, by omega⟩, by simp only [List.length_append, hx, mkB, List.length_cons, List.length_nil]; omega, rfl⟩⟩
theorem newCells : Bk.new.cells = [.int .i64 0, .slice none 0 0, .slice none 0 0, .slice none 0 0, .slice none 0 0, .slice none 0 0, .slice none 0 0, .slice none 0 0, .slice none 0 0, .slice none 0 0, .slice none 0 0, .slice none 0 0, .slice none 0 0, .slice none 0 0] := rfl
theorem bytesS_ge {L : Lay} (hk : okB L = true) (hty : L.ty = 6 ∨ L.ty = 7) : ∀ {ys : List (List Nat)}, (∀ y ∈ ys, ShF y) → ys.length ≤ (bytesS L ys).length
  | [], _ => by simp
  | y :: ys, h => by
    have h1 := packS_len (L := L) (h y (List.mem_cons_self ..))
    have h2 := (szN_pos hk hty (y.headD 0)).1
    have h3 := bytesS_ge hk hty (ys := ys) fun z hz => h z (List.mem_cons_of_mem _ hz)
    have e : bytesS L (y :: ys) = packS L y ++ bytesS L ys := by simp [bytesS]
    rw [e, List.length_append, List.length_cons]
    omega
theorem errG_zero {L : Lay} {bs : List Nat} (h : errG L bs = 0) : (okB L = true ∧ 6 ≤ L.ty) ∧ bs.length ≤ 65536 ∧ getS L bs = some (outG L bs) := by
  have h0 := h
  unfold errG at h
  split at h
  · rename_i hc
    split at h
    · exact absurd h (by decide)
    · rename_i hl
      cases hg : getS L bs with
      | none => rw [hg] at h; exact absurd h (by decide)
      | some ys => exact ⟨hc, by omega, by rw [(errG_ok hc hl hg).2]⟩
  · exact absurd h (by decide)
theorem outG_len (L : Lay) (bs : List Nat) : (outG L bs).length ≤ bs.length := by
  by_cases h : errG L bs = 0
  · obtain ⟨hc, _, hg⟩ := errG_zero h
    obtain ⟨h1, _, h2⟩ := got_facts hc.1 (ty67 hc) bs.length (Nat.le_refl _) hg
    have := bytesS_ge hc.1 (ty67 hc) h1
    omega
  · rw [outG_bad h]; exact Nat.zero_le _
theorem outP_lt (L : Lay) (ys : List (List Nat)) : ∀ c ∈ outP L ys, c < 256 := by
  intro c hc
  unfold outP at hc
  split at hc
  · exact bytesS_lt L ys c hc
  · exact absurd hc List.not_mem_nil
theorem outP_len (L : Lay) (ys : List (List Nat)) : (outP L ys).length ≤ 65536 := by
  unfold outP
  split
  · rename_i h
    unfold errP at h
    split at h
    · split at h
      · split at h
        · exact absurd h (by decide)
        · omega
      · exact absurd h (by decide)
    · exact absurd h (by decide)
  · exact Nat.zero_le _
set_option maxHeartbeats 1000000 in
theorem law_sheetsGet (w0 : World) (η : Heap) (hG : Sets w0) (L : Lay) (bv : Value) (bs : List Nat) (hs : SlA (St w0 η) bv 1 bs.length (byV bs)) (hb : ∀ c ∈ bs, c < 256) (hl : bs.length ≤ 140737488355328) :
    CallsT Tryd.prog 3 [L.val, bv] (St w0 η) fun v A' => v = .bool true ∧ A' = St w0 η := by
  have hs0 := hs
  obtain ⟨hxl, ad, cap, rfl, hcap, hsr⟩ := hs
  have hs : ∀ X : Heap, SlA (St w0 (X ++ η)) (.slice ad bs.length cap) 1 bs.length (byV bs) := fun X => hs0.mono fun _ h => h.app_right
  have hi := byV_ints hb
  have hoi := flatS_ints (ys := outG L bs) fun y hy => outG_shf y hy
  have hol := outG_len L bs
  refine CallsT.body Tryd.func3 rfl rfl ?_
  simp only [Tryd.ntmps3, slotsOf, Nat.reduceAdd]
  refine TC_seq ?_
  refine TC_reg ?_
  refine TL_e rfl rfl rfl (rfl) (ET_box rfl rfl) ?_
  rintro _ _ ⟨b2, rfl, rfl⟩
  refine TL_q rfl rfl (QT_assign rfl rfl rfl) ?_
  refine TL_nil ?_
  refine TX_then ?_
  refine TC_seq ?_
  refine TC_seq ?_
  refine TC_reg ?_
  refine TL_q rfl rfl (QT_move rfl rfl rfl) ?_
  refine TL_q rfl rfl (QT_len rfl rfl Tryd.underlying28 rfl) ?_
  refine TL_q rfl rfl (QT_gtr rfl rfl rfl rfl) ?_
  refine TL_q rfl rfl (QT_move rfl rfl rfl) ?_
  refine TL_q rfl rfl (QT_move rfl rfl rfl) ?_
  refine TL_q rfl rfl (QT_len rfl rfl Tryd.underlying28 rfl) ?_
  refine TL_q rfl rfl (QT_leq rfl rfl rfl rfl) ?_
  refine TL_q rfl rfl (QT_and rfl rfl rfl rfl) ?_
  refine TL_q rfl rfl (QT_move rfl rfl rfl) ?_
  refine TL_q rfl rfl (QT_move rfl rfl rfl) ?_
  refine TL_q rfl rfl (QT_len rfl rfl Tryd.underlying28 rfl) ?_
  refine TL_q rfl rfl (QT_gtr rfl rfl rfl rfl) ?_
  refine TL_q rfl rfl (QT_or rfl rfl rfl rfl) ?_
  refine TL_nil ?_
  refine TX_then ?_
  first
    | refine TC_cond_dec rfl (fun h25 => ?_) (fun h25 => ?_)
    | refine TC_cond rfl (fun h25 => ?_) (fun h25 => ?_)
  ·
    refine TC_seq ?_
    refine TC_reg ?_
    refine TL_cq rfl rfl rfl rfl YtlmbpdlobpcahaaDoorF.cal_9 rfl (fun _ => lives11 w0 _ hG) ?_
    refine TL_q rfl rfl (QT_assign rfl rfl rfl) ?_
    refine TL_nil ?_
    refine TX_then ?_
    refine TC_ret ?_
    refine TX_then_ret ?_
    exact TX_ret (.inl rfl) (res1 rfl rfl) ⟨_, ⟨rfl, rfl⟩, (fun _ h => by first | exact h | exact h.tail | exact h.tail.tail | exact h.tail.tail.tail | exact h.tail.tail.tail.tail | exact h.tail.tail.tail.tail.tail | exact h.tail.tail.tail.tail.tail.tail | exact h.tail.tail.tail.tail.tail.tail.tail | exact h.tail.tail.tail.tail.tail.tail.tail.tail | exact h.tail.tail.tail.tail.tail.tail.tail.tail.tail | exact h.tail.tail.tail.tail.tail.tail.tail.tail.tail.tail | exact h.tail.tail.tail.tail.tail.tail.tail.tail.tail.tail.tail | exact h.tail.tail.tail.tail.tail.tail.tail.tail.tail.tail.tail.tail | exact h.tail.tail.tail.tail.tail.tail.tail.tail.tail.tail.tail.tail.tail)⟩
  ·
    refine TC_skip ?_
    refine TX_then ?_
    refine TC_seq ?_
    have hn : bs.length ≤ 70000 := by
      simp only [Bool.or_eq_false_iff, Bool.and_eq_false_iff, decide_eq_false_iff_not] at h25
      omega
    refine TC_reg ?_
    refine TL_q rfl rfl (QT_move rfl rfl rfl) ?_
    refine TL_e rfl rfl rfl (rfl) (ET_call rfl YtlmbpdlobpcahaaDoorF.cal_10 rfl (twin_Bytes w0 _ _ bs.length (byV bs) (hs [_]) hi (by omega))) ?_
    rintro _ _ ⟨bt, rfl, rfl⟩
    refine TL_q rfl rfl (QT_assign rfl rfl rfl) ?_
    refine TL_nil ?_
    refine TX_then ?_
    refine TC_seq ?_
    refine TC_reg ?_
    first
      | refine TL_q rfl rfl (QT_loadW 0 rfl rfl Tryd.underlying27 rfl rfl rfl YtlmbpdlobpcahaaDoorF.sz_27) ?_
      | refine TL_q rfl rfl (QT_loadW 1 rfl rfl Tryd.underlying27 rfl rfl rfl YtlmbpdlobpcahaaDoorF.sz_27) ?_
      | refine TL_q rfl rfl (QT_loadW 2 rfl rfl Tryd.underlying27 rfl rfl rfl YtlmbpdlobpcahaaDoorF.sz_27) ?_
      | refine TL_q rfl rfl (QT_loadA 0 rfl rfl Tryd.underlying27 rfl rfl rfl YtlmbpdlobpcahaaDoorF.sz_27 (fun _ => rfl)) ?_
      | refine TL_q rfl rfl (QT_loadA 1 rfl rfl Tryd.underlying27 rfl rfl rfl YtlmbpdlobpcahaaDoorF.sz_27 (fun _ => rfl)) ?_
      | refine TL_q rfl rfl (QT_loadA 2 rfl rfl Tryd.underlying27 rfl rfl rfl YtlmbpdlobpcahaaDoorF.sz_27 (fun _ => rfl)) ?_
    refine TL_q rfl rfl (QT_move rfl rfl rfl) ?_
    refine TL_e rfl rfl rfl (rfl) (ET_call rfl YtlmbpdlobpcahaaDoorF.cal_11 rfl (sget_spec w0 _ hG L _ bs ((twinFragB hxl (by omega)).within fun p => by simp only [List.countP_cons, List.countP_nil]; omega) hb (by omega))) ?_
    rintro _ _ ⟨pv, H1, rfl, hF1, rfl⟩
    refine TL_q rfl rfl (QT_move rfl rfl rfl) ?_
    refine TL_q rfl rfl (QT_extract rfl rfl rfl rfl) ?_
    refine TL_q rfl rfl (QT_extract rfl rfl rfl rfl) ?_
    refine TL_q rfl rfl (QT_assign rfl rfl rfl) ?_
    refine TL_q rfl rfl (QT_assign rfl rfl rfl) ?_
    refine TL_nil ?_
    refine TX_then ?_
    refine TC_seq ?_
    refine TC_A (St w0 ((b2, 27, L.val.cells.toList) :: (bt, 5, byV bs ++ mkB) :: (H1 ++ η))) (fun _ h => h.cnt fun p => by simp only [List.countP_append, List.countP_cons]; omega) ?_
    refine TC_reg ?_
    first
      | refine TL_q rfl rfl (QT_loadW 0 rfl rfl Tryd.underlying27 rfl rfl rfl YtlmbpdlobpcahaaDoorF.sz_27) ?_
      | refine TL_q rfl rfl (QT_loadW 1 rfl rfl Tryd.underlying27 rfl rfl rfl YtlmbpdlobpcahaaDoorF.sz_27) ?_
      | refine TL_q rfl rfl (QT_loadW 2 rfl rfl Tryd.underlying27 rfl rfl rfl YtlmbpdlobpcahaaDoorF.sz_27) ?_
      | refine TL_q rfl rfl (QT_loadA 0 rfl rfl Tryd.underlying27 rfl rfl rfl YtlmbpdlobpcahaaDoorF.sz_27 (fun _ => rfl)) ?_
      | refine TL_q rfl rfl (QT_loadA 1 rfl rfl Tryd.underlying27 rfl rfl rfl YtlmbpdlobpcahaaDoorF.sz_27 (fun _ => rfl)) ?_
      | refine TL_q rfl rfl (QT_loadA 2 rfl rfl Tryd.underlying27 rfl rfl rfl YtlmbpdlobpcahaaDoorF.sz_27 (fun _ => rfl)) ?_
    refine TL_q rfl rfl (QT_move rfl rfl rfl) ?_
    refine TL_e rfl rfl rfl (rfl) (ET_call rfl YtlmbpdlobpcahaaDoorF.cal_12 rfl (rsget_spec w0 _ L _ bs (hs (_ :: _ :: H1)) hb (by omega))) ?_
    rintro _ _ ⟨qv, H2, rfl, hF2, rfl⟩
    refine TL_q rfl rfl (QT_move rfl rfl rfl) ?_
    refine TL_q rfl rfl (QT_extract rfl rfl rfl rfl) ?_
    refine TL_q rfl rfl (QT_extract rfl rfl rfl rfl) ?_
    refine TL_q rfl rfl (QT_assign rfl rfl rfl) ?_
    refine TL_q rfl rfl (QT_assign rfl rfl rfl) ?_
    refine TL_nil ?_
    refine TX_then ?_
    refine TC_seq ?_
    refine TC_A (St w0 ((b2, 27, L.val.cells.toList) :: (bt, 5, byV bs ++ mkB) :: (H1 ++ (H2 ++ η)))) (fun _ h => h.cnt fun p => by simp only [List.countP_append, List.countP_cons]; omega) ?_
    refine TC_reg ?_
    first
      | refine TL_q rfl rfl (QT_loadW 0 rfl rfl Tryd.underlying27 rfl rfl rfl YtlmbpdlobpcahaaDoorF.sz_27) ?_
      | refine TL_q rfl rfl (QT_loadW 1 rfl rfl Tryd.underlying27 rfl rfl rfl YtlmbpdlobpcahaaDoorF.sz_27) ?_
      | refine TL_q rfl rfl (QT_loadW 2 rfl rfl Tryd.underlying27 rfl rfl rfl YtlmbpdlobpcahaaDoorF.sz_27) ?_
      | refine TL_q rfl rfl (QT_loadA 0 rfl rfl Tryd.underlying27 rfl rfl rfl YtlmbpdlobpcahaaDoorF.sz_27 (fun _ => rfl)) ?_
      | refine TL_q rfl rfl (QT_loadA 1 rfl rfl Tryd.underlying27 rfl rfl rfl YtlmbpdlobpcahaaDoorF.sz_27 (fun _ => rfl)) ?_
      | refine TL_q rfl rfl (QT_loadA 2 rfl rfl Tryd.underlying27 rfl rfl rfl YtlmbpdlobpcahaaDoorF.sz_27 (fun _ => rfl)) ?_
    refine TL_q rfl rfl (QT_move rfl rfl rfl) ?_
    refine TL_e rfl rfl rfl (rfl) (ET_call rfl YtlmbpdlobpcahaaDoorF.cal_11 rfl (sget_spec w0 _ hG L _ bs ((twinFragB hxl (by omega)).within fun p => by simp only [List.countP_append, List.countP_cons, List.countP_nil]; omega) hb (by omega))) ?_
    rintro _ _ ⟨ov, H3, rfl, hF3, rfl⟩
    refine TL_q rfl rfl (QT_move rfl rfl rfl) ?_
    refine TL_q rfl rfl (QT_extract rfl rfl rfl rfl) ?_
    refine TL_q rfl rfl (QT_extract rfl rfl rfl rfl) ?_
    refine TL_q rfl rfl (QT_assign rfl rfl rfl) ?_
    refine TL_q rfl rfl (QT_assign rfl rfl rfl) ?_
    refine TL_nil ?_
    refine TX_then ?_
    refine TC_seq ?_
    refine TC_A (St w0 ((bt, 5, byV bs ++ mkB) :: (H1 ++ (H2 ++ (H3 ++ η))))) (fun _ h => h.cnt fun p => by simp only [List.countP_append, List.countP_cons]; omega) ?_
    obtain ⟨pad, pcap, hpv, _, _⟩ := hF1.slice
    obtain ⟨oad, ocap, hov, _, _⟩ := hF3.slice
    refine TC_reg ?_
    refine TL_q rfl rfl (QT_build rfl rfl YtlmbpdlobpcahaaDoorF.zero_49 YtlmbpdlobpcahaaDoorF.pl_49 rfl rfl rfl) ?_
    refine TL_e rfl rfl rfl (rfl) (ET_alloc rfl YtlmbpdlobpcahaaDoorF.zero_49) ?_
    rintro _ _ ⟨b12, rfl, rfl⟩
    first
      | refine TL_e0 rfl rfl (rfl) (ET_storeW 0 rfl rfl rfl YtlmbpdlobpcahaaDoorF.sz_49 rfl rfl rfl) ?_
      | refine TL_e0 rfl rfl (rfl) (ET_storeW 1 rfl rfl rfl YtlmbpdlobpcahaaDoorF.sz_49 rfl rfl rfl) ?_
      | refine TL_e0 rfl rfl (rfl) (ET_storeW 2 rfl rfl rfl YtlmbpdlobpcahaaDoorF.sz_49 rfl rfl rfl) ?_
      | refine TL_e0 rfl rfl (rfl) (ET_store 0 rfl rfl rfl rfl YtlmbpdlobpcahaaDoorF.sz_49 rfl rfl rfl) ?_
      | refine TL_e0 rfl rfl (rfl) (ET_store 1 rfl rfl rfl rfl YtlmbpdlobpcahaaDoorF.sz_49 rfl rfl rfl) ?_
      | refine TL_e0 rfl rfl (rfl) (ET_store 2 rfl rfl rfl rfl YtlmbpdlobpcahaaDoorF.sz_49 rfl rfl rfl) ?_
    rintro _ _ ⟨rfl, rfl⟩
    refine TL_nil ?_
    refine TX_then ?_
    refine TC_seq ?_
    refine TC_reg ?_
    refine TL_q rfl rfl (QT_move rfl rfl rfl) ?_
    refine TL_A (St w0 ((b12, 49, Bk.new.cells) :: ([] ++ ((bt, 5, byV bs ++ mkB) :: (H1 ++ (H2 ++ (H3 ++ η))))))) (fun w h => by rw [newCells]; exact h) ?_
    refine TL_e rfl rfl rfl (rfl) (ET_call rfl YtlmbpdlobpcahaaDoorF.cal_13 rfl (book_Bytes w0 _ [] b12 Bk.new [] _ bs.length (byV bs) [(bt, 5, byV bs ++ mkB)] (by decide) (Frag.nil _ _) (fun s h => by cases h) (Nat.zero_le _) ⟨_, _, _, rfl⟩)) ?_
    rintro _ _ ⟨r1, HS, hFS, rfl⟩
    refine TL_nil ?_
    refine TX_then ?_
    refine TC_seq ?_
    refine TC_reg ?_
    refine TL_q rfl rfl (QT_move rfl rfl rfl) ?_
    refine TL_e rfl rfl rfl (rfl) (ET_call rfl YtlmbpdlobpcahaaDoorF.cal_14 rfl (book_Sheets w0 (HS ++ _) [] b12 { Bk.new with many := 0 + 1, bytes := r1 } [] pv (outG L bs).length (flatS (outG L bs)) H1 (by dsimp only; omega) (Frag.nil _ _) (fun s h => by cases h) (Nat.zero_le _) ⟨_, _, _, hpv⟩)) ?_
    rintro _ _ ⟨r2, HT, hFT, rfl⟩
    refine TL_nil ?_
    refine TX_then ?_
    refine TC_seq ?_
    refine TC_reg ?_
    refine TL_q rfl rfl (QT_move rfl rfl rfl) ?_
    refine TL_e rfl rfl rfl (rfl) (ET_call rfl YtlmbpdlobpcahaaDoorF.cal_14 rfl (book_Sheets w0 (HS ++ _) HT b12 { Bk.new with many := 0 + 1 + 1, bytes := r1, sheets := r2 } [⟨pv, (outG L bs).length, flatS (outG L bs), nilS, shMark (0 + 1 + 1), H1⟩] ov (outG L bs).length (flatS (outG L bs)) H3 (by dsimp only; omega) hFT (fun s h => by
     cases List.mem_singleton.1 h
     exact ⟨hF1, shMark_ints (by decide), by show (outG L bs).length ≤ 2000000; omega⟩) (by simp) ⟨_, _, _, hov⟩)) ?_
    rintro _ _ ⟨r3, HT2, hFT2, rfl⟩
    refine TL_nil ?_
    refine TX_then ?_
    refine TC_seq ?_
    refine TC_reg ?_
    refine TL_q rfl rfl (QT_move rfl rfl rfl) ?_
    refine TL_q rfl rfl (QT_move rfl rfl rfl) ?_
    refine TL_q rfl rfl (QT_eql rfl rfl rfl rfl) ?_
    refine TL_q rfl rfl (QT_move rfl rfl rfl) ?_
    refine TL_q rfl rfl (QT_move rfl rfl rfl) ?_
    refine TL_q rfl rfl (QT_move rfl rfl rfl) ?_
    refine TL_cq rfl rfl rfl rfl YtlmbpdlobpcahaaDoorF.cal_15 rfl (fun _ => sameOk_Sheets w0 _ pv qv (outG L bs).length (flatS (outG L bs)) (hF1.within fun p => by simp only [List.countP_append, List.countP_cons]; omega) (hF2.within fun p => by simp only [List.countP_append, List.countP_cons]; omega) hoi) ?_
    refine TL_q rfl rfl (QT_and rfl rfl rfl rfl) ?_
    refine TL_q rfl rfl (QT_move rfl rfl rfl) ?_
    refine TL_q rfl rfl (QT_move rfl rfl rfl) ?_
    refine TL_q rfl rfl (QT_move rfl rfl rfl) ?_
    refine TL_cq rfl rfl rfl rfl YtlmbpdlobpcahaaDoorF.cal_16 rfl (fun _ => left_Bytes w0 _ _ bt bs.length (byV bs) ((hs []).mono fun _ h => h.cnt fun p => by simp only [List.countP_append, List.countP_cons, List.countP_nil]; omega) (by simp) hi (by omega)) ?_
    refine TL_q rfl rfl (QT_and rfl rfl rfl rfl) ?_
    refine TL_q rfl rfl (QT_move rfl rfl rfl) ?_
    refine TL_A (St w0 ((b12, 49, Bk.cells { Bk.new with many := 0 + 1 + 1 + 1, bytes := r1, sheets := r3 }) :: (HS ++ (HT2 ++ (heapOf [⟨.slice (some ⟨bt, 0, none⟩) bs.length (bs.length + 3), bs.length, byV bs, nilS, [.int .u8 (0 + 1)], [(bt, 5, byV bs ++ mkB)]⟩] ++ (heapOf [⟨pv, (outG L bs).length, flatS (outG L bs), nilS, shMark (0 + 1 + 1), H1⟩, ⟨ov, (outG L bs).length, flatS (outG L bs), nilS, shMark (0 + 1 + 1 + 1), H3⟩] ++ η)))))) (fun _ h => h.cnt fun p => by simp only [heapOf, List.map_cons, List.map_nil, List.flatten_cons, List.flatten_nil, List.countP_append, List.countP_cons, List.countP_nil]; omega) ?_
    refine TL_e rfl rfl rfl ((by simp)) (ET_call rfl YtlmbpdlobpcahaaDoorF.cal_17 rfl (apart_spec w0 η b12 { Bk.new with many := 0 + 1 + 1 + 1, bytes := r1, sheets := r3 } (by dsimp only; omega) _ HS hFS (fun s h => by
     cases List.mem_singleton.1 h
     exact ⟨twinFragB hxl (by omega), .cons (by decide) .nil, by show bs.length ≤ 2000000; omega⟩) _ HT2 hFT2 (fun s h => by
     rcases List.mem_cons.1 h with rfl | h
     · exact ⟨hF1, shMark_ints (by decide), by show (outG L bs).length ≤ 2000000; omega⟩
     · cases List.mem_singleton.1 h
       exact ⟨hF3, shMark_ints (by decide), by show (outG L bs).length ≤ 2000000; omega⟩) rfl rfl rfl rfl rfl rfl rfl rfl rfl rfl rfl)) ?_
    rintro _ _ ⟨rfl, rfl⟩
    refine TL_q rfl rfl (QT_and rfl rfl rfl rfl) ?_
    refine TL_q rfl rfl (QT_move rfl rfl rfl) ?_
    refine TL_cq rfl rfl rfl rfl YtlmbpdlobpcahaaDoorF.cal_9 rfl (fun _ => lives11 w0 _ hG) ?_
    refine TL_q rfl rfl (QT_and rfl rfl rfl rfl) ?_
    refine TL_q rfl rfl (QT_assign rfl rfl rfl) ?_
    refine TL_nil ?_
    refine TX_then ?_
    refine TC_ret ?_
    exact TX_ret (.inl rfl) (res1 rfl rfl) ⟨_, ⟨by simp, rfl⟩, fun _ h => h⟩
set_option maxHeartbeats 1000000 in
theorem law_sheetsPut (w0 : World) (η : Heap) (hG : Sets w0) (L : Lay) (sv : Value) (ys : List (List Nat)) (hs : SlA (St w0 η) sv 49 ys.length (flatS ys)) (hy : ∀ y ∈ ys, ShF y) :
    CallsT Tryd.prog 4 [L.val, sv] (St w0 η) fun v A' => v = .bool true ∧ A' = St w0 η := by
  have hs0 := hs
  obtain ⟨hxl, ad, cap, rfl, hcap, hsr⟩ := hs
  have hs : ∀ X : Heap, SlA (St w0 (X ++ η)) (.slice ad ys.length cap) 49 ys.length (flatS ys) := fun X => hs0.mono fun _ h => h.app_right
  have hml : mark_Sheet.length = 49 := rfl
  have hi := flatS_ints hy
  have hoi := byV_ints (outP_lt L ys)
  have hol := outP_len L ys
  refine CallsT.body Tryd.func4 rfl rfl ?_
  simp only [Tryd.ntmps4, slotsOf, Nat.reduceAdd]
  refine TC_seq ?_
  refine TC_reg ?_
  refine TL_e rfl rfl rfl (rfl) (ET_box rfl rfl) ?_
  rintro _ _ ⟨b2, rfl, rfl⟩
  refine TL_q rfl rfl (QT_assign rfl rfl rfl) ?_
  refine TL_nil ?_
  refine TX_then ?_
  refine TC_seq ?_
  refine TC_seq ?_
  refine TC_reg ?_
  refine TL_q rfl rfl (QT_move rfl rfl rfl) ?_
  refine TL_q rfl rfl (QT_len rfl rfl Tryd.underlying31 rfl) ?_
  refine TL_q rfl rfl (QT_gtr rfl rfl rfl rfl) ?_
  refine TL_nil ?_
  refine TX_then ?_
  first
    | refine TC_cond_dec rfl (fun h13 => ?_) (fun h13 => ?_)
    | refine TC_cond rfl (fun h13 => ?_) (fun h13 => ?_)
  ·
    refine TC_seq ?_
    refine TC_reg ?_
    refine TL_cq rfl rfl rfl rfl YtlmbpdlobpcahaaDoorF.cal_9 rfl (fun _ => lives11 w0 _ hG) ?_
    refine TL_q rfl rfl (QT_assign rfl rfl rfl) ?_
    refine TL_nil ?_
    refine TX_then ?_
    refine TC_ret ?_
    refine TX_then_ret ?_
    exact TX_ret (.inl rfl) (res1 rfl rfl) ⟨_, ⟨rfl, rfl⟩, (fun _ h => by first | exact h | exact h.tail | exact h.tail.tail | exact h.tail.tail.tail | exact h.tail.tail.tail.tail | exact h.tail.tail.tail.tail.tail | exact h.tail.tail.tail.tail.tail.tail | exact h.tail.tail.tail.tail.tail.tail.tail | exact h.tail.tail.tail.tail.tail.tail.tail.tail | exact h.tail.tail.tail.tail.tail.tail.tail.tail.tail | exact h.tail.tail.tail.tail.tail.tail.tail.tail.tail.tail | exact h.tail.tail.tail.tail.tail.tail.tail.tail.tail.tail.tail | exact h.tail.tail.tail.tail.tail.tail.tail.tail.tail.tail.tail.tail | exact h.tail.tail.tail.tail.tail.tail.tail.tail.tail.tail.tail.tail.tail)⟩
  ·
    refine TC_skip ?_
    refine TX_then ?_
    refine TC_seq ?_
    have hn : ys.length ≤ 60 := by omega
    refine TC_reg ?_
    refine TL_q rfl rfl (QT_move rfl rfl rfl) ?_
    refine TL_e rfl rfl rfl (rfl) (ET_call rfl YtlmbpdlobpcahaaDoorF.cal_18 rfl (twin_Sheets w0 _ _ ys.length (flatS ys) (hs [_]) hi (by omega))) ?_
    rintro _ _ ⟨bt, rfl, rfl⟩
    refine TL_q rfl rfl (QT_assign rfl rfl rfl) ?_
    refine TL_nil ?_
    refine TX_then ?_
    refine TC_seq ?_
    refine TC_reg ?_
    first
      | refine TL_q rfl rfl (QT_loadW 0 rfl rfl Tryd.underlying27 rfl rfl rfl YtlmbpdlobpcahaaDoorF.sz_27) ?_
      | refine TL_q rfl rfl (QT_loadW 1 rfl rfl Tryd.underlying27 rfl rfl rfl YtlmbpdlobpcahaaDoorF.sz_27) ?_
      | refine TL_q rfl rfl (QT_loadW 2 rfl rfl Tryd.underlying27 rfl rfl rfl YtlmbpdlobpcahaaDoorF.sz_27) ?_
      | refine TL_q rfl rfl (QT_loadA 0 rfl rfl Tryd.underlying27 rfl rfl rfl YtlmbpdlobpcahaaDoorF.sz_27 (fun _ => rfl)) ?_
      | refine TL_q rfl rfl (QT_loadA 1 rfl rfl Tryd.underlying27 rfl rfl rfl YtlmbpdlobpcahaaDoorF.sz_27 (fun _ => rfl)) ?_
      | refine TL_q rfl rfl (QT_loadA 2 rfl rfl Tryd.underlying27 rfl rfl rfl YtlmbpdlobpcahaaDoorF.sz_27 (fun _ => rfl)) ?_
    refine TL_q rfl rfl (QT_move rfl rfl rfl) ?_
    refine TL_e rfl rfl rfl (rfl) (ET_call rfl YtlmbpdlobpcahaaDoorF.cal_19 rfl (sput_spec w0 _ hG L _ ys ((twinFragS (e := 71) hxl hml (by omega)).within fun p => by simp only [List.countP_cons, List.countP_nil]; omega) hy (by omega))) ?_
    rintro _ _ ⟨pv, H1, rfl, hF1, rfl⟩
    refine TL_q rfl rfl (QT_move rfl rfl rfl) ?_
    refine TL_q rfl rfl (QT_extract rfl rfl rfl rfl) ?_
    refine TL_q rfl rfl (QT_extract rfl rfl rfl rfl) ?_
    refine TL_q rfl rfl (QT_assign rfl rfl rfl) ?_
    refine TL_q rfl rfl (QT_assign rfl rfl rfl) ?_
    refine TL_nil ?_
    refine TX_then ?_
    refine TC_seq ?_
    refine TC_A (St w0 ((b2, 27, L.val.cells.toList) :: (bt, 71, flatS ys ++ (mark_Sheet ++ (mark_Sheet ++ mark_Sheet))) :: (H1 ++ η))) (fun _ h => h.cnt fun p => by simp only [List.countP_append, List.countP_cons]; omega) ?_
    refine TC_reg ?_
    first
      | refine TL_q rfl rfl (QT_loadW 0 rfl rfl Tryd.underlying27 rfl rfl rfl YtlmbpdlobpcahaaDoorF.sz_27) ?_
      | refine TL_q rfl rfl (QT_loadW 1 rfl rfl Tryd.underlying27 rfl rfl rfl YtlmbpdlobpcahaaDoorF.sz_27) ?_
      | refine TL_q rfl rfl (QT_loadW 2 rfl rfl Tryd.underlying27 rfl rfl rfl YtlmbpdlobpcahaaDoorF.sz_27) ?_
      | refine TL_q rfl rfl (QT_loadA 0 rfl rfl Tryd.underlying27 rfl rfl rfl YtlmbpdlobpcahaaDoorF.sz_27 (fun _ => rfl)) ?_
      | refine TL_q rfl rfl (QT_loadA 1 rfl rfl Tryd.underlying27 rfl rfl rfl YtlmbpdlobpcahaaDoorF.sz_27 (fun _ => rfl)) ?_
      | refine TL_q rfl rfl (QT_loadA 2 rfl rfl Tryd.underlying27 rfl rfl rfl YtlmbpdlobpcahaaDoorF.sz_27 (fun _ => rfl)) ?_
    refine TL_q rfl rfl (QT_move rfl rfl rfl) ?_
    refine TL_e rfl rfl rfl (rfl) (ET_call rfl YtlmbpdlobpcahaaDoorF.cal_20 rfl (rsput_spec w0 _ L _ ys (hs (_ :: _ :: H1)) hy (by omega))) ?_
    rintro _ _ ⟨qv, H2, rfl, hF2, rfl⟩
    refine TL_q rfl rfl (QT_move rfl rfl rfl) ?_
    refine TL_q rfl rfl (QT_extract rfl rfl rfl rfl) ?_
    refine TL_q rfl rfl (QT_extract rfl rfl rfl rfl) ?_
    refine TL_q rfl rfl (QT_assign rfl rfl rfl) ?_
    refine TL_q rfl rfl (QT_assign rfl rfl rfl) ?_
    refine TL_nil ?_
    refine TX_then ?_
    refine TC_seq ?_
    refine TC_A (St w0 ((bt, 71, flatS ys ++ (mark_Sheet ++ (mark_Sheet ++ mark_Sheet))) :: (H1 ++ (H2 ++ η)))) (fun _ h => h.cnt fun p => by simp only [List.countP_append, List.countP_cons]; omega) ?_
    obtain ⟨pad, pcap, hpv, _, _⟩ := hF1.slice
    refine TC_reg ?_
    refine TL_q rfl rfl (QT_build rfl rfl YtlmbpdlobpcahaaDoorF.zero_49 YtlmbpdlobpcahaaDoorF.pl_49 rfl rfl rfl) ?_
    refine TL_e rfl rfl rfl (rfl) (ET_alloc rfl YtlmbpdlobpcahaaDoorF.zero_49) ?_
    rintro _ _ ⟨b10, rfl, rfl⟩
    first
      | refine TL_e0 rfl rfl (rfl) (ET_storeW 0 rfl rfl rfl YtlmbpdlobpcahaaDoorF.sz_49 rfl rfl rfl) ?_
      | refine TL_e0 rfl rfl (rfl) (ET_storeW 1 rfl rfl rfl YtlmbpdlobpcahaaDoorF.sz_49 rfl rfl rfl) ?_
      | refine TL_e0 rfl rfl (rfl) (ET_storeW 2 rfl rfl rfl YtlmbpdlobpcahaaDoorF.sz_49 rfl rfl rfl) ?_
      | refine TL_e0 rfl rfl (rfl) (ET_store 0 rfl rfl rfl rfl YtlmbpdlobpcahaaDoorF.sz_49 rfl rfl rfl) ?_
      | refine TL_e0 rfl rfl (rfl) (ET_store 1 rfl rfl rfl rfl YtlmbpdlobpcahaaDoorF.sz_49 rfl rfl rfl) ?_
      | refine TL_e0 rfl rfl (rfl) (ET_store 2 rfl rfl rfl rfl YtlmbpdlobpcahaaDoorF.sz_49 rfl rfl rfl) ?_
    rintro _ _ ⟨rfl, rfl⟩
    refine TL_nil ?_
    refine TX_then ?_
    refine TC_seq ?_
    refine TC_reg ?_
    refine TL_q rfl rfl (QT_move rfl rfl rfl) ?_
    refine TL_A (St w0 ((b10, 49, Bk.new.cells) :: ([] ++ ((bt, 71, flatS ys ++ (mark_Sheet ++ (mark_Sheet ++ mark_Sheet))) :: (H1 ++ (H2 ++ η)))))) (fun w h => by rw [newCells]; exact h) ?_
    refine TL_e rfl rfl rfl (rfl) (ET_call rfl YtlmbpdlobpcahaaDoorF.cal_14 rfl (book_Sheets w0 _ [] b10 Bk.new [] _ ys.length (flatS ys) [(bt, 71, flatS ys ++ (mark_Sheet ++ (mark_Sheet ++ mark_Sheet)))] (by decide) (Frag.nil _ _) (fun s h => by cases h) (Nat.zero_le _) ⟨_, _, _, rfl⟩)) ?_
    rintro _ _ ⟨r1, HS, hFS, rfl⟩
    refine TL_nil ?_
    refine TX_then ?_
    refine TC_seq ?_
    refine TC_reg ?_
    refine TL_q rfl rfl (QT_move rfl rfl rfl) ?_
    refine TL_e rfl rfl rfl (rfl) (ET_call rfl YtlmbpdlobpcahaaDoorF.cal_13 rfl (book_Bytes w0 (HS ++ _) [] b10 { Bk.new with many := 0 + 1, sheets := r1 } [] pv (outP L ys).length (byV (outP L ys)) H1 (by dsimp only; omega) (Frag.nil _ _) (fun s h => by cases h) (Nat.zero_le _) ⟨_, _, _, hpv⟩)) ?_
    rintro _ _ ⟨r2, HT, hFT, rfl⟩
    refine TL_nil ?_
    refine TX_then ?_
    refine TC_seq ?_
    refine TC_reg ?_
    refine TL_q rfl rfl (QT_move rfl rfl rfl) ?_
    refine TL_q rfl rfl (QT_move rfl rfl rfl) ?_
    refine TL_q rfl rfl (QT_eql rfl rfl rfl rfl) ?_
    refine TL_q rfl rfl (QT_move rfl rfl rfl) ?_
    refine TL_q rfl rfl (QT_move rfl rfl rfl) ?_
    refine TL_q rfl rfl (QT_move rfl rfl rfl) ?_
    refine TL_cq rfl rfl rfl rfl YtlmbpdlobpcahaaDoorF.cal_21 rfl (fun _ => sameOk_Bytes w0 _ pv qv (outP L ys).length (byV (outP L ys)) (hF1.within fun p => by simp only [List.countP_append, List.countP_cons]; omega) (hF2.within fun p => by simp only [List.countP_append, List.countP_cons]; omega) hoi) ?_
    refine TL_q rfl rfl (QT_and rfl rfl rfl rfl) ?_
    refine TL_q rfl rfl (QT_move rfl rfl rfl) ?_
    refine TL_q rfl rfl (QT_move rfl rfl rfl) ?_
    refine TL_q rfl rfl (QT_move rfl rfl rfl) ?_
    refine TL_cq rfl rfl rfl rfl YtlmbpdlobpcahaaDoorF.cal_22 rfl (fun _ => left_Sheets w0 _ _ bt ys.length (flatS ys) ((hs []).mono fun _ h => h.cnt fun p => by simp only [List.countP_append, List.countP_cons, List.countP_nil]; omega) (by simp) hi (by omega)) ?_
    refine TL_q rfl rfl (QT_and rfl rfl rfl rfl) ?_
    refine TL_q rfl rfl (QT_move rfl rfl rfl) ?_
    refine TL_A (St w0 ((b10, 49, Bk.cells { Bk.new with many := 0 + 1 + 1, sheets := r1, bytes := r2 }) :: (HT ++ (HS ++ (heapOf [⟨pv, (outP L ys).length, byV (outP L ys), nilS, [.int .u8 (0 + 1 + 1)], H1⟩] ++ (heapOf [⟨.slice (some ⟨bt, 0, none⟩) ys.length (ys.length + 3), ys.length, flatS ys, nilS, shMark (0 + 1), [(bt, 71, flatS ys ++ (mark_Sheet ++ (mark_Sheet ++ mark_Sheet)))]⟩] ++ η)))))) (fun _ h => h.cnt fun p => by simp only [heapOf, List.map_cons, List.map_nil, List.flatten_cons, List.flatten_nil, List.countP_append, List.countP_cons, List.countP_nil]; omega) ?_
    refine TL_e rfl rfl rfl ((by simp)) (ET_call rfl YtlmbpdlobpcahaaDoorF.cal_17 rfl (apart_spec w0 η b10 { Bk.new with many := 0 + 1 + 1, sheets := r1, bytes := r2 } (by dsimp only; omega) _ HT hFT (fun s h => by
     cases List.mem_singleton.1 h
     exact ⟨hF1, .cons (show (Lit.int .u8 (0 + 1 + 1)).wf = true by decide) .nil, by show (outP L ys).length ≤ 2000000; omega⟩) _ HS hFS (fun s h => by
     cases List.mem_singleton.1 h
     exact ⟨twinFragS hxl hml (by omega), shMark_ints (by decide), by show ys.length ≤ 2000000; omega⟩) rfl rfl rfl rfl rfl rfl rfl rfl rfl rfl rfl)) ?_
    rintro _ _ ⟨rfl, rfl⟩
    refine TL_q rfl rfl (QT_and rfl rfl rfl rfl) ?_
    refine TL_q rfl rfl (QT_move rfl rfl rfl) ?_
    refine TL_cq rfl rfl rfl rfl YtlmbpdlobpcahaaDoorF.cal_9 rfl (fun _ => lives11 w0 _ hG) ?_
    refine TL_q rfl rfl (QT_and rfl rfl rfl rfl) ?_
    refine TL_q rfl rfl (QT_assign rfl rfl rfl) ?_
    refine TL_nil ?_
    refine TX_then ?_
    refine TC_ret ?_
    exact TX_ret (.inl rfl) (res1 rfl rfl) ⟨_, ⟨by simp, rfl⟩, fun _ h => h⟩
end Go.Proofs.YtlmbpdlobpcahaaDoor

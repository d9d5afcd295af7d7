/- THE LAW OF THE PATCHES: the program's answer is the chapter's, in new memory; the sheets stay as they were. -/
import Derived.Test.YtjipbndjcefbbaaDoorT12d
import Derived.Test.YtjipbndjcefbbaaDoorG12e
namespace Go.Proofs.YtjipbndjcefbbaaDoor
open Go Go.Gx Go.RowKit
set_option maxRecDepth 100000

theorem sameOk_Tiles (w0 : World) (η : Heap) (va vb : Value) (n : Nat) (xs : List Value) (ha : SlA (St w0 η) va 48 n xs) (hb : SlA (St w0 η) vb 48 n xs) (hi : Ints (rep n patchK) xs) :
    CallsT Tryd.prog 14 [va, vb] (St w0 η) fun v A' => v = .bool true ∧ A' = St w0 η := by
  have h := same_Tiles w0 η va vb n n xs xs ha hb hi hi
  rwa [eqC_refl hi] at h
theorem twinFrag {e b n : Nat} {xs mk : List Value} (hx : xs.length = n * 49) (hm : mk.length = 49) (hn : n ≤ 1000000) : Frag e 49 (.slice (some ⟨b, 0, none⟩) n (n + 3)) n xs [(b, e, xs ++ (mk ++ (mk ++ mk)))] :=
  ⟨hx, .inr ⟨b, n + 3, mk ++ (mk ++ mk), rfl, ⟨by omega, by omega⟩, by simp only [List.length_append, hx, hm]; omega, rfl⟩⟩
theorem cnt_len {L : Lay} {n : Nat} {xs : List Value} : cntT L n xs ≤ n := by unfold cntT; split <;> omega

theorem newCells : Bk.new.cells = [.int .i64 0, .slice none 0 0, .slice none 0 0, .slice none 0 0, .slice none 0 0, .slice none 0 0, .slice none 0 0, .slice none 0 0, .slice none 0 0, .slice none 0 0, .slice none 0 0, .slice none 0 0, .slice none 0 0, .slice none 0 0] := rfl
theorem law_tilesOf (w0 : World) (η : Heap) (hG : Sets w0) (hE : Edges w0) (L : Lay) (sv : Value) (n : Nat) (xs : List Value) (hs : SlA (St w0 η) sv 49 n xs) (hi : Ints (rep n sheetK) xs) :
    CallsT Tryd.prog 3 [L.val, sv] (St w0 η) fun v A' => v = .bool true ∧ A' = St w0 η := by
  obtain ⟨hl, ad, cap, rfl, hcap, hsr⟩ := hs
  have hs : ∀ X : Heap, SlA (St w0 (X ++ η)) (.slice ad n cap) 49 n xs := fun X => SlA.mono ⟨hl, ad, cap, rfl, hcap, hsr⟩ fun _ h => h.app_right
  have hml : mark_Sheet.length = 49 := rfl
  have hoi : Ints (rep (cntT L n xs) patchK) (outT L n xs) := outT_ints hi
  refine CallsT.body Tryd.func3 rfl rfl ?_
  simp only [Tryd.ntmps3, slotsOf, Nat.reduceAdd]
  refine TC_seq ?_
  refine TC_reg ?_
  refine TL_e rfl rfl rfl (rfl) (ET_box rfl rfl) ?_
  rintro _ _ ⟨b2, rfl, rfl⟩
  refine TL_q rfl rfl (QT_assign rfl rfl rfl) ?_
  refine TL_nil ?_
  refine TX_then ?_
  refine TC_seq ?_
  refine TC_seq ?_
  refine TC_reg ?_
  refine TL_q rfl rfl (QT_move rfl rfl rfl) ?_
  refine TL_q rfl rfl (QT_len rfl rfl Tryd.underlying28 rfl) ?_
  refine TL_q rfl rfl (QT_gtr rfl rfl rfl rfl) ?_
  refine TL_nil ?_
  refine TX_then ?_
  first
    | refine TC_cond_dec rfl (fun h15 => ?_) (fun h15 => ?_)
    | refine TC_cond rfl (fun h15 => ?_) (fun h15 => ?_)
  ·
    refine TC_seq ?_
    refine TC_reg ?_
    refine TL_cq rfl rfl rfl rfl YtjipbndjcefbbaaDoorF.cal_8 rfl (fun _ => lives12 w0 _ hG hE) ?_
    refine TL_q rfl rfl (QT_assign rfl rfl rfl) ?_
    refine TL_nil ?_
    refine TX_then ?_
    refine TC_ret ?_
    refine TX_then_ret ?_
    exact TX_ret (.inl rfl) (res1 rfl rfl) ⟨_, ⟨rfl, rfl⟩, (fun _ h => by first | exact h | exact h.tail | exact h.tail.tail | exact h.tail.tail.tail | exact h.tail.tail.tail.tail | exact h.tail.tail.tail.tail.tail | exact h.tail.tail.tail.tail.tail.tail | exact h.tail.tail.tail.tail.tail.tail.tail | exact h.tail.tail.tail.tail.tail.tail.tail.tail | exact h.tail.tail.tail.tail.tail.tail.tail.tail.tail | exact h.tail.tail.tail.tail.tail.tail.tail.tail.tail.tail | exact h.tail.tail.tail.tail.tail.tail.tail.tail.tail.tail.tail | exact h.tail.tail.tail.tail.tail.tail.tail.tail.tail.tail.tail.tail | exact h.tail.tail.tail.tail.tail.tail.tail.tail.tail.tail.tail.tail.tail)⟩
  ·
    refine TC_skip ?_
    refine TX_then ?_
    refine TC_seq ?_
    have hn : n ≤ 200 := by omega
    refine TC_reg ?_
    refine TL_q rfl rfl (QT_move rfl rfl rfl) ?_
    refine TL_e rfl rfl rfl (rfl) (ET_call rfl YtjipbndjcefbbaaDoorF.cal_9 rfl (twin_Sheets w0 _ _ n xs (hs [_]) hi (by omega))) ?_
    rintro _ _ ⟨bt, rfl, rfl⟩
    refine TL_q rfl rfl (QT_assign rfl rfl rfl) ?_
    refine TL_nil ?_
    refine TX_then ?_
    refine TC_seq ?_
    refine TC_reg ?_
    first
      | refine TL_q rfl rfl (QT_loadW 0 rfl rfl Tryd.underlying27 rfl rfl rfl YtjipbndjcefbbaaDoorF.sz_27) ?_
      | refine TL_q rfl rfl (QT_loadW 1 rfl rfl Tryd.underlying27 rfl rfl rfl YtjipbndjcefbbaaDoorF.sz_27) ?_
      | refine TL_q rfl rfl (QT_loadW 2 rfl rfl Tryd.underlying27 rfl rfl rfl YtjipbndjcefbbaaDoorF.sz_27) ?_
      | refine TL_q rfl rfl (QT_loadA 0 rfl rfl Tryd.underlying27 rfl rfl rfl YtjipbndjcefbbaaDoorF.sz_27 (fun _ => rfl)) ?_
      | refine TL_q rfl rfl (QT_loadA 1 rfl rfl Tryd.underlying27 rfl rfl rfl YtjipbndjcefbbaaDoorF.sz_27 (fun _ => rfl)) ?_
      | refine TL_q rfl rfl (QT_loadA 2 rfl rfl Tryd.underlying27 rfl rfl rfl YtjipbndjcefbbaaDoorF.sz_27 (fun _ => rfl)) ?_
    refine TL_q rfl rfl (QT_move rfl rfl rfl) ?_
    refine TL_e rfl rfl rfl (rfl) (ET_call rfl YtjipbndjcefbbaaDoorF.cal_10 rfl (of_spec w0 _ hG hE L _ n xs ((twinFrag (e := 64) hl hml (by omega)).within fun p => by simp only [List.countP_cons, List.countP_nil]; omega) hi (by omega))) ?_
    rintro _ _ ⟨pv, H1, rfl, hF1, rfl⟩
    refine TL_q rfl rfl (QT_move rfl rfl rfl) ?_
    refine TL_q rfl rfl (QT_extract rfl rfl rfl rfl) ?_
    refine TL_q rfl rfl (QT_extract rfl rfl rfl rfl) ?_
    refine TL_q rfl rfl (QT_assign rfl rfl rfl) ?_
    refine TL_q rfl rfl (QT_assign rfl rfl rfl) ?_
    refine TL_nil ?_
    refine TX_then ?_
    refine TC_seq ?_
    refine TC_A (St w0 ((b2, 27, L.val.cells.toList) :: (bt, 64, xs ++ (mark_Sheet ++ (mark_Sheet ++ mark_Sheet))) :: (H1 ++ η))) (fun _ h => h.cnt fun p => by simp only [List.countP_append, List.countP_cons]; omega) ?_
    refine TC_reg ?_
    first
      | refine TL_q rfl rfl (QT_loadW 0 rfl rfl Tryd.underlying27 rfl rfl rfl YtjipbndjcefbbaaDoorF.sz_27) ?_
      | refine TL_q rfl rfl (QT_loadW 1 rfl rfl Tryd.underlying27 rfl rfl rfl YtjipbndjcefbbaaDoorF.sz_27) ?_
      | refine TL_q rfl rfl (QT_loadW 2 rfl rfl Tryd.underlying27 rfl rfl rfl YtjipbndjcefbbaaDoorF.sz_27) ?_
      | refine TL_q rfl rfl (QT_loadA 0 rfl rfl Tryd.underlying27 rfl rfl rfl YtjipbndjcefbbaaDoorF.sz_27 (fun _ => rfl)) ?_
      | refine TL_q rfl rfl (QT_loadA 1 rfl rfl Tryd.underlying27 rfl rfl rfl YtjipbndjcefbbaaDoorF.sz_27 (fun _ => rfl)) ?_
      | refine TL_q rfl rfl (QT_loadA 2 rfl rfl Tryd.underlying27 rfl rfl rfl YtjipbndjcefbbaaDoorF.sz_27 (fun _ => rfl)) ?_
    refine TL_q rfl rfl (QT_move rfl rfl rfl) ?_
    refine TL_e rfl rfl rfl (rfl) (ET_call rfl YtjipbndjcefbbaaDoorF.cal_11 rfl (rof_spec w0 _ L _ n xs (hs (_ :: _ :: H1)) hi (by omega))) ?_
    rintro _ _ ⟨qv, H2, rfl, hF2, rfl⟩
    refine TL_q rfl rfl (QT_move rfl rfl rfl) ?_
    refine TL_q rfl rfl (QT_extract rfl rfl rfl rfl) ?_
    refine TL_q rfl rfl (QT_extract rfl rfl rfl rfl) ?_
    refine TL_q rfl rfl (QT_assign rfl rfl rfl) ?_
    refine TL_q rfl rfl (QT_assign rfl rfl rfl) ?_
    refine TL_nil ?_
    refine TX_then ?_
    refine TC_seq ?_
    refine TC_A (St w0 ((b2, 27, L.val.cells.toList) :: (bt, 64, xs ++ (mark_Sheet ++ (mark_Sheet ++ mark_Sheet))) :: (H1 ++ (H2 ++ η)))) (fun _ h => h.cnt fun p => by simp only [List.countP_append, List.countP_cons]; omega) ?_
    refine TC_reg ?_
    first
      | refine TL_q rfl rfl (QT_loadW 0 rfl rfl Tryd.underlying27 rfl rfl rfl YtjipbndjcefbbaaDoorF.sz_27) ?_
      | refine TL_q rfl rfl (QT_loadW 1 rfl rfl Tryd.underlying27 rfl rfl rfl YtjipbndjcefbbaaDoorF.sz_27) ?_
      | refine TL_q rfl rfl (QT_loadW 2 rfl rfl Tryd.underlying27 rfl rfl rfl YtjipbndjcefbbaaDoorF.sz_27) ?_
      | refine TL_q rfl rfl (QT_loadA 0 rfl rfl Tryd.underlying27 rfl rfl rfl YtjipbndjcefbbaaDoorF.sz_27 (fun _ => rfl)) ?_
      | refine TL_q rfl rfl (QT_loadA 1 rfl rfl Tryd.underlying27 rfl rfl rfl YtjipbndjcefbbaaDoorF.sz_27 (fun _ => rfl)) ?_
      | refine TL_q rfl rfl (QT_loadA 2 rfl rfl Tryd.underlying27 rfl rfl rfl YtjipbndjcefbbaaDoorF.sz_27 (fun _ => rfl)) ?_
    refine TL_q rfl rfl (QT_move rfl rfl rfl) ?_
    refine TL_e rfl rfl rfl (rfl) (ET_call rfl YtjipbndjcefbbaaDoorF.cal_10 rfl (of_spec w0 _ hG hE L _ n xs ((twinFrag (e := 64) hl hml (by omega)).within fun p => by simp only [List.countP_append, List.countP_cons, List.countP_nil]; omega) hi (by omega))) ?_
    rintro _ _ ⟨ov, H3, rfl, hF3, rfl⟩
    refine TL_q rfl rfl (QT_move rfl rfl rfl) ?_
    refine TL_q rfl rfl (QT_extract rfl rfl rfl rfl) ?_
    refine TL_q rfl rfl (QT_extract rfl rfl rfl rfl) ?_
    refine TL_q rfl rfl (QT_assign rfl rfl rfl) ?_
    refine TL_q rfl rfl (QT_assign rfl rfl rfl) ?_
    refine TL_nil ?_
    refine TX_then ?_
    refine TC_seq ?_
    refine TC_A (St w0 ((bt, 64, xs ++ (mark_Sheet ++ (mark_Sheet ++ mark_Sheet))) :: (H1 ++ (H2 ++ (H3 ++ η))))) (fun _ h => h.cnt fun p => by simp only [List.countP_append, List.countP_cons]; omega) ?_
    obtain ⟨pad, pcap, hpv, _, _⟩ := hF1.slice
    obtain ⟨oad, ocap, hov, _, _⟩ := hF3.slice
    refine TC_reg ?_
    refine TL_q rfl rfl (QT_build rfl rfl YtjipbndjcefbbaaDoorF.zero_49 YtjipbndjcefbbaaDoorF.pl_49 rfl rfl rfl) ?_
    refine TL_e rfl rfl rfl (rfl) (ET_alloc rfl YtjipbndjcefbbaaDoorF.zero_49) ?_
    rintro _ _ ⟨b12, rfl, rfl⟩
    first
      | refine TL_e0 rfl rfl (rfl) (ET_storeW 0 rfl rfl rfl YtjipbndjcefbbaaDoorF.sz_49 rfl rfl rfl) ?_
      | refine TL_e0 rfl rfl (rfl) (ET_storeW 1 rfl rfl rfl YtjipbndjcefbbaaDoorF.sz_49 rfl rfl rfl) ?_
      | refine TL_e0 rfl rfl (rfl) (ET_storeW 2 rfl rfl rfl YtjipbndjcefbbaaDoorF.sz_49 rfl rfl rfl) ?_
      | refine TL_e0 rfl rfl (rfl) (ET_store 0 rfl rfl rfl rfl YtjipbndjcefbbaaDoorF.sz_49 rfl rfl rfl) ?_
      | refine TL_e0 rfl rfl (rfl) (ET_store 1 rfl rfl rfl rfl YtjipbndjcefbbaaDoorF.sz_49 rfl rfl rfl) ?_
      | refine TL_e0 rfl rfl (rfl) (ET_store 2 rfl rfl rfl rfl YtjipbndjcefbbaaDoorF.sz_49 rfl rfl rfl) ?_
    rintro _ _ ⟨rfl, rfl⟩
    refine TL_nil ?_
    refine TX_then ?_
    refine TC_seq ?_
    refine TC_reg ?_
    refine TL_q rfl rfl (QT_move rfl rfl rfl) ?_
    refine TL_A (St w0 ((b12, 49, Bk.new.cells) :: ([] ++ ((bt, 64, xs ++ (mark_Sheet ++ (mark_Sheet ++ mark_Sheet))) :: (H1 ++ (H2 ++ (H3 ++ η))))))) (fun w h => by rw [newCells]; exact h) ?_
    refine TL_e rfl rfl rfl (rfl) (ET_call rfl YtjipbndjcefbbaaDoorF.cal_12 rfl (book_Sheets w0 _ [] b12 Bk.new [] _ n xs [(bt, 64, xs ++ (mark_Sheet ++ (mark_Sheet ++ mark_Sheet)))] (by decide) (Frag.nil _ _) (fun s h => by cases h) (Nat.zero_le _) ⟨_, _, _, rfl⟩)) ?_
    rintro _ _ ⟨r1, HS, hFS, rfl⟩
    refine TL_nil ?_
    refine TX_then ?_
    refine TC_seq ?_
    refine TC_reg ?_
    refine TL_q rfl rfl (QT_move rfl rfl rfl) ?_
    refine TL_e rfl rfl rfl (rfl) (ET_call rfl YtjipbndjcefbbaaDoorF.cal_13 rfl (book_Tiles w0 (HS ++ _) [] b12 { Bk.new with many := 0 + 1, sheets := r1 } [] pv (cntT L n xs) (outT L n xs) H1 (by dsimp only; omega) (Frag.nil _ _) (fun s h => by cases h) (Nat.zero_le _) ⟨_, _, _, hpv⟩)) ?_
    rintro _ _ ⟨r2, HT, hFT, rfl⟩
    refine TL_nil ?_
    refine TX_then ?_
    refine TC_seq ?_
    refine TC_reg ?_
    refine TL_q rfl rfl (QT_move rfl rfl rfl) ?_
    refine TL_e rfl rfl rfl (rfl) (ET_call rfl YtjipbndjcefbbaaDoorF.cal_13 rfl (book_Tiles w0 (HS ++ _) HT b12 { Bk.new with many := 0 + 1 + 1, sheets := r1, tiles := r2 } [⟨pv, cntT L n xs, outT L n xs, nilS, tlMark (0 + 1 + 1), H1⟩] ov (cntT L n xs) (outT L n xs) H3 (by dsimp only; omega) hFT (fun s h => by
     cases List.mem_singleton.1 h
     exact ⟨hF1, tlMark_ints (by decide), by have := @cnt_len L n xs; show cntT L n xs ≤ 2000000; omega⟩) (by simp) ⟨_, _, _, hov⟩)) ?_
    rintro _ _ ⟨r3, HT2, hFT2, rfl⟩
    refine TL_nil ?_
    refine TX_then ?_
    refine TC_seq ?_
    refine TC_reg ?_
    refine TL_q rfl rfl (QT_move rfl rfl rfl) ?_
    refine TL_q rfl rfl (QT_move rfl rfl rfl) ?_
    refine TL_q rfl rfl (QT_eql rfl rfl rfl rfl) ?_
    refine TL_q rfl rfl (QT_move rfl rfl rfl) ?_
    refine TL_q rfl rfl (QT_move rfl rfl rfl) ?_
    refine TL_q rfl rfl (QT_move rfl rfl rfl) ?_
    refine TL_cq rfl rfl rfl rfl YtjipbndjcefbbaaDoorF.cal_14 rfl (fun _ => sameOk_Tiles w0 _ pv qv (cntT L n xs) (outT L n xs) (hF1.within fun p => by simp only [List.countP_append, List.countP_cons]; omega) (hF2.within fun p => by simp only [List.countP_append, List.countP_cons]; omega) hoi) ?_
    refine TL_q rfl rfl (QT_and rfl rfl rfl rfl) ?_
    refine TL_q rfl rfl (QT_move rfl rfl rfl) ?_
    refine TL_q rfl rfl (QT_move rfl rfl rfl) ?_
    refine TL_q rfl rfl (QT_move rfl rfl rfl) ?_
    refine TL_cq rfl rfl rfl rfl YtjipbndjcefbbaaDoorF.cal_15 rfl (fun _ => left_Sheets w0 _ _ bt n xs ((hs []).mono fun _ h => h.cnt fun p => by simp only [List.countP_append, List.countP_cons, List.countP_nil]; omega) (by simp) hi (by omega)) ?_
    refine TL_q rfl rfl (QT_and rfl rfl rfl rfl) ?_
    refine TL_q rfl rfl (QT_move rfl rfl rfl) ?_
    refine TL_A (St w0 ((b12, 49, Bk.cells { Bk.new with many := 0 + 1 + 1 + 1, sheets := r1, tiles := r3 }) :: (HS ++ (HT2 ++ (heapOf [⟨.slice (some ⟨bt, 0, none⟩) n (n + 3), n, xs, nilS, shMark (0 + 1), [(bt, 64, xs ++ (mark_Sheet ++ (mark_Sheet ++ mark_Sheet)))]⟩] ++ (heapOf [⟨pv, cntT L n xs, outT L n xs, nilS, tlMark (0 + 1 + 1), H1⟩, ⟨ov, cntT L n xs, outT L n xs, nilS, tlMark (0 + 1 + 1 + 1), H3⟩] ++ η)))))) (fun _ h => h.cnt fun p => by simp only [heapOf, List.map_cons, List.map_nil, List.flatten_cons, List.flatten_nil, List.countP_append, List.countP_cons, List.countP_nil]; omega) ?_
    refine TL_e rfl rfl rfl ((by simp)) (ET_call rfl YtjipbndjcefbbaaDoorF.cal_16 rfl (apart_spec w0 η b12 { Bk.new with many := 0 + 1 + 1 + 1, sheets := r1, tiles := r3 } (by dsimp only; omega) _ HS hFS (fun s h => by
     cases List.mem_singleton.1 h
     exact ⟨twinFrag hl hml (by omega), shMark_ints (by decide), by show n ≤ 2000000; omega⟩) _ HT2 hFT2 (fun s h => by
     have hc : cntT L n xs ≤ 2000000 := by have := @cnt_len L n xs; omega
     rcases List.mem_cons.1 h with rfl | h
     · exact ⟨hF1, tlMark_ints (by decide), hc⟩
     · cases List.mem_singleton.1 h
       exact ⟨hF3, tlMark_ints (by decide), hc⟩) rfl rfl rfl rfl rfl rfl rfl rfl rfl rfl rfl)) ?_
    rintro _ _ ⟨rfl, rfl⟩
    refine TL_q rfl rfl (QT_and rfl rfl rfl rfl) ?_
    refine TL_q rfl rfl (QT_move rfl rfl rfl) ?_
    refine TL_cq rfl rfl rfl rfl YtjipbndjcefbbaaDoorF.cal_8 rfl (fun _ => lives12 w0 _ hG hE) ?_
    refine TL_q rfl rfl (QT_and rfl rfl rfl rfl) ?_
    refine TL_q rfl rfl (QT_assign rfl rfl rfl) ?_
    refine TL_nil ?_
    refine TX_then ?_
    refine TC_ret ?_
    exact TX_ret (.inl rfl) (res1 rfl rfl) ⟨_, ⟨by simp, rfl⟩, fun _ h => h⟩
end Go.Proofs.YtjipbndjcefbbaaDoor

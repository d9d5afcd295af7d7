/- THE LAW OF THE TRIANGLES: the program's answer is the chapter's, in new memory; the vertices stay as they were. -/
import Derived.Test.YtannaanbadaflaaDoorT10i
import Derived.Test.YtannaanbadaflaaDoorG01e
import Derived.Test.YtannaanbadaflaaDoorG10e
namespace Go.Proofs.YtannaanbadaflaaDoor
open Go Go.Gx Go.RowKit
set_option maxRecDepth 100000

theorem tris_flat {L : Lay} {rs : List R} (ha : All7 rs) : Ints (rep (trioF L rs).1.length triK) (trioF L rs).1.flatten := flat_ints (s := 21) (trio_ints ha).1
theorem sameOk_Tris (w0 : World) (η : Heap) (va vb : Value) (n : Nat) (xs : List Value) (ha : SlA (St w0 η) va 21 n xs) (hb : SlA (St w0 η) vb 21 n xs) (hi : Ints (rep n triK) xs) :
    CallsT Tryd.prog 14 [va, vb] (St w0 η) fun v A' => v = .bool true ∧ A' = St w0 η := by
  have h := same_Tris w0 η va vb n n xs xs ha hb hi hi
  rwa [eqC_refl hi] at h
theorem twinFragR {e b n : Nat} {xs mk : List Value} (hx : xs.length = n * 7) (hm : mk.length = 7) (hn : n ≤ 1000000) : Frag e 7 (.slice (some ⟨b, 0, none⟩) n (n + 3)) n xs [(b, e, xs ++ (mk ++ (mk ++ mk)))] :=
  ⟨hx, .inr ⟨b, n + 3, mk ++ (mk ++ mk), rfl, ⟨by omega, by omega⟩, by simp only [List.length_append, hx, hm]; omega, rfl⟩⟩
theorem newCells : Bk.new.cells = [.int .i64 0, .slice none 0 0, .slice none 0 0, .slice none 0 0, .slice none 0 0, .slice none 0 0, .slice none 0 0, .slice none 0 0, .slice none 0 0, .slice none 0 0, .slice none 0 0, .slice none 0 0, .slice none 0 0, .slice none 0 0] := rfl
theorem law_triosOf (w0 : World) (η : Heap) (hG : Sets w0) (L : Lay) (sv : Value) (rs : List R) (hs : SlA (St w0 η) sv 7 rs.length rs.flatten) (ha : All7 rs) :
    CallsT Tryd.prog 3 [L.val, sv] (St w0 η) fun v A' => v = .bool true ∧ A' = St w0 η := by
  obtain ⟨hl, ad, cap, rfl, hcap, hsr⟩ := hs
  have hs : ∀ X : Heap, SlA (St w0 (X ++ η)) (.slice ad rs.length cap) 7 rs.length rs.flatten := fun X => SlA.mono ⟨hl, ad, cap, rfl, hcap, hsr⟩ fun _ h => h.app_right
  have hml : mark_Rec.length = 7 := rfl
  have hi : Ints (rep rs.length recK) rs.flatten := flat_ints (s := 7) ha
  have hoi := tris_flat (L := L) ha
  have hol := (trio_ints (L := L) ha).2
  obtain ⟨ts, hts⟩ : ∃ ts, ts = trioF L rs := ⟨_, rfl⟩
  rw [← hts] at hoi hol
  obtain ⟨n, hn0⟩ : ∃ n, n = rs.length := ⟨_, rfl⟩
  obtain ⟨xs, hxs⟩ : ∃ xs, xs = rs.flatten := ⟨_, rfl⟩
  have hofs := fun (X : Heap) (v : Value) (h : SlA (St w0 X) v 7 rs.length rs.flatten) (hb : rs.length * 120 ≤ 140737488355328) => of_spec w0 X hG L v rs h ha hb
  have hrofs := fun (X : Heap) (v : Value) (h : SlA (St w0 X) v 7 rs.length rs.flatten) (hb : rs.length * 120 ≤ 140737488355328) => rof_spec w0 X L v rs h ha hb
  rw [← hn0] at hs hi hol hl hcap hofs hrofs hsr ⊢
  rw [← hxs] at hs hi hl hofs hrofs hsr
  rw [← hts] at hofs hrofs
  clear hts hxs hn0 ha
  refine CallsT.body Tryd.func3 rfl rfl ?_
  simp only [Tryd.ntmps3, slotsOf, Nat.reduceAdd]
  refine TC_seq ?_
  refine TC_reg ?_
  refine TL_e rfl rfl rfl (rfl) (ET_box rfl rfl) ?_
  rintro _ _ ⟨b2, rfl, rfl⟩
  refine TL_q rfl rfl (QT_assign rfl rfl rfl) ?_
  refine TL_nil ?_
  refine TX_then ?_
  refine TC_seq ?_
  refine TC_seq ?_
  refine TC_reg ?_
  refine TL_q rfl rfl (QT_move rfl rfl rfl) ?_
  refine TL_q rfl rfl (QT_len rfl rfl Tryd.underlying28 rfl) ?_
  refine TL_q rfl rfl (QT_gtr rfl rfl rfl rfl) ?_
  refine TL_nil ?_
  refine TX_then ?_
  first
    | refine TC_cond_dec rfl (fun h15 => ?_) (fun h15 => ?_)
    | refine TC_cond rfl (fun h15 => ?_) (fun h15 => ?_)
  ·
    refine TC_seq ?_
    refine TC_reg ?_
    refine TL_cq rfl rfl rfl rfl YtannaanbadaflaaDoorF.cal_8 rfl (fun _ => lives10 w0 _ hG) ?_
    refine TL_q rfl rfl (QT_assign rfl rfl rfl) ?_
    refine TL_nil ?_
    refine TX_then ?_
    refine TC_ret ?_
    refine TX_then_ret ?_
    exact TX_ret (.inl rfl) (res1 rfl rfl) ⟨_, ⟨rfl, rfl⟩, (fun _ h => by first | exact h | exact h.tail | exact h.tail.tail | exact h.tail.tail.tail | exact h.tail.tail.tail.tail | exact h.tail.tail.tail.tail.tail | exact h.tail.tail.tail.tail.tail.tail | exact h.tail.tail.tail.tail.tail.tail.tail | exact h.tail.tail.tail.tail.tail.tail.tail.tail | exact h.tail.tail.tail.tail.tail.tail.tail.tail.tail | exact h.tail.tail.tail.tail.tail.tail.tail.tail.tail.tail | exact h.tail.tail.tail.tail.tail.tail.tail.tail.tail.tail.tail | exact h.tail.tail.tail.tail.tail.tail.tail.tail.tail.tail.tail.tail | exact h.tail.tail.tail.tail.tail.tail.tail.tail.tail.tail.tail.tail.tail)⟩
  ·
    refine TC_skip ?_
    refine TX_then ?_
    refine TC_seq ?_
    have hn : n ≤ 500 := by omega
    refine TC_reg ?_
    refine TL_q rfl rfl (QT_move rfl rfl rfl) ?_
    refine TL_e rfl rfl rfl (rfl) (ET_call rfl YtannaanbadaflaaDoorF.cal_9 rfl (twin_Recs w0 _ _ n xs (hs [_]) hi (by omega))) ?_
    rintro _ _ ⟨bt, rfl, rfl⟩
    refine TL_q rfl rfl (QT_assign rfl rfl rfl) ?_
    refine TL_nil ?_
    refine TX_then ?_
    refine TC_seq ?_
    refine TC_reg ?_
    first
      | refine TL_q rfl rfl (QT_loadW 0 rfl rfl Tryd.underlying27 rfl rfl rfl YtannaanbadaflaaDoorF.sz_27) ?_
      | refine TL_q rfl rfl (QT_loadW 1 rfl rfl Tryd.underlying27 rfl rfl rfl YtannaanbadaflaaDoorF.sz_27) ?_
      | refine TL_q rfl rfl (QT_loadW 2 rfl rfl Tryd.underlying27 rfl rfl rfl YtannaanbadaflaaDoorF.sz_27) ?_
      | refine TL_q rfl rfl (QT_loadA 0 rfl rfl Tryd.underlying27 rfl rfl rfl YtannaanbadaflaaDoorF.sz_27 (fun _ => rfl)) ?_
      | refine TL_q rfl rfl (QT_loadA 1 rfl rfl Tryd.underlying27 rfl rfl rfl YtannaanbadaflaaDoorF.sz_27 (fun _ => rfl)) ?_
      | refine TL_q rfl rfl (QT_loadA 2 rfl rfl Tryd.underlying27 rfl rfl rfl YtannaanbadaflaaDoorF.sz_27 (fun _ => rfl)) ?_
    refine TL_q rfl rfl (QT_move rfl rfl rfl) ?_
    refine TL_e rfl rfl rfl (rfl) (ET_call rfl YtannaanbadaflaaDoorF.cal_10 rfl (hofs _ _ ((twinFragR (e := 63) hl hml (by omega)).within fun p => by simp only [List.countP_cons, List.countP_nil]; omega) (by omega))) ?_
    rintro _ _ ⟨pv, H1, rfl, hF1, X1, rfl⟩
    refine TL_q rfl rfl (QT_move rfl rfl rfl) ?_
    refine TL_q rfl rfl (QT_extract rfl rfl rfl rfl) ?_
    refine TL_q rfl rfl (QT_extract rfl rfl rfl rfl) ?_
    refine TL_q rfl rfl (QT_assign rfl rfl rfl) ?_
    refine TL_q rfl rfl (QT_assign rfl rfl rfl) ?_
    refine TL_nil ?_
    refine TX_then ?_
    refine TC_seq ?_
    refine TC_A (St w0 ((b2, 27, L.val.cells.toList) :: (bt, 63, xs ++ (mark_Rec ++ (mark_Rec ++ mark_Rec))) :: (H1 ++ η))) (fun _ h => h.cnt fun p => by simp only [List.countP_append, List.countP_cons]; omega) ?_
    refine TC_reg ?_
    first
      | refine TL_q rfl rfl (QT_loadW 0 rfl rfl Tryd.underlying27 rfl rfl rfl YtannaanbadaflaaDoorF.sz_27) ?_
      | refine TL_q rfl rfl (QT_loadW 1 rfl rfl Tryd.underlying27 rfl rfl rfl YtannaanbadaflaaDoorF.sz_27) ?_
      | refine TL_q rfl rfl (QT_loadW 2 rfl rfl Tryd.underlying27 rfl rfl rfl YtannaanbadaflaaDoorF.sz_27) ?_
      | refine TL_q rfl rfl (QT_loadA 0 rfl rfl Tryd.underlying27 rfl rfl rfl YtannaanbadaflaaDoorF.sz_27 (fun _ => rfl)) ?_
      | refine TL_q rfl rfl (QT_loadA 1 rfl rfl Tryd.underlying27 rfl rfl rfl YtannaanbadaflaaDoorF.sz_27 (fun _ => rfl)) ?_
      | refine TL_q rfl rfl (QT_loadA 2 rfl rfl Tryd.underlying27 rfl rfl rfl YtannaanbadaflaaDoorF.sz_27 (fun _ => rfl)) ?_
    refine TL_q rfl rfl (QT_move rfl rfl rfl) ?_
    refine TL_e rfl rfl rfl (rfl) (ET_call rfl YtannaanbadaflaaDoorF.cal_11 rfl (hrofs _ _ (hs (_ :: _ :: H1)) (by omega))) ?_
    rintro _ _ ⟨qv, H2, rfl, hF2, rfl⟩
    refine TL_q rfl rfl (QT_move rfl rfl rfl) ?_
    refine TL_q rfl rfl (QT_extract rfl rfl rfl rfl) ?_
    refine TL_q rfl rfl (QT_extract rfl rfl rfl rfl) ?_
    refine TL_q rfl rfl (QT_assign rfl rfl rfl) ?_
    refine TL_q rfl rfl (QT_assign rfl rfl rfl) ?_
    refine TL_nil ?_
    refine TX_then ?_
    refine TC_seq ?_
    refine TC_A (St w0 ((b2, 27, L.val.cells.toList) :: (bt, 63, xs ++ (mark_Rec ++ (mark_Rec ++ mark_Rec))) :: (H1 ++ (H2 ++ η)))) (fun _ h => h.cnt fun p => by simp only [List.countP_append, List.countP_cons]; omega) ?_
    refine TC_reg ?_
    first
      | refine TL_q rfl rfl (QT_loadW 0 rfl rfl Tryd.underlying27 rfl rfl rfl YtannaanbadaflaaDoorF.sz_27) ?_
      | refine TL_q rfl rfl (QT_loadW 1 rfl rfl Tryd.underlying27 rfl rfl rfl YtannaanbadaflaaDoorF.sz_27) ?_
      | refine TL_q rfl rfl (QT_loadW 2 rfl rfl Tryd.underlying27 rfl rfl rfl YtannaanbadaflaaDoorF.sz_27) ?_
      | refine TL_q rfl rfl (QT_loadA 0 rfl rfl Tryd.underlying27 rfl rfl rfl YtannaanbadaflaaDoorF.sz_27 (fun _ => rfl)) ?_
      | refine TL_q rfl rfl (QT_loadA 1 rfl rfl Tryd.underlying27 rfl rfl rfl YtannaanbadaflaaDoorF.sz_27 (fun _ => rfl)) ?_
      | refine TL_q rfl rfl (QT_loadA 2 rfl rfl Tryd.underlying27 rfl rfl rfl YtannaanbadaflaaDoorF.sz_27 (fun _ => rfl)) ?_
    refine TL_q rfl rfl (QT_move rfl rfl rfl) ?_
    refine TL_e rfl rfl rfl (rfl) (ET_call rfl YtannaanbadaflaaDoorF.cal_10 rfl (hofs _ _ ((twinFragR (e := 63) hl hml (by omega)).within fun p => by simp only [List.countP_append, List.countP_cons, List.countP_nil]; omega) (by omega))) ?_
    rintro _ _ ⟨ov, H3, rfl, hF3, X3, rfl⟩
    refine TL_q rfl rfl (QT_move rfl rfl rfl) ?_
    refine TL_q rfl rfl (QT_extract rfl rfl rfl rfl) ?_
    refine TL_q rfl rfl (QT_extract rfl rfl rfl rfl) ?_
    refine TL_q rfl rfl (QT_assign rfl rfl rfl) ?_
    refine TL_q rfl rfl (QT_assign rfl rfl rfl) ?_
    refine TL_nil ?_
    refine TX_then ?_
    refine TC_seq ?_
    refine TC_A (St w0 ((bt, 63, xs ++ (mark_Rec ++ (mark_Rec ++ mark_Rec))) :: (H1 ++ (H2 ++ (H3 ++ η))))) (fun _ h => h.cnt fun p => by simp only [List.countP_append, List.countP_cons]; omega) ?_
    obtain ⟨pad, pcap, hpv, _, _⟩ := hF1.slice
    obtain ⟨oad, ocap, hov, _, _⟩ := hF3.slice
    refine TC_reg ?_
    refine TL_q rfl rfl (QT_build rfl rfl YtannaanbadaflaaDoorF.zero_49 YtannaanbadaflaaDoorF.pl_49 rfl rfl rfl) ?_
    refine TL_e rfl rfl rfl (rfl) (ET_alloc rfl YtannaanbadaflaaDoorF.zero_49) ?_
    rintro _ _ ⟨b12, rfl, rfl⟩
    first
      | refine TL_e0 rfl rfl (rfl) (ET_storeW 0 rfl rfl rfl YtannaanbadaflaaDoorF.sz_49 rfl rfl rfl) ?_
      | refine TL_e0 rfl rfl (rfl) (ET_storeW 1 rfl rfl rfl YtannaanbadaflaaDoorF.sz_49 rfl rfl rfl) ?_
      | refine TL_e0 rfl rfl (rfl) (ET_storeW 2 rfl rfl rfl YtannaanbadaflaaDoorF.sz_49 rfl rfl rfl) ?_
      | refine TL_e0 rfl rfl (rfl) (ET_store 0 rfl rfl rfl rfl YtannaanbadaflaaDoorF.sz_49 rfl rfl rfl) ?_
      | refine TL_e0 rfl rfl (rfl) (ET_store 1 rfl rfl rfl rfl YtannaanbadaflaaDoorF.sz_49 rfl rfl rfl) ?_
      | refine TL_e0 rfl rfl (rfl) (ET_store 2 rfl rfl rfl rfl YtannaanbadaflaaDoorF.sz_49 rfl rfl rfl) ?_
    rintro _ _ ⟨rfl, rfl⟩
    refine TL_nil ?_
    refine TX_then ?_
    refine TC_seq ?_
    refine TC_reg ?_
    refine TL_q rfl rfl (QT_move rfl rfl rfl) ?_
    refine TL_A (St w0 ((b12, 49, Bk.new.cells) :: ([] ++ ((bt, 63, xs ++ (mark_Rec ++ (mark_Rec ++ mark_Rec))) :: (H1 ++ (H2 ++ (H3 ++ η))))))) (fun w h => by rw [newCells]; exact h) ?_
    refine TL_e rfl rfl rfl (rfl) (ET_call rfl YtannaanbadaflaaDoorF.cal_12 rfl (book_Recs w0 _ [] b12 Bk.new [] _ n xs [(bt, 63, xs ++ (mark_Rec ++ (mark_Rec ++ mark_Rec)))] (by decide) (Frag.nil _ _) (fun s h => by cases h) (Nat.zero_le _) ⟨_, _, _, rfl⟩)) ?_
    rintro _ _ ⟨r1, HS, hFS, rfl⟩
    refine TL_nil ?_
    refine TX_then ?_
    refine TC_seq ?_
    refine TC_reg ?_
    refine TL_q rfl rfl (QT_move rfl rfl rfl) ?_
    refine TL_e rfl rfl rfl (rfl) (ET_call rfl YtannaanbadaflaaDoorF.cal_13 rfl (book_Tris w0 (HS ++ _) [] b12 { Bk.new with many := 0 + 1, recs := r1 } [] pv ts.1.length ts.1.flatten H1 (by dsimp only; omega) (Frag.nil _ _) (fun s h => by cases h) (Nat.zero_le _) ⟨_, _, _, hpv⟩)) ?_
    rintro _ _ ⟨r2, HT, hFT, rfl⟩
    refine TL_nil ?_
    refine TX_then ?_
    refine TC_seq ?_
    refine TC_reg ?_
    refine TL_q rfl rfl (QT_move rfl rfl rfl) ?_
    refine TL_e rfl rfl rfl (rfl) (ET_call rfl YtannaanbadaflaaDoorF.cal_13 rfl (book_Tris w0 (HS ++ _) HT b12 { Bk.new with many := 0 + 1 + 1, recs := r1, tris := r2 } [⟨pv, ts.1.length, ts.1.flatten, nilS, trMark (0 + 1 + 1), H1⟩] ov ts.1.length ts.1.flatten H3 (by dsimp only; omega) hFT (fun s h => by
     cases List.mem_singleton.1 h
     exact ⟨hF1, trMark_ints (by decide), by show ts.1.length ≤ 2000000; omega⟩) (by simp) ⟨_, _, _, hov⟩)) ?_
    rintro _ _ ⟨r3, HT2, hFT2, rfl⟩
    refine TL_nil ?_
    refine TX_then ?_
    refine TC_seq ?_
    refine TC_reg ?_
    refine TL_q rfl rfl (QT_move rfl rfl rfl) ?_
    refine TL_q rfl rfl (QT_move rfl rfl rfl) ?_
    refine TL_q rfl rfl (QT_eql rfl rfl rfl rfl) ?_
    refine TL_q rfl rfl (QT_move rfl rfl rfl) ?_
    refine TL_q rfl rfl (QT_move rfl rfl rfl) ?_
    refine TL_q rfl rfl (QT_move rfl rfl rfl) ?_
    refine TL_cq rfl rfl rfl rfl YtannaanbadaflaaDoorF.cal_14 rfl (fun _ => sameOk_Tris w0 _ pv qv ts.1.length ts.1.flatten (hF1.within fun p => by simp only [List.countP_append, List.countP_cons]; omega) (hF2.within fun p => by simp only [List.countP_append, List.countP_cons]; omega) hoi) ?_
    refine TL_q rfl rfl (QT_and rfl rfl rfl rfl) ?_
    refine TL_q rfl rfl (QT_move rfl rfl rfl) ?_
    refine TL_q rfl rfl (QT_move rfl rfl rfl) ?_
    refine TL_q rfl rfl (QT_move rfl rfl rfl) ?_
    refine TL_cq rfl rfl rfl rfl YtannaanbadaflaaDoorF.cal_15 rfl (fun _ => left_Recs w0 _ _ bt n xs ((hs []).mono fun _ h => h.cnt fun p => by simp only [List.countP_append, List.countP_cons, List.countP_nil]; omega) (by simp) hi (by omega)) ?_
    refine TL_q rfl rfl (QT_and rfl rfl rfl rfl) ?_
    refine TL_q rfl rfl (QT_move rfl rfl rfl) ?_
    refine TL_A (St w0 ((b12, 49, Bk.cells { Bk.new with many := 0 + 1 + 1 + 1, recs := r1, tris := r3 }) :: (HS ++ (HT2 ++ (heapOf [⟨.slice (some ⟨bt, 0, none⟩) n (n + 3), n, xs, nilS, rcMark (0 + 1), [(bt, 63, xs ++ (mark_Rec ++ (mark_Rec ++ mark_Rec)))]⟩] ++ (heapOf [⟨pv, ts.1.length, ts.1.flatten, nilS, trMark (0 + 1 + 1), H1⟩, ⟨ov, ts.1.length, ts.1.flatten, nilS, trMark (0 + 1 + 1 + 1), H3⟩] ++ η)))))) (fun _ h => h.cnt fun p => by simp only [heapOf, List.map_cons, List.map_nil, List.flatten_cons, List.flatten_nil, List.countP_append, List.countP_cons, List.countP_nil]; omega) ?_
    refine TL_e rfl rfl rfl ((by simp)) (ET_call rfl YtannaanbadaflaaDoorF.cal_16 rfl (apart_spec w0 η b12 { Bk.new with many := 0 + 1 + 1 + 1, recs := r1, tris := r3 } (by dsimp only; omega) _ HS hFS (fun s h => by
     cases List.mem_singleton.1 h
     exact ⟨twinFragR hl hml (by omega), rcMark_ints (by decide), by show n ≤ 2000000; omega⟩) _ HT2 hFT2 (fun s h => by
     have hc : ts.1.length ≤ 2000000 := by omega
     rcases List.mem_cons.1 h with rfl | h
     · exact ⟨hF1, trMark_ints (by decide), hc⟩
     · cases List.mem_singleton.1 h
       exact ⟨hF3, trMark_ints (by decide), hc⟩) rfl rfl rfl rfl rfl rfl rfl rfl rfl rfl rfl)) ?_
    rintro _ _ ⟨rfl, rfl⟩
    refine TL_q rfl rfl (QT_and rfl rfl rfl rfl) ?_
    refine TL_q rfl rfl (QT_move rfl rfl rfl) ?_
    refine TL_cq rfl rfl rfl rfl YtannaanbadaflaaDoorF.cal_8 rfl (fun _ => lives10 w0 _ hG) ?_
    refine TL_q rfl rfl (QT_and rfl rfl rfl rfl) ?_
    refine TL_q rfl rfl (QT_assign rfl rfl rfl) ?_
    refine TL_nil ?_
    refine TX_then ?_
    refine TC_ret ?_
    exact TX_ret (.inl rfl) (res1 rfl rfl) ⟨_, ⟨by simp, rfl⟩, fun _ h => h⟩
end Go.Proofs.YtannaanbadaflaaDoor

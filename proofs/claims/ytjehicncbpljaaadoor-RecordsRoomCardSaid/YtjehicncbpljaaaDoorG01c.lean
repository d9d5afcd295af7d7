/- THE BOOK: fill, grow, marked, for each kind of list of structs. -/
import Derived.Test.YtjehicncbpljaaaDoorG01b
import Derived.Test.YtjehicncbpljaaaDoorG
namespace Go.Proofs.YtjehicncbpljaaaDoor
open Go Go.Gx Go.RowKit
set_option maxRecDepth 100000

theorem fill_Rec (w0 : Base) (η : Heap) (va : Value) (ss : List Strip) (hs : ∀ s ∈ ss, s.ok 67 7 recK) (ha : SlA (St w0 η) va 9 ss.length (arrOf ss)) :
    CallsT Tryd.prog 41 [va] (St w0 (heapOf ss ++ η)) fun _ A' => A' = St w0 (heapOf (ss.map (fillS 7)) ++ η) := by
  have hml : ∀ s ∈ ss, s.mark.length = 7 := fun s h => (hs s h).mints.length
  obtain ⟨hal, ada, ca, rfl, ⟨hca, hca2⟩, hra⟩ := ha
  refine CallsT.body Tryd.func41 rfl rfl ?_
  simp only [Tryd.ntmps41, slotsOf, Nat.reduceAdd]
  refine TC_seq ?_
  refine TC_reg ?_
  refine TL_q rfl rfl (QT_assign rfl rfl rfl) ?_
  refine TL_nil ?_
  refine TX_then ?_
  refine TC_block ?_
  refine TC_loop (γ := {i : Nat // i ≤ ss.length}) (fun t => [(0, true, .slice ada ss.length ca), (2, true, .int .i64 (t.1 : Int))]) (fun t => St w0 (heapOf ((ss.take t.1).map (fillS 7)) ++ (heapOf (ss.drop t.1) ++ η))) (fun t => ss.length - t.1) ⟨0, by omega⟩ ⟨rfl, rfl, trivial⟩ (fun _ h => by simpa [heapOf] using h) ?_
  rintro ⟨i, hi⟩
  dsimp only
  refine TC_seq ?_
  refine TC_seq ?_
  refine TC_reg ?_
  refine TL_q rfl rfl (QT_move rfl rfl rfl) ?_
  refine TL_q rfl rfl (QT_move rfl rfl rfl) ?_
  refine TL_q rfl rfl (QT_len rfl rfl Tryd.underlying38 rfl) ?_
  refine TL_q rfl rfl (QT_lss rfl rfl rfl rfl) ?_
  refine TL_nil ?_
  refine TX_then ?_
  first
    | refine TC_cond_dec rfl (fun h7 => ?_) (fun h7 => ?_)
    | refine TC_cond rfl (fun h7 => ?_) (fun h7 => ?_)
  ·
    refine TC_skip ?_
    refine TX_then ?_
    refine TC_seq ?_
    refine TC_block ?_
    refine TC_seq ?_
    have hin : i < ss.length := by omega
    obtain ⟨ba, oa, rfl, hrA⟩ := hra.resolve_left (by omega)
    obtain ⟨s, hsi⟩ : ∃ s, ss[i]? = some s := ⟨_, List.getElem?_eq_getElem hin⟩
    obtain ⟨hat1, hat2, hat3, hat4⟩ := arrOf_at hml hsi
    have hdrop : ss.drop i = s :: ss.drop (i + 1) := by
      rw [List.drop_eq_getElem_cons hin]
      congr 1
      exact (List.getElem?_eq_some_iff.1 hsi).2
    have htake : (ss.take (i + 1)).map (fillS 7) = (ss.take i).map (fillS 7) ++ [fillS 7 s] := by
      rw [List.take_add_one, hsi]; simp
    have hok := hs s (List.mem_of_getElem? hsi)
    have hmls := hml s (List.mem_of_getElem? hsi)
    rw [hdrop, heapOf_cons]
    obtain ⟨sv, sn, sxs, slong, smk, sH⟩ := s
    obtain ⟨⟨hfl, hfr⟩, hmk, hfew⟩ := hok
    dsimp only at hfl hfr hmk hfew hmls hat1 hat2 hat3 hat4
    have hsv : ∃ sad scap, sv = .slice sad sn scap := by
      rcases hfr with ⟨rfl, rfl, _⟩ | ⟨b, cap, rest, rfl, _⟩
      · exact ⟨_, _, rfl⟩
      · exact ⟨_, _, rfl⟩
    obtain ⟨sad, scap, rfl⟩ := hsv
    refine TC_reg ?_
    refine TL_q rfl rfl (QT_assign rfl rfl rfl) ?_
    refine TL_nil ?_
    refine TX_then ?_
    refine TC_block ?_
    refine TC_loop (γ := {k : Nat // k ≤ sn}) (fun t => [(0, true, .slice (some ⟨ba, oa, none⟩) ss.length ca), (2, true, .int .i64 (i : Int)), (3, true, .int .i64 (t.1 : Int))]) (fun t => St w0 (fillH 7 t.1 smk sH ++ (heapOf ((ss.take i).map (fillS 7)) ++ (heapOf (ss.drop (i + 1)) ++ η)))) (fun t => sn - t.1) ⟨0, by omega⟩ ⟨rfl, rfl, rfl, trivial⟩ (fun _ h => h.cnt (fun p => by simp only [fillH_zero, List.countP_append]; omega)) ?_
    rintro ⟨k, hk⟩
    dsimp only
    refine TC_seq ?_
    refine TC_seq ?_
    refine TC_reg ?_
    refine TL_q rfl rfl (QT_move rfl rfl rfl) ?_
    refine TL_q rfl rfl (QT_move rfl rfl rfl) ?_
    refine TL_q rfl rfl (QT_move rfl rfl rfl) ?_
    refine TL_q rfl rfl (QT_indexSlice (i) rfl rfl Tryd.underlying38 YtjehicncbpljaaaDoorF.sz_96 rfl rfl (rfl) (fun _ => hin)) ?_
    refine TL_q rfl rfl (QT_field rfl rfl YtjehicncbpljaaaDoorF.fld_96_0 rfl) ?_
    refine TL_q rfl rfl (QT_loadRj (i * 9) rfl rfl Tryd.underlying31 rfl (hrA.mono fun _ h => h.cnt fun p => by simp only [List.countP_append]; omega) rfl (fun _ => hat1)) ?_
    refine TL_q rfl rfl (QT_len rfl rfl Tryd.underlying31 rfl) ?_
    refine TL_q rfl rfl (QT_lss rfl rfl rfl rfl) ?_
    refine TL_nil ?_
    refine TX_then ?_
    first
      | refine TC_cond_dec rfl (fun h17 => ?_) (fun h17 => ?_)
      | refine TC_cond rfl (fun h17 => ?_) (fun h17 => ?_)
    ·
      refine TC_skip ?_
      refine TX_then ?_
      refine TC_seq ?_
      refine TC_block ?_
      have hkn : k < sn := by omega
      have hszm : Sz Tryd.prog 67 smk.length := by rw [hmls]; exact YtjehicncbpljaaaDoorF.sz_67
      have hkz : (k + 1) * 7 ≤ sn * 7 := Nat.mul_le_mul_right _ (by omega)
      obtain ⟨b, cap, rest, hv, hcap, hlen, rfl⟩ : ∃ b cap rest, Value.slice sad sn scap = .slice (some ⟨b, 0, none⟩) sn cap ∧ (sn ≤ cap ∧ cap ≤ 9223372036854775807) ∧ cap * 7 ≤ (sxs ++ rest).length ∧ sH = [(b, 67, sxs ++ rest)] := by
        rcases hfr with ⟨_, h0, _⟩ | h
        · omega
        · exact h
      simp only [Value.slice.injEq, true_and] at hv
      obtain ⟨rfl, rfl⟩ := hv
      have hcz : sn * 7 ≤ scap * 7 := Nat.mul_le_mul_right _ (by omega)
      refine TC_draw [(0, 0), (1, 0), (2, 0), (3, 0), (4, 0), (5, 0), (6, 0), (7, 0), (8, 0), (9, 0), (10, 0), (11, 0), (12, 1)] YtjehicncbpljaaaDoorF.mixed (by kernel_rfl) (St.calm _ _) ?_
      refine TV_q rfl rfl rfl (fun _ => QT_move rfl rfl rfl) ?_
      refine TV_q rfl rfl rfl (fun _ => QT_move rfl rfl rfl) ?_
      refine TV_q rfl rfl rfl (fun _ => QT_indexSlice (i) rfl rfl Tryd.underlying38 YtjehicncbpljaaaDoorF.sz_96 rfl rfl (rfl) (fun _ => hin)) ?_
      refine TV_q rfl rfl rfl (fun _ => QT_field rfl rfl YtjehicncbpljaaaDoorF.fld_96_0 rfl) ?_
      refine TV_ql rfl rfl rfl (QT_loadRj (i * 9) rfl rfl Tryd.underlying31 rfl (hrA.mono fun _ h => h.cnt fun p => by simp only [List.countP_append]; omega) rfl (fun _ => hat1)) ?_
      refine TV_q rfl rfl rfl (fun _ => QT_move rfl rfl rfl) ?_
      refine TV_q rfl rfl rfl (fun _ => QT_move rfl rfl rfl) ?_
      refine TV_q rfl rfl rfl (fun _ => QT_move rfl rfl rfl) ?_
      refine TV_q rfl rfl rfl (fun _ => QT_indexSlice (i) rfl rfl Tryd.underlying38 YtjehicncbpljaaaDoorF.sz_96 rfl rfl (rfl) (fun _ => hin)) ?_
      refine TV_q rfl rfl rfl (fun _ => QT_field rfl rfl YtjehicncbpljaaaDoorF.fld_96_2 rfl) ?_
      refine TV_ql rfl rfl rfl (QT_loadRAj (i * 9 + 2) rfl rfl Tryd.underlying67 rfl YtjehicncbpljaaaDoorF.sz_67 (hrA.mono fun _ h => h.cnt fun p => by simp only [List.countP_append]; omega) rfl (fun _ => hat4) (fun _ => hat3)) ?_
      refine TV_q rfl rfl rfl (fun _ => QT_indexSlice (k) rfl rfl Tryd.underlying31 YtjehicncbpljaaaDoorF.sz_67 rfl rfl (rfl) (fun _ => hkn)) ?_
      refine TV_e0 rfl rfl rfl (rfl) (ET_store (vs := smk) 0 rfl rfl rfl rfl hszm rfl (by rw [List.all_eq_true]; exact hmk.oneCell) (Nat.ble_eq_true_of_le (by simp only [List.length_append, List.length_drop, marks_len hmls]; omega))) ?_
      rintro _ _ ⟨rfl, rfl⟩
      refine ⟨_, .drop (by kernel_rfl) (.drop (by kernel_rfl) (.nil)), ?_⟩
      refine TV_end ?_
      refine TX_block_normal ?_
      refine TX_then ?_
      skip
      refine TC_reg ?_
      refine TL_q rfl rfl (QT_move rfl rfl rfl) ?_
      refine TL_q rfl rfl (QT_add rfl rfl rfl rfl (fun _ => ⟨by omega, by omega⟩)) ?_
      refine TL_q rfl rfl (QT_assign rfl rfl rfl) ?_
      refine TL_nil ?_
      refine TX_round ⟨k + 1, by omega⟩ (by dsimp only; omega) ⟨rfl, rfl, slotI rfl (by dsimp only; omega), trivial⟩ (fun w h => ?_)
      simp only [fillH, List.map_cons, List.map_nil, List.singleton_append, List.cons_append, List.nil_append, upd, Nat.zero_add] at h ⊢
      rw [fill_step hmls (by omega)] at h
      exact h
    ·
      refine TC_exit ?_
      refine TX_then_exit ?_
      refine TX_then_exit ?_
      refine TX_block_here ?_
      refine TX_block_normal ?_
      refine TX_then ?_
      refine TC_reg ?_
      refine TL_q rfl rfl (QT_move rfl rfl rfl) ?_
      refine TL_q rfl rfl (QT_add rfl rfl rfl rfl (fun _ => ⟨by omega, by omega⟩)) ?_
      refine TL_q rfl rfl (QT_assign rfl rfl rfl) ?_
      refine TL_nil ?_
      refine TX_round ⟨i + 1, by omega⟩ (by dsimp only; omega) ⟨rfl, slotI rfl (by dsimp only; omega), trivial⟩ (fun w h => h.cnt fun p => ?_)
      obtain rfl : k = sn := by omega
      rw [htake, heapOf_append, heapOf_cons, heapOf_nil]
      simp only [fillS, List.countP_append, List.countP_nil]; omega
  ·
    refine TC_exit ?_
    refine TX_then_exit ?_
    refine TX_then_exit ?_
    refine TX_block_here ?_
    refine TX_ret (.inr rfl) (res0 rfl) ⟨_, rfl, fun w h => ?_⟩
    obtain rfl : i = ss.length := by omega
    simpa [heapOf] using h
theorem marked_Rec (w0 : Base) (η : Heap) (va : Value) (ss : List Strip) (hs : ∀ s ∈ ss, s.grown (St w0 η) 7 recK) (ha : SlA (St w0 η) va 9 ss.length (arrOf ss)) :
    CallsT Tryd.prog 67 [va] (St w0 η) fun v A' => v = .bool true ∧ A' = St w0 η := by
  have hml : ∀ s ∈ ss, s.mark.length = 7 := fun s h => (hs s h).mints.length
  obtain ⟨hal, ada, ca, rfl, ⟨hca, hca2⟩, hra⟩ := ha
  refine CallsT.body Tryd.func67 rfl rfl ?_
  simp only [Tryd.ntmps67, slotsOf, Nat.reduceAdd]
  refine TC_seq ?_
  refine TC_reg ?_
  refine TL_q rfl rfl (QT_assign rfl rfl rfl) ?_
  refine TL_nil ?_
  refine TX_then ?_
  refine TC_seq ?_
  refine TC_seq ?_
  refine TC_reg ?_
  refine TL_q rfl rfl (QT_assign rfl rfl rfl) ?_
  refine TL_nil ?_
  refine TX_then ?_
  refine TC_block ?_
  refine TC_loop (γ := {i : Nat // i ≤ ss.length}) (fun t => [(0, true, .slice ada ss.length ca), (3, true, .int .i64 (t.1 : Int))]) (fun t => St w0 η) (fun t => ss.length - t.1) ⟨0, by omega⟩ ⟨rfl, rfl, trivial⟩ (fun _ h => h) ?_
  rintro ⟨i, hi⟩
  dsimp only
  refine TC_seq ?_
  refine TC_seq ?_
  refine TC_reg ?_
  refine TL_q rfl rfl (QT_move rfl rfl rfl) ?_
  refine TL_q rfl rfl (QT_move rfl rfl rfl) ?_
  refine TL_q rfl rfl (QT_len rfl rfl Tryd.underlying38 rfl) ?_
  refine TL_q rfl rfl (QT_lss rfl rfl rfl rfl) ?_
  refine TL_nil ?_
  refine TX_then ?_
  first
    | refine TC_cond_dec rfl (fun h8 => ?_) (fun h8 => ?_)
    | refine TC_cond rfl (fun h8 => ?_) (fun h8 => ?_)
  ·
    refine TC_skip ?_
    refine TX_then ?_
    refine TC_seq ?_
    refine TC_block ?_
    refine TC_seq ?_
    have hin : i < ss.length := by omega
    obtain ⟨ba, oa, rfl, hrA⟩ := hra.resolve_left (by omega)
    obtain ⟨s, hsi⟩ : ∃ s, ss[i]? = some s := ⟨_, List.getElem?_eq_getElem hin⟩
    obtain ⟨hat1, hat2, hat3, hat4⟩ := arrOf_at hml hsi
    have hok := hs s (List.mem_of_getElem? hsi)
    have hmls := hml s (List.mem_of_getElem? hsi)
    obtain ⟨sv, sn, sxs, slong, smk, sH⟩ := s
    obtain ⟨hl, hlong, hmk, hfew⟩ := hok
    dsimp only at hl hlong hmk hfew hmls hat1 hat2 hat3 hat4
    obtain ⟨hll, lad, lcap, lb, loff, rfl, hlc, hlad, hlr⟩ := hl.some
    obtain ⟨hgl, gad, gcap, gb, goff, rfl, hgc, hgad, hgr⟩ := hlong.some
    obtain rfl := hgad (by omega)
    have hself : eqC smk smk = true := eqC_refl hmk
    refine TC_reg ?_
    refine TL_q rfl rfl (QT_assign rfl rfl rfl) ?_
    refine TL_nil ?_
    refine TX_then ?_
    refine TC_block ?_
    refine TC_loop (γ := {k : Nat // k ≤ sn + 24}) (fun t => [(0, true, .slice (some ⟨ba, oa, none⟩) ss.length ca), (3, true, .int .i64 (i : Int)), (4, true, .int .i64 (t.1 : Int))]) (fun t => St w0 η) (fun t => sn + 24 - t.1) ⟨0, by omega⟩ ⟨rfl, rfl, rfl, trivial⟩ (fun _ h => h) ?_
    rintro ⟨k, hk⟩
    dsimp only
    refine TC_seq ?_
    refine TC_seq ?_
    refine TC_reg ?_
    refine TL_q rfl rfl (QT_move rfl rfl rfl) ?_
    refine TL_q rfl rfl (QT_move rfl rfl rfl) ?_
    refine TL_q rfl rfl (QT_move rfl rfl rfl) ?_
    refine TL_q rfl rfl (QT_indexSlice (i) rfl rfl Tryd.underlying38 YtjehicncbpljaaaDoorF.sz_96 rfl rfl (rfl) (fun _ => hin)) ?_
    refine TL_q rfl rfl (QT_field rfl rfl YtjehicncbpljaaaDoorF.fld_96_1 rfl) ?_
    refine TL_q rfl rfl (QT_loadRj (i * 9 + 1) rfl rfl Tryd.underlying31 rfl hrA rfl (fun _ => hat2)) ?_
    refine TL_q rfl rfl (QT_len rfl rfl Tryd.underlying31 rfl) ?_
    refine TL_q rfl rfl (QT_lss rfl rfl rfl rfl) ?_
    refine TL_nil ?_
    refine TX_then ?_
    first
      | refine TC_cond_dec rfl (fun h18 => ?_) (fun h18 => ?_)
      | refine TC_cond rfl (fun h18 => ?_) (fun h18 => ?_)
    ·
      refine TC_skip ?_
      refine TX_then ?_
      refine TC_seq ?_
      refine TC_block ?_
      refine TC_seq ?_
      have hkn : k < sn + 24 := by omega
      have hz1 : k * 7 + 7 ≤ (marks (sn + 24) smk).length := by
        rw [marks_len hmls]
        have : (k + 1) * 7 ≤ (sn + 24) * 7 := Nat.mul_le_mul_right _ (by omega)
        rw [Nat.add_mul] at this; omega
      have hz2 : (true && !decide ((k : Int) < (sn : Int))) = true ∨ k * 7 + 7 ≤ (marks sn smk).length := by
        by_cases h : k < sn
        · refine .inr ?_
          rw [marks_len hmls]
          have : (k + 1) * 7 ≤ sn * 7 := Nat.mul_le_mul_right _ (by omega)
          rw [Nat.add_mul] at this; omega
        · refine .inl ?_
          simpa using h
      refine TC_draw [(0, 0), (1, 0), (2, 0), (3, 0), (4, 0), (5, 0), (6, 0), (7, 0), (8, 0), (9, 0), (10, 0), (11, 0), (12, 0), (13, 0), (14, 0), (15, 0), (16, 0), (17, 0), (18, 0), (19, 0), (20, 0), (21, 0), (22, 0), (23, 0), (24, 0), (25, 0), (26, 0), (27, 0), (28, 0), (29, 0), (30, 0), (31, 0), (32, 0), (33, 0), (34, 0), (35, 0), (36, 0), (37, 0), (38, 0), (39, 0)] YtjehicncbpljaaaDoorF.mixed (by kernel_rfl) (St.calm _ _) ?_
      refine TV_q rfl rfl rfl (fun _ => QT_move rfl rfl rfl) ?_
      refine TV_q rfl rfl rfl (fun _ => QT_move rfl rfl rfl) ?_
      refine TV_q rfl rfl rfl (fun _ => QT_indexSlice (i) rfl rfl Tryd.underlying38 YtjehicncbpljaaaDoorF.sz_96 rfl rfl (rfl) (fun _ => hin)) ?_
      refine TV_q rfl rfl rfl (fun _ => QT_field rfl rfl YtjehicncbpljaaaDoorF.fld_96_1 rfl) ?_
      refine TV_ql rfl rfl rfl (QT_loadRj (i * 9 + 1) rfl rfl Tryd.underlying31 rfl hrA rfl (fun _ => hat2)) ?_
      refine TV_q rfl rfl rfl (fun _ => QT_move rfl rfl rfl) ?_
      refine TV_q rfl rfl rfl (fun _ => QT_indexSlice (k) rfl rfl Tryd.underlying31 YtjehicncbpljaaaDoorF.sz_67 rfl rfl (rfl) (fun _ => hkn)) ?_
      refine TV_ql rfl rfl rfl (QT_loadRAj (k * 7) rfl rfl Tryd.underlying67 rfl YtjehicncbpljaaaDoorF.sz_67 hgr rfl (fun _ => hz1) (fun _ => elem_marks hmls hkn)) ?_
      refine TV_q rfl rfl rfl (fun _ => QT_move rfl rfl rfl) ?_
      refine TV_q rfl rfl rfl (fun _ => QT_move rfl rfl rfl) ?_
      refine TV_q rfl rfl rfl (fun _ => QT_indexSlice (i) rfl rfl Tryd.underlying38 YtjehicncbpljaaaDoorF.sz_96 rfl rfl (rfl) (fun _ => hin)) ?_
      refine TV_q rfl rfl rfl (fun _ => QT_field rfl rfl YtjehicncbpljaaaDoorF.fld_96_2 rfl) ?_
      refine TV_ql rfl rfl rfl (QT_loadRAj (i * 9 + 2) rfl rfl Tryd.underlying67 rfl YtjehicncbpljaaaDoorF.sz_67 hrA rfl (fun _ => hat4) (fun _ => hat3)) ?_
      refine TV_q rfl rfl rfl (fun _ => QT_neA rfl rfl eq_Rec rfl rfl (fun _ => hmk) (fun _ => hmk)) ?_
      refine TV_q rfl rfl rfl (fun _ => QT_move rfl rfl rfl) ?_
      refine TV_q rfl rfl rfl (fun _ => QT_move rfl rfl rfl) ?_
      refine TV_q rfl rfl rfl (fun _ => QT_move rfl rfl rfl) ?_
      refine TV_q rfl rfl rfl (fun _ => QT_move rfl rfl rfl) ?_
      refine TV_q rfl rfl rfl (fun _ => QT_indexSlice (i) rfl rfl Tryd.underlying38 YtjehicncbpljaaaDoorF.sz_96 rfl rfl (rfl) (fun _ => hin)) ?_
      refine TV_q rfl rfl rfl (fun _ => QT_field rfl rfl YtjehicncbpljaaaDoorF.fld_96_0 rfl) ?_
      refine TV_ql rfl rfl rfl (QT_loadRj (i * 9) rfl rfl Tryd.underlying31 rfl hrA rfl (fun _ => hat1)) ?_
      refine TV_q rfl rfl rfl (fun _ => QT_len rfl rfl Tryd.underlying31 rfl) ?_
      refine TV_q rfl rfl rfl (fun _ => QT_lss rfl rfl rfl rfl) ?_
      refine TV_q rfl rfl rfl (fun _ => QT_move rfl rfl rfl) ?_
      refine TV_q rfl rfl rfl (fun _ => QT_move rfl rfl rfl) ?_
      refine TV_q rfl rfl rfl (fun _ => QT_move rfl rfl rfl) ?_
      refine TV_q rfl rfl rfl (fun _ => QT_indexSlice (i) rfl rfl Tryd.underlying38 YtjehicncbpljaaaDoorF.sz_96 rfl rfl (rfl) (fun _ => hin)) ?_
      refine TV_q rfl rfl rfl (fun _ => QT_field rfl rfl YtjehicncbpljaaaDoorF.fld_96_0 rfl) ?_
      refine TV_ql rfl rfl rfl (QT_loadRj (i * 9) rfl rfl Tryd.underlying31 rfl hrA rfl (fun _ => hat1)) ?_
      refine TV_q rfl rfl rfl (fun _ => QT_move rfl rfl rfl) ?_
      refine TV_q rfl rfl rfl (fun _ => QT_indexG k rfl rfl Tryd.underlying31 YtjehicncbpljaaaDoorF.sz_67 rfl rfl rfl (fun h => by simp at h; omega) (fun h => hlad (by simp at h; omega))) ?_
      refine TV_ql rfl rfl rfl (QT_loadRAj (k * 7) rfl rfl Tryd.underlying67 rfl YtjehicncbpljaaaDoorF.sz_67 hlr rfl (fun h => by simp at h hz2; omega) (fun h => elem_marks hmls (by simp at h; omega))) ?_
      refine TV_q rfl rfl rfl (fun _ => QT_move rfl rfl rfl) ?_
      refine TV_q rfl rfl rfl (fun _ => QT_move rfl rfl rfl) ?_
      refine TV_q rfl rfl rfl (fun _ => QT_indexSlice (i) rfl rfl Tryd.underlying38 YtjehicncbpljaaaDoorF.sz_96 rfl rfl (rfl) (fun _ => hin)) ?_
      refine TV_q rfl rfl rfl (fun _ => QT_field rfl rfl YtjehicncbpljaaaDoorF.fld_96_2 rfl) ?_
      refine TV_ql rfl rfl rfl (QT_loadRAj (i * 9 + 2) rfl rfl Tryd.underlying67 rfl YtjehicncbpljaaaDoorF.sz_67 hrA rfl (fun _ => hat4) (fun _ => hat3)) ?_
      refine TV_q rfl rfl rfl (fun _ => QT_neA rfl rfl eq_Rec rfl rfl (fun _ => hmk) (fun _ => hmk)) ?_
      refine TV_q rfl rfl rfl (fun _ => QT_and rfl rfl rfl rfl) ?_
      refine TV_q rfl rfl rfl (fun _ => QT_or rfl rfl rfl rfl) ?_
      refine TV_end ?_
      refine TX_then ?_
      refine TC_cond rfl (fun h => absurd (h.symm.trans ((show (_ : Bool) = false by rw [hself]; simp))) (by decide)) (fun _ => ?_)
      refine TC_skip ?_
      refine TX_block_normal ?_
      refine TX_then ?_
      refine TC_reg ?_
      refine TL_q rfl rfl (QT_move rfl rfl rfl) ?_
      refine TL_q rfl rfl (QT_add rfl rfl rfl rfl (fun _ => ⟨by omega, by omega⟩)) ?_
      refine TL_q rfl rfl (QT_assign rfl rfl rfl) ?_
      refine TL_nil ?_
      exact TX_round ⟨k + 1, by omega⟩ (by dsimp only; omega) ⟨rfl, rfl, slotI rfl (by dsimp only; omega), trivial⟩ (fun w h => h)
    ·
      refine TC_exit ?_
      refine TX_then_exit ?_
      refine TX_then_exit ?_
      refine TX_block_here ?_
      refine TX_block_normal ?_
      refine TX_then ?_
      refine TC_reg ?_
      refine TL_q rfl rfl (QT_move rfl rfl rfl) ?_
      refine TL_q rfl rfl (QT_add rfl rfl rfl rfl (fun _ => ⟨by omega, by omega⟩)) ?_
      refine TL_q rfl rfl (QT_assign rfl rfl rfl) ?_
      refine TL_nil ?_
      exact TX_round ⟨i + 1, by omega⟩ (by dsimp only; omega) ⟨rfl, slotI rfl (by dsimp only; omega), trivial⟩ (fun w h => h)
  ·
    refine TC_exit ?_
    refine TX_then_exit ?_
    refine TX_then_exit ?_
    refine TX_block_here ?_
    refine TX_then ?_
    refine TC_seq ?_
    refine TC_reg ?_
    refine TL_q rfl rfl (QT_assign rfl rfl rfl) ?_
    refine TL_nil ?_
    refine TX_then ?_
    refine TC_ret ?_
    exact TX_ret (.inl rfl) (res1 rfl rfl) ⟨_, ⟨rfl, rfl⟩, (fun _ h => by first | exact h | exact h.tail | exact h.tail.tail | exact h.tail.tail.tail | exact h.tail.tail.tail.tail | exact h.tail.tail.tail.tail.tail | exact h.tail.tail.tail.tail.tail.tail | exact h.tail.tail.tail.tail.tail.tail.tail | exact h.tail.tail.tail.tail.tail.tail.tail.tail | exact h.tail.tail.tail.tail.tail.tail.tail.tail.tail | exact h.tail.tail.tail.tail.tail.tail.tail.tail.tail.tail | exact h.tail.tail.tail.tail.tail.tail.tail.tail.tail.tail.tail | exact h.tail.tail.tail.tail.tail.tail.tail.tail.tail.tail.tail.tail | exact h.tail.tail.tail.tail.tail.tail.tail.tail.tail.tail.tail.tail.tail)⟩
theorem grow_Rec (w0 : Base) (η H : Heap) (va : Value) (ss : List Strip) (hs : ∀ s ∈ ss, s.ok 67 7 recK ∧ s.xs = marks s.n s.mark) (ha : Frag 96 9 va ss.length (arrOf ss) H) :
    CallsT Tryd.prog 54 [va] (St w0 (H ++ (heapOf ss ++ η))) fun _ A' => ∃ ss' H', ss'.length = ss.length ∧ (∀ s ∈ ss', s.grown (St w0 (heapOf ss')) 7 recK) ∧ Frag 96 9 va ss'.length (arrOf ss') H' ∧ A' = St w0 (H' ++ (heapOf ss' ++ η)) := by
  have hml : ∀ s ∈ ss, s.mark.length = 7 := fun s h => (hs s h).1.mints.length
  have hF := ha
  obtain ⟨ada, ca, rfl, ⟨hca, hca2⟩, hblk⟩ := ha.slice
  have hal := ha.1
  refine CallsT.body Tryd.func54 rfl rfl ?_
  simp only [Tryd.ntmps54, slotsOf, Nat.reduceAdd]
  refine TC_seq ?_
  refine TC_reg ?_
  refine TL_q rfl rfl (QT_assign rfl rfl rfl) ?_
  refine TL_nil ?_
  refine TX_then ?_
  refine TC_block ?_
  refine TC_loop (γ := {d : List Strip // d.length ≤ ss.length ∧ ∀ s ∈ d, s.grown (St w0 s.H) 7 recK}) (fun t => [(0, true, .slice ada ss.length ca), (2, true, .int .i64 (t.1.length : Int))]) (fun t => St w0 (reH (arrOf ss).length (arrOf (t.1 ++ ss.drop t.1.length)) H ++ (heapOf t.1 ++ (heapOf (ss.drop t.1.length) ++ η)))) (fun t => ss.length - t.1.length) ⟨[], by simp, by simp⟩ ⟨rfl, rfl, trivial⟩ (fun _ h => by simpa [heapOf_nil, hF.re_self] using h) ?_
  rintro ⟨d, hi, hd⟩
  dsimp only
  refine TC_seq ?_
  refine TC_seq ?_
  refine TC_reg ?_
  refine TL_q rfl rfl (QT_move rfl rfl rfl) ?_
  refine TL_q rfl rfl (QT_move rfl rfl rfl) ?_
  refine TL_q rfl rfl (QT_len rfl rfl Tryd.underlying38 rfl) ?_
  refine TL_q rfl rfl (QT_lss rfl rfl rfl rfl) ?_
  refine TL_nil ?_
  refine TX_then ?_
  first
    | refine TC_cond_dec rfl (fun h7 => ?_) (fun h7 => ?_)
    | refine TC_cond rfl (fun h7 => ?_) (fun h7 => ?_)
  ·
    refine TC_skip ?_
    refine TX_then ?_
    refine TC_seq ?_
    refine TC_block ?_
    refine TC_seq ?_
    have hin : d.length < ss.length := by omega
    have hmd : ∀ s ∈ d, s.mark.length = 7 := fun s h => (hd s h).mints.length
    obtain ⟨ba, rest, rfl, rfl⟩ := hblk (by omega)
    obtain ⟨s, hsi⟩ : ∃ s, ss[d.length]? = some s := ⟨_, List.getElem?_eq_getElem hin⟩
    have hdrop : ss.drop d.length = s :: ss.drop (d.length + 1) := by
      rw [List.drop_eq_getElem_cons hin]
      congr 1
      exact (List.getElem?_eq_some_iff.1 hsi).2
    obtain ⟨hok, hxs⟩ := hs s (List.mem_of_getElem? hsi)
    have hmls := hml s (List.mem_of_getElem? hsi)
    have hmt : ∀ s ∈ ss.drop (d.length + 1), s.mark.length = 7 := fun s h => hml s (List.mem_of_mem_drop h)
    have hI := LongInv.start (w0 := w0) hok hxs
    have hmi := hok.mints
    have hfew := hok.few
    obtain ⟨sad, scap, hsv, hscap, hsb⟩ := hok.frag.slice
    obtain ⟨sv, sn, sxs, slong, smk, sH⟩ := s
    dsimp only at hI hmi hfew hmls hsv hscap hsb
    subst hsv
    have hall : ∀ lv : Value, ∀ s' ∈ (d ++ (⟨.slice sad sn scap, sn, sxs, lv, smk, sH⟩ : Strip) :: ss.drop (d.length + 1)), s'.mark.length = 7 := fun lv s' h => by
      rcases List.mem_append.1 h with h | h
      · exact hmd s' h
      · rcases List.mem_cons.1 h with rfl | h
        · exact hmls
        · exact hmt s' h
    have hlens : ∀ lv : Value, (arrOf (d ++ (⟨.slice sad sn scap, sn, sxs, lv, smk, sH⟩ : Strip) :: ss.drop (d.length + 1))).length = ss.length * 9 := fun lv => by
      rw [arrOf_len (hall lv), List.length_append, List.length_cons, List.length_drop]
      congr 1; omega
    have hat : ∀ lv : Value, (arrOf (d ++ (⟨.slice sad sn scap, sn, sxs, lv, smk, sH⟩ : Strip) :: ss.drop (d.length + 1)))[d.length * (7 + 2)]? = some (.slice sad sn scap) ∧ (arrOf (d ++ (⟨.slice sad sn scap, sn, sxs, lv, smk, sH⟩ : Strip) :: ss.drop (d.length + 1)))[d.length * (7 + 2) + 1]? = some lv ∧ ((arrOf (d ++ (⟨.slice sad sn scap, sn, sxs, lv, smk, sH⟩ : Strip) :: ss.drop (d.length + 1))).drop (d.length * (7 + 2) + 2)).take 7 = smk ∧ d.length * (7 + 2) + 2 + 7 ≤ (arrOf (d ++ (⟨.slice sad sn scap, sn, sxs, lv, smk, sH⟩ : Strip) :: ss.drop (d.length + 1))).length := fun lv => arrOf_at (hall lv) (i := d.length) (s := ⟨_, sn, sxs, lv, smk, sH⟩) (by simp)
    have hset : ∀ lv r : Value, setAt (arrOf (d ++ (⟨.slice sad sn scap, sn, sxs, lv, smk, sH⟩ : Strip) :: ss.drop (d.length + 1)) ++ rest) (d.length * (7 + 2) + 1) [r] = arrOf (d ++ (⟨.slice sad sn scap, sn, sxs, r, smk, sH⟩ : Strip) :: ss.drop (d.length + 1)) ++ rest := fun lv r => arrOf_set hmd rest
    have hin2 : (d.length + 1) * 9 ≤ ss.length * 9 := Nat.mul_le_mul_right _ (by omega)
    rw [hdrop]
    refine TC_A (St w0 ((ba, 96, arrOf (d ++ (⟨.slice sad sn scap, sn, sxs, slong, smk, sH⟩ : Strip) :: ss.drop (d.length + 1)) ++ rest) :: (sH ++ ([] ++ (heapOf d ++ (heapOf (ss.drop (d.length + 1)) ++ η)))))) (fun w h => by
      simp only [reH, List.map_cons, List.map_nil, List.drop_left, heapOf_cons] at h
      exact h.cnt fun p => by simp only [List.countP_append, List.countP_cons, List.countP_nil]; omega) ?_
    have hrA : ∀ (X : Heap) (lv : Value), Rd (St w0 ((ba, 96, arrOf (d ++ (⟨.slice sad sn scap, sn, sxs, lv, smk, sH⟩ : Strip) :: ss.drop (d.length + 1)) ++ rest) :: X)) ba 0 (arrOf (d ++ (⟨.slice sad sn scap, sn, sxs, lv, smk, sH⟩ : Strip) :: ss.drop (d.length + 1))) := fun X lv => Rd.ownA (List.mem_cons_self ..) 0 (by simp)
    refine TC_reg ?_
    refine TL_q rfl rfl (QT_move rfl rfl rfl) ?_
    refine TL_q rfl rfl (QT_move rfl rfl rfl) ?_
    refine TL_q rfl rfl (QT_move rfl rfl rfl) ?_
    refine TL_q rfl rfl (QT_move rfl rfl rfl) ?_
    refine TL_q rfl rfl (QT_indexSlice (d.length) rfl rfl Tryd.underlying38 YtjehicncbpljaaaDoorF.sz_96 rfl rfl (rfl) (fun _ => hin)) ?_
    refine TL_q rfl rfl (QT_field rfl rfl YtjehicncbpljaaaDoorF.fld_96_0 rfl) ?_
    refine TL_q rfl rfl (QT_loadRj (d.length * 9) rfl rfl Tryd.underlying31 rfl (hrA _ slong) rfl (fun _ => (hat slong).1)) ?_
    refine TL_q rfl rfl (QT_indexSlice (d.length) rfl rfl Tryd.underlying38 YtjehicncbpljaaaDoorF.sz_96 rfl rfl (rfl) (fun _ => hin)) ?_
    refine TL_q rfl rfl (QT_field rfl rfl YtjehicncbpljaaaDoorF.fld_96_1 rfl) ?_
    refine TL_e0 rfl rfl (rfl) (ET_store (vs := [.slice sad sn scap]) 0 rfl rfl rfl rfl YtjehicncbpljaaaDoorF.sz_31 rfl rfl (Nat.ble_eq_true_of_le (by have := hlens slong; simp only [List.length_append, List.length_cons, List.length_nil]; omega))) ?_
    rintro _ _ ⟨rfl, rfl⟩
    refine TL_nil ?_
    refine TX_then ?_
    refine TC_seq ?_
    refine TC_A (St w0 ((ba, 96, arrOf (d ++ (⟨.slice sad sn scap, sn, sxs, (.slice sad sn scap), smk, sH⟩ : Strip) :: ss.drop (d.length + 1)) ++ rest) :: (sH ++ ([] ++ (heapOf d ++ (heapOf (ss.drop (d.length + 1)) ++ η)))))) (fun w h => by
      simp only [upd, Nat.zero_add] at h
      rw [hset slong] at h
      exact h) ?_
    refine TC_reg ?_
    refine TL_q rfl rfl (QT_assign rfl rfl rfl) ?_
    refine TL_nil ?_
    refine TX_then ?_
    refine TC_block ?_
    refine TC_loop (γ := {t : Nat × Value × Heap × Heap // t.1 ≤ 24 ∧ LongInv w0 67 7 (.slice sad sn scap) sn smk t.2.1 (sn + t.1) t.2.2.1 t.2.2.2}) (fun t => [(0, true, .slice (some ⟨ba, 0, none⟩) ss.length ca), (2, true, .int .i64 (d.length : Int)), (3, true, .int .i64 (t.1.1 : Int))]) (fun t => St w0 ((ba, 96, arrOf (d ++ (⟨.slice sad sn scap, sn, sxs, t.1.2.1, smk, sH⟩ : Strip) :: ss.drop (d.length + 1)) ++ rest) :: (t.1.2.2.1 ++ (t.1.2.2.2 ++ (heapOf d ++ (heapOf (ss.drop (d.length + 1)) ++ η)))))) (fun t => 24 - t.1.1) ⟨(0, .slice sad sn scap, sH, []), by dsimp only; omega, hI⟩ ⟨rfl, rfl, rfl, trivial⟩ (fun _ h => h) ?_
    rintro ⟨⟨k, lv, HL, KK⟩, hk, hL⟩
    dsimp only at hk hL ⊢
    refine TC_seq ?_
    refine TC_seq ?_
    refine TC_reg ?_
    refine TL_q rfl rfl (QT_move rfl rfl rfl) ?_
    refine TL_q rfl rfl (QT_lss rfl rfl rfl rfl) ?_
    refine TL_nil ?_
    refine TX_then ?_
    first
      | refine TC_cond_dec rfl (fun h20 => ?_) (fun h20 => ?_)
      | refine TC_cond rfl (fun h20 => ?_) (fun h20 => ?_)
    ·
      refine TC_skip ?_
      refine TX_then ?_
      refine TC_seq ?_
      refine TC_block ?_
      have hk24 : k < 24 := by omega
      refine TC_draw [(0, 0), (1, 0), (2, 0), (3, 0), (4, 0), (5, 0), (6, 0), (7, 0), (8, 0), (9, 0), (10, 0), (11, 0), (12, 1), (13, 1), (14, 0), (15, 0), (16, 1)] YtjehicncbpljaaaDoorF.mixed (by kernel_rfl) (St.calm _ _) ?_
      refine TV_q rfl rfl rfl (fun _ => QT_move rfl rfl rfl) ?_
      refine TV_q rfl rfl rfl (fun _ => QT_move rfl rfl rfl) ?_
      refine TV_q rfl rfl rfl (fun _ => QT_move rfl rfl rfl) ?_
      refine TV_q rfl rfl rfl (fun _ => QT_move rfl rfl rfl) ?_
      refine TV_q rfl rfl rfl (fun _ => QT_indexSlice (d.length) rfl rfl Tryd.underlying38 YtjehicncbpljaaaDoorF.sz_96 rfl rfl (rfl) (fun _ => hin)) ?_
      refine TV_q rfl rfl rfl (fun _ => QT_field rfl rfl YtjehicncbpljaaaDoorF.fld_96_1 rfl) ?_
      refine TV_ql rfl rfl rfl (QT_loadRj (d.length * 9 + 1) rfl rfl Tryd.underlying31 rfl ((hrA [] lv).mono fun _ h => h.cnt fun p => by simp only [List.countP_append, List.countP_cons, List.countP_nil]; omega) rfl (fun _ => (hat lv).2.1)) ?_
      refine TV_q rfl rfl rfl (fun _ => QT_move rfl rfl rfl) ?_
      refine TV_q rfl rfl rfl (fun _ => QT_move rfl rfl rfl) ?_
      refine TV_q rfl rfl rfl (fun _ => QT_indexSlice (d.length) rfl rfl Tryd.underlying38 YtjehicncbpljaaaDoorF.sz_96 rfl rfl (rfl) (fun _ => hin)) ?_
      refine TV_q rfl rfl rfl (fun _ => QT_field rfl rfl YtjehicncbpljaaaDoorF.fld_96_2 rfl) ?_
      refine TV_ql rfl rfl rfl (QT_loadRAj (d.length * 9 + 2) rfl rfl Tryd.underlying67 rfl YtjehicncbpljaaaDoorF.sz_67 ((hrA [] lv).mono fun _ h => h.cnt fun p => by simp only [List.countP_append, List.countP_cons, List.countP_nil]; omega) rfl (fun _ => (hat lv).2.2.2) (fun _ => (hat lv).2.2.1)) ?_
      refine TV_e rfl rfl rfl rfl (rfl) (ET_buildN [_] rfl Tryd.underlying31 YtjehicncbpljaaaDoorF.sz_67 YtjehicncbpljaaaDoorF.zero_67 rfl rfl rfl (by simp [Value.cells, hmls])) ?_
      rintro _ _ ⟨b35, rfl, rfl⟩
      refine ⟨_, .drop (by kernel_rfl) (.keep (by kernel_rfl) rfl (by first | exact QT_loadRj (d.length * 9 + 1) rfl rfl Tryd.underlying31 rfl ((hrA [] lv).mono fun _ h => h.cnt fun p => by simp only [List.countP_append, List.countP_cons, List.countP_nil]; omega) rfl (fun _ => (hat lv).2.1)) (.nil)), ?_⟩
      refine TV_e rfl rfl rfl rfl (rfl) (ET_long (L := [_, _]) rfl Tryd.underlying31 el_Rec rfl rfl hL hmls (fun _ h => h) (SlA.own (n := 1) (xs := smk) 0 rfl (by rw [List.drop_zero, List.take_of_length_le (by simp [Value.cells, hmls])]; simp [Value.cells]) (by simp [Value.cells, hmls]) (by omega)) hmi.oneCell (few_b hfew hk24 (by decide)) (few_l hfew hk24)) ?_
      rintro lv2 _ ⟨H', K', hL', rfl⟩
      refine ⟨_, .drop (by kernel_rfl) (.nil), ?_⟩
      obtain ⟨ad2, cap2, rfl, _⟩ := hL'.frag.slice
      refine TV_q rfl rfl rfl (fun _ => QT_indexSlice (d.length) rfl rfl Tryd.underlying38 YtjehicncbpljaaaDoorF.sz_96 rfl rfl (rfl) (fun _ => hin)) ?_
      refine TV_q rfl rfl rfl (fun _ => QT_field rfl rfl YtjehicncbpljaaaDoorF.fld_96_1 rfl) ?_
      refine TV_e0 rfl rfl rfl (rfl) (ET_store (vs := [.slice ad2 (sn + k + 1) cap2]) 1 rfl rfl rfl rfl YtjehicncbpljaaaDoorF.sz_31 rfl rfl (Nat.ble_eq_true_of_le (by have := hlens lv; simp only [List.length_append, List.length_cons, List.length_nil]; omega))) ?_
      rintro _ _ ⟨rfl, rfl⟩
      refine ⟨_, .nil, ?_⟩
      refine TV_end ?_
      refine TX_block_normal ?_
      refine TX_then ?_
      refine TC_reg ?_
      refine TL_q rfl rfl (QT_move rfl rfl rfl) ?_
      refine TL_q rfl rfl (QT_add rfl rfl rfl rfl (fun _ => ⟨by omega, by omega⟩)) ?_
      refine TL_q rfl rfl (QT_assign rfl rfl rfl) ?_
      refine TL_nil ?_
      refine TX_round ⟨(k + 1, .slice ad2 (sn + k + 1) cap2, H', K'), by dsimp only; omega, hL'⟩ (by dsimp only; omega) ⟨rfl, rfl, slotI rfl (by dsimp only; omega), trivial⟩ (fun w h => ?_)
      simp only [upd, Nat.zero_add] at h
      rw [hset lv] at h
      exact h.tail
    ·
      refine TC_exit ?_
      refine TX_then_exit ?_
      refine TX_then_exit ?_
      refine TX_block_here ?_
      refine TX_block_normal ?_
      refine TX_then ?_
      refine TC_reg ?_
      refine TL_q rfl rfl (QT_move rfl rfl rfl) ?_
      refine TL_q rfl rfl (QT_add rfl rfl rfl rfl (fun _ => ⟨by omega, by omega⟩)) ?_
      refine TL_q rfl rfl (QT_assign rfl rfl rfl) ?_
      refine TL_nil ?_
      obtain rfl : k = 24 := by omega
      have hg := LongInv.grown (s := ⟨.slice sad sn scap, sn, sxs, lv, smk, sH⟩) hL hmi rfl hfew
      refine TX_round ⟨d ++ [⟨.slice sad sn scap, sn, sxs, lv, smk, HL ++ KK⟩], by simp; omega, fun s h => ?_⟩ (by simp only [List.length_append, List.length_cons, List.length_nil]; omega) ⟨rfl, slotI rfl (by simp), trivial⟩ (fun w h => ?_)
      · rcases List.mem_append.1 h with h | h
        · exact hd s h
        · obtain rfl := List.mem_singleton.1 h
          exact hg
      · have e : arrOf ((d ++ [(⟨.slice sad sn scap, sn, sxs, lv, smk, HL ++ KK⟩ : Strip)]) ++ ss.drop (d.length + 1)) = arrOf (d ++ (⟨.slice sad sn scap, sn, sxs, lv, smk, sH⟩ : Strip) :: ss.drop (d.length + 1)) := by
          simp [arrOf, Strip.cells]
        simp only [List.length_append, List.length_cons, List.length_nil, Nat.zero_add, e, heapOf_append, heapOf_cons, heapOf_nil, reH, List.map_cons, List.map_nil, List.drop_left]
        exact h.cnt fun p => by simp only [List.countP_append, List.countP_cons, List.countP_nil]; omega
  ·
    refine TC_exit ?_
    refine TX_then_exit ?_
    refine TX_then_exit ?_
    refine TX_block_here ?_
    refine TX_ret (.inr rfl) (res0 rfl) ⟨_, ⟨d, reH (arrOf ss).length (arrOf d) H, by omega, fun s h => (hd s h).mono fun _ hw => hw.cnt (heapOf_mem h), ?_, rfl⟩, fun w h => ?_⟩
    · have hdl : d.length = ss.length := by omega
      rw [hdl]
      exact hF.re (by rw [arrOf_len (Z := 7) (fun s h => (hd s h).mints.length), arrOf_len hml, hdl])
    · have hdl : ss.drop d.length = [] := List.drop_eq_nil_of_le (by omega)
      rw [hdl, List.append_nil, heapOf_nil] at h
      simpa using h
end Go.Proofs.YtjehicncbpljaaaDoor

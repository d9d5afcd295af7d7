/- THE LAW OF A ROW: each answer, its bits and its bytes are the chapter's; its bytes are new memory each time. -/
import Derived.Test.YtkkdpbjfkncpbaaP06i
import Derived.Test.YtkkdpbjfkncpbaaG06e
namespace Go.Proofs.Ytkkdpbjfkncpbaa
open Go Go.Gx Go.RowKit
set_option maxRecDepth 100000

theorem newCells : Bk.new.cells = [.int .i64 0, .slice none 0 0, .slice none 0 0, .slice none 0 0, .slice none 0 0, .slice none 0 0, .slice none 0 0, .slice none 0 0, .slice none 0 0, .slice none 0 0, .slice none 0 0, .slice none 0 0, .slice none 0 0, .slice none 0 0] := rfl
theorem padL_len {l : List Bool} (h : l.length ≤ 524288) : (l ++ List.replicate (8 * ((l.length + 7) / 8) - l.length) false).length ≤ 524288 := by
  rw [List.length_append, List.length_replicate]; omega
theorem markB {i : Nat} (h : i ≤ 200) : Ints byteK [.int .u8 ((i : Int) + 1)] := by
  refine .cons ?_ .nil
  have h1 : IntKind.u8.min = 0 := rfl
  have h2 : IntKind.u8.max = 255 := rfl
  simp only [Lit.wf, Bool.and_eq_true, decide_eq_true_eq]
  omega
def bkB (i : Nat) (bv : Value) : Bk := { Bk.new with many := (i : Int), bytes := bv }

set_option maxHeartbeats 1000000 in
theorem law_bitsRow (w0 : World) (η : Heap) (sv : Value) (ls : List (Nat × Int)) (hs : SlA (St w0 η) sv 2 ls.length (ldV ls)) (hb : Lds ls) :
    CallsT Try.prog 4 [sv] (St w0 η) fun v A' => v = .bool true ∧ A' = St w0 η := by
  obtain ⟨_, ad, cap, b, off, rfl, hcap, had, hrd⟩ := hs.some
  refine CallsT.body Try.func4 rfl rfl ?_
  simp only [Try.ntmps4, slotsOf, Nat.reduceAdd]
  refine TC_seq ?_
  refine TC_reg ?_
  refine TL_q rfl rfl (QT_assign rfl rfl rfl) ?_
  refine TL_nil ?_
  refine TX_then ?_
  refine TC_seq ?_
  refine TC_seq ?_
  refine TC_reg ?_
  refine TL_q rfl rfl (QT_move rfl rfl rfl) ?_
  refine TL_q rfl rfl (QT_len rfl rfl Try.underlying31 rfl) ?_
  refine TL_q rfl rfl (QT_gtr rfl rfl rfl rfl) ?_
  refine TL_nil ?_
  refine TX_then ?_
  first
    | refine TC_cond_dec rfl (fun h12 => ?_) (fun h12 => ?_)
    | refine TC_cond rfl (fun h12 => ?_) (fun h12 => ?_)
  ·
    refine TC_seq ?_
    refine TC_reg ?_
    refine TL_cq rfl rfl rfl rfl YtkkdpbjfkncpbaaF.cal_10 rfl (fun _ => lives06 w0 _) ?_
    refine TL_q rfl rfl (QT_assign rfl rfl rfl) ?_
    refine TL_nil ?_
    refine TX_then ?_
    refine TC_ret ?_
    refine TX_then_ret ?_
    exact TX_ret (.inl rfl) (res1 rfl rfl) ⟨_, ⟨rfl, rfl⟩, (fun _ h => by first | exact h | exact h.tail | exact h.tail.tail | exact h.tail.tail.tail | exact h.tail.tail.tail.tail | exact h.tail.tail.tail.tail.tail | exact h.tail.tail.tail.tail.tail.tail | exact h.tail.tail.tail.tail.tail.tail.tail | exact h.tail.tail.tail.tail.tail.tail.tail.tail | exact h.tail.tail.tail.tail.tail.tail.tail.tail.tail | exact h.tail.tail.tail.tail.tail.tail.tail.tail.tail.tail | exact h.tail.tail.tail.tail.tail.tail.tail.tail.tail.tail.tail | exact h.tail.tail.tail.tail.tail.tail.tail.tail.tail.tail.tail.tail | exact h.tail.tail.tail.tail.tail.tail.tail.tail.tail.tail.tail.tail.tail)⟩
  ·
    refine TC_skip ?_
    refine TX_then ?_
    refine TC_seq ?_
    refine TC_reg ?_
    refine TL_e rfl rfl rfl (rfl) (ET_call rfl YtkkdpbjfkncpbaaF.cal_15 rfl (newRow_spec w0 η)) ?_
    rintro _ _ ⟨rb, K0, rfl, hK0, rfl⟩
    refine TL_q rfl rfl (QT_assign rfl rfl rfl) ?_
    refine TL_nil ?_
    refine TX_then ?_
    refine TC_seq ?_
    refine TC_reg ?_
    refine TL_e rfl rfl rfl (rfl) (ET_call rfl YtkkdpbjfkncpbaaF.cal_16 rfl (rnew_spec w0 (K0 ++ η))) ?_
    rintro _ _ ⟨mb, M0, rfl, hM0, rfl⟩
    refine TL_q rfl rfl (QT_assign rfl rfl rfl) ?_
    refine TL_nil ?_
    refine TX_then ?_
    refine TC_seq ?_
    refine TC_reg ?_
    refine TL_q rfl rfl (QT_build rfl rfl YtkkdpbjfkncpbaaF.zero_50 YtkkdpbjfkncpbaaF.pl_50 rfl rfl rfl) ?_
    refine TL_e rfl rfl rfl (rfl) (ET_alloc rfl YtkkdpbjfkncpbaaF.zero_50) ?_
    rintro _ _ ⟨b5, rfl, rfl⟩
    first
      | refine TL_e0 rfl rfl (rfl) (ET_storeW 0 rfl rfl rfl YtkkdpbjfkncpbaaF.sz_50 rfl rfl rfl) ?_
      | refine TL_e0 rfl rfl (rfl) (ET_storeW 1 rfl rfl rfl YtkkdpbjfkncpbaaF.sz_50 rfl rfl rfl) ?_
      | refine TL_e0 rfl rfl (rfl) (ET_storeW 2 rfl rfl rfl YtkkdpbjfkncpbaaF.sz_50 rfl rfl rfl) ?_
      | refine TL_e0 rfl rfl (rfl) (ET_store 0 rfl rfl rfl rfl YtkkdpbjfkncpbaaF.sz_50 rfl rfl rfl) ?_
      | refine TL_e0 rfl rfl (rfl) (ET_store 1 rfl rfl rfl rfl YtkkdpbjfkncpbaaF.sz_50 rfl rfl rfl) ?_
      | refine TL_e0 rfl rfl (rfl) (ET_store 2 rfl rfl rfl rfl YtkkdpbjfkncpbaaF.sz_50 rfl rfl rfl) ?_
    rintro _ _ ⟨rfl, rfl⟩
    refine TL_nil ?_
    refine TX_then ?_
    refine TC_seq ?_
    refine TC_seq ?_
    refine TC_reg ?_
    refine TL_q rfl rfl (QT_assign rfl rfl rfl) ?_
    refine TL_nil ?_
    refine TX_then ?_
    refine TC_block ?_
    have hn200 : ls.length ≤ 200 := by omega
    refine TC_loop (γ := { t : Nat × List Bool × Heap × Heap × Value × List Strip × Heap // t.1 ≤ ls.length ∧ RowAt rb t.2.1 t.2.2.1 ∧ RefAt mb t.2.1 t.2.2.2.1 ∧ t.2.1.length ≤ 524288 ∧ Frag 82 3 t.2.2.2.2.1 t.2.2.2.2.2.1.length (arrOf t.2.2.2.2.2.1) t.2.2.2.2.2.2 ∧ t.2.2.2.2.2.1.length = t.1 ∧ ∀ s ∈ t.2.2.2.2.2.1, s.ok 5 1 byteK }) (fun t => [(0, true, .slice ad ls.length cap), (3, true, .pointer (some ⟨rb, 0, none⟩)), (4, true, .pointer (some ⟨mb, 0, none⟩)), (5, true, .pointer (some ⟨b5, 0, none⟩)), (6, true, .int .i64 (t.1.1 : Int))]) (fun t => St w0 (t.1.2.2.1 ++ (t.1.2.2.2.1 ++ ((b5, 50, (bkB t.1.1 t.1.2.2.2.2.1).cells) :: (t.1.2.2.2.2.2.2 ++ (heapOf t.1.2.2.2.2.2.1 ++ η)))))) (fun t => ls.length - t.1.1) ⟨(0, [], K0, M0, .slice none 0 0, [], []), Nat.zero_le _, hK0, hM0, Nat.zero_le _, Frag.nil _ _, rfl, fun s h => absurd h List.not_mem_nil⟩ ⟨rfl, rfl, rfl, rfl, rfl, trivial⟩ (fun w h => by
      have h2 : St w0 ((b5, 50, (bkB 0 (.slice none 0 0)).cells) :: (M0 ++ (K0 ++ η))) w := h
      exact h2.cnt fun p => by simp only [heapOf_nil, List.countP_append, List.countP_cons, List.countP_nil]; omega) ?_
    rintro ⟨⟨i, l, K, M, bv, ss, HS⟩, hi, hK, hM, hl, hFS, hsl, hss⟩
    dsimp only at hi hK hM hl hFS hsl hss ⊢
    refine TC_seq ?_
    refine TC_seq ?_
    refine TC_reg ?_
    refine TL_q rfl rfl (QT_move rfl rfl rfl) ?_
    refine TL_q rfl rfl (QT_move rfl rfl rfl) ?_
    refine TL_q rfl rfl (QT_len rfl rfl Try.underlying31 rfl) ?_
    refine TL_q rfl rfl (QT_lss rfl rfl rfl rfl) ?_
    refine TL_nil ?_
    refine TX_then ?_
    first
      | refine TC_cond_dec rfl (fun h20 => ?_) (fun h20 => ?_)
      | refine TC_cond rfl (fun h20 => ?_) (fun h20 => ?_)
    ·
      have hi' : i < ls.length := by omega
      obtain rfl := had (by omega)
      have hR : ∀ {η' : Heap}, (∀ p : Blk → Bool, η.countP p ≤ η'.countP p) → Rd (St w0 η') b off (ldV ls) := fun h => hrd.mono fun _ hw => hw.cnt h
      obtain ⟨x, hx⟩ : ∃ x, ls[i]? = some x := ⟨_, List.getElem?_eq_getElem hi'⟩
      obtain ⟨hx1, hx2⟩ := hb x (List.mem_of_getElem? hx)
      obtain ⟨ha1, ha2, _⟩ := ldV_at hx
      obtain ⟨v, n⟩ := x
      dsimp only at hx1 hx2 ha1 ha2
      refine TC_skip ?_
      refine TX_then ?_
      refine TC_seq ?_
      refine TC_block ?_
      refine TC_seq ?_
      refine TC_reg ?_
      refine TL_q rfl rfl (QT_assign rfl rfl rfl) ?_
      refine TL_nil ?_
      refine TX_then ?_
      refine TC_seq ?_
      refine TC_reg ?_
      refine TL_q rfl rfl (QT_assign rfl rfl rfl) ?_
      refine TL_nil ?_
      refine TX_then ?_
      refine TC_cut (γ := { t : List Bool × Heap × Heap × Int // RowAt rb t.1 t.2.1 ∧ RefAt mb t.1 t.2.2.1 ∧ t.1.length ≤ 524288 }) (fun t => [(0, true, .slice (some ⟨b, off, none⟩) ls.length cap), (3, true, .pointer (some ⟨rb, 0, none⟩)), (4, true, .pointer (some ⟨mb, 0, none⟩)), (5, true, .pointer (some ⟨b5, 0, none⟩)), (6, true, .int .i64 (i : Int)), (7, true, .int .i64 t.1.2.2.2), (8, true, .int .i64 t.1.2.2.2)]) (fun t => St w0 (t.1.2.1 ++ (t.1.2.2.1 ++ ((b5, 50, (bkB i bv).cells) :: (HS ++ (heapOf ss ++ η)))))) ?_ ?_
      ·
        refine TC_seq ?_
        refine TC_reg ?_
        refine TL_q rfl rfl (QT_move rfl rfl rfl) ?_
        refine TL_q rfl rfl (QT_move rfl rfl rfl) ?_
        refine TL_q rfl rfl (QT_indexSlice (i) rfl rfl Try.underlying31 YtkkdpbjfkncpbaaF.sz_52 rfl rfl (rfl) (fun _ => hi')) ?_
        refine TL_q rfl rfl (QT_field rfl rfl YtkkdpbjfkncpbaaF.fld_52_1 rfl) ?_
        refine TL_q rfl rfl (QT_loadRj (i * 2 + 1) rfl rfl Try.underlying3 rfl (hR fun p => by simp only [List.countP_append, List.countP_cons]; omega) rfl (fun _ => ha2)) ?_
        refine TL_q rfl rfl (QT_eql rfl rfl rfl rfl) ?_
        refine TL_nil ?_
        refine TX_then ?_
        first
          | refine TC_cond_dec rfl (fun h28 => ?_) (fun h28 => ?_)
          | refine TC_cond rfl (fun h28 => ?_) (fun h28 => ?_)
        ·
          refine TC_seq ?_
          refine TC_reg ?_
          refine TL_q rfl rfl (QT_move rfl rfl rfl) ?_
          refine TL_e rfl rfl rfl (rfl) (ET_call rfl YtkkdpbjfkncpbaaF.cal_17 rfl (RowAt.pad (M ++ ((b5, 50, (bkB i bv).cells) :: (HS ++ (heapOf ss ++ η)))) hK)) ?_
          rintro _ _ ⟨K1, rfl, hK1, rfl⟩
          refine TL_q rfl rfl (QT_assign rfl rfl rfl) ?_
          refine TL_nil ?_
          refine TX_then ?_
          refine TC_reg ?_
          refine TL_q rfl rfl (QT_move rfl rfl rfl) ?_
          refine TL_A (St w0 (M ++ (K1 ++ ((b5, 50, (bkB i bv).cells) :: (HS ++ (heapOf ss ++ η)))))) (fun _ h => h.cnt fun p => by simp only [List.countP_append, List.countP_cons]; omega) ?_
          refine TL_e rfl rfl rfl (rfl) (ET_call rfl YtkkdpbjfkncpbaaF.cal_18 rfl (rpad_spec w0 (K1 ++ ((b5, 50, (bkB i bv).cells) :: (HS ++ (heapOf ss ++ η)))) M mb l hM (by omega))) ?_
          rintro _ _ ⟨M1, rfl, hM1, rfl⟩
          refine TL_q rfl rfl (QT_assign rfl rfl rfl) ?_
          refine TL_nil ?_
          exact TX_cut ⟨(_, K1, M1, 0), hK1, hM1, padL_len hl⟩ ⟨rfl, rfl, rfl, rfl, rfl, rfl, rfl, trivial⟩ (fun _ h => h.cnt fun p => by simp only [List.countP_append, List.countP_cons]; omega)
        ·
          refine TC_seq ?_
          refine TC_draw [(0, 0), (1, 0), (2, 0), (3, 0), (4, 0), (5, 0), (6, 0), (7, 0), (8, 0), (9, 0), (10, 0), (11, 1), (12, 0)] YtkkdpbjfkncpbaaF.mixed (by kernel_rfl) (St.calm _ _) ?_
          refine TV_q rfl rfl rfl (fun _ => QT_move rfl rfl rfl) ?_
          refine TV_q rfl rfl rfl (fun _ => QT_move rfl rfl rfl) ?_
          refine TV_q rfl rfl rfl (fun _ => QT_move rfl rfl rfl) ?_
          refine TV_q rfl rfl rfl (fun _ => QT_indexSlice (i) rfl rfl Try.underlying31 YtkkdpbjfkncpbaaF.sz_52 rfl rfl (rfl) (fun _ => hi')) ?_
          refine TV_q rfl rfl rfl (fun _ => QT_field rfl rfl YtkkdpbjfkncpbaaF.fld_52_0 rfl) ?_
          refine TV_ql rfl rfl rfl (QT_loadRj (i * 2) rfl rfl Try.underlying25 rfl (hR fun p => by simp only [List.countP_append, List.countP_cons]; omega) rfl (fun _ => ha1)) ?_
          refine TV_q rfl rfl rfl (fun _ => QT_move rfl rfl rfl) ?_
          refine TV_q rfl rfl rfl (fun _ => QT_move rfl rfl rfl) ?_
          refine TV_q rfl rfl rfl (fun _ => QT_indexSlice (i) rfl rfl Try.underlying31 YtkkdpbjfkncpbaaF.sz_52 rfl rfl (rfl) (fun _ => hi')) ?_
          refine TV_q rfl rfl rfl (fun _ => QT_field rfl rfl YtkkdpbjfkncpbaaF.fld_52_1 rfl) ?_
          refine TV_ql rfl rfl rfl (QT_loadRj (i * 2 + 1) rfl rfl Try.underlying3 rfl (hR fun p => by simp only [List.countP_append, List.countP_cons]; omega) rfl (fun _ => ha2)) ?_
          refine TV_e rfl rfl rfl rfl (rfl) (ET_call rfl YtkkdpbjfkncpbaaF.cal_19 rfl (put_spec w0 (M ++ ((b5, 50, (bkB i bv).cells) :: (HS ++ (heapOf ss ++ η)))) K rb l v n hK hx1 hx2 hl)) ?_
          rintro _ _ ⟨K1, rfl, hK1, rfl⟩
          refine ⟨_, .drop (by kernel_rfl) (.drop (by kernel_rfl) (.nil)), ?_⟩
          refine TV_q rfl rfl rfl (fun _ => QT_assign rfl rfl rfl) ?_
          refine TV_end ?_
          refine TX_then ?_
          refine TC_A (St w0 (M ++ (K1 ++ ((b5, 50, (bkB i bv).cells) :: (HS ++ (heapOf ss ++ η)))))) (fun _ h => h.cnt fun p => by simp only [List.countP_append, List.countP_cons]; omega) ?_
          refine TC_draw [(0, 0), (1, 0), (2, 0), (3, 0), (4, 0), (5, 0), (6, 0), (7, 0), (8, 0), (9, 0), (10, 0), (11, 1), (12, 0)] YtkkdpbjfkncpbaaF.mixed (by kernel_rfl) (St.calm _ _) ?_
          refine TV_q rfl rfl rfl (fun _ => QT_move rfl rfl rfl) ?_
          refine TV_q rfl rfl rfl (fun _ => QT_move rfl rfl rfl) ?_
          refine TV_q rfl rfl rfl (fun _ => QT_move rfl rfl rfl) ?_
          refine TV_q rfl rfl rfl (fun _ => QT_indexSlice (i) rfl rfl Try.underlying31 YtkkdpbjfkncpbaaF.sz_52 rfl rfl (rfl) (fun _ => hi')) ?_
          refine TV_q rfl rfl rfl (fun _ => QT_field rfl rfl YtkkdpbjfkncpbaaF.fld_52_0 rfl) ?_
          refine TV_ql rfl rfl rfl (QT_loadRj (i * 2) rfl rfl Try.underlying25 rfl (hR fun p => by simp only [List.countP_append, List.countP_cons]; omega) rfl (fun _ => ha1)) ?_
          refine TV_q rfl rfl rfl (fun _ => QT_move rfl rfl rfl) ?_
          refine TV_q rfl rfl rfl (fun _ => QT_move rfl rfl rfl) ?_
          refine TV_q rfl rfl rfl (fun _ => QT_indexSlice (i) rfl rfl Try.underlying31 YtkkdpbjfkncpbaaF.sz_52 rfl rfl (rfl) (fun _ => hi')) ?_
          refine TV_q rfl rfl rfl (fun _ => QT_field rfl rfl YtkkdpbjfkncpbaaF.fld_52_1 rfl) ?_
          refine TV_ql rfl rfl rfl (QT_loadRj (i * 2 + 1) rfl rfl Try.underlying3 rfl (hR fun p => by simp only [List.countP_append, List.countP_cons]; omega) rfl (fun _ => ha2)) ?_
          refine TV_e rfl rfl rfl rfl (rfl) (ET_call rfl YtkkdpbjfkncpbaaF.cal_20 rfl (rput_spec w0 (K1 ++ ((b5, 50, (bkB i bv).cells) :: (HS ++ (heapOf ss ++ η)))) M mb l v n hM hx1 hx2 hl)) ?_
          rintro _ _ ⟨M1, rfl, hM1, rfl⟩
          refine ⟨_, .drop (by kernel_rfl) (.drop (by kernel_rfl) (.nil)), ?_⟩
          refine TV_q rfl rfl rfl (fun _ => QT_assign rfl rfl rfl) ?_
          refine TV_end ?_
          exact TX_cut ⟨(_, K1, M1, putE l.length v n), hK1, hM1, putL_len hl⟩ ⟨rfl, rfl, rfl, rfl, rfl, rfl, rfl, trivial⟩ (fun _ h => h.cnt fun p => by simp only [List.countP_append, List.countP_cons]; omega)
      clear hK hM hl l K M
      rintro ⟨⟨l, K, M, e⟩, hK, hM, hl⟩
      dsimp only at hK hM hl ⊢
      refine TC_seq ?_
      refine TC_reg ?_
      refine TL_q rfl rfl (QT_move rfl rfl rfl) ?_
      refine TL_e rfl rfl rfl (rfl) (ET_call rfl YtkkdpbjfkncpbaaF.cal_21 rfl (RowAt.bytes (M ++ ((b5, 50, (bkB i bv).cells) :: (HS ++ (heapOf ss ++ η)))) hK (by omega))) ?_
      rintro cv _ ⟨bs, H2, hF2, hbs, rfl⟩
      refine TL_q rfl rfl (QT_assign rfl rfl rfl) ?_
      refine TL_nil ?_
      refine TX_then ?_
      refine TC_seq ?_
      refine TC_seq ?_
      refine TC_A (St w0 (K ++ (M ++ (H2 ++ ((b5, 50, (bkB i bv).cells) :: (HS ++ (heapOf ss ++ η))))))) (fun _ h => h.cnt fun p => by simp only [List.countP_append, List.countP_cons]; omega) ?_
      have hbl : bs.length ≤ 70000 := by
        have := congrArg List.length hbs.1
        rw [byB_len, List.length_append, List.length_replicate] at this
        omega
      refine TC_reg ?_
      refine TL_q rfl rfl (QT_move rfl rfl rfl) ?_
      refine TL_q rfl rfl (QT_move rfl rfl rfl) ?_
      refine TL_q rfl rfl (QT_neq rfl rfl rfl rfl) ?_
      refine TL_q rfl rfl (QT_move rfl rfl rfl) ?_
      refine TL_q rfl rfl (QT_move rfl rfl rfl) ?_
      refine TL_cq rfl rfl rfl rfl YtkkdpbjfkncpbaaF.cal_22 rfl (fun _ => RowAt.len (M ++ (H2 ++ ((b5, 50, (bkB i bv).cells) :: (HS ++ (heapOf ss ++ η))))) hK (by omega)) ?_
      refine TL_q rfl rfl (QT_move rfl rfl rfl) ?_
      refine TL_A (St w0 (M ++ (K ++ (H2 ++ ((b5, 50, (bkB i bv).cells) :: (HS ++ (heapOf ss ++ η))))))) (fun _ h => h.cnt fun p => by simp only [List.countP_append, List.countP_cons]; omega) ?_
      refine TL_cq rfl rfl rfl rfl YtkkdpbjfkncpbaaF.cal_23 rfl (fun _ => rlen_spec w0 (K ++ (H2 ++ ((b5, 50, (bkB i bv).cells) :: (HS ++ (heapOf ss ++ η))))) M mb l hM) ?_
      refine TL_q rfl rfl (QT_neq rfl rfl rfl rfl) ?_
      refine TL_q rfl rfl (QT_or rfl rfl rfl rfl) ?_
      refine TL_q rfl rfl (QT_move rfl rfl rfl) ?_
      refine TL_q rfl rfl (QT_move rfl rfl rfl) ?_
      refine TL_q rfl rfl (QT_move rfl rfl rfl) ?_
      refine TL_e rfl rfl rfl ((by simp)) (ET_call rfl YtkkdpbjfkncpbaaF.cal_25 rfl (rbytes_spec w0 (K ++ (H2 ++ ((b5, 50, (bkB i bv).cells) :: (HS ++ (heapOf ss ++ η))))) M mb l hM (by omega))) ?_
      rintro qv _ ⟨bs2, H4, hF4, hbs4, rfl⟩
      obtain rfl : bs2 = bs := byB_inj (hbs4.1.trans hbs.1.symm) hbs4.2 hbs.2
      refine TL_cq rfl rfl rfl rfl YtkkdpbjfkncpbaaF.cal_24 rfl (fun _ => sameOk_Bytes w0 _ cv qv bs2.length (byV bs2) (hF2.within fun p => by simp only [List.countP_append]; omega) (hF4.within fun p => by simp only [List.countP_append]; omega) (byV_ints hbs.2)) ?_
      refine TL_q rfl rfl (QT_not rfl rfl rfl) ?_
      refine TL_q rfl rfl (QT_or rfl rfl rfl rfl) ?_
      refine TL_nil ?_
      refine TX_then ?_
      refine TC_cond rfl (fun h => absurd (h.symm.trans ((show (_ : Bool) = false by simp))) (by decide)) (fun _ => ?_)
      refine TC_skip ?_
      refine TX_then ?_
      refine TC_A (St w0 ((b5, 50, (bkB i bv).cells) :: (HS ++ (H2 ++ (heapOf ss ++ (K ++ (M ++ η))))))) (fun _ h => h.cnt fun p => by simp only [List.countP_append, List.countP_cons]; omega) ?_
      obtain ⟨cad, ccap, hcv, _, _⟩ := hF2.slice
      refine TC_reg ?_
      refine TL_q rfl rfl (QT_move rfl rfl rfl) ?_
      refine TL_e rfl rfl rfl (rfl) (ET_call rfl YtkkdpbjfkncpbaaF.cal_26 rfl (book_Bytes w0 (H2 ++ (heapOf ss ++ (K ++ (M ++ η)))) HS b5 (bkB i bv) ss cv bs2.length (byV bs2) H2 (by show (0 : Int) ≤ (i : Int) ∧ (i : Int) ≤ 250; omega) hFS hss (by omega) ⟨_, _, _, hcv⟩)) ?_
      rintro _ _ ⟨r2, HS2, hFS2, rfl⟩
      refine TL_nil ?_
      refine TX_block_normal ?_
      refine TX_then ?_
      refine TC_reg ?_
      refine TL_q rfl rfl (QT_move rfl rfl rfl) ?_
      refine TL_q rfl rfl (QT_add rfl rfl rfl rfl (fun _ => ⟨by omega, by omega⟩)) ?_
      refine TL_q rfl rfl (QT_assign rfl rfl rfl) ?_
      refine TL_nil ?_
      exact TX_round ⟨(i + 1, l, K, M, r2, ss ++ [⟨cv, bs2.length, byV bs2, nilS, [.int .u8 ((i : Int) + 1)], H2⟩], HS2), hi', hK, hM, hl, by rw [List.length_append]; exact hFS2, by rw [List.length_append, hsl]; rfl, fun s hs => by
        rcases List.mem_append.1 hs with hs | hs
        · exact hss s hs
        · cases List.mem_singleton.1 hs
          exact ⟨hF2, markB (by omega), by show bs2.length ≤ 2000000; omega⟩⟩ (by show ls.length - (i + 1) < ls.length - i; omega) ⟨rfl, rfl, rfl, rfl, slotI rfl (by dsimp only; omega), trivial⟩ (fun w h => by
        have h2 : St w0 ((b5, 50, (bkB (i + 1) r2).cells) :: (HS2 ++ (H2 ++ (heapOf ss ++ (K ++ (M ++ η)))))) w := by
          have e : ((i : Int) + 1) = ((i + 1 : Nat) : Int) := by simp
          have h3 := h
          unfold bkB at h3 ⊢
          rw [← e]
          exact h3
        exact h2.cnt fun p => by simp only [heapOf_append, heapOf_cons, heapOf_nil, List.countP_append, List.countP_cons, List.countP_nil]; omega)
    ·
      refine TC_exit ?_
      refine TX_then_exit ?_
      refine TX_then_exit ?_
      refine TX_block_here ?_
      refine TX_then ?_
      refine TC_seq ?_
      refine TC_A (St w0 ((b5, 50, (bkB i bv).cells) :: (HS ++ (heapOf ss ++ (K ++ (M ++ η)))))) (fun _ h => h.cnt fun p => by simp only [List.countP_append, List.countP_cons]; omega) ?_
      refine TC_reg ?_
      refine TL_e rfl rfl rfl (rfl) (ET_call rfl YtkkdpbjfkncpbaaF.cal_27 rfl (apart_spec w0 (K ++ (M ++ η)) b5 (bkB i bv) (by show (0 : Int) ≤ (i : Int) ∧ (i : Int) ≤ 250; omega) ss HS hFS hss rfl rfl rfl rfl rfl rfl rfl rfl rfl rfl rfl rfl)) ?_
      rintro _ _ ⟨rfl, rfl⟩
      refine TL_q rfl rfl (QT_move rfl rfl rfl) ?_
      refine TL_q rfl rfl (QT_move rfl rfl rfl) ?_
      refine TL_e rfl rfl rfl (rfl) (ET_call rfl YtkkdpbjfkncpbaaF.cal_21 rfl (RowAt.bytes (M ++ η) hK (by omega))) ?_
      rintro cv _ ⟨bs, H2, hF2, hbs, rfl⟩
      refine TL_q rfl rfl (QT_move rfl rfl rfl) ?_
      refine TL_A (St w0 (M ++ (H2 ++ (K ++ η)))) (fun _ h => h.cnt fun p => by simp only [List.countP_append]; omega) ?_
      refine TL_e rfl rfl rfl (rfl) (ET_call rfl YtkkdpbjfkncpbaaF.cal_25 rfl (rbytes_spec w0 (H2 ++ (K ++ η)) M mb l hM (by omega))) ?_
      rintro qv _ ⟨bs2, H4, hF4, hbs4, rfl⟩
      obtain rfl : bs2 = bs := byB_inj (hbs4.1.trans hbs.1.symm) hbs4.2 hbs.2
      refine TL_cq rfl rfl rfl rfl YtkkdpbjfkncpbaaF.cal_24 rfl (fun _ => sameOk_Bytes w0 _ cv qv bs2.length (byV bs2) (hF2.within fun p => by simp only [List.countP_append]; omega) (hF4.within fun p => by simp only [List.countP_append]; omega) (byV_ints hbs.2)) ?_
      refine TL_q rfl rfl (QT_and rfl rfl rfl rfl) ?_
      refine TL_q rfl rfl (QT_move rfl rfl rfl) ?_
      refine TL_cq rfl rfl rfl rfl YtkkdpbjfkncpbaaF.cal_10 rfl (fun _ => lives06 w0 _) ?_
      refine TL_q rfl rfl (QT_and rfl rfl rfl rfl) ?_
      refine TL_q rfl rfl (QT_assign rfl rfl rfl) ?_
      refine TL_nil ?_
      refine TX_then ?_
      refine TC_ret ?_
      exact TX_ret (.inl rfl) (res1 rfl rfl) ⟨_, ⟨rfl, rfl⟩, fun _ h => h.cnt fun p => by simp only [List.countP_append]; omega⟩
end Go.Proofs.Ytkkdpbjfkncpbaa

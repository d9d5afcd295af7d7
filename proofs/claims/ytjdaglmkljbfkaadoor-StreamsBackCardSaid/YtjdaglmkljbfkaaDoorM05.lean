/- TRIANGLES OF VERTICES OF TYPE 5: rows of the program, cells of the document. TRIANGLES OF VERTICES OF TYPE 5: the document's cells. TRIANGLES OF VERTICES: the program's answer, and the document's. TRIANGLES OF VERTICES: the document's answer. VERTICES OF A TEXT; letters of triangles; the chapter's answers. LETTERS of triangles; whether a text's triangles are these; the chapter's answers. Are a text's triangles these? The chapter's answers. A PATCH OF A SHEET, WHOLE: what the program's own function makes of a sheet's cells and of the patch's ahead. THE PATCHES OF SHEETS: what the program's own function answers. WHAT THE ROWS OF THE PATCHES LIST: the sets of numbers of bits, the edges; a parameter of sheets. WHAT THE ROWS OF THE RECORDS ARE OPENED BY: the sets of numbers of bits; a parameter of bytes, of records. THREE EFFECTS OF A DRAWN REGION, in any order; one way on behind all orders. Program-independent. STREAMS: which functions are for which type; what may be encoded. STREAMS: what may be encoded. STREAMS: records of bytes, refused where their faces are. STREAMS: sheets of bytes, refused where their faces are. STREAMS: bytes of records, of sheets, refused where their faces are. STREAMS: bytes of sheets, refused where their faces are. STREAMS: a mesh of bytes, by type. STREAMS: a mesh of bytes of sheets. STREAMS: bytes of a mesh, by type. -/
import Derived.Test.YtjdaglmkljbfkaaDoorM04
namespace Go.Proofs.YtjdaglmkljbfkaaDoor
open Go Go.Gx Go.RowKit
set_option maxRecDepth 100000

def at7 (rs : List R) (i : Nat) : R := rs.getD i zR
theorem at7_some {rs : List R} {i : Nat} (h : i < rs.length) : rs[i]? = some (at7 rs i) := by
  rw [at7, List.getD_eq_getElem?_getD, List.getElem?_eq_getElem h]; rfl
theorem flat_at7 {rs : List R} {i : Nat} (ha : All7 rs) (h : i < rs.length) : (rs.flatten.drop (i * 7)).take 7 = at7 rs i ∧ i * 7 + 7 ≤ rs.flatten.length := flat_at ha.len (at7_some h)
theorem at7_ints {rs : List R} {i : Nat} (ha : All7 rs) (h : i < rs.length) : Ints recK (at7 rs i) := ha _ (List.mem_of_getElem? (at7_some h))
def cellF (rs : List R) (row i : Nat) : List R :=
  if i % row = row - 1 then [] else [B3 (at7 rs i) (at7 rs (i + 1)) (at7 rs (i + row)), B3 (at7 rs (i + 1)) (at7 rs (i + row + 1)) (at7 rs (i + row))]
def outT (rs : List R) (row n : Nat) : List R := (List.range n).flatMap (cellF rs row)
theorem outT_succ (rs : List R) (row n : Nat) : outT rs row (n + 1) = outT rs row n ++ cellF rs row n := by
  simp [outT, List.range_succ, List.flatMap_append]
theorem outT_len (rs : List R) (row : Nat) : ∀ n, (outT rs row n).length ≤ 2 * n
  | 0 => by simp [outT]
  | n + 1 => by
    have h := outT_len rs row n
    have h2 : (cellF rs row n).length ≤ 2 := by unfold cellF; split <;> simp
    rw [outT_succ, List.length_append]; omega
theorem B3_ints {a b c : R} (ha : Ints recK a) (hb : Ints recK b) (hc : Ints recK c) : Ints triK (B3 a b c) := T3_ints (bareR_ints ha) (bareR_ints hb) (bareR_ints hc)
def rowsF (rs : List R) (row : Nat) : List R × Int := if rs.length % row = 0 ∧ 2 ≤ rs.length / row then (outT rs row (rs.length - row), 0) else ([], 5)
theorem icast_mod (a b : Nat) : (a : Int) % (b : Int) = ((a % b : Nat) : Int) := rfl
theorem icast_div (a b : Nat) : (a : Int) / (b : Int) = ((a / b : Nat) : Int) := rfl
theorem icast_mul (a b : Nat) : (a : Int) * (b : Int) = ((a * b : Nat) : Int) := rfl
theorem i64_mul {a b : Nat} (h : a * b ≤ 9223372036854775807) : -9223372036854775808 ≤ (a : Int) * (b : Int) ∧ (a : Int) * (b : Int) ≤ 9223372036854775807 := by
  rw [icast_mul]; omega
theorem two_rows {n row : Nat} (h0 : n % row = 0) (h2 : 2 ≤ n / row) : 2 * row ≤ n ∧ n / row * row = n := by
  have h := Nat.div_mul_cancel (Nat.dvd_of_mod_eq_zero h0)
  refine ⟨?_, h⟩
  calc 2 * row ≤ n / row * row := Nat.mul_le_mul_right _ h2
    _ = n := h

theorem two_own {a b : R} (ha : a.length = 21) (hb : b.length = 21) : ((([Value.agg a.toArray, Value.agg b.toArray].map fun v => v.cells.toList).flatten.drop 0).take (2 * 21)) = a ++ b := by
  rw [List.drop_zero, List.take_of_length_le (by simp [Value.cells, ha, hb])]
  simp [Value.cells]

theorem two_len {a b : R} (ha : a.length = 21) (hb : b.length = 21) : 0 + 2 * 21 ≤ ([Value.agg a.toArray, Value.agg b.toArray].map fun v => v.cells.toList).flatten.length := by
  simp [Value.cells, ha, hb]
theorem one_own {a : R} (ha : a.length = 21) : ((([Value.agg a.toArray].map fun v => v.cells.toList).flatten.drop 0).take (1 * 21)) = a := by
  rw [List.drop_zero, List.take_of_length_le (by simp [Value.cells, ha])]
  simp [Value.cells]
theorem one_len {a : R} (ha : a.length = 21) : 0 + 1 * 21 ≤ ([Value.agg a.toArray].map fun v => v.cells.toList).flatten.length := by
  simp [Value.cells, ha]

set_option maxHeartbeats 1000000 in
theorem rows_spec (w0 : Base) (η : Heap) (sv : Value) (rs : List R) (row : Nat) (hs : SlA (St w0 η) sv 7 rs.length rs.flatten) (ha : All7 rs) (hrow : 1 ≤ row) (hn : rs.length * 120 ≤ 140737488355328) :
    CallsT Tryd.prog 32 [sv, .int .i64 (row : Int)] (St w0 η) fun v A' => ∃ pv H, v = .tuple #[pv, .int .i64 (rowsF rs row).2] ∧ Frag 69 21 pv (rowsF rs row).1.length (rowsF rs row).1.flatten H ∧ A' = St w0 (H ++ η) := by
  obtain ⟨_, ad, cap, sb, so, rfl, hcap, had, hrd⟩ := hs.some
  refine CallsT.body Tryd.func32 rfl rfl ?_
  simp only [Tryd.ntmps32, slotsOf, Nat.reduceAdd]
  refine TC_seq ?_
  refine TC_reg ?_
  refine TL_q rfl rfl (QT_assign rfl rfl rfl) ?_
  refine TL_q rfl rfl (QT_assign rfl rfl rfl) ?_
  refine TL_nil ?_
  refine TX_then ?_
  refine TC_scope ?_
  refine TC_seq ?_
  refine TC_seq ?_
  refine TC_reg ?_
  refine TL_q rfl rfl (QT_move rfl rfl rfl) ?_
  refine TL_q rfl rfl (QT_len rfl rfl Tryd.underlying30 rfl) ?_
  refine TL_q rfl rfl (QT_move rfl rfl rfl) ?_
  refine TL_q rfl rfl (QT_rem rfl rfl rfl rfl (fun _ => ⟨by omega, by omega⟩)) ?_
  refine TL_q rfl rfl (QT_neq rfl rfl rfl rfl) ?_
  refine TL_q rfl rfl (QT_move rfl rfl rfl) ?_
  refine TL_q rfl rfl (QT_move rfl rfl rfl) ?_
  refine TL_q rfl rfl (QT_len rfl rfl Tryd.underlying30 rfl) ?_
  refine TL_q rfl rfl (QT_move rfl rfl rfl) ?_
  refine TL_q rfl rfl (QT_quo rfl rfl rfl rfl (fun _ => ⟨by omega, by omega, by omega⟩)) ?_
  refine TL_q rfl rfl (QT_lss rfl rfl rfl rfl) ?_
  refine TL_q rfl rfl (QT_or rfl rfl rfl rfl) ?_
  refine TL_nil ?_
  refine TX_then ?_
  first
    | refine TC_cond_dec rfl (fun h23 => ?_) (fun h23 => ?_)
    | refine TC_cond rfl (fun h23 => ?_) (fun h23 => ?_)
  ·
    refine TC_seq ?_
    refine TC_reg ?_
    refine TL_q rfl rfl (QT_assign rfl rfl rfl) ?_
    refine TL_q rfl rfl (QT_assign rfl rfl rfl) ?_
    refine TL_nil ?_
    refine TX_then ?_
    refine TC_ret ?_
    refine TX_then_ret ?_
    refine TX_scope_ret ?_
    have he : rowsF rs row = ([], 5) := by
      rw [rowsF, if_neg]
      rw [icast_mod, icast_div] at h23
      simp only [Bool.or_eq_true, decide_eq_true_eq] at h23
      omega
    rw [he]
    exact TX_ret (.inl rfl) (res2 rfl rfl rfl) ⟨_, ⟨_, [], rfl, Frag.nil _ _, rfl⟩, (fun _ h => by first | exact h | exact h.tail | exact h.tail.tail | exact h.tail.tail.tail | exact h.tail.tail.tail.tail | exact h.tail.tail.tail.tail.tail | exact h.tail.tail.tail.tail.tail.tail | exact h.tail.tail.tail.tail.tail.tail.tail | exact h.tail.tail.tail.tail.tail.tail.tail.tail | exact h.tail.tail.tail.tail.tail.tail.tail.tail.tail | exact h.tail.tail.tail.tail.tail.tail.tail.tail.tail.tail | exact h.tail.tail.tail.tail.tail.tail.tail.tail.tail.tail.tail | exact h.tail.tail.tail.tail.tail.tail.tail.tail.tail.tail.tail.tail | exact h.tail.tail.tail.tail.tail.tail.tail.tail.tail.tail.tail.tail.tail)⟩
  ·
    refine TC_skip ?_
    refine TX_then ?_
    refine TC_seq ?_
    rw [icast_mod, icast_div] at h23
    simp only [Bool.or_eq_false_iff, decide_eq_false_iff_not, ne_eq, Classical.not_not] at h23
    have hm0 : rs.length % row = 0 := by omega
    have hm2 : 2 ≤ rs.length / row := by omega
    obtain ⟨h2r, _⟩ := two_rows hm0 hm2
    have he : rowsF rs row = (outT rs row (rs.length - row), 0) := by rw [rowsF, if_pos ⟨hm0, hm2⟩]
    rw [he]
    clear he h23
    refine TC_reg ?_
    refine TL_q rfl rfl (QT_assign rfl rfl rfl) ?_
    refine TL_nil ?_
    refine TX_then ?_
    refine TC_seq ?_
    refine TC_label ?_
    refine TX_then ?_
    refine TC_seq ?_
    refine TC_seq ?_
    refine TC_reg ?_
    refine TL_q rfl rfl (QT_move rfl rfl rfl) ?_
    refine TL_q rfl rfl (QT_len rfl rfl Tryd.underlying30 rfl) ?_
    refine TL_q rfl rfl (QT_move rfl rfl rfl) ?_
    refine TL_q rfl rfl (QT_sub rfl rfl rfl rfl (fun _ => ⟨by omega, by omega⟩)) ?_
    refine TL_q rfl rfl (QT_move rfl rfl rfl) ?_
    refine TL_nil ?_
    refine TX_then ?_
    refine TC_block ?_
    refine TC_loop (γ := { t : Nat × Value × Heap // t.1 ≤ rs.length - row ∧ Frag 69 21 t.2.1 (outT rs row t.1).length (outT rs row t.1).flatten t.2.2 }) (fun t => [(0, true, .slice ad rs.length cap), (1, true, .int .i64 (row : Int)), (6, true, t.1.2.1), (27, true, .int .i64 ((rs.length : Int) - (row : Int))), (28, true, .int .i64 (t.1.1 : Int))]) (fun t => St w0 (t.1.2.2 ++ η)) (fun t => rs.length - row - t.1.1) ⟨(0, .slice none 0 0, []), Nat.zero_le _, Frag.nil _ _⟩ ⟨rfl, rfl, rfl, rfl, rfl, trivial⟩ (fun _ h => h) ?_
    rintro ⟨⟨i, fv, H⟩, hi, hfr⟩
    dsimp only at hi hfr ⊢
    refine TC_seq ?_
    refine TC_reg ?_
    refine TL_q rfl rfl (QT_lss rfl rfl rfl rfl) ?_
    refine TL_nil ?_
    refine TX_then ?_
    refine TC_seq ?_
    first
      | refine TC_cond_dec rfl (fun h29 => ?_) (fun h29 => ?_)
      | refine TC_cond rfl (fun h29 => ?_) (fun h29 => ?_)
    ·
      refine TC_skip ?_
      refine TX_then ?_
      refine TC_cut (γ := { t : Value × Heap // Frag 69 21 t.1 (outT rs row (i + 1)).length (outT rs row (i + 1)).flatten t.2 }) (fun t => [(0, true, .slice ad rs.length cap), (1, true, .int .i64 (row : Int)), (6, true, t.1.1), (27, true, .int .i64 ((rs.length : Int) - (row : Int))), (28, true, .int .i64 (i : Int))]) (fun t => St w0 (t.1.2 ++ η)) ?_ ?_
      ·
        refine TC_block ?_
        refine TC_seq ?_
        refine TC_reg ?_
        refine TL_q rfl rfl (QT_move rfl rfl rfl) ?_
        refine TL_q rfl rfl (QT_assign rfl rfl rfl) ?_
        refine TL_nil ?_
        refine TX_then ?_
        refine TC_seq ?_
        refine TC_seq ?_
        refine TC_reg ?_
        refine TL_q rfl rfl (QT_move rfl rfl rfl) ?_
        refine TL_q rfl rfl (QT_move rfl rfl rfl) ?_
        refine TL_q rfl rfl (QT_rem rfl rfl rfl rfl (fun _ => ⟨by omega, by omega⟩)) ?_
        refine TL_q rfl rfl (QT_move rfl rfl rfl) ?_
        refine TL_q rfl rfl (QT_sub rfl rfl rfl rfl (fun _ => ⟨by omega, by omega⟩)) ?_
        refine TL_q rfl rfl (QT_eql rfl rfl rfl rfl) ?_
        refine TL_nil ?_
        refine TX_then ?_
        first
          | refine TC_cond_dec rfl (fun h36 => ?_) (fun h36 => ?_)
          | refine TC_cond rfl (fun h36 => ?_) (fun h36 => ?_)
        ·
          have hc : cellF rs row i = [] := by
            rw [cellF, if_pos]
            rw [icast_mod] at h36
            omega
          refine TC_exit ?_
          refine TX_then_exit ?_
          refine TX_block_here ?_
          exact TX_cut ⟨(fv, H), by rw [outT_succ, hc, List.append_nil]; exact hfr⟩ ⟨rfl, rfl, rfl, rfl, rfl, trivial⟩ (fun _ h => h)
        ·
          have hc : cellF rs row i = [B3 (at7 rs i) (at7 rs (i + 1)) (at7 rs (i + row)), B3 (at7 rs (i + 1)) (at7 rs (i + row + 1)) (at7 rs (i + row))] := by
            rw [cellF, if_neg]
            rw [icast_mod] at h36
            omega
          have hi1 : i < rs.length := by omega
          have hi2 : i + 1 < rs.length := by omega
          have hi3 : i + row < rs.length := by omega
          have hi4 : i + row + 1 < rs.length := by
            refine Nat.lt_of_le_of_ne (by omega) fun e => h36 ?_
            rw [icast_mod]
            have e1 : i = rs.length - row - 1 := by omega
            have e2 : (rs.length - row - 1) % row = row - 1 := by
              obtain ⟨q, hq⟩ := Nat.dvd_of_mod_eq_zero hm0
              obtain ⟨q', rfl⟩ : ∃ q', q = q' + 2 := ⟨q - 2, by
                have := h2r
                rw [hq, Nat.mul_comm 2 row] at this
                have := Nat.le_of_mul_le_mul_left this (by omega)
                omega⟩
              rw [hq, Nat.mul_add, show row * q' + row * 2 - row - 1 = row - 1 + row * q' by omega, Nat.add_mul_mod_self_left, Nat.mod_eq_of_lt (by omega)]
            rw [e1, e2]; omega
          obtain ⟨f1, g1⟩ := flat_at7 ha hi1
          obtain ⟨f2, g2⟩ := flat_at7 ha hi2
          obtain ⟨f3, g3⟩ := flat_at7 ha hi3
          obtain ⟨f4, g4⟩ := flat_at7 ha hi4
          have j1 := at7_ints ha hi1
          have j2 := at7_ints ha hi2
          have j3 := at7_ints ha hi3
          have j4 := at7_ints ha hi4
          have hl := outT_len rs row i
          have z7 : ∀ {x : R}, Ints recK x → Sz Tryd.prog 67 x.length := fun h => by rw [h.length]; exact YtjdaglmkljbfkaaDoorF.sz_67
          generalize at7 rs i = xa at *
          generalize at7 rs (i + 1) = xb at *
          generalize at7 rs (i + row) = xc at *
          generalize at7 rs (i + row + 1) = xd at *
          have b1 : (B3 xa xb xc).length = 21 := (B3_ints j1 j2 j3).length
          have b2 : (B3 xb xd xc).length = 21 := (B3_ints j2 j4 j3).length
          refine TC_skip ?_
          refine TX_then ?_
          refine TC_seq ?_
          refine TC_draw [(0, 0), (1, 0), (2, 0), (3, 0), (4, 0), (5, 0), (6, 0), (7, 0), (8, 0), (9, 0), (10, 0), (11, 0), (12, 0), (13, 0), (14, 0), (15, 0), (16, 0), (17, 0), (18, 0), (19, 0), (20, 0), (21, 0), (22, 2), (23, 2), (24, 2), (25, 2), (26, 1), (27, 1), (28, 1), (29, 1)] YtjdaglmkljbfkaaDoorF.mixed (by kernel_rfl) (St.calm _ _) ?_
          refine TV_q rfl rfl rfl (fun _ => QT_move rfl rfl rfl) ?_
          refine TV_q rfl rfl rfl (fun _ => QT_move rfl rfl rfl) ?_
          refine TV_q rfl rfl rfl (fun _ => QT_indexG i rfl rfl Tryd.underlying30 YtjdaglmkljbfkaaDoorF.sz_67 rfl rfl rfl (fun _ => hi1) (fun _ => had (by omega))) ?_
          refine TV_ql rfl rfl rfl (QT_loadRAj (out := xa) (i * 7) rfl rfl Tryd.underlying67 rfl YtjdaglmkljbfkaaDoorF.sz_67 (hrd.deep (by intro _ hw; first | exact hw | exact hw.app_right | exact hw.app_right.app_right | exact hw.tail | exact hw.tail.app_right | exact hw.tail.tail | exact hw.tail.tail.app_right | exact hw.tail.tail.tail | exact hw.tail.tail.tail.app_right | exact hw.tail.tail.tail.tail | exact hw.tail.tail.tail.tail.app_right | exact hw.tail.tail.tail.tail.tail | exact hw.tail.tail.tail.tail.tail.app_right | exact hw.tail.tail.tail.tail.tail.tail | exact hw.tail.tail.tail.tail.tail.tail.app_right)) rfl (fun _ => g1) (fun _ => f1)) ?_
          refine TV_q rfl rfl rfl (fun _ => QT_move rfl rfl rfl) ?_
          refine TV_q rfl rfl rfl (fun _ => QT_move rfl rfl rfl) ?_
          refine TV_q rfl rfl rfl (fun _ => QT_add rfl rfl rfl rfl (fun _ => ⟨by omega, by omega⟩)) ?_
          refine TV_q rfl rfl rfl (fun _ => QT_indexG (i + 1) rfl rfl Tryd.underlying30 YtjdaglmkljbfkaaDoorF.sz_67 rfl rfl rfl (fun _ => hi2) (fun _ => had (by omega))) ?_
          refine TV_ql rfl rfl rfl (QT_loadRAj (out := xb) ((i + 1) * 7) rfl rfl Tryd.underlying67 rfl YtjdaglmkljbfkaaDoorF.sz_67 (hrd.deep (by intro _ hw; first | exact hw | exact hw.app_right | exact hw.app_right.app_right | exact hw.tail | exact hw.tail.app_right | exact hw.tail.tail | exact hw.tail.tail.app_right | exact hw.tail.tail.tail | exact hw.tail.tail.tail.app_right | exact hw.tail.tail.tail.tail | exact hw.tail.tail.tail.tail.app_right | exact hw.tail.tail.tail.tail.tail | exact hw.tail.tail.tail.tail.tail.app_right | exact hw.tail.tail.tail.tail.tail.tail | exact hw.tail.tail.tail.tail.tail.tail.app_right)) rfl (fun _ => g2) (fun _ => f2)) ?_
          refine TV_q rfl rfl rfl (fun _ => QT_move rfl rfl rfl) ?_
          refine TV_q rfl rfl rfl (fun _ => QT_move rfl rfl rfl) ?_
          refine TV_q rfl rfl rfl (fun _ => QT_move rfl rfl rfl) ?_
          refine TV_q rfl rfl rfl (fun _ => QT_add rfl rfl rfl rfl (fun _ => ⟨by omega, by omega⟩)) ?_
          refine TV_q rfl rfl rfl (fun _ => QT_indexG (i + row) rfl rfl Tryd.underlying30 YtjdaglmkljbfkaaDoorF.sz_67 rfl rfl rfl (fun _ => hi3) (fun _ => had (by omega))) ?_
          refine TV_ql rfl rfl rfl (QT_loadRAj (out := xc) ((i + row) * 7) rfl rfl Tryd.underlying67 rfl YtjdaglmkljbfkaaDoorF.sz_67 (hrd.deep (by intro _ hw; first | exact hw | exact hw.app_right | exact hw.app_right.app_right | exact hw.tail | exact hw.tail.app_right | exact hw.tail.tail | exact hw.tail.tail.app_right | exact hw.tail.tail.tail | exact hw.tail.tail.tail.app_right | exact hw.tail.tail.tail.tail | exact hw.tail.tail.tail.tail.app_right | exact hw.tail.tail.tail.tail.tail | exact hw.tail.tail.tail.tail.tail.app_right | exact hw.tail.tail.tail.tail.tail.tail | exact hw.tail.tail.tail.tail.tail.tail.app_right)) rfl (fun _ => g3) (fun _ => f3)) ?_
          refine TV_q rfl rfl rfl (fun _ => QT_move rfl rfl rfl) ?_
          refine TV_q rfl rfl rfl (fun _ => QT_move rfl rfl rfl) ?_
          refine TV_q rfl rfl rfl (fun _ => QT_move rfl rfl rfl) ?_
          refine TV_q rfl rfl rfl (fun _ => QT_add rfl rfl rfl rfl (fun _ => ⟨by omega, by omega⟩)) ?_
          refine TV_q rfl rfl rfl (fun _ => QT_add rfl rfl rfl rfl (fun _ => ⟨by omega, by omega⟩)) ?_
          refine TV_q rfl rfl rfl (fun _ => QT_indexG (i + row + 1) rfl rfl Tryd.underlying30 YtjdaglmkljbfkaaDoorF.sz_67 rfl rfl rfl (fun _ => hi4) (fun _ => had (by omega))) ?_
          refine TV_ql rfl rfl rfl (QT_loadRAj (out := xd) ((i + row + 1) * 7) rfl rfl Tryd.underlying67 rfl YtjdaglmkljbfkaaDoorF.sz_67 (hrd.deep (by intro _ hw; first | exact hw | exact hw.app_right | exact hw.app_right.app_right | exact hw.tail | exact hw.tail.app_right | exact hw.tail.tail | exact hw.tail.tail.app_right | exact hw.tail.tail.tail | exact hw.tail.tail.tail.app_right | exact hw.tail.tail.tail.tail | exact hw.tail.tail.tail.tail.app_right | exact hw.tail.tail.tail.tail.tail | exact hw.tail.tail.tail.tail.tail.app_right | exact hw.tail.tail.tail.tail.tail.tail | exact hw.tail.tail.tail.tail.tail.tail.app_right)) rfl (fun _ => g4) (fun _ => f4)) ?_
          refine TV_allocs [⟨22, 8, 67, zv recK⟩, ⟨23, 9, 67, zv recK⟩, ⟨24, 10, 67, zv recK⟩, ⟨25, 11, 67, zv recK⟩] [(26, 1), (27, 1), (28, 1), (29, 1)] (by kernel_rfl) (by decide) ?_ ?_ ?_ ?_
          · intro x hx
            simp only [List.mem_cons, List.not_mem_nil, or_false] at hx
            rcases hx with rfl | rfl | rfl | rfl <;> exact ⟨_, rfl, rfl, rfl, rfl, YtjdaglmkljbfkaaDoorF.zero_67, rfl⟩
          · intro x hx
            simp only [List.mem_cons, List.not_mem_nil, or_false] at hx
            rcases hx with rfl | rfl | rfl | rfl <;> rfl
          · intro x hx X
            simp only [List.mem_cons, List.not_mem_nil, or_false] at hx
            rcases hx with rfl | rfl | rfl | rfl <;> exact .keep (by kernel_rfl) rfl (by first | exact QT_loadRAj (out := xd) ((i + row + 1) * 7) rfl rfl Tryd.underlying67 rfl YtjdaglmkljbfkaaDoorF.sz_67 (hrd.deep (by intro _ hw; first | exact hw | exact hw.app_right | exact hw.app_right.app_right | exact hw.tail | exact hw.tail.app_right | exact hw.tail.tail | exact hw.tail.tail.app_right | exact hw.tail.tail.tail | exact hw.tail.tail.tail.app_right | exact hw.tail.tail.tail.tail | exact hw.tail.tail.tail.tail.app_right | exact hw.tail.tail.tail.tail.tail | exact hw.tail.tail.tail.tail.tail.app_right | exact hw.tail.tail.tail.tail.tail.tail | exact hw.tail.tail.tail.tail.tail.tail.app_right)) rfl (fun _ => g4) (fun _ => f4)) (.keep (by kernel_rfl) rfl (by first | exact QT_loadRAj (out := xc) ((i + row) * 7) rfl rfl Tryd.underlying67 rfl YtjdaglmkljbfkaaDoorF.sz_67 (hrd.deep (by intro _ hw; first | exact hw | exact hw.app_right | exact hw.app_right.app_right | exact hw.tail | exact hw.tail.app_right | exact hw.tail.tail | exact hw.tail.tail.app_right | exact hw.tail.tail.tail | exact hw.tail.tail.tail.app_right | exact hw.tail.tail.tail.tail | exact hw.tail.tail.tail.tail.app_right | exact hw.tail.tail.tail.tail.tail | exact hw.tail.tail.tail.tail.tail.app_right | exact hw.tail.tail.tail.tail.tail.tail | exact hw.tail.tail.tail.tail.tail.tail.app_right)) rfl (fun _ => g3) (fun _ => f3)) (.keep (by kernel_rfl) rfl (by first | exact QT_loadRAj (out := xb) ((i + 1) * 7) rfl rfl Tryd.underlying67 rfl YtjdaglmkljbfkaaDoorF.sz_67 (hrd.deep (by intro _ hw; first | exact hw | exact hw.app_right | exact hw.app_right.app_right | exact hw.tail | exact hw.tail.app_right | exact hw.tail.tail | exact hw.tail.tail.app_right | exact hw.tail.tail.tail | exact hw.tail.tail.tail.app_right | exact hw.tail.tail.tail.tail | exact hw.tail.tail.tail.tail.app_right | exact hw.tail.tail.tail.tail.tail | exact hw.tail.tail.tail.tail.tail.app_right | exact hw.tail.tail.tail.tail.tail.tail | exact hw.tail.tail.tail.tail.tail.tail.app_right)) rfl (fun _ => g2) (fun _ => f2)) (.keep (by kernel_rfl) rfl (by first | exact QT_loadRAj (out := xa) (i * 7) rfl rfl Tryd.underlying67 rfl YtjdaglmkljbfkaaDoorF.sz_67 (hrd.deep (by intro _ hw; first | exact hw | exact hw.app_right | exact hw.app_right.app_right | exact hw.tail | exact hw.tail.app_right | exact hw.tail.tail | exact hw.tail.tail.app_right | exact hw.tail.tail.tail | exact hw.tail.tail.tail.app_right | exact hw.tail.tail.tail.tail | exact hw.tail.tail.tail.tail.app_right | exact hw.tail.tail.tail.tail.tail | exact hw.tail.tail.tail.tail.tail.app_right | exact hw.tail.tail.tail.tail.tail.tail | exact hw.tail.tail.tail.tail.tail.tail.app_right)) rfl (fun _ => g1) (fun _ => f1)) (.nil))))
          intro β
          simp only [List.map_cons, List.map_nil, slotA, blkA, List.cons_append, List.nil_append]
          generalize β 8 = b8
          generalize β 9 = b9
          generalize β 10 = b10
          generalize β 11 = b11
          refine TV_e0 rfl rfl rfl (rfl) (ET_storeW (vs := xa) 0 rfl rfl rfl (z7 j1) rfl (List.all_eq_true.2 j1.oneCell) (by rw [j1.length]; rfl)) ?_
          rintro _ _ ⟨rfl, rfl⟩
          refine ⟨_, .keep (by kernel_rfl) rfl (by first | exact QT_loadRAj (out := xd) ((i + row + 1) * 7) rfl rfl Tryd.underlying67 rfl YtjdaglmkljbfkaaDoorF.sz_67 (hrd.deep (by intro _ hw; first | exact hw | exact hw.app_right | exact hw.app_right.app_right | exact hw.tail | exact hw.tail.app_right | exact hw.tail.tail | exact hw.tail.tail.app_right | exact hw.tail.tail.tail | exact hw.tail.tail.tail.app_right | exact hw.tail.tail.tail.tail | exact hw.tail.tail.tail.tail.app_right | exact hw.tail.tail.tail.tail.tail | exact hw.tail.tail.tail.tail.tail.app_right | exact hw.tail.tail.tail.tail.tail.tail | exact hw.tail.tail.tail.tail.tail.tail.app_right)) rfl (fun _ => g4) (fun _ => f4)) (.keep (by kernel_rfl) rfl (by first | exact QT_loadRAj (out := xc) ((i + row) * 7) rfl rfl Tryd.underlying67 rfl YtjdaglmkljbfkaaDoorF.sz_67 (hrd.deep (by intro _ hw; first | exact hw | exact hw.app_right | exact hw.app_right.app_right | exact hw.tail | exact hw.tail.app_right | exact hw.tail.tail | exact hw.tail.tail.app_right | exact hw.tail.tail.tail | exact hw.tail.tail.tail.app_right | exact hw.tail.tail.tail.tail | exact hw.tail.tail.tail.tail.app_right | exact hw.tail.tail.tail.tail.tail | exact hw.tail.tail.tail.tail.tail.app_right | exact hw.tail.tail.tail.tail.tail.tail | exact hw.tail.tail.tail.tail.tail.tail.app_right)) rfl (fun _ => g3) (fun _ => f3)) (.keep (by kernel_rfl) rfl (by first | exact QT_loadRAj (out := xb) ((i + 1) * 7) rfl rfl Tryd.underlying67 rfl YtjdaglmkljbfkaaDoorF.sz_67 (hrd.deep (by intro _ hw; first | exact hw | exact hw.app_right | exact hw.app_right.app_right | exact hw.tail | exact hw.tail.app_right | exact hw.tail.tail | exact hw.tail.tail.app_right | exact hw.tail.tail.tail | exact hw.tail.tail.tail.app_right | exact hw.tail.tail.tail.tail | exact hw.tail.tail.tail.tail.app_right | exact hw.tail.tail.tail.tail.tail | exact hw.tail.tail.tail.tail.tail.app_right | exact hw.tail.tail.tail.tail.tail.tail | exact hw.tail.tail.tail.tail.tail.tail.app_right)) rfl (fun _ => g2) (fun _ => f2)) (.drop (by kernel_rfl) (.nil)))), ?_⟩
          refine TV_e0 rfl rfl rfl (rfl) (ET_storeW (vs := xb) 1 rfl rfl rfl (z7 j2) rfl (List.all_eq_true.2 j2.oneCell) (by rw [j2.length]; rfl)) ?_
          rintro _ _ ⟨rfl, rfl⟩
          refine ⟨_, .keep (by kernel_rfl) rfl (by first | exact QT_loadRAj (out := xd) ((i + row + 1) * 7) rfl rfl Tryd.underlying67 rfl YtjdaglmkljbfkaaDoorF.sz_67 (hrd.deep (by intro _ hw; first | exact hw | exact hw.app_right | exact hw.app_right.app_right | exact hw.tail | exact hw.tail.app_right | exact hw.tail.tail | exact hw.tail.tail.app_right | exact hw.tail.tail.tail | exact hw.tail.tail.tail.app_right | exact hw.tail.tail.tail.tail | exact hw.tail.tail.tail.tail.app_right | exact hw.tail.tail.tail.tail.tail | exact hw.tail.tail.tail.tail.tail.app_right | exact hw.tail.tail.tail.tail.tail.tail | exact hw.tail.tail.tail.tail.tail.tail.app_right)) rfl (fun _ => g4) (fun _ => f4)) (.keep (by kernel_rfl) rfl (by first | exact QT_loadRAj (out := xc) ((i + row) * 7) rfl rfl Tryd.underlying67 rfl YtjdaglmkljbfkaaDoorF.sz_67 (hrd.deep (by intro _ hw; first | exact hw | exact hw.app_right | exact hw.app_right.app_right | exact hw.tail | exact hw.tail.app_right | exact hw.tail.tail | exact hw.tail.tail.app_right | exact hw.tail.tail.tail | exact hw.tail.tail.tail.app_right | exact hw.tail.tail.tail.tail | exact hw.tail.tail.tail.tail.app_right | exact hw.tail.tail.tail.tail.tail | exact hw.tail.tail.tail.tail.tail.app_right | exact hw.tail.tail.tail.tail.tail.tail | exact hw.tail.tail.tail.tail.tail.tail.app_right)) rfl (fun _ => g3) (fun _ => f3)) (.drop (by kernel_rfl) (.nil))), ?_⟩
          refine TV_e0 rfl rfl rfl (rfl) (ET_storeW (vs := xc) 2 rfl rfl rfl (z7 j3) rfl (List.all_eq_true.2 j3.oneCell) (by rw [j3.length]; rfl)) ?_
          rintro _ _ ⟨rfl, rfl⟩
          refine ⟨_, .keep (by kernel_rfl) rfl (by first | exact QT_loadRAj (out := xd) ((i + row + 1) * 7) rfl rfl Tryd.underlying67 rfl YtjdaglmkljbfkaaDoorF.sz_67 (hrd.deep (by intro _ hw; first | exact hw | exact hw.app_right | exact hw.app_right.app_right | exact hw.tail | exact hw.tail.app_right | exact hw.tail.tail | exact hw.tail.tail.app_right | exact hw.tail.tail.tail | exact hw.tail.tail.tail.app_right | exact hw.tail.tail.tail.tail | exact hw.tail.tail.tail.tail.app_right | exact hw.tail.tail.tail.tail.tail | exact hw.tail.tail.tail.tail.tail.app_right | exact hw.tail.tail.tail.tail.tail.tail | exact hw.tail.tail.tail.tail.tail.tail.app_right)) rfl (fun _ => g4) (fun _ => f4)) (.drop (by kernel_rfl) (.nil)), ?_⟩
          refine TV_e0 rfl rfl rfl (rfl) (ET_storeW (vs := xd) 3 rfl rfl rfl (z7 j4) rfl (List.all_eq_true.2 j4.oneCell) (by rw [j4.length]; rfl)) ?_
          rintro _ _ ⟨rfl, rfl⟩
          refine ⟨_, .drop (by kernel_rfl) (.nil), ?_⟩
          refine TV_end ?_
          refine TX_then ?_
          refine TC_draw [(0, 0), (1, 0), (2, 0), (3, 0), (4, 0), (6, 0), (7, 0), (8, 0), (9, 0), (5, 1), (10, 1), (11, 1), (12, 1), (13, 0)] YtjdaglmkljbfkaaDoorF.mixed (by kernel_rfl) (St.calm _ _) ?_
          refine TV_q rfl rfl rfl (fun _ => QT_move rfl rfl rfl) ?_
          first
            | refine TV_ql rfl rfl rfl (QT_loadW (cs := xa) 0 rfl rfl Tryd.underlying67 rfl rfl rfl (z7 j1)) ?_
            | refine TV_ql rfl rfl rfl (QT_loadW (cs := xa) 1 rfl rfl Tryd.underlying67 rfl rfl rfl (z7 j1)) ?_
          first
            | refine TV_ql rfl rfl rfl (QT_loadW (cs := xb) 1 rfl rfl Tryd.underlying67 rfl rfl rfl (z7 j2)) ?_
            | refine TV_ql rfl rfl rfl (QT_loadW (cs := xb) 2 rfl rfl Tryd.underlying67 rfl rfl rfl (z7 j2)) ?_
          first
            | refine TV_ql rfl rfl rfl (QT_loadW (cs := xc) 2 rfl rfl Tryd.underlying67 rfl rfl rfl (z7 j3)) ?_
            | refine TV_ql rfl rfl rfl (QT_loadW (cs := xc) 3 rfl rfl Tryd.underlying67 rfl rfl rfl (z7 j3)) ?_
          refine TV_q rfl rfl rfl (fun _ => QT_buildArr (out := T3 xa xb xc) rfl rfl YtjdaglmkljbfkaaDoorF.zero_69 Tryd.underlying69 YtjdaglmkljbfkaaDoorF.sz_67 rfl rfl (seg3 j1.length j2.length j3.length rfl)) ?_
          first
            | refine TV_ql rfl rfl rfl (QT_loadW (cs := xb) 1 rfl rfl Tryd.underlying67 rfl rfl rfl (z7 j2)) ?_
            | refine TV_ql rfl rfl rfl (QT_loadW (cs := xb) 2 rfl rfl Tryd.underlying67 rfl rfl rfl (z7 j2)) ?_
          first
            | refine TV_ql rfl rfl rfl (QT_loadW (cs := xd) 3 rfl rfl Tryd.underlying67 rfl rfl rfl (z7 j4)) ?_
            | refine TV_ql rfl rfl rfl (QT_loadW (cs := xd) 4 rfl rfl Tryd.underlying67 rfl rfl rfl (z7 j4)) ?_
          first
            | refine TV_ql rfl rfl rfl (QT_loadW (cs := xc) 2 rfl rfl Tryd.underlying67 rfl rfl rfl (z7 j3)) ?_
            | refine TV_ql rfl rfl rfl (QT_loadW (cs := xc) 3 rfl rfl Tryd.underlying67 rfl rfl rfl (z7 j3)) ?_
          refine TV_q rfl rfl rfl (fun _ => QT_buildArr (out := T3 xb xd xc) rfl rfl YtjdaglmkljbfkaaDoorF.zero_69 Tryd.underlying69 YtjdaglmkljbfkaaDoorF.sz_67 rfl rfl (seg3 j2.length j4.length j3.length rfl)) ?_
          refine TV_cq rfl rfl rfl rfl rfl YtjdaglmkljbfkaaDoorF.cal_66 rfl (fun _ => bare_spec w0 _ xa xb xc j1 j2 j3) (.keep (by kernel_rfl) rfl (by first | exact QT_loadW (cs := xc) 2 rfl rfl Tryd.underlying67 rfl rfl rfl (z7 j3) | exact QT_loadW (cs := xc) 3 rfl rfl Tryd.underlying67 rfl rfl rfl (z7 j3)) (.keep (by kernel_rfl) rfl (by first | exact QT_loadW (cs := xd) 3 rfl rfl Tryd.underlying67 rfl rfl rfl (z7 j4) | exact QT_loadW (cs := xd) 4 rfl rfl Tryd.underlying67 rfl rfl rfl (z7 j4)) (.keep (by kernel_rfl) rfl (by first | exact QT_loadW (cs := xb) 1 rfl rfl Tryd.underlying67 rfl rfl rfl (z7 j2) | exact QT_loadW (cs := xb) 2 rfl rfl Tryd.underlying67 rfl rfl rfl (z7 j2)) (.keep (by kernel_rfl) rfl (by first | exact QT_loadW (cs := xc) 2 rfl rfl Tryd.underlying67 rfl rfl rfl (z7 j3) | exact QT_loadW (cs := xc) 3 rfl rfl Tryd.underlying67 rfl rfl rfl (z7 j3)) (.keep (by kernel_rfl) rfl (by first | exact QT_loadW (cs := xb) 1 rfl rfl Tryd.underlying67 rfl rfl rfl (z7 j2) | exact QT_loadW (cs := xb) 2 rfl rfl Tryd.underlying67 rfl rfl rfl (z7 j2)) (.keep (by kernel_rfl) rfl (by first | exact QT_loadW (cs := xa) 0 rfl rfl Tryd.underlying67 rfl rfl rfl (z7 j1) | exact QT_loadW (cs := xa) 1 rfl rfl Tryd.underlying67 rfl rfl rfl (z7 j1)) (.nil))))))) ?_
          refine TV_cq rfl rfl rfl rfl rfl YtjdaglmkljbfkaaDoorF.cal_66 rfl (fun _ => bare_spec w0 _ xb xd xc j2 j4 j3) (.keep (by kernel_rfl) rfl (by first | exact QT_loadW (cs := xc) 2 rfl rfl Tryd.underlying67 rfl rfl rfl (z7 j3) | exact QT_loadW (cs := xc) 3 rfl rfl Tryd.underlying67 rfl rfl rfl (z7 j3)) (.keep (by kernel_rfl) rfl (by first | exact QT_loadW (cs := xd) 3 rfl rfl Tryd.underlying67 rfl rfl rfl (z7 j4) | exact QT_loadW (cs := xd) 4 rfl rfl Tryd.underlying67 rfl rfl rfl (z7 j4)) (.keep (by kernel_rfl) rfl (by first | exact QT_loadW (cs := xb) 1 rfl rfl Tryd.underlying67 rfl rfl rfl (z7 j2) | exact QT_loadW (cs := xb) 2 rfl rfl Tryd.underlying67 rfl rfl rfl (z7 j2)) (.keep (by kernel_rfl) rfl (by first | exact QT_loadW (cs := xc) 2 rfl rfl Tryd.underlying67 rfl rfl rfl (z7 j3) | exact QT_loadW (cs := xc) 3 rfl rfl Tryd.underlying67 rfl rfl rfl (z7 j3)) (.keep (by kernel_rfl) rfl (by first | exact QT_loadW (cs := xb) 1 rfl rfl Tryd.underlying67 rfl rfl rfl (z7 j2) | exact QT_loadW (cs := xb) 2 rfl rfl Tryd.underlying67 rfl rfl rfl (z7 j2)) (.keep (by kernel_rfl) rfl (by first | exact QT_loadW (cs := xa) 0 rfl rfl Tryd.underlying67 rfl rfl rfl (z7 j1) | exact QT_loadW (cs := xa) 1 rfl rfl Tryd.underlying67 rfl rfl rfl (z7 j1)) (.nil))))))) ?_
          refine TV_e rfl rfl rfl rfl (rfl) (ET_buildN [_, _] rfl Tryd.underlying42 YtjdaglmkljbfkaaDoorF.sz_69 YtjdaglmkljbfkaaDoorF.zero_69 rfl rfl rfl (fun v hv => by rcases List.mem_cons.1 hv with rfl | hv; exact (B3_ints j1 j2 j3).length; cases List.mem_singleton.1 hv; exact (B3_ints j2 j4 j3).length)) ?_
          rintro _ _ ⟨b70, rfl, rfl⟩
          refine ⟨_, .keep (by kernel_rfl) rfl (by first | exact QT_loadW (cs := xc) 2 rfl rfl Tryd.underlying67 rfl rfl rfl (z7 j3) | exact QT_loadW (cs := xc) 3 rfl rfl Tryd.underlying67 rfl rfl rfl (z7 j3)) (.keep (by kernel_rfl) rfl (by first | exact QT_loadW (cs := xd) 3 rfl rfl Tryd.underlying67 rfl rfl rfl (z7 j4) | exact QT_loadW (cs := xd) 4 rfl rfl Tryd.underlying67 rfl rfl rfl (z7 j4)) (.keep (by kernel_rfl) rfl (by first | exact QT_loadW (cs := xb) 1 rfl rfl Tryd.underlying67 rfl rfl rfl (z7 j2) | exact QT_loadW (cs := xb) 2 rfl rfl Tryd.underlying67 rfl rfl rfl (z7 j2)) (.keep (by kernel_rfl) rfl (by first | exact QT_loadW (cs := xc) 2 rfl rfl Tryd.underlying67 rfl rfl rfl (z7 j3) | exact QT_loadW (cs := xc) 3 rfl rfl Tryd.underlying67 rfl rfl rfl (z7 j3)) (.keep (by kernel_rfl) rfl (by first | exact QT_loadW (cs := xb) 1 rfl rfl Tryd.underlying67 rfl rfl rfl (z7 j2) | exact QT_loadW (cs := xb) 2 rfl rfl Tryd.underlying67 rfl rfl rfl (z7 j2)) (.keep (by kernel_rfl) rfl (by first | exact QT_loadW (cs := xa) 0 rfl rfl Tryd.underlying67 rfl rfl rfl (z7 j1) | exact QT_loadW (cs := xa) 1 rfl rfl Tryd.underlying67 rfl rfl rfl (z7 j1)) (.nil)))))), ?_⟩
          refine TV_e rfl rfl rfl rfl (rfl) (ET_appendL (L := [_, _, _, _, _]) rfl Tryd.underlying42 el_Tri rfl rfl hfr (fun _ h => h) (SlA.own (n := 2) (xs := B3 xa xb xc ++ B3 xb xd xc) 0 rfl (two_own b1 b2).symm (two_len b1 b2) (by omega)) ((B3_ints j1 j2 j3).append (B3_ints j2 j4 j3)).oneCell (by omega) (by omega)) ?_
          rintro fv2 _ ⟨H', hF', rfl⟩
          refine ⟨_, .keep (by kernel_rfl) rfl (by first | exact QT_loadW (cs := xc) 2 rfl rfl Tryd.underlying67 rfl rfl rfl (z7 j3) | exact QT_loadW (cs := xc) 3 rfl rfl Tryd.underlying67 rfl rfl rfl (z7 j3)) (.keep (by kernel_rfl) rfl (by first | exact QT_loadW (cs := xd) 3 rfl rfl Tryd.underlying67 rfl rfl rfl (z7 j4) | exact QT_loadW (cs := xd) 4 rfl rfl Tryd.underlying67 rfl rfl rfl (z7 j4)) (.keep (by kernel_rfl) rfl (by first | exact QT_loadW (cs := xb) 1 rfl rfl Tryd.underlying67 rfl rfl rfl (z7 j2) | exact QT_loadW (cs := xb) 2 rfl rfl Tryd.underlying67 rfl rfl rfl (z7 j2)) (.keep (by kernel_rfl) rfl (by first | exact QT_loadW (cs := xc) 2 rfl rfl Tryd.underlying67 rfl rfl rfl (z7 j3) | exact QT_loadW (cs := xc) 3 rfl rfl Tryd.underlying67 rfl rfl rfl (z7 j3)) (.keep (by kernel_rfl) rfl (by first | exact QT_loadW (cs := xb) 1 rfl rfl Tryd.underlying67 rfl rfl rfl (z7 j2) | exact QT_loadW (cs := xb) 2 rfl rfl Tryd.underlying67 rfl rfl rfl (z7 j2)) (.keep (by kernel_rfl) rfl (by first | exact QT_loadW (cs := xa) 0 rfl rfl Tryd.underlying67 rfl rfl rfl (z7 j1) | exact QT_loadW (cs := xa) 1 rfl rfl Tryd.underlying67 rfl rfl rfl (z7 j1)) (.nil)))))), ?_⟩
          refine TV_q rfl rfl rfl (fun _ => QT_assign rfl rfl rfl) ?_
          refine TV_end ?_
          refine TX_block_normal ?_
          exact TX_cut ⟨(fv2, H'), by rw [outT_succ, hc, List.length_append, List.flatten_append]; simpa using hF'⟩ ⟨rfl, rfl, rfl, rfl, rfl, trivial⟩ (fun _ h => h.app_right (X := [_, _, _, _, _]))
      rintro ⟨⟨fv2, H2⟩, hF2⟩
      dsimp only at hF2 ⊢
      refine TC_reg ?_
      refine TL_q rfl rfl (QT_add rfl rfl rfl rfl (fun _ => ⟨by omega, by omega⟩)) ?_
      refine TL_q rfl rfl (QT_move rfl rfl rfl) ?_
      refine TL_nil ?_
      exact TX_round ⟨(i + 1, fv2, H2), by show i + 1 ≤ rs.length - row; omega, hF2⟩ (by show rs.length - row - (i + 1) < rs.length - row - i; omega) ⟨rfl, rfl, rfl, rfl, rfl, trivial⟩ (fun _ h => h)
    ·
      refine TC_exit ?_
      refine TX_then_exit ?_
      refine TX_then_exit ?_
      refine TX_block_here ?_
      refine TX_then ?_
      refine TC_seq ?_
      obtain rfl : i = rs.length - row := by omega
      refine TC_reg ?_
      refine TL_q rfl rfl (QT_move rfl rfl rfl) ?_
      refine TL_e rfl rfl rfl (rfl) (ET_call rfl YtjdaglmkljbfkaaDoorF.cal_67 rfl (clipT_spec w0 η H fv _ _ hfr)) ?_
      rintro cv _ ⟨hF2, rfl⟩
      refine TL_q rfl rfl (QT_assign rfl rfl rfl) ?_
      refine TL_q rfl rfl (QT_assign rfl rfl rfl) ?_
      refine TL_nil ?_
      refine TX_then ?_
      refine TC_ret ?_
      refine TX_scope_ret ?_
      exact TX_ret (.inl rfl) (res2 rfl rfl rfl) ⟨_, ⟨cv, H, rfl, hF2, rfl⟩, fun _ h => h⟩
end Go.Proofs.YtjdaglmkljbfkaaDoor
namespace Go.Proofs.YtjdaglmkljbfkaaDoor
open Go Go.Gx Go.RowKit
set_option maxRecDepth 100000

theorem idx_lt {n row m q j : Nat} (hm : m * row = n) (hq : q + 1 < m) (hj : j + 1 < row) : q * row + j < n ∧ q * row + j + 1 < n ∧ (q + 1) * row + j < n ∧ (q + 1) * row + j + 1 < n ∧ (q + 1) * row + j = q * row + j + row := by
  have h1 : (q + 2) * row ≤ m * row := Nat.mul_le_mul_right _ (by omega)
  have h2 : (q + 2) * row = q * row + 2 * row := by rw [Nat.add_mul]
  have h3 : (q + 1) * row = q * row + row := by rw [Nat.add_mul, Nat.one_mul]
  omega
theorem cellF_in {rs : List R} {row q j : Nat} (hj : j + 1 < row) : cellF rs row (q * row + j) = [B3 (at7 rs (q * row + j)) (at7 rs (q * row + j + 1)) (at7 rs (q * row + j + row)), B3 (at7 rs (q * row + j + 1)) (at7 rs (q * row + j + row + 1)) (at7 rs (q * row + j + row))] := by
  rw [cellF, if_neg]
  rw [Nat.add_comm, Nat.add_mul_mod_self_right, Nat.mod_eq_of_lt (by omega)]; omega
theorem cellF_end {rs : List R} {row q j : Nat} (hj : j + 1 = row) : cellF rs row (q * row + j) = [] := by
  rw [cellF, if_pos]
  rw [Nat.add_comm, Nat.add_mul_mod_self_right, Nat.mod_eq_of_lt (by omega)]; omega

end Go.Proofs.YtjdaglmkljbfkaaDoor
namespace Go.Proofs.YtjdaglmkljbfkaaDoor
open Go Go.Gx Go.RowKit
set_option maxRecDepth 100000

def headBad (rs : List R) : Prop := match rs with
  | x :: _ => flagR x ≠ 0
  | [] => False
instance (rs : List R) : Decidable (headBad rs) := by unfold headBad; split <;> infer_instance
def strips (rs : List R) : List R × Int := stripF (rs.length + 1) rs zR zR zR []
def trioF (L : Lay) (rs : List R) : List R × Int :=
  if okB L = true ∧ (L.ty = 4 ∨ L.ty = 5) then (if L.ty = 5 then rowsF rs L.ro.toNat else if headBad rs then ([], 6) else strips rs) else ([], 4)
theorem trio4 {L : Lay} {rs : List R} (h : ¬(okB L = true ∧ (L.ty = 4 ∨ L.ty = 5))) : trioF L rs = ([], 4) := by rw [trioF, if_neg h]
theorem trio5 {L : Lay} {rs : List R} (h : okB L = true) (h5 : L.ty = 5) : trioF L rs = rowsF rs L.ro.toNat := by rw [trioF, if_pos ⟨h, .inr h5⟩, if_pos h5]
theorem trio6 {L : Lay} {rs : List R} (h : okB L = true) (h4 : L.ty = 4) (hb : headBad rs) : trioF L rs = ([], 6) := by rw [trioF, if_pos ⟨h, .inl h4⟩, if_neg (by omega), if_pos hb]
theorem trioS {L : Lay} {rs : List R} (h : okB L = true) (h4 : L.ty = 4) (hb : ¬headBad rs) : trioF L rs = strips rs := by rw [trioF, if_pos ⟨h, .inl h4⟩, if_neg (by omega), if_neg hb]
theorem ok_of {L : Lay} (h : ¬errOf L ≠ 0) : okB L = true := by
  by_cases hk : okB L = true
  · exact hk
  · exact absurd (by simp [errOf, hk]) h
theorem head_flag {rs : List R} (ha : All7 rs) (h : 0 < rs.length) : rs.flatten[0 * 7]? = some (.int .u8 (flagR (at7 rs 0) : Int)) := by
  cases rs with
  | nil => simp at h
  | cons x v =>
    have hx := ha x (List.mem_cons_self ..)
    have h1 := (flagR_spec hx).1
    rw [Nat.zero_mul, List.flatten_cons, List.getElem?_append_left (by rw [hx.length]; decide)]
    exact h1
theorem rows_at {r : Int} {row : Nat} (hr : r = (row : Int)) (w0 : Base) (η : Heap) (sv : Value) (rs : List R) (hs : SlA (St w0 η) sv 7 rs.length rs.flatten) (ha : All7 rs) (hrow : 1 ≤ row) (hn : rs.length * 120 ≤ 140737488355328) :
    CallsT Tryd.prog 32 [sv, .int .i64 r] (St w0 η) fun v A' => ∃ pv H, v = .tuple #[pv, .int .i64 (rowsF rs row).2] ∧ Frag 69 21 pv (rowsF rs row).1.length (rowsF rs row).1.flatten H ∧ A' = St w0 (H ++ η) := by
  subst hr; exact rows_spec w0 η sv rs row hs ha hrow hn
theorem sla_wk {w0 : Base} {η η' : Heap} {v : Value} {z n : Nat} {cs : List Value} (h : SlA (St w0 η) v z n cs) (hd : ∀ w, St w0 η' w → St w0 η w) : SlA (St w0 η') v z n cs := h.mono hd
theorem Frag.sla' {w0 : Base} {e size : Nat} {v : Value} {n : Nat} {xs : List Value} {H η : Heap} (h : Frag e size v n xs H) (η' : Heap) (hd : ∀ w, St w0 η' w → St w0 (H ++ η) w) : SlA (St w0 η') v size n xs := sla_wk (h.sla (w0 := w0) (η := η)) hd

theorem of_spec (w0 : Base) (η : Heap) (hG : Sets w0) (L : Lay) (sv : Value) (rs : List R) (hs : SlA (St w0 η) sv 7 rs.length rs.flatten) (ha : All7 rs) (hn : rs.length * 120 ≤ 140737488355328) :
    CallsT Tryd.prog 13 [L.val, sv] (St w0 η) fun v A' => ∃ pv H, v = .tuple #[pv, .int .i64 (trioF L rs).2] ∧ Frag 69 21 pv (trioF L rs).1.length (trioF L rs).1.flatten H ∧ ∃ X, A' = St w0 (H ++ (X ++ η)) := by
  refine CallsT.body Tryd.func13 rfl rfl ?_
  simp only [Tryd.ntmps13, slotsOf, Nat.reduceAdd]
  refine TC_seq ?_
  refine TC_reg ?_
  refine TL_e rfl rfl rfl (rfl) (ET_box rfl rfl) ?_
  rintro _ _ ⟨b2, rfl, rfl⟩
  refine TL_q rfl rfl (QT_assign rfl rfl rfl) ?_
  refine TL_q rfl rfl (QT_assign rfl rfl rfl) ?_
  refine TL_nil ?_
  refine TX_then ?_
  refine TC_seq ?_
  refine TC_reg ?_
  refine TL_q rfl rfl (QT_move rfl rfl rfl) ?_
  refine TL_e rfl rfl rfl (rfl) (ET_call rfl YtjdaglmkljbfkaaDoorF.cal_31 rfl (cloneR_spec w0 _ sv rs.length rs.flatten hs.tail (flat_ints (s := 7) ha) (by omega))) ?_
  rintro cv _ ⟨Hc, hFc, rfl⟩
  refine TL_q rfl rfl (QT_assign rfl rfl rfl) ?_
  refine TL_nil ?_
  refine TX_then ?_
  refine TC_seq ?_
  refine TC_block ?_
  refine TC_seq ?_
  refine TC_A (St w0 ((b2, 27, L.cells) :: (Hc ++ η))) (fun _ h => h.perm List.perm_middle.symm) ?_
  have hsc : SlA (St w0 (Hc ++ η)) cv 7 rs.length rs.flatten := hFc.sla
  obtain ⟨_, ad, cap, sb, so, rfl, hcap, had, hrd⟩ := hsc.some
  refine TC_reg ?_
  first
    | refine TL_q rfl rfl (QT_loadW 0 rfl rfl Tryd.underlying27 rfl rfl rfl YtjdaglmkljbfkaaDoorF.sz_27) ?_
    | refine TL_q rfl rfl (QT_loadW 1 rfl rfl Tryd.underlying27 rfl rfl rfl YtjdaglmkljbfkaaDoorF.sz_27) ?_
    | refine TL_q rfl rfl (QT_loadW 2 rfl rfl Tryd.underlying27 rfl rfl rfl YtjdaglmkljbfkaaDoorF.sz_27) ?_
    | refine TL_q rfl rfl (QT_loadA 0 rfl rfl Tryd.underlying27 rfl rfl rfl YtjdaglmkljbfkaaDoorF.sz_27 (fun _ => rfl)) ?_
    | refine TL_q rfl rfl (QT_loadA 1 rfl rfl Tryd.underlying27 rfl rfl rfl YtjdaglmkljbfkaaDoorF.sz_27 (fun _ => rfl)) ?_
    | refine TL_q rfl rfl (QT_loadA 2 rfl rfl Tryd.underlying27 rfl rfl rfl YtjdaglmkljbfkaaDoorF.sz_27 (fun _ => rfl)) ?_
  refine TL_cq rfl rfl rfl rfl YtjdaglmkljbfkaaDoorF.cal_10 rfl (fun _ => check_spec w0 _ hG L) ?_
  refine TL_q rfl rfl (QT_neq rfl rfl rfl rfl) ?_
  refine TL_q rfl rfl (QT_move rfl rfl rfl) ?_
  refine TL_q rfl rfl (QT_field rfl rfl YtjdaglmkljbfkaaDoorF.fld_27_0 rfl) ?_
  first
    | refine TL_q rfl rfl (QT_load 0 rfl rfl Tryd.underlying3 rfl rfl rfl (fun _ => rfl)) ?_
    | refine TL_q rfl rfl (QT_load 1 rfl rfl Tryd.underlying3 rfl rfl rfl (fun _ => rfl)) ?_
    | refine TL_q rfl rfl (QT_load 2 rfl rfl Tryd.underlying3 rfl rfl rfl (fun _ => rfl)) ?_
  refine TL_q rfl rfl (QT_gtr rfl rfl rfl rfl) ?_
  refine TL_q rfl rfl (QT_or rfl rfl rfl rfl) ?_
  refine TL_q rfl rfl (QT_assign rfl rfl rfl) ?_
  refine TL_nil ?_
  refine TX_then ?_
  first
    | refine TC_cond_dec rfl (fun h8 => ?_) (fun h8 => ?_)
    | refine TC_cond rfl (fun h8 => ?_) (fun h8 => ?_)
  ·
    refine TC_seq ?_
    refine TC_reg ?_
    refine TL_q rfl rfl (QT_assign rfl rfl rfl) ?_
    refine TL_q rfl rfl (QT_assign rfl rfl rfl) ?_
    refine TL_nil ?_
    refine TX_then ?_
    refine TC_ret ?_
    refine TX_block_ret ?_
    refine TX_then_ret ?_
    rw [trio4 (by
      simp only [Bool.or_eq_true, decide_eq_true_eq] at h8
      rintro ⟨h1, h2⟩
      simp [errOf, h1] at h8
      omega)]
    exact TX_ret (.inl rfl) (res2 rfl rfl rfl) ⟨_, ⟨_, [], rfl, Frag.nil _ _, Hc, rfl⟩, fun _ h => h.tail⟩
  ·
    refine TC_seq ?_
    simp only [Bool.or_eq_false_iff, decide_eq_false_iff_not] at h8
    have hk : okB L = true := ok_of h8.1
    have hty := (okB_bounds hk).2.2.2.1
    refine TC_reg ?_
    refine TL_q rfl rfl (QT_field rfl rfl YtjdaglmkljbfkaaDoorF.fld_27_0 rfl) ?_
    first
      | refine TL_q rfl rfl (QT_load 0 rfl rfl Tryd.underlying3 rfl rfl rfl (fun _ => rfl)) ?_
      | refine TL_q rfl rfl (QT_load 1 rfl rfl Tryd.underlying3 rfl rfl rfl (fun _ => rfl)) ?_
      | refine TL_q rfl rfl (QT_load 2 rfl rfl Tryd.underlying3 rfl rfl rfl (fun _ => rfl)) ?_
    refine TL_q rfl rfl (QT_eql rfl rfl rfl rfl) ?_
    refine TL_q rfl rfl (QT_assign rfl rfl rfl) ?_
    refine TL_nil ?_
    refine TX_then ?_
    first
      | refine TC_cond_dec rfl (fun h17 => ?_) (fun h17 => ?_)
      | refine TC_cond rfl (fun h17 => ?_) (fun h17 => ?_)
    ·
      refine TC_seq ?_
      have h5 : L.ty = 5 := by simpa using h17
      have hro := (okB_bounds hk).2.2.2.2.1 h5
      rw [trio5 hk h5]
      have her : L.ro = ((L.ro.toNat : Nat) : Int) := by omega
      refine TC_reg ?_
      refine TL_q rfl rfl (QT_move rfl rfl rfl) ?_
      refine TL_q rfl rfl (QT_field rfl rfl YtjdaglmkljbfkaaDoorF.fld_27_5 rfl) ?_
      first
        | refine TL_q rfl rfl (QT_load 0 rfl rfl Tryd.underlying3 rfl rfl rfl (fun _ => rfl)) ?_
        | refine TL_q rfl rfl (QT_load 1 rfl rfl Tryd.underlying3 rfl rfl rfl (fun _ => rfl)) ?_
        | refine TL_q rfl rfl (QT_load 2 rfl rfl Tryd.underlying3 rfl rfl rfl (fun _ => rfl)) ?_
      refine TL_A (St w0 (Hc ++ η)) (fun _ h => h.tail) ?_
      refine TL_e rfl rfl rfl (rfl) (ET_call rfl YtjdaglmkljbfkaaDoorF.cal_32 rfl (rows_at her w0 _ _ rs hsc ha (by omega) hn)) ?_
      rintro _ _ ⟨pv, Hr, rfl, hFr, rfl⟩
      refine TL_q rfl rfl (QT_extract rfl rfl rfl rfl) ?_
      refine TL_q rfl rfl (QT_extract rfl rfl rfl rfl) ?_
      refine TL_q rfl rfl (QT_assign rfl rfl rfl) ?_
      refine TL_q rfl rfl (QT_assign rfl rfl rfl) ?_
      refine TL_nil ?_
      refine TX_then ?_
      refine TC_ret ?_
      refine TX_block_ret ?_
      refine TX_then_ret ?_
      exact TX_ret (.inl rfl) (res2 rfl rfl rfl) ⟨_, ⟨pv, Hr, rfl, hFr, Hc, rfl⟩, fun _ h => h⟩
    ·
      refine TC_seq ?_
      have h4 : L.ty = 4 := by
        have : L.ty ≠ 5 := by simpa using h17
        omega
      refine TC_reg ?_
      refine TL_q rfl rfl (QT_move rfl rfl rfl) ?_
      refine TL_q rfl rfl (QT_len rfl rfl Tryd.underlying30 rfl) ?_
      refine TL_q rfl rfl (QT_gtr rfl rfl rfl rfl) ?_
      refine TL_q rfl rfl (QT_move rfl rfl rfl) ?_
      refine TL_q rfl rfl (QT_move rfl rfl rfl) ?_
      refine TL_q rfl rfl (QT_indexG 0 rfl rfl Tryd.underlying30 YtjdaglmkljbfkaaDoorF.sz_67 rfl rfl rfl (fun h => by simpa using h) (fun h => had (by simpa using h))) ?_
      refine TL_q rfl rfl (QT_field rfl rfl YtjdaglmkljbfkaaDoorF.fld_67_0 rfl) ?_
      refine TL_q rfl rfl (QT_loadRj (v := .int .u8 (flagR (at7 rs 0) : Int)) (0 * 7) rfl rfl Tryd.underlying5 rfl (hrd.deep (by intro _ hw; first | exact hw | exact hw.app_right | exact hw.app_right.app_right | exact hw.tail | exact hw.tail.app_right | exact hw.tail.tail | exact hw.tail.tail.app_right | exact hw.tail.tail.tail | exact hw.tail.tail.tail.app_right | exact hw.tail.tail.tail.tail | exact hw.tail.tail.tail.tail.app_right | exact hw.tail.tail.tail.tail.tail | exact hw.tail.tail.tail.tail.tail.app_right | exact hw.tail.tail.tail.tail.tail.tail | exact hw.tail.tail.tail.tail.tail.tail.app_right)) rfl (fun h => head_flag ha (by simpa using h))) ?_
      refine TL_q rfl rfl (QT_neq rfl rfl rfl rfl) ?_
      refine TL_q rfl rfl (QT_and rfl rfl rfl rfl) ?_
      refine TL_q rfl rfl (QT_assign rfl rfl rfl) ?_
      refine TL_nil ?_
      refine TX_then ?_
      first
        | refine TC_cond_dec rfl (fun h27 => ?_) (fun h27 => ?_)
        | refine TC_cond rfl (fun h27 => ?_) (fun h27 => ?_)
      ·
        refine TC_seq ?_
        refine TC_reg ?_
        refine TL_q rfl rfl (QT_assign rfl rfl rfl) ?_
        refine TL_q rfl rfl (QT_assign rfl rfl rfl) ?_
        refine TL_nil ?_
        refine TX_then ?_
        refine TC_ret ?_
        refine TX_block_ret ?_
        refine TX_then_ret ?_
        have hb : headBad rs := by
          simp only [Bool.and_eq_true, decide_eq_true_eq] at h27
          cases rs with
          | nil => simp at h27
          | cons x v =>
            have : at7 (x :: v) 0 = x := rfl
            rw [this] at h27
            intro h0
            rw [h0] at h27
            simp at h27
        rw [trio6 hk h4 hb]
        exact TX_ret (.inl rfl) (res2 rfl rfl rfl) ⟨_, ⟨_, [], rfl, Frag.nil _ _, Hc, rfl⟩, fun _ h => h.tail⟩
      ·
        refine TC_skip ?_
        refine TX_block_normal ?_
        refine TX_then ?_
        refine TC_seq ?_
        have hb : ¬headBad rs := by
          simp only [Bool.and_eq_false_iff, decide_eq_false_iff_not] at h27
          cases rs with
          | nil => exact id
          | cons x v =>
            have : at7 (x :: v) 0 = x := rfl
            rw [this] at h27
            intro h0
            simp only [List.length_cons] at h27
            have h0' : flagR x ≠ 0 := h0
            omega
        rw [trioS hk h4 hb]
        refine TC_A (St w0 (Hc ++ η)) (fun _ h => h.tail) ?_
        refine TC_reg ?_
        refine TL_q rfl rfl (QT_move rfl rfl rfl) ?_
        refine TL_e rfl rfl rfl (rfl) (ET_call rfl YtjdaglmkljbfkaaDoorF.cal_33 rfl (strip_spec w0 _ _ rs hsc ha (by omega))) ?_
        rintro _ _ ⟨pv, Hr, rfl, hFr, rfl⟩
        refine TL_q rfl rfl (QT_extract rfl rfl rfl rfl) ?_
        refine TL_q rfl rfl (QT_extract rfl rfl rfl rfl) ?_
        refine TL_q rfl rfl (QT_assign rfl rfl rfl) ?_
        refine TL_q rfl rfl (QT_assign rfl rfl rfl) ?_
        refine TL_nil ?_
        refine TX_then ?_
        refine TC_ret ?_
        exact TX_ret (.inl rfl) (res2 rfl rfl rfl) ⟨_, ⟨pv, Hr, rfl, hFr, Hc, rfl⟩, fun _ h => h⟩
end Go.Proofs.YtjdaglmkljbfkaaDoor
namespace Go.Proofs.YtjdaglmkljbfkaaDoor
open Go Go.Gx Go.RowKit
set_option maxRecDepth 100000

structure Rst (rs : List R) (FIN : List R × Int) (i : Nat) (a b c : R) (out : List R) (fv : Value) (H : Heap) (f : Nat) : Prop where
  le : i ≤ rs.length
  ia : Ints recK a
  ib : Ints recK b
  ic : Ints recK c
  fr : Frag 69 21 fv out.length out.flatten H
  few : out.length ≤ i
  last : 0 < i → ∃ pre, out = pre ++ [B3 a b c] ∧ ∀ t ∈ pre, t.length = 21
  fin : stripF f (rs.drop i) a b c out = FIN
  fuel : rs.length - i < f
theorem Rst.all {rs : List R} {FIN : List R × Int} {i : Nat} {a b c : R} {out : List R} {fv : Value} {H : Heap} {f : Nat} (h : Rst rs FIN i a b c out fv H f) (h0 : out.length ≤ i) (hz : i = 0 → out = []) : ∀ t ∈ out, t.length = 21 := by
  intro t ht
  by_cases hi : i = 0
  · rw [hz hi] at ht; exact absurd ht List.not_mem_nil
  · obtain ⟨pre, rfl, hp⟩ := h.last (by omega)
    rcases List.mem_append.1 ht with ht | ht
    · exact hp t ht
    · cases List.mem_singleton.1 ht
      exact (B3_ints h.ia h.ib h.ic).length
theorem drop_at7 {rs : List R} {i : Nat} (h : i < rs.length) : rs.drop i = at7 rs i :: rs.drop (i + 1) := by
  rw [List.drop_eq_getElem_cons h]
  have := at7_some h
  rw [List.getElem?_eq_getElem h] at this
  rw [Option.some.inj this]
theorem strips_nil {f : Nat} {a b c : R} {out : List R} : stripF f [] a b c out = (out, 0) := by cases f <;> rfl
theorem rec_flag {rs : List R} {i : Nat} (ha : All7 rs) (h : i < rs.length) : rs.flatten[i * 7]? = some (.int .u8 (flagR (at7 rs i) : Int)) := by
  obtain ⟨f1, g1⟩ := flat_at7 ha h
  have h1 := (flagR_spec (at7_ints ha h)).1
  rw [← f1, List.getElem?_take_of_lt (by omega), List.getElem?_drop] at h1
  rw [f1] at h1
  simpa using h1
theorem last_at {pre : List R} {t : R} {rest : List Value} (hp : ∀ t ∈ pre, t.length = 21) (ht : t.length = 21) : (((pre ++ [t]).flatten ++ rest).drop (((pre ++ [t]).length - 1) * 21)).take 21 = t ∧ ((pre ++ [t]).length - 1) * 21 + 21 ≤ ((pre ++ [t]).flatten ++ rest).length := by
  have hl := flat_len hp
  have e : ((pre ++ [t]).flatten ++ rest) = pre.flatten ++ (t ++ rest) := by simp
  rw [e, show (pre ++ [t]).length - 1 = pre.length by simp, ← hl]
  constructor
  · rw [List.drop_left, ← ht, List.take_left]
  · simp [ht]

end Go.Proofs.YtjdaglmkljbfkaaDoor
namespace Go.Proofs.YtjdaglmkljbfkaaDoor
open Go Go.Gx Go.RowKit
set_option maxRecDepth 100000

def chR (b : UInt8) : R := .int .u8 0 :: .int .u32 (b.toNat : Int) :: zs (recK.drop 2)
def setF (r : R) (v : Value) : R := match r with
  | _ :: t => v :: t
  | [] => []
def subU (b : UInt8) : Int := IntKind.u8.wrap ((b.toNat : Int) - 48)
def stepT (acc : List R) (b : UInt8) : List R :=
  if 97 ≤ b.toNat then acc ++ [chR b] else match acc.getLast? with
    | some r => acc.dropLast ++ [setF r (.int .u8 (subU b))]
    | none => acc
def toldF (s : List UInt8) : List R := s.foldl stepT []
theorem u8_lt (b : UInt8) : b.toNat < 256 := b.toNat_lt
theorem u32_wrap {z : Int} (h : 0 ≤ z ∧ z ≤ 4294967295) : IntKind.u32.wrap z = z := IntWalk.u32_in _ h
theorem chR_ints (b : UInt8) : Ints recK (chR b) := by
  have hb := u8_lt b
  have h1 : IntKind.u32.min = 0 := rfl
  have h2 : IntKind.u32.max = 4294967295 := rfl
  exact show Ints (.u8 :: .u32 :: recK.drop 2) (chR b) from .cons (by decide) (.cons (by simp only [Lit.wf, Bool.and_eq_true, decide_eq_true_eq]; omega) (zs_ints _))
theorem wrap8 (n : Int) : IntKind.u8.wrap n = n % 256 := by simp [IntKind.wrap, IntKind.bits, IntKind.signed]
theorem subU_wf (b : UInt8) : (Lit.int .u8 (subU b)).wf = true := by
  have h1 : IntKind.u8.min = 0 := rfl
  have h2 : IntKind.u8.max = 255 := rfl
  simp only [Lit.wf, Bool.and_eq_true, decide_eq_true_eq, subU, wrap8]
  omega
theorem setF_ints {r : R} {v : Int} (h : Ints recK r) (hw : (Lit.int .u8 v).wf = true) : Ints recK (setF r (.int .u8 v)) := by
  obtain ⟨z, cs, rfl, _, h2⟩ := (show Ints (.u8 :: recK.tail) r from h).inv
  exact .cons hw h2
theorem stepT_all {acc : List R} {b : UInt8} (h : All7 acc) : All7 (stepT acc b) := by
  unfold stepT
  split
  · intro r hr
    rcases List.mem_append.1 hr with hr | hr
    · exact h r hr
    · cases List.mem_singleton.1 hr; exact chR_ints b
  · split
    · rename_i r0 he
      intro r hr
      rcases List.mem_append.1 hr with hr | hr
      · exact h r (List.dropLast_subset _ hr)
      · cases List.mem_singleton.1 hr
        exact setF_ints (h _ (List.mem_of_getLast? he)) (subU_wf b)
    · exact h
theorem stepT_len (acc : List R) (b : UInt8) : (stepT acc b).length ≤ acc.length + 1 := by
  unfold stepT
  split
  · simp
  · split <;> simp
theorem toldF_succ {s : List UInt8} {i : Nat} {b : UInt8} (h : s[i]? = some b) : toldF (s.take (i + 1)) = stepT (toldF (s.take i)) b := by
  have hlt : i < s.length := by
    rcases Nat.lt_or_ge i s.length with h' | h'
    · exact h'
    · rw [List.getElem?_eq_none h'] at h; cases h
  rw [List.getElem?_eq_getElem hlt] at h
  rw [List.take_succ_eq_append_getElem hlt, Option.some.inj h, toldF, List.foldl_append]
  rfl
theorem toldF_all (s : List UInt8) : ∀ i, i ≤ s.length → All7 (toldF (s.take i)) ∧ (toldF (s.take i)).length ≤ i
  | 0, _ => ⟨fun r h => by simp [toldF] at h, by simp [toldF]⟩
  | i + 1, hi => by
    obtain ⟨h1, h2⟩ := toldF_all s i (by omega)
    rw [toldF_succ (List.getElem?_eq_getElem (show i < s.length by omega))]
    exact ⟨stepT_all h1, Nat.le_trans (stepT_len _ _) (by omega)⟩
theorem set_lastT {pre : List R} {r : R} {rest : List Value} {v : Value} (hp : ∀ t ∈ pre, t.length = 7) (hr : r.length = 7) : setAt ((pre ++ [r]).flatten ++ rest) (0 + ((pre ++ [r]).length - 1) * 7 + 0) [v] = (pre ++ [setF r v]).flatten ++ rest := by
  have hl := flat_len hp
  obtain ⟨x, t, rfl⟩ : ∃ x t, r = x :: t := by
    cases r with
    | nil => simp at hr
    | cons x t => exact ⟨x, t, rfl⟩
  have e : ((pre ++ [x :: t]).flatten ++ rest) = pre.flatten ++ (x :: (t ++ rest)) := by simp
  rw [e, show 0 + ((pre ++ [x :: t]).length - 1) * 7 + 0 = pre.flatten.length by rw [hl]; simp]
  simp [setAt, setF, List.set_append]
end Go.Proofs.YtjdaglmkljbfkaaDoor
namespace Go.Proofs.YtjdaglmkljbfkaaDoor
open Go Go.Gx Go.RowKit
set_option maxRecDepth 100000

def zOf (t : R) (k : Nat) : Int := match t[k]? with
  | some (.int _ z) => z
  | _ => 0
def ltr (t : R) (k : Nat) : UInt8 := UInt8.ofNat (zOf t k).toNat
def lett (t : R) : List UInt8 := [ltr t 1, ltr t 8, ltr t 15] ++ [32]
def lettersF (ts : List R) : List UInt8 := ts.flatMap lett
theorem ints_at : ∀ {ks : List IntKind} {cs : List Value} {k : Nat} {q : IntKind}, Ints ks cs → ks[k]? = some q → ∃ z, cs[k]? = some (.int q z) ∧ (Lit.int q z).wf = true
  | [], cs, k, q, _, h => by simp at h
  | q0 :: ks, cs, 0, q, hi, h => by
    obtain ⟨z, cs', rfl, hw, _⟩ := hi.inv
    simp only [List.getElem?_cons_zero, Option.some.injEq] at h
    subst h
    exact ⟨z, rfl, hw⟩
  | q0 :: ks, cs, k + 1, q, hi, h => by
    obtain ⟨z, cs', rfl, hw, h2⟩ := hi.inv
    rw [List.getElem?_cons_succ] at h ⊢
    exact ints_at h2 h
theorem ltr_spec {t : R} {k : Nat} (hi : Ints triK t) (hk : triK[k]? = some .u32) : t[k]? = some (.int .u32 (zOf t k)) ∧ IntKind.u8.wrap (zOf t k) = ((ltr t k).toNat : Int) := by
  obtain ⟨z, hz, hw⟩ := ints_at hi hk
  have hzo : zOf t k = z := by rw [zOf, hz]
  rw [hzo]
  refine ⟨hz, ?_⟩
  have h1 : IntKind.u32.min = 0 := rfl
  have h2 : IntKind.u32.max = 4294967295 := rfl
  simp only [Lit.wf, Bool.and_eq_true, decide_eq_true_eq] at hw
  rw [wrap8, ltr, hzo, UInt8.toNat_ofNat']
  omega
theorem tri_at {ts : List R} {i k : Nat} {t : R} (ht : ∀ t ∈ ts, t.length = 21) (h : ts[i]? = some t) (hk : k < 21) : ts.flatten[i * 21 + k]? = t[k]? := by
  obtain ⟨f1, _⟩ := flat_at ht h
  rw [← f1, List.getElem?_take_of_lt hk, List.getElem?_drop]
theorem lettersF_succ {ts : List R} {i : Nat} {t : R} (h : ts[i]? = some t) : lettersF (ts.take (i + 1)) = (lettersF (ts.take i) ++ [ltr t 1, ltr t 8, ltr t 15]) ++ [32] := by
  have hlt : i < ts.length := by
    rcases Nat.lt_or_ge i ts.length with h' | h'
    · exact h'
    · rw [List.getElem?_eq_none h'] at h; cases h
  rw [List.getElem?_eq_getElem hlt] at h
  rw [List.take_succ_eq_append_getElem hlt, Option.some.inj h]
  simp [lettersF, lett]
theorem lettersF_len (ts : List R) : (lettersF ts).length = ts.length * 4 := by
  induction ts with
  | nil => rfl
  | cons t ts ih => simp only [lettersF, List.flatMap_cons, List.length_append, List.length_cons] at ih ⊢; rw [ih]; simp [lett]; omega
end Go.Proofs.YtjdaglmkljbfkaaDoor
namespace Go.Proofs.YtjdaglmkljbfkaaDoor
open Go Go.Gx Go.RowKit
set_option maxRecDepth 100000

theorem trio_ints {L : Lay} {rs : List R} (ha : All7 rs) : (∀ t ∈ (trioF L rs).1, Ints triK t) ∧ (trioF L rs).1.length ≤ 2 * rs.length := by
  have strip : ∀ (f : Nat) (rem : List R) (a b c : R) (out : List R), All7 rem → Ints recK a → Ints recK b → Ints recK c → (∀ t ∈ out, Ints triK t) → (∀ t ∈ (stripF f rem a b c out).1, Ints triK t) ∧ (stripF f rem a b c out).1.length ≤ out.length + rem.length := by
    intro f
    induction f with
    | zero => intro rem a b c out _ _ _ _ ho; exact ⟨ho, by simp [stripF]⟩
    | succ f ih =>
      intro rem a b c out hr hia hib hic ho
      cases rem with
      | nil => exact ⟨ho, by simp [stripF]⟩
      | cons x v =>
        have hx := hr x (List.mem_cons_self ..)
        have hv : All7 v := fun r h => hr r (List.mem_cons_of_mem _ h)
        have hsnoc : ∀ {t : R}, Ints triK t → ∀ u ∈ out ++ [t], Ints triK u := fun ht u hu => by
          rcases List.mem_append.1 hu with hu | hu
          · exact ho u hu
          · cases List.mem_singleton.1 hu; exact ht
        by_cases h0 : flagR x = 0
        · match v, hv with
          | [], _ => rw [strip_short h0 (by simp)]; exact ⟨fun t h => absurd h List.not_mem_nil, Nat.zero_le _⟩
          | [_], _ => rw [strip_short h0 (by simp)]; exact ⟨fun t h => absurd h List.not_mem_nil, Nat.zero_le _⟩
          | y :: z :: w, hv =>
            have hy := hv y (by simp)
            have hz := hv z (by simp)
            rw [strip_long h0]
            obtain ⟨h1, h2⟩ := ih w x y z (out ++ [B3 x y z]) (fun r h => hv r (by simp [h])) hx hy hz (hsnoc (B3_ints hx hy hz))
            exact ⟨h1, by simp only [List.length_append, List.length_cons, List.length_nil] at h2 ⊢; omega⟩
        · by_cases h1 : flagR x = 1
          · rw [strip_one h1]
            obtain ⟨h1, h2⟩ := ih v b c x (out ++ [B3 b c x]) hv hib hic hx (hsnoc (B3_ints hib hic hx))
            exact ⟨h1, by simp only [List.length_append, List.length_cons, List.length_nil] at h2 ⊢; omega⟩
          · by_cases h2 : flagR x = 2
            · rw [strip_two h2]
              obtain ⟨h1, h2⟩ := ih v a c x (out ++ [B3 a c x]) hv hia hic hx (hsnoc (B3_ints hia hic hx))
              exact ⟨h1, by simp only [List.length_append, List.length_cons, List.length_nil] at h2 ⊢; omega⟩
            · rw [strip_bad h0 h1 h2]; exact ⟨fun t h => absurd h List.not_mem_nil, Nat.zero_le _⟩
  have hnil : (∀ t ∈ ([] : List R), Ints triK t) := fun t h => absurd h List.not_mem_nil
  unfold trioF
  split
  · split
    · rename_i h5
      unfold rowsF
      split
      · rename_i hr
        refine ⟨fun t ht => ?_, Nat.le_trans (outT_len _ _ _) (by omega)⟩
        obtain ⟨i, hi, ht⟩ := List.mem_flatMap.1 ht
        have hi' := List.mem_range.1 hi
        by_cases hro : L.ro.toNat = 0
        · rw [hro] at hr; simp at hr
        obtain ⟨h2r, _⟩ := two_rows hr.1 hr.2
        unfold cellF at ht
        split at ht
        · exact absurd ht List.not_mem_nil
        · rename_i hne
          have hk : ∀ j, j < rs.length → Ints recK (at7 rs j) := fun j hj => at7_ints ha hj
          have hz : ∀ j, Ints recK (at7 rs j) := fun j => by
            by_cases hj : j < rs.length
            · exact hk j hj
            · rw [at7, List.getD_eq_getElem?_getD, List.getElem?_eq_none (by omega)]; exact zR_ints
          rcases List.mem_cons.1 ht with rfl | ht
          · exact B3_ints (hz _) (hz _) (hz _)
          · cases List.mem_singleton.1 ht
            exact B3_ints (hz _) (hz _) (hz _)
      · exact ⟨hnil, Nat.zero_le _⟩
    · split
      · exact ⟨hnil, Nat.zero_le _⟩
      · obtain ⟨h1, h2⟩ := strip (rs.length + 1) rs zR zR zR [] ha zR_ints zR_ints zR_ints hnil
        exact ⟨h1, by simp only [List.length_nil] at h2; show (stripF (rs.length + 1) rs zR zR zR []).1.length ≤ _; omega⟩
  · exact ⟨hnil, Nat.zero_le _⟩
theorem lay_len (L : Lay) : L.cells.length = 18 := rfl
def fourL : Lay := ⟨4, 8, 8, 8, 1, 0, fun _ => 0⟩
def fiveL : Lay := ⟨5, 8, 8, 0, 1, 2, fun _ => 0⟩
theorem live1 : (lettersF (trioF fourL (toldF [97, 48, 98, 99, 100, 49, 101, 50, 102, 48, 103, 104])).1 == [97, 98, 99, 32, 98, 99, 100, 32, 98, 100, 101, 32, 102, 103, 104, 32] && decide ((trioF fourL (toldF [97, 48, 98, 99, 100, 49, 101, 50, 102, 48, 103, 104])).2 = 0)) = true := by kernel_rfl
theorem live2 : (lettersF (trioF fourL (toldF [97, 49, 98, 99])).1 == [] && decide ((trioF fourL (toldF [97, 49, 98, 99])).2 = 6)) = true := by kernel_rfl
theorem live3 : (lettersF (trioF fourL (toldF [97, 48, 98, 99, 100, 51])).1 == [] && decide ((trioF fourL (toldF [97, 48, 98, 99, 100, 51])).2 = 7)) = true := by kernel_rfl
theorem live4 : (lettersF (trioF fourL (toldF [97, 48, 98])).1 == [] && decide ((trioF fourL (toldF [97, 48, 98])).2 = 5)) = true := by kernel_rfl
theorem live5 : (lettersF (trioF fiveL (toldF [97, 98, 99, 100, 101, 102])).1 == [97, 98, 99, 32, 98, 100, 99, 32, 99, 100, 101, 32, 100, 102, 101, 32] && decide ((trioF fiveL (toldF [97, 98, 99, 100, 101, 102])).2 = 0)) = true := by kernel_rfl
theorem live6 : (lettersF (trioF fiveL (toldF [97, 98, 99, 100, 101])).1 == [] && decide ((trioF fiveL (toldF [97, 98, 99, 100, 101])).2 = 5)) = true := by kernel_rfl
theorem live7 : (lettersF (trioF fiveL (toldF [97, 98])).1 == [] && decide ((trioF fiveL (toldF [97, 98])).2 = 5)) = true := by kernel_rfl
end Go.Proofs.YtjdaglmkljbfkaaDoor
namespace Go.Proofs.YtjdaglmkljbfkaaDoor.T12
open Go Go.Gx Go.RowKit
set_option maxRecDepth 100000

def zP : List Value := zs patchK
def eP (f k : Nat) : Nat := (3 * f + k) % 12
def eC (f k : Nat) : Nat := (f + k) % 4
def erow (f : Nat) : List Value := [.int .i64 ((eP f 0 : Nat) : Int), .int .i64 ((eP f 1 : Nat) : Int), .int .i64 ((eP f 2 : Nat) : Int), .int .i64 ((eP f 3 : Nat) : Int), .int .i64 ((eC f 0 : Nat) : Int), .int .i64 ((eC f 1 : Nat) : Int)]
def edgesL : List Value := [.int .i64 0, .int .i64 0, .int .i64 0, .int .i64 0, .int .i64 0, .int .i64 0, .int .i64 3, .int .i64 4, .int .i64 5, .int .i64 6, .int .i64 1, .int .i64 2, .int .i64 6, .int .i64 7, .int .i64 8, .int .i64 9, .int .i64 2, .int .i64 3, .int .i64 9, .int .i64 10, .int .i64 11, .int .i64 0, .int .i64 3, .int .i64 0]
def Edges (w0 : Base) : Prop := ∀ j v, edgesL[j]? = some v → w0.cell? ⟨1, 0 + j, none⟩ = some v
theorem edges_row : ∀ f : Nat, 1 ≤ f → f ≤ 3 → (edgesL.drop (f * 6)).take 6 = erow f
  | 1, _, _ => rfl
  | 2, _, _ => rfl
  | 3, _, _ => rfl
def ptsTo (ah : List Value) (f : Nat) : Nat → List Value
  | 0 => zP
  | k + 1 => setAt (ptsTo ah f k) (0 + 0 + k * 2) ((ah.drop (0 + 0 + eP f k * 2)).take 2)
def colTo (ah : List Value) (f : Nat) : Nat → List Value
  | 0 => ptsTo ah f 4
  | k + 1 => setAt (colTo ah f k) (0 + 32 + k * 4) ((ah.drop (0 + 32 + eC f k * 4)).take 4)
theorem ptsTo_len (ah : List Value) (f : Nat) : ∀ k, (ptsTo ah f k).length = 48
  | 0 => rfl
  | k + 1 => by rw [ptsTo, setAt_length, ptsTo_len ah f k]
theorem colTo_len (ah : List Value) (f : Nat) : ∀ k, (colTo ah f k).length = 48
  | 0 => ptsTo_len ah f 4
  | k + 1 => by rw [colTo, setAt_length, colTo_len ah f k]
theorem all_part {ks : List IntKind} {ah : List Value} (h : Ints ks ah) (i m : Nat) : ((ah.drop i).take m).all Value.oneCell' = true :=
  List.all_eq_true.2 fun u hu => h.oneCell u (List.mem_of_mem_drop (List.mem_of_mem_take hu))
theorem part_len (ah : List Value) (i m : Nat) (h : i + m ≤ ah.length) : ((ah.drop i).take m).length = m := by rw [List.length_take, List.length_drop]; omega
theorem eP_lt (f k : Nat) : eP f k < 12 := Nat.mod_lt _ (by decide)
theorem eC_lt (f k : Nat) : eC f k < 4 := Nat.mod_lt _ (by decide)

def spC (ah : List Value) (k : Nat) : List Value := (ah.drop (k * 2)).take 2
def coC (ah : List Value) (k : Nat) : List Value := (ah.drop (32 + k * 4)).take 4
/-- the patch of a sheet's cells, behind a patch's -/
def wholeC (pts f : Nat) (s ah : List Value) : List Value :=
  if f = 0 then (s.drop 1).take (2 * pts) ++ List.replicate (32 - 2 * pts) (.int .u32 0) ++ (s.drop 33).take 16
  else spC ah (eP f 0) ++ spC ah (eP f 1) ++ spC ah (eP f 2) ++ spC ah (eP f 3) ++ (s.drop 1).take (2 * (pts - 4)) ++ List.replicate (32 - 2 * pts) (.int .u32 0) ++ coC ah (eC f 0) ++ coC ah (eC f 1) ++ (s.drop 33).take 8

theorem whole_eq0 {pts : Nat} {s ah : List Value} (hs : s.length = 49) (ha : ah.length = 48) (hp : pts = 12 ∨ pts = 16) :
    setAt (setAt zP (0 + 0 + 0 * 2) (((s.drop (0 + 1)).take (16 * 2)).take (min 16 (pts - 0) * 2))) (0 + 32 + 0 * 4) (((s.drop (0 + 33)).take (4 * 4)).take (min 4 (4 - 0) * 4)) = wholeC pts 0 s ah := by
  obtain ⟨g, rfl⟩ := tab' (.bool false) s hs
  obtain ⟨h, rfl⟩ := tab' (.bool false) ah ha
  rcases hp with rfl | rfl <;> kernel_rfl
theorem whole_eqE {pts f : Nat} {s ah : List Value} (hs : s.length = 49) (ha : ah.length = 48) (hp : pts = 12 ∨ pts = 16) (hf : f = 1 ∨ f = 2 ∨ f = 3) :
    setAt (setAt (colTo ah f 2) (0 + 0 + 4 * 2) (((s.drop (0 + 1)).take (16 * 2)).take (min 16 (pts - 4) * 2))) (0 + 32 + 2 * 4) (((s.drop (0 + 33)).take (4 * 4)).take (min 4 (4 - 2) * 4)) = wholeC pts f s ah := by
  obtain ⟨g, rfl⟩ := tab' (.bool false) s hs
  obtain ⟨h, rfl⟩ := tab' (.bool false) ah ha
  rcases hp with rfl | rfl <;> rcases hf with rfl | rfl | rfl <;> kernel_rfl

theorem whole_ints {pts f : Nat} {s ah : List Value} (hs : Ints sheetK s) (ha : Ints patchK ah) (hp : pts = 12 ∨ pts = 16) (hf : f ≤ 3) : Ints patchK (wholeC pts f s ah) := by
  have z := fun n => Ints.zeros (k := .u32) (by decide) n
  by_cases h0 : f = 0
  · unfold wholeC; rw [if_pos h0]
    have e : patchK = (sheetK.drop 1).take (2 * pts) ++ List.replicate (32 - 2 * pts) .u32 ++ (sheetK.drop 33).take 16 := by rcases hp with rfl | rfl <;> decide
    rw [e]
    exact (((hs.drop 1).take _).append (z _)).append ((hs.drop 33).take 16)
  · unfold wholeC; rw [if_neg h0]
    have e : patchK = (patchK.drop (eP f 0 * 2)).take 2 ++ (patchK.drop (eP f 1 * 2)).take 2 ++ (patchK.drop (eP f 2 * 2)).take 2 ++ (patchK.drop (eP f 3 * 2)).take 2 ++ (sheetK.drop 1).take (2 * (pts - 4)) ++ List.replicate (32 - 2 * pts) .u32 ++ (patchK.drop (32 + eC f 0 * 4)).take 4 ++ (patchK.drop (32 + eC f 1 * 4)).take 4 ++ (sheetK.drop 33).take 8 := by
      have hf' : f = 1 ∨ f = 2 ∨ f = 3 := by omega
      rcases hp with rfl | rfl <;> rcases hf' with rfl | rfl | rfl <;> decide
    rw [e]
    unfold spC coC
    exact (((((((((ha.drop _).take 2).append ((ha.drop _).take 2)).append ((ha.drop _).take 2)).append ((ha.drop _).take 2)).append ((hs.drop 1).take _)).append (z _)).append ((ha.drop _).take 4)).append ((ha.drop _).take 4)).append ((hs.drop 33).take 8)
theorem zP_ints : Ints patchK zP := zs_ints _

theorem whole_0 (w0 : Base) (η : Heap) (s ah : List Value) (pts : Nat) (hs : Ints sheetK s) (ha : Ints patchK ah) (hp : pts = 12 ∨ pts = 16) (hf : s[0]? = some (.int .u8 0)) :
    CallsT Tryd.prog 40 [.agg s.toArray, .agg ah.toArray, .int .i64 (pts : Int)] (St w0 η) fun v A' => v = .agg (wholeC pts 0 s ah).toArray ∧ A' = St w0 η := by
  have hsl : s.length = 49 := hs.length
  have hal : ah.length = 48 := ha.length
  have hzl : zP.length = 48 := rfl
  have hwi := whole_ints hs ha hp (Nat.zero_le 3)
  have hsz : Sz Tryd.prog 107 (wholeC pts 0 s ah).length := by rw [hwi.length]; exact YtjdaglmkljbfkaaDoorF.sz_107
  refine CallsT.body Tryd.func40 rfl rfl ?_
  simp only [Tryd.ntmps40, slotsOf, Nat.reduceAdd]
  refine TC_seq ?_
  refine TC_reg ?_
  refine TL_e rfl rfl rfl (rfl) (ET_box rfl rfl) ?_
  rintro _ _ ⟨b3, rfl, rfl⟩
  refine TL_e rfl rfl rfl (rfl) (ET_box rfl rfl) ?_
  rintro _ _ ⟨b4, rfl, rfl⟩
  refine TL_e rfl rfl rfl (rfl) (ET_alloc rfl YtjdaglmkljbfkaaDoorF.zero_107) ?_
  rintro _ _ ⟨b6, rfl, rfl⟩
  refine TL_nil ?_
  refine TX_then ?_
  refine TC_seq ?_
  refine TC_reg ?_
  refine TL_q rfl rfl (QT_assign rfl rfl rfl) ?_
  refine TL_q rfl rfl (QT_assign rfl rfl rfl) ?_
  refine TL_nil ?_
  refine TX_then ?_
  refine TC_seq ?_
  refine TC_seq ?_
  refine TC_reg ?_
  refine TL_q rfl rfl (QT_field rfl rfl YtjdaglmkljbfkaaDoorF.fld_79_0 rfl) ?_
  refine TL_q rfl rfl (QT_load 2 rfl rfl Tryd.underlying5 rfl rfl rfl (fun _ => hf)) ?_
  refine TL_q rfl rfl (QT_gtr rfl rfl rfl rfl) ?_
  refine TL_nil ?_
  refine TX_then ?_
  refine TC_cond rfl (fun h => absurd (h.symm.trans ((show (_ : Bool) = false by rfl))) (by decide)) (fun _ => ?_)
  refine TC_skip ?_
  refine TX_then ?_
  refine TC_seq ?_
  refine TC_draw [(0, 0), (1, 0), (2, 0), (3, 0), (4, 0), (5, 0), (6, 1)] YtjdaglmkljbfkaaDoorF.mixed (by kernel_rfl) (St.calm _ _) ?_
  refine TV_q rfl rfl rfl (fun _ => QT_field rfl rfl YtjdaglmkljbfkaaDoorF.fld_107_0 rfl) ?_
  refine TV_q rfl rfl rfl (fun _ => QT_move rfl rfl rfl) ?_
  refine TV_q rfl rfl rfl (fun _ => QT_move rfl rfl rfl) ?_
  refine TV_q rfl rfl rfl (fun _ => QT_slaLH (0) (pts) rfl rfl rfl Tryd.underlying76 YtjdaglmkljbfkaaDoorF.sz_62 rfl rfl rfl rfl rfl (fun _ => ⟨by omega, by omega, by omega⟩)) ?_
  refine TV_q rfl rfl rfl (fun _ => QT_field rfl rfl YtjdaglmkljbfkaaDoorF.fld_79_1 rfl) ?_
  refine TV_q rfl rfl rfl (fun _ => QT_slaA  rfl rfl rfl rfl rfl Tryd.underlying76 YtjdaglmkljbfkaaDoorF.sz_62 rfl ) ?_
  refine TV_e rfl rfl rfl rfl (rfl) (ET_copy (news := (s.drop (0 + 1)).take (16 * 2)) 0 rfl Tryd.underlying148 YtjdaglmkljbfkaaDoorF.sz_62 rfl rfl rfl (SlA.own (n := 16) 2 rfl rfl (show 0 + 1 + 16 * 2 ≤ s.length by omega) (by omega)) (fun u hu => hs.oneCell u (List.mem_of_mem_drop (List.mem_of_mem_take hu))) (show 0 + 0 + 0 * 2 + min 16 (pts - 0) * 2 ≤ zP.length by omega)) ?_
  rintro _ _ ⟨rfl, rfl⟩
  refine ⟨_, .nil, ?_⟩
  refine TV_end ?_
  refine TX_then ?_
  refine TC_seq ?_
  refine TC_draw [(0, 0), (1, 0), (2, 0), (3, 0), (4, 0), (5, 1)] YtjdaglmkljbfkaaDoorF.mixed (by kernel_rfl) (St.calm _ _) ?_
  refine TV_q rfl rfl rfl (fun _ => QT_field rfl rfl YtjdaglmkljbfkaaDoorF.fld_107_1 rfl) ?_
  refine TV_q rfl rfl rfl (fun _ => QT_move rfl rfl rfl) ?_
  refine TV_q rfl rfl rfl (fun _ => QT_slaL (0) rfl rfl rfl rfl Tryd.underlying77 YtjdaglmkljbfkaaDoorF.sz_65 rfl rfl rfl (fun _ => by omega)) ?_
  refine TV_q rfl rfl rfl (fun _ => QT_field rfl rfl YtjdaglmkljbfkaaDoorF.fld_79_2 rfl) ?_
  refine TV_q rfl rfl rfl (fun _ => QT_slaA  rfl rfl rfl rfl rfl Tryd.underlying77 YtjdaglmkljbfkaaDoorF.sz_65 rfl ) ?_
  refine TV_e rfl rfl rfl rfl (rfl) (ET_copy (news := (s.drop (0 + 33)).take (4 * 4)) 0 rfl Tryd.underlying149 YtjdaglmkljbfkaaDoorF.sz_65 rfl rfl rfl (SlA.own (n := 4) 2 rfl rfl (show 0 + 33 + 4 * 4 ≤ s.length by omega) (by omega)) (fun u hu => hs.oneCell u (List.mem_of_mem_drop (List.mem_of_mem_take hu))) (by rw [setAt_length]; show 0 + 32 + 0 * 4 + min 4 (4 - 0) * 4 ≤ zP.length; omega)) ?_
  rintro _ _ ⟨rfl, rfl⟩
  refine ⟨_, .nil, ?_⟩
  refine TV_end ?_
  refine TX_then ?_
  refine TC_seq ?_
  refine TC_A (St w0 ((b6, 107, wholeC pts 0 s ah) :: (b4, 107, ah) :: (b3, 79, s) :: η)) (fun w h => by rw [← whole_eq0 hsl hal hp]; exact h) ?_
  refine TC_reg ?_
  refine TL_q rfl rfl (QT_loadW 0 rfl rfl Tryd.underlying107 rfl rfl rfl hsz) ?_
  refine TL_e0 rfl rfl (rfl) (ET_storeW 0 rfl rfl rfl hsz rfl (List.all_eq_true.2 hwi.oneCell) (Nat.beq_refl _)) ?_
  rintro _ _ ⟨rfl, rfl⟩
  refine TL_nil ?_
  refine TX_then ?_
  refine TC_ret ?_
  exact TX_ret (.inl rfl) (resC 0 rfl rfl Tryd.underlying107 rfl rfl hsz) ⟨_, ⟨rfl, rfl⟩, (fun _ h => by first | exact h | exact h.tail | exact h.tail.tail | exact h.tail.tail.tail | exact h.tail.tail.tail.tail | exact h.tail.tail.tail.tail.tail | exact h.tail.tail.tail.tail.tail.tail | exact h.tail.tail.tail.tail.tail.tail.tail | exact h.tail.tail.tail.tail.tail.tail.tail.tail | exact h.tail.tail.tail.tail.tail.tail.tail.tail.tail | exact h.tail.tail.tail.tail.tail.tail.tail.tail.tail.tail | exact h.tail.tail.tail.tail.tail.tail.tail.tail.tail.tail.tail | exact h.tail.tail.tail.tail.tail.tail.tail.tail.tail.tail.tail.tail | exact h.tail.tail.tail.tail.tail.tail.tail.tail.tail.tail.tail.tail.tail)⟩
theorem whole_e (w0 : Base) (η : Heap) (hE : Edges w0) (s ah : List Value) (pts f : Nat) (hs : Ints sheetK s) (ha : Ints patchK ah) (hp : pts = 12 ∨ pts = 16) (hf : s[0]? = some (.int .u8 (f : Int))) (h1 : 1 ≤ f) (h3 : f ≤ 3) :
    CallsT Tryd.prog 40 [.agg s.toArray, .agg ah.toArray, .int .i64 (pts : Int)] (St w0 η) fun v A' => v = .agg (wholeC pts f s ah).toArray ∧ A' = St w0 η := by
  have hsl : s.length = 49 := hs.length
  have hal : ah.length = 48 := ha.length
  have hwi := whole_ints hs ha hp h3
  have hsz : Sz Tryd.prog 107 (wholeC pts f s ah).length := by rw [hwi.length]; exact YtjdaglmkljbfkaaDoorF.sz_107
  have hR : ∀ η', Rd (St w0 η') 1 0 edgesL := fun η' => Rd.start hE
  refine CallsT.body Tryd.func40 rfl rfl ?_
  simp only [Tryd.ntmps40, slotsOf, Nat.reduceAdd]
  refine TC_seq ?_
  refine TC_reg ?_
  refine TL_e rfl rfl rfl (rfl) (ET_box rfl rfl) ?_
  rintro _ _ ⟨b3, rfl, rfl⟩
  refine TL_e rfl rfl rfl (rfl) (ET_box rfl rfl) ?_
  rintro _ _ ⟨b4, rfl, rfl⟩
  refine TL_e rfl rfl rfl (rfl) (ET_alloc rfl YtjdaglmkljbfkaaDoorF.zero_107) ?_
  rintro _ _ ⟨b6, rfl, rfl⟩
  refine TL_nil ?_
  refine TX_then ?_
  refine TC_seq ?_
  refine TC_reg ?_
  refine TL_q rfl rfl (QT_assign rfl rfl rfl) ?_
  refine TL_q rfl rfl (QT_assign rfl rfl rfl) ?_
  refine TL_nil ?_
  refine TX_then ?_
  refine TC_seq ?_
  refine TC_seq ?_
  refine TC_reg ?_
  refine TL_q rfl rfl (QT_field rfl rfl YtjdaglmkljbfkaaDoorF.fld_79_0 rfl) ?_
  refine TL_q rfl rfl (QT_load 2 rfl rfl Tryd.underlying5 rfl rfl rfl (fun _ => hf)) ?_
  refine TL_q rfl rfl (QT_gtr rfl rfl rfl rfl) ?_
  refine TL_nil ?_
  refine TX_then ?_
  refine TC_cond rfl (fun _ => ?_) (fun h => absurd (h.symm.trans ((decide_eq_true (by omega)))) (by decide))
  refine TC_seq ?_
  refine TC_reg ?_
  refine TL_q rfl rfl (QT_field rfl rfl YtjdaglmkljbfkaaDoorF.fld_79_0 rfl) ?_
  refine TL_q rfl rfl (QT_load 2 rfl rfl Tryd.underlying5 rfl rfl rfl (fun _ => hf)) ?_
  refine TL_q rfl rfl (QT_indexArr (f) rfl rfl Tryd.underlying147 YtjdaglmkljbfkaaDoorF.sz_146 rfl rfl (rfl) (fun _ => by omega)) ?_
  refine TL_q rfl rfl (QT_loadRAj (f * 6) rfl rfl Tryd.underlying146 rfl YtjdaglmkljbfkaaDoorF.sz_146 (hR _) rfl (fun _ => show f * 6 + 6 ≤ 24 by omega) (fun _ => edges_row f h1 h3)) ?_
  refine TL_e rfl rfl rfl (rfl) (ET_alloc rfl YtjdaglmkljbfkaaDoorF.zero_146) ?_
  rintro _ _ ⟨b9, rfl, rfl⟩
  refine TL_e0 rfl rfl (rfl) (ET_storeW (vs := erow f) 0 rfl rfl rfl YtjdaglmkljbfkaaDoorF.sz_146 rfl rfl rfl) ?_
  rintro _ _ ⟨rfl, rfl⟩
  refine TL_nil ?_
  refine TX_then ?_
  refine TC_seq ?_
  refine TC_seq ?_
  refine TC_reg ?_
  refine TL_q rfl rfl (QT_field rfl rfl YtjdaglmkljbfkaaDoorF.fld_146_0 rfl) ?_
  refine TL_q rfl rfl (QT_field rfl rfl YtjdaglmkljbfkaaDoorF.fld_143_0 rfl) ?_
  first
    | refine TL_q rfl rfl (QT_loadW 0 rfl rfl Tryd.underlying141 rfl rfl rfl YtjdaglmkljbfkaaDoorF.sz_141) ?_
    | refine TL_q rfl rfl (QT_loadW 1 rfl rfl Tryd.underlying141 rfl rfl rfl YtjdaglmkljbfkaaDoorF.sz_141) ?_
    | refine TL_q rfl rfl (QT_loadW 2 rfl rfl Tryd.underlying141 rfl rfl rfl YtjdaglmkljbfkaaDoorF.sz_141) ?_
    | refine TL_q rfl rfl (QT_loadA 0 rfl rfl Tryd.underlying141 rfl rfl rfl YtjdaglmkljbfkaaDoorF.sz_141 (fun _ => rfl)) ?_
    | refine TL_q rfl rfl (QT_loadA 1 rfl rfl Tryd.underlying141 rfl rfl rfl YtjdaglmkljbfkaaDoorF.sz_141 (fun _ => rfl)) ?_
    | refine TL_q rfl rfl (QT_loadA 2 rfl rfl Tryd.underlying141 rfl rfl rfl YtjdaglmkljbfkaaDoorF.sz_141 (fun _ => rfl)) ?_
  refine TL_q rfl rfl (QT_move rfl rfl rfl) ?_
  refine TL_nil ?_
  refine TX_then ?_
  refine TC_block ?_
  refine TC_loop (γ := { i : Nat // i ≤ 4 }) (fun t => [(2, true, .int .i64 (pts : Int)), (3, true, .pointer (some ⟨b3, 0, none⟩)), (4, true, .pointer (some ⟨b4, 0, none⟩)), (6, true, .pointer (some ⟨b6, 0, none⟩)), (9, true, .pointer (some ⟨b9, 0, none⟩)), (23, true, .agg (((erow f).drop (0 + 0 + 0)).take 4).toArray), (24, true, .int .i64 (t.1 : Int))]) (fun t => St w0 ((b9, 146, erow f) :: (b6, 107, ptsTo ah f t.1) :: (b4, 107, ah) :: (b3, 79, s) :: η)) (fun t => 4 - t.1) ⟨0, by omega⟩ ⟨rfl, rfl, rfl, rfl, rfl, rfl, rfl, trivial⟩ (fun _ h => h) ?_
  rintro ⟨i, hi⟩
  dsimp only
  refine TC_seq ?_
  refine TC_reg ?_
  refine TL_q rfl rfl (QT_lss rfl rfl rfl rfl) ?_
  refine TL_nil ?_
  refine TX_then ?_
  refine TC_seq ?_
  first
    | refine TC_cond_dec rfl (fun h25 => ?_) (fun h25 => ?_)
    | refine TC_cond rfl (fun h25 => ?_) (fun h25 => ?_)
  ·
    have hi' : i < 4 := by omega
    have hrow : (((erow f).drop (0 + 0 + 0)).take 4)[i]? = some (.int .i64 ((eP f i : Nat) : Int)) := by
      match i, hi' with
      | 0, _ => rfl
      | 1, _ => rfl
      | 2, _ => rfl
      | 3, _ => rfl
    have hel := eP_lt f i
    have hpl := part_len ah (0 + 0 + eP f i * 2) 2 (by omega)
    have hql := ptsTo_len ah f i
    refine TC_skip ?_
    refine TX_then ?_
    refine TC_seq ?_
    refine TC_block ?_
    refine TC_seq ?_
    refine TC_reg ?_
    refine TL_q rfl rfl (QT_move rfl rfl rfl) ?_
    refine TL_q rfl rfl (QT_indexV i rfl rfl Tryd.underlying141 Tryd.underlying3 rfl YtjdaglmkljbfkaaDoorF.sz_3 rfl rfl rfl (fun _ => hi') (fun _ => hrow)) ?_
    refine TL_q rfl rfl (QT_assign rfl rfl rfl) ?_
    refine TL_q rfl rfl (QT_assign rfl rfl rfl) ?_
    refine TL_nil ?_
    refine TX_then ?_
    refine TC_reg ?_
    refine TL_q rfl rfl (QT_move rfl rfl rfl) ?_
    refine TL_q rfl rfl (QT_move rfl rfl rfl) ?_
    refine TL_q rfl rfl (QT_field rfl rfl YtjdaglmkljbfkaaDoorF.fld_107_0 rfl) ?_
    refine TL_q rfl rfl (QT_indexArr (eP f i) rfl rfl Tryd.underlying76 YtjdaglmkljbfkaaDoorF.sz_62 rfl rfl (rfl) (fun _ => by omega)) ?_
    refine TL_q rfl rfl (QT_loadA 2 rfl rfl Tryd.underlying62 rfl rfl rfl YtjdaglmkljbfkaaDoorF.sz_62 (fun _ => Nat.ble_eq_true_of_le (show 0 + 0 + eP f i * 2 + 2 ≤ ah.length by omega))) ?_
    refine TL_q rfl rfl (QT_field rfl rfl YtjdaglmkljbfkaaDoorF.fld_107_0 rfl) ?_
    refine TL_q rfl rfl (QT_indexArr (i) rfl rfl Tryd.underlying76 YtjdaglmkljbfkaaDoorF.sz_62 rfl rfl (rfl) (fun _ => by omega)) ?_
    refine TL_e0 rfl rfl (rfl) (ET_store (vs := (ah.drop (0 + 0 + eP f i * 2)).take 2) 1 rfl rfl rfl rfl (by rw [hpl]; exact YtjdaglmkljbfkaaDoorF.sz_62) rfl (all_part ha _ _) (Nat.ble_eq_true_of_le (by rw [hpl, hql]; omega))) ?_
    rintro _ _ ⟨rfl, rfl⟩
    refine TL_nil ?_
    refine TX_block_normal ?_
    refine TX_then ?_
    refine TC_reg ?_
    refine TL_q rfl rfl (QT_add rfl rfl rfl rfl (fun _ => ⟨by omega, by omega⟩)) ?_
    refine TL_q rfl rfl (QT_move rfl rfl rfl) ?_
    refine TL_nil ?_
    exact TX_round ⟨i + 1, by omega⟩ (by show 4 - (i + 1) < 4 - i; omega) ⟨rfl, rfl, rfl, rfl, rfl, rfl, rfl, trivial⟩ (fun _ h => h)
  ·
    refine TC_exit ?_
    refine TX_then_exit ?_
    refine TX_then_exit ?_
    refine TX_block_here ?_
    refine TX_then ?_
    refine TC_seq ?_
    refine TC_seq ?_
    obtain rfl : i = 4 := by omega
    refine TC_reg ?_
    refine TL_q rfl rfl (QT_field rfl rfl YtjdaglmkljbfkaaDoorF.fld_146_1 rfl) ?_
    first
      | refine TL_q rfl rfl (QT_loadW 0 rfl rfl Tryd.underlying144 rfl rfl rfl YtjdaglmkljbfkaaDoorF.sz_144) ?_
      | refine TL_q rfl rfl (QT_loadW 1 rfl rfl Tryd.underlying144 rfl rfl rfl YtjdaglmkljbfkaaDoorF.sz_144) ?_
      | refine TL_q rfl rfl (QT_loadW 2 rfl rfl Tryd.underlying144 rfl rfl rfl YtjdaglmkljbfkaaDoorF.sz_144) ?_
      | refine TL_q rfl rfl (QT_loadA 0 rfl rfl Tryd.underlying144 rfl rfl rfl YtjdaglmkljbfkaaDoorF.sz_144 (fun _ => rfl)) ?_
      | refine TL_q rfl rfl (QT_loadA 1 rfl rfl Tryd.underlying144 rfl rfl rfl YtjdaglmkljbfkaaDoorF.sz_144 (fun _ => rfl)) ?_
      | refine TL_q rfl rfl (QT_loadA 2 rfl rfl Tryd.underlying144 rfl rfl rfl YtjdaglmkljbfkaaDoorF.sz_144 (fun _ => rfl)) ?_
    refine TL_q rfl rfl (QT_move rfl rfl rfl) ?_
    refine TL_nil ?_
    refine TX_then ?_
    refine TC_block ?_
    refine TC_loop (γ := { i : Nat // i ≤ 2 }) (fun t => [(2, true, .int .i64 (pts : Int)), (3, true, .pointer (some ⟨b3, 0, none⟩)), (4, true, .pointer (some ⟨b4, 0, none⟩)), (6, true, .pointer (some ⟨b6, 0, none⟩)), (37, true, .agg (((erow f).drop (0 + 4)).take 2).toArray), (38, true, .int .i64 (t.1 : Int))]) (fun t => St w0 ((b9, 146, erow f) :: (b6, 107, colTo ah f t.1) :: (b4, 107, ah) :: (b3, 79, s) :: η)) (fun t => 2 - t.1) ⟨0, by omega⟩ ⟨rfl, rfl, rfl, rfl, rfl, rfl, trivial⟩ (fun _ h => h) ?_
    rintro ⟨i, hi⟩
    dsimp only
    refine TC_seq ?_
    refine TC_reg ?_
    refine TL_q rfl rfl (QT_lss rfl rfl rfl rfl) ?_
    refine TL_nil ?_
    refine TX_then ?_
    refine TC_seq ?_
    first
      | refine TC_cond_dec rfl (fun h39 => ?_) (fun h39 => ?_)
      | refine TC_cond rfl (fun h39 => ?_) (fun h39 => ?_)
    ·
      have hi' : i < 2 := by omega
      have hrow : (((erow f).drop (0 + 4)).take 2)[i]? = some (.int .i64 ((eC f i : Nat) : Int)) := by
        match i, hi' with
        | 0, _ => rfl
        | 1, _ => rfl
      have hel := eC_lt f i
      have hpl := part_len ah (0 + 32 + eC f i * 4) 4 (by omega)
      have hql := colTo_len ah f i
      refine TC_skip ?_
      refine TX_then ?_
      refine TC_seq ?_
      refine TC_block ?_
      refine TC_seq ?_
      refine TC_reg ?_
      refine TL_q rfl rfl (QT_move rfl rfl rfl) ?_
      refine TL_q rfl rfl (QT_indexV i rfl rfl Tryd.underlying144 Tryd.underlying3 rfl YtjdaglmkljbfkaaDoorF.sz_3 rfl rfl rfl (fun _ => hi') (fun _ => hrow)) ?_
      refine TL_q rfl rfl (QT_assign rfl rfl rfl) ?_
      refine TL_q rfl rfl (QT_assign rfl rfl rfl) ?_
      refine TL_nil ?_
      refine TX_then ?_
      refine TC_reg ?_
      refine TL_q rfl rfl (QT_move rfl rfl rfl) ?_
      refine TL_q rfl rfl (QT_move rfl rfl rfl) ?_
      refine TL_q rfl rfl (QT_field rfl rfl YtjdaglmkljbfkaaDoorF.fld_107_1 rfl) ?_
      refine TL_q rfl rfl (QT_indexArr (eC f i) rfl rfl Tryd.underlying77 YtjdaglmkljbfkaaDoorF.sz_65 rfl rfl (rfl) (fun _ => by omega)) ?_
      refine TL_q rfl rfl (QT_loadA 2 rfl rfl Tryd.underlying65 rfl rfl rfl YtjdaglmkljbfkaaDoorF.sz_65 (fun _ => Nat.ble_eq_true_of_le (show 0 + 32 + eC f i * 4 + 4 ≤ ah.length by omega))) ?_
      refine TL_q rfl rfl (QT_field rfl rfl YtjdaglmkljbfkaaDoorF.fld_107_1 rfl) ?_
      refine TL_q rfl rfl (QT_indexArr (i) rfl rfl Tryd.underlying77 YtjdaglmkljbfkaaDoorF.sz_65 rfl rfl (rfl) (fun _ => by omega)) ?_
      refine TL_e0 rfl rfl (rfl) (ET_store (vs := (ah.drop (0 + 32 + eC f i * 4)).take 4) 1 rfl rfl rfl rfl (by rw [hpl]; exact YtjdaglmkljbfkaaDoorF.sz_65) rfl (all_part ha _ _) (Nat.ble_eq_true_of_le (by rw [hpl, hql]; omega))) ?_
      rintro _ _ ⟨rfl, rfl⟩
      refine TL_nil ?_
      refine TX_block_normal ?_
      refine TX_then ?_
      refine TC_reg ?_
      refine TL_q rfl rfl (QT_add rfl rfl rfl rfl (fun _ => ⟨by omega, by omega⟩)) ?_
      refine TL_q rfl rfl (QT_move rfl rfl rfl) ?_
      refine TL_nil ?_
      exact TX_round ⟨i + 1, by omega⟩ (by show 2 - (i + 1) < 2 - i; omega) ⟨rfl, rfl, rfl, rfl, rfl, rfl, trivial⟩ (fun _ h => h)
    ·
      refine TC_exit ?_
      refine TX_then_exit ?_
      refine TX_then_exit ?_
      refine TX_block_here ?_
      refine TX_then ?_
      obtain rfl : i = 2 := by omega
      refine TC_reg ?_
      refine TL_q rfl rfl (QT_assign rfl rfl rfl) ?_
      refine TL_q rfl rfl (QT_assign rfl rfl rfl) ?_
      refine TL_nil ?_
      refine TX_then ?_
      refine TC_seq ?_
      refine TC_draw [(0, 0), (1, 0), (2, 0), (3, 0), (4, 0), (5, 0), (6, 1)] YtjdaglmkljbfkaaDoorF.mixed (by kernel_rfl) (St.calm _ _) ?_
      have hcl := colTo_len ah f 2
      refine TV_q rfl rfl rfl (fun _ => QT_field rfl rfl YtjdaglmkljbfkaaDoorF.fld_107_0 rfl) ?_
      refine TV_q rfl rfl rfl (fun _ => QT_move rfl rfl rfl) ?_
      refine TV_q rfl rfl rfl (fun _ => QT_move rfl rfl rfl) ?_
      refine TV_q rfl rfl rfl (fun _ => QT_slaLH (4) (pts) rfl rfl rfl Tryd.underlying76 YtjdaglmkljbfkaaDoorF.sz_62 rfl rfl rfl rfl rfl (fun _ => ⟨by omega, by omega, by omega⟩)) ?_
      refine TV_q rfl rfl rfl (fun _ => QT_field rfl rfl YtjdaglmkljbfkaaDoorF.fld_79_1 rfl) ?_
      refine TV_q rfl rfl rfl (fun _ => QT_slaA  rfl rfl rfl rfl rfl Tryd.underlying76 YtjdaglmkljbfkaaDoorF.sz_62 rfl ) ?_
      refine TV_e rfl rfl rfl rfl (rfl) (ET_copy (news := (s.drop (0 + 1)).take (16 * 2)) 1 rfl Tryd.underlying148 YtjdaglmkljbfkaaDoorF.sz_62 rfl rfl rfl (SlA.own (n := 16) 3 rfl rfl (show 0 + 1 + 16 * 2 ≤ s.length by omega) (by omega)) (fun u hu => hs.oneCell u (List.mem_of_mem_drop (List.mem_of_mem_take hu))) (show 0 + 0 + 4 * 2 + min 16 (pts - 4) * 2 ≤ (colTo ah f 2).length by omega)) ?_
      rintro _ _ ⟨rfl, rfl⟩
      refine ⟨_, .nil, ?_⟩
      refine TV_end ?_
      refine TX_then ?_
      refine TC_seq ?_
      refine TC_draw [(0, 0), (1, 0), (2, 0), (3, 0), (4, 0), (5, 1)] YtjdaglmkljbfkaaDoorF.mixed (by kernel_rfl) (St.calm _ _) ?_
      refine TV_q rfl rfl rfl (fun _ => QT_field rfl rfl YtjdaglmkljbfkaaDoorF.fld_107_1 rfl) ?_
      refine TV_q rfl rfl rfl (fun _ => QT_move rfl rfl rfl) ?_
      refine TV_q rfl rfl rfl (fun _ => QT_slaL (2) rfl rfl rfl rfl Tryd.underlying77 YtjdaglmkljbfkaaDoorF.sz_65 rfl rfl rfl (fun _ => by omega)) ?_
      refine TV_q rfl rfl rfl (fun _ => QT_field rfl rfl YtjdaglmkljbfkaaDoorF.fld_79_2 rfl) ?_
      refine TV_q rfl rfl rfl (fun _ => QT_slaA  rfl rfl rfl rfl rfl Tryd.underlying77 YtjdaglmkljbfkaaDoorF.sz_65 rfl ) ?_
      refine TV_e rfl rfl rfl rfl (rfl) (ET_copy (news := (s.drop (0 + 33)).take (4 * 4)) 1 rfl Tryd.underlying149 YtjdaglmkljbfkaaDoorF.sz_65 rfl rfl rfl (SlA.own (n := 4) 3 rfl rfl (show 0 + 33 + 4 * 4 ≤ s.length by omega) (by omega)) (fun u hu => hs.oneCell u (List.mem_of_mem_drop (List.mem_of_mem_take hu))) (by rw [setAt_length]; show 0 + 32 + 2 * 4 + min 4 (4 - 2) * 4 ≤ (colTo ah f 2).length; omega)) ?_
      rintro _ _ ⟨rfl, rfl⟩
      refine ⟨_, .nil, ?_⟩
      refine TV_end ?_
      refine TX_then ?_
      refine TC_seq ?_
      refine TC_A (St w0 ((b9, 146, erow f) :: (b6, 107, wholeC pts f s ah) :: (b4, 107, ah) :: (b3, 79, s) :: η)) (fun w h => by rw [← whole_eqE hsl hal hp (show f = 1 ∨ f = 2 ∨ f = 3 by omega)]; exact h) ?_
      refine TC_reg ?_
      refine TL_q rfl rfl (QT_loadW 1 rfl rfl Tryd.underlying107 rfl rfl rfl hsz) ?_
      refine TL_e0 rfl rfl (rfl) (ET_storeW 1 rfl rfl rfl hsz rfl (List.all_eq_true.2 hwi.oneCell) (Nat.beq_refl _)) ?_
      rintro _ _ ⟨rfl, rfl⟩
      refine TL_nil ?_
      refine TX_then ?_
      refine TC_ret ?_
      exact TX_ret (.inl rfl) (resC 1 rfl rfl Tryd.underlying107 rfl rfl hsz) ⟨_, ⟨rfl, rfl⟩, (fun _ h => by first | exact h | exact h.tail | exact h.tail.tail | exact h.tail.tail.tail | exact h.tail.tail.tail.tail | exact h.tail.tail.tail.tail.tail | exact h.tail.tail.tail.tail.tail.tail | exact h.tail.tail.tail.tail.tail.tail.tail | exact h.tail.tail.tail.tail.tail.tail.tail.tail | exact h.tail.tail.tail.tail.tail.tail.tail.tail.tail | exact h.tail.tail.tail.tail.tail.tail.tail.tail.tail.tail | exact h.tail.tail.tail.tail.tail.tail.tail.tail.tail.tail.tail | exact h.tail.tail.tail.tail.tail.tail.tail.tail.tail.tail.tail.tail | exact h.tail.tail.tail.tail.tail.tail.tail.tail.tail.tail.tail.tail.tail)⟩
theorem whole_spec (w0 : Base) (η : Heap) (hE : Edges w0) (s ah : List Value) (pts f : Nat) (hs : Ints sheetK s) (ha : Ints patchK ah) (hp : pts = 12 ∨ pts = 16) (hf : s[0]? = some (.int .u8 (f : Int))) (h3 : f ≤ 3) :
    CallsT Tryd.prog 40 [.agg s.toArray, .agg ah.toArray, .int .i64 (pts : Int)] (St w0 η) fun v A' => v = .agg (wholeC pts f s ah).toArray ∧ A' = St w0 η := by
  by_cases h0 : f = 0
  · subst h0; exact whole_0 w0 η s ah pts hs ha hp hf
  · exact whole_e w0 η hE s ah pts f hs ha hp hf (by omega) h3
end Go.Proofs.YtjdaglmkljbfkaaDoor.T12
namespace Go.Proofs.YtjdaglmkljbfkaaDoor.T12
open Go Go.Gx Go.RowKit
set_option maxRecDepth 100000

/-- the i-th sheet's flag -/
def flg (xs : List Value) (i : Nat) : Nat := match xs[i * 49]? with
  | some (.int _ z) => z.toNat
  | _ => 0
theorem flg_spec {n i : Nat} {xs : List Value} (h : Ints (rep n sheetK) xs) (hi : i < n) : xs[i * 49]? = some (.int .u8 (flg xs i : Int)) ∧ (elem xs 49 i)[0]? = some (.int .u8 (flg xs i : Int)) ∧ flg xs i ≤ 255 := by
  have he : Ints sheetK (elem xs 49 i) := h.elem hi
  obtain ⟨z, cs', e, hw, _⟩ := (show Ints (.u8 :: sheetK.tail) (elem xs 49 i) from he).inv
  have h0 : (elem xs 49 i)[0]? = xs[i * 49]? := by
    unfold elem
    rw [List.getElem?_take_of_lt (by decide), List.getElem?_drop, Nat.add_zero]
  have hz := wf_u8 hw
  have h1 : xs[i * 49]? = some (.int .u8 z) := by rw [← h0, e]; rfl
  have hf : flg xs i = z.toNat := by unfold flg; rw [h1]
  have hz2 : (flg xs i : Int) = z := by rw [hf]; omega
  rw [h0, h1, hz2]
  exact ⟨rfl, rfl, by omega⟩
def bigB (xs : List Value) (n : Nat) : Bool := (List.range n).any fun i => decide (4 ≤ flg xs i)
theorem bigB_false {xs : List Value} {n : Nat} (h : bigB xs n = false) : ∀ i, i < n → flg xs i ≤ 3 := by
  intro i hi
  simp only [bigB, List.any_eq_false, List.mem_range, decide_eq_true_eq] at h
  have := h i hi
  omega
theorem bigB_intro {xs : List Value} {n i : Nat} (hi : i < n) (h : 4 ≤ flg xs i) : bigB xs n = true := by
  simp only [bigB, List.any_eq_true, List.mem_range, decide_eq_true_eq]
  exact ⟨i, hi, h⟩
theorem bigB_none {xs : List Value} {n : Nat} (h : ∀ i, i < n → flg xs i ≤ 3) : bigB xs n = false := by
  simp only [bigB, List.any_eq_false, List.mem_range, decide_eq_true_eq]
  intro i hi
  have := h i hi
  omega
def ptsT (L : Lay) : Nat := if L.ty = 7 then 16 else 12
theorem ptsT_or (L : Lay) : ptsT L = 12 ∨ ptsT L = 16 := by unfold ptsT; split <;> simp
/-- the patch ahead of the i-th sheet -/
def tileB (pts : Nat) (xs : List Value) : Nat → List Value
  | 0 => zP
  | i + 1 => wholeC pts (flg xs i) (elem xs 49 i) (tileB pts xs i)
def tilesC (pts : Nat) (xs : List Value) : Nat → List Value
  | 0 => []
  | i + 1 => tilesC pts xs i ++ tileB pts xs (i + 1)
theorem tileB_ints {pts n : Nat} {xs : List Value} (hx : Ints (rep n sheetK) xs) (hp : pts = 12 ∨ pts = 16) (hb : ∀ i, i < n → flg xs i ≤ 3) : ∀ i, i ≤ n → Ints patchK (tileB pts xs i)
  | 0, _ => zP_ints
  | i + 1, h => whole_ints (hx.elem (by omega)) (tileB_ints hx hp hb i (by omega)) hp (hb i (by omega))
theorem rep_succR (n : Nat) (ks : List IntKind) : rep (n + 1) ks = rep n ks ++ ks := by rw [rep_add]; simp [rep]
theorem tilesC_ints {pts n : Nat} {xs : List Value} (hx : Ints (rep n sheetK) xs) (hp : pts = 12 ∨ pts = 16) (hb : ∀ i, i < n → flg xs i ≤ 3) : ∀ i, i ≤ n → Ints (rep i patchK) (tilesC pts xs i)
  | 0, _ => by show Ints (rep 0 patchK) []; simpa [rep] using Ints.nil
  | i + 1, h => by
    rw [rep_succR]
    exact (tilesC_ints hx hp hb i (by omega)).append (tileB_ints hx hp hb (i + 1) h)
def errT (L : Lay) (n : Nat) (xs : List Value) : Int :=
  if okB L = true ∧ 6 ≤ L.ty then (if 0 < n ∧ flg xs 0 ≠ 0 then 6 else if bigB xs n = true then 7 else 0) else 4
def cntT (L : Lay) (n : Nat) (xs : List Value) : Nat := if errT L n xs = 0 then n else 0
def outT (L : Lay) (n : Nat) (xs : List Value) : List Value := if errT L n xs = 0 then tilesC (ptsT L) xs n else []
theorem errT_zero {L : Lay} {n : Nat} {xs : List Value} (h : errT L n xs = 0) : okB L = true ∧ (L.ty = 6 ∨ L.ty = 7) ∧ (0 < n → flg xs 0 = 0) ∧ ∀ i, i < n → flg xs i ≤ 3 := by
  unfold errT at h
  split at h
  · rename_i h1
    split at h
    · cases h
    · rename_i h2
      split at h
      · cases h
      · rename_i h3
        obtain ⟨_, _, _, hty, _⟩ := okB_bounds h1.1
        exact ⟨h1.1, by omega, fun h0 => Classical.byContradiction fun hne => h2 ⟨h0, hne⟩, bigB_false (by simpa using h3)⟩
  · cases h
theorem outT_ints {L : Lay} {n : Nat} {xs : List Value} (hx : Ints (rep n sheetK) xs) : Ints (rep (cntT L n xs) patchK) (outT L n xs) := by
  unfold cntT outT
  by_cases h : errT L n xs = 0
  · rw [if_pos h, if_pos h]
    exact tilesC_ints hx (ptsT_or L) (errT_zero h).2.2.2 n (Nat.le_refl _)
  · rw [if_neg h, if_neg h]; simpa [rep] using Ints.nil

theorem big_spec (w0 : Base) (η : Heap) (s : List Value) (f : Nat) (hf : s[0]? = some (.int .u8 (f : Int))) (h2 : f ≤ 255) :
    CallsT Tryd.prog 39 [.agg s.toArray] (St w0 η) fun v A' => v = .bool (decide (4 ≤ f)) ∧ A' = St w0 η := by
  have hw : IntKind.i64.wrap (f : Int) = (f : Int) := wrap_i64 ⟨by omega, by omega⟩
  refine CallsT.body Tryd.func39 rfl rfl ?_
  simp only [Tryd.ntmps39, slotsOf, Nat.reduceAdd]
  refine TC_seq ?_
  refine TC_reg ?_
  refine TL_e rfl rfl rfl (rfl) (ET_box rfl rfl) ?_
  rintro _ _ ⟨b1, rfl, rfl⟩
  refine TL_q rfl rfl (QT_assign rfl rfl rfl) ?_
  refine TL_nil ?_
  refine TX_then ?_
  refine TC_seq ?_
  refine TC_reg ?_
  refine TL_q rfl rfl (QT_field rfl rfl YtjdaglmkljbfkaaDoorF.fld_79_0 rfl) ?_
  refine TL_q rfl rfl (QT_load 0 rfl rfl Tryd.underlying5 rfl rfl rfl (fun _ => hf)) ?_
  refine TL_q rfl rfl (QT_conv rfl rfl Tryd.underlying5 Tryd.underlying3 rfl) ?_
  refine TL_q rfl rfl (QT_geq rfl rfl rfl rfl) ?_
  refine TL_q rfl rfl (QT_assign rfl rfl rfl) ?_
  refine TL_nil ?_
  refine TX_then ?_
  refine TC_ret ?_
  exact TX_ret (.inl rfl) (res1 rfl rfl) ⟨_, ⟨by rw [hw]; congr 1; rw [Bool.eq_iff_iff]; simp; omega, rfl⟩, (fun _ h => by first | exact h | exact h.tail | exact h.tail.tail | exact h.tail.tail.tail | exact h.tail.tail.tail.tail | exact h.tail.tail.tail.tail.tail | exact h.tail.tail.tail.tail.tail.tail | exact h.tail.tail.tail.tail.tail.tail.tail | exact h.tail.tail.tail.tail.tail.tail.tail.tail | exact h.tail.tail.tail.tail.tail.tail.tail.tail.tail | exact h.tail.tail.tail.tail.tail.tail.tail.tail.tail.tail | exact h.tail.tail.tail.tail.tail.tail.tail.tail.tail.tail.tail | exact h.tail.tail.tail.tail.tail.tail.tail.tail.tail.tail.tail.tail | exact h.tail.tail.tail.tail.tail.tail.tail.tail.tail.tail.tail.tail.tail)⟩

theorem index_spec (w0 : Base) (η : Heap) (sv : Value) (n : Nat) (xs : List Value) (hs : SlA (St w0 η) sv 49 n xs) (hi : Ints (rep n sheetK) xs) :
    CallsT Tryd.prog 72 [sv, .func (.func 39) #[] #[]] (St w0 η) fun v A' => (∃ r : Int, v = .int .i64 r ∧ decide (0 ≤ r) = bigB xs n) ∧ A' = St w0 η := by
  obtain ⟨hl, ad, cap, b, off, rfl, hcap, had, hrd⟩ := hs.some
  refine CallsT.body Tryd.func72 rfl rfl ?_
  simp only [Tryd.ntmps72, slotsOf, Nat.reduceAdd]
  refine TC_seq ?_
  refine TC_reg ?_
  refine TL_q rfl rfl (QT_assign rfl rfl rfl) ?_
  refine TL_nil ?_
  refine TX_then ?_
  refine TC_seq ?_
  refine TC_seq ?_
  refine TC_reg ?_
  refine TL_q rfl rfl (QT_move rfl rfl rfl) ?_
  refine TL_q rfl rfl (QT_len rfl rfl Tryd.underlying31 rfl) ?_
  refine TL_q rfl rfl (QT_move rfl rfl rfl) ?_
  refine TL_nil ?_
  refine TX_then ?_
  refine TC_block ?_
  refine TC_loop (γ := { i : Nat // i ≤ n ∧ ∀ j, j < i → flg xs j ≤ 3 }) (fun t => [(0, true, .slice ad n cap), (1, true, .func (.func 39) #[] #[]), (7, true, .int .i64 (n : Int)), (8, true, .int .i64 (t.1 : Int))]) (fun _ => St w0 η) (fun t => n - t.1) ⟨0, by omega, fun j h => by omega⟩ ⟨rfl, rfl, rfl, rfl, trivial⟩ (fun _ h => h) ?_
  rintro ⟨i, hin, hx⟩
  dsimp only
  refine TC_seq ?_
  refine TC_reg ?_
  refine TL_q rfl rfl (QT_lss rfl rfl rfl rfl) ?_
  refine TL_nil ?_
  refine TX_then ?_
  refine TC_seq ?_
  first
    | refine TC_cond_dec rfl (fun h9 => ?_) (fun h9 => ?_)
    | refine TC_cond rfl (fun h9 => ?_) (fun h9 => ?_)
  ·
    have hi' : i < n := by omega
    obtain ⟨hf1, hf2, hf3⟩ := flg_spec hi hi'
    obtain rfl := had (by omega)
    have hle : i * 49 + 49 ≤ xs.length := by rw [hl]; have : (i + 1) * 49 ≤ n * 49 := Nat.mul_le_mul_right _ hi'; omega
    refine TC_skip ?_
    refine TX_then ?_
    refine TC_seq ?_
    refine TC_block ?_
    refine TC_seq ?_
    refine TC_reg ?_
    refine TL_q rfl rfl (QT_move rfl rfl rfl) ?_
    refine TL_q rfl rfl (QT_assign rfl rfl rfl) ?_
    refine TL_nil ?_
    refine TX_then ?_
    refine TC_seq ?_
    refine TC_reg ?_
    refine TL_q rfl rfl (QT_move rfl rfl rfl) ?_
    refine TL_q rfl rfl (QT_move rfl rfl rfl) ?_
    refine TL_q rfl rfl (QT_move rfl rfl rfl) ?_
    refine TL_q rfl rfl (QT_indexSlice (i) rfl rfl Tryd.underlying31 YtjdaglmkljbfkaaDoorF.sz_79 rfl rfl (rfl) (fun _ => hi')) ?_
    refine TL_q rfl rfl (QT_loadRAj (i * 49) rfl rfl Tryd.underlying79 rfl YtjdaglmkljbfkaaDoorF.sz_79 hrd rfl (fun _ => hle) (fun _ => rfl)) ?_
    refine TL_e rfl rfl rfl (rfl) (ET_callV rfl rfl YtjdaglmkljbfkaaDoorF.cal_39 rfl (big_spec w0 _ (elem xs 49 i) (flg xs i) hf2 hf3)) ?_
    rintro _ _ ⟨rfl, rfl⟩
    refine TL_nil ?_
    refine TX_then ?_
    first
      | refine TC_cond_dec rfl (fun h16 => ?_) (fun h16 => ?_)
      | refine TC_cond rfl (fun h16 => ?_) (fun h16 => ?_)
    ·
      refine TC_seq ?_
      refine TC_reg ?_
      refine TL_q rfl rfl (QT_move rfl rfl rfl) ?_
      refine TL_q rfl rfl (QT_assign rfl rfl rfl) ?_
      refine TL_nil ?_
      refine TX_then ?_
      refine TC_ret ?_
      refine TX_block_ret ?_
      refine TX_then_ret ?_
      refine TX_then_ret ?_
      refine TX_block_ret ?_
      refine TX_then_ret ?_
      exact TX_ret (.inl rfl) (res1 rfl rfl) ⟨_, ⟨⟨(i : Int), rfl, by rw [bigB_intro hi' h16]; simp⟩, rfl⟩, fun _ h => h⟩
    ·
      refine TC_skip ?_
      refine TX_block_normal ?_
      refine TX_then ?_
      refine TC_reg ?_
      refine TL_q rfl rfl (QT_add rfl rfl rfl rfl (fun _ => ⟨by omega, by omega⟩)) ?_
      refine TL_q rfl rfl (QT_move rfl rfl rfl) ?_
      refine TL_nil ?_
      exact TX_round ⟨i + 1, by omega, fun j hj => by
        by_cases h : j < i
        · exact hx j h
        · obtain rfl : j = i := by omega
          omega⟩ (by show n - (i + 1) < n - i; omega) ⟨rfl, rfl, rfl, rfl, trivial⟩ (fun _ h => h)
  ·
    refine TC_exit ?_
    refine TX_then_exit ?_
    refine TX_then_exit ?_
    refine TX_block_here ?_
    refine TX_then ?_
    refine TC_seq ?_
    refine TC_reg ?_
    refine TL_q rfl rfl (QT_assign rfl rfl rfl) ?_
    refine TL_nil ?_
    refine TX_then ?_
    refine TC_ret ?_
    exact TX_ret (.inl rfl) (res1 rfl rfl) ⟨_, ⟨⟨-1, rfl, by rw [bigB_none (fun j hj => hx j (by omega))]; rfl⟩, rfl⟩, fun _ h => h⟩
theorem contains_spec (w0 : Base) (η : Heap) (sv : Value) (n : Nat) (xs : List Value) (hs : SlA (St w0 η) sv 49 n xs) (hi : Ints (rep n sheetK) xs) :
    CallsT Tryd.prog 38 [sv, .func (.func 39) #[] #[]] (St w0 η) fun v A' => v = .bool (bigB xs n) ∧ A' = St w0 η := by
  refine CallsT.body Tryd.func38 rfl rfl ?_
  simp only [Tryd.ntmps38, slotsOf, Nat.reduceAdd]
  refine TC_seq ?_
  refine TC_reg ?_
  refine TL_q rfl rfl (QT_assign rfl rfl rfl) ?_
  refine TL_nil ?_
  refine TX_then ?_
  refine TC_seq ?_
  refine TC_reg ?_
  refine TL_q rfl rfl (QT_move rfl rfl rfl) ?_
  refine TL_q rfl rfl (QT_move rfl rfl rfl) ?_
  refine TL_e rfl rfl rfl (rfl) (ET_call rfl YtjdaglmkljbfkaaDoorF.cal_72 rfl (index_spec w0 _ sv n xs hs hi)) ?_
  rintro _ _ ⟨⟨r, rfl, hr⟩, rfl⟩
  refine TL_q rfl rfl (QT_geq rfl rfl rfl rfl) ?_
  refine TL_q rfl rfl (QT_assign rfl rfl rfl) ?_
  refine TL_nil ?_
  refine TX_then ?_
  refine TC_ret ?_
  exact TX_ret (.inl rfl) (res1 rfl rfl) ⟨_, ⟨by rw [← hr], rfl⟩, fun _ h => h⟩

theorem clip_spec (w0 : Base) (η H : Heap) (v : Value) (n : Nat) (xs : List Value) (hF : Frag 107 48 v n xs H) :
    CallsT Tryd.prog 41 [v] (St w0 (H ++ η)) fun v A' => Frag 107 48 v n xs H ∧ A' = St w0 (H ++ η) := by
  obtain ⟨hl, hF⟩ := hF
  rcases hF with ⟨rfl, rfl, rfl⟩ | ⟨b, cap, rest, rfl, hc, hlen, rfl⟩
  · refine CallsT.body Tryd.func41 rfl rfl ?_
    simp only [Tryd.ntmps41, slotsOf, Nat.reduceAdd]
    refine TC_seq ?_
    refine TC_reg ?_
    refine TL_q rfl rfl (QT_assign rfl rfl rfl) ?_
    refine TL_nil ?_
    refine TX_then ?_
    refine TC_seq ?_
    refine TC_reg ?_
    refine TL_q rfl rfl (QT_move rfl rfl rfl) ?_
    refine TL_q rfl rfl (QT_move rfl rfl rfl) ?_
    refine TL_q rfl rfl (QT_len rfl rfl Tryd.underlying43 rfl) ?_
    refine TL_q rfl rfl (QT_move rfl rfl rfl) ?_
    refine TL_q rfl rfl (QT_len rfl rfl Tryd.underlying43 rfl) ?_
    refine TL_q rfl rfl (QT_slcHM (0) (0) rfl rfl rfl Tryd.underlying43 YtjdaglmkljbfkaaDoorF.sz_107 rfl rfl rfl rfl rfl (fun _ => ⟨by omega, by omega⟩)) ?_
    refine TL_q rfl rfl (QT_assign rfl rfl rfl) ?_
    refine TL_nil ?_
    refine TX_then ?_
    refine TC_ret ?_
    exact TX_ret (.inl rfl) (res1 rfl rfl) ⟨_, ⟨⟨hl, .inl ⟨rfl, rfl, rfl⟩⟩, rfl⟩, fun _ h => h⟩
  · refine CallsT.body Tryd.func41 rfl rfl ?_
    simp only [Tryd.ntmps41, slotsOf, Nat.reduceAdd]
    refine TC_seq ?_
    refine TC_reg ?_
    refine TL_q rfl rfl (QT_assign rfl rfl rfl) ?_
    refine TL_nil ?_
    refine TX_then ?_
    refine TC_seq ?_
    refine TC_reg ?_
    refine TL_q rfl rfl (QT_move rfl rfl rfl) ?_
    refine TL_q rfl rfl (QT_move rfl rfl rfl) ?_
    refine TL_q rfl rfl (QT_len rfl rfl Tryd.underlying43 rfl) ?_
    refine TL_q rfl rfl (QT_move rfl rfl rfl) ?_
    refine TL_q rfl rfl (QT_len rfl rfl Tryd.underlying43 rfl) ?_
    refine TL_q rfl rfl (QT_slcHM (n) (n) rfl rfl rfl Tryd.underlying43 YtjdaglmkljbfkaaDoorF.sz_107 rfl rfl rfl rfl rfl (fun _ => ⟨by omega, by omega⟩)) ?_
    refine TL_q rfl rfl (QT_assign rfl rfl rfl) ?_
    refine TL_nil ?_
    refine TX_then ?_
    refine TC_ret ?_
    exact TX_ret (.inl rfl) (res1 rfl rfl) ⟨_, ⟨⟨hl, .inr ⟨b, n, rest, rfl, ⟨Nat.le_refl _, by omega⟩, Nat.le_trans (Nat.mul_le_mul_right _ hc.1) hlen, rfl⟩⟩, rfl⟩, fun _ h => h⟩
theorem e4 {L : Lay} {n : Nat} {xs : List Value} (h : (decide (errOf L ≠ 0) || decide (L.ty < 6)) = true) : errT L n xs = 4 := by
  unfold errT
  rw [if_neg]
  rintro ⟨h1, h2⟩
  simp only [errOf, h1, if_true, ne_eq, not_true, decide_false, Bool.false_or, decide_eq_true_eq] at h
  omega
theorem e4' {L : Lay} (h : (decide (errOf L ≠ 0) || decide (L.ty < 6)) = false) : okB L = true ∧ 6 ≤ L.ty := by
  simp only [Bool.or_eq_false_iff, decide_eq_false_iff_not] at h
  refine ⟨Classical.byContradiction fun hn => h.1 ?_, by omega⟩
  unfold errOf; rw [if_neg hn]; decide
theorem e6 {L : Lay} {n : Nat} {xs : List Value} (h1 : okB L = true ∧ 6 ≤ L.ty) (h : (decide ((0 : Int) < (n : Int)) && decide ((flg xs 0 : Int) ≠ 0)) = true) : errT L n xs = 6 := by
  simp only [Bool.and_eq_true, decide_eq_true_eq] at h
  unfold errT
  rw [if_pos h1, if_pos ⟨by omega, by omega⟩]
theorem e6' {n : Nat} {xs : List Value} (h : (decide ((0 : Int) < (n : Int)) && decide ((flg xs 0 : Int) ≠ 0)) = false) : ¬ (0 < n ∧ flg xs 0 ≠ 0) := by
  rintro ⟨a, b⟩
  simp only [Bool.and_eq_false_iff, decide_eq_false_iff_not] at h
  omega
theorem fragErr {L : Lay} {n : Nat} {xs : List Value} {e : Int} (h : errT L n xs = e) (h0 : e ≠ 0) : Frag 107 48 (.slice none 0 0) (cntT L n xs) (outT L n xs) [] := by
  unfold cntT outT
  rw [if_neg (by rw [h]; exact h0), if_neg (by rw [h]; exact h0)]
  exact Frag.nil _ _

theorem of_spec (w0 : Base) (η : Heap) (hG : Sets w0) (hE : Edges w0) (L : Lay) (sv : Value) (n : Nat) (xs : List Value) (hs : SlA (St w0 η) sv 49 n xs) (hi : Ints (rep n sheetK) xs) (hn : n * 160 ≤ 140737488355328) :
    CallsT Tryd.prog 17 [L.val, sv] (St w0 η) fun v A' => ∃ pv H, v = .tuple #[pv, .int .i64 (errT L n xs)] ∧ Frag 107 48 pv (cntT L n xs) (outT L n xs) H ∧ A' = St w0 (H ++ η) := by
  obtain ⟨hl, ad, cap, b, off, rfl, hcap, had, hrd⟩ := hs.some
  refine CallsT.body Tryd.func17 rfl rfl ?_
  simp only [Tryd.ntmps17, slotsOf, Nat.reduceAdd]
  refine TC_seq ?_
  refine TC_reg ?_
  refine TL_e rfl rfl rfl (rfl) (ET_box rfl rfl) ?_
  rintro _ _ ⟨b2, rfl, rfl⟩
  refine TL_q rfl rfl (QT_assign rfl rfl rfl) ?_
  refine TL_q rfl rfl (QT_assign rfl rfl rfl) ?_
  refine TL_nil ?_
  refine TX_then ?_
  refine TC_seq ?_
  refine TC_block ?_
  refine TC_seq ?_
  refine TC_reg ?_
  first
    | refine TL_q rfl rfl (QT_loadW 0 rfl rfl Tryd.underlying27 rfl rfl rfl YtjdaglmkljbfkaaDoorF.sz_27) ?_
    | refine TL_q rfl rfl (QT_loadW 1 rfl rfl Tryd.underlying27 rfl rfl rfl YtjdaglmkljbfkaaDoorF.sz_27) ?_
    | refine TL_q rfl rfl (QT_loadW 2 rfl rfl Tryd.underlying27 rfl rfl rfl YtjdaglmkljbfkaaDoorF.sz_27) ?_
    | refine TL_q rfl rfl (QT_loadA 0 rfl rfl Tryd.underlying27 rfl rfl rfl YtjdaglmkljbfkaaDoorF.sz_27 (fun _ => rfl)) ?_
    | refine TL_q rfl rfl (QT_loadA 1 rfl rfl Tryd.underlying27 rfl rfl rfl YtjdaglmkljbfkaaDoorF.sz_27 (fun _ => rfl)) ?_
    | refine TL_q rfl rfl (QT_loadA 2 rfl rfl Tryd.underlying27 rfl rfl rfl YtjdaglmkljbfkaaDoorF.sz_27 (fun _ => rfl)) ?_
  refine TL_cq rfl rfl rfl rfl YtjdaglmkljbfkaaDoorF.cal_10 rfl (fun _ => check_spec w0 _ hG L) ?_
  refine TL_q rfl rfl (QT_neq rfl rfl rfl rfl) ?_
  refine TL_q rfl rfl (QT_move rfl rfl rfl) ?_
  refine TL_q rfl rfl (QT_field rfl rfl YtjdaglmkljbfkaaDoorF.fld_27_0 rfl) ?_
  first
    | refine TL_q rfl rfl (QT_load 0 rfl rfl Tryd.underlying3 rfl rfl rfl (fun _ => rfl)) ?_
    | refine TL_q rfl rfl (QT_load 1 rfl rfl Tryd.underlying3 rfl rfl rfl (fun _ => rfl)) ?_
    | refine TL_q rfl rfl (QT_load 2 rfl rfl Tryd.underlying3 rfl rfl rfl (fun _ => rfl)) ?_
  refine TL_q rfl rfl (QT_lss rfl rfl rfl rfl) ?_
  refine TL_q rfl rfl (QT_or rfl rfl rfl rfl) ?_
  refine TL_q rfl rfl (QT_assign rfl rfl rfl) ?_
  refine TL_nil ?_
  refine TX_then ?_
  first
    | refine TC_cond_dec rfl (fun h11 => ?_) (fun h11 => ?_)
    | refine TC_cond rfl (fun h11 => ?_) (fun h11 => ?_)
  ·
    refine TC_seq ?_
    refine TC_reg ?_
    refine TL_q rfl rfl (QT_assign rfl rfl rfl) ?_
    refine TL_q rfl rfl (QT_assign rfl rfl rfl) ?_
    refine TL_nil ?_
    refine TX_then ?_
    refine TC_ret ?_
    refine TX_block_ret ?_
    refine TX_then_ret ?_
    exact TX_ret (.inl rfl) (res2 rfl rfl rfl) ⟨_, ⟨_, [], by rw [e4 h11], fragErr (e4 h11) (by decide), rfl⟩, (fun _ h => by first | exact h | exact h.tail | exact h.tail.tail | exact h.tail.tail.tail | exact h.tail.tail.tail.tail | exact h.tail.tail.tail.tail.tail | exact h.tail.tail.tail.tail.tail.tail | exact h.tail.tail.tail.tail.tail.tail.tail | exact h.tail.tail.tail.tail.tail.tail.tail.tail | exact h.tail.tail.tail.tail.tail.tail.tail.tail.tail | exact h.tail.tail.tail.tail.tail.tail.tail.tail.tail.tail | exact h.tail.tail.tail.tail.tail.tail.tail.tail.tail.tail.tail | exact h.tail.tail.tail.tail.tail.tail.tail.tail.tail.tail.tail.tail | exact h.tail.tail.tail.tail.tail.tail.tail.tail.tail.tail.tail.tail.tail)⟩
  ·
    refine TC_seq ?_
    refine TC_reg ?_
    refine TL_q rfl rfl (QT_move rfl rfl rfl) ?_
    refine TL_q rfl rfl (QT_len rfl rfl Tryd.underlying31 rfl) ?_
    refine TL_q rfl rfl (QT_gtr rfl rfl rfl rfl) ?_
    refine TL_q rfl rfl (QT_move rfl rfl rfl) ?_
    refine TL_q rfl rfl (QT_move rfl rfl rfl) ?_
    refine TL_q rfl rfl (QT_indexG 0 rfl rfl Tryd.underlying31 YtjdaglmkljbfkaaDoorF.sz_79 rfl rfl rfl (fun h => by simpa using h) (fun h => had (by simpa using h))) ?_
    refine TL_q rfl rfl (QT_field rfl rfl YtjdaglmkljbfkaaDoorF.fld_79_0 rfl) ?_
    refine TL_q rfl rfl (QT_loadRj (0 * 49) rfl rfl Tryd.underlying5 rfl (hrd.mono fun _ h => h.tail) rfl (fun h => (flg_spec hi (by simpa using h)).1)) ?_
    refine TL_q rfl rfl (QT_neq rfl rfl rfl rfl) ?_
    refine TL_q rfl rfl (QT_and rfl rfl rfl rfl) ?_
    refine TL_q rfl rfl (QT_assign rfl rfl rfl) ?_
    refine TL_nil ?_
    refine TX_then ?_
    first
      | refine TC_cond_dec rfl (fun h20 => ?_) (fun h20 => ?_)
      | refine TC_cond rfl (fun h20 => ?_) (fun h20 => ?_)
    ·
      refine TC_seq ?_
      refine TC_reg ?_
      refine TL_q rfl rfl (QT_assign rfl rfl rfl) ?_
      refine TL_q rfl rfl (QT_assign rfl rfl rfl) ?_
      refine TL_nil ?_
      refine TX_then ?_
      refine TC_ret ?_
      refine TX_block_ret ?_
      refine TX_then_ret ?_
      exact TX_ret (.inl rfl) (res2 rfl rfl rfl) ⟨_, ⟨_, [], by rw [e6 (e4' h11) h20], fragErr (e6 (e4' h11) h20) (by decide), rfl⟩, (fun _ h => by first | exact h | exact h.tail | exact h.tail.tail | exact h.tail.tail.tail | exact h.tail.tail.tail.tail | exact h.tail.tail.tail.tail.tail | exact h.tail.tail.tail.tail.tail.tail | exact h.tail.tail.tail.tail.tail.tail.tail | exact h.tail.tail.tail.tail.tail.tail.tail.tail | exact h.tail.tail.tail.tail.tail.tail.tail.tail.tail | exact h.tail.tail.tail.tail.tail.tail.tail.tail.tail.tail | exact h.tail.tail.tail.tail.tail.tail.tail.tail.tail.tail.tail | exact h.tail.tail.tail.tail.tail.tail.tail.tail.tail.tail.tail.tail | exact h.tail.tail.tail.tail.tail.tail.tail.tail.tail.tail.tail.tail.tail)⟩
    ·
      refine TC_seq ?_
      refine TC_reg ?_
      refine TL_q rfl rfl (QT_move rfl rfl rfl) ?_
      refine TL_cq rfl rfl rfl rfl YtjdaglmkljbfkaaDoorF.cal_38 rfl (fun _ => contains_spec w0 _ _ n xs hs.tail hi) ?_
      refine TL_q rfl rfl (QT_assign rfl rfl rfl) ?_
      refine TL_nil ?_
      refine TX_then ?_
      first
        | refine TC_cond_dec rfl (fun h31 => ?_) (fun h31 => ?_)
        | refine TC_cond rfl (fun h31 => ?_) (fun h31 => ?_)
      ·
        refine TC_seq ?_
        refine TC_reg ?_
        refine TL_q rfl rfl (QT_assign rfl rfl rfl) ?_
        refine TL_q rfl rfl (QT_assign rfl rfl rfl) ?_
        refine TL_nil ?_
        refine TX_then ?_
        refine TC_ret ?_
        refine TX_block_ret ?_
        refine TX_then_ret ?_
        have e7 : errT L n xs = 7 := by unfold errT; rw [if_pos (e4' h11), if_neg (e6' h20), if_pos h31]
        exact TX_ret (.inl rfl) (res2 rfl rfl rfl) ⟨_, ⟨_, [], by rw [e7], fragErr e7 (by decide), rfl⟩, (fun _ h => by first | exact h | exact h.tail | exact h.tail.tail | exact h.tail.tail.tail | exact h.tail.tail.tail.tail | exact h.tail.tail.tail.tail.tail | exact h.tail.tail.tail.tail.tail.tail | exact h.tail.tail.tail.tail.tail.tail.tail | exact h.tail.tail.tail.tail.tail.tail.tail.tail | exact h.tail.tail.tail.tail.tail.tail.tail.tail.tail | exact h.tail.tail.tail.tail.tail.tail.tail.tail.tail.tail | exact h.tail.tail.tail.tail.tail.tail.tail.tail.tail.tail.tail | exact h.tail.tail.tail.tail.tail.tail.tail.tail.tail.tail.tail.tail | exact h.tail.tail.tail.tail.tail.tail.tail.tail.tail.tail.tail.tail.tail)⟩
      ·
        refine TC_skip ?_
        refine TX_block_normal ?_
        refine TX_then ?_
        refine TC_seq ?_
        have e0 : errT L n xs = 0 := by unfold errT; rw [if_pos (e4' h11), if_neg (e6' h20), if_neg (by rw [h31]; decide)]
        refine TC_reg ?_
        refine TL_q rfl rfl (QT_assign rfl rfl rfl) ?_
        refine TL_nil ?_
        refine TX_then ?_
        refine TC_cut (γ := Unit) (fun _ => [(1, true, .slice ad n cap), (6, true, .int .i64 ((ptsT L : Nat) : Int))]) (fun _ => St w0 ((b2, 27, L.cells) :: η)) ?_ ?_
        ·
          refine TC_seq ?_
          refine TC_reg ?_
          refine TL_q rfl rfl (QT_field rfl rfl YtjdaglmkljbfkaaDoorF.fld_27_0 rfl) ?_
          first
            | refine TL_q rfl rfl (QT_load 0 rfl rfl Tryd.underlying3 rfl rfl rfl (fun _ => rfl)) ?_
            | refine TL_q rfl rfl (QT_load 1 rfl rfl Tryd.underlying3 rfl rfl rfl (fun _ => rfl)) ?_
            | refine TL_q rfl rfl (QT_load 2 rfl rfl Tryd.underlying3 rfl rfl rfl (fun _ => rfl)) ?_
          refine TL_q rfl rfl (QT_eql rfl rfl rfl rfl) ?_
          refine TL_nil ?_
          refine TX_then ?_
          first
            | refine TC_cond_dec rfl (fun h36 => ?_) (fun h36 => ?_)
            | refine TC_cond rfl (fun h36 => ?_) (fun h36 => ?_)
          ·
            refine TC_reg ?_
            refine TL_q rfl rfl (QT_assign rfl rfl rfl) ?_
            refine TL_nil ?_
            exact TX_cut () ⟨rfl, slotI rfl (by unfold ptsT; rw [if_pos h36]; rfl), trivial⟩ (fun _ h => h)
          ·
            refine TC_skip ?_
            exact TX_cut () ⟨rfl, slotI rfl (by unfold ptsT; rw [if_neg h36]; rfl), trivial⟩ (fun _ h => h)
        rintro ⟨⟩
        have hbf := (errT_zero e0).2.2.2
        refine TC_seq ?_
        refine TC_reg ?_
        refine TL_q rfl rfl (QT_assign rfl rfl rfl) ?_
        refine TL_nil ?_
        refine TX_then ?_
        refine TC_seq ?_
        refine TC_reg ?_
        refine TL_e rfl rfl rfl (rfl) (ET_alloc rfl YtjdaglmkljbfkaaDoorF.zero_107) ?_
        rintro _ _ ⟨b8, rfl, rfl⟩
        refine TL_nil ?_
        refine TX_then ?_
        refine TC_seq ?_
        refine TC_seq ?_
        refine TC_reg ?_
        refine TL_q rfl rfl (QT_move rfl rfl rfl) ?_
        refine TL_q rfl rfl (QT_len rfl rfl Tryd.underlying31 rfl) ?_
        refine TL_q rfl rfl (QT_move rfl rfl rfl) ?_
        refine TL_nil ?_
        refine TX_then ?_
        refine TC_block ?_
        refine TC_loop (γ := { t : Nat × Value × Heap // t.1 ≤ n ∧ Frag 107 48 t.2.1 t.1 (tilesC (ptsT L) xs t.1) t.2.2 }) (fun t => [(6, true, .int .i64 ((ptsT L : Nat) : Int)), (7, true, t.1.2.1), (8, true, .pointer (some ⟨b8, 0, none⟩)), (37, true, .slice ad n cap), (38, true, .int .i64 (n : Int)), (39, true, .int .i64 (t.1.1 : Int))]) (fun t => St w0 ((b8, 107, tileB (ptsT L) xs t.1.1) :: (t.1.2.2 ++ η))) (fun t => n - t.1.1) ⟨(0, .slice none 0 0, []), Nat.zero_le _, Frag.nil _ _⟩ ⟨rfl, rfl, rfl, rfl, rfl, rfl, trivial⟩ (fun _ h => (St.swap h).tail) ?_
        rintro ⟨⟨i, fv, H⟩, hin, hF⟩
        dsimp only at hin hF ⊢
        refine TC_seq ?_
        refine TC_reg ?_
        refine TL_q rfl rfl (QT_lss rfl rfl rfl rfl) ?_
        refine TL_nil ?_
        refine TX_then ?_
        refine TC_seq ?_
        first
          | refine TC_cond_dec rfl (fun h40 => ?_) (fun h40 => ?_)
          | refine TC_cond rfl (fun h40 => ?_) (fun h40 => ?_)
        ·
          have hi' : i < n := by omega
          obtain ⟨hf1, hf2, hf3⟩ := flg_spec hi hi'
          obtain rfl := had (by omega)
          have hle : i * 49 + 49 ≤ xs.length := by rw [hl]; have : (i + 1) * 49 ≤ n * 49 := Nat.mul_le_mul_right _ hi'; omega
          have hei : Ints sheetK (elem xs 49 i) := hi.elem hi'
          have hti := tileB_ints hi (ptsT_or L) hbf i hin
          have hwi : Ints patchK (wholeC (ptsT L) (flg xs i) (elem xs 49 i) (tileB (ptsT L) xs i)) := tileB_ints hi (ptsT_or L) hbf (i + 1) hi'
          have hels : (elem xs 49 i).length = 49 := hei.length
          have htls : (tileB (ptsT L) xs i).length = 48 := hti.length
          have hwls : (wholeC (ptsT L) (flg xs i) (elem xs 49 i) (tileB (ptsT L) xs i)).length = 48 := hwi.length
          have hzs : Sz Tryd.prog 79 (elem xs 49 i).length := by rw [hels]; exact YtjdaglmkljbfkaaDoorF.sz_79
          have hzt : Sz Tryd.prog 107 (tileB (ptsT L) xs i).length := by rw [htls]; exact YtjdaglmkljbfkaaDoorF.sz_107
          have hzw : Sz Tryd.prog 107 (wholeC (ptsT L) (flg xs i) (elem xs 49 i) (tileB (ptsT L) xs i)).length := by rw [hwls]; exact YtjdaglmkljbfkaaDoorF.sz_107
          refine TC_skip ?_
          refine TX_then ?_
          refine TC_seq ?_
          refine TC_block ?_
          refine TC_seq ?_
          refine TC_reg ?_
          refine TL_q rfl rfl (QT_indexSlice (i) rfl rfl Tryd.underlying31 YtjdaglmkljbfkaaDoorF.sz_79 rfl rfl (rfl) (fun _ => hi')) ?_
          refine TL_q rfl rfl (QT_loadRAj (out := elem xs 49 i) (i * 49) rfl rfl Tryd.underlying79 rfl YtjdaglmkljbfkaaDoorF.sz_79 (hrd.mono fun _ h => h.tail.app_right) rfl (fun _ => hle) (fun _ => rfl)) ?_
          refine TL_e rfl rfl rfl (rfl) (ET_alloc rfl YtjdaglmkljbfkaaDoorF.zero_79) ?_
          rintro _ _ ⟨b10, rfl, rfl⟩
          refine TL_e0 rfl rfl (rfl) (ET_storeW (vs := elem xs 49 i) 0 rfl rfl rfl hzs rfl (List.all_eq_true.2 hei.oneCell) (by rw [hels]; rfl)) ?_
          rintro _ _ ⟨rfl, rfl⟩
          refine TL_nil ?_
          refine TX_then ?_
          refine TC_seq ?_
          refine TC_reg ?_
          refine TL_q rfl rfl (QT_loadW (cs := elem xs 49 i) 0 rfl rfl Tryd.underlying79 rfl rfl rfl hzs) ?_
          refine TL_q rfl rfl (QT_loadW 1 rfl rfl Tryd.underlying107 rfl rfl rfl hzt) ?_
          refine TL_q rfl rfl (QT_move rfl rfl rfl) ?_
          refine TL_e rfl rfl rfl (rfl) (ET_call rfl YtjdaglmkljbfkaaDoorF.cal_40 rfl (whole_spec w0 _ hE (elem xs 49 i) (tileB (ptsT L) xs i) (ptsT L) (flg xs i) hei hti (ptsT_or L) hf2 (hbf i hi'))) ?_
          rintro _ _ ⟨rfl, rfl⟩
          refine TL_e0 rfl rfl (rfl) (ET_storeW (vs := wholeC (ptsT L) (flg xs i) (elem xs 49 i) (tileB (ptsT L) xs i)) 1 rfl rfl rfl hzw rfl (List.all_eq_true.2 hwi.oneCell) (by rw [hwls, htls]; rfl)) ?_
          rintro _ _ ⟨rfl, rfl⟩
          refine TL_nil ?_
          refine TX_then ?_
          refine TC_reg ?_
          refine TL_q rfl rfl (QT_move rfl rfl rfl) ?_
          refine TL_q rfl rfl (QT_loadW (cs := wholeC (ptsT L) (flg xs i) (elem xs 49 i) (tileB (ptsT L) xs i)) 1 rfl rfl Tryd.underlying107 rfl rfl rfl hzw) ?_
          refine TL_e rfl rfl rfl (rfl) (ET_buildN [_] rfl Tryd.underlying43 YtjdaglmkljbfkaaDoorF.sz_107 YtjdaglmkljbfkaaDoorF.zero_107 rfl rfl rfl (fun v hv => by cases List.mem_singleton.1 hv; exact hwls)) ?_
          rintro _ _ ⟨b49, rfl, rfl⟩
          refine TL_e rfl rfl rfl (rfl) (ET_appendL (L := [_, _, _]) rfl Tryd.underlying43 el_Patch rfl rfl hF (fun _ h => h) (SlA.own (n := 1) (xs := wholeC (ptsT L) (flg xs i) (elem xs 49 i) (tileB (ptsT L) xs i)) 0 rfl (by rw [List.drop_zero, List.take_of_length_le (by simp [Value.cells, hwls])]; simp [Value.cells]) (by simp [Value.cells, hwls]) (by omega)) hwi.oneCell (by omega) (by omega)) ?_
          rintro fv2 _ ⟨H', hF', rfl⟩
          refine TL_q rfl rfl (QT_assign rfl rfl rfl) ?_
          refine TL_nil ?_
          refine TX_block_normal ?_
          refine TX_then ?_
          refine TC_reg ?_
          refine TL_q rfl rfl (QT_add rfl rfl rfl rfl (fun _ => ⟨by omega, by omega⟩)) ?_
          refine TL_q rfl rfl (QT_move rfl rfl rfl) ?_
          refine TL_nil ?_
          exact TX_round ⟨(i + 1, fv2, H'), hi', hF'⟩ (by show n - (i + 1) < n - i; omega) ⟨rfl, rfl, rfl, rfl, rfl, rfl, trivial⟩ (fun _ h => h.tail.tail)
        ·
          refine TC_exit ?_
          refine TX_then_exit ?_
          refine TX_then_exit ?_
          refine TX_block_here ?_
          refine TX_then ?_
          refine TC_seq ?_
          refine TC_reg ?_
          refine TL_q rfl rfl (QT_move rfl rfl rfl) ?_
          refine TL_A (St w0 (H ++ η)) (fun _ h => h.tail) ?_
          refine TL_e rfl rfl rfl (rfl) (ET_call rfl YtjdaglmkljbfkaaDoorF.cal_41 rfl (clip_spec w0 η H fv i _ hF)) ?_
          rintro cv _ ⟨hF2, rfl⟩
          refine TL_q rfl rfl (QT_assign rfl rfl rfl) ?_
          refine TL_q rfl rfl (QT_assign rfl rfl rfl) ?_
          refine TL_nil ?_
          refine TX_then ?_
          refine TC_ret ?_
          obtain rfl : i = n := by omega
          exact TX_ret (.inl rfl) (res2 rfl rfl rfl) ⟨_, ⟨cv, H, by rw [e0], by unfold cntT outT; rw [if_pos e0, if_pos e0]; exact hF2, rfl⟩, fun _ h => h⟩
end Go.Proofs.YtjdaglmkljbfkaaDoor.T12
namespace Go.Proofs.YtjdaglmkljbfkaaDoor.T12
open Go Go.Gx Go.RowKit Go.ChangeShapes Go.WideShapes Go.ChangeAt
set_option maxRecDepth 100000

def laid12 : List (String × DataW Unit) := [("gouache/layouts.sets", Rows.laid_gouache_layouts_sets), ("gouache/tiles.edges", Rows.laid_gouache_tiles_edges)]
theorem laid12_met {W : World} (h : laidMetH Tryd.prog laid12 W) : laidMet Tryd.prog laid12 W := by
  rw [MakeChecks.laidMetH_plain _ _ _ (by kernel_rfl)] at h
  exact h
theorem door12 (os : Os) (args : Array Value) : laidMetH Tryd.prog laid12 ((World.doorLaid Tryd.prog 400 os).forCall (fun _ _ => 0) ⟨#[], args, []⟩).memory :=
  laidMetH_of_parts3 (fuel := 8) (laidMet_of_run' 8 (by kernel_rfl) (by kernel_rfl)) (by kernel_rfl) (by kernel_rfl)
theorem sets12 {W : World} (h : laidMetH Tryd.prog laid12 W) : Sets W := sets_of (laid12_met h) (List.mem_cons_self ..)
def edgesK : List IntKind := List.replicate 24 .i64
theorem gEdges : Tryd.prog.globalNamed "gouache/tiles.edges" = some 1 := by kernel_rfl
theorem edges12 {W : World} (h : laidMetH Tryd.prog laid12 W) : Edges W :=
  laid_flat (name := "gouache/tiles.edges") (d := Rows.laid_gouache_tiles_edges) (ks := edgesK) (laid12_met h) (List.mem_cons_of_mem _ (List.mem_cons_self ..)) gEdges (by kernel_rfl) (show flat Tryd.prog 8 147 = some edgesK by kernel_rfl) (intsB_ok _ _ (by kernel_rfl)) (by kernel_rfl)
theorem flat_Sheet : flat Tryd.prog 8 79 = some sheetK := by kernel_rfl
end Go.Proofs.YtjdaglmkljbfkaaDoor.T12
namespace Go.Proofs.YtjdaglmkljbfkaaDoor
open Go Go.Gx Go.RowKit Go.ChangeShapes Go.WideShapes Go.ChangeAt
set_option maxRecDepth 100000

def laid09 : List (String × DataW Unit) := [("gouache/layouts.sets", Rows.laid_gouache_layouts_sets)]
theorem laid09_met {W : World} (h : laidMetH Tryd.prog laid09 W) : laidMet Tryd.prog laid09 W := by
  rw [MakeChecks.laidMetH_plain _ _ _ (by kernel_rfl)] at h
  exact h
theorem door09 (os : Os) (args : Array Value) : laidMetH Tryd.prog laid09 ((World.doorLaid Tryd.prog 400 os).forCall (fun _ _ => 0) ⟨#[], args, []⟩).memory :=
  laidMetH_of_parts3 (fuel := 8) (laidMet_of_run' 8 (by kernel_rfl) (by kernel_rfl)) (by kernel_rfl) (by kernel_rfl)
theorem sets09 {W : World} (h : laidMetH Tryd.prog laid09 W) : Sets W := sets_of (laid09_met h) (List.mem_cons_self ..)
theorem flat_ByteR : flat Tryd.prog 8 5 = some byteK := by kernel_rfl
theorem open_bytesR {H : Type} {enc : TypeId × Value → H} {W : World} {base b0 : Nat} {spare : Nat → Bool} {held : Bool} {r : Reach} {v : Value} {d : DataW H} {p : List MemPlace}
    (hv : Value.okWide Tryd.prog W r b0 28 v) (h : DataW.Trod enc Tryd.prog W base spare held 28 v d p) (hw : ∀ m ∈ d.weights Tryd.prog 28, m ≤ reachBytes) :
    ∃ bs : List Nat, SlA (St W []) v 1 bs.length (byV bs) ∧ (∀ c ∈ bs, c < 256) ∧ bs.length ≤ 140737488351232 := by
  obtain ⟨n, xs, hs, hi, hn⟩ := open_slw Tryd.underlying28 flat_ByteR (by decide) (show Tryd.prog.bytesOf 5 = 1 by kernel_rfl) hv h hw
  obtain ⟨bs, rfl, rfl, hb⟩ := byV_of hi
  exact ⟨bs, hs, hb, by omega⟩
theorem flat_RecR : flat Tryd.prog 8 67 = some recK := by kernel_rfl
theorem wfUR {k : IntKind} {z : Int} (hk : k = .u8 ∨ k = .u16 ∨ k = .u32) (h : (Lit.int k z).wf = true) : ∃ x : Nat, z = (x : Int) ∧ x < (if k = .u8 then 256 else if k = .u16 then 65536 else 4294967296) := by
  simp only [Lit.wf, Bool.and_eq_true, decide_eq_true_eq] at h
  rcases hk with rfl | rfl | rfl
  · have h1 : IntKind.u8.min = 0 := rfl
    have h2 : IntKind.u8.max = 255 := rfl
    exact ⟨z.toNat, by omega, by rw [if_pos rfl]; omega⟩
  · have h1 : IntKind.u16.min = 0 := rfl
    have h2 : IntKind.u16.max = 65535 := rfl
    exact ⟨z.toNat, by omega, by rw [if_neg (by decide), if_pos rfl]; omega⟩
  · have h1 : IntKind.u32.min = 0 := rfl
    have h2 : IntKind.u32.max = 4294967295 := rfl
    exact ⟨z.toNat, by omega, by rw [if_neg (by decide), if_neg (by decide)]; omega⟩
theorem ints_natR : ∀ {ks : List IntKind} {cs : List Value}, (∀ k ∈ ks, k = .u8 ∨ k = .u16 ∨ k = .u32) → Ints ks cs →
    ∃ xs : List Nat, xs.length = ks.length ∧ cs = List.zipWith (fun (k : IntKind) (x : Nat) => Value.int k (x : Int)) ks xs ∧ ∀ (p : Nat) (k : IntKind) (x : Nat), ks[p]? = some k → xs[p]? = some x → x < (if k = .u8 then 256 else if k = .u16 then 65536 else 4294967296)
  | [], cs, _, h => ⟨[], rfl, by rw [h.inv_nil]; rfl, fun p k x h => by simp at h⟩
  | k :: ks, cs, hk, h => by
    obtain ⟨z, cs', rfl, hw, hr⟩ := h.inv
    clear h
    obtain ⟨x, rfl, hx⟩ := wfUR (hk k (List.mem_cons_self ..)) hw
    obtain ⟨xs, h1, rfl, h3⟩ := ints_natR (fun q hq => hk q (List.mem_cons_of_mem _ hq)) hr
    refine ⟨x :: xs, by simp [h1], rfl, fun p => ?_⟩
    cases p with
    | zero => intro k' x' e1 e2; cases e1; cases e2; exact hx
    | succ p => intro k' x' e1 e2; exact h3 p k' x' e1 e2
theorem rec_ofR {cs : List Value} (h : Ints recK cs) : ∃ r, RcF r ∧ cs = rvV r := by
  obtain ⟨xs, h1, rfl, h3⟩ := ints_natR (ks := recK) (by decide) h
  rw [recK_len] at h1
  refine ⟨xs, ⟨h1, fun {p x} hx => ?_⟩, rfl⟩
  have hp : p < 7 := by rw [← h1]; exact (List.getElem?_eq_some_iff.1 hx).1
  have := h3 p _ x (recK_at hp) hx
  unfold rkM
  unfold rkK at this
  by_cases e0 : p = 0
  · rw [if_pos e0] at this ⊢; exact this
  · rw [if_neg e0] at this ⊢
    by_cases e1 : p < 3
    · rw [if_pos e1] at this ⊢; exact this
    · rw [if_neg e1] at this ⊢; exact this
theorem recs_ofR : ∀ {n : Nat} {xs : List Value}, Ints (rep n recK) xs → ∃ rs : List (List Nat), rs.length = n ∧ xs = flatR rs ∧ ∀ r ∈ rs, RcF r
  | 0, xs, h => by
    obtain rfl := Ints.inv_nil (show Ints [] xs from h)
    exact ⟨[], rfl, rfl, fun _ h => absurd h List.not_mem_nil⟩
  | n + 1, xs, h => by
    have e : rep (n + 1) recK = recK ++ rep n recK := by simp [rep, List.replicate_succ]
    rw [e] at h
    obtain ⟨h1, h2⟩ := h.split
    obtain ⟨y, hy, e1⟩ := rec_ofR h1
    obtain ⟨ys, hl, e2, hys⟩ := recs_ofR h2
    refine ⟨y :: ys, by simp [hl], ?_, fun z hz => ?_⟩
    · rw [flatR_cons, ← e1, ← e2, List.take_append_drop]
    · rcases List.mem_cons.1 hz with rfl | hz
      · exact hy
      · exact hys z hz
theorem open_recsR {w0 : Base} {sv : Value} {n : Nat} {xs : List Value} (hs : SlA (St w0 []) sv 7 n xs) (hi : Ints (rep n recK) xs) : ∃ rs, rs.length = n ∧ SlA (St w0 []) sv 7 rs.length (flatR rs) ∧ ∀ r ∈ rs, RcF r := by
  obtain ⟨rs, hl, rfl, ha⟩ := recs_ofR hi
  exact ⟨rs, hl, by rw [hl]; exact hs, ha⟩
end Go.Proofs.YtjdaglmkljbfkaaDoor
namespace Go.Gx
open Go Go.RowKit
variable {P : Program} {n : Nat} {ops : Array Oper} {Q : Exit → Act → World → Prop} {σ : Slots} {A : World → Prop}
/-- Three effects may come up: all ways are walked. -/
theorem TV_three {i j k : Nat} {r : List (Nat × Nat)} {V : Held} (r1 r2 r3 : List (Nat × Nat))
    (h : ((Region.ready .any ops (listedOf ops.size ((i, 2) :: r)) == [i, j, k]) && (chk ops r1 && (chk ops r2 && chk ops r3)) && ((r1.length == r.length) && ((r2.length == r.length) && (r3.length == r.length))) &&
      (sameB ((listedOf ops.size ((i, 2) :: r)).setIfInBounds i true) (listedOf ops.size r1) && (sameB ((listedOf ops.size ((i, 2) :: r)).setIfInBounds j true) (listedOf ops.size r2) && sameB ((listedOf ops.size ((i, 2) :: r)).setIfInBounds k true) (listedOf ops.size r3)))) = true)
    (k1 : TVB P n ops Q i r1 V σ A) (k2 : TVB P n ops Q j r2 V σ A) (k3 : TVB P n ops Q k r3 V σ A) : TV P n ops Q ((i, 2) :: r) V σ A := by
  intro hs hnp _ a w V' hf hA hm
  simp only [Bool.and_eq_true, beq_iff_eq, sameB] at h
  obtain ⟨⟨⟨hrdy, hc1, hc2, hc3⟩, hl1, hl2, hl3⟩, hs1, hs2, hs3⟩ := h
  refine ⟨fun h => (by rw [hrdy] at h; cases h), fun m hmem => ?_⟩
  rw [hrdy] at hmem
  have hm2 : m = i ∨ m = j ∨ m = k := by simpa using hmem
  rcases hm2 with rfl | rfl | rfl
  · have := k1 hs hnp hc1 a w V' hf hA hm
    rw [hl1] at this
    rw [Array.ext' hs1]
    exact this
  · have := k2 hs hnp hc2 a w V' hf hA hm
    rw [hl2] at this
    rw [Array.ext' hs2]
    exact this
  · have := k3 hs hnp hc3 a w V' hf hA hm
    rw [hl3] at this
    rw [Array.ext' hs3]
    exact this
/-- All ways through a piece of code come together. -/
theorem TC_join {c : Code} {B : Type} (σ' : B → Slots) (A' : B → World → Prop) (h : ∀ β, TX n Q .normal (σ' β) (A' β)) (k : TC P n c (fun e a w => e = .normal ∧ ∃ β, Fr n (σ' β) a ∧ A' β w) σ A) : TC P n c Q σ A :=
  fun a w hf hA => wp_mono (k a w hf hA) fun e a w ⟨he, β, h1, h2⟩ => he ▸ h β a w h1 h2
theorem TX_joined {B : Type} {σ' : B → Slots} {A' : B → World → Prop} (β : B) (hs : Sub (σ' β) σ) (hA : ∀ w, A w → A' β w) : TX n (fun e a w => e = .normal ∧ ∃ β, Fr n (σ' β) a ∧ A' β w) .normal σ A :=
  fun _ w hf h => ⟨rfl, β, hf.weaken hs.spec, hA w h⟩
end Go.Gx
namespace Go.Proofs.YtjdaglmkljbfkaaDoor
open Go Go.Gx Go.RowKit
set_option maxRecDepth 100000
def rowA : Value := .agg #[.func (.func 44) #[] #[], .func (.func 45) #[] #[], .func (.func 48) #[] #[]]
def rowB : Value := .agg #[.func (.func 50) #[] #[], .func (.func 51) #[] #[], .func (.func 54) #[] #[]]
def waysM : List MapEntry := [{ key := .int .i64 4, val := rowA, born := 0 }, { key := .int .i64 5, val := rowA, born := 1 }, { key := .int .i64 6, val := rowB, born := 2 }, { key := .int .i64 7, val := rowB, born := 3 }]
theorem byType_spec (w0 : Base) (η : Heap) : CallsT Tryd.prog 21 [] (St w0 η) fun v A' => ∃ m, v = .map (some m) ∧ A' = StM w0 η m waysM 4 := by
  refine CallsT.body Tryd.func21 rfl rfl ?_
  simp only [Tryd.ntmps21, slotsOf, Nat.reduceAdd]
  refine TC_seq ?_
  refine TC_reg ?_
  refine TL_q rfl rfl (QT_assign rfl rfl rfl) ?_
  refine TL_nil ?_
  refine TX_then ?_
  refine TC_seq ?_
  refine TC_reg ?_
  refine TL_q rfl rfl (QT_build rfl rfl YtjdaglmkljbfkaaDoorF.zero_72 YtjdaglmkljbfkaaDoorF.pl_72 rfl rfl rfl) ?_
  refine TL_e rfl rfl rfl (rfl) (ET_alloc rfl YtjdaglmkljbfkaaDoorF.zero_72) ?_
  rintro _ _ ⟨b1, rfl, rfl⟩
  first
    | refine TL_e0 rfl rfl (rfl) (ET_storeW 0 rfl rfl rfl YtjdaglmkljbfkaaDoorF.sz_72 rfl rfl rfl) ?_
    | refine TL_e0 rfl rfl (rfl) (ET_storeW 1 rfl rfl rfl YtjdaglmkljbfkaaDoorF.sz_72 rfl rfl rfl) ?_
    | refine TL_e0 rfl rfl (rfl) (ET_storeW 2 rfl rfl rfl YtjdaglmkljbfkaaDoorF.sz_72 rfl rfl rfl) ?_
    | refine TL_e0 rfl rfl (rfl) (ET_store 0 rfl rfl rfl rfl YtjdaglmkljbfkaaDoorF.sz_72 rfl rfl rfl) ?_
    | refine TL_e0 rfl rfl (rfl) (ET_store 1 rfl rfl rfl rfl YtjdaglmkljbfkaaDoorF.sz_72 rfl rfl rfl) ?_
    | refine TL_e0 rfl rfl (rfl) (ET_store 2 rfl rfl rfl rfl YtjdaglmkljbfkaaDoorF.sz_72 rfl rfl rfl) ?_
  rintro _ _ ⟨rfl, rfl⟩
  refine TL_nil ?_
  refine TX_then ?_
  refine TC_seq ?_
  refine TC_reg ?_
  refine TL_q rfl rfl (QT_build rfl rfl YtjdaglmkljbfkaaDoorF.zero_72 YtjdaglmkljbfkaaDoorF.pl_72 rfl rfl rfl) ?_
  refine TL_e rfl rfl rfl (rfl) (ET_alloc rfl YtjdaglmkljbfkaaDoorF.zero_72) ?_
  rintro _ _ ⟨b2, rfl, rfl⟩
  first
    | refine TL_e0 rfl rfl (rfl) (ET_storeW 0 rfl rfl rfl YtjdaglmkljbfkaaDoorF.sz_72 rfl rfl rfl) ?_
    | refine TL_e0 rfl rfl (rfl) (ET_storeW 1 rfl rfl rfl YtjdaglmkljbfkaaDoorF.sz_72 rfl rfl rfl) ?_
    | refine TL_e0 rfl rfl (rfl) (ET_storeW 2 rfl rfl rfl YtjdaglmkljbfkaaDoorF.sz_72 rfl rfl rfl) ?_
    | refine TL_e0 rfl rfl (rfl) (ET_store 0 rfl rfl rfl rfl YtjdaglmkljbfkaaDoorF.sz_72 rfl rfl rfl) ?_
    | refine TL_e0 rfl rfl (rfl) (ET_store 1 rfl rfl rfl rfl YtjdaglmkljbfkaaDoorF.sz_72 rfl rfl rfl) ?_
    | refine TL_e0 rfl rfl (rfl) (ET_store 2 rfl rfl rfl rfl YtjdaglmkljbfkaaDoorF.sz_72 rfl rfl rfl) ?_
  rintro _ _ ⟨rfl, rfl⟩
  refine TL_nil ?_
  refine TX_then ?_
  refine TC_seq ?_
  refine TC_A (St w0 ((b2, 72, rowB.cells.toList) :: (b1, 72, rowA.cells.toList) :: η)) (fun _ h => h) ?_
  refine TC_reg ?_
  refine TL_e rfl rfl rfl (rfl) (ET_makeMap rfl) ?_
  rintro _ _ ⟨m5, rfl, rfl⟩
  refine TL_q rfl rfl (QT_under (QT_loadW (cs := rowA.cells.toList) 1 rfl rfl Tryd.underlying72 rfl rfl rfl YtjdaglmkljbfkaaDoorF.sz_72) (fun w h => h.1)) ?_
  refine TL_e0 rfl rfl (rfl) (ET_insert rfl rfl rfl rfl Tryd.underlying73 Tryd.underlying3 rfl rfl) ?_
  rintro _ _ ⟨rfl, rfl⟩
  refine TL_q rfl rfl (QT_under (QT_loadW (cs := rowA.cells.toList) 1 rfl rfl Tryd.underlying72 rfl rfl rfl YtjdaglmkljbfkaaDoorF.sz_72) (fun w h => h.1)) ?_
  refine TL_e0 rfl rfl (rfl) (ET_insert rfl rfl rfl rfl Tryd.underlying73 Tryd.underlying3 rfl rfl) ?_
  rintro _ _ ⟨rfl, rfl⟩
  refine TL_q rfl rfl (QT_under (QT_loadW (cs := rowB.cells.toList) 0 rfl rfl Tryd.underlying72 rfl rfl rfl YtjdaglmkljbfkaaDoorF.sz_72) (fun w h => h.1)) ?_
  refine TL_e0 rfl rfl (rfl) (ET_insert rfl rfl rfl rfl Tryd.underlying73 Tryd.underlying3 rfl rfl) ?_
  rintro _ _ ⟨rfl, rfl⟩
  refine TL_q rfl rfl (QT_under (QT_loadW (cs := rowB.cells.toList) 0 rfl rfl Tryd.underlying72 rfl rfl rfl YtjdaglmkljbfkaaDoorF.sz_72) (fun w h => h.1)) ?_
  refine TL_e0 rfl rfl (rfl) (ET_insert rfl rfl rfl rfl Tryd.underlying73 Tryd.underlying3 rfl rfl) ?_
  rintro _ _ ⟨rfl, rfl⟩
  refine TL_q rfl rfl (QT_move rfl rfl rfl) ?_
  refine TL_q rfl rfl (QT_assign rfl rfl rfl) ?_
  refine TL_nil ?_
  refine TX_then ?_
  refine TC_ret ?_
  exact TX_ret (.inl rfl) (res1 rfl rfl) ⟨_, ⟨m5, rfl, rfl⟩, fun w h => ⟨h.1.tail.tail, h.2.1, h.2.2⟩⟩
end Go.Proofs.YtjdaglmkljbfkaaDoor
namespace Go.Proofs.YtjdaglmkljbfkaaDoor
open Go Go.Gx Go.RowKit
set_option maxRecDepth 100000
theorem callsT_wk {P : Program} {f : FuncId} {vs : List Value} {A A' : World → Prop} {R : Value → (World → Prop) → Prop} (h : CallsT P f vs A R) (hA : ∀ w, A' w → A w) : CallsT P f vs A' R := fun w hw => h w (hA w hw)
theorem noSheets_spec (w0 : Base) (η : Heap) (ra sa : Option Addr) (nr ns rc sc : Nat) :
    CallsT Tryd.prog 44 [.agg #[.slice ra nr rc, .slice sa ns sc]] (St w0 η) fun v A' => v = .bool (decide ((ns : Int) = 0)) ∧ A' = St w0 η := by
  refine CallsT.body Tryd.func44 rfl rfl ?_
  simp only [Tryd.ntmps44, slotsOf, Nat.reduceAdd]
  refine TC_seq ?_
  refine TC_reg ?_
  refine TL_e rfl rfl rfl (rfl) (ET_box rfl rfl) ?_
  rintro _ _ ⟨b1, rfl, rfl⟩
  refine TL_q rfl rfl (QT_assign rfl rfl rfl) ?_
  refine TL_nil ?_
  refine TX_then ?_
  refine TC_seq ?_
  refine TC_reg ?_
  refine TL_q rfl rfl (QT_field rfl rfl YtjdaglmkljbfkaaDoorF.fld_33_1 rfl) ?_
  refine TL_q rfl rfl (QT_load (v := .slice sa ns sc) 0 rfl rfl Tryd.underlying31 rfl rfl rfl (fun _ => rfl)) ?_
  refine TL_q rfl rfl (QT_len rfl rfl Tryd.underlying31 rfl) ?_
  refine TL_q rfl rfl (QT_eql rfl rfl rfl rfl) ?_
  refine TL_q rfl rfl (QT_assign rfl rfl rfl) ?_
  refine TL_nil ?_
  refine TX_then ?_
  refine TC_ret ?_
  exact TX_ret (.inl rfl) (res1 rfl rfl) ⟨_, ⟨rfl, rfl⟩, fun _ h => h.tail⟩
theorem noRecs_spec (w0 : Base) (η : Heap) (ra sa : Option Addr) (nr ns rc sc : Nat) :
    CallsT Tryd.prog 50 [.agg #[.slice ra nr rc, .slice sa ns sc]] (St w0 η) fun v A' => v = .bool (decide ((nr : Int) = 0)) ∧ A' = St w0 η := by
  refine CallsT.body Tryd.func50 rfl rfl ?_
  simp only [Tryd.ntmps50, slotsOf, Nat.reduceAdd]
  refine TC_seq ?_
  refine TC_reg ?_
  refine TL_e rfl rfl rfl (rfl) (ET_box rfl rfl) ?_
  rintro _ _ ⟨b1, rfl, rfl⟩
  refine TL_q rfl rfl (QT_assign rfl rfl rfl) ?_
  refine TL_nil ?_
  refine TX_then ?_
  refine TC_seq ?_
  refine TC_reg ?_
  refine TL_q rfl rfl (QT_field rfl rfl YtjdaglmkljbfkaaDoorF.fld_33_0 rfl) ?_
  refine TL_q rfl rfl (QT_load (v := .slice ra nr rc) 0 rfl rfl Tryd.underlying30 rfl rfl rfl (fun _ => rfl)) ?_
  refine TL_q rfl rfl (QT_len rfl rfl Tryd.underlying30 rfl) ?_
  refine TL_q rfl rfl (QT_eql rfl rfl rfl rfl) ?_
  refine TL_q rfl rfl (QT_assign rfl rfl rfl) ?_
  refine TL_nil ?_
  refine TX_then ?_
  refine TC_ret ?_
  exact TX_ret (.inl rfl) (res1 rfl rfl) ⟨_, ⟨rfl, rfl⟩, fun _ h => h.tail⟩
theorem may_bad (w0 : Base) (η : Heap) (hG : Sets w0) (L : Lay) (hk : okB L = false) (ra sa : Option Addr) (nr ns rc sc : Nat) :
    CallsT Tryd.prog 22 [L.val, .agg #[.slice ra nr rc, .slice sa ns sc]] (St w0 η) fun v A' => v = .int .i64 4 ∧ A' = St w0 η := by
  have he : errOf L = 4 := by unfold errOf; rw [hk]; rfl
  refine CallsT.body Tryd.func22 rfl rfl ?_
  simp only [Tryd.ntmps22, slotsOf, Nat.reduceAdd]
  refine TC_seq ?_
  refine TC_reg ?_
  refine TL_e rfl rfl rfl (rfl) (ET_box rfl rfl) ?_
  rintro _ _ ⟨b2, rfl, rfl⟩
  refine TL_e rfl rfl rfl (rfl) (ET_box rfl rfl) ?_
  rintro _ _ ⟨b3, rfl, rfl⟩
  refine TL_q rfl rfl (QT_assign rfl rfl rfl) ?_
  refine TL_nil ?_
  refine TX_then ?_
  refine TC_seq ?_
  refine TC_block ?_
  refine TC_seq ?_
  refine TC_A (St w0 ((b3, 33, [.slice ra nr rc, .slice sa ns sc]) :: (b2, 27, L.cells) :: η)) (fun _ h => h) ?_
  refine TC_reg ?_
  first
    | refine TL_q rfl rfl (QT_loadW 0 rfl rfl Tryd.underlying27 rfl rfl rfl YtjdaglmkljbfkaaDoorF.sz_27) ?_
    | refine TL_q rfl rfl (QT_loadW 1 rfl rfl Tryd.underlying27 rfl rfl rfl YtjdaglmkljbfkaaDoorF.sz_27) ?_
    | refine TL_q rfl rfl (QT_loadW 2 rfl rfl Tryd.underlying27 rfl rfl rfl YtjdaglmkljbfkaaDoorF.sz_27) ?_
    | refine TL_q rfl rfl (QT_loadA 0 rfl rfl Tryd.underlying27 rfl rfl rfl YtjdaglmkljbfkaaDoorF.sz_27 (fun _ => rfl)) ?_
    | refine TL_q rfl rfl (QT_loadA 1 rfl rfl Tryd.underlying27 rfl rfl rfl YtjdaglmkljbfkaaDoorF.sz_27 (fun _ => rfl)) ?_
    | refine TL_q rfl rfl (QT_loadA 2 rfl rfl Tryd.underlying27 rfl rfl rfl YtjdaglmkljbfkaaDoorF.sz_27 (fun _ => rfl)) ?_
  refine TL_cq rfl rfl rfl rfl YtjdaglmkljbfkaaDoorF.cal_10 rfl (fun _ => check_spec w0 _ hG L) ?_
  refine TL_q rfl rfl (QT_neq rfl rfl rfl rfl) ?_
  refine TL_q rfl rfl (QT_assign rfl rfl rfl) ?_
  refine TL_nil ?_
  refine TX_then ?_
  refine TC_cond rfl (fun _ => ?_) (fun h => absurd (h.symm.trans ((show decide (errOf L ≠ 0) = true by rw [he]; decide))) (by decide))
  refine TC_seq ?_
  refine TC_reg ?_
  refine TL_q rfl rfl (QT_assign rfl rfl rfl) ?_
  refine TL_nil ?_
  refine TX_then ?_
  refine TC_ret ?_
  refine TX_block_ret ?_
  refine TX_then_ret ?_
  exact TX_ret (.inl rfl) (res1 rfl rfl) ⟨_, ⟨rfl, rfl⟩, fun _ h => h.tail.tail⟩
theorem ways_A {L : Lay} (h : (L.ty = 4 ∨ L.ty = 5)) : ∃ j, Instr.findNow (.int .i64) (.int .i64 L.ty) waysM 0 = some (some (j, rowA)) := by
  rcases h with h | h <;> rw [h] <;> exact ⟨_, rfl⟩
theorem may_A (w0 : Base) (η : Heap) (hG : Sets w0) (L : Lay) (hk : okB L = true) (hty : (L.ty = 4 ∨ L.ty = 5)) (ra sa : Option Addr) (nr ns rc sc : Nat) :
    CallsT Tryd.prog 22 [L.val, .agg #[.slice ra nr rc, .slice sa ns sc]] (St w0 η) fun v A' => v = .int .i64 (if ns = 0 then 0 else 1) ∧ A' = St w0 η := by
  have he : errOf L = 0 := by unfold errOf; rw [if_pos hk]
  obtain ⟨j, hj⟩ := ways_A hty
  refine CallsT.body Tryd.func22 rfl rfl ?_
  simp only [Tryd.ntmps22, slotsOf, Nat.reduceAdd]
  refine TC_seq ?_
  refine TC_reg ?_
  refine TL_e rfl rfl rfl (rfl) (ET_box rfl rfl) ?_
  rintro _ _ ⟨b2, rfl, rfl⟩
  refine TL_e rfl rfl rfl (rfl) (ET_box rfl rfl) ?_
  rintro _ _ ⟨b3, rfl, rfl⟩
  refine TL_q rfl rfl (QT_assign rfl rfl rfl) ?_
  refine TL_nil ?_
  refine TX_then ?_
  refine TC_seq ?_
  refine TC_block ?_
  refine TC_seq ?_
  refine TC_A (St w0 ((b3, 33, [.slice ra nr rc, .slice sa ns sc]) :: (b2, 27, L.cells) :: η)) (fun _ h => h) ?_
  refine TC_reg ?_
  first
    | refine TL_q rfl rfl (QT_loadW 0 rfl rfl Tryd.underlying27 rfl rfl rfl YtjdaglmkljbfkaaDoorF.sz_27) ?_
    | refine TL_q rfl rfl (QT_loadW 1 rfl rfl Tryd.underlying27 rfl rfl rfl YtjdaglmkljbfkaaDoorF.sz_27) ?_
    | refine TL_q rfl rfl (QT_loadW 2 rfl rfl Tryd.underlying27 rfl rfl rfl YtjdaglmkljbfkaaDoorF.sz_27) ?_
    | refine TL_q rfl rfl (QT_loadA 0 rfl rfl Tryd.underlying27 rfl rfl rfl YtjdaglmkljbfkaaDoorF.sz_27 (fun _ => rfl)) ?_
    | refine TL_q rfl rfl (QT_loadA 1 rfl rfl Tryd.underlying27 rfl rfl rfl YtjdaglmkljbfkaaDoorF.sz_27 (fun _ => rfl)) ?_
    | refine TL_q rfl rfl (QT_loadA 2 rfl rfl Tryd.underlying27 rfl rfl rfl YtjdaglmkljbfkaaDoorF.sz_27 (fun _ => rfl)) ?_
  refine TL_cq rfl rfl rfl rfl YtjdaglmkljbfkaaDoorF.cal_10 rfl (fun _ => check_spec w0 _ hG L) ?_
  refine TL_q rfl rfl (QT_neq rfl rfl rfl rfl) ?_
  refine TL_q rfl rfl (QT_assign rfl rfl rfl) ?_
  refine TL_nil ?_
  refine TX_then ?_
  refine TC_cond rfl (fun h => absurd (h.symm.trans ((show decide (errOf L ≠ 0) = false by rw [he]; decide))) (by decide)) (fun _ => ?_)
  refine TC_seq ?_
  refine TC_draw [(1, 0), (2, 0), (5, 0), (0, 1), (3, 0), (4, 0), (6, 1), (7, 0), (8, 0)] YtjdaglmkljbfkaaDoorF.mixed (by kernel_rfl) (St.calm _ _) ?_
  refine TV_q rfl rfl rfl (fun _ => QT_field rfl rfl YtjdaglmkljbfkaaDoorF.fld_27_0 rfl) ?_
  first
    | refine TV_ql rfl rfl rfl (QT_load (v := .int .i64 L.ty) 1 rfl rfl Tryd.underlying3 rfl rfl rfl (fun _ => rfl)) ?_
    | refine TV_ql rfl rfl rfl (QT_under (QT_load (w0 := w0) (η := (b3, 33, [.slice ra nr rc, .slice sa ns sc]) :: (b2, 27, L.cells) :: η) (v := .int .i64 L.ty) 1 rfl rfl Tryd.underlying3 rfl rfl rfl (fun _ => rfl)) (fun w h => h.1)) ?_
  first
    | refine TV_ql rfl rfl rfl (QT_loadW (cs := [.slice ra nr rc, .slice sa ns sc]) 0 rfl rfl Tryd.underlying33 rfl rfl rfl YtjdaglmkljbfkaaDoorF.sz_33) ?_
    | refine TV_ql rfl rfl rfl (QT_under (QT_loadW (w0 := w0) (η := (b3, 33, [.slice ra nr rc, .slice sa ns sc]) :: (b2, 27, L.cells) :: η) (cs := [.slice ra nr rc, .slice sa ns sc]) 0 rfl rfl Tryd.underlying33 rfl rfl rfl YtjdaglmkljbfkaaDoorF.sz_33) (fun w h => h.1)) ?_
  refine TV_e rfl rfl rfl rfl (rfl) (ET_call rfl YtjdaglmkljbfkaaDoorF.cal_21 rfl (byType_spec w0 _)) ?_
  rintro _ _ ⟨m10, rfl, rfl⟩
  refine ⟨_, .keep (by kernel_rfl) rfl (by first | exact QT_loadW (cs := [.slice ra nr rc, .slice sa ns sc]) 0 rfl rfl Tryd.underlying33 rfl rfl rfl YtjdaglmkljbfkaaDoorF.sz_33 | exact QT_under (QT_loadW (w0 := w0) (η := (b3, 33, [.slice ra nr rc, .slice sa ns sc]) :: (b2, 27, L.cells) :: η) (cs := [.slice ra nr rc, .slice sa ns sc]) 0 rfl rfl Tryd.underlying33 rfl rfl rfl YtjdaglmkljbfkaaDoorF.sz_33) (fun w h => h.1)) (.keep (by kernel_rfl) rfl (by first | exact QT_load (v := .int .i64 L.ty) 1 rfl rfl Tryd.underlying3 rfl rfl rfl (fun _ => rfl) | exact QT_under (QT_load (w0 := w0) (η := (b3, 33, [.slice ra nr rc, .slice sa ns sc]) :: (b2, 27, L.cells) :: η) (v := .int .i64 L.ty) 1 rfl rfl Tryd.underlying3 rfl rfl rfl (fun _ => rfl)) (fun w h => h.1)) (.nil)), ?_⟩
  refine TV_ql rfl rfl rfl ((by exact QT_lookup rfl rfl rfl rfl Tryd.underlying73 Tryd.underlying3 (show MapKept.IsKey (.int .i64) (.int .i64 L.ty) from rfl) hj)) ?_
  refine TV_q rfl rfl rfl (fun _ => QT_fieldv rfl rfl Tryd.underlying72 rfl Tryd.underlying70 rfl rfl (fun _ => rfl)) ?_
  refine TV_e rfl rfl rfl rfl (rfl) (ET_goes (Goes.value rfl rfl YtjdaglmkljbfkaaDoorF.cal_44 rfl) (callsT_map fun B => noSheets_spec B ((b3, 33, [.slice ra nr rc, .slice sa ns sc]) :: (b2, 27, L.cells) :: η) ra sa nr ns rc sc)) ?_
  rintro _ _ ⟨rfl, rfl⟩
  refine ⟨_, .keep (by kernel_rfl) rfl (by first | exact (by exact QT_lookup rfl rfl rfl rfl Tryd.underlying73 Tryd.underlying3 (show MapKept.IsKey (.int .i64) (.int .i64 L.ty) from rfl) hj)) (.drop (by kernel_rfl) (.keep (by kernel_rfl) rfl (by first | exact QT_load (v := .int .i64 L.ty) 1 rfl rfl Tryd.underlying3 rfl rfl rfl (fun _ => rfl) | exact QT_under (QT_load (w0 := w0) (η := (b3, 33, [.slice ra nr rc, .slice sa ns sc]) :: (b2, 27, L.cells) :: η) (v := .int .i64 L.ty) 1 rfl rfl Tryd.underlying3 rfl rfl rfl (fun _ => rfl)) (fun w h => h.1)) (.nil))), ?_⟩
  refine TV_q rfl rfl rfl (fun _ => QT_not rfl rfl rfl) ?_
  refine TV_q rfl rfl rfl (fun _ => QT_assign rfl rfl rfl) ?_
  refine TV_end ?_
  refine TX_then ?_
  first
    | refine TC_cond_dec rfl (fun h9 => ?_) (fun h9 => ?_)
    | refine TC_cond rfl (fun h9 => ?_) (fun h9 => ?_)
  ·
    refine TC_seq ?_
    refine TC_reg ?_
    refine TL_q rfl rfl (QT_assign rfl rfl rfl) ?_
    refine TL_nil ?_
    refine TX_then ?_
    refine TC_ret ?_
    refine TX_block_ret ?_
    refine TX_then_ret ?_
    exact TX_ret (.inl rfl) (res1 rfl rfl) ⟨_, ⟨by rw [if_neg (by simp at h9; omega)], rfl⟩, fun _ h => h.1.tail.tail⟩
  ·
    refine TC_skip ?_
    refine TX_block_normal ?_
    refine TX_then ?_
    refine TC_seq ?_
    refine TC_reg ?_
    refine TL_q rfl rfl (QT_assign rfl rfl rfl) ?_
    refine TL_nil ?_
    refine TX_then ?_
    refine TC_ret ?_
    exact TX_ret (.inl rfl) (res1 rfl rfl) ⟨_, ⟨by rw [if_pos (by simp at h9; omega)], rfl⟩, fun _ h => h.1.tail.tail⟩
theorem ways_B {L : Lay} (h : (L.ty = 6 ∨ L.ty = 7)) : ∃ j, Instr.findNow (.int .i64) (.int .i64 L.ty) waysM 0 = some (some (j, rowB)) := by
  rcases h with h | h <;> rw [h] <;> exact ⟨_, rfl⟩
theorem may_B (w0 : Base) (η : Heap) (hG : Sets w0) (L : Lay) (hk : okB L = true) (hty : (L.ty = 6 ∨ L.ty = 7)) (ra sa : Option Addr) (nr ns rc sc : Nat) :
    CallsT Tryd.prog 22 [L.val, .agg #[.slice ra nr rc, .slice sa ns sc]] (St w0 η) fun v A' => v = .int .i64 (if nr = 0 then 0 else 1) ∧ A' = St w0 η := by
  have he : errOf L = 0 := by unfold errOf; rw [if_pos hk]
  obtain ⟨j, hj⟩ := ways_B hty
  refine CallsT.body Tryd.func22 rfl rfl ?_
  simp only [Tryd.ntmps22, slotsOf, Nat.reduceAdd]
  refine TC_seq ?_
  refine TC_reg ?_
  refine TL_e rfl rfl rfl (rfl) (ET_box rfl rfl) ?_
  rintro _ _ ⟨b2, rfl, rfl⟩
  refine TL_e rfl rfl rfl (rfl) (ET_box rfl rfl) ?_
  rintro _ _ ⟨b3, rfl, rfl⟩
  refine TL_q rfl rfl (QT_assign rfl rfl rfl) ?_
  refine TL_nil ?_
  refine TX_then ?_
  refine TC_seq ?_
  refine TC_block ?_
  refine TC_seq ?_
  refine TC_A (St w0 ((b3, 33, [.slice ra nr rc, .slice sa ns sc]) :: (b2, 27, L.cells) :: η)) (fun _ h => h) ?_
  refine TC_reg ?_
  first
    | refine TL_q rfl rfl (QT_loadW 0 rfl rfl Tryd.underlying27 rfl rfl rfl YtjdaglmkljbfkaaDoorF.sz_27) ?_
    | refine TL_q rfl rfl (QT_loadW 1 rfl rfl Tryd.underlying27 rfl rfl rfl YtjdaglmkljbfkaaDoorF.sz_27) ?_
    | refine TL_q rfl rfl (QT_loadW 2 rfl rfl Tryd.underlying27 rfl rfl rfl YtjdaglmkljbfkaaDoorF.sz_27) ?_
    | refine TL_q rfl rfl (QT_loadA 0 rfl rfl Tryd.underlying27 rfl rfl rfl YtjdaglmkljbfkaaDoorF.sz_27 (fun _ => rfl)) ?_
    | refine TL_q rfl rfl (QT_loadA 1 rfl rfl Tryd.underlying27 rfl rfl rfl YtjdaglmkljbfkaaDoorF.sz_27 (fun _ => rfl)) ?_
    | refine TL_q rfl rfl (QT_loadA 2 rfl rfl Tryd.underlying27 rfl rfl rfl YtjdaglmkljbfkaaDoorF.sz_27 (fun _ => rfl)) ?_
  refine TL_cq rfl rfl rfl rfl YtjdaglmkljbfkaaDoorF.cal_10 rfl (fun _ => check_spec w0 _ hG L) ?_
  refine TL_q rfl rfl (QT_neq rfl rfl rfl rfl) ?_
  refine TL_q rfl rfl (QT_assign rfl rfl rfl) ?_
  refine TL_nil ?_
  refine TX_then ?_
  refine TC_cond rfl (fun h => absurd (h.symm.trans ((show decide (errOf L ≠ 0) = false by rw [he]; decide))) (by decide)) (fun _ => ?_)
  refine TC_seq ?_
  refine TC_draw [(1, 0), (2, 0), (5, 0), (0, 1), (3, 0), (4, 0), (6, 1), (7, 0), (8, 0)] YtjdaglmkljbfkaaDoorF.mixed (by kernel_rfl) (St.calm _ _) ?_
  refine TV_q rfl rfl rfl (fun _ => QT_field rfl rfl YtjdaglmkljbfkaaDoorF.fld_27_0 rfl) ?_
  first
    | refine TV_ql rfl rfl rfl (QT_load (v := .int .i64 L.ty) 1 rfl rfl Tryd.underlying3 rfl rfl rfl (fun _ => rfl)) ?_
    | refine TV_ql rfl rfl rfl (QT_under (QT_load (w0 := w0) (η := (b3, 33, [.slice ra nr rc, .slice sa ns sc]) :: (b2, 27, L.cells) :: η) (v := .int .i64 L.ty) 1 rfl rfl Tryd.underlying3 rfl rfl rfl (fun _ => rfl)) (fun w h => h.1)) ?_
  first
    | refine TV_ql rfl rfl rfl (QT_loadW (cs := [.slice ra nr rc, .slice sa ns sc]) 0 rfl rfl Tryd.underlying33 rfl rfl rfl YtjdaglmkljbfkaaDoorF.sz_33) ?_
    | refine TV_ql rfl rfl rfl (QT_under (QT_loadW (w0 := w0) (η := (b3, 33, [.slice ra nr rc, .slice sa ns sc]) :: (b2, 27, L.cells) :: η) (cs := [.slice ra nr rc, .slice sa ns sc]) 0 rfl rfl Tryd.underlying33 rfl rfl rfl YtjdaglmkljbfkaaDoorF.sz_33) (fun w h => h.1)) ?_
  refine TV_e rfl rfl rfl rfl (rfl) (ET_call rfl YtjdaglmkljbfkaaDoorF.cal_21 rfl (byType_spec w0 _)) ?_
  rintro _ _ ⟨m10, rfl, rfl⟩
  refine ⟨_, .keep (by kernel_rfl) rfl (by first | exact QT_loadW (cs := [.slice ra nr rc, .slice sa ns sc]) 0 rfl rfl Tryd.underlying33 rfl rfl rfl YtjdaglmkljbfkaaDoorF.sz_33 | exact QT_under (QT_loadW (w0 := w0) (η := (b3, 33, [.slice ra nr rc, .slice sa ns sc]) :: (b2, 27, L.cells) :: η) (cs := [.slice ra nr rc, .slice sa ns sc]) 0 rfl rfl Tryd.underlying33 rfl rfl rfl YtjdaglmkljbfkaaDoorF.sz_33) (fun w h => h.1)) (.keep (by kernel_rfl) rfl (by first | exact QT_load (v := .int .i64 L.ty) 1 rfl rfl Tryd.underlying3 rfl rfl rfl (fun _ => rfl) | exact QT_under (QT_load (w0 := w0) (η := (b3, 33, [.slice ra nr rc, .slice sa ns sc]) :: (b2, 27, L.cells) :: η) (v := .int .i64 L.ty) 1 rfl rfl Tryd.underlying3 rfl rfl rfl (fun _ => rfl)) (fun w h => h.1)) (.nil)), ?_⟩
  refine TV_ql rfl rfl rfl ((by exact QT_lookup rfl rfl rfl rfl Tryd.underlying73 Tryd.underlying3 (show MapKept.IsKey (.int .i64) (.int .i64 L.ty) from rfl) hj)) ?_
  refine TV_q rfl rfl rfl (fun _ => QT_fieldv rfl rfl Tryd.underlying72 rfl Tryd.underlying70 rfl rfl (fun _ => rfl)) ?_
  refine TV_e rfl rfl rfl rfl (rfl) (ET_goes (Goes.value rfl rfl YtjdaglmkljbfkaaDoorF.cal_50 rfl) (callsT_map fun B => noRecs_spec B ((b3, 33, [.slice ra nr rc, .slice sa ns sc]) :: (b2, 27, L.cells) :: η) ra sa nr ns rc sc)) ?_
  rintro _ _ ⟨rfl, rfl⟩
  refine ⟨_, .keep (by kernel_rfl) rfl (by first | exact (by exact QT_lookup rfl rfl rfl rfl Tryd.underlying73 Tryd.underlying3 (show MapKept.IsKey (.int .i64) (.int .i64 L.ty) from rfl) hj)) (.drop (by kernel_rfl) (.keep (by kernel_rfl) rfl (by first | exact QT_load (v := .int .i64 L.ty) 1 rfl rfl Tryd.underlying3 rfl rfl rfl (fun _ => rfl) | exact QT_under (QT_load (w0 := w0) (η := (b3, 33, [.slice ra nr rc, .slice sa ns sc]) :: (b2, 27, L.cells) :: η) (v := .int .i64 L.ty) 1 rfl rfl Tryd.underlying3 rfl rfl rfl (fun _ => rfl)) (fun w h => h.1)) (.nil))), ?_⟩
  refine TV_q rfl rfl rfl (fun _ => QT_not rfl rfl rfl) ?_
  refine TV_q rfl rfl rfl (fun _ => QT_assign rfl rfl rfl) ?_
  refine TV_end ?_
  refine TX_then ?_
  first
    | refine TC_cond_dec rfl (fun h9 => ?_) (fun h9 => ?_)
    | refine TC_cond rfl (fun h9 => ?_) (fun h9 => ?_)
  ·
    refine TC_seq ?_
    refine TC_reg ?_
    refine TL_q rfl rfl (QT_assign rfl rfl rfl) ?_
    refine TL_nil ?_
    refine TX_then ?_
    refine TC_ret ?_
    refine TX_block_ret ?_
    refine TX_then_ret ?_
    exact TX_ret (.inl rfl) (res1 rfl rfl) ⟨_, ⟨by rw [if_neg (by simp at h9; omega)], rfl⟩, fun _ h => h.1.tail.tail⟩
  ·
    refine TC_skip ?_
    refine TX_block_normal ?_
    refine TX_then ?_
    refine TC_seq ?_
    refine TC_reg ?_
    refine TL_q rfl rfl (QT_assign rfl rfl rfl) ?_
    refine TL_nil ?_
    refine TX_then ?_
    refine TC_ret ?_
    exact TX_ret (.inl rfl) (res1 rfl rfl) ⟨_, ⟨by rw [if_pos (by simp at h9; omega)], rfl⟩, fun _ h => h.1.tail.tail⟩
end Go.Proofs.YtjdaglmkljbfkaaDoor
namespace Go.Proofs.YtjdaglmkljbfkaaDoor
open Go Go.Gx Go.RowKit
set_option maxRecDepth 100000
def kindA : List Value := [.func (.func 12) #[] #[], .func (.func 73) #[] #[], .func (.func 13) #[] #[]]
theorem vertices_spec (w0 : Base) (η : Heap) : CallsT Tryd.prog 47 [] (St w0 η) fun v A' => v = .agg kindA.toArray ∧ A' = St w0 η := by
  refine CallsT.body Tryd.func47 rfl rfl ?_
  simp only [Tryd.ntmps47, slotsOf, Nat.reduceAdd]
  refine TC_seq ?_
  refine TC_reg ?_
  refine TL_e rfl rfl rfl (rfl) (ET_alloc rfl YtjdaglmkljbfkaaDoorF.zero_113) ?_
  rintro _ _ ⟨b0, rfl, rfl⟩
  refine TL_nil ?_
  refine TX_then ?_
  refine TC_seq ?_
  refine TC_reg ?_
  refine TL_q rfl rfl (QT_build rfl rfl YtjdaglmkljbfkaaDoorF.zero_113 YtjdaglmkljbfkaaDoorF.pl_113 rfl rfl rfl) ?_
  first
    | refine TL_e0 rfl rfl (rfl) (ET_storeW 0 rfl rfl rfl YtjdaglmkljbfkaaDoorF.sz_113 rfl rfl rfl) ?_
    | refine TL_e0 rfl rfl (rfl) (ET_storeW 1 rfl rfl rfl YtjdaglmkljbfkaaDoorF.sz_113 rfl rfl rfl) ?_
    | refine TL_e0 rfl rfl (rfl) (ET_storeW 2 rfl rfl rfl YtjdaglmkljbfkaaDoorF.sz_113 rfl rfl rfl) ?_
    | refine TL_e0 rfl rfl (rfl) (ET_store 0 rfl rfl rfl rfl YtjdaglmkljbfkaaDoorF.sz_113 rfl rfl rfl) ?_
    | refine TL_e0 rfl rfl (rfl) (ET_store 1 rfl rfl rfl rfl YtjdaglmkljbfkaaDoorF.sz_113 rfl rfl rfl) ?_
    | refine TL_e0 rfl rfl (rfl) (ET_store 2 rfl rfl rfl rfl YtjdaglmkljbfkaaDoorF.sz_113 rfl rfl rfl) ?_
  rintro _ _ ⟨rfl, rfl⟩
  refine TL_nil ?_
  refine TX_then ?_
  refine TC_ret ?_
  exact TX_ret (.inl rfl) (resC 0 rfl rfl Tryd.underlying113 rfl rfl YtjdaglmkljbfkaaDoorF.sz_113) ⟨_, ⟨rfl, rfl⟩, fun _ h => h.tail⟩
theorem all7R {rs : List (List Nat)} (h : ∀ r ∈ rs, RcF r) : All7 (rs.map rvV) := by
  intro r hr
  obtain ⟨x, hx, rfl⟩ := List.mem_map.1 hr
  exact rvV_ints (h x hx)
/-- the records of bytes, and the refusal -/
def dcE (L : Lay) (bs : List Nat) : Int := if errRG L bs = 0 then (trioF L ((outRG L bs).map rvV)).2 else errRG L bs
def dcO (L : Lay) (bs : List Nat) : List (List Nat) := if dcE L bs = 0 then outRG L bs else []
set_option maxHeartbeats 1000000 in
theorem decodeR_spec (w0 : Base) (η : Heap) (hG : Sets w0) (L : Lay) (sv : Value) (bs : List Nat) (hs : SlA (St w0 η) sv 1 bs.length (byV bs)) (hb : ∀ c ∈ bs, c < 256) :
    CallsT Tryd.prog 46 [.agg kindA.toArray, L.val, sv] (St w0 η) fun v A' => ∃ rv H, v = .tuple #[rv, .int .i64 (dcE L bs)] ∧ Frag 67 7 rv (dcO L bs).length (flatR (dcO L bs)) H ∧ A' = St w0 (H ++ η) := by
  refine CallsT.body Tryd.func46 rfl rfl ?_
  simp only [Tryd.ntmps46, slotsOf, Nat.reduceAdd]
  refine TC_seq ?_
  refine TC_reg ?_
  refine TL_e rfl rfl rfl (rfl) (ET_box rfl rfl) ?_
  rintro _ _ ⟨b3, rfl, rfl⟩
  refine TL_e rfl rfl rfl (rfl) (ET_box rfl rfl) ?_
  rintro _ _ ⟨b4, rfl, rfl⟩
  refine TL_q rfl rfl (QT_assign rfl rfl rfl) ?_
  refine TL_q rfl rfl (QT_assign rfl rfl rfl) ?_
  refine TL_nil ?_
  refine TX_then ?_
  refine TC_seq ?_
  refine TC_A (St w0 ((b4, 27, L.cells) :: (b3, 113, kindA) :: η)) (fun _ h => h) ?_
  refine TC_reg ?_
  refine TL_q rfl rfl (QT_field rfl rfl YtjdaglmkljbfkaaDoorF.fld_113_0 rfl) ?_
  refine TL_q rfl rfl (QT_load (v := .func (.func 12) #[] #[]) 1 rfl rfl Tryd.underlying47 rfl rfl rfl (fun _ => rfl)) ?_
  first
    | refine TL_q rfl rfl (QT_loadW 0 rfl rfl Tryd.underlying27 rfl rfl rfl YtjdaglmkljbfkaaDoorF.sz_27) ?_
    | refine TL_q rfl rfl (QT_loadW 1 rfl rfl Tryd.underlying27 rfl rfl rfl YtjdaglmkljbfkaaDoorF.sz_27) ?_
    | refine TL_q rfl rfl (QT_loadW 2 rfl rfl Tryd.underlying27 rfl rfl rfl YtjdaglmkljbfkaaDoorF.sz_27) ?_
    | refine TL_q rfl rfl (QT_loadA 0 rfl rfl Tryd.underlying27 rfl rfl rfl YtjdaglmkljbfkaaDoorF.sz_27 (fun _ => rfl)) ?_
    | refine TL_q rfl rfl (QT_loadA 1 rfl rfl Tryd.underlying27 rfl rfl rfl YtjdaglmkljbfkaaDoorF.sz_27 (fun _ => rfl)) ?_
    | refine TL_q rfl rfl (QT_loadA 2 rfl rfl Tryd.underlying27 rfl rfl rfl YtjdaglmkljbfkaaDoorF.sz_27 (fun _ => rfl)) ?_
  refine TL_q rfl rfl (QT_move rfl rfl rfl) ?_
  refine TL_e rfl rfl rfl (rfl) (ET_goes (Goes.value rfl rfl YtjdaglmkljbfkaaDoorF.cal_12 rfl) (rget0_any w0 _ hG L _ bs (hs.mono fun _ h => h.tail.tail) hb)) ?_
  rintro _ _ ⟨rv, H1, rfl, hF1, rfl⟩
  refine TL_q rfl rfl (QT_move rfl rfl rfl) ?_
  refine TL_q rfl rfl (QT_extract rfl rfl rfl rfl) ?_
  refine TL_q rfl rfl (QT_extract rfl rfl rfl rfl) ?_
  refine TL_q rfl rfl (QT_assign rfl rfl rfl) ?_
  refine TL_q rfl rfl (QT_assign rfl rfl rfl) ?_
  refine TL_nil ?_
  refine TX_then ?_
  refine TC_seq ?_
  refine TC_seq ?_
  refine TC_reg ?_
  refine TL_q rfl rfl (QT_move rfl rfl rfl) ?_
  refine TL_q rfl rfl (QT_neq rfl rfl rfl rfl) ?_
  refine TL_nil ?_
  refine TX_then ?_
  first
    | refine TC_cond_dec rfl (fun h19 => ?_) (fun h19 => ?_)
    | refine TC_cond rfl (fun h19 => ?_) (fun h19 => ?_)
  ·
    refine TC_seq ?_
    refine TC_reg ?_
    refine TL_q rfl rfl (QT_move rfl rfl rfl) ?_
    refine TL_q rfl rfl (QT_assign rfl rfl rfl) ?_
    refine TL_q rfl rfl (QT_assign rfl rfl rfl) ?_
    refine TL_nil ?_
    refine TX_then ?_
    refine TC_ret ?_
    refine TX_then_ret ?_
    have e : dcE L bs = errRG L bs := by unfold dcE; rw [if_neg h19]
    have eo : dcO L bs = [] := by unfold dcO; rw [e, if_neg h19]
    exact TX_ret (.inl rfl) (res2 rfl rfl rfl) ⟨_, ⟨_, [], by rw [e]; rfl, by rw [eo]; exact Frag.nil _ _, rfl⟩, fun w h => h.app_right.tail.tail⟩
  ·
    refine TC_skip ?_
    refine TX_then ?_
    refine TC_seq ?_
    refine TC_seq ?_
    have e0 := Classical.not_not.1 h19
    have hol := outRG_len L bs
    have hsh : ∀ r ∈ outRG L bs, RcF r := outRG_rcf
    have hl := (errRG_zero e0).2.1
    have e1 : dcE L bs = (trioF L ((outRG L bs).map rvV)).2 := by unfold dcE; rw [if_pos e0]
    have hF2 : Frag 67 7 rv ((outRG L bs).map rvV).length ((outRG L bs).map rvV).flatten H1 := by rw [List.length_map]; exact hF1
    refine TC_A (St w0 ((b4, 27, L.cells) :: (b3, 113, kindA) :: (H1 ++ η))) (fun w h => h.cnt fun p => by simp only [List.countP_append, List.countP_cons, List.countP_nil]; omega) ?_
    refine TC_reg ?_
    refine TL_q rfl rfl (QT_field rfl rfl YtjdaglmkljbfkaaDoorF.fld_113_2 rfl) ?_
    refine TL_q rfl rfl (QT_load (v := .func (.func 13) #[] #[]) 1 rfl rfl Tryd.underlying49 rfl rfl rfl (fun _ => rfl)) ?_
    first
      | refine TL_q rfl rfl (QT_loadW 0 rfl rfl Tryd.underlying27 rfl rfl rfl YtjdaglmkljbfkaaDoorF.sz_27) ?_
      | refine TL_q rfl rfl (QT_loadW 1 rfl rfl Tryd.underlying27 rfl rfl rfl YtjdaglmkljbfkaaDoorF.sz_27) ?_
      | refine TL_q rfl rfl (QT_loadW 2 rfl rfl Tryd.underlying27 rfl rfl rfl YtjdaglmkljbfkaaDoorF.sz_27) ?_
      | refine TL_q rfl rfl (QT_loadA 0 rfl rfl Tryd.underlying27 rfl rfl rfl YtjdaglmkljbfkaaDoorF.sz_27 (fun _ => rfl)) ?_
      | refine TL_q rfl rfl (QT_loadA 1 rfl rfl Tryd.underlying27 rfl rfl rfl YtjdaglmkljbfkaaDoorF.sz_27 (fun _ => rfl)) ?_
      | refine TL_q rfl rfl (QT_loadA 2 rfl rfl Tryd.underlying27 rfl rfl rfl YtjdaglmkljbfkaaDoorF.sz_27 (fun _ => rfl)) ?_
    refine TL_q rfl rfl (QT_move rfl rfl rfl) ?_
    refine TL_e rfl rfl rfl (rfl) (ET_goes (Goes.value rfl rfl YtjdaglmkljbfkaaDoorF.cal_13 rfl) (of_spec w0 _ hG L _ ((outRG L bs).map rvV) (hF2.within fun p => by simp only [List.countP_append, List.countP_cons]; omega) (all7R hsh) (by rw [List.length_map]; omega))) ?_
    rintro _ _ ⟨pv, H2, rfl, hF3, X, rfl⟩
    refine TL_q rfl rfl (QT_move rfl rfl rfl) ?_
    refine TL_q rfl rfl (QT_extract rfl rfl rfl rfl) ?_
    refine TL_q rfl rfl (QT_extract rfl rfl rfl rfl) ?_
    refine TL_q rfl rfl (QT_assign rfl rfl rfl) ?_
    refine TL_nil ?_
    refine TX_then ?_
    refine TC_seq ?_
    refine TC_reg ?_
    refine TL_q rfl rfl (QT_move rfl rfl rfl) ?_
    refine TL_q rfl rfl (QT_neq rfl rfl rfl rfl) ?_
    refine TL_nil ?_
    refine TX_then ?_
    first
      | refine TC_cond_dec rfl (fun h30 => ?_) (fun h30 => ?_)
      | refine TC_cond rfl (fun h30 => ?_) (fun h30 => ?_)
    ·
      refine TC_seq ?_
      refine TC_reg ?_
      refine TL_q rfl rfl (QT_move rfl rfl rfl) ?_
      refine TL_q rfl rfl (QT_assign rfl rfl rfl) ?_
      refine TL_q rfl rfl (QT_assign rfl rfl rfl) ?_
      refine TL_nil ?_
      refine TX_then ?_
      refine TC_ret ?_
      refine TX_then_ret ?_
      have eo : dcO L bs = [] := by unfold dcO; rw [e1, if_neg h30]
      exact TX_ret (.inl rfl) (res2 rfl rfl rfl) ⟨_, ⟨_, [], by rw [e1]; rfl, by rw [eo]; exact Frag.nil _ _, rfl⟩, fun w h => h.cnt fun p => by simp only [List.countP_append, List.countP_cons, List.countP_nil]; omega⟩
    ·
      refine TC_skip ?_
      refine TX_then ?_
      refine TC_seq ?_
      refine TC_reg ?_
      refine TL_q rfl rfl (QT_move rfl rfl rfl) ?_
      refine TL_q rfl rfl (QT_assign rfl rfl rfl) ?_
      refine TL_q rfl rfl (QT_assign rfl rfl rfl) ?_
      refine TL_nil ?_
      refine TX_then ?_
      refine TC_ret ?_
      have e2 := Classical.not_not.1 h30
      have eo : dcO L bs = outRG L bs := by unfold dcO; rw [e1, if_pos e2]
      exact TX_ret (.inl rfl) (res2 rfl rfl rfl) ⟨_, ⟨rv, H1, by rw [e1, e2]; rfl, by rw [eo]; exact hF1, rfl⟩, fun w h => h.cnt fun p => by simp only [List.countP_append, List.countP_cons, List.countP_nil]; omega⟩
end Go.Proofs.YtjdaglmkljbfkaaDoor
namespace Go.Proofs.YtjdaglmkljbfkaaDoor
open Go Go.Gx Go.RowKit
set_option maxRecDepth 100000
def kindB : List Value := [.func (.func 16) #[] #[], .func (.func 74) #[] #[], .func (.func 17) #[] #[]]
theorem patches_spec (w0 : Base) (η : Heap) : CallsT Tryd.prog 53 [] (St w0 η) fun v A' => v = .agg kindB.toArray ∧ A' = St w0 η := by
  refine CallsT.body Tryd.func53 rfl rfl ?_
  simp only [Tryd.ntmps53, slotsOf, Nat.reduceAdd]
  refine TC_seq ?_
  refine TC_reg ?_
  refine TL_e rfl rfl rfl (rfl) (ET_alloc rfl YtjdaglmkljbfkaaDoorF.zero_119) ?_
  rintro _ _ ⟨b0, rfl, rfl⟩
  refine TL_nil ?_
  refine TX_then ?_
  refine TC_seq ?_
  refine TC_reg ?_
  refine TL_q rfl rfl (QT_build rfl rfl YtjdaglmkljbfkaaDoorF.zero_119 YtjdaglmkljbfkaaDoorF.pl_119 rfl rfl rfl) ?_
  first
    | refine TL_e0 rfl rfl (rfl) (ET_storeW 0 rfl rfl rfl YtjdaglmkljbfkaaDoorF.sz_119 rfl rfl rfl) ?_
    | refine TL_e0 rfl rfl (rfl) (ET_storeW 1 rfl rfl rfl YtjdaglmkljbfkaaDoorF.sz_119 rfl rfl rfl) ?_
    | refine TL_e0 rfl rfl (rfl) (ET_storeW 2 rfl rfl rfl YtjdaglmkljbfkaaDoorF.sz_119 rfl rfl rfl) ?_
    | refine TL_e0 rfl rfl (rfl) (ET_store 0 rfl rfl rfl rfl YtjdaglmkljbfkaaDoorF.sz_119 rfl rfl rfl) ?_
    | refine TL_e0 rfl rfl (rfl) (ET_store 1 rfl rfl rfl rfl YtjdaglmkljbfkaaDoorF.sz_119 rfl rfl rfl) ?_
    | refine TL_e0 rfl rfl (rfl) (ET_store 2 rfl rfl rfl rfl YtjdaglmkljbfkaaDoorF.sz_119 rfl rfl rfl) ?_
  rintro _ _ ⟨rfl, rfl⟩
  refine TL_nil ?_
  refine TX_then ?_
  refine TC_ret ?_
  exact TX_ret (.inl rfl) (resC 0 rfl rfl Tryd.underlying119 rfl rfl YtjdaglmkljbfkaaDoorF.sz_119) ⟨_, ⟨rfl, rfl⟩, fun _ h => h.tail⟩
/-- the records of bytes, and the refusal -/
def dsE (L : Lay) (bs : List Nat) : Int := if errG L bs = 0 then T12.errT L (outG L bs).length (flatS (outG L bs)) else errG L bs
def dsO (L : Lay) (bs : List Nat) : List (List Nat) := if dsE L bs = 0 then outG L bs else []
set_option maxHeartbeats 1000000 in
theorem decodeS_spec (w0 : Base) (η : Heap) (hG : Sets w0) (hE : T12.Edges w0) (L : Lay) (sv : Value) (bs : List Nat) (hs : SlA (St w0 η) sv 1 bs.length (byV bs)) (hb : ∀ c ∈ bs, c < 256) (hl0 : bs.length ≤ 140737488355328) :
    CallsT Tryd.prog 52 [.agg kindB.toArray, L.val, sv] (St w0 η) fun v A' => ∃ rv H, v = .tuple #[rv, .int .i64 (dsE L bs)] ∧ Frag 79 49 rv (dsO L bs).length (flatS (dsO L bs)) H ∧ A' = St w0 (H ++ η) := by
  refine CallsT.body Tryd.func52 rfl rfl ?_
  simp only [Tryd.ntmps52, slotsOf, Nat.reduceAdd]
  refine TC_seq ?_
  refine TC_reg ?_
  refine TL_e rfl rfl rfl (rfl) (ET_box rfl rfl) ?_
  rintro _ _ ⟨b3, rfl, rfl⟩
  refine TL_e rfl rfl rfl (rfl) (ET_box rfl rfl) ?_
  rintro _ _ ⟨b4, rfl, rfl⟩
  refine TL_q rfl rfl (QT_assign rfl rfl rfl) ?_
  refine TL_q rfl rfl (QT_assign rfl rfl rfl) ?_
  refine TL_nil ?_
  refine TX_then ?_
  refine TC_seq ?_
  refine TC_A (St w0 ((b4, 27, L.cells) :: (b3, 119, kindB) :: η)) (fun _ h => h) ?_
  refine TC_reg ?_
  refine TL_q rfl rfl (QT_field rfl rfl YtjdaglmkljbfkaaDoorF.fld_119_0 rfl) ?_
  refine TL_q rfl rfl (QT_load (v := .func (.func 16) #[] #[]) 1 rfl rfl Tryd.underlying53 rfl rfl rfl (fun _ => rfl)) ?_
  first
    | refine TL_q rfl rfl (QT_loadW 0 rfl rfl Tryd.underlying27 rfl rfl rfl YtjdaglmkljbfkaaDoorF.sz_27) ?_
    | refine TL_q rfl rfl (QT_loadW 1 rfl rfl Tryd.underlying27 rfl rfl rfl YtjdaglmkljbfkaaDoorF.sz_27) ?_
    | refine TL_q rfl rfl (QT_loadW 2 rfl rfl Tryd.underlying27 rfl rfl rfl YtjdaglmkljbfkaaDoorF.sz_27) ?_
    | refine TL_q rfl rfl (QT_loadA 0 rfl rfl Tryd.underlying27 rfl rfl rfl YtjdaglmkljbfkaaDoorF.sz_27 (fun _ => rfl)) ?_
    | refine TL_q rfl rfl (QT_loadA 1 rfl rfl Tryd.underlying27 rfl rfl rfl YtjdaglmkljbfkaaDoorF.sz_27 (fun _ => rfl)) ?_
    | refine TL_q rfl rfl (QT_loadA 2 rfl rfl Tryd.underlying27 rfl rfl rfl YtjdaglmkljbfkaaDoorF.sz_27 (fun _ => rfl)) ?_
  refine TL_q rfl rfl (QT_move rfl rfl rfl) ?_
  refine TL_e rfl rfl rfl (rfl) (ET_goes (Goes.value rfl rfl YtjdaglmkljbfkaaDoorF.cal_16 rfl) (sget_spec w0 _ hG L _ bs (hs.mono fun _ h => h.tail.tail) hb hl0)) ?_
  rintro _ _ ⟨rv, H1, rfl, hF1, rfl⟩
  refine TL_q rfl rfl (QT_move rfl rfl rfl) ?_
  refine TL_q rfl rfl (QT_extract rfl rfl rfl rfl) ?_
  refine TL_q rfl rfl (QT_extract rfl rfl rfl rfl) ?_
  refine TL_q rfl rfl (QT_assign rfl rfl rfl) ?_
  refine TL_q rfl rfl (QT_assign rfl rfl rfl) ?_
  refine TL_nil ?_
  refine TX_then ?_
  refine TC_seq ?_
  refine TC_seq ?_
  refine TC_reg ?_
  refine TL_q rfl rfl (QT_move rfl rfl rfl) ?_
  refine TL_q rfl rfl (QT_neq rfl rfl rfl rfl) ?_
  refine TL_nil ?_
  refine TX_then ?_
  first
    | refine TC_cond_dec rfl (fun h19 => ?_) (fun h19 => ?_)
    | refine TC_cond rfl (fun h19 => ?_) (fun h19 => ?_)
  ·
    refine TC_seq ?_
    refine TC_reg ?_
    refine TL_q rfl rfl (QT_move rfl rfl rfl) ?_
    refine TL_q rfl rfl (QT_assign rfl rfl rfl) ?_
    refine TL_q rfl rfl (QT_assign rfl rfl rfl) ?_
    refine TL_nil ?_
    refine TX_then ?_
    refine TC_ret ?_
    refine TX_then_ret ?_
    have e : dsE L bs = errG L bs := by unfold dsE; rw [if_neg h19]
    have eo : dsO L bs = [] := by unfold dsO; rw [e, if_neg h19]
    exact TX_ret (.inl rfl) (res2 rfl rfl rfl) ⟨_, ⟨_, [], by rw [e]; rfl, by rw [eo]; exact Frag.nil _ _, rfl⟩, fun w h => h.app_right.tail.tail⟩
  ·
    refine TC_skip ?_
    refine TX_then ?_
    refine TC_seq ?_
    refine TC_seq ?_
    have e0 := Classical.not_not.1 h19
    have hol := outG_len L bs
    have hsh : ∀ r ∈ outG L bs, ShF r := outG_shf
    have hl := (errG_zero e0).2.1
    have e1 : dsE L bs = T12.errT L (outG L bs).length (flatS (outG L bs)) := by unfold dsE; rw [if_pos e0]
    refine TC_A (St w0 ((b4, 27, L.cells) :: (b3, 119, kindB) :: (H1 ++ η))) (fun w h => h.cnt fun p => by simp only [List.countP_append, List.countP_cons, List.countP_nil]; omega) ?_
    refine TC_reg ?_
    refine TL_q rfl rfl (QT_field rfl rfl YtjdaglmkljbfkaaDoorF.fld_119_2 rfl) ?_
    refine TL_q rfl rfl (QT_load (v := .func (.func 17) #[] #[]) 1 rfl rfl Tryd.underlying55 rfl rfl rfl (fun _ => rfl)) ?_
    first
      | refine TL_q rfl rfl (QT_loadW 0 rfl rfl Tryd.underlying27 rfl rfl rfl YtjdaglmkljbfkaaDoorF.sz_27) ?_
      | refine TL_q rfl rfl (QT_loadW 1 rfl rfl Tryd.underlying27 rfl rfl rfl YtjdaglmkljbfkaaDoorF.sz_27) ?_
      | refine TL_q rfl rfl (QT_loadW 2 rfl rfl Tryd.underlying27 rfl rfl rfl YtjdaglmkljbfkaaDoorF.sz_27) ?_
      | refine TL_q rfl rfl (QT_loadA 0 rfl rfl Tryd.underlying27 rfl rfl rfl YtjdaglmkljbfkaaDoorF.sz_27 (fun _ => rfl)) ?_
      | refine TL_q rfl rfl (QT_loadA 1 rfl rfl Tryd.underlying27 rfl rfl rfl YtjdaglmkljbfkaaDoorF.sz_27 (fun _ => rfl)) ?_
      | refine TL_q rfl rfl (QT_loadA 2 rfl rfl Tryd.underlying27 rfl rfl rfl YtjdaglmkljbfkaaDoorF.sz_27 (fun _ => rfl)) ?_
    refine TL_q rfl rfl (QT_move rfl rfl rfl) ?_
    refine TL_e rfl rfl rfl (rfl) (ET_goes (Goes.value rfl rfl YtjdaglmkljbfkaaDoorF.cal_17 rfl) (T12.of_spec w0 _ hG hE L _ _ (flatS (outG L bs)) (hF1.within fun p => by simp only [List.countP_append, List.countP_cons]; omega) (flatS_ints hsh) (by omega))) ?_
    rintro _ _ ⟨pv, H2, rfl, hF3, rfl⟩
    refine TL_q rfl rfl (QT_move rfl rfl rfl) ?_
    refine TL_q rfl rfl (QT_extract rfl rfl rfl rfl) ?_
    refine TL_q rfl rfl (QT_extract rfl rfl rfl rfl) ?_
    refine TL_q rfl rfl (QT_assign rfl rfl rfl) ?_
    refine TL_nil ?_
    refine TX_then ?_
    refine TC_seq ?_
    refine TC_reg ?_
    refine TL_q rfl rfl (QT_move rfl rfl rfl) ?_
    refine TL_q rfl rfl (QT_neq rfl rfl rfl rfl) ?_
    refine TL_nil ?_
    refine TX_then ?_
    first
      | refine TC_cond_dec rfl (fun h30 => ?_) (fun h30 => ?_)
      | refine TC_cond rfl (fun h30 => ?_) (fun h30 => ?_)
    ·
      refine TC_seq ?_
      refine TC_reg ?_
      refine TL_q rfl rfl (QT_move rfl rfl rfl) ?_
      refine TL_q rfl rfl (QT_assign rfl rfl rfl) ?_
      refine TL_q rfl rfl (QT_assign rfl rfl rfl) ?_
      refine TL_nil ?_
      refine TX_then ?_
      refine TC_ret ?_
      refine TX_then_ret ?_
      have eo : dsO L bs = [] := by unfold dsO; rw [e1, if_neg h30]
      exact TX_ret (.inl rfl) (res2 rfl rfl rfl) ⟨_, ⟨_, [], by rw [e1]; rfl, by rw [eo]; exact Frag.nil _ _, rfl⟩, fun w h => h.cnt fun p => by simp only [List.countP_append, List.countP_cons, List.countP_nil]; omega⟩
    ·
      refine TC_skip ?_
      refine TX_then ?_
      refine TC_seq ?_
      refine TC_reg ?_
      refine TL_q rfl rfl (QT_move rfl rfl rfl) ?_
      refine TL_q rfl rfl (QT_assign rfl rfl rfl) ?_
      refine TL_q rfl rfl (QT_assign rfl rfl rfl) ?_
      refine TL_nil ?_
      refine TX_then ?_
      refine TC_ret ?_
      have e2 := Classical.not_not.1 h30
      have eo : dsO L bs = outG L bs := by unfold dsO; rw [e1, if_pos e2]
      exact TX_ret (.inl rfl) (res2 rfl rfl rfl) ⟨_, ⟨rv, H1, by rw [e1, e2]; rfl, by rw [eo]; exact hF1, rfl⟩, fun w h => h.cnt fun p => by simp only [List.countP_append, List.countP_cons, List.countP_nil]; omega⟩
end Go.Proofs.YtjdaglmkljbfkaaDoor
namespace Go.Proofs.YtjdaglmkljbfkaaDoor
open Go Go.Gx Go.RowKit
set_option maxRecDepth 100000
/-- bytes of records, and the refusal -/
def ecE (L : Lay) (rs : List (List Nat)) : Int := if (trioF L (rs.map rvV)).2 = 0 then errRP L rs else (trioF L (rs.map rvV)).2
def ecO (L : Lay) (rs : List (List Nat)) : List Nat := if ecE L rs = 0 then outRP L rs else []
theorem ecO_eq {L : Lay} {rs : List (List Nat)} (h : (trioF L (rs.map rvV)).2 = 0) : ecO L rs = outRP L rs := by
  unfold ecO ecE
  rw [if_pos h]
  by_cases h1 : errRP L rs = 0
  · rw [if_pos h1]
  · rw [if_neg h1, errRP_bad h1]
set_option maxHeartbeats 1000000 in
theorem encodeR_spec (w0 : Base) (η : Heap) (hG : Sets w0) (L : Lay) (sv : Value) (rs : List (List Nat)) (hs : SlA (St w0 η) sv 7 rs.length (flatR rs)) (hr : ∀ r ∈ rs, RcF r) (hn : rs.length ≤ 100000000) :
    CallsT Tryd.prog 49 [.agg kindA.toArray, L.val, sv] (St w0 η) fun v A' => ∃ bv H, v = .tuple #[bv, .int .i64 (ecE L rs)] ∧ Frag 5 1 bv (ecO L rs).length (byV (ecO L rs)) H ∧ A' = St w0 (H ++ η) := by
  have hs2 : SlA (St w0 η) sv 7 (rs.map rvV).length (rs.map rvV).flatten := by rw [List.length_map]; exact hs
  refine CallsT.body Tryd.func49 rfl rfl ?_
  simp only [Tryd.ntmps49, slotsOf, Nat.reduceAdd]
  refine TC_seq ?_
  refine TC_reg ?_
  refine TL_e rfl rfl rfl (rfl) (ET_box rfl rfl) ?_
  rintro _ _ ⟨b3, rfl, rfl⟩
  refine TL_e rfl rfl rfl (rfl) (ET_box rfl rfl) ?_
  rintro _ _ ⟨b4, rfl, rfl⟩
  refine TL_q rfl rfl (QT_assign rfl rfl rfl) ?_
  refine TL_q rfl rfl (QT_assign rfl rfl rfl) ?_
  refine TL_nil ?_
  refine TX_then ?_
  refine TC_seq ?_
  refine TC_seq ?_
  refine TC_A (St w0 ((b4, 27, L.cells) :: (b3, 113, kindA) :: η)) (fun _ h => h) ?_
  refine TC_reg ?_
  refine TL_q rfl rfl (QT_field rfl rfl YtjdaglmkljbfkaaDoorF.fld_113_2 rfl) ?_
  refine TL_q rfl rfl (QT_load (v := .func (.func 13) #[] #[]) 1 rfl rfl Tryd.underlying49 rfl rfl rfl (fun _ => rfl)) ?_
  first
    | refine TL_q rfl rfl (QT_loadW 0 rfl rfl Tryd.underlying27 rfl rfl rfl YtjdaglmkljbfkaaDoorF.sz_27) ?_
    | refine TL_q rfl rfl (QT_loadW 1 rfl rfl Tryd.underlying27 rfl rfl rfl YtjdaglmkljbfkaaDoorF.sz_27) ?_
    | refine TL_q rfl rfl (QT_loadW 2 rfl rfl Tryd.underlying27 rfl rfl rfl YtjdaglmkljbfkaaDoorF.sz_27) ?_
    | refine TL_q rfl rfl (QT_loadA 0 rfl rfl Tryd.underlying27 rfl rfl rfl YtjdaglmkljbfkaaDoorF.sz_27 (fun _ => rfl)) ?_
    | refine TL_q rfl rfl (QT_loadA 1 rfl rfl Tryd.underlying27 rfl rfl rfl YtjdaglmkljbfkaaDoorF.sz_27 (fun _ => rfl)) ?_
    | refine TL_q rfl rfl (QT_loadA 2 rfl rfl Tryd.underlying27 rfl rfl rfl YtjdaglmkljbfkaaDoorF.sz_27 (fun _ => rfl)) ?_
  refine TL_q rfl rfl (QT_move rfl rfl rfl) ?_
  refine TL_e rfl rfl rfl (rfl) (ET_goes (Goes.value rfl rfl YtjdaglmkljbfkaaDoorF.cal_13 rfl) (of_spec w0 _ hG L _ (rs.map rvV) (hs2.mono fun _ h => h.tail.tail) (all7R hr) (by rw [List.length_map]; omega))) ?_
  rintro _ _ ⟨pv, H2, rfl, hF3, X, rfl⟩
  refine TL_q rfl rfl (QT_move rfl rfl rfl) ?_
  refine TL_q rfl rfl (QT_extract rfl rfl rfl rfl) ?_
  refine TL_q rfl rfl (QT_extract rfl rfl rfl rfl) ?_
  refine TL_q rfl rfl (QT_assign rfl rfl rfl) ?_
  refine TL_q rfl rfl (QT_assign rfl rfl rfl) ?_
  refine TL_nil ?_
  refine TX_then ?_
  refine TC_seq ?_
  refine TC_reg ?_
  refine TL_q rfl rfl (QT_move rfl rfl rfl) ?_
  refine TL_q rfl rfl (QT_neq rfl rfl rfl rfl) ?_
  refine TL_nil ?_
  refine TX_then ?_
  first
    | refine TC_cond_dec rfl (fun h19 => ?_) (fun h19 => ?_)
    | refine TC_cond rfl (fun h19 => ?_) (fun h19 => ?_)
  ·
    refine TC_seq ?_
    refine TC_reg ?_
    refine TL_q rfl rfl (QT_move rfl rfl rfl) ?_
    refine TL_q rfl rfl (QT_assign rfl rfl rfl) ?_
    refine TL_q rfl rfl (QT_assign rfl rfl rfl) ?_
    refine TL_nil ?_
    refine TX_then ?_
    refine TC_ret ?_
    refine TX_then_ret ?_
    have e : ecE L rs = (trioF L (rs.map rvV)).2 := by unfold ecE; rw [if_neg h19]
    have eo : ecO L rs = [] := by unfold ecO; rw [e, if_neg h19]
    exact TX_ret (.inl rfl) (res2 rfl rfl rfl) ⟨_, ⟨_, [], by rw [e]; rfl, by rw [eo]; exact Frag.nil _ _, rfl⟩, fun w h => h.cnt fun p => by simp only [List.countP_append, List.countP_cons, List.countP_nil]; omega⟩
  ·
    refine TC_skip ?_
    refine TX_then ?_
    refine TC_seq ?_
    have e0 := Classical.not_not.1 h19
    have e1 : ecE L rs = errRP L rs := by unfold ecE; rw [if_pos e0]
    refine TC_A (St w0 ((b4, 27, L.cells) :: (b3, 113, kindA) :: η)) (fun w h => h.cnt fun p => by simp only [List.countP_append, List.countP_cons, List.countP_nil]; omega) ?_
    refine TC_reg ?_
    refine TL_q rfl rfl (QT_field rfl rfl YtjdaglmkljbfkaaDoorF.fld_113_1 rfl) ?_
    refine TL_q rfl rfl (QT_load (v := .func (.func 73) #[] #[]) 1 rfl rfl Tryd.underlying111 rfl rfl rfl (fun _ => rfl)) ?_
    first
      | refine TL_q rfl rfl (QT_loadW 0 rfl rfl Tryd.underlying27 rfl rfl rfl YtjdaglmkljbfkaaDoorF.sz_27) ?_
      | refine TL_q rfl rfl (QT_loadW 1 rfl rfl Tryd.underlying27 rfl rfl rfl YtjdaglmkljbfkaaDoorF.sz_27) ?_
      | refine TL_q rfl rfl (QT_loadW 2 rfl rfl Tryd.underlying27 rfl rfl rfl YtjdaglmkljbfkaaDoorF.sz_27) ?_
      | refine TL_q rfl rfl (QT_loadA 0 rfl rfl Tryd.underlying27 rfl rfl rfl YtjdaglmkljbfkaaDoorF.sz_27 (fun _ => rfl)) ?_
      | refine TL_q rfl rfl (QT_loadA 1 rfl rfl Tryd.underlying27 rfl rfl rfl YtjdaglmkljbfkaaDoorF.sz_27 (fun _ => rfl)) ?_
      | refine TL_q rfl rfl (QT_loadA 2 rfl rfl Tryd.underlying27 rfl rfl rfl YtjdaglmkljbfkaaDoorF.sz_27 (fun _ => rfl)) ?_
    refine TL_q rfl rfl (QT_move rfl rfl rfl) ?_
    refine TL_e rfl rfl rfl (rfl) (ET_goes (Goes.value rfl rfl YtjdaglmkljbfkaaDoorF.cal_73 rfl) (rput0_spec w0 _ hG L _ rs (hs.mono fun _ h => h.tail.tail) hr hn)) ?_
    rintro _ _ ⟨bv, H1, rfl, hF1, rfl⟩
    refine TL_q rfl rfl (QT_extract rfl rfl rfl rfl) ?_
    refine TL_q rfl rfl (QT_extract rfl rfl rfl rfl) ?_
    refine TL_q rfl rfl (QT_assign rfl rfl rfl) ?_
    refine TL_q rfl rfl (QT_assign rfl rfl rfl) ?_
    refine TL_nil ?_
    refine TX_then ?_
    refine TC_ret ?_
    exact TX_ret (.inl rfl) (res2 rfl rfl rfl) ⟨_, ⟨bv, H1, by rw [e1]; rfl, by rw [ecO_eq e0]; exact hF1, rfl⟩, fun w h => h.cnt fun p => by simp only [List.countP_append, List.countP_cons, List.countP_nil]; omega⟩
end Go.Proofs.YtjdaglmkljbfkaaDoor
namespace Go.Proofs.YtjdaglmkljbfkaaDoor
open Go Go.Gx Go.RowKit
set_option maxRecDepth 100000
/-- bytes of records, and the refusal -/
def esE (L : Lay) (rs : List (List Nat)) : Int := if T12.errT L rs.length (flatS rs) = 0 then errP L rs else T12.errT L rs.length (flatS rs)
def esO (L : Lay) (rs : List (List Nat)) : List Nat := if esE L rs = 0 then outP L rs else []
theorem esO_eq {L : Lay} {rs : List (List Nat)} (h : T12.errT L rs.length (flatS rs) = 0) : esO L rs = outP L rs := by
  unfold esO esE
  rw [if_pos h]
  by_cases h1 : errP L rs = 0
  · rw [if_pos h1]
  · rw [if_neg h1, errP_bad h1]
set_option maxHeartbeats 1000000 in
theorem encodeS_spec (w0 : Base) (η : Heap) (hG : Sets w0) (hE : T12.Edges w0) (L : Lay) (sv : Value) (rs : List (List Nat)) (hs : SlA (St w0 η) sv 49 rs.length (flatS rs)) (hr : ∀ r ∈ rs, ShF r) (hn : rs.length ≤ 1000000) :
    CallsT Tryd.prog 55 [.agg kindB.toArray, L.val, sv] (St w0 η) fun v A' => ∃ bv H, v = .tuple #[bv, .int .i64 (esE L rs)] ∧ Frag 5 1 bv (esO L rs).length (byV (esO L rs)) H ∧ A' = St w0 (H ++ η) := by
  refine CallsT.body Tryd.func55 rfl rfl ?_
  simp only [Tryd.ntmps55, slotsOf, Nat.reduceAdd]
  refine TC_seq ?_
  refine TC_reg ?_
  refine TL_e rfl rfl rfl (rfl) (ET_box rfl rfl) ?_
  rintro _ _ ⟨b3, rfl, rfl⟩
  refine TL_e rfl rfl rfl (rfl) (ET_box rfl rfl) ?_
  rintro _ _ ⟨b4, rfl, rfl⟩
  refine TL_q rfl rfl (QT_assign rfl rfl rfl) ?_
  refine TL_q rfl rfl (QT_assign rfl rfl rfl) ?_
  refine TL_nil ?_
  refine TX_then ?_
  refine TC_seq ?_
  refine TC_seq ?_
  refine TC_A (St w0 ((b4, 27, L.cells) :: (b3, 119, kindB) :: η)) (fun _ h => h) ?_
  refine TC_reg ?_
  refine TL_q rfl rfl (QT_field rfl rfl YtjdaglmkljbfkaaDoorF.fld_119_2 rfl) ?_
  refine TL_q rfl rfl (QT_load (v := .func (.func 17) #[] #[]) 1 rfl rfl Tryd.underlying55 rfl rfl rfl (fun _ => rfl)) ?_
  first
    | refine TL_q rfl rfl (QT_loadW 0 rfl rfl Tryd.underlying27 rfl rfl rfl YtjdaglmkljbfkaaDoorF.sz_27) ?_
    | refine TL_q rfl rfl (QT_loadW 1 rfl rfl Tryd.underlying27 rfl rfl rfl YtjdaglmkljbfkaaDoorF.sz_27) ?_
    | refine TL_q rfl rfl (QT_loadW 2 rfl rfl Tryd.underlying27 rfl rfl rfl YtjdaglmkljbfkaaDoorF.sz_27) ?_
    | refine TL_q rfl rfl (QT_loadA 0 rfl rfl Tryd.underlying27 rfl rfl rfl YtjdaglmkljbfkaaDoorF.sz_27 (fun _ => rfl)) ?_
    | refine TL_q rfl rfl (QT_loadA 1 rfl rfl Tryd.underlying27 rfl rfl rfl YtjdaglmkljbfkaaDoorF.sz_27 (fun _ => rfl)) ?_
    | refine TL_q rfl rfl (QT_loadA 2 rfl rfl Tryd.underlying27 rfl rfl rfl YtjdaglmkljbfkaaDoorF.sz_27 (fun _ => rfl)) ?_
  refine TL_q rfl rfl (QT_move rfl rfl rfl) ?_
  refine TL_e rfl rfl rfl (rfl) (ET_goes (Goes.value rfl rfl YtjdaglmkljbfkaaDoorF.cal_17 rfl) (T12.of_spec w0 _ hG hE L _ _ (flatS rs) (hs.mono fun _ h => h.tail.tail) (flatS_ints hr) (by omega))) ?_
  rintro _ _ ⟨pv, H2, rfl, hF3, rfl⟩
  refine TL_q rfl rfl (QT_move rfl rfl rfl) ?_
  refine TL_q rfl rfl (QT_extract rfl rfl rfl rfl) ?_
  refine TL_q rfl rfl (QT_extract rfl rfl rfl rfl) ?_
  refine TL_q rfl rfl (QT_assign rfl rfl rfl) ?_
  refine TL_q rfl rfl (QT_assign rfl rfl rfl) ?_
  refine TL_nil ?_
  refine TX_then ?_
  refine TC_seq ?_
  refine TC_reg ?_
  refine TL_q rfl rfl (QT_move rfl rfl rfl) ?_
  refine TL_q rfl rfl (QT_neq rfl rfl rfl rfl) ?_
  refine TL_nil ?_
  refine TX_then ?_
  first
    | refine TC_cond_dec rfl (fun h19 => ?_) (fun h19 => ?_)
    | refine TC_cond rfl (fun h19 => ?_) (fun h19 => ?_)
  ·
    refine TC_seq ?_
    refine TC_reg ?_
    refine TL_q rfl rfl (QT_move rfl rfl rfl) ?_
    refine TL_q rfl rfl (QT_assign rfl rfl rfl) ?_
    refine TL_q rfl rfl (QT_assign rfl rfl rfl) ?_
    refine TL_nil ?_
    refine TX_then ?_
    refine TC_ret ?_
    refine TX_then_ret ?_
    have e : esE L rs = T12.errT L rs.length (flatS rs) := by unfold esE; rw [if_neg h19]
    have eo : esO L rs = [] := by unfold esO; rw [e, if_neg h19]
    exact TX_ret (.inl rfl) (res2 rfl rfl rfl) ⟨_, ⟨_, [], by rw [e]; rfl, by rw [eo]; exact Frag.nil _ _, rfl⟩, fun w h => h.cnt fun p => by simp only [List.countP_append, List.countP_cons, List.countP_nil]; omega⟩
  ·
    refine TC_skip ?_
    refine TX_then ?_
    refine TC_seq ?_
    have e0 := Classical.not_not.1 h19
    have e1 : esE L rs = errP L rs := by unfold esE; rw [if_pos e0]
    refine TC_A (St w0 ((b4, 27, L.cells) :: (b3, 119, kindB) :: η)) (fun w h => h.cnt fun p => by simp only [List.countP_append, List.countP_cons, List.countP_nil]; omega) ?_
    refine TC_reg ?_
    refine TL_q rfl rfl (QT_field rfl rfl YtjdaglmkljbfkaaDoorF.fld_119_1 rfl) ?_
    refine TL_q rfl rfl (QT_load (v := .func (.func 74) #[] #[]) 1 rfl rfl Tryd.underlying117 rfl rfl rfl (fun _ => rfl)) ?_
    first
      | refine TL_q rfl rfl (QT_loadW 0 rfl rfl Tryd.underlying27 rfl rfl rfl YtjdaglmkljbfkaaDoorF.sz_27) ?_
      | refine TL_q rfl rfl (QT_loadW 1 rfl rfl Tryd.underlying27 rfl rfl rfl YtjdaglmkljbfkaaDoorF.sz_27) ?_
      | refine TL_q rfl rfl (QT_loadW 2 rfl rfl Tryd.underlying27 rfl rfl rfl YtjdaglmkljbfkaaDoorF.sz_27) ?_
      | refine TL_q rfl rfl (QT_loadA 0 rfl rfl Tryd.underlying27 rfl rfl rfl YtjdaglmkljbfkaaDoorF.sz_27 (fun _ => rfl)) ?_
      | refine TL_q rfl rfl (QT_loadA 1 rfl rfl Tryd.underlying27 rfl rfl rfl YtjdaglmkljbfkaaDoorF.sz_27 (fun _ => rfl)) ?_
      | refine TL_q rfl rfl (QT_loadA 2 rfl rfl Tryd.underlying27 rfl rfl rfl YtjdaglmkljbfkaaDoorF.sz_27 (fun _ => rfl)) ?_
    refine TL_q rfl rfl (QT_move rfl rfl rfl) ?_
    refine TL_e rfl rfl rfl (rfl) (ET_goes (Goes.value rfl rfl YtjdaglmkljbfkaaDoorF.cal_74 rfl) (sput_spec w0 _ hG L _ rs (hs.mono fun _ h => h.tail.tail) hr (by omega))) ?_
    rintro _ _ ⟨bv, H1, rfl, hF1, rfl⟩
    refine TL_q rfl rfl (QT_extract rfl rfl rfl rfl) ?_
    refine TL_q rfl rfl (QT_extract rfl rfl rfl rfl) ?_
    refine TL_q rfl rfl (QT_assign rfl rfl rfl) ?_
    refine TL_q rfl rfl (QT_assign rfl rfl rfl) ?_
    refine TL_nil ?_
    refine TX_then ?_
    refine TC_ret ?_
    exact TX_ret (.inl rfl) (res2 rfl rfl rfl) ⟨_, ⟨bv, H1, by rw [e1]; rfl, by rw [esO_eq e0]; exact hF1, rfl⟩, fun w h => h.cnt fun p => by simp only [List.countP_append, List.countP_cons, List.countP_nil]; omega⟩
end Go.Proofs.YtjdaglmkljbfkaaDoor
namespace Go.Gx
open Go Go.RowKit
/-- two results: one that lies in memory, one that does not -/
theorem resCT {P : Program} {n : Nat} {σ : Slots} {t : TypeId} {w0 : Base} {η : Heap} {fn : Func} {r u b T : Nat} {cs : List Value} {d : TypeDesc} {x : Value} (i : Nat) (hr : fn.results = #[.cell r t, .tmp u]) (hp : look σ r = some (true, .pointer (some ⟨b, 0, none⟩))) (hx : look σ u = some (true, x)) (hu : P.underlying t = some d) (hd : isAggD d = true)
    (hi : nth η i = some (b, T, cs)) (hm : Sz P t cs.length) : ∀ a w, Fr n σ a → St w0 η w → (results fn a.tmps).run P w = .ok (.tuple #[.agg cs.toArray, x]) w := by
  intro a w hf hA
  have hk := hf.known r true _ hp
  have hk2 := hf.known u true _ hx
  simp only [cond_true] at hk hk2
  have h1 := hA.loadCells (P := P) (off := 0) (m := cs.length) hi (by omega)
  simp only [List.drop_zero, List.take_length] at h1
  have hk' : a.tmps[r]?.getD undef = .pointer (some ⟨b, 0, none⟩) := by simpa using hk
  have hk2' : a.tmps[u]?.getD undef = x := by simpa using hk2
  simp [results, hr, hk', hk2', asAddr, loadVar, run_isAgg hu, hd, run_sizeOf hm, h1]
theorem ET_under {P : Program} {n : Nat} {o : Oper} {σ : Slots} {A A' : World → Prop} {R : Value → (World → Prop) → Prop} (h : ET P n o σ A' R) (hs : ∀ w, A w → A' w) : ET P n o σ A R := fun a w hf hA => h a w hf (hs w hA)
end Go.Gx
namespace Go.Proofs.YtjdaglmkljbfkaaDoor
open Go Go.Gx Go.RowKit
set_option maxRecDepth 100000
theorem decA_spec (w0 : Base) (η : Heap) (hG : Sets w0) (L : Lay) (sv : Value) (bs : List Nat) (hs : SlA (St w0 η) sv 1 bs.length (byV bs)) (hb : ∀ c ∈ bs, c < 256) :
    CallsT Tryd.prog 45 [L.val, sv] (St w0 η) fun v A' => ∃ rv H, v = .tuple #[.agg #[rv, nilS], .int .i64 (dcE L bs)] ∧ Frag 67 7 rv (dcO L bs).length (flatR (dcO L bs)) H ∧ A' = St w0 (H ++ η) := by
  refine CallsT.body Tryd.func45 rfl rfl ?_
  simp only [Tryd.ntmps45, slotsOf, Nat.reduceAdd]
  refine TC_seq ?_
  refine TC_reg ?_
  refine TL_e rfl rfl rfl (rfl) (ET_box rfl rfl) ?_
  rintro _ _ ⟨b2, rfl, rfl⟩
  refine TL_e rfl rfl rfl (rfl) (ET_alloc rfl YtjdaglmkljbfkaaDoorF.zero_33) ?_
  rintro _ _ ⟨b4, rfl, rfl⟩
  refine TL_q rfl rfl (QT_assign rfl rfl rfl) ?_
  refine TL_nil ?_
  refine TX_then ?_
  refine TC_seq ?_
  refine TC_A (St w0 ((b4, 33, [nilS, nilS]) :: (b2, 27, L.cells) :: η)) (fun _ h => h) ?_
  refine TC_draw [(1, 0), (2, 0), (0, 1), (3, 1), (4, 0), (5, 0), (6, 0), (7, 0), (8, 1), (9, 0)] YtjdaglmkljbfkaaDoorF.mixed (by kernel_rfl) (St.calm _ _) ?_
  first
    | refine TV_ql rfl rfl rfl (QT_loadW 0 rfl rfl Tryd.underlying27 rfl rfl rfl YtjdaglmkljbfkaaDoorF.sz_27) ?_
    | refine TV_ql rfl rfl rfl (QT_loadW 1 rfl rfl Tryd.underlying27 rfl rfl rfl YtjdaglmkljbfkaaDoorF.sz_27) ?_
    | refine TV_ql rfl rfl rfl (QT_loadW 2 rfl rfl Tryd.underlying27 rfl rfl rfl YtjdaglmkljbfkaaDoorF.sz_27) ?_
    | refine TV_ql rfl rfl rfl (QT_loadA 0 rfl rfl Tryd.underlying27 rfl rfl rfl YtjdaglmkljbfkaaDoorF.sz_27 (fun _ => rfl)) ?_
    | refine TV_ql rfl rfl rfl (QT_loadA 1 rfl rfl Tryd.underlying27 rfl rfl rfl YtjdaglmkljbfkaaDoorF.sz_27 (fun _ => rfl)) ?_
    | refine TV_ql rfl rfl rfl (QT_loadA 2 rfl rfl Tryd.underlying27 rfl rfl rfl YtjdaglmkljbfkaaDoorF.sz_27 (fun _ => rfl)) ?_
  refine TV_q rfl rfl rfl (fun _ => QT_move rfl rfl rfl) ?_
  refine TV_cq rfl rfl rfl rfl rfl YtjdaglmkljbfkaaDoorF.cal_47 rfl (fun _ => vertices_spec w0 _) (.keep (by kernel_rfl) rfl (by first | exact QT_loadW 0 rfl rfl Tryd.underlying27 rfl rfl rfl YtjdaglmkljbfkaaDoorF.sz_27 | exact QT_loadW 1 rfl rfl Tryd.underlying27 rfl rfl rfl YtjdaglmkljbfkaaDoorF.sz_27 | exact QT_loadW 2 rfl rfl Tryd.underlying27 rfl rfl rfl YtjdaglmkljbfkaaDoorF.sz_27 | exact QT_loadA 0 rfl rfl Tryd.underlying27 rfl rfl rfl YtjdaglmkljbfkaaDoorF.sz_27 (fun _ => rfl) | exact QT_loadA 1 rfl rfl Tryd.underlying27 rfl rfl rfl YtjdaglmkljbfkaaDoorF.sz_27 (fun _ => rfl) | exact QT_loadA 2 rfl rfl Tryd.underlying27 rfl rfl rfl YtjdaglmkljbfkaaDoorF.sz_27 (fun _ => rfl)) (.nil)) ?_
  refine TV_e rfl rfl rfl rfl (rfl) (ET_call rfl YtjdaglmkljbfkaaDoorF.cal_46 rfl (decodeR_spec w0 _ hG L _ bs (hs.mono fun _ h => h.tail.tail) hb)) ?_
  rintro _ _ ⟨rv, H1, rfl, hF1, rfl⟩
  refine ⟨_, .drop (by kernel_rfl) (.nil), ?_⟩
  refine TV_q rfl rfl rfl (fun _ => QT_move rfl rfl rfl) ?_
  refine TV_q rfl rfl rfl (fun _ => QT_extract rfl rfl rfl rfl) ?_
  refine TV_q rfl rfl rfl (fun _ => QT_extract rfl rfl rfl rfl) ?_
  refine TV_q rfl rfl rfl (fun _ => QT_field rfl rfl YtjdaglmkljbfkaaDoorF.fld_33_0 rfl) ?_
  obtain ⟨rad, rcap, rfl, _, _⟩ := hF1.slice
  refine TV_e0 rfl rfl rfl (rfl) (ET_under (ET_store (w0 := w0) (η := (b4, 33, [nilS, nilS]) :: (H1 ++ ((b2, 27, L.cells) :: η))) (vs := [.slice rad (dcO L bs).length rcap]) 0 rfl rfl rfl rfl YtjdaglmkljbfkaaDoorF.sz_30 rfl rfl rfl) (fun w h => h.cnt fun p => by simp only [List.countP_append, List.countP_cons, List.countP_nil]; omega)) ?_
  rintro _ _ ⟨rfl, rfl⟩
  refine ⟨_, .nil, ?_⟩
  refine TV_q rfl rfl rfl (fun _ => QT_assign rfl rfl rfl) ?_
  refine TV_end ?_
  refine TX_then ?_
  refine TC_seq ?_
  refine TC_A (St w0 ((b4, 33, [.slice rad (dcO L bs).length rcap, nilS]) :: (H1 ++ ((b2, 27, L.cells) :: η)))) (fun _ h => h) ?_
  refine TC_reg ?_
  first
    | refine TL_q rfl rfl (QT_loadW 0 rfl rfl Tryd.underlying33 rfl rfl rfl YtjdaglmkljbfkaaDoorF.sz_33) ?_
    | refine TL_q rfl rfl (QT_loadW 1 rfl rfl Tryd.underlying33 rfl rfl rfl YtjdaglmkljbfkaaDoorF.sz_33) ?_
    | refine TL_q rfl rfl (QT_loadW 2 rfl rfl Tryd.underlying33 rfl rfl rfl YtjdaglmkljbfkaaDoorF.sz_33) ?_
    | refine TL_q rfl rfl (QT_loadA 0 rfl rfl Tryd.underlying33 rfl rfl rfl YtjdaglmkljbfkaaDoorF.sz_33 (fun _ => rfl)) ?_
    | refine TL_q rfl rfl (QT_loadA 1 rfl rfl Tryd.underlying33 rfl rfl rfl YtjdaglmkljbfkaaDoorF.sz_33 (fun _ => rfl)) ?_
    | refine TL_q rfl rfl (QT_loadA 2 rfl rfl Tryd.underlying33 rfl rfl rfl YtjdaglmkljbfkaaDoorF.sz_33 (fun _ => rfl)) ?_
  refine TL_q rfl rfl (QT_move rfl rfl rfl) ?_
  first
    | refine TL_e0 rfl rfl (rfl) (ET_storeW 0 rfl rfl rfl YtjdaglmkljbfkaaDoorF.sz_33 rfl rfl rfl) ?_
    | refine TL_e0 rfl rfl (rfl) (ET_storeW 1 rfl rfl rfl YtjdaglmkljbfkaaDoorF.sz_33 rfl rfl rfl) ?_
    | refine TL_e0 rfl rfl (rfl) (ET_storeW 2 rfl rfl rfl YtjdaglmkljbfkaaDoorF.sz_33 rfl rfl rfl) ?_
    | refine TL_e0 rfl rfl (rfl) (ET_store 0 rfl rfl rfl rfl YtjdaglmkljbfkaaDoorF.sz_33 rfl rfl rfl) ?_
    | refine TL_e0 rfl rfl (rfl) (ET_store 1 rfl rfl rfl rfl YtjdaglmkljbfkaaDoorF.sz_33 rfl rfl rfl) ?_
    | refine TL_e0 rfl rfl (rfl) (ET_store 2 rfl rfl rfl rfl YtjdaglmkljbfkaaDoorF.sz_33 rfl rfl rfl) ?_
  rintro _ _ ⟨rfl, rfl⟩
  refine TL_q rfl rfl (QT_assign rfl rfl rfl) ?_
  refine TL_nil ?_
  refine TX_then ?_
  refine TC_ret ?_
  exact TX_ret (.inl rfl) (resCT 0 rfl rfl rfl Tryd.underlying33 rfl rfl YtjdaglmkljbfkaaDoorF.sz_33) ⟨_, ⟨_, H1, rfl, hF1, rfl⟩, fun w h => h.cnt fun p => by simp only [upd, List.countP_append, List.countP_cons, List.countP_nil]; omega⟩
end Go.Proofs.YtjdaglmkljbfkaaDoor
namespace Go.Proofs.YtjdaglmkljbfkaaDoor
open Go Go.Gx Go.RowKit
set_option maxRecDepth 100000
theorem decB_spec (w0 : Base) (η : Heap) (hG : Sets w0) (hE : T12.Edges w0) (L : Lay) (sv : Value) (bs : List Nat) (hs : SlA (St w0 η) sv 1 bs.length (byV bs)) (hb : ∀ c ∈ bs, c < 256) (hl0 : bs.length ≤ 140737488355328) :
    CallsT Tryd.prog 51 [L.val, sv] (St w0 η) fun v A' => ∃ rv H, v = .tuple #[.agg #[nilS, rv], .int .i64 (dsE L bs)] ∧ Frag 79 49 rv (dsO L bs).length (flatS (dsO L bs)) H ∧ A' = St w0 (H ++ η) := by
  refine CallsT.body Tryd.func51 rfl rfl ?_
  simp only [Tryd.ntmps51, slotsOf, Nat.reduceAdd]
  refine TC_seq ?_
  refine TC_reg ?_
  refine TL_e rfl rfl rfl (rfl) (ET_box rfl rfl) ?_
  rintro _ _ ⟨b2, rfl, rfl⟩
  refine TL_e rfl rfl rfl (rfl) (ET_alloc rfl YtjdaglmkljbfkaaDoorF.zero_33) ?_
  rintro _ _ ⟨b4, rfl, rfl⟩
  refine TL_q rfl rfl (QT_assign rfl rfl rfl) ?_
  refine TL_nil ?_
  refine TX_then ?_
  refine TC_seq ?_
  refine TC_A (St w0 ((b4, 33, [nilS, nilS]) :: (b2, 27, L.cells) :: η)) (fun _ h => h) ?_
  refine TC_draw [(1, 0), (2, 0), (0, 1), (3, 1), (4, 0), (5, 0), (6, 0), (7, 0), (8, 1), (9, 0)] YtjdaglmkljbfkaaDoorF.mixed (by kernel_rfl) (St.calm _ _) ?_
  first
    | refine TV_ql rfl rfl rfl (QT_loadW 0 rfl rfl Tryd.underlying27 rfl rfl rfl YtjdaglmkljbfkaaDoorF.sz_27) ?_
    | refine TV_ql rfl rfl rfl (QT_loadW 1 rfl rfl Tryd.underlying27 rfl rfl rfl YtjdaglmkljbfkaaDoorF.sz_27) ?_
    | refine TV_ql rfl rfl rfl (QT_loadW 2 rfl rfl Tryd.underlying27 rfl rfl rfl YtjdaglmkljbfkaaDoorF.sz_27) ?_
    | refine TV_ql rfl rfl rfl (QT_loadA 0 rfl rfl Tryd.underlying27 rfl rfl rfl YtjdaglmkljbfkaaDoorF.sz_27 (fun _ => rfl)) ?_
    | refine TV_ql rfl rfl rfl (QT_loadA 1 rfl rfl Tryd.underlying27 rfl rfl rfl YtjdaglmkljbfkaaDoorF.sz_27 (fun _ => rfl)) ?_
    | refine TV_ql rfl rfl rfl (QT_loadA 2 rfl rfl Tryd.underlying27 rfl rfl rfl YtjdaglmkljbfkaaDoorF.sz_27 (fun _ => rfl)) ?_
  refine TV_q rfl rfl rfl (fun _ => QT_move rfl rfl rfl) ?_
  refine TV_cq rfl rfl rfl rfl rfl YtjdaglmkljbfkaaDoorF.cal_53 rfl (fun _ => patches_spec w0 _) (.keep (by kernel_rfl) rfl (by first | exact QT_loadW 0 rfl rfl Tryd.underlying27 rfl rfl rfl YtjdaglmkljbfkaaDoorF.sz_27 | exact QT_loadW 1 rfl rfl Tryd.underlying27 rfl rfl rfl YtjdaglmkljbfkaaDoorF.sz_27 | exact QT_loadW 2 rfl rfl Tryd.underlying27 rfl rfl rfl YtjdaglmkljbfkaaDoorF.sz_27 | exact QT_loadA 0 rfl rfl Tryd.underlying27 rfl rfl rfl YtjdaglmkljbfkaaDoorF.sz_27 (fun _ => rfl) | exact QT_loadA 1 rfl rfl Tryd.underlying27 rfl rfl rfl YtjdaglmkljbfkaaDoorF.sz_27 (fun _ => rfl) | exact QT_loadA 2 rfl rfl Tryd.underlying27 rfl rfl rfl YtjdaglmkljbfkaaDoorF.sz_27 (fun _ => rfl)) (.nil)) ?_
  refine TV_e rfl rfl rfl rfl (rfl) (ET_call rfl YtjdaglmkljbfkaaDoorF.cal_52 rfl (decodeS_spec w0 _ hG hE L _ bs (hs.mono fun _ h => h.tail.tail) hb hl0)) ?_
  rintro _ _ ⟨rv, H1, rfl, hF1, rfl⟩
  refine ⟨_, .drop (by kernel_rfl) (.nil), ?_⟩
  refine TV_q rfl rfl rfl (fun _ => QT_move rfl rfl rfl) ?_
  refine TV_q rfl rfl rfl (fun _ => QT_extract rfl rfl rfl rfl) ?_
  refine TV_q rfl rfl rfl (fun _ => QT_extract rfl rfl rfl rfl) ?_
  refine TV_q rfl rfl rfl (fun _ => QT_field rfl rfl YtjdaglmkljbfkaaDoorF.fld_33_1 rfl) ?_
  obtain ⟨rad, rcap, rfl, _, _⟩ := hF1.slice
  refine TV_e0 rfl rfl rfl (rfl) (ET_under (ET_store (w0 := w0) (η := (b4, 33, [nilS, nilS]) :: (H1 ++ ((b2, 27, L.cells) :: η))) (vs := [.slice rad (dsO L bs).length rcap]) 0 rfl rfl rfl rfl YtjdaglmkljbfkaaDoorF.sz_31 rfl rfl rfl) (fun w h => h.cnt fun p => by simp only [List.countP_append, List.countP_cons, List.countP_nil]; omega)) ?_
  rintro _ _ ⟨rfl, rfl⟩
  refine ⟨_, .nil, ?_⟩
  refine TV_q rfl rfl rfl (fun _ => QT_assign rfl rfl rfl) ?_
  refine TV_end ?_
  refine TX_then ?_
  refine TC_seq ?_
  refine TC_A (St w0 ((b4, 33, [nilS, .slice rad (dsO L bs).length rcap]) :: (H1 ++ ((b2, 27, L.cells) :: η)))) (fun _ h => h) ?_
  refine TC_reg ?_
  first
    | refine TL_q rfl rfl (QT_loadW 0 rfl rfl Tryd.underlying33 rfl rfl rfl YtjdaglmkljbfkaaDoorF.sz_33) ?_
    | refine TL_q rfl rfl (QT_loadW 1 rfl rfl Tryd.underlying33 rfl rfl rfl YtjdaglmkljbfkaaDoorF.sz_33) ?_
    | refine TL_q rfl rfl (QT_loadW 2 rfl rfl Tryd.underlying33 rfl rfl rfl YtjdaglmkljbfkaaDoorF.sz_33) ?_
    | refine TL_q rfl rfl (QT_loadA 0 rfl rfl Tryd.underlying33 rfl rfl rfl YtjdaglmkljbfkaaDoorF.sz_33 (fun _ => rfl)) ?_
    | refine TL_q rfl rfl (QT_loadA 1 rfl rfl Tryd.underlying33 rfl rfl rfl YtjdaglmkljbfkaaDoorF.sz_33 (fun _ => rfl)) ?_
    | refine TL_q rfl rfl (QT_loadA 2 rfl rfl Tryd.underlying33 rfl rfl rfl YtjdaglmkljbfkaaDoorF.sz_33 (fun _ => rfl)) ?_
  refine TL_q rfl rfl (QT_move rfl rfl rfl) ?_
  first
    | refine TL_e0 rfl rfl (rfl) (ET_storeW 0 rfl rfl rfl YtjdaglmkljbfkaaDoorF.sz_33 rfl rfl rfl) ?_
    | refine TL_e0 rfl rfl (rfl) (ET_storeW 1 rfl rfl rfl YtjdaglmkljbfkaaDoorF.sz_33 rfl rfl rfl) ?_
    | refine TL_e0 rfl rfl (rfl) (ET_storeW 2 rfl rfl rfl YtjdaglmkljbfkaaDoorF.sz_33 rfl rfl rfl) ?_
    | refine TL_e0 rfl rfl (rfl) (ET_store 0 rfl rfl rfl rfl YtjdaglmkljbfkaaDoorF.sz_33 rfl rfl rfl) ?_
    | refine TL_e0 rfl rfl (rfl) (ET_store 1 rfl rfl rfl rfl YtjdaglmkljbfkaaDoorF.sz_33 rfl rfl rfl) ?_
    | refine TL_e0 rfl rfl (rfl) (ET_store 2 rfl rfl rfl rfl YtjdaglmkljbfkaaDoorF.sz_33 rfl rfl rfl) ?_
  rintro _ _ ⟨rfl, rfl⟩
  refine TL_q rfl rfl (QT_assign rfl rfl rfl) ?_
  refine TL_nil ?_
  refine TX_then ?_
  refine TC_ret ?_
  exact TX_ret (.inl rfl) (resCT 0 rfl rfl rfl Tryd.underlying33 rfl rfl YtjdaglmkljbfkaaDoorF.sz_33) ⟨_, ⟨_, H1, rfl, hF1, rfl⟩, fun w h => h.cnt fun p => by simp only [upd, List.countP_append, List.countP_cons, List.countP_nil]; omega⟩
end Go.Proofs.YtjdaglmkljbfkaaDoor
namespace Go.Proofs.YtjdaglmkljbfkaaDoor
open Go Go.Gx Go.RowKit
set_option maxRecDepth 100000
theorem encA_spec (w0 : Base) (η : Heap) (hG : Sets w0) (L : Lay) (ra sa : Option Addr) (ns rc sc : Nat) (rs : List (List Nat)) (hs : SlA (St w0 η) (.slice ra rs.length rc) 7 rs.length (flatR rs)) (hr : ∀ r ∈ rs, RcF r) (hn : rs.length ≤ 100000000) :
    CallsT Tryd.prog 48 [L.val, .agg #[.slice ra rs.length rc, .slice sa ns sc]] (St w0 η) fun v A' => ∃ bv H, v = .tuple #[bv, .int .i64 (ecE L rs)] ∧ Frag 5 1 bv (ecO L rs).length (byV (ecO L rs)) H ∧ A' = St w0 (H ++ η) := by
  refine CallsT.body Tryd.func48 rfl rfl ?_
  simp only [Tryd.ntmps48, slotsOf, Nat.reduceAdd]
  refine TC_seq ?_
  refine TC_reg ?_
  refine TL_e rfl rfl rfl (rfl) (ET_box rfl rfl) ?_
  rintro _ _ ⟨b2, rfl, rfl⟩
  refine TL_e rfl rfl rfl (rfl) (ET_box rfl rfl) ?_
  rintro _ _ ⟨b3, rfl, rfl⟩
  refine TL_q rfl rfl (QT_assign rfl rfl rfl) ?_
  refine TL_q rfl rfl (QT_assign rfl rfl rfl) ?_
  refine TL_nil ?_
  refine TX_then ?_
  refine TC_seq ?_
  refine TC_A (St w0 ((b3, 33, [.slice ra rs.length rc, .slice sa ns sc]) :: (b2, 27, L.cells) :: η)) (fun _ h => h) ?_
  refine TC_draw [(1, 0), (2, 0), (3, 0), (0, 1), (4, 1), (5, 0), (6, 0), (7, 0), (8, 0)] YtjdaglmkljbfkaaDoorF.mixed (by kernel_rfl) (St.calm _ _) ?_
  first
    | refine TV_ql rfl rfl rfl (QT_loadW 0 rfl rfl Tryd.underlying27 rfl rfl rfl YtjdaglmkljbfkaaDoorF.sz_27) ?_
    | refine TV_ql rfl rfl rfl (QT_loadW 1 rfl rfl Tryd.underlying27 rfl rfl rfl YtjdaglmkljbfkaaDoorF.sz_27) ?_
    | refine TV_ql rfl rfl rfl (QT_loadW 2 rfl rfl Tryd.underlying27 rfl rfl rfl YtjdaglmkljbfkaaDoorF.sz_27) ?_
    | refine TV_ql rfl rfl rfl (QT_loadA 0 rfl rfl Tryd.underlying27 rfl rfl rfl YtjdaglmkljbfkaaDoorF.sz_27 (fun _ => rfl)) ?_
    | refine TV_ql rfl rfl rfl (QT_loadA 1 rfl rfl Tryd.underlying27 rfl rfl rfl YtjdaglmkljbfkaaDoorF.sz_27 (fun _ => rfl)) ?_
    | refine TV_ql rfl rfl rfl (QT_loadA 2 rfl rfl Tryd.underlying27 rfl rfl rfl YtjdaglmkljbfkaaDoorF.sz_27 (fun _ => rfl)) ?_
  refine TV_q rfl rfl rfl (fun _ => QT_field rfl rfl YtjdaglmkljbfkaaDoorF.fld_33_0 rfl) ?_
  first
    | refine TV_ql rfl rfl rfl (QT_load 0 rfl rfl Tryd.underlying30 rfl rfl rfl (fun _ => rfl)) ?_
    | refine TV_ql rfl rfl rfl (QT_load 1 rfl rfl Tryd.underlying30 rfl rfl rfl (fun _ => rfl)) ?_
    | refine TV_ql rfl rfl rfl (QT_load 2 rfl rfl Tryd.underlying30 rfl rfl rfl (fun _ => rfl)) ?_
  refine TV_cq rfl rfl rfl rfl rfl YtjdaglmkljbfkaaDoorF.cal_47 rfl (fun _ => vertices_spec w0 _) (.keep (by kernel_rfl) rfl (by first | exact QT_load 0 rfl rfl Tryd.underlying30 rfl rfl rfl (fun _ => rfl) | exact QT_load 1 rfl rfl Tryd.underlying30 rfl rfl rfl (fun _ => rfl) | exact QT_load 2 rfl rfl Tryd.underlying30 rfl rfl rfl (fun _ => rfl)) (.keep (by kernel_rfl) rfl (by first | exact QT_loadW 0 rfl rfl Tryd.underlying27 rfl rfl rfl YtjdaglmkljbfkaaDoorF.sz_27 | exact QT_loadW 1 rfl rfl Tryd.underlying27 rfl rfl rfl YtjdaglmkljbfkaaDoorF.sz_27 | exact QT_loadW 2 rfl rfl Tryd.underlying27 rfl rfl rfl YtjdaglmkljbfkaaDoorF.sz_27 | exact QT_loadA 0 rfl rfl Tryd.underlying27 rfl rfl rfl YtjdaglmkljbfkaaDoorF.sz_27 (fun _ => rfl) | exact QT_loadA 1 rfl rfl Tryd.underlying27 rfl rfl rfl YtjdaglmkljbfkaaDoorF.sz_27 (fun _ => rfl) | exact QT_loadA 2 rfl rfl Tryd.underlying27 rfl rfl rfl YtjdaglmkljbfkaaDoorF.sz_27 (fun _ => rfl)) (.nil))) ?_
  refine TV_e rfl rfl rfl rfl (rfl) (ET_call rfl YtjdaglmkljbfkaaDoorF.cal_49 rfl (encodeR_spec w0 _ hG L _ rs (hs.mono fun _ h => h.tail.tail) hr hn)) ?_
  rintro _ _ ⟨bv, H1, rfl, hF1, rfl⟩
  refine ⟨_, .drop (by kernel_rfl) (.drop (by kernel_rfl) (.nil)), ?_⟩
  refine TV_q rfl rfl rfl (fun _ => QT_extract rfl rfl rfl rfl) ?_
  refine TV_q rfl rfl rfl (fun _ => QT_extract rfl rfl rfl rfl) ?_
  refine TV_q rfl rfl rfl (fun _ => QT_assign rfl rfl rfl) ?_
  refine TV_q rfl rfl rfl (fun _ => QT_assign rfl rfl rfl) ?_
  refine TV_end ?_
  refine TX_then ?_
  refine TC_ret ?_
  exact TX_ret (.inl rfl) (res2 rfl rfl rfl) ⟨_, ⟨_, H1, rfl, hF1, rfl⟩, fun w h => h.cnt fun p => by simp only [List.countP_append, List.countP_cons, List.countP_nil]; omega⟩
theorem encB_spec (w0 : Base) (η : Heap) (hG : Sets w0) (hE : T12.Edges w0) (L : Lay) (ra sa : Option Addr) (nr rc sc : Nat) (rs : List (List Nat)) (hs : SlA (St w0 η) (.slice sa rs.length sc) 49 rs.length (flatS rs)) (hr : ∀ r ∈ rs, ShF r) (hn : rs.length ≤ 1000000) :
    CallsT Tryd.prog 54 [L.val, .agg #[.slice ra nr rc, .slice sa rs.length sc]] (St w0 η) fun v A' => ∃ bv H, v = .tuple #[bv, .int .i64 (esE L rs)] ∧ Frag 5 1 bv (esO L rs).length (byV (esO L rs)) H ∧ A' = St w0 (H ++ η) := by
  refine CallsT.body Tryd.func54 rfl rfl ?_
  simp only [Tryd.ntmps54, slotsOf, Nat.reduceAdd]
  refine TC_seq ?_
  refine TC_reg ?_
  refine TL_e rfl rfl rfl (rfl) (ET_box rfl rfl) ?_
  rintro _ _ ⟨b2, rfl, rfl⟩
  refine TL_e rfl rfl rfl (rfl) (ET_box rfl rfl) ?_
  rintro _ _ ⟨b3, rfl, rfl⟩
  refine TL_q rfl rfl (QT_assign rfl rfl rfl) ?_
  refine TL_q rfl rfl (QT_assign rfl rfl rfl) ?_
  refine TL_nil ?_
  refine TX_then ?_
  refine TC_seq ?_
  refine TC_A (St w0 ((b3, 33, [.slice ra nr rc, .slice sa rs.length sc]) :: (b2, 27, L.cells) :: η)) (fun _ h => h) ?_
  refine TC_draw [(1, 0), (2, 0), (3, 0), (0, 1), (4, 1), (5, 0), (6, 0), (7, 0), (8, 0)] YtjdaglmkljbfkaaDoorF.mixed (by kernel_rfl) (St.calm _ _) ?_
  first
    | refine TV_ql rfl rfl rfl (QT_loadW 0 rfl rfl Tryd.underlying27 rfl rfl rfl YtjdaglmkljbfkaaDoorF.sz_27) ?_
    | refine TV_ql rfl rfl rfl (QT_loadW 1 rfl rfl Tryd.underlying27 rfl rfl rfl YtjdaglmkljbfkaaDoorF.sz_27) ?_
    | refine TV_ql rfl rfl rfl (QT_loadW 2 rfl rfl Tryd.underlying27 rfl rfl rfl YtjdaglmkljbfkaaDoorF.sz_27) ?_
    | refine TV_ql rfl rfl rfl (QT_loadA 0 rfl rfl Tryd.underlying27 rfl rfl rfl YtjdaglmkljbfkaaDoorF.sz_27 (fun _ => rfl)) ?_
    | refine TV_ql rfl rfl rfl (QT_loadA 1 rfl rfl Tryd.underlying27 rfl rfl rfl YtjdaglmkljbfkaaDoorF.sz_27 (fun _ => rfl)) ?_
    | refine TV_ql rfl rfl rfl (QT_loadA 2 rfl rfl Tryd.underlying27 rfl rfl rfl YtjdaglmkljbfkaaDoorF.sz_27 (fun _ => rfl)) ?_
  refine TV_q rfl rfl rfl (fun _ => QT_field rfl rfl YtjdaglmkljbfkaaDoorF.fld_33_1 rfl) ?_
  first
    | refine TV_ql rfl rfl rfl (QT_load 0 rfl rfl Tryd.underlying31 rfl rfl rfl (fun _ => rfl)) ?_
    | refine TV_ql rfl rfl rfl (QT_load 1 rfl rfl Tryd.underlying31 rfl rfl rfl (fun _ => rfl)) ?_
    | refine TV_ql rfl rfl rfl (QT_load 2 rfl rfl Tryd.underlying31 rfl rfl rfl (fun _ => rfl)) ?_
  refine TV_cq rfl rfl rfl rfl rfl YtjdaglmkljbfkaaDoorF.cal_53 rfl (fun _ => patches_spec w0 _) (.keep (by kernel_rfl) rfl (by first | exact QT_load 0 rfl rfl Tryd.underlying31 rfl rfl rfl (fun _ => rfl) | exact QT_load 1 rfl rfl Tryd.underlying31 rfl rfl rfl (fun _ => rfl) | exact QT_load 2 rfl rfl Tryd.underlying31 rfl rfl rfl (fun _ => rfl)) (.keep (by kernel_rfl) rfl (by first | exact QT_loadW 0 rfl rfl Tryd.underlying27 rfl rfl rfl YtjdaglmkljbfkaaDoorF.sz_27 | exact QT_loadW 1 rfl rfl Tryd.underlying27 rfl rfl rfl YtjdaglmkljbfkaaDoorF.sz_27 | exact QT_loadW 2 rfl rfl Tryd.underlying27 rfl rfl rfl YtjdaglmkljbfkaaDoorF.sz_27 | exact QT_loadA 0 rfl rfl Tryd.underlying27 rfl rfl rfl YtjdaglmkljbfkaaDoorF.sz_27 (fun _ => rfl) | exact QT_loadA 1 rfl rfl Tryd.underlying27 rfl rfl rfl YtjdaglmkljbfkaaDoorF.sz_27 (fun _ => rfl) | exact QT_loadA 2 rfl rfl Tryd.underlying27 rfl rfl rfl YtjdaglmkljbfkaaDoorF.sz_27 (fun _ => rfl)) (.nil))) ?_
  refine TV_e rfl rfl rfl rfl (rfl) (ET_call rfl YtjdaglmkljbfkaaDoorF.cal_55 rfl (encodeS_spec w0 _ hG hE L _ rs (hs.mono fun _ h => h.tail.tail) hr hn)) ?_
  rintro _ _ ⟨bv, H1, rfl, hF1, rfl⟩
  refine ⟨_, .drop (by kernel_rfl) (.drop (by kernel_rfl) (.nil)), ?_⟩
  refine TV_q rfl rfl rfl (fun _ => QT_extract rfl rfl rfl rfl) ?_
  refine TV_q rfl rfl rfl (fun _ => QT_extract rfl rfl rfl rfl) ?_
  refine TV_q rfl rfl rfl (fun _ => QT_assign rfl rfl rfl) ?_
  refine TV_q rfl rfl rfl (fun _ => QT_assign rfl rfl rfl) ?_
  refine TV_end ?_
  refine TX_then ?_
  refine TC_ret ?_
  exact TX_ret (.inl rfl) (res2 rfl rfl rfl) ⟨_, ⟨_, H1, rfl, hF1, rfl⟩, fun w h => h.cnt fun p => by simp only [List.countP_append, List.countP_cons, List.countP_nil]; omega⟩
end Go.Proofs.YtjdaglmkljbfkaaDoor

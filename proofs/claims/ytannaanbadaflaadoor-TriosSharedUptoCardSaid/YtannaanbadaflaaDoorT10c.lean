/- TRIANGLES OF VERTICES OF TYPE 5: rows of the program, cells of the document. -/
import Derived.Test.YtannaanbadaflaaDoorT10b
namespace Go.Proofs.YtannaanbadaflaaDoor
open Go Go.Gx Go.RowKit
set_option maxRecDepth 100000

def at7 (rs : List R) (i : Nat) : R := rs.getD i zR
theorem at7_some {rs : List R} {i : Nat} (h : i < rs.length) : rs[i]? = some (at7 rs i) := by
  rw [at7, List.getD_eq_getElem?_getD, List.getElem?_eq_getElem h]; rfl
theorem flat_at7 {rs : List R} {i : Nat} (ha : All7 rs) (h : i < rs.length) : (rs.flatten.drop (i * 7)).take 7 = at7 rs i ∧ i * 7 + 7 ≤ rs.flatten.length := flat_at ha.len (at7_some h)
theorem at7_ints {rs : List R} {i : Nat} (ha : All7 rs) (h : i < rs.length) : Ints recK (at7 rs i) := ha _ (List.mem_of_getElem? (at7_some h))
def cellF (rs : List R) (row i : Nat) : List R :=
  if i % row = row - 1 then [] else [B3 (at7 rs i) (at7 rs (i + 1)) (at7 rs (i + row)), B3 (at7 rs (i + 1)) (at7 rs (i + row + 1)) (at7 rs (i + row))]
def outT (rs : List R) (row n : Nat) : List R := (List.range n).flatMap (cellF rs row)
theorem outT_succ (rs : List R) (row n : Nat) : outT rs row (n + 1) = outT rs row n ++ cellF rs row n := by
  simp [outT, List.range_succ, List.flatMap_append]
theorem outT_len (rs : List R) (row : Nat) : ∀ n, (outT rs row n).length ≤ 2 * n
  | 0 => by simp [outT]
  | n + 1 => by
    have h := outT_len rs row n
    have h2 : (cellF rs row n).length ≤ 2 := by unfold cellF; split <;> simp
    rw [outT_succ, List.length_append]; omega
theorem B3_ints {a b c : R} (ha : Ints recK a) (hb : Ints recK b) (hc : Ints recK c) : Ints triK (B3 a b c) := T3_ints (bareR_ints ha) (bareR_ints hb) (bareR_ints hc)
def rowsF (rs : List R) (row : Nat) : List R × Int := if rs.length % row = 0 ∧ 2 ≤ rs.length / row then (outT rs row (rs.length - row), 0) else ([], 5)
theorem icast_mod (a b : Nat) : (a : Int) % (b : Int) = ((a % b : Nat) : Int) := rfl
theorem icast_div (a b : Nat) : (a : Int) / (b : Int) = ((a / b : Nat) : Int) := rfl
theorem icast_mul (a b : Nat) : (a : Int) * (b : Int) = ((a * b : Nat) : Int) := rfl
theorem i64_mul {a b : Nat} (h : a * b ≤ 9223372036854775807) : -9223372036854775808 ≤ (a : Int) * (b : Int) ∧ (a : Int) * (b : Int) ≤ 9223372036854775807 := by
  rw [icast_mul]; omega
theorem two_rows {n row : Nat} (h0 : n % row = 0) (h2 : 2 ≤ n / row) : 2 * row ≤ n ∧ n / row * row = n := by
  have h := Nat.div_mul_cancel (Nat.dvd_of_mod_eq_zero h0)
  refine ⟨?_, h⟩
  calc 2 * row ≤ n / row * row := Nat.mul_le_mul_right _ h2
    _ = n := h

theorem two_own {a b : R} (ha : a.length = 21) (hb : b.length = 21) : ((([Value.agg a.toArray, Value.agg b.toArray].map fun v => v.cells.toList).flatten.drop 0).take (2 * 21)) = a ++ b := by
  rw [List.drop_zero, List.take_of_length_le (by simp [Value.cells, ha, hb])]
  simp [Value.cells]

theorem two_len {a b : R} (ha : a.length = 21) (hb : b.length = 21) : 0 + 2 * 21 ≤ ([Value.agg a.toArray, Value.agg b.toArray].map fun v => v.cells.toList).flatten.length := by
  simp [Value.cells, ha, hb]
theorem one_own {a : R} (ha : a.length = 21) : ((([Value.agg a.toArray].map fun v => v.cells.toList).flatten.drop 0).take (1 * 21)) = a := by
  rw [List.drop_zero, List.take_of_length_le (by simp [Value.cells, ha])]
  simp [Value.cells]
theorem one_len {a : R} (ha : a.length = 21) : 0 + 1 * 21 ≤ ([Value.agg a.toArray].map fun v => v.cells.toList).flatten.length := by
  simp [Value.cells, ha]

set_option maxHeartbeats 1000000 in
theorem rows_spec (w0 : World) (η : Heap) (sv : Value) (rs : List R) (row : Nat) (hs : SlA (St w0 η) sv 7 rs.length rs.flatten) (ha : All7 rs) (hrow : 1 ≤ row) (hn : rs.length * 120 ≤ 140737488355328) :
    CallsT Tryd.prog 21 [sv, .int .i64 (row : Int)] (St w0 η) fun v A' => ∃ pv H, v = .tuple #[pv, .int .i64 (rowsF rs row).2] ∧ Frag 65 21 pv (rowsF rs row).1.length (rowsF rs row).1.flatten H ∧ A' = St w0 (H ++ η) := by
  obtain ⟨_, ad, cap, sb, so, rfl, hcap, had, hrd⟩ := hs.some
  refine CallsT.body Tryd.func21 rfl rfl ?_
  simp only [Tryd.ntmps21, slotsOf, Nat.reduceAdd]
  refine TC_seq ?_
  refine TC_reg ?_
  refine TL_q rfl rfl (QT_assign rfl rfl rfl) ?_
  refine TL_q rfl rfl (QT_assign rfl rfl rfl) ?_
  refine TL_nil ?_
  refine TX_then ?_
  refine TC_scope ?_
  refine TC_seq ?_
  refine TC_seq ?_
  refine TC_reg ?_
  refine TL_q rfl rfl (QT_move rfl rfl rfl) ?_
  refine TL_q rfl rfl (QT_len rfl rfl Tryd.underlying28 rfl) ?_
  refine TL_q rfl rfl (QT_move rfl rfl rfl) ?_
  refine TL_q rfl rfl (QT_rem rfl rfl rfl rfl (fun _ => ⟨by omega, by omega⟩)) ?_
  refine TL_q rfl rfl (QT_neq rfl rfl rfl rfl) ?_
  refine TL_q rfl rfl (QT_move rfl rfl rfl) ?_
  refine TL_q rfl rfl (QT_move rfl rfl rfl) ?_
  refine TL_q rfl rfl (QT_len rfl rfl Tryd.underlying28 rfl) ?_
  refine TL_q rfl rfl (QT_move rfl rfl rfl) ?_
  refine TL_q rfl rfl (QT_quo rfl rfl rfl rfl (fun _ => ⟨by omega, by omega, by omega⟩)) ?_
  refine TL_q rfl rfl (QT_lss rfl rfl rfl rfl) ?_
  refine TL_q rfl rfl (QT_or rfl rfl rfl rfl) ?_
  refine TL_nil ?_
  refine TX_then ?_
  first
    | refine TC_cond_dec rfl (fun h23 => ?_) (fun h23 => ?_)
    | refine TC_cond rfl (fun h23 => ?_) (fun h23 => ?_)
  ·
    refine TC_seq ?_
    refine TC_reg ?_
    refine TL_q rfl rfl (QT_assign rfl rfl rfl) ?_
    refine TL_q rfl rfl (QT_assign rfl rfl rfl) ?_
    refine TL_nil ?_
    refine TX_then ?_
    refine TC_ret ?_
    refine TX_then_ret ?_
    refine TX_scope_ret ?_
    have he : rowsF rs row = ([], 5) := by
      rw [rowsF, if_neg]
      rw [icast_mod, icast_div] at h23
      simp only [Bool.or_eq_true, decide_eq_true_eq] at h23
      omega
    rw [he]
    exact TX_ret (.inl rfl) (res2 rfl rfl rfl) ⟨_, ⟨_, [], rfl, Frag.nil _ _, rfl⟩, (fun _ h => by first | exact h | exact h.tail | exact h.tail.tail | exact h.tail.tail.tail | exact h.tail.tail.tail.tail | exact h.tail.tail.tail.tail.tail | exact h.tail.tail.tail.tail.tail.tail | exact h.tail.tail.tail.tail.tail.tail.tail | exact h.tail.tail.tail.tail.tail.tail.tail.tail | exact h.tail.tail.tail.tail.tail.tail.tail.tail.tail | exact h.tail.tail.tail.tail.tail.tail.tail.tail.tail.tail | exact h.tail.tail.tail.tail.tail.tail.tail.tail.tail.tail.tail | exact h.tail.tail.tail.tail.tail.tail.tail.tail.tail.tail.tail.tail | exact h.tail.tail.tail.tail.tail.tail.tail.tail.tail.tail.tail.tail.tail)⟩
  ·
    refine TC_skip ?_
    refine TX_then ?_
    refine TC_seq ?_
    rw [icast_mod, icast_div] at h23
    simp only [Bool.or_eq_false_iff, decide_eq_false_iff_not, ne_eq, Classical.not_not] at h23
    have hm0 : rs.length % row = 0 := by omega
    have hm2 : 2 ≤ rs.length / row := by omega
    obtain ⟨h2r, _⟩ := two_rows hm0 hm2
    have he : rowsF rs row = (outT rs row (rs.length - row), 0) := by rw [rowsF, if_pos ⟨hm0, hm2⟩]
    rw [he]
    clear he h23
    refine TC_reg ?_
    refine TL_q rfl rfl (QT_assign rfl rfl rfl) ?_
    refine TL_nil ?_
    refine TX_then ?_
    refine TC_seq ?_
    refine TC_label ?_
    refine TX_then ?_
    refine TC_seq ?_
    refine TC_seq ?_
    refine TC_reg ?_
    refine TL_q rfl rfl (QT_move rfl rfl rfl) ?_
    refine TL_q rfl rfl (QT_len rfl rfl Tryd.underlying28 rfl) ?_
    refine TL_q rfl rfl (QT_move rfl rfl rfl) ?_
    refine TL_q rfl rfl (QT_sub rfl rfl rfl rfl (fun _ => ⟨by omega, by omega⟩)) ?_
    refine TL_q rfl rfl (QT_move rfl rfl rfl) ?_
    refine TL_nil ?_
    refine TX_then ?_
    refine TC_block ?_
    refine TC_loop (γ := { t : Nat × Value × Heap // t.1 ≤ rs.length - row ∧ Frag 65 21 t.2.1 (outT rs row t.1).length (outT rs row t.1).flatten t.2.2 }) (fun t => [(0, true, .slice ad rs.length cap), (1, true, .int .i64 (row : Int)), (6, true, t.1.2.1), (27, true, .int .i64 ((rs.length : Int) - (row : Int))), (28, true, .int .i64 (t.1.1 : Int))]) (fun t => St w0 (t.1.2.2 ++ η)) (fun t => rs.length - row - t.1.1) ⟨(0, .slice none 0 0, []), Nat.zero_le _, Frag.nil _ _⟩ ⟨rfl, rfl, rfl, rfl, rfl, trivial⟩ (fun _ h => h) ?_
    rintro ⟨⟨i, fv, H⟩, hi, hfr⟩
    dsimp only at hi hfr ⊢
    refine TC_seq ?_
    refine TC_reg ?_
    refine TL_q rfl rfl (QT_lss rfl rfl rfl rfl) ?_
    refine TL_nil ?_
    refine TX_then ?_
    refine TC_seq ?_
    first
      | refine TC_cond_dec rfl (fun h29 => ?_) (fun h29 => ?_)
      | refine TC_cond rfl (fun h29 => ?_) (fun h29 => ?_)
    ·
      refine TC_skip ?_
      refine TX_then ?_
      refine TC_cut (γ := { t : Value × Heap // Frag 65 21 t.1 (outT rs row (i + 1)).length (outT rs row (i + 1)).flatten t.2 }) (fun t => [(0, true, .slice ad rs.length cap), (1, true, .int .i64 (row : Int)), (6, true, t.1.1), (27, true, .int .i64 ((rs.length : Int) - (row : Int))), (28, true, .int .i64 (i : Int))]) (fun t => St w0 (t.1.2 ++ η)) ?_ ?_
      ·
        refine TC_block ?_
        refine TC_seq ?_
        refine TC_reg ?_
        refine TL_q rfl rfl (QT_move rfl rfl rfl) ?_
        refine TL_q rfl rfl (QT_assign rfl rfl rfl) ?_
        refine TL_nil ?_
        refine TX_then ?_
        refine TC_seq ?_
        refine TC_seq ?_
        refine TC_reg ?_
        refine TL_q rfl rfl (QT_move rfl rfl rfl) ?_
        refine TL_q rfl rfl (QT_move rfl rfl rfl) ?_
        refine TL_q rfl rfl (QT_rem rfl rfl rfl rfl (fun _ => ⟨by omega, by omega⟩)) ?_
        refine TL_q rfl rfl (QT_move rfl rfl rfl) ?_
        refine TL_q rfl rfl (QT_sub rfl rfl rfl rfl (fun _ => ⟨by omega, by omega⟩)) ?_
        refine TL_q rfl rfl (QT_eql rfl rfl rfl rfl) ?_
        refine TL_nil ?_
        refine TX_then ?_
        first
          | refine TC_cond_dec rfl (fun h36 => ?_) (fun h36 => ?_)
          | refine TC_cond rfl (fun h36 => ?_) (fun h36 => ?_)
        ·
          have hc : cellF rs row i = [] := by
            rw [cellF, if_pos]
            rw [icast_mod] at h36
            omega
          refine TC_exit ?_
          refine TX_then_exit ?_
          refine TX_block_here ?_
          exact TX_cut ⟨(fv, H), by rw [outT_succ, hc, List.append_nil]; exact hfr⟩ ⟨rfl, rfl, rfl, rfl, rfl, trivial⟩ (fun _ h => h)
        ·
          have hc : cellF rs row i = [B3 (at7 rs i) (at7 rs (i + 1)) (at7 rs (i + row)), B3 (at7 rs (i + 1)) (at7 rs (i + row + 1)) (at7 rs (i + row))] := by
            rw [cellF, if_neg]
            rw [icast_mod] at h36
            omega
          have hi1 : i < rs.length := by omega
          have hi2 : i + 1 < rs.length := by omega
          have hi3 : i + row < rs.length := by omega
          have hi4 : i + row + 1 < rs.length := by
            refine Nat.lt_of_le_of_ne (by omega) fun e => h36 ?_
            rw [icast_mod]
            have e1 : i = rs.length - row - 1 := by omega
            have e2 : (rs.length - row - 1) % row = row - 1 := by
              obtain ⟨q, hq⟩ := Nat.dvd_of_mod_eq_zero hm0
              obtain ⟨q', rfl⟩ : ∃ q', q = q' + 2 := ⟨q - 2, by
                have := h2r
                rw [hq, Nat.mul_comm 2 row] at this
                have := Nat.le_of_mul_le_mul_left this (by omega)
                omega⟩
              rw [hq, Nat.mul_add, show row * q' + row * 2 - row - 1 = row - 1 + row * q' by omega, Nat.add_mul_mod_self_left, Nat.mod_eq_of_lt (by omega)]
            rw [e1, e2]; omega
          obtain ⟨f1, g1⟩ := flat_at7 ha hi1
          obtain ⟨f2, g2⟩ := flat_at7 ha hi2
          obtain ⟨f3, g3⟩ := flat_at7 ha hi3
          obtain ⟨f4, g4⟩ := flat_at7 ha hi4
          have j1 := at7_ints ha hi1
          have j2 := at7_ints ha hi2
          have j3 := at7_ints ha hi3
          have j4 := at7_ints ha hi4
          have hl := outT_len rs row i
          have z7 : ∀ {x : R}, Ints recK x → Sz Tryd.prog 63 x.length := fun h => by rw [h.length]; exact YtannaanbadaflaaDoorF.sz_63
          generalize at7 rs i = xa at *
          generalize at7 rs (i + 1) = xb at *
          generalize at7 rs (i + row) = xc at *
          generalize at7 rs (i + row + 1) = xd at *
          have b1 : (B3 xa xb xc).length = 21 := (B3_ints j1 j2 j3).length
          have b2 : (B3 xb xd xc).length = 21 := (B3_ints j2 j4 j3).length
          refine TC_skip ?_
          refine TX_then ?_
          refine TC_seq ?_
          refine TC_draw [(0, 0), (1, 0), (2, 0), (3, 0), (4, 0), (5, 0), (6, 0), (7, 0), (8, 0), (9, 0), (10, 0), (11, 0), (12, 0), (13, 0), (14, 0), (15, 0), (16, 0), (17, 0), (18, 0), (19, 0), (20, 0), (21, 0), (22, 2), (23, 2), (24, 2), (25, 2), (26, 1), (27, 1), (28, 1), (29, 1)] YtannaanbadaflaaDoorF.mixed (by kernel_rfl) (St.calm _ _) ?_
          refine TV_q rfl rfl rfl (fun _ => QT_move rfl rfl rfl) ?_
          refine TV_q rfl rfl rfl (fun _ => QT_move rfl rfl rfl) ?_
          refine TV_q rfl rfl rfl (fun _ => QT_indexG i rfl rfl Tryd.underlying28 YtannaanbadaflaaDoorF.sz_63 rfl rfl rfl (fun _ => hi1) (fun _ => had (by omega))) ?_
          refine TV_ql rfl rfl rfl (QT_loadRAj (out := xa) (i * 7) rfl rfl Tryd.underlying63 rfl YtannaanbadaflaaDoorF.sz_63 (hrd.deep (by intro _ hw; first | exact hw | exact hw.app_right | exact hw.app_right.app_right | exact hw.tail | exact hw.tail.app_right | exact hw.tail.tail | exact hw.tail.tail.app_right | exact hw.tail.tail.tail | exact hw.tail.tail.tail.app_right | exact hw.tail.tail.tail.tail | exact hw.tail.tail.tail.tail.app_right | exact hw.tail.tail.tail.tail.tail | exact hw.tail.tail.tail.tail.tail.app_right | exact hw.tail.tail.tail.tail.tail.tail | exact hw.tail.tail.tail.tail.tail.tail.app_right)) rfl (fun _ => g1) (fun _ => f1)) ?_
          refine TV_q rfl rfl rfl (fun _ => QT_move rfl rfl rfl) ?_
          refine TV_q rfl rfl rfl (fun _ => QT_move rfl rfl rfl) ?_
          refine TV_q rfl rfl rfl (fun _ => QT_add rfl rfl rfl rfl (fun _ => ⟨by omega, by omega⟩)) ?_
          refine TV_q rfl rfl rfl (fun _ => QT_indexG (i + 1) rfl rfl Tryd.underlying28 YtannaanbadaflaaDoorF.sz_63 rfl rfl rfl (fun _ => hi2) (fun _ => had (by omega))) ?_
          refine TV_ql rfl rfl rfl (QT_loadRAj (out := xb) ((i + 1) * 7) rfl rfl Tryd.underlying63 rfl YtannaanbadaflaaDoorF.sz_63 (hrd.deep (by intro _ hw; first | exact hw | exact hw.app_right | exact hw.app_right.app_right | exact hw.tail | exact hw.tail.app_right | exact hw.tail.tail | exact hw.tail.tail.app_right | exact hw.tail.tail.tail | exact hw.tail.tail.tail.app_right | exact hw.tail.tail.tail.tail | exact hw.tail.tail.tail.tail.app_right | exact hw.tail.tail.tail.tail.tail | exact hw.tail.tail.tail.tail.tail.app_right | exact hw.tail.tail.tail.tail.tail.tail | exact hw.tail.tail.tail.tail.tail.tail.app_right)) rfl (fun _ => g2) (fun _ => f2)) ?_
          refine TV_q rfl rfl rfl (fun _ => QT_move rfl rfl rfl) ?_
          refine TV_q rfl rfl rfl (fun _ => QT_move rfl rfl rfl) ?_
          refine TV_q rfl rfl rfl (fun _ => QT_move rfl rfl rfl) ?_
          refine TV_q rfl rfl rfl (fun _ => QT_add rfl rfl rfl rfl (fun _ => ⟨by omega, by omega⟩)) ?_
          refine TV_q rfl rfl rfl (fun _ => QT_indexG (i + row) rfl rfl Tryd.underlying28 YtannaanbadaflaaDoorF.sz_63 rfl rfl rfl (fun _ => hi3) (fun _ => had (by omega))) ?_
          refine TV_ql rfl rfl rfl (QT_loadRAj (out := xc) ((i + row) * 7) rfl rfl Tryd.underlying63 rfl YtannaanbadaflaaDoorF.sz_63 (hrd.deep (by intro _ hw; first | exact hw | exact hw.app_right | exact hw.app_right.app_right | exact hw.tail | exact hw.tail.app_right | exact hw.tail.tail | exact hw.tail.tail.app_right | exact hw.tail.tail.tail | exact hw.tail.tail.tail.app_right | exact hw.tail.tail.tail.tail | exact hw.tail.tail.tail.tail.app_right | exact hw.tail.tail.tail.tail.tail | exact hw.tail.tail.tail.tail.tail.app_right | exact hw.tail.tail.tail.tail.tail.tail | exact hw.tail.tail.tail.tail.tail.tail.app_right)) rfl (fun _ => g3) (fun _ => f3)) ?_
          refine TV_q rfl rfl rfl (fun _ => QT_move rfl rfl rfl) ?_
          refine TV_q rfl rfl rfl (fun _ => QT_move rfl rfl rfl) ?_
          refine TV_q rfl rfl rfl (fun _ => QT_move rfl rfl rfl) ?_
          refine TV_q rfl rfl rfl (fun _ => QT_add rfl rfl rfl rfl (fun _ => ⟨by omega, by omega⟩)) ?_
          refine TV_q rfl rfl rfl (fun _ => QT_add rfl rfl rfl rfl (fun _ => ⟨by omega, by omega⟩)) ?_
          refine TV_q rfl rfl rfl (fun _ => QT_indexG (i + row + 1) rfl rfl Tryd.underlying28 YtannaanbadaflaaDoorF.sz_63 rfl rfl rfl (fun _ => hi4) (fun _ => had (by omega))) ?_
          refine TV_ql rfl rfl rfl (QT_loadRAj (out := xd) ((i + row + 1) * 7) rfl rfl Tryd.underlying63 rfl YtannaanbadaflaaDoorF.sz_63 (hrd.deep (by intro _ hw; first | exact hw | exact hw.app_right | exact hw.app_right.app_right | exact hw.tail | exact hw.tail.app_right | exact hw.tail.tail | exact hw.tail.tail.app_right | exact hw.tail.tail.tail | exact hw.tail.tail.tail.app_right | exact hw.tail.tail.tail.tail | exact hw.tail.tail.tail.tail.app_right | exact hw.tail.tail.tail.tail.tail | exact hw.tail.tail.tail.tail.tail.app_right | exact hw.tail.tail.tail.tail.tail.tail | exact hw.tail.tail.tail.tail.tail.tail.app_right)) rfl (fun _ => g4) (fun _ => f4)) ?_
          refine TV_allocs [⟨22, 8, 63, zv recK⟩, ⟨23, 9, 63, zv recK⟩, ⟨24, 10, 63, zv recK⟩, ⟨25, 11, 63, zv recK⟩] [(26, 1), (27, 1), (28, 1), (29, 1)] (by kernel_rfl) (by decide) ?_ ?_ ?_ ?_
          · intro x hx
            simp only [List.mem_cons, List.not_mem_nil, or_false] at hx
            rcases hx with rfl | rfl | rfl | rfl <;> exact ⟨_, rfl, rfl, rfl, rfl, YtannaanbadaflaaDoorF.zero_63, rfl⟩
          · intro x hx
            simp only [List.mem_cons, List.not_mem_nil, or_false] at hx
            rcases hx with rfl | rfl | rfl | rfl <;> rfl
          · intro x hx X
            simp only [List.mem_cons, List.not_mem_nil, or_false] at hx
            rcases hx with rfl | rfl | rfl | rfl <;> exact .keep (by kernel_rfl) rfl (by first | exact QT_loadRAj (out := xd) ((i + row + 1) * 7) rfl rfl Tryd.underlying63 rfl YtannaanbadaflaaDoorF.sz_63 (hrd.deep (by intro _ hw; first | exact hw | exact hw.app_right | exact hw.app_right.app_right | exact hw.tail | exact hw.tail.app_right | exact hw.tail.tail | exact hw.tail.tail.app_right | exact hw.tail.tail.tail | exact hw.tail.tail.tail.app_right | exact hw.tail.tail.tail.tail | exact hw.tail.tail.tail.tail.app_right | exact hw.tail.tail.tail.tail.tail | exact hw.tail.tail.tail.tail.tail.app_right | exact hw.tail.tail.tail.tail.tail.tail | exact hw.tail.tail.tail.tail.tail.tail.app_right)) rfl (fun _ => g4) (fun _ => f4)) (.keep (by kernel_rfl) rfl (by first | exact QT_loadRAj (out := xc) ((i + row) * 7) rfl rfl Tryd.underlying63 rfl YtannaanbadaflaaDoorF.sz_63 (hrd.deep (by intro _ hw; first | exact hw | exact hw.app_right | exact hw.app_right.app_right | exact hw.tail | exact hw.tail.app_right | exact hw.tail.tail | exact hw.tail.tail.app_right | exact hw.tail.tail.tail | exact hw.tail.tail.tail.app_right | exact hw.tail.tail.tail.tail | exact hw.tail.tail.tail.tail.app_right | exact hw.tail.tail.tail.tail.tail | exact hw.tail.tail.tail.tail.tail.app_right | exact hw.tail.tail.tail.tail.tail.tail | exact hw.tail.tail.tail.tail.tail.tail.app_right)) rfl (fun _ => g3) (fun _ => f3)) (.keep (by kernel_rfl) rfl (by first | exact QT_loadRAj (out := xb) ((i + 1) * 7) rfl rfl Tryd.underlying63 rfl YtannaanbadaflaaDoorF.sz_63 (hrd.deep (by intro _ hw; first | exact hw | exact hw.app_right | exact hw.app_right.app_right | exact hw.tail | exact hw.tail.app_right | exact hw.tail.tail | exact hw.tail.tail.app_right | exact hw.tail.tail.tail | exact hw.tail.tail.tail.app_right | exact hw.tail.tail.tail.tail | exact hw.tail.tail.tail.tail.app_right | exact hw.tail.tail.tail.tail.tail | exact hw.tail.tail.tail.tail.tail.app_right | exact hw.tail.tail.tail.tail.tail.tail | exact hw.tail.tail.tail.tail.tail.tail.app_right)) rfl (fun _ => g2) (fun _ => f2)) (.keep (by kernel_rfl) rfl (by first | exact QT_loadRAj (out := xa) (i * 7) rfl rfl Tryd.underlying63 rfl YtannaanbadaflaaDoorF.sz_63 (hrd.deep (by intro _ hw; first | exact hw | exact hw.app_right | exact hw.app_right.app_right | exact hw.tail | exact hw.tail.app_right | exact hw.tail.tail | exact hw.tail.tail.app_right | exact hw.tail.tail.tail | exact hw.tail.tail.tail.app_right | exact hw.tail.tail.tail.tail | exact hw.tail.tail.tail.tail.app_right | exact hw.tail.tail.tail.tail.tail | exact hw.tail.tail.tail.tail.tail.app_right | exact hw.tail.tail.tail.tail.tail.tail | exact hw.tail.tail.tail.tail.tail.tail.app_right)) rfl (fun _ => g1) (fun _ => f1)) (.nil))))
          intro β
          simp only [List.map_cons, List.map_nil, slotA, blkA, List.cons_append, List.nil_append]
          generalize β 8 = b8
          generalize β 9 = b9
          generalize β 10 = b10
          generalize β 11 = b11
          refine TV_e0 rfl rfl rfl (rfl) (ET_storeW (vs := xa) 0 rfl rfl rfl (z7 j1) rfl (List.all_eq_true.2 j1.oneCell) (by rw [j1.length]; rfl)) ?_
          rintro _ _ ⟨rfl, rfl⟩
          refine ⟨_, .keep (by kernel_rfl) rfl (by first | exact QT_loadRAj (out := xd) ((i + row + 1) * 7) rfl rfl Tryd.underlying63 rfl YtannaanbadaflaaDoorF.sz_63 (hrd.deep (by intro _ hw; first | exact hw | exact hw.app_right | exact hw.app_right.app_right | exact hw.tail | exact hw.tail.app_right | exact hw.tail.tail | exact hw.tail.tail.app_right | exact hw.tail.tail.tail | exact hw.tail.tail.tail.app_right | exact hw.tail.tail.tail.tail | exact hw.tail.tail.tail.tail.app_right | exact hw.tail.tail.tail.tail.tail | exact hw.tail.tail.tail.tail.tail.app_right | exact hw.tail.tail.tail.tail.tail.tail | exact hw.tail.tail.tail.tail.tail.tail.app_right)) rfl (fun _ => g4) (fun _ => f4)) (.keep (by kernel_rfl) rfl (by first | exact QT_loadRAj (out := xc) ((i + row) * 7) rfl rfl Tryd.underlying63 rfl YtannaanbadaflaaDoorF.sz_63 (hrd.deep (by intro _ hw; first | exact hw | exact hw.app_right | exact hw.app_right.app_right | exact hw.tail | exact hw.tail.app_right | exact hw.tail.tail | exact hw.tail.tail.app_right | exact hw.tail.tail.tail | exact hw.tail.tail.tail.app_right | exact hw.tail.tail.tail.tail | exact hw.tail.tail.tail.tail.app_right | exact hw.tail.tail.tail.tail.tail | exact hw.tail.tail.tail.tail.tail.app_right | exact hw.tail.tail.tail.tail.tail.tail | exact hw.tail.tail.tail.tail.tail.tail.app_right)) rfl (fun _ => g3) (fun _ => f3)) (.keep (by kernel_rfl) rfl (by first | exact QT_loadRAj (out := xb) ((i + 1) * 7) rfl rfl Tryd.underlying63 rfl YtannaanbadaflaaDoorF.sz_63 (hrd.deep (by intro _ hw; first | exact hw | exact hw.app_right | exact hw.app_right.app_right | exact hw.tail | exact hw.tail.app_right | exact hw.tail.tail | exact hw.tail.tail.app_right | exact hw.tail.tail.tail | exact hw.tail.tail.tail.app_right | exact hw.tail.tail.tail.tail | exact hw.tail.tail.tail.tail.app_right | exact hw.tail.tail.tail.tail.tail | exact hw.tail.tail.tail.tail.tail.app_right | exact hw.tail.tail.tail.tail.tail.tail | exact hw.tail.tail.tail.tail.tail.tail.app_right)) rfl (fun _ => g2) (fun _ => f2)) (.drop (by kernel_rfl) (.nil)))), ?_⟩
          refine TV_e0 rfl rfl rfl (rfl) (ET_storeW (vs := xb) 1 rfl rfl rfl (z7 j2) rfl (List.all_eq_true.2 j2.oneCell) (by rw [j2.length]; rfl)) ?_
          rintro _ _ ⟨rfl, rfl⟩
          refine ⟨_, .keep (by kernel_rfl) rfl (by first | exact QT_loadRAj (out := xd) ((i + row + 1) * 7) rfl rfl Tryd.underlying63 rfl YtannaanbadaflaaDoorF.sz_63 (hrd.deep (by intro _ hw; first | exact hw | exact hw.app_right | exact hw.app_right.app_right | exact hw.tail | exact hw.tail.app_right | exact hw.tail.tail | exact hw.tail.tail.app_right | exact hw.tail.tail.tail | exact hw.tail.tail.tail.app_right | exact hw.tail.tail.tail.tail | exact hw.tail.tail.tail.tail.app_right | exact hw.tail.tail.tail.tail.tail | exact hw.tail.tail.tail.tail.tail.app_right | exact hw.tail.tail.tail.tail.tail.tail | exact hw.tail.tail.tail.tail.tail.tail.app_right)) rfl (fun _ => g4) (fun _ => f4)) (.keep (by kernel_rfl) rfl (by first | exact QT_loadRAj (out := xc) ((i + row) * 7) rfl rfl Tryd.underlying63 rfl YtannaanbadaflaaDoorF.sz_63 (hrd.deep (by intro _ hw; first | exact hw | exact hw.app_right | exact hw.app_right.app_right | exact hw.tail | exact hw.tail.app_right | exact hw.tail.tail | exact hw.tail.tail.app_right | exact hw.tail.tail.tail | exact hw.tail.tail.tail.app_right | exact hw.tail.tail.tail.tail | exact hw.tail.tail.tail.tail.app_right | exact hw.tail.tail.tail.tail.tail | exact hw.tail.tail.tail.tail.tail.app_right | exact hw.tail.tail.tail.tail.tail.tail | exact hw.tail.tail.tail.tail.tail.tail.app_right)) rfl (fun _ => g3) (fun _ => f3)) (.drop (by kernel_rfl) (.nil))), ?_⟩
          refine TV_e0 rfl rfl rfl (rfl) (ET_storeW (vs := xc) 2 rfl rfl rfl (z7 j3) rfl (List.all_eq_true.2 j3.oneCell) (by rw [j3.length]; rfl)) ?_
          rintro _ _ ⟨rfl, rfl⟩
          refine ⟨_, .keep (by kernel_rfl) rfl (by first | exact QT_loadRAj (out := xd) ((i + row + 1) * 7) rfl rfl Tryd.underlying63 rfl YtannaanbadaflaaDoorF.sz_63 (hrd.deep (by intro _ hw; first | exact hw | exact hw.app_right | exact hw.app_right.app_right | exact hw.tail | exact hw.tail.app_right | exact hw.tail.tail | exact hw.tail.tail.app_right | exact hw.tail.tail.tail | exact hw.tail.tail.tail.app_right | exact hw.tail.tail.tail.tail | exact hw.tail.tail.tail.tail.app_right | exact hw.tail.tail.tail.tail.tail | exact hw.tail.tail.tail.tail.tail.app_right | exact hw.tail.tail.tail.tail.tail.tail | exact hw.tail.tail.tail.tail.tail.tail.app_right)) rfl (fun _ => g4) (fun _ => f4)) (.drop (by kernel_rfl) (.nil)), ?_⟩
          refine TV_e0 rfl rfl rfl (rfl) (ET_storeW (vs := xd) 3 rfl rfl rfl (z7 j4) rfl (List.all_eq_true.2 j4.oneCell) (by rw [j4.length]; rfl)) ?_
          rintro _ _ ⟨rfl, rfl⟩
          refine ⟨_, .drop (by kernel_rfl) (.nil), ?_⟩
          refine TV_end ?_
          refine TX_then ?_
          refine TC_draw [(0, 0), (1, 0), (2, 0), (3, 0), (4, 0), (6, 0), (7, 0), (8, 0), (9, 0), (5, 1), (10, 1), (11, 1), (12, 1), (13, 0)] YtannaanbadaflaaDoorF.mixed (by kernel_rfl) (St.calm _ _) ?_
          refine TV_q rfl rfl rfl (fun _ => QT_move rfl rfl rfl) ?_
          first
            | refine TV_ql rfl rfl rfl (QT_loadW (cs := xa) 0 rfl rfl Tryd.underlying63 rfl rfl rfl (z7 j1)) ?_
            | refine TV_ql rfl rfl rfl (QT_loadW (cs := xa) 1 rfl rfl Tryd.underlying63 rfl rfl rfl (z7 j1)) ?_
          first
            | refine TV_ql rfl rfl rfl (QT_loadW (cs := xb) 1 rfl rfl Tryd.underlying63 rfl rfl rfl (z7 j2)) ?_
            | refine TV_ql rfl rfl rfl (QT_loadW (cs := xb) 2 rfl rfl Tryd.underlying63 rfl rfl rfl (z7 j2)) ?_
          first
            | refine TV_ql rfl rfl rfl (QT_loadW (cs := xc) 2 rfl rfl Tryd.underlying63 rfl rfl rfl (z7 j3)) ?_
            | refine TV_ql rfl rfl rfl (QT_loadW (cs := xc) 3 rfl rfl Tryd.underlying63 rfl rfl rfl (z7 j3)) ?_
          refine TV_q rfl rfl rfl (fun _ => QT_buildArr (out := T3 xa xb xc) rfl rfl YtannaanbadaflaaDoorF.zero_65 Tryd.underlying65 YtannaanbadaflaaDoorF.sz_63 rfl rfl (seg3 j1.length j2.length j3.length rfl)) ?_
          first
            | refine TV_ql rfl rfl rfl (QT_loadW (cs := xb) 1 rfl rfl Tryd.underlying63 rfl rfl rfl (z7 j2)) ?_
            | refine TV_ql rfl rfl rfl (QT_loadW (cs := xb) 2 rfl rfl Tryd.underlying63 rfl rfl rfl (z7 j2)) ?_
          first
            | refine TV_ql rfl rfl rfl (QT_loadW (cs := xd) 3 rfl rfl Tryd.underlying63 rfl rfl rfl (z7 j4)) ?_
            | refine TV_ql rfl rfl rfl (QT_loadW (cs := xd) 4 rfl rfl Tryd.underlying63 rfl rfl rfl (z7 j4)) ?_
          first
            | refine TV_ql rfl rfl rfl (QT_loadW (cs := xc) 2 rfl rfl Tryd.underlying63 rfl rfl rfl (z7 j3)) ?_
            | refine TV_ql rfl rfl rfl (QT_loadW (cs := xc) 3 rfl rfl Tryd.underlying63 rfl rfl rfl (z7 j3)) ?_
          refine TV_q rfl rfl rfl (fun _ => QT_buildArr (out := T3 xb xd xc) rfl rfl YtannaanbadaflaaDoorF.zero_65 Tryd.underlying65 YtannaanbadaflaaDoorF.sz_63 rfl rfl (seg3 j2.length j4.length j3.length rfl)) ?_
          refine TV_cq rfl rfl rfl rfl rfl YtannaanbadaflaaDoorF.cal_71 rfl (fun _ => bare_spec w0 _ xa xb xc j1 j2 j3) (.keep (by kernel_rfl) rfl (by first | exact QT_loadW (cs := xc) 2 rfl rfl Tryd.underlying63 rfl rfl rfl (z7 j3) | exact QT_loadW (cs := xc) 3 rfl rfl Tryd.underlying63 rfl rfl rfl (z7 j3)) (.keep (by kernel_rfl) rfl (by first | exact QT_loadW (cs := xd) 3 rfl rfl Tryd.underlying63 rfl rfl rfl (z7 j4) | exact QT_loadW (cs := xd) 4 rfl rfl Tryd.underlying63 rfl rfl rfl (z7 j4)) (.keep (by kernel_rfl) rfl (by first | exact QT_loadW (cs := xb) 1 rfl rfl Tryd.underlying63 rfl rfl rfl (z7 j2) | exact QT_loadW (cs := xb) 2 rfl rfl Tryd.underlying63 rfl rfl rfl (z7 j2)) (.keep (by kernel_rfl) rfl (by first | exact QT_loadW (cs := xc) 2 rfl rfl Tryd.underlying63 rfl rfl rfl (z7 j3) | exact QT_loadW (cs := xc) 3 rfl rfl Tryd.underlying63 rfl rfl rfl (z7 j3)) (.keep (by kernel_rfl) rfl (by first | exact QT_loadW (cs := xb) 1 rfl rfl Tryd.underlying63 rfl rfl rfl (z7 j2) | exact QT_loadW (cs := xb) 2 rfl rfl Tryd.underlying63 rfl rfl rfl (z7 j2)) (.keep (by kernel_rfl) rfl (by first | exact QT_loadW (cs := xa) 0 rfl rfl Tryd.underlying63 rfl rfl rfl (z7 j1) | exact QT_loadW (cs := xa) 1 rfl rfl Tryd.underlying63 rfl rfl rfl (z7 j1)) (.nil))))))) ?_
          refine TV_cq rfl rfl rfl rfl rfl YtannaanbadaflaaDoorF.cal_71 rfl (fun _ => bare_spec w0 _ xb xd xc j2 j4 j3) (.keep (by kernel_rfl) rfl (by first | exact QT_loadW (cs := xc) 2 rfl rfl Tryd.underlying63 rfl rfl rfl (z7 j3) | exact QT_loadW (cs := xc) 3 rfl rfl Tryd.underlying63 rfl rfl rfl (z7 j3)) (.keep (by kernel_rfl) rfl (by first | exact QT_loadW (cs := xd) 3 rfl rfl Tryd.underlying63 rfl rfl rfl (z7 j4) | exact QT_loadW (cs := xd) 4 rfl rfl Tryd.underlying63 rfl rfl rfl (z7 j4)) (.keep (by kernel_rfl) rfl (by first | exact QT_loadW (cs := xb) 1 rfl rfl Tryd.underlying63 rfl rfl rfl (z7 j2) | exact QT_loadW (cs := xb) 2 rfl rfl Tryd.underlying63 rfl rfl rfl (z7 j2)) (.keep (by kernel_rfl) rfl (by first | exact QT_loadW (cs := xc) 2 rfl rfl Tryd.underlying63 rfl rfl rfl (z7 j3) | exact QT_loadW (cs := xc) 3 rfl rfl Tryd.underlying63 rfl rfl rfl (z7 j3)) (.keep (by kernel_rfl) rfl (by first | exact QT_loadW (cs := xb) 1 rfl rfl Tryd.underlying63 rfl rfl rfl (z7 j2) | exact QT_loadW (cs := xb) 2 rfl rfl Tryd.underlying63 rfl rfl rfl (z7 j2)) (.keep (by kernel_rfl) rfl (by first | exact QT_loadW (cs := xa) 0 rfl rfl Tryd.underlying63 rfl rfl rfl (z7 j1) | exact QT_loadW (cs := xa) 1 rfl rfl Tryd.underlying63 rfl rfl rfl (z7 j1)) (.nil))))))) ?_
          refine TV_e rfl rfl rfl rfl (rfl) (ET_buildN [_, _] rfl Tryd.underlying31 YtannaanbadaflaaDoorF.sz_65 YtannaanbadaflaaDoorF.zero_65 rfl rfl rfl (fun v hv => by rcases List.mem_cons.1 hv with rfl | hv; exact (B3_ints j1 j2 j3).length; cases List.mem_singleton.1 hv; exact (B3_ints j2 j4 j3).length)) ?_
          rintro _ _ ⟨b70, rfl, rfl⟩
          refine ⟨_, .keep (by kernel_rfl) rfl (by first | exact QT_loadW (cs := xc) 2 rfl rfl Tryd.underlying63 rfl rfl rfl (z7 j3) | exact QT_loadW (cs := xc) 3 rfl rfl Tryd.underlying63 rfl rfl rfl (z7 j3)) (.keep (by kernel_rfl) rfl (by first | exact QT_loadW (cs := xd) 3 rfl rfl Tryd.underlying63 rfl rfl rfl (z7 j4) | exact QT_loadW (cs := xd) 4 rfl rfl Tryd.underlying63 rfl rfl rfl (z7 j4)) (.keep (by kernel_rfl) rfl (by first | exact QT_loadW (cs := xb) 1 rfl rfl Tryd.underlying63 rfl rfl rfl (z7 j2) | exact QT_loadW (cs := xb) 2 rfl rfl Tryd.underlying63 rfl rfl rfl (z7 j2)) (.keep (by kernel_rfl) rfl (by first | exact QT_loadW (cs := xc) 2 rfl rfl Tryd.underlying63 rfl rfl rfl (z7 j3) | exact QT_loadW (cs := xc) 3 rfl rfl Tryd.underlying63 rfl rfl rfl (z7 j3)) (.keep (by kernel_rfl) rfl (by first | exact QT_loadW (cs := xb) 1 rfl rfl Tryd.underlying63 rfl rfl rfl (z7 j2) | exact QT_loadW (cs := xb) 2 rfl rfl Tryd.underlying63 rfl rfl rfl (z7 j2)) (.keep (by kernel_rfl) rfl (by first | exact QT_loadW (cs := xa) 0 rfl rfl Tryd.underlying63 rfl rfl rfl (z7 j1) | exact QT_loadW (cs := xa) 1 rfl rfl Tryd.underlying63 rfl rfl rfl (z7 j1)) (.nil)))))), ?_⟩
          refine TV_e rfl rfl rfl rfl (rfl) (ET_appendL (L := [_, _, _, _, _]) rfl Tryd.underlying31 el_Tri rfl rfl hfr (fun _ h => h) (SlA.own (n := 2) (xs := B3 xa xb xc ++ B3 xb xd xc) 0 rfl (two_own b1 b2).symm (two_len b1 b2) (by omega)) ((B3_ints j1 j2 j3).append (B3_ints j2 j4 j3)).oneCell (by omega) (by omega)) ?_
          rintro fv2 _ ⟨H', hF', rfl⟩
          refine ⟨_, .keep (by kernel_rfl) rfl (by first | exact QT_loadW (cs := xc) 2 rfl rfl Tryd.underlying63 rfl rfl rfl (z7 j3) | exact QT_loadW (cs := xc) 3 rfl rfl Tryd.underlying63 rfl rfl rfl (z7 j3)) (.keep (by kernel_rfl) rfl (by first | exact QT_loadW (cs := xd) 3 rfl rfl Tryd.underlying63 rfl rfl rfl (z7 j4) | exact QT_loadW (cs := xd) 4 rfl rfl Tryd.underlying63 rfl rfl rfl (z7 j4)) (.keep (by kernel_rfl) rfl (by first | exact QT_loadW (cs := xb) 1 rfl rfl Tryd.underlying63 rfl rfl rfl (z7 j2) | exact QT_loadW (cs := xb) 2 rfl rfl Tryd.underlying63 rfl rfl rfl (z7 j2)) (.keep (by kernel_rfl) rfl (by first | exact QT_loadW (cs := xc) 2 rfl rfl Tryd.underlying63 rfl rfl rfl (z7 j3) | exact QT_loadW (cs := xc) 3 rfl rfl Tryd.underlying63 rfl rfl rfl (z7 j3)) (.keep (by kernel_rfl) rfl (by first | exact QT_loadW (cs := xb) 1 rfl rfl Tryd.underlying63 rfl rfl rfl (z7 j2) | exact QT_loadW (cs := xb) 2 rfl rfl Tryd.underlying63 rfl rfl rfl (z7 j2)) (.keep (by kernel_rfl) rfl (by first | exact QT_loadW (cs := xa) 0 rfl rfl Tryd.underlying63 rfl rfl rfl (z7 j1) | exact QT_loadW (cs := xa) 1 rfl rfl Tryd.underlying63 rfl rfl rfl (z7 j1)) (.nil)))))), ?_⟩
          refine TV_q rfl rfl rfl (fun _ => QT_assign rfl rfl rfl) ?_
          refine TV_end ?_
          refine TX_block_normal ?_
          exact TX_cut ⟨(fv2, H'), by rw [outT_succ, hc, List.length_append, List.flatten_append]; simpa using hF'⟩ ⟨rfl, rfl, rfl, rfl, rfl, trivial⟩ (fun _ h => h.app_right (X := [_, _, _, _, _]))
      rintro ⟨⟨fv2, H2⟩, hF2⟩
      dsimp only at hF2 ⊢
      refine TC_reg ?_
      refine TL_q rfl rfl (QT_add rfl rfl rfl rfl (fun _ => ⟨by omega, by omega⟩)) ?_
      refine TL_q rfl rfl (QT_move rfl rfl rfl) ?_
      refine TL_nil ?_
      exact TX_round ⟨(i + 1, fv2, H2), by show i + 1 ≤ rs.length - row; omega, hF2⟩ (by show rs.length - row - (i + 1) < rs.length - row - i; omega) ⟨rfl, rfl, rfl, rfl, rfl, trivial⟩ (fun _ h => h)
    ·
      refine TC_exit ?_
      refine TX_then_exit ?_
      refine TX_then_exit ?_
      refine TX_block_here ?_
      refine TX_then ?_
      refine TC_seq ?_
      obtain rfl : i = rs.length - row := by omega
      refine TC_reg ?_
      refine TL_q rfl rfl (QT_move rfl rfl rfl) ?_
      refine TL_e rfl rfl rfl (rfl) (ET_call rfl YtannaanbadaflaaDoorF.cal_72 rfl (clipT_spec w0 η H fv _ _ hfr)) ?_
      rintro cv _ ⟨hF2, rfl⟩
      refine TL_q rfl rfl (QT_assign rfl rfl rfl) ?_
      refine TL_q rfl rfl (QT_assign rfl rfl rfl) ?_
      refine TL_nil ?_
      refine TX_then ?_
      refine TC_ret ?_
      refine TX_scope_ret ?_
      exact TX_ret (.inl rfl) (res2 rfl rfl rfl) ⟨_, ⟨cv, H, rfl, hF2, rfl⟩, fun _ h => h⟩
end Go.Proofs.YtannaanbadaflaaDoor

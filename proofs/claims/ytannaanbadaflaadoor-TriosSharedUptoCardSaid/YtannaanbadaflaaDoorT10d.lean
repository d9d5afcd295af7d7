/- TRIANGLES OF VERTICES OF TYPE 5: the document's cells. -/
import Derived.Test.YtannaanbadaflaaDoorT10c
namespace Go.Proofs.YtannaanbadaflaaDoor
open Go Go.Gx Go.RowKit
set_option maxRecDepth 100000

theorem idx_lt {n row m q j : Nat} (hm : m * row = n) (hq : q + 1 < m) (hj : j + 1 < row) : q * row + j < n ∧ q * row + j + 1 < n ∧ (q + 1) * row + j < n ∧ (q + 1) * row + j + 1 < n ∧ (q + 1) * row + j = q * row + j + row := by
  have h1 : (q + 2) * row ≤ m * row := Nat.mul_le_mul_right _ (by omega)
  have h2 : (q + 2) * row = q * row + 2 * row := by rw [Nat.add_mul]
  have h3 : (q + 1) * row = q * row + row := by rw [Nat.add_mul, Nat.one_mul]
  omega
theorem cellF_in {rs : List R} {row q j : Nat} (hj : j + 1 < row) : cellF rs row (q * row + j) = [B3 (at7 rs (q * row + j)) (at7 rs (q * row + j + 1)) (at7 rs (q * row + j + row)), B3 (at7 rs (q * row + j + 1)) (at7 rs (q * row + j + row + 1)) (at7 rs (q * row + j + row))] := by
  rw [cellF, if_neg]
  rw [Nat.add_comm, Nat.add_mul_mod_self_right, Nat.mod_eq_of_lt (by omega)]; omega
theorem cellF_end {rs : List R} {row q j : Nat} (hj : j + 1 = row) : cellF rs row (q * row + j) = [] := by
  rw [cellF, if_pos]
  rw [Nat.add_comm, Nat.add_mul_mod_self_right, Nat.mod_eq_of_lt (by omega)]; omega

set_option maxHeartbeats 1000000 in
theorem cells_spec (w0 : World) (η : Heap) (sv : Value) (rs : List R) (row : Nat) (hs : SlA (St w0 η) sv 7 rs.length rs.flatten) (ha : All7 rs) (hrow : 1 ≤ row) (hn : rs.length * 120 ≤ 140737488355328) :
    CallsT Tryd.prog 24 [sv, .int .i64 (row : Int)] (St w0 η) fun v A' => ∃ pv H, v = .tuple #[pv, .int .i64 (rowsF rs row).2] ∧ Frag 65 21 pv (rowsF rs row).1.length (rowsF rs row).1.flatten H ∧ A' = St w0 (H ++ η) := by
  obtain ⟨_, ad, cap, sb, so, rfl, hcap, had, hrd⟩ := hs.some
  have hz7 : ∀ {x : R}, Ints recK x → Sz Tryd.prog 63 x.length := fun h => by rw [h.length]; exact YtannaanbadaflaaDoorF.sz_63
  obtain ⟨m, hm⟩ : ∃ m, m = rs.length / row := ⟨_, rfl⟩
  have hml : m * row ≤ rs.length := by rw [hm]; exact Nat.div_mul_le_self _ _
  refine CallsT.body Tryd.func24 rfl rfl ?_
  simp only [Tryd.ntmps24, slotsOf, Nat.reduceAdd]
  refine TC_seq ?_
  refine TC_reg ?_
  refine TL_q rfl rfl (QT_assign rfl rfl rfl) ?_
  refine TL_q rfl rfl (QT_assign rfl rfl rfl) ?_
  refine TL_nil ?_
  refine TX_then ?_
  refine TC_seq ?_
  refine TC_reg ?_
  refine TL_q rfl rfl (QT_move rfl rfl rfl) ?_
  refine TL_q rfl rfl (QT_len rfl rfl Tryd.underlying28 rfl) ?_
  refine TL_q rfl rfl (QT_move rfl rfl rfl) ?_
  refine TL_q rfl rfl (QT_quo rfl rfl rfl rfl (fun _ => ⟨by omega, by omega, by omega⟩)) ?_
  refine TL_q rfl rfl (QT_assign rfl rfl rfl) ?_
  refine TL_nil ?_
  refine TX_then ?_
  refine TC_seq ?_
  refine TC_seq ?_
  refine TC_weaken (σ' := [(0, true, .slice ad rs.length cap), (1, true, .int .i64 (row : Int)), (4, true, .slice none 0 0), (5, true, .int .i64 0), (6, true, .int .i64 (m : Int))]) ⟨rfl, rfl, rfl, rfl, by rw [hm]; rfl, trivial⟩ (fun _ h => h) ?_
  refine TC_reg ?_
  refine TL_q rfl rfl (QT_move rfl rfl rfl) ?_
  refine TL_q rfl rfl (QT_move rfl rfl rfl) ?_
  refine TL_q rfl rfl (QT_mul rfl rfl rfl rfl (fun _ => i64_mul (by omega))) ?_
  refine TL_q rfl rfl (QT_move rfl rfl rfl) ?_
  refine TL_q rfl rfl (QT_len rfl rfl Tryd.underlying28 rfl) ?_
  refine TL_q rfl rfl (QT_neq rfl rfl rfl rfl) ?_
  refine TL_q rfl rfl (QT_move rfl rfl rfl) ?_
  refine TL_q rfl rfl (QT_move rfl rfl rfl) ?_
  refine TL_q rfl rfl (QT_lss rfl rfl rfl rfl) ?_
  refine TL_q rfl rfl (QT_or rfl rfl rfl rfl) ?_
  refine TL_nil ?_
  refine TX_then ?_
  first
    | refine TC_cond_dec rfl (fun h27 => ?_) (fun h27 => ?_)
    | refine TC_cond rfl (fun h27 => ?_) (fun h27 => ?_)
  ·
    refine TC_seq ?_
    refine TC_reg ?_
    refine TL_q rfl rfl (QT_assign rfl rfl rfl) ?_
    refine TL_q rfl rfl (QT_assign rfl rfl rfl) ?_
    refine TL_nil ?_
    refine TX_then ?_
    refine TC_ret ?_
    refine TX_then_ret ?_
    have he : rowsF rs row = ([], 5) := by
      rw [rowsF, if_neg]
      rintro ⟨h0, h2⟩
      rw [icast_mul] at h27
      simp only [Bool.or_eq_true, decide_eq_true_eq] at h27
      have := (two_rows h0 h2).2
      rw [← hm] at this h2
      omega
    rw [he]
    exact TX_ret (.inl rfl) (res2 rfl rfl rfl) ⟨_, ⟨_, [], rfl, Frag.nil _ _, rfl⟩, (fun _ h => by first | exact h | exact h.tail | exact h.tail.tail | exact h.tail.tail.tail | exact h.tail.tail.tail.tail | exact h.tail.tail.tail.tail.tail | exact h.tail.tail.tail.tail.tail.tail | exact h.tail.tail.tail.tail.tail.tail.tail | exact h.tail.tail.tail.tail.tail.tail.tail.tail | exact h.tail.tail.tail.tail.tail.tail.tail.tail.tail | exact h.tail.tail.tail.tail.tail.tail.tail.tail.tail.tail | exact h.tail.tail.tail.tail.tail.tail.tail.tail.tail.tail.tail | exact h.tail.tail.tail.tail.tail.tail.tail.tail.tail.tail.tail.tail | exact h.tail.tail.tail.tail.tail.tail.tail.tail.tail.tail.tail.tail.tail)⟩
  ·
    refine TC_skip ?_
    refine TX_then ?_
    refine TC_seq ?_
    rw [icast_mul] at h27
    simp only [Bool.or_eq_false_iff, decide_eq_false_iff_not, ne_eq, Classical.not_not] at h27
    have hm2 : 2 ≤ m := by omega
    have hmr : m * row = rs.length := by omega
    have hm0 : rs.length % row = 0 := by rw [← hmr]; exact Nat.mul_mod_left _ _
    have he : rowsF rs row = (outT rs row (rs.length - row), 0) := by rw [rowsF, if_pos ⟨hm0, by omega⟩]
    rw [he]
    have hmn : m ≤ rs.length := by rw [hm]; exact Nat.div_le_self _ _
    have hrn : 2 * row ≤ rs.length := (two_rows hm0 (by omega)).1
    clear he h27
    refine TC_reg ?_
    refine TL_q rfl rfl (QT_assign rfl rfl rfl) ?_
    refine TL_nil ?_
    refine TX_then ?_
    refine TC_seq ?_
    refine TC_seq ?_
    refine TC_reg ?_
    refine TL_q rfl rfl (QT_assign rfl rfl rfl) ?_
    refine TL_nil ?_
    refine TX_then ?_
    refine TC_block ?_
    refine TC_loop (γ := { t : Nat × Value × Heap // t.1 + 1 ≤ m ∧ Frag 65 21 t.2.1 (outT rs row (t.1 * row)).length (outT rs row (t.1 * row)).flatten t.2.2 }) (fun t => [(0, true, .slice ad rs.length cap), (1, true, .int .i64 (row : Int)), (6, true, .int .i64 (m : Int)), (7, true, t.1.2.1), (8, true, .int .i64 (t.1.1 : Int))]) (fun t => St w0 (t.1.2.2 ++ η)) (fun t => m - t.1.1) ⟨(0, .slice none 0 0, []), by show 0 + 1 ≤ m; omega, by simp only [Nat.zero_mul]; exact Frag.nil _ _⟩ ⟨rfl, rfl, rfl, rfl, rfl, trivial⟩ (fun _ h => h) ?_
    rintro ⟨⟨q, fv, H⟩, hq, hfr⟩
    dsimp only at hq hfr ⊢
    have hmr2 := hmr
    refine TC_seq ?_
    refine TC_seq ?_
    refine TC_reg ?_
    refine TL_q rfl rfl (QT_move rfl rfl rfl) ?_
    refine TL_q rfl rfl (QT_add rfl rfl rfl rfl (fun _ => ⟨by omega, by omega⟩)) ?_
    refine TL_q rfl rfl (QT_move rfl rfl rfl) ?_
    refine TL_q rfl rfl (QT_lss rfl rfl rfl rfl) ?_
    refine TL_nil ?_
    refine TX_then ?_
    first
      | refine TC_cond_dec rfl (fun h31 => ?_) (fun h31 => ?_)
      | refine TC_cond rfl (fun h31 => ?_) (fun h31 => ?_)
    ·
      refine TC_skip ?_
      refine TX_then ?_
      refine TC_seq ?_
      refine TC_block ?_
      refine TC_seq ?_
      refine TC_reg ?_
      refine TL_q rfl rfl (QT_assign rfl rfl rfl) ?_
      refine TL_nil ?_
      refine TX_then ?_
      refine TC_block ?_
      refine TC_loop (γ := { t : Nat × Value × Heap // t.1 + 1 ≤ row ∧ Frag 65 21 t.2.1 (outT rs row (q * row + t.1)).length (outT rs row (q * row + t.1)).flatten t.2.2 }) (fun t => [(0, true, .slice ad rs.length cap), (1, true, .int .i64 (row : Int)), (6, true, .int .i64 (m : Int)), (7, true, t.1.2.1), (8, true, .int .i64 (q : Int)), (9, true, .int .i64 (t.1.1 : Int))]) (fun t => St w0 (t.1.2.2 ++ η)) (fun t => row - t.1.1) ⟨(0, fv, H), by show 0 + 1 ≤ row; omega, hfr⟩ ⟨rfl, rfl, rfl, rfl, rfl, rfl, trivial⟩ (fun _ h => h) ?_
      rintro ⟨⟨j, fv, H⟩, hj, hfr⟩
      dsimp only at hj hfr ⊢
      refine TC_seq ?_
      refine TC_seq ?_
      refine TC_reg ?_
      refine TL_q rfl rfl (QT_move rfl rfl rfl) ?_
      refine TL_q rfl rfl (QT_add rfl rfl rfl rfl (fun _ => ⟨by omega, by omega⟩)) ?_
      refine TL_q rfl rfl (QT_move rfl rfl rfl) ?_
      refine TL_q rfl rfl (QT_lss rfl rfl rfl rfl) ?_
      refine TL_nil ?_
      refine TX_then ?_
      first
        | refine TC_cond_dec rfl (fun h37 => ?_) (fun h37 => ?_)
        | refine TC_cond rfl (fun h37 => ?_) (fun h37 => ?_)
      ·
        obtain ⟨hi1, hi2, hi3, hi4, hi5⟩ := idx_lt (n := rs.length) (row := row) (q := q) (j := j) hmr2 (by omega) (by omega)
        have hc := cellF_in (rs := rs) (row := row) (q := q) (j := j) (by omega)
        have hl := outT_len rs row (q * row + j)
        rw [← hi5] at hc
        have hqr1 : q * row ≤ 9223372036854775807 := by omega
        have hqr2 : (q + 1) * row ≤ 9223372036854775807 := by omega
        have e1 : (q : Int) * (row : Int) = ((q * row : Nat) : Int) := rfl
        have e2 : ((q : Int) + 1) * (row : Int) = (((q + 1) * row : Nat) : Int) := rfl
        obtain ⟨f1, g1⟩ := flat_at7 ha hi1
        obtain ⟨f2, g2⟩ := flat_at7 ha hi2
        obtain ⟨f3, g3⟩ := flat_at7 ha hi3
        obtain ⟨f4, g4⟩ := flat_at7 ha hi4
        have j1 := at7_ints ha hi1
        have j2 := at7_ints ha hi2
        have j3 := at7_ints ha hi3
        have j4 := at7_ints ha hi4
        generalize at7 rs (q * row + j) = xa at *
        generalize at7 rs (q * row + j + 1) = xb at *
        generalize at7 rs ((q + 1) * row + j) = xc at *
        generalize at7 rs ((q + 1) * row + j + 1) = xd at *
        have b1 := B3_ints j1 j2 j3
        have b2 := B3_ints j2 j4 j3
        have k1 := bareR_ints j1
        have k2 := bareR_ints j2
        have k3 := bareR_ints j3
        have k4 := bareR_ints j4
        refine TC_skip ?_
        refine TX_then ?_
        refine TC_seq ?_
        refine TC_block ?_
        refine TC_seq ?_
        refine TC_reg ?_
        refine TL_q rfl rfl (QT_move rfl rfl rfl) ?_
        refine TL_q rfl rfl (QT_move rfl rfl rfl) ?_
        refine TL_q rfl rfl (QT_move rfl rfl rfl) ?_
        refine TL_q rfl rfl (QT_mul rfl rfl rfl rfl (fun _ => i64_mul hqr1)) ?_
        refine TL_q rfl rfl (QT_move rfl rfl rfl) ?_
        refine TL_q rfl rfl (QT_add rfl rfl rfl rfl (fun _ => ⟨by omega, by omega⟩)) ?_
        refine TL_q rfl rfl (QT_indexG (q * row + j) rfl rfl Tryd.underlying28 YtannaanbadaflaaDoorF.sz_63 rfl rfl rfl (fun _ => hi1) (fun _ => had (by omega))) ?_
        refine TL_q rfl rfl (QT_loadRAj (out := xa) ((q * row + j) * 7) rfl rfl Tryd.underlying63 rfl YtannaanbadaflaaDoorF.sz_63 (hrd.deep (by intro _ hw; first | exact hw | exact hw.app_right | exact hw.app_right.app_right | exact hw.tail | exact hw.tail.app_right | exact hw.tail.tail | exact hw.tail.tail.app_right | exact hw.tail.tail.tail | exact hw.tail.tail.tail.app_right | exact hw.tail.tail.tail.tail | exact hw.tail.tail.tail.tail.app_right | exact hw.tail.tail.tail.tail.tail | exact hw.tail.tail.tail.tail.tail.app_right | exact hw.tail.tail.tail.tail.tail.tail | exact hw.tail.tail.tail.tail.tail.tail.app_right)) rfl (fun _ => g1) (fun _ => f1)) ?_
        refine TL_cq rfl rfl rfl rfl YtannaanbadaflaaDoorF.cal_25 rfl (fun _ => plain_spec w0 _ xa j1) ?_
        refine TL_e rfl rfl rfl (rfl) (ET_alloc rfl YtannaanbadaflaaDoorF.zero_63) ?_
        rintro _ _ ⟨b10, rfl, rfl⟩
        refine TL_e0 rfl rfl (rfl) (ET_storeW (vs := bareR xa) 0 rfl rfl rfl (hz7 k1) rfl (List.all_eq_true.2 k1.oneCell) (by rw [k1.length]; rfl)) ?_
        rintro _ _ ⟨rfl, rfl⟩
        refine TL_nil ?_
        refine TX_then ?_
        refine TC_seq ?_
        refine TC_reg ?_
        refine TL_q rfl rfl (QT_move rfl rfl rfl) ?_
        refine TL_q rfl rfl (QT_move rfl rfl rfl) ?_
        refine TL_q rfl rfl (QT_move rfl rfl rfl) ?_
        refine TL_q rfl rfl (QT_mul rfl rfl rfl rfl (fun _ => i64_mul hqr1)) ?_
        refine TL_q rfl rfl (QT_move rfl rfl rfl) ?_
        refine TL_q rfl rfl (QT_add rfl rfl rfl rfl (fun _ => ⟨by omega, by omega⟩)) ?_
        refine TL_q rfl rfl (QT_add rfl rfl rfl rfl (fun _ => ⟨by omega, by omega⟩)) ?_
        refine TL_q rfl rfl (QT_indexG (q * row + j + 1) rfl rfl Tryd.underlying28 YtannaanbadaflaaDoorF.sz_63 rfl rfl rfl (fun _ => hi2) (fun _ => had (by omega))) ?_
        refine TL_q rfl rfl (QT_loadRAj (out := xb) ((q * row + j + 1) * 7) rfl rfl Tryd.underlying63 rfl YtannaanbadaflaaDoorF.sz_63 (hrd.deep (by intro _ hw; first | exact hw | exact hw.app_right | exact hw.app_right.app_right | exact hw.tail | exact hw.tail.app_right | exact hw.tail.tail | exact hw.tail.tail.app_right | exact hw.tail.tail.tail | exact hw.tail.tail.tail.app_right | exact hw.tail.tail.tail.tail | exact hw.tail.tail.tail.tail.app_right | exact hw.tail.tail.tail.tail.tail | exact hw.tail.tail.tail.tail.tail.app_right | exact hw.tail.tail.tail.tail.tail.tail | exact hw.tail.tail.tail.tail.tail.tail.app_right)) rfl (fun _ => g2) (fun _ => f2)) ?_
        refine TL_cq rfl rfl rfl rfl YtannaanbadaflaaDoorF.cal_25 rfl (fun _ => plain_spec w0 _ xb j2) ?_
        refine TL_e rfl rfl rfl (rfl) (ET_alloc rfl YtannaanbadaflaaDoorF.zero_63) ?_
        rintro _ _ ⟨b11, rfl, rfl⟩
        refine TL_e0 rfl rfl (rfl) (ET_storeW (vs := bareR xb) 0 rfl rfl rfl (hz7 k2) rfl (List.all_eq_true.2 k2.oneCell) (by rw [k2.length]; rfl)) ?_
        rintro _ _ ⟨rfl, rfl⟩
        refine TL_nil ?_
        refine TX_then ?_
        refine TC_seq ?_
        refine TC_reg ?_
        refine TL_q rfl rfl (QT_move rfl rfl rfl) ?_
        refine TL_q rfl rfl (QT_move rfl rfl rfl) ?_
        refine TL_q rfl rfl (QT_add rfl rfl rfl rfl (fun _ => ⟨by omega, by omega⟩)) ?_
        refine TL_q rfl rfl (QT_move rfl rfl rfl) ?_
        refine TL_q rfl rfl (QT_mul rfl rfl rfl rfl (fun _ => i64_mul (a := q + 1) hqr2)) ?_
        refine TL_q rfl rfl (QT_move rfl rfl rfl) ?_
        refine TL_q rfl rfl (QT_add rfl rfl rfl rfl (fun _ => ⟨by omega, by omega⟩)) ?_
        refine TL_q rfl rfl (QT_indexG ((q + 1) * row + j) rfl rfl Tryd.underlying28 YtannaanbadaflaaDoorF.sz_63 rfl rfl rfl (fun _ => hi3) (fun _ => had (by omega))) ?_
        refine TL_q rfl rfl (QT_loadRAj (out := xc) (((q + 1) * row + j) * 7) rfl rfl Tryd.underlying63 rfl YtannaanbadaflaaDoorF.sz_63 (hrd.deep (by intro _ hw; first | exact hw | exact hw.app_right | exact hw.app_right.app_right | exact hw.tail | exact hw.tail.app_right | exact hw.tail.tail | exact hw.tail.tail.app_right | exact hw.tail.tail.tail | exact hw.tail.tail.tail.app_right | exact hw.tail.tail.tail.tail | exact hw.tail.tail.tail.tail.app_right | exact hw.tail.tail.tail.tail.tail | exact hw.tail.tail.tail.tail.tail.app_right | exact hw.tail.tail.tail.tail.tail.tail | exact hw.tail.tail.tail.tail.tail.tail.app_right)) rfl (fun _ => g3) (fun _ => f3)) ?_
        refine TL_cq rfl rfl rfl rfl YtannaanbadaflaaDoorF.cal_25 rfl (fun _ => plain_spec w0 _ xc j3) ?_
        refine TL_e rfl rfl rfl (rfl) (ET_alloc rfl YtannaanbadaflaaDoorF.zero_63) ?_
        rintro _ _ ⟨b12, rfl, rfl⟩
        refine TL_e0 rfl rfl (rfl) (ET_storeW (vs := bareR xc) 0 rfl rfl rfl (hz7 k3) rfl (List.all_eq_true.2 k3.oneCell) (by rw [k3.length]; rfl)) ?_
        rintro _ _ ⟨rfl, rfl⟩
        refine TL_nil ?_
        refine TX_then ?_
        refine TC_seq ?_
        refine TC_reg ?_
        refine TL_q rfl rfl (QT_move rfl rfl rfl) ?_
        refine TL_q rfl rfl (QT_move rfl rfl rfl) ?_
        refine TL_q rfl rfl (QT_add rfl rfl rfl rfl (fun _ => ⟨by omega, by omega⟩)) ?_
        refine TL_q rfl rfl (QT_move rfl rfl rfl) ?_
        refine TL_q rfl rfl (QT_mul rfl rfl rfl rfl (fun _ => i64_mul (a := q + 1) hqr2)) ?_
        refine TL_q rfl rfl (QT_move rfl rfl rfl) ?_
        refine TL_q rfl rfl (QT_add rfl rfl rfl rfl (fun _ => ⟨by omega, by omega⟩)) ?_
        refine TL_q rfl rfl (QT_add rfl rfl rfl rfl (fun _ => ⟨by omega, by omega⟩)) ?_
        refine TL_q rfl rfl (QT_indexG ((q + 1) * row + j + 1) rfl rfl Tryd.underlying28 YtannaanbadaflaaDoorF.sz_63 rfl rfl rfl (fun _ => hi4) (fun _ => had (by omega))) ?_
        refine TL_q rfl rfl (QT_loadRAj (out := xd) (((q + 1) * row + j + 1) * 7) rfl rfl Tryd.underlying63 rfl YtannaanbadaflaaDoorF.sz_63 (hrd.deep (by intro _ hw; first | exact hw | exact hw.app_right | exact hw.app_right.app_right | exact hw.tail | exact hw.tail.app_right | exact hw.tail.tail | exact hw.tail.tail.app_right | exact hw.tail.tail.tail | exact hw.tail.tail.tail.app_right | exact hw.tail.tail.tail.tail | exact hw.tail.tail.tail.tail.app_right | exact hw.tail.tail.tail.tail.tail | exact hw.tail.tail.tail.tail.tail.app_right | exact hw.tail.tail.tail.tail.tail.tail | exact hw.tail.tail.tail.tail.tail.tail.app_right)) rfl (fun _ => g4) (fun _ => f4)) ?_
        refine TL_cq rfl rfl rfl rfl YtannaanbadaflaaDoorF.cal_25 rfl (fun _ => plain_spec w0 _ xd j4) ?_
        refine TL_e rfl rfl rfl (rfl) (ET_alloc rfl YtannaanbadaflaaDoorF.zero_63) ?_
        rintro _ _ ⟨b13, rfl, rfl⟩
        refine TL_e0 rfl rfl (rfl) (ET_storeW (vs := bareR xd) 0 rfl rfl rfl (hz7 k4) rfl (List.all_eq_true.2 k4.oneCell) (by rw [k4.length]; rfl)) ?_
        rintro _ _ ⟨rfl, rfl⟩
        refine TL_nil ?_
        refine TX_then ?_
        refine TC_seq ?_
        refine TC_reg ?_
        refine TL_q rfl rfl (QT_move rfl rfl rfl) ?_
        refine TL_q rfl rfl (QT_loadW (cs := bareR xa) 3 rfl rfl Tryd.underlying63 rfl rfl rfl (hz7 k1)) ?_
        refine TL_q rfl rfl (QT_loadW (cs := bareR xb) 2 rfl rfl Tryd.underlying63 rfl rfl rfl (hz7 k2)) ?_
        refine TL_q rfl rfl (QT_loadW (cs := bareR xc) 1 rfl rfl Tryd.underlying63 rfl rfl rfl (hz7 k3)) ?_
        refine TL_q rfl rfl (QT_buildArr (out := B3 xa xb xc) rfl rfl YtannaanbadaflaaDoorF.zero_65 Tryd.underlying65 YtannaanbadaflaaDoorF.sz_63 rfl rfl (seg3 k1.length k2.length k3.length rfl)) ?_
        refine TL_e rfl rfl rfl (rfl) (ET_buildN [_] rfl Tryd.underlying31 YtannaanbadaflaaDoorF.sz_65 YtannaanbadaflaaDoorF.zero_65 rfl rfl rfl (fun v hv => by cases List.mem_singleton.1 hv; exact b1.length)) ?_
        rintro _ _ ⟨b85, rfl, rfl⟩
        refine TL_e rfl rfl rfl (rfl) (ET_appendL (L := [_, _, _, _, _]) rfl Tryd.underlying31 el_Tri rfl rfl hfr (fun _ h => h) (SlA.own (n := 1) (xs := B3 xa xb xc) 0 rfl (one_own b1.length).symm (one_len b1.length) (by omega)) b1.oneCell (by omega) (by omega)) ?_
        rintro fv1 _ ⟨H1, hF1, rfl⟩
        refine TL_q rfl rfl (QT_assign rfl rfl rfl) ?_
        refine TL_nil ?_
        refine TX_then ?_
        refine TC_reg ?_
        refine TL_q rfl rfl (QT_move rfl rfl rfl) ?_
        refine TL_q rfl rfl (QT_loadW (cs := bareR xb) 3 rfl rfl Tryd.underlying63 rfl rfl rfl (hz7 k2)) ?_
        refine TL_q rfl rfl (QT_loadW (cs := bareR xd) 1 rfl rfl Tryd.underlying63 rfl rfl rfl (hz7 k4)) ?_
        refine TL_q rfl rfl (QT_loadW (cs := bareR xc) 2 rfl rfl Tryd.underlying63 rfl rfl rfl (hz7 k3)) ?_
        refine TL_q rfl rfl (QT_buildArr (out := B3 xb xd xc) rfl rfl YtannaanbadaflaaDoorF.zero_65 Tryd.underlying65 YtannaanbadaflaaDoorF.sz_63 rfl rfl (seg3 k2.length k4.length k3.length rfl)) ?_
        refine TL_e rfl rfl rfl (rfl) (ET_buildN [_] rfl Tryd.underlying31 YtannaanbadaflaaDoorF.sz_65 YtannaanbadaflaaDoorF.zero_65 rfl rfl rfl (fun v hv => by cases List.mem_singleton.1 hv; exact b2.length)) ?_
        rintro _ _ ⟨b92, rfl, rfl⟩
        refine TL_e rfl rfl rfl (rfl) (ET_appendL (L := [_, _, _, _, _, _]) rfl Tryd.underlying31 el_Tri rfl rfl hF1 (fun _ h => h) (SlA.own (n := 1) (xs := B3 xb xd xc) 0 rfl (one_own b2.length).symm (one_len b2.length) (by omega)) b2.oneCell (by omega) (by omega)) ?_
        rintro fv2 _ ⟨H2, hF2, rfl⟩
        refine TL_q rfl rfl (QT_assign rfl rfl rfl) ?_
        refine TL_nil ?_
        refine TX_block_normal ?_
        refine TX_then ?_
        refine TC_reg ?_
        refine TL_q rfl rfl (QT_move rfl rfl rfl) ?_
        refine TL_q rfl rfl (QT_add rfl rfl rfl rfl (fun _ => ⟨by omega, by omega⟩)) ?_
        refine TL_q rfl rfl (QT_assign rfl rfl rfl) ?_
        refine TL_nil ?_
        exact TX_round ⟨(j + 1, fv2, H2), by show j + 1 + 1 ≤ row; omega, by
          show Frag _ _ _ (outT rs row (q * row + j + 1)).length (outT rs row (q * row + j + 1)).flatten _
          rw [outT_succ, hc, List.length_append, List.flatten_append]
          simpa [List.append_assoc] using hF2⟩ (by show row - (j + 1) < row - j; omega) ⟨rfl, rfl, rfl, rfl, rfl, rfl, trivial⟩ (fun _ h => h.app_right (X := [_, _, _, _, _, _]))
      ·
        refine TC_exit ?_
        refine TX_then_exit ?_
        refine TX_then_exit ?_
        refine TX_block_here ?_
        refine TX_block_normal ?_
        refine TX_then ?_
        refine TC_reg ?_
        refine TL_q rfl rfl (QT_move rfl rfl rfl) ?_
        refine TL_q rfl rfl (QT_add rfl rfl rfl rfl (fun _ => ⟨by omega, by omega⟩)) ?_
        refine TL_q rfl rfl (QT_assign rfl rfl rfl) ?_
        refine TL_nil ?_
        exact TX_round ⟨(q + 1, fv, H), by show q + 1 + 1 ≤ m; omega, by
          obtain rfl : row = j + 1 := by omega
          show Frag _ _ _ (outT rs (j + 1) ((q + 1) * (j + 1))).length (outT rs (j + 1) ((q + 1) * (j + 1))).flatten _
          rw [show (q + 1) * (j + 1) = q * (j + 1) + j + 1 by rw [Nat.add_mul]; omega, outT_succ, cellF_end rfl, List.append_nil]
          exact hfr⟩ (by show m - (q + 1) < m - q; omega) ⟨rfl, rfl, rfl, rfl, rfl, trivial⟩ (fun _ h => h)
    ·
      refine TC_exit ?_
      refine TX_then_exit ?_
      refine TX_then_exit ?_
      refine TX_block_here ?_
      refine TX_then ?_
      refine TC_seq ?_
      refine TC_reg ?_
      refine TL_q rfl rfl (QT_move rfl rfl rfl) ?_
      refine TL_q rfl rfl (QT_assign rfl rfl rfl) ?_
      refine TL_q rfl rfl (QT_assign rfl rfl rfl) ?_
      refine TL_nil ?_
      refine TX_then ?_
      refine TC_ret ?_
      have hqe : q * row = rs.length - row := by
        obtain rfl : m = q + 1 := by omega
        rw [← hmr, Nat.add_mul]; omega
      rw [hqe] at hfr
      exact TX_ret (.inl rfl) (res2 rfl rfl rfl) ⟨_, ⟨fv, H, rfl, hfr, rfl⟩, fun _ h => h⟩
end Go.Proofs.YtannaanbadaflaaDoor

/- ROWS: two triangles for each cell. -/
import Derived.Test.YtannaanbadaflaaDoorT10n
namespace Go.Proofs.YtannaanbadaflaaDoor
open Go Go.Gx Go.RowKit
set_option maxRecDepth 100000
section
variable {P : Program} {n : Nat} {ops : Array Oper} {o : Oper} {σ : Slots} {A : World → Prop} {g : Bool} {k : IntKind} {p q : Int}
theorem QT_ieq (h : QT P n ops o σ A g (.int k p)) (e : p = q) : QT P n ops o σ A g (.int k q) := e ▸ h
end
def incR (r : R) : R := setF r (.int .u8 (IntKind.u8.wrap ((flagR r : Int) + 1)))
theorem bareR_setF {r : R} {v : Value} : bareR (setF r v) = bareR r := by cases r <;> rfl
theorem wrap8_wf (z : Int) : (Lit.int .u8 (IntKind.u8.wrap z)).wf = true := by
  have h1 : IntKind.u8.min = 0 := rfl
  have h2 : IntKind.u8.max = 255 := rfl
  simp only [Lit.wf, Bool.and_eq_true, decide_eq_true_eq, wrap8]
  omega
theorem incR_ints {r : R} (h : Ints recK r) : Ints recK (incR r) := setF_ints h (wrap8_wf _)
def mixR (rs : List R) (i : Nat) : List R := (rs.take i).map incR ++ rs.drop i
theorem mixR_all {rs : List R} (h : All7 rs) (i : Nat) : All7 (mixR rs i) := fun r hr => by
  rcases List.mem_append.1 hr with hr | hr
  · obtain ⟨r0, h0, rfl⟩ := List.mem_map.1 hr
    exact incR_ints (h r0 (List.mem_of_mem_take h0))
  · exact h r (List.mem_of_mem_drop hr)
theorem mixR_len {rs : List R} {i : Nat} : (mixR rs i).length = rs.length := by
  simp only [mixR, List.length_append, List.length_map, List.length_take, List.length_drop]; omega
theorem mixR_at {rs : List R} {i : Nat} (h : i < rs.length) : mixR rs i = (rs.take i).map incR ++ at7 rs i :: rs.drop (i + 1) ∧ mixR rs (i + 1) = (rs.take i).map incR ++ incR (at7 rs i) :: rs.drop (i + 1) := by
  constructor
  · rw [mixR, drop_at7 h]
  · rw [mixR, take_at7 h]; simp
theorem mixR_at7 {rs : List R} {i : Nat} (h : i < rs.length) : at7 (mixR rs i) i = at7 rs i := by
  rw [(mixR_at h).1, at7, List.getD_eq_getElem?_getD, List.getElem?_append_right (by simp; omega)]
  simp [show i - min i rs.length = 0 by omega]
theorem set_mid {pre post : List R} {r : R} {rest : List Value} {v : Value} (hp : ∀ t ∈ pre, t.length = 7) (hr : r.length = 7) : setAt ((pre ++ r :: post).flatten ++ rest) (0 + pre.length * 7 + 0) [v] = (pre ++ setF r v :: post).flatten ++ rest := by
  have hl := flat_len hp
  obtain ⟨x, t, rfl⟩ : ∃ x t, r = x :: t := by
    cases r with
    | nil => simp at hr
    | cons x t => exact ⟨x, t, rfl⟩
  have e : ((pre ++ (x :: t) :: post).flatten ++ rest) = pre.flatten ++ (x :: (t ++ (post.flatten ++ rest))) := by simp
  rw [e, show 0 + pre.length * 7 + 0 = pre.flatten.length by rw [hl]; omega]
  simp [setAt, setF, List.set_append]
theorem bare_inc (rs : List R) (i : Nat) : bareR (at7 (rs.map incR) i) = bareR (at7 rs i) := by
  rw [at7, at7, List.getD_eq_getElem?_getD, List.getD_eq_getElem?_getD, List.getElem?_map]
  cases rs[i]? with
  | none => rfl
  | some r => exact bareR_setF
theorem rows_inc {L : Lay} {rs : List R} (hk : okB L = true) (h5 : L.ty = 5) : trioF L (rs.map incR) = trioF L rs := by
  rw [trio5 hk h5, trio5 hk h5, rowsF, rowsF, List.length_map]
  have : ∀ row n, outT (rs.map incR) row n = outT rs row n := fun row n => flatMap_congr' fun i _ => by
    unfold cellF B3
    simp only [bare_inc]
  rw [this]
theorem outT_len_row (rs : List R) {r : Nat} : ∀ q j, j ≤ r → (outT rs (r + 1) (q * (r + 1) + j)).length = 2 * (q * r + j)
  | 0, 0, _ => by simp [outT]
  | q + 1, 0, _ => by
    rw [show (q + 1) * (r + 1) + 0 = q * (r + 1) + r + 1 by rw [Nat.add_mul]; omega, outT_succ, cellF_end rfl, List.append_nil, outT_len_row rs q r (Nat.le_refl _), Nat.add_mul]; omega
  | q, j + 1, h => by
    rw [show q * (r + 1) + (j + 1) = q * (r + 1) + j + 1 by omega, outT_succ, List.length_append, outT_len_row rs q j (by omega), cellF_in (by omega)]
    simp only [List.length_cons, List.length_nil]; omega
theorem outT_at {rs : List R} {r q j M : Nat} (hj : j < r) (hM : q * (r + 1) + j < M) : (outT rs (r + 1) M)[2 * (q * r + j)]? = some (B3 (at7 rs (q * (r + 1) + j)) (at7 rs (q * (r + 1) + j + 1)) (at7 rs (q * (r + 1) + j + (r + 1)))) ∧ (outT rs (r + 1) M)[2 * (q * r + j) + 1]? = some (B3 (at7 rs (q * (r + 1) + j + 1)) (at7 rs (q * (r + 1) + j + (r + 1) + 1)) (at7 rs (q * (r + 1) + j + (r + 1)))) := by
  obtain ⟨k, rfl⟩ : ∃ k, M = q * (r + 1) + j + 1 + k := ⟨M - (q * (r + 1) + j + 1), by omega⟩
  rw [outT_add, outT_succ, cellF_in (by omega)]
  have hl := outT_len_row rs q j (r := r) (by omega)
  rw [← hl]
  constructor
  · simp
  · simp [List.getElem?_append]
theorem b3_more {x y z : R} (hx : x.length = 7) (hy : y.length = 7) (hz : z.length = 7) (hix : Ints recK x) (hiy : Ints recK y) :
    ((B3 x y z).drop 1).take 2 = (x.drop 1).take 2 ∧ (B3 x y z)[0]? = some (.int .u8 0) ∧ (B3 x y z)[7]? = some (.int .u8 0) := by
  obtain ⟨f, rfl⟩ := tab' (.bool false) x hx
  obtain ⟨g, rfl⟩ := tab' (.bool false) y hy
  obtain ⟨h, rfl⟩ := tab' (.bool false) z hz
  exact ⟨by kernel_rfl, by kernel_rfl, by kernel_rfl⟩
theorem lay_ro {L : Lay} {row : Nat} (h : L.ro = (row : Int)) : L.cells[0 + 5]? = some (.int .i64 (row : Int)) := by rw [← h]; rfl
theorem cells_mul (m r : Nat) : 2 * (((m + 1 : Nat) : Int) - 1) * (((r + 1 : Nat) : Int) - 1) = ((2 * (m * r) : Nat) : Int) := by
  have h1 : ((m + 1 : Nat) : Int) - 1 = (m : Int) := by omega
  have h2 : ((r + 1 : Nat) : Int) - 1 = (r : Int) := by omega
  rw [h1, h2, Int.natCast_mul, Int.natCast_mul, Int.mul_assoc]; rfl
set_option maxHeartbeats 3000000 in
theorem law_triosRows (w0 : World) (η : Heap) (hG : Sets w0) (L0 : Lay) (sv : Value) (rs : List R) (hs : SlA (St w0 η) sv 7 rs.length rs.flatten) (ha : All7 rs) :
    CallsT Tryd.prog 6 [L0.val, sv] (St w0 η) fun v A' => v = .bool true ∧ A' = St w0 η := by
  have hs0 := hs
  obtain ⟨_, ad, cap, sb, so, rfl, hcap, had, hrd⟩ := hs.some
  obtain ⟨L, hL⟩ : ∃ L : Lay, L = { L0 with ty := 5 } := ⟨_, rfl⟩
  have h5 : L.ty = 5 := by rw [hL]
  obtain ⟨A, hA⟩ : ∃ A, A = trioF L rs := ⟨_, rfl⟩
  have hA2 := trio_ints (L := L) ha
  have hof1 := fun (X : Heap) (v : Value) (h : SlA (St w0 X) v 7 rs.length rs.flatten) (hn : rs.length * 120 ≤ 140737488355328) => of_spec w0 X hG L v rs h ha hn
  have hai : All7 (rs.map incR) := fun r hr => by
    obtain ⟨r0, h0, rfl⟩ := List.mem_map.1 hr
    exact incR_ints (ha r0 h0)
  have hof2 := fun (hk : okB L = true) (X : Heap) (v : Value) (h : SlA (St w0 X) v 7 (rs.map incR).length (rs.map incR).flatten) (hn : (rs.map incR).length * 120 ≤ 140737488355328) => by
    have := of_spec w0 X hG L v (rs.map incR) h hai hn
    rw [rows_inc hk h5] at this
    exact this
  have hi1 : Ints (rep rs.length recK) rs.flatten := flat_ints (s := 7) ha
  rw [← hA] at hA2 hof1 hof2
  refine CallsT.body Tryd.func6 rfl rfl ?_
  simp only [Tryd.ntmps6, slotsOf, Nat.reduceAdd]
  refine TC_seq ?_
  refine TC_reg ?_
  refine TL_e rfl rfl rfl (rfl) (ET_box rfl rfl) ?_
  rintro _ _ ⟨b2, rfl, rfl⟩
  refine TL_q rfl rfl (QT_assign rfl rfl rfl) ?_
  refine TL_nil ?_
  refine TX_then ?_
  refine TC_seq ?_
  refine TC_reg ?_
  refine TL_q rfl rfl (QT_field rfl rfl YtannaanbadaflaaDoorF.fld_27_0 rfl) ?_
  first
    | refine TL_e0 rfl rfl (rfl) (ET_store 0 rfl rfl rfl rfl YtannaanbadaflaaDoorF.sz_3 rfl rfl rfl) ?_
    | refine TL_e0 rfl rfl (rfl) (ET_store 1 rfl rfl rfl rfl YtannaanbadaflaaDoorF.sz_3 rfl rfl rfl) ?_
    | refine TL_e0 rfl rfl (rfl) (ET_store 2 rfl rfl rfl rfl YtannaanbadaflaaDoorF.sz_3 rfl rfl rfl) ?_
  rintro _ _ ⟨rfl, rfl⟩
  refine TL_nil ?_
  refine TX_then ?_
  refine TC_seq ?_
  refine TC_seq ?_
  refine TC_A (St w0 ((b2, 27, L.cells) :: η)) (fun w h => by rw [hL]; exact h) ?_
  refine TC_reg ?_
  refine TL_q rfl rfl (QT_move rfl rfl rfl) ?_
  refine TL_q rfl rfl (QT_len rfl rfl Tryd.underlying28 rfl) ?_
  refine TL_q rfl rfl (QT_gtr rfl rfl rfl rfl) ?_
  refine TL_q rfl rfl (QT_move rfl rfl rfl) ?_
  first
    | refine TL_q rfl rfl (QT_loadW 0 rfl rfl Tryd.underlying27 rfl rfl rfl YtannaanbadaflaaDoorF.sz_27) ?_
    | refine TL_q rfl rfl (QT_loadW 1 rfl rfl Tryd.underlying27 rfl rfl rfl YtannaanbadaflaaDoorF.sz_27) ?_
    | refine TL_q rfl rfl (QT_loadW 2 rfl rfl Tryd.underlying27 rfl rfl rfl YtannaanbadaflaaDoorF.sz_27) ?_
    | refine TL_q rfl rfl (QT_loadA 0 rfl rfl Tryd.underlying27 rfl rfl rfl YtannaanbadaflaaDoorF.sz_27 (fun _ => rfl)) ?_
    | refine TL_q rfl rfl (QT_loadA 1 rfl rfl Tryd.underlying27 rfl rfl rfl YtannaanbadaflaaDoorF.sz_27 (fun _ => rfl)) ?_
    | refine TL_q rfl rfl (QT_loadA 2 rfl rfl Tryd.underlying27 rfl rfl rfl YtannaanbadaflaaDoorF.sz_27 (fun _ => rfl)) ?_
  refine TL_cq rfl rfl rfl rfl YtannaanbadaflaaDoorF.cal_17 rfl (fun _ => check_spec w0 _ hG L) ?_
  refine TL_q rfl rfl (QT_neq rfl rfl rfl rfl) ?_
  refine TL_q rfl rfl (QT_or rfl rfl rfl rfl) ?_
  refine TL_nil ?_
  refine TX_then ?_
  first
    | refine TC_cond_dec rfl (fun h22 => ?_) (fun h22 => ?_)
    | refine TC_cond rfl (fun h22 => ?_) (fun h22 => ?_)
  ·
    refine TC_seq ?_
    refine TC_reg ?_
    refine TL_cq rfl rfl rfl rfl YtannaanbadaflaaDoorF.cal_8 rfl (fun _ => lives10 w0 _ hG) ?_
    refine TL_q rfl rfl (QT_assign rfl rfl rfl) ?_
    refine TL_nil ?_
    refine TX_then ?_
    refine TC_ret ?_
    refine TX_then_ret ?_
    exact TX_ret (.inl rfl) (res1 rfl rfl) ⟨_, ⟨rfl, rfl⟩, (fun _ h => by first | exact h | exact h.tail | exact h.tail.tail | exact h.tail.tail.tail | exact h.tail.tail.tail.tail | exact h.tail.tail.tail.tail.tail | exact h.tail.tail.tail.tail.tail.tail | exact h.tail.tail.tail.tail.tail.tail.tail | exact h.tail.tail.tail.tail.tail.tail.tail.tail | exact h.tail.tail.tail.tail.tail.tail.tail.tail.tail | exact h.tail.tail.tail.tail.tail.tail.tail.tail.tail.tail | exact h.tail.tail.tail.tail.tail.tail.tail.tail.tail.tail.tail | exact h.tail.tail.tail.tail.tail.tail.tail.tail.tail.tail.tail.tail | exact h.tail.tail.tail.tail.tail.tail.tail.tail.tail.tail.tail.tail.tail)⟩
  ·
    refine TC_skip ?_
    refine TX_then ?_
    refine TC_seq ?_
    simp only [Bool.or_eq_false_iff, decide_eq_false_iff_not] at h22
    have hn : rs.length ≤ 500 := by omega
    have hk := ok_of h22.2
    have hro := (okB_bounds hk).2.2.2.2.1 h5
    obtain ⟨r, hr⟩ : ∃ r : Nat, L.ro = ((r + 1 : Nat) : Int) := ⟨L.ro.toNat - 1, by omega⟩
    have hr1 : 1 ≤ r := by omega
    have hfld := lay_ro hr
    have hrn : L.ro.toNat = r + 1 := by omega
    have hAr : A = rowsF rs (r + 1) := by rw [hA, trio5 hk h5, hrn]
    refine TC_reg ?_
    first
      | refine TL_q rfl rfl (QT_loadW 0 rfl rfl Tryd.underlying27 rfl rfl rfl YtannaanbadaflaaDoorF.sz_27) ?_
      | refine TL_q rfl rfl (QT_loadW 1 rfl rfl Tryd.underlying27 rfl rfl rfl YtannaanbadaflaaDoorF.sz_27) ?_
      | refine TL_q rfl rfl (QT_loadW 2 rfl rfl Tryd.underlying27 rfl rfl rfl YtannaanbadaflaaDoorF.sz_27) ?_
      | refine TL_q rfl rfl (QT_loadA 0 rfl rfl Tryd.underlying27 rfl rfl rfl YtannaanbadaflaaDoorF.sz_27 (fun _ => rfl)) ?_
      | refine TL_q rfl rfl (QT_loadA 1 rfl rfl Tryd.underlying27 rfl rfl rfl YtannaanbadaflaaDoorF.sz_27 (fun _ => rfl)) ?_
      | refine TL_q rfl rfl (QT_loadA 2 rfl rfl Tryd.underlying27 rfl rfl rfl YtannaanbadaflaaDoorF.sz_27 (fun _ => rfl)) ?_
    refine TL_q rfl rfl (QT_move rfl rfl rfl) ?_
    refine TL_e rfl rfl rfl (rfl) (ET_call rfl YtannaanbadaflaaDoorF.cal_10 rfl (hof1 _ _ hs0.tail (by omega))) ?_
    rintro _ _ ⟨pv, H1, rfl, hF1, X1, rfl⟩
    refine TL_q rfl rfl (QT_move rfl rfl rfl) ?_
    refine TL_q rfl rfl (QT_extract rfl rfl rfl rfl) ?_
    refine TL_q rfl rfl (QT_extract rfl rfl rfl rfl) ?_
    refine TL_q rfl rfl (QT_assign rfl rfl rfl) ?_
    refine TL_q rfl rfl (QT_assign rfl rfl rfl) ?_
    refine TL_nil ?_
    refine TX_then ?_
    refine TC_seq ?_
    refine TC_A (St w0 ((b2, 27, L.cells) :: (H1 ++ η))) (fun w h => (show St w0 (H1 ++ (X1 ++ ((b2, 27, L.cells) :: η))) w from h).cnt fun p => by simp only [List.countP_append, List.countP_cons]; omega) ?_
    have hsA : SlA (St w0 (H1 ++ η)) pv 21 A.1.length A.1.flatten := hF1.sla
    obtain ⟨_, pad, pcap, pb, po, rfl, hpc, hpad, hpr⟩ := hsA.some
    obtain ⟨m, hm⟩ : ∃ m, m = rs.length / (r + 1) := ⟨_, rfl⟩
    have hml : m * (r + 1) ≤ rs.length := by rw [hm]; exact Nat.div_mul_le_self _ _
    have hmn : m ≤ rs.length := by rw [hm]; exact Nat.div_le_self _ _
    refine TC_reg ?_
    refine TL_q rfl rfl (QT_move rfl rfl rfl) ?_
    refine TL_q rfl rfl (QT_len rfl rfl Tryd.underlying28 rfl) ?_
    refine TL_q rfl rfl (QT_field rfl rfl YtannaanbadaflaaDoorF.fld_27_5 rfl) ?_
    refine TL_q rfl rfl (QT_load (v := .int .i64 ((r + 1 : Nat) : Int)) 0 rfl rfl Tryd.underlying3 rfl rfl rfl (fun _ => hfld)) ?_
    refine TL_q rfl rfl (QT_ieq (q := (m : Int)) (QT_quo rfl rfl rfl rfl (fun _ => ⟨by omega, by omega, by omega⟩)) (by rw [icast_div, hm])) ?_
    refine TL_q rfl rfl (QT_assign rfl rfl rfl) ?_
    refine TL_nil ?_
    refine TX_then ?_
    refine TC_seq ?_
    refine TC_seq ?_
    refine TC_reg ?_
    refine TL_q rfl rfl (QT_move rfl rfl rfl) ?_
    refine TL_q rfl rfl (QT_field rfl rfl YtannaanbadaflaaDoorF.fld_27_5 rfl) ?_
    refine TL_q rfl rfl (QT_load (v := .int .i64 ((r + 1 : Nat) : Int)) 0 rfl rfl Tryd.underlying3 rfl rfl rfl (fun _ => hfld)) ?_
    refine TL_q rfl rfl (QT_ieq (q := ((m * (r + 1) : Nat) : Int)) (QT_mul rfl rfl rfl rfl (fun _ => i64_mul (by omega))) rfl) ?_
    refine TL_q rfl rfl (QT_move rfl rfl rfl) ?_
    refine TL_q rfl rfl (QT_len rfl rfl Tryd.underlying28 rfl) ?_
    refine TL_q rfl rfl (QT_neq rfl rfl rfl rfl) ?_
    refine TL_q rfl rfl (QT_move rfl rfl rfl) ?_
    refine TL_q rfl rfl (QT_move rfl rfl rfl) ?_
    refine TL_q rfl rfl (QT_lss rfl rfl rfl rfl) ?_
    refine TL_q rfl rfl (QT_or rfl rfl rfl rfl) ?_
    refine TL_nil ?_
    refine TX_then ?_
    first
      | refine TC_cond_dec rfl (fun h45 => ?_) (fun h45 => ?_)
      | refine TC_cond rfl (fun h45 => ?_) (fun h45 => ?_)
    ·
      refine TC_seq ?_
      refine TC_reg ?_
      refine TL_q rfl rfl (QT_move rfl rfl rfl) ?_
      refine TL_q rfl rfl (QT_eql rfl rfl rfl rfl) ?_
      refine TL_q rfl rfl (QT_move rfl rfl rfl) ?_
      refine TL_q rfl rfl (QT_move rfl rfl rfl) ?_
      refine TL_q rfl rfl (QT_len rfl rfl Tryd.underlying31 rfl) ?_
      refine TL_q rfl rfl (QT_eql rfl rfl rfl rfl) ?_
      refine TL_q rfl rfl (QT_and rfl rfl rfl rfl) ?_
      refine TL_q rfl rfl (QT_move rfl rfl rfl) ?_
      refine TL_cq rfl rfl rfl rfl YtannaanbadaflaaDoorF.cal_8 rfl (fun _ => lives10 w0 _ hG) ?_
      refine TL_q rfl rfl (QT_and rfl rfl rfl rfl) ?_
      refine TL_q rfl rfl (QT_assign rfl rfl rfl) ?_
      refine TL_nil ?_
      refine TX_then ?_
      refine TC_ret ?_
      refine TX_then_ret ?_
      have e : A = ([], 5) := by
        rw [hAr, rowsF, if_neg]
        rintro ⟨h0, h2⟩
        have := (two_rows h0 h2).2
        rw [← hm] at this h2
        simp only [Bool.or_eq_true, decide_eq_true_eq] at h45
        omega
      exact TX_ret (.inl rfl) (res1 rfl rfl) ⟨_, ⟨congrArg Value.bool (by rw [e]; rfl), rfl⟩, fun _ h => h.tail.app_right⟩
    ·
      refine TC_skip ?_
      refine TX_then ?_
      refine TC_seq ?_
      simp only [Bool.or_eq_false_iff, decide_eq_false_iff_not, ne_eq, Classical.not_not] at h45
      have hme : m * (r + 1) = rs.length := by omega
      have hm2 : 2 ≤ m := by omega
      have hcond : rs.length % (r + 1) = 0 ∧ 2 ≤ rs.length / (r + 1) := ⟨by rw [← hme]; exact Nat.mul_mod_left _ _, by omega⟩
      have hAe : A = (outT rs (r + 1) (rs.length - (r + 1)), 0) := by rw [hAr, rowsF, if_pos hcond]
      obtain ⟨m, rfl⟩ : ∃ m0, m = m0 + 1 := ⟨m - 1, by omega⟩
      have hmm : rs.length - (r + 1) = m * (r + 1) := by rw [← hme, Nat.add_mul]; omega
      have hAl : A.1.length = 2 * (m * r) := by rw [hAe, hmm]; exact outT_len_row rs m 0 (Nat.zero_le _)
      have hmr : m * r ≤ 500 := by
        have : m * r ≤ m * (r + 1) := Nat.mul_le_mul_left _ (by omega)
        omega
      have hmr1 : m ≤ m * r := by
        have : m * 1 ≤ m * r := Nat.mul_le_mul_left _ hr1
        omega
      have hA0 : A.2 = 0 := by rw [hAe]
      have hm499 : m ≤ 500 := by omega
      have hrn0 : r + 1 ≤ rs.length := (two_rows hcond.1 hcond.2).1 |> fun h => by omega
      refine TC_reg ?_
      refine TL_q rfl rfl (QT_move rfl rfl rfl) ?_
      refine TL_e rfl rfl rfl (rfl) (ET_appendL (L := []) (H := []) rfl Tryd.underlying28 el_Rec rfl rfl (Frag.nil _ _) (fun _ h => h) (hs0.mono fun _ h => h.tail.app_right) hi1.oneCell (by omega) (by omega)) ?_
      rintro v57 _ ⟨H8, hF8, rfl⟩
      refine TL_q rfl rfl (QT_assign rfl rfl rfl) ?_
      refine TL_nil ?_
      refine TX_then ?_
      refine TC_seq ?_
      refine TC_seq ?_
      obtain ⟨wad, wcap, rfl, hwc, hsl⟩ := hF8.slice
      obtain ⟨b8, rest, rfl, rfl⟩ := hsl (by omega)
      rw [List.nil_append] at hF8
      refine TC_weaken (σ' := [(1, true, .slice ad rs.length cap), (2, true, .pointer (some ⟨b2, 0, none⟩)), (5, true, .slice pad A.1.length pcap), (6, true, .int .i64 A.2), (7, true, .int .i64 ((m + 1 : Nat) : Int)), (8, true, .slice (some ⟨b8, 0, none⟩) rs.length wcap)]) (A' := St w0 ((b8, 63, (mixR rs 0).flatten ++ rest) :: (b2, 27, L.cells) :: (H1 ++ η))) ⟨rfl, rfl, rfl, rfl, rfl, by rw [Nat.zero_add]; rfl, trivial⟩ (fun w h => h) ?_
      have hwc2 : rs.length ≤ wcap ∧ wcap ≤ 9223372036854775807 := by omega
      refine TC_reg ?_
      refine TL_q rfl rfl (QT_assign rfl rfl rfl) ?_
      refine TL_nil ?_
      refine TX_then ?_
      refine TC_block ?_
      refine TC_loop (γ := { i : Nat // i ≤ rs.length }) (fun t => [(1, true, .slice ad rs.length cap), (2, true, .pointer (some ⟨b2, 0, none⟩)), (5, true, .slice pad A.1.length pcap), (6, true, .int .i64 A.2), (7, true, .int .i64 ((m + 1 : Nat) : Int)), (8, true, .slice (some ⟨b8, 0, none⟩) rs.length wcap), (9, true, .int .i64 (t.1 : Int))]) (fun t => St w0 ((b8, 63, (mixR rs t.1).flatten ++ rest) :: (b2, 27, L.cells) :: (H1 ++ η))) (fun t => rs.length - t.1) ⟨0, Nat.zero_le _⟩ ⟨rfl, rfl, rfl, rfl, rfl, rfl, rfl, trivial⟩ (fun _ h => h) ?_
      rintro ⟨i, hil⟩
      dsimp only
      refine TC_seq ?_
      refine TC_seq ?_
      refine TC_reg ?_
      refine TL_q rfl rfl (QT_move rfl rfl rfl) ?_
      refine TL_q rfl rfl (QT_move rfl rfl rfl) ?_
      refine TL_q rfl rfl (QT_len rfl rfl Tryd.underlying28 rfl) ?_
      refine TL_q rfl rfl (QT_lss rfl rfl rfl rfl) ?_
      refine TL_nil ?_
      refine TX_then ?_
      first
        | refine TC_cond_dec rfl (fun h61 => ?_) (fun h61 => ?_)
        | refine TC_cond rfl (fun h61 => ?_) (fun h61 => ?_)
      ·
        have hi : i < rs.length := by omega
        have hmf := rec_flag (mixR_all ha i) (show i < (mixR rs i).length by rw [mixR_len]; exact hi)
        rw [mixR_at7 hi] at hmf
        have hfl : (mixR rs i).flatten.length = rs.length * 7 := by rw [flat_len (mixR_all ha i).len, mixR_len]
        obtain ⟨e1, e2⟩ := mixR_at hi
        have hxl : (at7 rs i).length = 7 := (at7_ints ha hi).length
        have hpl : ∀ t ∈ (rs.take i).map incR, t.length = 7 := fun t ht => by
          obtain ⟨r0, h0, rfl⟩ := List.mem_map.1 ht
          exact (incR_ints (ha r0 (List.mem_of_mem_take h0))).length
        have hpn : ((rs.take i).map incR).length = i := by rw [List.length_map, List.length_take]; omega
        have hset := set_mid (post := rs.drop (i + 1)) (rest := rest) (v := .int .u8 (IntKind.u8.wrap ((flagR (at7 rs i) : Int) + 1))) hpl hxl
        rw [hpn, ← e1] at hset
        have hset2 : setAt ((mixR rs i).flatten ++ rest) (0 + i * 7 + 0) [.int .u8 (IntKind.u8.wrap ((flagR (at7 rs i) : Int) + 1))] = (mixR rs (i + 1)).flatten ++ rest := by rw [hset, e2]; rfl
        refine TC_skip ?_
        refine TX_then ?_
        refine TC_seq ?_
        refine TC_block ?_
        refine TC_reg ?_
        refine TL_q rfl rfl (QT_move rfl rfl rfl) ?_
        refine TL_q rfl rfl (QT_move rfl rfl rfl) ?_
        refine TL_q rfl rfl (QT_move rfl rfl rfl) ?_
        refine TL_q rfl rfl (QT_move rfl rfl rfl) ?_
        refine TL_q rfl rfl (QT_indexG i rfl rfl Tryd.underlying28 YtannaanbadaflaaDoorF.sz_63 rfl rfl rfl (fun _ => hi) (fun _ => rfl)) ?_
        refine TL_q rfl rfl (QT_field rfl rfl YtannaanbadaflaaDoorF.fld_63_0 rfl) ?_
        refine TL_q rfl rfl (QT_load (v := .int .u8 (flagR (at7 rs i) : Int)) 0 rfl rfl Tryd.underlying5 rfl rfl rfl (fun _ => by rw [Nat.zero_add, Nat.add_zero, List.getElem?_append_left (by rw [hfl]; omega)]; exact hmf)) ?_
        refine TL_q rfl rfl (QT_addw rfl rfl rfl rfl) ?_
        refine TL_q rfl rfl (QT_indexG i rfl rfl Tryd.underlying28 YtannaanbadaflaaDoorF.sz_63 rfl rfl rfl (fun _ => hi) (fun _ => rfl)) ?_
        refine TL_q rfl rfl (QT_field rfl rfl YtannaanbadaflaaDoorF.fld_63_0 rfl) ?_
        refine TL_e0 rfl rfl (rfl) (ET_store (vs := [.int .u8 (IntKind.u8.wrap ((flagR (at7 rs i) : Int) + 1))]) 0 rfl rfl rfl rfl YtannaanbadaflaaDoorF.sz_5 rfl rfl (Nat.ble_eq_true_of_le (by rw [List.length_append, hfl]; show 0 + i * 7 + 0 + 1 ≤ _; omega))) ?_
        rintro _ _ ⟨rfl, rfl⟩
        refine TL_nil ?_
        refine TX_block_normal ?_
        refine TX_then ?_
        refine TC_reg ?_
        refine TL_q rfl rfl (QT_move rfl rfl rfl) ?_
        refine TL_q rfl rfl (QT_add rfl rfl rfl rfl (fun _ => ⟨by omega, by omega⟩)) ?_
        refine TL_q rfl rfl (QT_assign rfl rfl rfl) ?_
        refine TL_nil ?_
        exact TX_round ⟨i + 1, by omega⟩ (by show rs.length - (i + 1) < rs.length - i; omega) ⟨rfl, rfl, rfl, rfl, rfl, rfl, rfl, trivial⟩ (fun w h => by
          show St w0 ((b8, 63, (mixR rs (i + 1)).flatten ++ rest) :: (b2, 27, L.cells) :: (H1 ++ η)) w
          rw [← hset2]; exact h)
      ·
        refine TC_exit ?_
        refine TX_then_exit ?_
        refine TX_then_exit ?_
        refine TX_block_here ?_
        refine TX_then ?_
        refine TC_seq ?_
        obtain rfl : i = rs.length := by omega
        have hmx : mixR rs rs.length = rs.map incR := by rw [mixR, List.take_length, List.drop_length, List.append_nil]
        rw [hmx]
        have hfl : (rs.map incR).flatten.length = rs.length * 7 := by rw [flat_len hai.len, List.length_map]
        refine TC_reg ?_
        refine TL_q rfl rfl (QT_loadW (cs := L.cells) 1 rfl rfl Tryd.underlying27 rfl rfl rfl YtannaanbadaflaaDoorF.sz_27) ?_
        refine TL_q rfl rfl (QT_move rfl rfl rfl) ?_
        refine TL_e rfl rfl rfl (rfl) (ET_call rfl YtannaanbadaflaaDoorF.cal_10 rfl (hof2 hk _ _ (show SlA _ (.slice (some ⟨b8, 0, none⟩) rs.length wcap) 7 (rs.map incR).length (rs.map incR).flatten by
         rw [List.length_map]
         exact SlA.own (n := rs.length) 0 rfl (by rw [List.drop_zero, ← hfl, List.take_left]) (by rw [List.length_append, hfl]; omega) hwc2) (by rw [List.length_map]; omega))) ?_
        rintro _ _ ⟨qv, H2, rfl, hF2, X2, rfl⟩
        refine TL_q rfl rfl (QT_move rfl rfl rfl) ?_
        refine TL_q rfl rfl (QT_extract rfl rfl rfl rfl) ?_
        refine TL_q rfl rfl (QT_extract rfl rfl rfl rfl) ?_
        refine TL_q rfl rfl (QT_assign rfl rfl rfl) ?_
        refine TL_q rfl rfl (QT_assign rfl rfl rfl) ?_
        refine TL_nil ?_
        refine TX_then ?_
        refine TC_seq ?_
        refine TC_seq ?_
        refine TC_A (St w0 ((b2, 27, L.cells) :: (H1 ++ (H2 ++ η)))) (fun w h => (show St w0 (H2 ++ (X2 ++ ((b8, 63, (rs.map incR).flatten ++ rest) :: (b2, 27, L.cells) :: (H1 ++ η)))) w from h).cnt fun p => by simp only [List.countP_append, List.countP_cons]; omega) ?_
        have hoi : Ints (rep A.1.length triK) A.1.flatten := flat_ints (s := 21) hA2.1
        have hmul := cells_mul m r
        refine TC_reg ?_
        refine TL_q rfl rfl (QT_move rfl rfl rfl) ?_
        refine TL_q rfl rfl (QT_neq rfl rfl rfl rfl) ?_
        refine TL_q rfl rfl (QT_move rfl rfl rfl) ?_
        refine TL_q rfl rfl (QT_move rfl rfl rfl) ?_
        refine TL_q rfl rfl (QT_neq rfl rfl rfl rfl) ?_
        refine TL_q rfl rfl (QT_or rfl rfl rfl rfl) ?_
        refine TL_q rfl rfl (QT_move rfl rfl rfl) ?_
        refine TL_q rfl rfl (QT_move rfl rfl rfl) ?_
        refine TL_q rfl rfl (QT_len rfl rfl Tryd.underlying31 rfl) ?_
        refine TL_q rfl rfl (QT_move rfl rfl rfl) ?_
        refine TL_q rfl rfl (QT_sub rfl rfl rfl rfl (fun _ => ⟨by omega, by omega⟩)) ?_
        refine TL_q rfl rfl (QT_mul rfl rfl rfl rfl (fun _ => ⟨by omega, by omega⟩)) ?_
        refine TL_q rfl rfl (QT_field rfl rfl YtannaanbadaflaaDoorF.fld_27_5 rfl) ?_
        refine TL_q rfl rfl (QT_load (v := .int .i64 ((r + 1 : Nat) : Int)) 0 rfl rfl Tryd.underlying3 rfl rfl rfl (fun _ => hfld)) ?_
        refine TL_q rfl rfl (QT_sub rfl rfl rfl rfl (fun _ => ⟨by omega, by omega⟩)) ?_
        refine TL_q rfl rfl (QT_ieq (q := ((2 * (m * r) : Nat) : Int)) (QT_mul rfl rfl rfl rfl (fun _ => by rw [hmul]; omega)) hmul) ?_
        refine TL_q rfl rfl (QT_neq rfl rfl rfl rfl) ?_
        refine TL_q rfl rfl (QT_or rfl rfl rfl rfl) ?_
        refine TL_q rfl rfl (QT_move rfl rfl rfl) ?_
        refine TL_q rfl rfl (QT_move rfl rfl rfl) ?_
        refine TL_q rfl rfl (QT_move rfl rfl rfl) ?_
        refine TL_cq rfl rfl rfl rfl YtannaanbadaflaaDoorF.cal_14 rfl (fun _ => sameOk_Tris w0 _ _ _ A.1.length A.1.flatten (hF1.within fun p => by simp only [List.countP_append, List.countP_cons]; omega) (hF2.within fun p => by simp only [List.countP_append, List.countP_cons]; omega) hoi) ?_
        refine TL_q rfl rfl (QT_not rfl rfl rfl) ?_
        refine TL_q rfl rfl (QT_or rfl rfl rfl rfl) ?_
        refine TL_nil ?_
        refine TX_then ?_
        first
          | refine TC_cond_dec rfl (fun h103 => ?_) (fun h103 => ?_)
          | refine TC_cond rfl (fun h103 => ?_) (fun h103 => ?_)
        ·
          refine TC_seq ?_
          refine TC_reg ?_
          refine TL_q rfl rfl (QT_assign rfl rfl rfl) ?_
          refine TL_nil ?_
          refine TX_then ?_
          refine TC_ret ?_
          refine TX_then_ret ?_
          exfalso
          simp only [Bool.or_eq_true, decide_eq_true_eq, Bool.not_true, Bool.or_false, Bool.false_eq_true, or_false] at h103
          omega
        ·
          refine TC_skip ?_
          refine TX_then ?_
          refine TC_seq ?_
          refine TC_seq ?_
          have hlT : ∀ t ∈ A.1, t.length = 21 := fun t ht => (hA2.1 t ht).length
          have hlR := ha.len
          have hpr2 : Rd (St w0 ((b2, 27, L.cells) :: (H1 ++ (H2 ++ η)))) pb po A.1.flatten := hpr.mono fun w h => h.cnt fun p => by simp only [List.countP_append, List.countP_cons]; omega
          have hrd2 : Rd (St w0 ((b2, 27, L.cells) :: (H1 ++ (H2 ++ η)))) sb so rs.flatten := hrd.mono fun w h => h.tail.app_right.app_right
          clear hof1 hof2 hfl hmul hoi hmx hF1 hF2 hF8 hi1 hsl hs hs0 hpr
          refine TC_reg ?_
          refine TL_q rfl rfl (QT_assign rfl rfl rfl) ?_
          refine TL_nil ?_
          refine TX_then ?_
          refine TC_block ?_
          refine TC_loop (γ := { c : Nat // c ≤ m * r }) (fun t => [(1, true, .slice ad rs.length cap), (2, true, .pointer (some ⟨b2, 0, none⟩)), (5, true, .slice pad A.1.length pcap), (12, true, .int .i64 ((2 * t.1 : Nat) : Int))]) (fun t => St w0 ((b2, 27, L.cells) :: (H1 ++ (H2 ++ η)))) (fun t => m * r - t.1) ⟨0, Nat.zero_le _⟩ ⟨rfl, rfl, rfl, rfl, trivial⟩ (fun _ h => h) ?_
          rintro ⟨c, hcl⟩
          dsimp only
          refine TC_seq ?_
          refine TC_seq ?_
          refine TC_reg ?_
          refine TL_q rfl rfl (QT_move rfl rfl rfl) ?_
          refine TL_q rfl rfl (QT_move rfl rfl rfl) ?_
          refine TL_q rfl rfl (QT_len rfl rfl Tryd.underlying31 rfl) ?_
          refine TL_q rfl rfl (QT_lss rfl rfl rfl rfl) ?_
          refine TL_nil ?_
          refine TX_then ?_
          first
            | refine TC_cond_dec rfl (fun h107 => ?_) (fun h107 => ?_)
            | refine TC_cond rfl (fun h107 => ?_) (fun h107 => ?_)
          ·
            have hc : c < m * r := by omega
            obtain ⟨q, hq⟩ : ∃ q, q = c / r := ⟨_, rfl⟩
            obtain ⟨j, hj⟩ : ∃ j, j = c % r := ⟨_, rfl⟩
            have hjr : j < r := by rw [hj]; exact Nat.mod_lt _ (by omega)
            have hqj : q * r + j = c := by rw [hq, hj, Nat.mul_comm]; exact Nat.div_add_mod c r
            have hqm : q < m := by rw [hq]; exact Nat.div_lt_of_lt_mul (by rw [Nat.mul_comm]; exact hc)
            obtain ⟨k1, k2, k3, k4, k5⟩ := idx_lt (n := rs.length) (row := r + 1) (q := q) (j := j) hme (by omega) (by omega)
            have hatM : q * (r + 1) + j < rs.length - (r + 1) := by omega
            have hT := outT_at (rs := rs) hjr hatM
            rw [hqj] at hT
            have hA1 : A.1 = outT rs (r + 1) (rs.length - (r + 1)) := by rw [hAe]
            rw [← hA1] at hT
            obtain ⟨hT1, hT2⟩ := hT
            obtain ⟨d, hd⟩ : ∃ d, d = 2 * c + 1 := ⟨_, rfl⟩
            rw [← hd] at hT2
            have k6 : q * (r + 1) + j + (r + 1) < rs.length := by omega
            have k7 : q * (r + 1) + j + (r + 1) + 1 < rs.length := by omega
            have x1 := at7_ints ha k1
            have x2 := at7_ints ha k2
            have x3 := at7_ints ha k6
            have x4 := at7_ints ha k7
            have v1 := part_at hlR (at7_some k1) 1 2 (by decide)
            have v4 := part_at hlR (at7_some k7) 1 2 (by decide)
            have hqb : q * (r + 1) ≤ 500 := by omega
            obtain ⟨p1, p2, p3, p4, _⟩ := b3_parts x1.length x2.length x3.length
            obtain ⟨u1, u2, u3, u4, _⟩ := b3_parts x2.length x4.length x3.length
            obtain ⟨p5, p6, p7⟩ := b3_more x1.length x2.length x3.length x1 x2
            obtain ⟨u5, u6, u7⟩ := b3_more x2.length x4.length x3.length x2 x4
            have a2 := part_at hlT hT1 7 7 (by decide)
            have a3 := part_at hlT hT1 14 7 (by decide)
            have a5 := part_at hlT hT1 1 2 (by decide)
            have a6 := tri_at hlT hT1 (k := 0) (by decide)
            have b1 := part_at hlT hT2 0 7 (by decide)
            have b3 := part_at hlT hT2 14 7 (by decide)
            have b4 := part_at hlT hT2 8 2 (by decide)
            have b7 := tri_at hlT hT2 (k := 7) (by decide)
            rw [p2] at a2
            rw [p3] at a3
            rw [p5] at a5
            rw [p6] at a6
            rw [u1] at b1
            rw [u3] at b3
            rw [u4] at b4
            rw [u7] at b7
            have y2 := bareR_ints x2
            have y3 := bareR_ints x3
            have l1 : 2 * c < A.1.length := by omega
            have l2 : d < A.1.length := by omega
            clear p1 p2 p3 p4 u1 u2 u3 u4 p5 p6 p7 u5 u6 u7 hT1 hT2 hqj hatM k3 k4 k5
            refine TC_skip ?_
            refine TX_then ?_
            refine TC_seq ?_
            refine TC_block ?_
            refine TC_seq ?_
            refine TC_draw [(0, 0), (1, 0), (2, 0), (3, 0), (4, 0), (5, 0), (6, 0), (7, 0), (8, 0), (9, 0), (10, 0), (11, 0), (12, 0), (13, 0), (14, 0), (15, 0), (16, 0)] YtannaanbadaflaaDoorF.mixed (by kernel_rfl) (St.calm _ _) ?_
            refine TV_q rfl rfl rfl (fun _ => QT_move rfl rfl rfl) ?_
            refine TV_q rfl rfl rfl (fun _ => QT_ieq (q := (c : Int)) (QT_quo rfl rfl rfl rfl (fun _ => ⟨by omega, by omega, by omega⟩)) (by omega)) ?_
            refine TV_q rfl rfl rfl (fun _ => QT_field rfl rfl YtannaanbadaflaaDoorF.fld_27_5 rfl) ?_
            refine TV_ql rfl rfl rfl (QT_load (v := .int .i64 ((r + 1 : Nat) : Int)) 0 rfl rfl Tryd.underlying3 rfl rfl rfl (fun _ => hfld)) ?_
            refine TV_q rfl rfl rfl (fun _ => QT_ieq (q := (r : Int)) (QT_sub rfl rfl rfl rfl (fun _ => ⟨by omega, by omega⟩)) (by omega)) ?_
            refine TV_q rfl rfl rfl (fun _ => QT_ieq (q := (q : Int)) (QT_quo rfl rfl rfl rfl (fun _ => ⟨by omega, by omega, by omega⟩)) (by rw [icast_div, hq])) ?_
            refine TV_q rfl rfl rfl (fun _ => QT_field rfl rfl YtannaanbadaflaaDoorF.fld_27_5 rfl) ?_
            refine TV_ql rfl rfl rfl (QT_load (v := .int .i64 ((r + 1 : Nat) : Int)) 0 rfl rfl Tryd.underlying3 rfl rfl rfl (fun _ => hfld)) ?_
            refine TV_q rfl rfl rfl (fun _ => QT_ieq (q := ((q * (r + 1) : Nat) : Int)) (QT_mul rfl rfl rfl rfl (fun _ => i64_mul (by omega))) rfl) ?_
            refine TV_q rfl rfl rfl (fun _ => QT_move rfl rfl rfl) ?_
            refine TV_q rfl rfl rfl (fun _ => QT_ieq (q := (c : Int)) (QT_quo rfl rfl rfl rfl (fun _ => ⟨by omega, by omega, by omega⟩)) (by omega)) ?_
            refine TV_q rfl rfl rfl (fun _ => QT_field rfl rfl YtannaanbadaflaaDoorF.fld_27_5 rfl) ?_
            refine TV_ql rfl rfl rfl (QT_load (v := .int .i64 ((r + 1 : Nat) : Int)) 0 rfl rfl Tryd.underlying3 rfl rfl rfl (fun _ => hfld)) ?_
            refine TV_q rfl rfl rfl (fun _ => QT_ieq (q := (r : Int)) (QT_sub rfl rfl rfl rfl (fun _ => ⟨by omega, by omega⟩)) (by omega)) ?_
            refine TV_q rfl rfl rfl (fun _ => QT_ieq (q := (j : Int)) (QT_rem rfl rfl rfl rfl (fun _ => ⟨by omega, by omega⟩)) (by rw [icast_mod, hj])) ?_
            refine TV_q rfl rfl rfl (fun _ => QT_ieq (q := ((q * (r + 1) + j : Nat) : Int)) (QT_add rfl rfl rfl rfl (fun _ => ⟨by omega, by omega⟩)) rfl) ?_
            refine TV_q rfl rfl rfl (fun _ => QT_assign rfl rfl rfl) ?_
            refine TV_end ?_
            refine TX_then ?_
            refine TC_seq ?_
            refine TC_draw [(0, 0), (1, 0), (2, 0), (3, 0), (4, 0), (5, 0), (6, 0), (7, 0), (8, 0), (9, 0), (10, 0), (11, 0), (12, 0), (13, 0), (14, 0), (15, 0), (16, 0), (17, 0), (18, 0), (19, 0), (20, 0), (21, 0), (22, 0), (23, 0), (24, 0), (25, 0), (26, 0), (27, 0), (28, 0), (29, 0), (30, 0), (31, 0), (32, 0), (33, 0), (34, 0), (35, 0), (36, 0), (37, 0), (38, 0), (39, 0), (40, 0), (41, 0), (42, 0), (43, 0), (44, 0), (45, 0), (46, 0), (47, 0), (48, 0), (49, 0), (50, 0), (51, 0), (52, 0), (53, 0), (54, 0), (55, 0), (56, 0), (57, 0), (58, 0), (59, 0), (60, 0), (61, 0), (62, 0), (63, 0), (64, 0), (65, 0), (66, 0), (67, 0), (68, 0), (69, 0), (70, 0), (71, 0), (72, 0), (73, 0), (74, 0), (75, 0)] YtannaanbadaflaaDoorF.mixed (by kernel_rfl) (St.calm _ _) ?_
            refine TV_q rfl rfl rfl (fun _ => QT_move rfl rfl rfl) ?_
            refine TV_q rfl rfl rfl (fun _ => QT_move rfl rfl rfl) ?_
            refine TV_q rfl rfl rfl (fun _ => QT_indexG (2 * c) rfl rfl Tryd.underlying31 YtannaanbadaflaaDoorF.sz_65 rfl rfl rfl (fun _ => l1) (fun _ => hpad (by omega))) ?_
            refine TV_q rfl rfl rfl (fun _ => QT_indexArr (1) rfl rfl Tryd.underlying65 YtannaanbadaflaaDoorF.sz_63 rfl rfl (rfl) (fun _ => by decide)) ?_
            refine TV_ql rfl rfl rfl (QT_loadRAj (out := bareR (at7 rs (q * (r + 1) + j + 1))) (2 * c * 21 + 7) rfl rfl Tryd.underlying63 rfl YtannaanbadaflaaDoorF.sz_63 hpr2 rfl (fun _ => a2.2) (fun _ => a2.1)) ?_
            refine TV_q rfl rfl rfl (fun _ => QT_move rfl rfl rfl) ?_
            refine TV_q rfl rfl rfl (fun _ => QT_move rfl rfl rfl) ?_
            refine TV_q rfl rfl rfl (fun _ => QT_add rfl rfl rfl rfl (fun _ => ⟨by omega, by omega⟩)) ?_
            refine TV_q rfl rfl rfl (fun _ => QT_indexG d rfl rfl Tryd.underlying31 YtannaanbadaflaaDoorF.sz_65 rfl rfl (by omega) (fun _ => l2) (fun _ => hpad (by omega))) ?_
            refine TV_q rfl rfl rfl (fun _ => QT_indexArr (0) rfl rfl Tryd.underlying65 YtannaanbadaflaaDoorF.sz_63 rfl rfl (rfl) (fun _ => by decide)) ?_
            have hb1 : d * 21 + 0 + 7 ≤ A.1.flatten.length := b1.2
            have hb2 : (A.1.flatten.drop (d * 21 + 0)).take 7 = bareR (at7 rs (q * (r + 1) + j + 1)) := b1.1
            refine TV_ql rfl rfl rfl (QT_loadRAj (out := bareR (at7 rs (q * (r + 1) + j + 1))) (d * 21 + 0) rfl rfl Tryd.underlying63 rfl YtannaanbadaflaaDoorF.sz_63 hpr2 rfl (fun _ => hb1) (fun _ => hb2)) ?_
            refine TV_q rfl rfl rfl (fun _ => QT_neSame rfl rfl eq_Rec rfl rfl (fun _ => y2)) ?_
            refine TV_q rfl rfl rfl (fun _ => QT_move rfl rfl rfl) ?_
            refine TV_q rfl rfl rfl (fun _ => QT_move rfl rfl rfl) ?_
            refine TV_q rfl rfl rfl (fun _ => QT_move rfl rfl rfl) ?_
            refine TV_q rfl rfl rfl (fun _ => QT_indexG (2 * c) rfl rfl Tryd.underlying31 YtannaanbadaflaaDoorF.sz_65 rfl rfl rfl (fun _ => l1) (fun _ => hpad (by omega))) ?_
            refine TV_q rfl rfl rfl (fun _ => QT_indexArr (2) rfl rfl Tryd.underlying65 YtannaanbadaflaaDoorF.sz_63 rfl rfl (rfl) (fun _ => by decide)) ?_
            refine TV_ql rfl rfl rfl (QT_loadRAj (out := bareR (at7 rs (q * (r + 1) + j + (r + 1)))) (2 * c * 21 + 14) rfl rfl Tryd.underlying63 rfl YtannaanbadaflaaDoorF.sz_63 hpr2 rfl (fun _ => a3.2) (fun _ => a3.1)) ?_
            refine TV_q rfl rfl rfl (fun _ => QT_move rfl rfl rfl) ?_
            refine TV_q rfl rfl rfl (fun _ => QT_move rfl rfl rfl) ?_
            refine TV_q rfl rfl rfl (fun _ => QT_add rfl rfl rfl rfl (fun _ => ⟨by omega, by omega⟩)) ?_
            refine TV_q rfl rfl rfl (fun _ => QT_indexG d rfl rfl Tryd.underlying31 YtannaanbadaflaaDoorF.sz_65 rfl rfl (by omega) (fun _ => l2) (fun _ => hpad (by omega))) ?_
            refine TV_q rfl rfl rfl (fun _ => QT_indexArr (2) rfl rfl Tryd.underlying65 YtannaanbadaflaaDoorF.sz_63 rfl rfl (rfl) (fun _ => by decide)) ?_
            refine TV_ql rfl rfl rfl (QT_loadRAj (out := bareR (at7 rs (q * (r + 1) + j + (r + 1)))) (d * 21 + 14) rfl rfl Tryd.underlying63 rfl YtannaanbadaflaaDoorF.sz_63 hpr2 rfl (fun _ => b3.2) (fun _ => b3.1)) ?_
            refine TV_q rfl rfl rfl (fun _ => QT_neSame rfl rfl eq_Rec rfl rfl (fun _ => y3)) ?_
            refine TV_q rfl rfl rfl (fun _ => QT_or rfl rfl rfl rfl) ?_
            refine TV_q rfl rfl rfl (fun _ => QT_move rfl rfl rfl) ?_
            refine TV_q rfl rfl rfl (fun _ => QT_move rfl rfl rfl) ?_
            refine TV_q rfl rfl rfl (fun _ => QT_move rfl rfl rfl) ?_
            refine TV_q rfl rfl rfl (fun _ => QT_indexG (2 * c) rfl rfl Tryd.underlying31 YtannaanbadaflaaDoorF.sz_65 rfl rfl rfl (fun _ => l1) (fun _ => hpad (by omega))) ?_
            refine TV_q rfl rfl rfl (fun _ => QT_indexArr (0) rfl rfl Tryd.underlying65 YtannaanbadaflaaDoorF.sz_63 rfl rfl (rfl) (fun _ => by decide)) ?_
            refine TV_q rfl rfl rfl (fun _ => QT_field rfl rfl YtannaanbadaflaaDoorF.fld_63_1 rfl) ?_
            refine TV_ql rfl rfl rfl (QT_loadRAj (out := ((at7 rs (q * (r + 1) + j)).drop 1).take 2) (2 * c * 21 + 1) rfl rfl Tryd.underlying58 rfl YtannaanbadaflaaDoorF.sz_58 hpr2 rfl (fun _ => a5.2) (fun _ => a5.1)) ?_
            refine TV_q rfl rfl rfl (fun _ => QT_move rfl rfl rfl) ?_
            refine TV_q rfl rfl rfl (fun _ => QT_move rfl rfl rfl) ?_
            refine TV_q rfl rfl rfl (fun _ => QT_indexG (q * (r + 1) + j) rfl rfl Tryd.underlying28 YtannaanbadaflaaDoorF.sz_63 rfl rfl rfl (fun _ => k1) (fun _ => had (by omega))) ?_
            refine TV_q rfl rfl rfl (fun _ => QT_field rfl rfl YtannaanbadaflaaDoorF.fld_63_1 rfl) ?_
            refine TV_ql rfl rfl rfl (QT_loadRAj (out := ((at7 rs (q * (r + 1) + j)).drop 1).take 2) ((q * (r + 1) + j) * 7 + 1) rfl rfl Tryd.underlying58 rfl YtannaanbadaflaaDoorF.sz_58 hrd2 rfl (fun _ => v1.2) (fun _ => v1.1)) ?_
            refine TV_q rfl rfl rfl (fun _ => QT_neSame rfl rfl eq_Spot rfl rfl (fun _ => spot_ints x1)) ?_
            refine TV_q rfl rfl rfl (fun _ => QT_or rfl rfl rfl rfl) ?_
            refine TV_q rfl rfl rfl (fun _ => QT_move rfl rfl rfl) ?_
            refine TV_q rfl rfl rfl (fun _ => QT_move rfl rfl rfl) ?_
            refine TV_q rfl rfl rfl (fun _ => QT_move rfl rfl rfl) ?_
            refine TV_q rfl rfl rfl (fun _ => QT_add rfl rfl rfl rfl (fun _ => ⟨by omega, by omega⟩)) ?_
            refine TV_q rfl rfl rfl (fun _ => QT_indexG d rfl rfl Tryd.underlying31 YtannaanbadaflaaDoorF.sz_65 rfl rfl (by omega) (fun _ => l2) (fun _ => hpad (by omega))) ?_
            refine TV_q rfl rfl rfl (fun _ => QT_indexArr (1) rfl rfl Tryd.underlying65 YtannaanbadaflaaDoorF.sz_63 rfl rfl (rfl) (fun _ => by decide)) ?_
            refine TV_q rfl rfl rfl (fun _ => QT_field rfl rfl YtannaanbadaflaaDoorF.fld_63_1 rfl) ?_
            refine TV_ql rfl rfl rfl (QT_loadRAj (out := ((at7 rs (q * (r + 1) + j + (r + 1) + 1)).drop 1).take 2) (d * 21 + 8) rfl rfl Tryd.underlying58 rfl YtannaanbadaflaaDoorF.sz_58 hpr2 rfl (fun _ => b4.2) (fun _ => b4.1)) ?_
            refine TV_q rfl rfl rfl (fun _ => QT_move rfl rfl rfl) ?_
            refine TV_q rfl rfl rfl (fun _ => QT_move rfl rfl rfl) ?_
            refine TV_q rfl rfl rfl (fun _ => QT_field rfl rfl YtannaanbadaflaaDoorF.fld_27_5 rfl) ?_
            refine TV_ql rfl rfl rfl (QT_load (v := .int .i64 ((r + 1 : Nat) : Int)) 0 rfl rfl Tryd.underlying3 rfl rfl rfl (fun _ => hfld)) ?_
            refine TV_q rfl rfl rfl (fun _ => QT_add rfl rfl rfl rfl (fun _ => ⟨by omega, by omega⟩)) ?_
            refine TV_q rfl rfl rfl (fun _ => QT_add rfl rfl rfl rfl (fun _ => ⟨by omega, by omega⟩)) ?_
            refine TV_q rfl rfl rfl (fun _ => QT_indexG (q * (r + 1) + j + (r + 1) + 1) rfl rfl Tryd.underlying28 YtannaanbadaflaaDoorF.sz_63 rfl rfl rfl (fun _ => k7) (fun _ => had (by omega))) ?_
            refine TV_q rfl rfl rfl (fun _ => QT_field rfl rfl YtannaanbadaflaaDoorF.fld_63_1 rfl) ?_
            refine TV_ql rfl rfl rfl (QT_loadRAj (out := ((at7 rs (q * (r + 1) + j + (r + 1) + 1)).drop 1).take 2) ((q * (r + 1) + j + (r + 1) + 1) * 7 + 1) rfl rfl Tryd.underlying58 rfl YtannaanbadaflaaDoorF.sz_58 hrd2 rfl (fun _ => v4.2) (fun _ => v4.1)) ?_
            refine TV_q rfl rfl rfl (fun _ => QT_neSame rfl rfl eq_Spot rfl rfl (fun _ => spot_ints x4)) ?_
            refine TV_q rfl rfl rfl (fun _ => QT_or rfl rfl rfl rfl) ?_
            refine TV_q rfl rfl rfl (fun _ => QT_move rfl rfl rfl) ?_
            refine TV_q rfl rfl rfl (fun _ => QT_move rfl rfl rfl) ?_
            refine TV_q rfl rfl rfl (fun _ => QT_move rfl rfl rfl) ?_
            refine TV_q rfl rfl rfl (fun _ => QT_indexG (2 * c) rfl rfl Tryd.underlying31 YtannaanbadaflaaDoorF.sz_65 rfl rfl rfl (fun _ => l1) (fun _ => hpad (by omega))) ?_
            refine TV_q rfl rfl rfl (fun _ => QT_indexArr (0) rfl rfl Tryd.underlying65 YtannaanbadaflaaDoorF.sz_63 rfl rfl (rfl) (fun _ => by decide)) ?_
            refine TV_q rfl rfl rfl (fun _ => QT_field rfl rfl YtannaanbadaflaaDoorF.fld_63_0 rfl) ?_
            refine TV_ql rfl rfl rfl (QT_loadRj (v := .int .u8 0) (2 * c * 21 + 0) rfl rfl Tryd.underlying5 rfl hpr2 rfl (fun _ => a6)) ?_
            refine TV_q rfl rfl rfl (fun _ => QT_move rfl rfl rfl) ?_
            refine TV_q rfl rfl rfl (fun _ => QT_move rfl rfl rfl) ?_
            refine TV_q rfl rfl rfl (fun _ => QT_add rfl rfl rfl rfl (fun _ => ⟨by omega, by omega⟩)) ?_
            refine TV_q rfl rfl rfl (fun _ => QT_indexG d rfl rfl Tryd.underlying31 YtannaanbadaflaaDoorF.sz_65 rfl rfl (by omega) (fun _ => l2) (fun _ => hpad (by omega))) ?_
            refine TV_q rfl rfl rfl (fun _ => QT_indexArr (1) rfl rfl Tryd.underlying65 YtannaanbadaflaaDoorF.sz_63 rfl rfl (rfl) (fun _ => by decide)) ?_
            refine TV_q rfl rfl rfl (fun _ => QT_field rfl rfl YtannaanbadaflaaDoorF.fld_63_0 rfl) ?_
            refine TV_ql rfl rfl rfl (QT_loadRj (v := .int .u8 0) (d * 21 + 7) rfl rfl Tryd.underlying5 rfl hpr2 rfl (fun _ => b7)) ?_
            refine TV_q rfl rfl rfl (fun _ => QT_addw rfl rfl rfl rfl) ?_
            refine TV_q rfl rfl rfl (fun _ => QT_neq rfl rfl rfl rfl) ?_
            refine TV_q rfl rfl rfl (fun _ => QT_or rfl rfl rfl rfl) ?_
            refine TV_end ?_
            refine TX_then ?_
            refine TC_cond rfl (fun h => absurd (h.symm.trans ((show (_ : Bool) = false by rfl))) (by decide)) (fun _ => ?_)
            refine TC_skip ?_
            refine TX_block_normal ?_
            refine TX_then ?_
            refine TC_reg ?_
            refine TL_q rfl rfl (QT_move rfl rfl rfl) ?_
            refine TL_q rfl rfl (QT_add rfl rfl rfl rfl (fun _ => ⟨by omega, by omega⟩)) ?_
            refine TL_q rfl rfl (QT_assign rfl rfl rfl) ?_
            refine TL_nil ?_
            exact TX_round ⟨c + 1, by omega⟩ (by show m * r - (c + 1) < m * r - c; omega) ⟨rfl, rfl, rfl, slotI rfl (by show _ = ((2 * (c + 1) : Nat) : Int); omega), trivial⟩ (fun _ h => h)
          ·
            refine TC_exit ?_
            refine TX_then_exit ?_
            refine TX_then_exit ?_
            refine TX_block_here ?_
            refine TX_then ?_
            refine TC_seq ?_
            refine TC_reg ?_
            refine TL_cq rfl rfl rfl rfl YtannaanbadaflaaDoorF.cal_8 rfl (fun _ => lives10 w0 _ hG) ?_
            refine TL_q rfl rfl (QT_assign rfl rfl rfl) ?_
            refine TL_nil ?_
            refine TX_then ?_
            refine TC_ret ?_
            exact TX_ret (.inl rfl) (res1 rfl rfl) ⟨_, ⟨rfl, rfl⟩, fun _ h => h.tail.app_right.app_right⟩
end Go.Proofs.YtannaanbadaflaaDoor

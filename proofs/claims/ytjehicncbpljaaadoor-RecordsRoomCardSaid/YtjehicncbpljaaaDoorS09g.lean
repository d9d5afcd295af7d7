/- THE DOCUMENT's RECORDS OF BYTES: the walk. -/
import Derived.Test.YtjehicncbpljaaaDoorS09f
import Derived.Test.YtjehicncbpljaaaDoorL08b
namespace Go.Proofs.YtjehicncbpljaaaDoor
open Go Go.Gx Go.RowKit
set_option maxRecDepth 100000
theorem layR_at {L : Lay} {k : Nat} {z : Int} {n : Nat} (h : L.cells[k]? = some (.int .i64 z)) (e : (n : Int) = z) : L.cells[k]? = some (.int .i64 (n : Int)) := by rw [e]; exact h
theorem getV_ltR (bs : List Nat) (p n : Int) : getV bs p n < 4294967296 := by
  unfold getV
  split
  · rename_i h
    unfold getE at h
    have hn : ¬ (p < 0 ∨ n < 0 ∨ 32 < n) := fun hx => by rw [if_pos hx] at h; exact absurd h (by decide)
    refine Nat.lt_of_lt_of_le (num_lt _) (Nat.le_trans (Nat.pow_le_pow_right (by decide) (show _ ≤ 32 by rw [List.length_take]; omega)) (by decide))
  · decide
theorem cells_ltR {cells : List Value} {off : Nat} {v : Value} (h : cells[off]? = some v) : Nat.ble (off + 1) cells.length = true := Nat.ble_eq_true_of_le (List.getElem?_eq_some_iff.1 h).1
def okRB (L : Lay) : Bool := decide (okB L = true ∧ L.ty ≤ 5)
theorem rrcheck_spec (w0 : Base) (η : Heap) (L : Lay) :
    CallsT Tryd.prog 31 [L.val] (St w0 η) fun v A' => v = .bool (okRB L) ∧ A' = St w0 η := by
  refine CallsT.body Tryd.func31 rfl rfl ?_
  simp only [Tryd.ntmps31, slotsOf, Nat.reduceAdd]
  refine TC_seq ?_
  refine TC_reg ?_
  refine TL_e rfl rfl rfl (rfl) (ET_box rfl rfl) ?_
  rintro _ _ ⟨b1, rfl, rfl⟩
  refine TL_q rfl rfl (QT_assign rfl rfl rfl) ?_
  refine TL_nil ?_
  refine TX_then ?_
  refine TC_seq ?_
  refine TC_reg ?_
  first
    | refine TL_q rfl rfl (QT_loadW 0 rfl rfl Tryd.underlying27 rfl rfl rfl YtjehicncbpljaaaDoorF.sz_27) ?_
    | refine TL_q rfl rfl (QT_loadW 1 rfl rfl Tryd.underlying27 rfl rfl rfl YtjehicncbpljaaaDoorF.sz_27) ?_
    | refine TL_q rfl rfl (QT_loadW 2 rfl rfl Tryd.underlying27 rfl rfl rfl YtjehicncbpljaaaDoorF.sz_27) ?_
    | refine TL_q rfl rfl (QT_loadA 0 rfl rfl Tryd.underlying27 rfl rfl rfl YtjehicncbpljaaaDoorF.sz_27 (fun _ => rfl)) ?_
    | refine TL_q rfl rfl (QT_loadA 1 rfl rfl Tryd.underlying27 rfl rfl rfl YtjehicncbpljaaaDoorF.sz_27 (fun _ => rfl)) ?_
    | refine TL_q rfl rfl (QT_loadA 2 rfl rfl Tryd.underlying27 rfl rfl rfl YtjehicncbpljaaaDoorF.sz_27 (fun _ => rfl)) ?_
  refine TL_cq rfl rfl rfl rfl YtjehicncbpljaaaDoorF.cal_99 rfl (fun _ => rcheck_spec w0 _ L) ?_
  refine TL_q rfl rfl (QT_eql rfl rfl rfl rfl) ?_
  refine TL_q rfl rfl (QT_move rfl rfl rfl) ?_
  refine TL_q rfl rfl (QT_field rfl rfl YtjehicncbpljaaaDoorF.fld_27_0 rfl) ?_
  first
    | refine TL_q rfl rfl (QT_load 0 rfl rfl Tryd.underlying3 rfl rfl rfl (fun _ => rfl)) ?_
    | refine TL_q rfl rfl (QT_load 1 rfl rfl Tryd.underlying3 rfl rfl rfl (fun _ => rfl)) ?_
    | refine TL_q rfl rfl (QT_load 2 rfl rfl Tryd.underlying3 rfl rfl rfl (fun _ => rfl)) ?_
  refine TL_q rfl rfl (QT_eql rfl rfl rfl rfl) ?_
  refine TL_q rfl rfl (QT_move rfl rfl rfl) ?_
  refine TL_q rfl rfl (QT_field rfl rfl YtjehicncbpljaaaDoorF.fld_27_0 rfl) ?_
  first
    | refine TL_q rfl rfl (QT_load 0 rfl rfl Tryd.underlying3 rfl rfl rfl (fun _ => rfl)) ?_
    | refine TL_q rfl rfl (QT_load 1 rfl rfl Tryd.underlying3 rfl rfl rfl (fun _ => rfl)) ?_
    | refine TL_q rfl rfl (QT_load 2 rfl rfl Tryd.underlying3 rfl rfl rfl (fun _ => rfl)) ?_
  refine TL_q rfl rfl (QT_eql rfl rfl rfl rfl) ?_
  refine TL_q rfl rfl (QT_or rfl rfl rfl rfl) ?_
  refine TL_q rfl rfl (QT_and rfl rfl rfl rfl) ?_
  refine TL_q rfl rfl (QT_assign rfl rfl rfl) ?_
  refine TL_nil ?_
  refine TX_then ?_
  refine TC_ret ?_
  exact TX_ret (.inl rfl) (res1 rfl rfl) ⟨_, ⟨by
    unfold okRB errOf
    by_cases h : okB L = true
    · have := (okB_bounds h).2.2.2.1
      rw [if_pos h]
      congr 1
      rw [Bool.eq_iff_iff]
      simp [h]
      omega
    · simp [h], rfl⟩, (fun _ h => by first | exact h | exact h.tail | exact h.tail.tail | exact h.tail.tail.tail | exact h.tail.tail.tail.tail | exact h.tail.tail.tail.tail.tail | exact h.tail.tail.tail.tail.tail.tail | exact h.tail.tail.tail.tail.tail.tail.tail | exact h.tail.tail.tail.tail.tail.tail.tail.tail | exact h.tail.tail.tail.tail.tail.tail.tail.tail.tail | exact h.tail.tail.tail.tail.tail.tail.tail.tail.tail.tail | exact h.tail.tail.tail.tail.tail.tail.tail.tail.tail.tail.tail | exact h.tail.tail.tail.tail.tail.tail.tail.tail.tail.tail.tail.tail | exact h.tail.tail.tail.tail.tail.tail.tail.tail.tail.tail.tail.tail.tail)⟩
theorem rflag_spec (w0 : Base) (η : Heap) (L : Lay) (hok : okB L = true) :
    CallsT Tryd.prog 34 [L.val] (St w0 η) fun v A' => v = .int .i64 (flN L : Int) ∧ A' = St w0 η := by
  have hfn := (flN_bd hok).2
  refine CallsT.body Tryd.func34 rfl rfl ?_
  simp only [Tryd.ntmps34, slotsOf, Nat.reduceAdd]
  refine TC_seq ?_
  refine TC_reg ?_
  refine TL_e rfl rfl rfl (rfl) (ET_box rfl rfl) ?_
  rintro _ _ ⟨b1, rfl, rfl⟩
  refine TL_q rfl rfl (QT_assign rfl rfl rfl) ?_
  refine TL_nil ?_
  refine TX_then ?_
  refine TC_seq ?_
  refine TC_seq ?_
  refine TC_reg ?_
  refine TL_q rfl rfl (QT_field rfl rfl YtjehicncbpljaaaDoorF.fld_27_0 rfl) ?_
  refine TL_q rfl rfl (QT_load (v := .int .i64 L.ty) 0 rfl rfl Tryd.underlying3 rfl rfl rfl (fun _ => rfl)) ?_
  refine TL_q rfl rfl (QT_eql rfl rfl rfl rfl) ?_
  refine TL_nil ?_
  refine TX_then ?_
  first
    | refine TC_cond_dec rfl (fun h5 => ?_) (fun h5 => ?_)
    | refine TC_cond rfl (fun h5 => ?_) (fun h5 => ?_)
  ·
    refine TC_seq ?_
    refine TC_reg ?_
    refine TL_q rfl rfl (QT_assign rfl rfl rfl) ?_
    refine TL_nil ?_
    refine TX_then ?_
    refine TC_ret ?_
    refine TX_then_ret ?_
    exact TX_ret (.inl rfl) (res1 rfl rfl) ⟨_, ⟨by rw [hfn]; unfold flb; rw [if_pos h5], rfl⟩, fun _ h => h.tail⟩
  ·
    refine TC_skip ?_
    refine TX_then ?_
    refine TC_seq ?_
    refine TC_reg ?_
    refine TL_q rfl rfl (QT_field rfl rfl YtjehicncbpljaaaDoorF.fld_27_3 rfl) ?_
    refine TL_q rfl rfl (QT_load (v := .int .i64 L.fl) 0 rfl rfl Tryd.underlying3 rfl rfl rfl (fun _ => rfl)) ?_
    refine TL_q rfl rfl (QT_assign rfl rfl rfl) ?_
    refine TL_nil ?_
    refine TX_then ?_
    refine TC_ret ?_
    exact TX_ret (.inl rfl) (res1 rfl rfl) ⟨_, ⟨by rw [hfn]; unfold flb; rw [if_neg h5], rfl⟩, fun _ h => h.tail⟩
theorem rtake_spec (w0 : Base) (η : Heap) (sv : Value) (bs : List Nat) (a n : Nat) (hs : SlA (St w0 η) sv 1 bs.length (byV bs)) (hb : ∀ c ∈ bs, c < 256) (ha : a ≤ 1000000000000) (hn : n ≤ 1000) (hl : bs.length ≤ 140737488355328) :
    CallsT Tryd.prog 33 [sv, .int .i64 (a : Int), .int .i64 (n : Int)] (St w0 η) fun v A' => v = .tuple #[.int .u32 ((getV bs (a : Int) (n : Int) : Nat) : Int), .int .i64 ((a + n : Nat) : Int)] ∧ A' = St w0 η := by
  refine CallsT.body Tryd.func33 rfl rfl ?_
  simp only [Tryd.ntmps33, slotsOf, Nat.reduceAdd]
  refine TC_seq ?_
  refine TC_reg ?_
  refine TL_q rfl rfl (QT_assign rfl rfl rfl) ?_
  refine TL_q rfl rfl (QT_assign rfl rfl rfl) ?_
  refine TL_nil ?_
  refine TX_then ?_
  refine TC_seq ?_
  refine TC_reg ?_
  refine TL_q rfl rfl (QT_move rfl rfl rfl) ?_
  refine TL_q rfl rfl (QT_move rfl rfl rfl) ?_
  refine TL_q rfl rfl (QT_move rfl rfl rfl) ?_
  refine TL_cq rfl rfl rfl rfl YtjehicncbpljaaaDoorF.cal_101 rfl (fun _ => rget_spec w0 _ _ bs _ _ hs hb ⟨by omega, by omega⟩ ⟨by omega, by omega⟩ hl) ?_
  refine TL_q rfl rfl (QT_move rfl rfl rfl) ?_
  refine TL_q rfl rfl (QT_extract rfl rfl rfl rfl) ?_
  refine TL_q rfl rfl (QT_extract rfl rfl rfl rfl) ?_
  refine TL_q rfl rfl (QT_assign rfl rfl rfl) ?_
  refine TL_q rfl rfl (QT_assign rfl rfl rfl) ?_
  refine TL_nil ?_
  refine TX_then ?_
  refine TC_seq ?_
  refine TC_reg ?_
  refine TL_q rfl rfl (QT_move rfl rfl rfl) ?_
  refine TL_q rfl rfl (QT_move rfl rfl rfl) ?_
  refine TL_q rfl rfl (QT_move rfl rfl rfl) ?_
  refine TL_q rfl rfl (QT_to (QT_add rfl rfl rfl rfl (fun _ => ⟨by omega, by omega⟩)) (show (a : Int) + (n : Int) = ((a + n : Nat) : Int) by omega)) ?_
  refine TL_q rfl rfl (QT_assign rfl rfl rfl) ?_
  refine TL_q rfl rfl (QT_assign rfl rfl rfl) ?_
  refine TL_nil ?_
  refine TX_then ?_
  refine TC_ret ?_
  exact TX_ret (.inl rfl) (res2 rfl rfl rfl) ⟨_, ⟨rfl, rfl⟩, fun _ h => h⟩
theorem setRN_skip {L : Lay} {l : List Bool} : ∀ (n k : Nat), k + n ≤ 7 → (∀ p, k ≤ p → p < k + n → wdR L p = 0) → setRN (decN (wR L) l) (k + n) = setRN (decN (wR L) l) k
  | 0, _, _, _ => rfl
  | n + 1, k, hn, h => by
    rw [← Nat.add_assoc]
    have hk : k + n < 7 := by omega
    have hx := decN_at (l := l) (wR_at (L := L) hk)
    rw [← setRN_step hk hx, setRN_skip n k (by omega) fun p h1 h2 => h p h1 (by omega), h (k + n) (by omega) (by omega), List.take_zero]
    have e : num ([] : List Bool) % rkM (k + n) = 0 := Nat.zero_mod _
    rw [e]
    apply List.ext_getElem?
    intro p
    rw [List.getElem?_set]
    by_cases hp : k + n = p
    · subst hp
      rw [if_pos rfl, if_pos (by rw [setRN_len]; exact hk), setRN, List.getElem?_map, List.getElem?_range hk]
      simp only [Option.map_some]
      by_cases h1 : k + n < k
      · omega
      · rw [if_neg h1]
    · rw [if_neg hp]
set_option maxHeartbeats 4000000 in
theorem rrget_spec (w0 : Base) (η : Heap) (L : Lay) (sv : Value) (bs : List Nat) (hs : SlA (St w0 η) sv 1 bs.length (byV bs)) (hb : ∀ c ∈ bs, c < 256) (hl : bs.length ≤ 100000000) :
    CallsT Tryd.prog 12 [L.val, sv] (St w0 η) fun v A' => ∃ rv H, v = .tuple #[rv, .int .i64 (errRG L bs)] ∧ Frag 67 7 rv (outRG L bs).length (flatR (outRG L bs)) H ∧ A' = St w0 (H ++ η) := by
  have hs0 := hs
  obtain ⟨hbl, ad, cap, sb, so, rfl, hcap, had, hrd⟩ := hs.some
  refine CallsT.body Tryd.func12 rfl rfl ?_
  simp only [Tryd.ntmps12, slotsOf, Nat.reduceAdd]
  refine TC_seq ?_
  refine TC_reg ?_
  refine TL_e rfl rfl rfl (rfl) (ET_box rfl rfl) ?_
  rintro _ _ ⟨b2, rfl, rfl⟩
  refine TL_q rfl rfl (QT_assign rfl rfl rfl) ?_
  refine TL_q rfl rfl (QT_assign rfl rfl rfl) ?_
  refine TL_nil ?_
  refine TX_then ?_
  refine TC_seq ?_
  refine TC_seq ?_
  refine TC_A (St w0 ((b2, 27, L.cells) :: η)) (fun _ h => h) ?_
  refine TC_reg ?_
  first
    | refine TL_q rfl rfl (QT_loadW 0 rfl rfl Tryd.underlying27 rfl rfl rfl YtjehicncbpljaaaDoorF.sz_27) ?_
    | refine TL_q rfl rfl (QT_loadW 1 rfl rfl Tryd.underlying27 rfl rfl rfl YtjehicncbpljaaaDoorF.sz_27) ?_
    | refine TL_q rfl rfl (QT_loadW 2 rfl rfl Tryd.underlying27 rfl rfl rfl YtjehicncbpljaaaDoorF.sz_27) ?_
    | refine TL_q rfl rfl (QT_loadA 0 rfl rfl Tryd.underlying27 rfl rfl rfl YtjehicncbpljaaaDoorF.sz_27 (fun _ => rfl)) ?_
    | refine TL_q rfl rfl (QT_loadA 1 rfl rfl Tryd.underlying27 rfl rfl rfl YtjehicncbpljaaaDoorF.sz_27 (fun _ => rfl)) ?_
    | refine TL_q rfl rfl (QT_loadA 2 rfl rfl Tryd.underlying27 rfl rfl rfl YtjehicncbpljaaaDoorF.sz_27 (fun _ => rfl)) ?_
  refine TL_cq rfl rfl rfl rfl YtjehicncbpljaaaDoorF.cal_31 rfl (fun _ => rrcheck_spec w0 _ L) ?_
  refine TL_q rfl rfl (QT_not rfl rfl rfl) ?_
  refine TL_nil ?_
  refine TX_then ?_
  first
    | refine TC_cond_dec rfl (fun h15 => ?_) (fun h15 => ?_)
    | refine TC_cond rfl (fun h15 => ?_) (fun h15 => ?_)
  ·
    refine TC_seq ?_
    refine TC_reg ?_
    refine TL_q rfl rfl (QT_assign rfl rfl rfl) ?_
    refine TL_q rfl rfl (QT_assign rfl rfl rfl) ?_
    refine TL_nil ?_
    refine TX_then ?_
    refine TC_ret ?_
    refine TX_then_ret ?_
    have eP : errRG L bs = 4 := by
      unfold errRG; rw [if_neg]
      intro hc
      unfold okRB at h15
      simp [hc.1, hc.2] at h15
    exact TX_ret (.inl rfl) (res2 rfl rfl rfl) ⟨_, ⟨_, [], by rw [eP], fragNoneRG eP (by decide), rfl⟩, fun _ h => h.tail⟩
  ·
    refine TC_skip ?_
    refine TX_then ?_
    refine TC_seq ?_
    refine TC_seq ?_
    have hc : okB L = true ∧ L.ty ≤ 5 := by
      unfold okRB at h15
      simpa using h15
    have hsz := sizeR_eq hc.1 (ty45 hc) 0
    have hszb := szR_bd hc.1
    have hsz1 : (szR L : Int) ≠ 0 := by omega
    have hbd := okB_bounds hc.1
    have hco : (L.co.toNat : Int) = L.co := by have := hbd.1; omega
    have hcm : (L.cm.toNat : Int) = L.cm := by have := hbd.2.1; omega
    have hcs : (L.cs.toNat : Int) = L.cs := by have := hbd.2.2.1; omega
    have hco32 : L.co.toNat ≤ 32 := by have := hbd.1; omega
    have hcm16 : L.cm.toNat ≤ 16 := by have := hbd.2.1; omega
    have hcs4 : 1 ≤ L.cs.toNat ∧ L.cs.toNat ≤ 4 := by have := hbd.2.2.1; omega
    have lco : L.cells[0 + 1]? = some (.int .i64 (L.co.toNat : Int)) := layR_at rfl hco
    have lcm : L.cells[0 + 2]? = some (.int .i64 (L.cm.toNat : Int)) := layR_at rfl hcm
    have lcs : L.cells[0 + 4]? = some (.int .i64 (L.cs.toNat : Int)) := layR_at rfl hcs
    have hfl8 := (flN_bd hc.1).1
    have hflag := fun A => rflag_spec w0 A L hc.1
    have hw0 : wdR L 0 = flN L := rfl
    have hw1 : wdR L 1 = L.co.toNat := rfl
    have hw2 : wdR L 2 = L.co.toNat := rfl
    have hw3 : ∀ c, wdR L (3 + c) = if c < L.cs.toNat then L.cm.toNat else 0 := fun c => by unfold wdR; rw [if_neg (by omega), if_neg (by omega), show 3 + c - 3 = c by omega]
    generalize hFL : flN L = FL at hfl8 hflag hw0
    generalize hCO : L.co.toNat = CO at lco hco32 hw1 hw2
    generalize hCM : L.cm.toNat = CM at lcm hcm16 hw3
    generalize hCS : L.cs.toNat = CS at lcs hcs4 hw3
    refine TC_reg ?_
    refine TL_q rfl rfl (QT_move rfl rfl rfl) ?_
    refine TL_q rfl rfl (QT_len rfl rfl Tryd.underlying28 rfl) ?_
    refine TL_q rfl rfl (QT_gtr rfl rfl rfl rfl) ?_
    refine TL_nil ?_
    refine TX_then ?_
    first
      | refine TC_cond_dec rfl (fun h18 => ?_) (fun h18 => ?_)
      | refine TC_cond rfl (fun h18 => ?_) (fun h18 => ?_)
    ·
      refine TC_seq ?_
      refine TC_reg ?_
      refine TL_q rfl rfl (QT_assign rfl rfl rfl) ?_
      refine TL_q rfl rfl (QT_assign rfl rfl rfl) ?_
      refine TL_nil ?_
      refine TX_then ?_
      refine TC_ret ?_
      refine TX_then_ret ?_
      have eP : errRG L bs = 3 := by unfold errRG; rw [if_pos hc, if_pos (by omega)]
      exact TX_ret (.inl rfl) (res2 rfl rfl rfl) ⟨_, ⟨_, [], by rw [eP], fragNoneRG eP (by decide), rfl⟩, fun _ h => h.tail⟩
    ·
      refine TC_skip ?_
      refine TX_then ?_
      refine TC_seq ?_
      refine TC_reg ?_
      first
        | refine TL_q rfl rfl (QT_loadW 0 rfl rfl Tryd.underlying27 rfl rfl rfl YtjehicncbpljaaaDoorF.sz_27) ?_
        | refine TL_q rfl rfl (QT_loadW 1 rfl rfl Tryd.underlying27 rfl rfl rfl YtjehicncbpljaaaDoorF.sz_27) ?_
        | refine TL_q rfl rfl (QT_loadW 2 rfl rfl Tryd.underlying27 rfl rfl rfl YtjehicncbpljaaaDoorF.sz_27) ?_
        | refine TL_q rfl rfl (QT_loadA 0 rfl rfl Tryd.underlying27 rfl rfl rfl YtjehicncbpljaaaDoorF.sz_27 (fun _ => rfl)) ?_
        | refine TL_q rfl rfl (QT_loadA 1 rfl rfl Tryd.underlying27 rfl rfl rfl YtjehicncbpljaaaDoorF.sz_27 (fun _ => rfl)) ?_
        | refine TL_q rfl rfl (QT_loadA 2 rfl rfl Tryd.underlying27 rfl rfl rfl YtjehicncbpljaaaDoorF.sz_27 (fun _ => rfl)) ?_
      refine TL_cq rfl rfl rfl rfl YtjehicncbpljaaaDoorF.cal_32 rfl (fun _ => rsize_spec w0 _ L 0 (by decide)) ?_
      refine TL_q rfl rfl (QT_assign rfl rfl rfl) ?_
      refine TL_nil ?_
      refine TX_then ?_
      refine TC_seq ?_
      refine TC_seq ?_
      refine TC_reg ?_
      refine TL_q rfl rfl (QT_move rfl rfl rfl) ?_
      refine TL_q rfl rfl (QT_len rfl rfl Tryd.underlying28 rfl) ?_
      refine TL_q rfl rfl (QT_move rfl rfl rfl) ?_
      refine TL_q rfl rfl (QT_rem rfl rfl rfl rfl (fun _ => ⟨by omega, by rw [hsz]; omega⟩)) ?_
      refine TL_q rfl rfl (QT_neq rfl rfl rfl rfl) ?_
      refine TL_nil ?_
      refine TX_then ?_
      first
        | refine TC_cond_dec rfl (fun h25 => ?_) (fun h25 => ?_)
        | refine TC_cond rfl (fun h25 => ?_) (fun h25 => ?_)
      ·
        refine TC_seq ?_
        refine TC_reg ?_
        refine TL_q rfl rfl (QT_assign rfl rfl rfl) ?_
        refine TL_q rfl rfl (QT_assign rfl rfl rfl) ?_
        refine TL_nil ?_
        refine TX_then ?_
        refine TC_ret ?_
        refine TX_then_ret ?_
        have eP : errRG L bs = 5 := by
          unfold errRG
          rw [if_pos hc, if_neg (by omega), if_neg]
          intro e
          rw [hsz] at h25
          apply h25
          rw [← Int.natCast_emod, e]
          rfl
        exact TX_ret (.inl rfl) (res2 rfl rfl rfl) ⟨_, ⟨_, [], by rw [eP], fragNoneRG eP (by decide), rfl⟩, fun _ h => h.tail⟩
      ·
        have hmod : bs.length % szR L = 0 := by
          have h := Classical.not_not.1 h25
          rw [hsz, ← Int.natCast_emod] at h
          omega
        have hNs : bs.length / szR L * szR L = bs.length := Nat.div_mul_cancel (Nat.dvd_of_mod_eq_zero hmod)
        have hNl : bs.length / szR L ≤ 65536 := Nat.le_trans (Nat.div_le_self _ _) (by omega)
        have eP : errRG L bs = 0 := by unfold errRG; rw [if_pos hc, if_neg (by omega), if_pos hmod]
        have eO : outRG L bs = recsB L bs (bs.length / szR L) := by unfold outRG; rw [if_pos eP]
        obtain ⟨N, hN⟩ : ∃ N, N = bs.length / szR L := ⟨_, rfl⟩
        rw [← hN] at hNs hNl eO
        rw [hsz]
        have hsz17 := hszb.2.1
        have hsz0 := hszb.1
        have htot : tot (wR L) ≤ 8 * szR L := by unfold szR; omega
        have hrA : ∀ k, dcR L (byB (bs.drop (k * szR L))) = recAt L bs k := fun k => rfl
        have hkk : ∀ k, (k + 1) * szR L = k * szR L + szR L := fun k => by rw [Nat.add_mul, Nat.one_mul]
        have hkl : ∀ k, k < N → k * szR L + szR L ≤ bs.length := fun k hk => by
          have : (k + 1) * szR L ≤ N * szR L := Nat.mul_le_mul_right _ hk
          rw [hkk, hNs] at this
          exact this
        generalize hSZ : szR L = SZ at *
        refine TC_skip ?_
        refine TX_then ?_
        refine TC_seq ?_
        refine TC_reg ?_
        refine TL_q rfl rfl (QT_assign rfl rfl rfl) ?_
        refine TL_nil ?_
        refine TX_then ?_
        refine TC_seq ?_
        refine TC_seq ?_
        refine TC_reg ?_
        refine TL_q rfl rfl (QT_assign rfl rfl rfl) ?_
        refine TL_nil ?_
        refine TX_then ?_
        refine TC_block ?_
        refine TC_loop (γ := { t : Nat × Value × Heap // t.1 ≤ N ∧ Frag 67 7 t.2.1 t.1 (flatR (recsB L bs t.1)) t.2.2 }) (fun u => [(1, true, .slice ad bs.length cap), (2, true, .pointer (some ⟨b2, 0, none⟩)), (6, true, .int .i64 (SZ : Int)), (7, true, u.1.2.1), (8, true, .int .i64 ((u.1.1 * SZ : Nat) : Int))]) (fun u => St w0 ((b2, 27, L.cells) :: (u.1.2.2 ++ η))) (fun u => N - u.1.1) ⟨(0, .slice none 0 0, []), Nat.zero_le _, Frag.nil _ _⟩ ⟨rfl, rfl, rfl, rfl, slotI rfl (by show (0 : Int) = ((0 * SZ : Nat) : Int); omega), trivial⟩ (fun _ h => h) ?_
        rintro ⟨⟨k, rv, H⟩, hkN, hF⟩
        dsimp only at hkN hF ⊢
        refine TC_seq ?_
        refine TC_seq ?_
        refine TC_reg ?_
        refine TL_q rfl rfl (QT_move rfl rfl rfl) ?_
        refine TL_q rfl rfl (QT_move rfl rfl rfl) ?_
        refine TL_q rfl rfl (QT_len rfl rfl Tryd.underlying28 rfl) ?_
        refine TL_q rfl rfl (QT_lss rfl rfl rfl rfl) ?_
        refine TL_nil ?_
        refine TX_then ?_
        first
          | refine TC_cond_dec rfl (fun h29 => ?_) (fun h29 => ?_)
          | refine TC_cond rfl (fun h29 => ?_) (fun h29 => ?_)
        ·
          have hk : k < N := by
            refine Classical.byContradiction fun hk => ?_
            have : k = N := by omega
            rw [this, hNs] at h29
            omega
          have hks := hkl k hk
          have hk1 := hkk k
          obtain ⟨v, hv⟩ : ∃ v, v = decN (wR L) (byB (bs.drop (k * SZ))) := ⟨_, rfl⟩
          have hvx : ∀ {j w : Nat}, j < 7 → wdR L j = w → v[j]? = some (getV bs ((8 * (k * SZ) + tot ((wR L).take j) : Nat) : Int) (w : Int)) := fun {j w} hj hw => by
            have h1 := wdR_le hc.1 j
            have h2 := tot_stepR (wR_at (L := L) hj)
            have h3 := tot_takeR (wR L) (j + 1)
            rw [hv, decN_at (wR_at hj), ← hw, getV_ok h1 (by omega), byB_drop, List.drop_drop]
          have hrec : setRN v 7 = recAt L bs k := by rw [hv, setRN_all, hrA]
          have hskip : ∀ n k, k + n ≤ 7 → (∀ p, k ≤ p → p < k + n → wdR L p = 0) → setRN v (k + n) = setRN v k := fun n k h1 h2 => by rw [hv]; exact setRN_skip n k h1 h2
          generalize hA0 : k * SZ = a0 at *
          have t1 := tot_stepR (wR_at (L := L) (p := 0) (by decide))
          have t2 := tot_stepR (wR_at (L := L) (p := 1) (by decide))
          have t3 := tot_stepR (wR_at (L := L) (p := 2) (by decide))
          have t0 : tot ((wR L).take 0) = 0 := rfl
          rw [t0, hw0] at t1
          rw [t1, hw1] at t2
          rw [t2, hw2] at t3
          have x0 := hvx (j := 0) (by decide) hw0
          have x1 := hvx (j := 1) (by decide) hw1
          have x2 := hvx (j := 2) (by decide) hw2
          rw [t0] at x0
          rw [t1] at x1
          rw [t2] at x2
          rw [show 8 * a0 + 0 = 8 * a0 by omega] at x0
          rw [show 8 * a0 + (0 + FL) = 8 * a0 + FL by omega] at x1
          rw [show 8 * a0 + (0 + FL + CO) = 8 * a0 + FL + CO by omega] at x2
          have hle : 0 + FL + CO + CO ≤ 136 := by
            have := tot_takeR (wR L) 3
            have h136 := hszb.2.2.1
            omega
          have s0 := rvV_set (xs := setRN v 0) (p := 0) (v := getV bs ((8 * a0 : Nat) : Int) (FL : Int) % rkM 0) (by decide)
          have s1 := rvV_set (xs := setRN v 1) (p := 1) (v := getV bs ((8 * a0 + FL : Nat) : Int) (CO : Int) % rkM 1) (by decide)
          have s2 := rvV_set (xs := setRN v 2) (p := 2) (v := getV bs ((8 * a0 + FL + CO : Nat) : Int) (CO : Int) % rkM 2) (by decide)
          rw [setRN_step (by decide) x0] at s0
          rw [setRN_step (by decide) x1] at s1
          rw [setRN_step (by decide) x2] at s2
          have hble : ∀ {c j : Nat}, c < 7 → Nat.ble (c + 1) (rvV (setRN v j)).length = true := fun h => Nat.ble_eq_true_of_le (by rw [rvV_len (setRN_len _ _)]; omega)
          have m1 : getV bs ((8 * a0 + FL : Nat) : Int) (CO : Int) % rkM 1 = getV bs ((8 * a0 + FL : Nat) : Int) (CO : Int) := Nat.mod_eq_of_lt (getV_ltR ..)
          have m2 : getV bs ((8 * a0 + FL + CO : Nat) : Int) (CO : Int) % rkM 2 = getV bs ((8 * a0 + FL + CO : Nat) : Int) (CO : Int) := Nat.mod_eq_of_lt (getV_ltR ..)
          refine TC_skip ?_
          refine TX_then ?_
          refine TC_seq ?_
          refine TC_block ?_
          refine TC_seq ?_
          refine TC_reg ?_
          refine TL_q rfl rfl (QT_move rfl rfl rfl) ?_
          refine TL_q rfl rfl (QT_to (QT_mul rfl rfl rfl rfl (fun _ => ⟨by omega, by omega⟩)) (show 8 * (a0 : Int) = ((8 * a0 : Nat) : Int) by omega)) ?_
          refine TL_q rfl rfl (QT_assign rfl rfl rfl) ?_
          refine TL_nil ?_
          refine TX_then ?_
          refine TC_seq ?_
          refine TC_reg ?_
          refine TL_q rfl rfl (QT_build rfl rfl YtjehicncbpljaaaDoorF.zero_67 YtjehicncbpljaaaDoorF.pl_67 rfl rfl rfl) ?_
          refine TL_e rfl rfl rfl (rfl) (ET_alloc rfl YtjehicncbpljaaaDoorF.zero_67) ?_
          rintro _ _ ⟨b10, rfl, rfl⟩
          first
            | refine TL_e0 rfl rfl (rfl) (ET_storeW 0 rfl rfl rfl YtjehicncbpljaaaDoorF.sz_67 rfl rfl rfl) ?_
            | refine TL_e0 rfl rfl (rfl) (ET_storeW 1 rfl rfl rfl YtjehicncbpljaaaDoorF.sz_67 rfl rfl rfl) ?_
            | refine TL_e0 rfl rfl (rfl) (ET_storeW 2 rfl rfl rfl YtjehicncbpljaaaDoorF.sz_67 rfl rfl rfl) ?_
            | refine TL_e0 rfl rfl (rfl) (ET_store 0 rfl rfl rfl rfl YtjehicncbpljaaaDoorF.sz_67 rfl rfl rfl) ?_
            | refine TL_e0 rfl rfl (rfl) (ET_store 1 rfl rfl rfl rfl YtjehicncbpljaaaDoorF.sz_67 rfl rfl rfl) ?_
            | refine TL_e0 rfl rfl (rfl) (ET_store 2 rfl rfl rfl rfl YtjehicncbpljaaaDoorF.sz_67 rfl rfl rfl) ?_
          rintro _ _ ⟨rfl, rfl⟩
          refine TL_nil ?_
          refine TX_then ?_
          refine TC_seq ?_
          refine TC_A (St w0 ((b10, 67, rvV (setRN v 0)) :: (b2, 27, L.cells) :: (H ++ η))) (fun _ h => h) ?_
          refine TC_reg ?_
          refine TL_q rfl rfl (QT_assign rfl rfl rfl) ?_
          refine TL_nil ?_
          refine TX_then ?_
          refine TC_seq ?_
          refine TC_reg ?_
          refine TL_q rfl rfl (QT_move rfl rfl rfl) ?_
          refine TL_q rfl rfl (QT_move rfl rfl rfl) ?_
          first
            | refine TL_q rfl rfl (QT_loadW 0 rfl rfl Tryd.underlying27 rfl rfl rfl YtjehicncbpljaaaDoorF.sz_27) ?_
            | refine TL_q rfl rfl (QT_loadW 1 rfl rfl Tryd.underlying27 rfl rfl rfl YtjehicncbpljaaaDoorF.sz_27) ?_
            | refine TL_q rfl rfl (QT_loadW 2 rfl rfl Tryd.underlying27 rfl rfl rfl YtjehicncbpljaaaDoorF.sz_27) ?_
            | refine TL_q rfl rfl (QT_loadA 0 rfl rfl Tryd.underlying27 rfl rfl rfl YtjehicncbpljaaaDoorF.sz_27 (fun _ => rfl)) ?_
            | refine TL_q rfl rfl (QT_loadA 1 rfl rfl Tryd.underlying27 rfl rfl rfl YtjehicncbpljaaaDoorF.sz_27 (fun _ => rfl)) ?_
            | refine TL_q rfl rfl (QT_loadA 2 rfl rfl Tryd.underlying27 rfl rfl rfl YtjehicncbpljaaaDoorF.sz_27 (fun _ => rfl)) ?_
          refine TL_cq rfl rfl rfl rfl YtjehicncbpljaaaDoorF.cal_34 rfl (fun _ => hflag _) ?_
          refine TL_cq rfl rfl rfl rfl YtjehicncbpljaaaDoorF.cal_33 rfl (fun _ => rtake_spec w0 _ _ bs _ _ (hs0.mono fun _ h => h.tail.tail.app_right) hb (by omega) (by omega) (by omega)) ?_
          refine TL_q rfl rfl (QT_move rfl rfl rfl) ?_
          refine TL_q rfl rfl (QT_extract rfl rfl rfl rfl) ?_
          refine TL_q rfl rfl (QT_extract rfl rfl rfl rfl) ?_
          refine TL_q rfl rfl (QT_assign rfl rfl rfl) ?_
          refine TL_q rfl rfl (QT_assign rfl rfl rfl) ?_
          refine TL_nil ?_
          refine TX_then ?_
          refine TC_seq ?_
          refine TC_reg ?_
          refine TL_q rfl rfl (QT_move rfl rfl rfl) ?_
          refine TL_q rfl rfl (QT_convN rfl rfl Tryd.underlying60 Tryd.underlying5 rfl (wrapR8 _)) ?_
          refine TL_q rfl rfl (QT_field rfl rfl YtjehicncbpljaaaDoorF.fld_67_0 rfl) ?_
          refine TL_e0 rfl rfl (rfl) (ET_store (vs := [.int .u8 ((getV bs ((8 * a0 : Nat) : Int) (FL : Int) % 256 : Nat) : Int)]) 0 rfl rfl rfl rfl YtjehicncbpljaaaDoorF.sz_5 rfl rfl (hble (by decide))) ?_
          rintro _ _ ⟨rfl, rfl⟩
          refine TL_nil ?_
          refine TX_then ?_
          refine TC_seq ?_
          refine TC_A (St w0 ((b10, 67, rvV (setRN v 1)) :: (b2, 27, L.cells) :: (H ++ η))) (fun _ h => by rw [← s0]; exact h) ?_
          refine TC_reg ?_
          refine TL_q rfl rfl (QT_move rfl rfl rfl) ?_
          refine TL_q rfl rfl (QT_move rfl rfl rfl) ?_
          refine TL_q rfl rfl (QT_field rfl rfl YtjehicncbpljaaaDoorF.fld_27_1 rfl) ?_
          refine TL_q rfl rfl (QT_load (v := .int .i64 (CO : Int)) 1 rfl rfl Tryd.underlying3 rfl rfl rfl (fun _ => lco)) ?_
          refine TL_cq rfl rfl rfl rfl YtjehicncbpljaaaDoorF.cal_33 rfl (fun _ => rtake_spec w0 _ _ bs _ _ (hs0.mono fun _ h => h.tail.tail.app_right) hb (by omega) (by omega) (by omega)) ?_
          refine TL_q rfl rfl (QT_move rfl rfl rfl) ?_
          refine TL_q rfl rfl (QT_extract rfl rfl rfl rfl) ?_
          refine TL_q rfl rfl (QT_extract rfl rfl rfl rfl) ?_
          refine TL_q rfl rfl (QT_field rfl rfl YtjehicncbpljaaaDoorF.fld_67_1 rfl) ?_
          refine TL_q rfl rfl (QT_field rfl rfl YtjehicncbpljaaaDoorF.fld_62_0 rfl) ?_
          refine TL_e0 rfl rfl (rfl) (ET_store (vs := [.int .u32 ((getV bs ((8 * a0 + FL : Nat) : Int) (CO : Int) : Nat) : Int)]) 0 rfl rfl rfl rfl YtjehicncbpljaaaDoorF.sz_60 rfl rfl (hble (by decide))) ?_
          rintro _ _ ⟨rfl, rfl⟩
          refine TL_q rfl rfl (QT_assign rfl rfl rfl) ?_
          refine TL_nil ?_
          refine TX_then ?_
          refine TC_seq ?_
          refine TC_A (St w0 ((b10, 67, rvV (setRN v 2)) :: (b2, 27, L.cells) :: (H ++ η))) (fun _ h => by rw [← s1, m1]; exact h) ?_
          refine TC_reg ?_
          refine TL_q rfl rfl (QT_move rfl rfl rfl) ?_
          refine TL_q rfl rfl (QT_move rfl rfl rfl) ?_
          refine TL_q rfl rfl (QT_field rfl rfl YtjehicncbpljaaaDoorF.fld_27_1 rfl) ?_
          refine TL_q rfl rfl (QT_load (v := .int .i64 (CO : Int)) 1 rfl rfl Tryd.underlying3 rfl rfl rfl (fun _ => lco)) ?_
          refine TL_cq rfl rfl rfl rfl YtjehicncbpljaaaDoorF.cal_33 rfl (fun _ => rtake_spec w0 _ _ bs _ _ (hs0.mono fun _ h => h.tail.tail.app_right) hb (by omega) (by omega) (by omega)) ?_
          refine TL_q rfl rfl (QT_move rfl rfl rfl) ?_
          refine TL_q rfl rfl (QT_extract rfl rfl rfl rfl) ?_
          refine TL_q rfl rfl (QT_extract rfl rfl rfl rfl) ?_
          refine TL_q rfl rfl (QT_field rfl rfl YtjehicncbpljaaaDoorF.fld_67_1 rfl) ?_
          refine TL_q rfl rfl (QT_field rfl rfl YtjehicncbpljaaaDoorF.fld_62_1 rfl) ?_
          refine TL_e0 rfl rfl (rfl) (ET_store (vs := [.int .u32 ((getV bs ((8 * a0 + FL + CO : Nat) : Int) (CO : Int) : Nat) : Int)]) 0 rfl rfl rfl rfl YtjehicncbpljaaaDoorF.sz_60 rfl rfl (hble (by decide))) ?_
          rintro _ _ ⟨rfl, rfl⟩
          refine TL_q rfl rfl (QT_assign rfl rfl rfl) ?_
          refine TL_nil ?_
          refine TX_then ?_
          refine TC_seq ?_
          refine TC_seq ?_
          refine TC_A (St w0 ((b10, 67, rvV (setRN v 3)) :: (b2, 27, L.cells) :: (H ++ η))) (fun _ h => by rw [← s2, m2]; exact h) ?_
          refine TC_reg ?_
          refine TL_q rfl rfl (QT_assign rfl rfl rfl) ?_
          refine TL_nil ?_
          refine TX_then ?_
          refine TC_block ?_
          refine TC_loop (γ := { c : Nat // c ≤ CS }) (fun u => [(1, true, .slice ad bs.length cap), (2, true, .pointer (some ⟨b2, 0, none⟩)), (6, true, .int .i64 (SZ : Int)), (7, true, rv), (8, true, .int .i64 (a0 : Int)), (9, true, .int .i64 ((8 * a0 + tot ((wR L).take (3 + u.1)) : Nat) : Int)), (10, true, .pointer (some ⟨b10, 0, none⟩)), (12, true, .int .i64 (u.1 : Int))]) (fun u => St w0 ((b10, 67, rvV (setRN v (3 + u.1))) :: (b2, 27, L.cells) :: (H ++ η))) (fun u => CS - u.1) ⟨0, Nat.zero_le _⟩ ⟨rfl, rfl, rfl, rfl, rfl, slotI rfl (by show ((8 * a0 + FL + CO + CO : Nat) : Int) = ((8 * a0 + tot ((wR L).take 3) : Nat) : Int); rw [t3]; congr 1; omega), rfl, rfl, trivial⟩ (fun _ h => h) ?_
          rintro ⟨c, hcc⟩
          dsimp only
          refine TC_seq ?_
          refine TC_seq ?_
          refine TC_reg ?_
          refine TL_q rfl rfl (QT_move rfl rfl rfl) ?_
          refine TL_q rfl rfl (QT_field rfl rfl YtjehicncbpljaaaDoorF.fld_27_4 rfl) ?_
          refine TL_q rfl rfl (QT_load (v := .int .i64 (CS : Int)) 1 rfl rfl Tryd.underlying3 rfl rfl rfl (fun _ => lcs)) ?_
          refine TL_q rfl rfl (QT_lss rfl rfl rfl rfl) ?_
          refine TL_nil ?_
          refine TX_then ?_
          first
            | refine TC_cond_dec rfl (fun h70 => ?_) (fun h70 => ?_)
            | refine TC_cond rfl (fun h70 => ?_) (fun h70 => ?_)
          ·
            have hcC : c < CS := by omega
            have hwc : wdR L (3 + c) = CM := by rw [hw3, if_pos hcC]
            have tc := tot_stepR (wR_at (L := L) (p := 3 + c) (by omega))
            rw [hwc] at tc
            have xc := hvx (j := 3 + c) (by omega) hwc
            have tt := tot_takeR (wR L) (3 + c)
            have h136 := hszb.2.2.1
            have sc := rvV_set (xs := setRN v (3 + c)) (p := 3 + c) (v := getV bs ((8 * a0 + tot ((wR L).take (3 + c)) : Nat) : Int) (CM : Int) % rkM (3 + c)) (by omega)
            rw [setRN_step (by omega) xc] at sc
            have hkm : rkM (3 + c) = 65536 := by unfold rkM; rw [if_neg (by omega), if_neg (by omega)]
            have hkk3 : rkK (3 + c) = .u16 := by unfold rkK; rw [if_neg (by omega), if_neg (by omega)]
            rw [hkm, hkk3] at sc
            obtain ⟨ac, hac⟩ : ∃ ac, ac = 8 * a0 + tot ((wR L).take (3 + c)) := ⟨_, rfl⟩
            rw [← hac] at sc xc ⊢
            refine TC_skip ?_
            refine TX_then ?_
            refine TC_seq ?_
            refine TC_block ?_
            refine TC_seq ?_
            refine TC_reg ?_
            refine TL_q rfl rfl (QT_move rfl rfl rfl) ?_
            refine TL_q rfl rfl (QT_move rfl rfl rfl) ?_
            refine TL_q rfl rfl (QT_field rfl rfl YtjehicncbpljaaaDoorF.fld_27_2 rfl) ?_
            refine TL_q rfl rfl (QT_load (v := .int .i64 (CM : Int)) 1 rfl rfl Tryd.underlying3 rfl rfl rfl (fun _ => lcm)) ?_
            refine TL_cq rfl rfl rfl rfl YtjehicncbpljaaaDoorF.cal_33 rfl (fun _ => rtake_spec w0 _ _ bs _ _ (hs0.mono fun _ h => h.tail.tail.app_right) hb (by omega) (by omega) (by omega)) ?_
            refine TL_q rfl rfl (QT_move rfl rfl rfl) ?_
            refine TL_q rfl rfl (QT_extract rfl rfl rfl rfl) ?_
            refine TL_q rfl rfl (QT_extract rfl rfl rfl rfl) ?_
            refine TL_q rfl rfl (QT_assign rfl rfl rfl) ?_
            refine TL_q rfl rfl (QT_assign rfl rfl rfl) ?_
            refine TL_nil ?_
            refine TX_then ?_
            refine TC_reg ?_
            refine TL_q rfl rfl (QT_move rfl rfl rfl) ?_
            refine TL_q rfl rfl (QT_move rfl rfl rfl) ?_
            refine TL_q rfl rfl (QT_convN rfl rfl Tryd.underlying60 Tryd.underlying63 rfl (wrapR16 _)) ?_
            refine TL_q rfl rfl (QT_field rfl rfl YtjehicncbpljaaaDoorF.fld_67_2 rfl) ?_
            refine TL_q rfl rfl (QT_indexArr c rfl rfl Tryd.underlying65 YtjehicncbpljaaaDoorF.sz_63 rfl rfl rfl (fun _ => by omega)) ?_
            refine TL_e0 rfl rfl (rfl) (ET_store (vs := [.int .u16 ((getV bs (ac : Int) (CM : Int) % 65536 : Nat) : Int)]) 0 rfl rfl rfl rfl YtjehicncbpljaaaDoorF.sz_63 rfl rfl (hble (c := 0 + 3 + c * 1) (by omega))) ?_
            rintro _ _ ⟨rfl, rfl⟩
            refine TL_nil ?_
            refine TX_block_normal ?_
            refine TX_then ?_
            refine TC_A (St w0 ((b10, 67, rvV (setRN v (3 + c + 1))) :: (b2, 27, L.cells) :: (H ++ η))) (fun w h => by
              rw [← sc]
              have h' : St w0 ((b10, 67, (rvV (setRN v (3 + c))).set (0 + 3 + c * 1) (.int .u16 ((getV bs (ac : Int) (CM : Int) % 65536 : Nat) : Int))) :: (b2, 27, L.cells) :: (H ++ η)) w := h
              rw [show 0 + 3 + c * 1 = 3 + c by omega] at h'
              exact h') ?_
            refine TC_reg ?_
            refine TL_q rfl rfl (QT_move rfl rfl rfl) ?_
            refine TL_q rfl rfl (QT_add rfl rfl rfl rfl (fun _ => ⟨by omega, by omega⟩)) ?_
            refine TL_q rfl rfl (QT_assign rfl rfl rfl) ?_
            refine TL_nil ?_
            exact TX_round ⟨c + 1, hcC⟩ (by show CS - (c + 1) < CS - c; omega) ⟨rfl, rfl, rfl, rfl, rfl, slotI rfl (by show ((ac + CM : Nat) : Int) = ((8 * a0 + tot ((wR L).take (3 + c + 1)) : Nat) : Int); rw [tc]; congr 1; omega), rfl, rfl, trivial⟩ (fun _ h => h)
          ·
            refine TC_exit ?_
            refine TX_then_exit ?_
            refine TX_then_exit ?_
            refine TX_block_here ?_
            refine TX_then ?_
            obtain rfl : c = CS := by omega
            have k3 := hskip (7 - (3 + c)) (3 + c) (by omega) fun p h1 h2 => by
              have := hw3 (p - 3)
              rw [show 3 + (p - 3) = p by omega, if_neg (by omega)] at this
              exact this
            rw [show 3 + c + (7 - (3 + c)) = 7 by omega, hrec] at k3
            rw [← k3]
            have hrF : RcF (recAt L bs k) := dcR_rcf _ _
            have hrl : (rvV (recAt L bs k)).length = 7 := rvV_len hrF.len
            have hrz : Sz Tryd.prog 67 (rvV (recAt L bs k)).length := by rw [hrl]; exact YtjehicncbpljaaaDoorF.sz_67
            have hri := rvV_ints hrF
            refine TC_reg ?_
            refine TL_q rfl rfl (QT_move rfl rfl rfl) ?_
            refine TL_q rfl rfl (QT_loadW (cs := rvV (recAt L bs k)) 0 rfl rfl Tryd.underlying67 rfl rfl rfl hrz) ?_
            refine TL_e rfl rfl rfl (rfl) (ET_buildN [_] rfl Tryd.underlying31 YtjehicncbpljaaaDoorF.sz_67 YtjehicncbpljaaaDoorF.zero_67 rfl rfl rfl (fun v hv => by cases List.mem_singleton.1 hv; exact hrl)) ?_
            rintro _ _ ⟨b88, rfl, rfl⟩
            refine TL_e rfl rfl rfl (rfl) (ET_appendL (L := [_, _, _]) rfl Tryd.underlying31 el_RecR rfl rfl hF (fun _ h => h) (SlA.own (n := 1) (xs := rvV (recAt L bs k)) 0 rfl (by rw [List.drop_zero, List.take_of_length_le (by simp [Value.cells, hrl])]; simp [Value.cells]) (by simp [Value.cells, hrl]) (by omega)) hri.oneCell (by omega) (by omega)) ?_
            rintro rv2 _ ⟨H', hF', rfl⟩
            refine TL_q rfl rfl (QT_assign rfl rfl rfl) ?_
            refine TL_nil ?_
            refine TX_block_normal ?_
            refine TX_then ?_
            refine TC_reg ?_
            refine TL_q rfl rfl (QT_move rfl rfl rfl) ?_
            refine TL_q rfl rfl (QT_move rfl rfl rfl) ?_
            refine TL_q rfl rfl (QT_add rfl rfl rfl rfl (fun _ => ⟨by omega, by omega⟩)) ?_
            refine TL_q rfl rfl (QT_assign rfl rfl rfl) ?_
            refine TL_nil ?_
            exact TX_round ⟨(k + 1, rv2, H'), hk, by rw [recsB_snoc, flatR_snoc]; exact hF'⟩ (by show N - (k + 1) < N - k; omega) ⟨rfl, rfl, rfl, rfl, slotI rfl (by show (a0 : Int) + (SZ : Int) = (((k + 1) * SZ : Nat) : Int); omega), trivial⟩ (fun _ h => h.tail.tail)
        ·
          refine TC_exit ?_
          refine TX_then_exit ?_
          refine TX_then_exit ?_
          refine TX_block_here ?_
          refine TX_then ?_
          refine TC_seq ?_
          refine TC_reg ?_
          refine TL_q rfl rfl (QT_move rfl rfl rfl) ?_
          refine TL_q rfl rfl (QT_assign rfl rfl rfl) ?_
          refine TL_q rfl rfl (QT_assign rfl rfl rfl) ?_
          refine TL_nil ?_
          refine TX_then ?_
          refine TC_ret ?_
          obtain rfl : k = N := by
            refine Classical.byContradiction fun hk => ?_
            have := hkl k (by omega)
            omega
          exact TX_ret (.inl rfl) (res2 rfl rfl rfl) ⟨_, ⟨rv, H, by rw [eP], by rw [eO, recsB_len]; exact hF, rfl⟩, fun _ h => h.tail⟩
end Go.Proofs.YtjehicncbpljaaaDoor

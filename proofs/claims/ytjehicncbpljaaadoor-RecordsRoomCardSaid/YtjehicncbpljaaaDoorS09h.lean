/- THE DOCUMENT's BYTES OF RECORDS: the walk. -/
import Derived.Test.YtjehicncbpljaaaDoorS09g
namespace Go.Proofs.YtjehicncbpljaaaDoor
open Go Go.Gx Go.RowKit
set_option maxRecDepth 100000
theorem shr_zeroR {v n : Nat} (hv : v < 4294967296) : decide ((v : Int).fdiv (2 ^ (min (n : Int).toNat IntKind.u64.bits)) = 0) = decide (v < 2 ^ n) := by
  rw [shr64 hv (Int.natCast_nonneg n), Bool.eq_iff_iff, decide_eq_true_eq, decide_eq_true_eq, Int.toNat_natCast, show ((v / 2 ^ n : Nat) : Int) = 0 ↔ v / 2 ^ n = 0 by omega, Nat.div_eq_zero_iff]
  have := Nat.two_pow_pos n
  omega
theorem fits_spec (w0 : Base) (η : Heap) (v n : Nat) (hv : v < 4294967296) (hn : n ≤ 64) :
    CallsT Tryd.prog 82 [.int .u32 (v : Int), .int .i64 (n : Int)] (St w0 η) fun r A' => r = .bool (decide (v < 2 ^ n)) ∧ A' = St w0 η := by
  refine CallsT.body Tryd.func82 rfl rfl ?_
  simp only [Tryd.ntmps82, slotsOf, Nat.reduceAdd]
  refine TC_seq ?_
  refine TC_reg ?_
  refine TL_q rfl rfl (QT_assign rfl rfl rfl) ?_
  refine TL_nil ?_
  refine TX_then ?_
  refine TC_seq ?_
  refine TC_reg ?_
  refine TL_q rfl rfl (QT_move rfl rfl rfl) ?_
  refine TL_q rfl rfl (QT_convN rfl rfl Tryd.underlying60 Tryd.underlying71 rfl (IntWalk.u64_in _ ⟨by omega, by omega⟩)) ?_
  refine TL_q rfl rfl (QT_move rfl rfl rfl) ?_
  refine TL_q rfl rfl (QT_shr rfl rfl rfl rfl (fun _ => by omega)) ?_
  refine TL_q rfl rfl (QT_v0 (QT_eql rfl rfl rfl rfl) (congrArg Value.bool (shr_zeroR hv))) ?_
  refine TL_q rfl rfl (QT_assign rfl rfl rfl) ?_
  refine TL_nil ?_
  refine TX_then ?_
  refine TC_ret ?_
  exact TX_ret (.inl rfl) (res1 rfl rfl) ⟨_, ⟨rfl, rfl⟩, fun _ h => h⟩
theorem eR_skip {L : Lay} {r : List Nat} (hr : r.length = 7) : ∀ (n k : Nat), k + n ≤ 7 → (∀ p, k ≤ p → p < k + n → wdR L p = 0) → eR L r (k + n) = eR L r k
  | 0, _, _, _ => rfl
  | n + 1, k, hn, h => by
    obtain ⟨x, hx⟩ := get7 hr (show k + n < 7 by omega)
    rw [← Nat.add_assoc, eR_step hr hx, eR_skip hr n k (by omega) fun p h1 h2 => h p h1 (by omega), h (k + n) (by omega) (by omega)]
    simp [bitsN]
theorem fitR_of {L : Lay} {r : List Nat} (hr : r.length = 7) (h : ∀ j x, j < 7 → r[j]? = some x → x < 2 ^ wdR L j) : fitR L r = true := fitR_all fun j w m y h1 h2 => by
  have hj : j < 7 := by rw [← hr]; exact (List.getElem?_eq_some_iff.1 h2).1
  rw [wR_at hj] at h1
  cases h1
  exact h j y hj h2
theorem errRP_one {L : Lay} {rs : List (List Nat)} {r : List Nat} (hc : okB L = true ∧ L.ty ≤ 5) (hm : r ∈ rs) (hb : fitR L r = false) : errRP L rs = 1 := by
  unfold errRP
  rw [if_pos hc, if_neg]
  intro ha
  have := List.all_eq_true.1 ha r hm
  rw [hb] at this
  exact absurd this (by decide)
set_option maxHeartbeats 4000000 in
theorem rrput_spec (w0 : Base) (η : Heap) (L : Lay) (sv : Value) (rs : List (List Nat)) (hs : SlA (St w0 η) sv 7 rs.length (flatR rs)) (hr : ∀ r ∈ rs, RcF r) (hn : rs.length ≤ 100000000) :
    CallsT Tryd.prog 20 [L.val, sv] (St w0 η) fun v A' => ∃ bv H, v = .tuple #[bv, .int .i64 (errRP L rs)] ∧ Frag 5 1 bv (outRP L rs).length (byV (outRP L rs)) H ∧ A' = St w0 (H ++ η) := by
  obtain ⟨hfl, ad, cap, sb, so, rfl, hcap, had, hrd⟩ := hs.some
  refine CallsT.body Tryd.func20 rfl rfl ?_
  simp only [Tryd.ntmps20, slotsOf, Nat.reduceAdd]
  refine TC_seq ?_
  refine TC_reg ?_
  refine TL_e rfl rfl rfl (rfl) (ET_box rfl rfl) ?_
  rintro _ _ ⟨b2, rfl, rfl⟩
  refine TL_q rfl rfl (QT_assign rfl rfl rfl) ?_
  refine TL_q rfl rfl (QT_assign rfl rfl rfl) ?_
  refine TL_nil ?_
  refine TX_then ?_
  refine TC_seq ?_
  refine TC_seq ?_
  refine TC_A (St w0 ((b2, 27, L.cells) :: η)) (fun _ h => h) ?_
  refine TC_reg ?_
  first
    | refine TL_q rfl rfl (QT_loadW 0 rfl rfl Tryd.underlying27 rfl rfl rfl YtjehicncbpljaaaDoorF.sz_27) ?_
    | refine TL_q rfl rfl (QT_loadW 1 rfl rfl Tryd.underlying27 rfl rfl rfl YtjehicncbpljaaaDoorF.sz_27) ?_
    | refine TL_q rfl rfl (QT_loadW 2 rfl rfl Tryd.underlying27 rfl rfl rfl YtjehicncbpljaaaDoorF.sz_27) ?_
    | refine TL_q rfl rfl (QT_loadA 0 rfl rfl Tryd.underlying27 rfl rfl rfl YtjehicncbpljaaaDoorF.sz_27 (fun _ => rfl)) ?_
    | refine TL_q rfl rfl (QT_loadA 1 rfl rfl Tryd.underlying27 rfl rfl rfl YtjehicncbpljaaaDoorF.sz_27 (fun _ => rfl)) ?_
    | refine TL_q rfl rfl (QT_loadA 2 rfl rfl Tryd.underlying27 rfl rfl rfl YtjehicncbpljaaaDoorF.sz_27 (fun _ => rfl)) ?_
  refine TL_cq rfl rfl rfl rfl YtjehicncbpljaaaDoorF.cal_31 rfl (fun _ => rrcheck_spec w0 _ L) ?_
  refine TL_q rfl rfl (QT_not rfl rfl rfl) ?_
  refine TL_nil ?_
  refine TX_then ?_
  first
    | refine TC_cond_dec rfl (fun h15 => ?_) (fun h15 => ?_)
    | refine TC_cond rfl (fun h15 => ?_) (fun h15 => ?_)
  ·
    refine TC_seq ?_
    refine TC_reg ?_
    refine TL_q rfl rfl (QT_assign rfl rfl rfl) ?_
    refine TL_q rfl rfl (QT_assign rfl rfl rfl) ?_
    refine TL_nil ?_
    refine TX_then ?_
    refine TC_ret ?_
    refine TX_then_ret ?_
    have eP : errRP L rs = 4 := by
      unfold errRP; rw [if_neg]
      intro hc
      unfold okRB at h15
      simp [hc.1, hc.2] at h15
    exact TX_ret (.inl rfl) (res2 rfl rfl rfl) ⟨_, ⟨_, [], by rw [eP], fragNoneRB eP (by decide), rfl⟩, fun _ h => h.tail⟩
  ·
    refine TC_skip ?_
    refine TX_then ?_
    refine TC_seq ?_
    refine TC_seq ?_
    have hc : okB L = true ∧ L.ty ≤ 5 := by
      unfold okRB at h15
      simpa using h15
    have hsz := sizeR_eq hc.1 (ty45 hc) 0
    have hszb := szR_bd hc.1
    have hsize := fun A => rsize_spec w0 A L 0 (by decide)
    rw [hsz] at hsize
    have hbd := okB_bounds hc.1
    have hco : (L.co.toNat : Int) = L.co := by have := hbd.1; omega
    have hcm : (L.cm.toNat : Int) = L.cm := by have := hbd.2.1; omega
    have hcs : (L.cs.toNat : Int) = L.cs := by have := hbd.2.2.1; omega
    have hco32 : L.co.toNat ≤ 32 := by have := hbd.1; omega
    have hcm16 : L.cm.toNat ≤ 16 := by have := hbd.2.1; omega
    have hcs4 : 1 ≤ L.cs.toNat ∧ L.cs.toNat ≤ 4 := by have := hbd.2.2.1; omega
    have lco : L.cells[0 + 1]? = some (.int .i64 (L.co.toNat : Int)) := layR_at rfl hco
    have lcm : L.cells[0 + 2]? = some (.int .i64 (L.cm.toNat : Int)) := layR_at rfl hcm
    have lcs : L.cells[0 + 4]? = some (.int .i64 (L.cs.toNat : Int)) := layR_at rfl hcs
    have hfl8 := (flN_bd hc.1).1
    have hflag := fun A => rflag_spec w0 A L hc.1
    have hw0 : wdR L 0 = flN L := rfl
    have hw1 : wdR L 1 = L.co.toNat := rfl
    have hw2 : wdR L 2 = L.co.toNat := rfl
    have hw3 : ∀ c, wdR L (3 + c) = if c < L.cs.toNat then L.cm.toNat else 0 := fun c => by unfold wdR; rw [if_neg (by omega), if_neg (by omega), show 3 + c - 3 = c by omega]
    generalize hFL : flN L = FL at hfl8 hflag hw0
    generalize hCO : L.co.toNat = CO at lco hco32 hw1 hw2
    generalize hCM : L.cm.toNat = CM at lcm hcm16 hw3
    generalize hCS : L.cs.toNat = CS at lcs hcs4 hw3
    refine TC_reg ?_
    refine TL_q rfl rfl (QT_assign rfl rfl rfl) ?_
    refine TL_nil ?_
    refine TX_then ?_
    refine TC_block ?_
    refine TC_loop (γ := { i : Nat // i ≤ rs.length ∧ (rs.take i).all (fitR L) = true }) (fun u => [(1, true, .slice ad rs.length cap), (2, true, .pointer (some ⟨b2, 0, none⟩)), (6, true, .int .i64 (u.1 : Int))]) (fun u => St w0 ((b2, 27, L.cells) :: η)) (fun u => rs.length - u.1) ⟨0, Nat.zero_le _, rfl⟩ ⟨rfl, rfl, rfl, trivial⟩ (fun _ h => h) ?_
    rintro ⟨i, hin, hfit⟩
    dsimp only
    refine TC_seq ?_
    refine TC_seq ?_
    refine TC_reg ?_
    refine TL_q rfl rfl (QT_move rfl rfl rfl) ?_
    refine TL_q rfl rfl (QT_move rfl rfl rfl) ?_
    refine TL_q rfl rfl (QT_len rfl rfl Tryd.underlying31 rfl) ?_
    refine TL_q rfl rfl (QT_lss rfl rfl rfl rfl) ?_
    refine TL_nil ?_
    refine TX_then ?_
    first
      | refine TC_cond_dec rfl (fun h19 => ?_) (fun h19 => ?_)
      | refine TC_cond rfl (fun h19 => ?_) (fun h19 => ?_)
    ·
      have hi' : i < rs.length := by omega
      obtain ⟨r, hri⟩ : ∃ r, rs[i]? = some r := ⟨_, List.getElem?_eq_getElem hi'⟩
      have hrm := List.mem_of_getElem? hri
      have hrF := hr r hrm
      obtain ⟨hat1, hat2⟩ := flatR_at hr hri
      have htk := take_snocX hri
      have hrl : (rvV r).length = 7 := rvV_len hrF.len
      have hrz : Sz Tryd.prog 67 (rvV r).length := by rw [hrl]; exact YtjehicncbpljaaaDoorF.sz_67
      have hri2 := rvV_ints hrF
      obtain ⟨x0, hx0⟩ := get7 hrF.len (show 0 < 7 by decide)
      obtain ⟨x1, hx1⟩ := get7 hrF.len (show 1 < 7 by decide)
      obtain ⟨x2, hx2⟩ := get7 hrF.len (show 2 < 7 by decide)
      have l0 : x0 < 256 := hrF.lt hx0
      have l1 : x1 < 4294967296 := hrF.lt hx1
      have l2 : x2 < 4294967296 := hrF.lt hx2
      have v0 : (rvV r)[0]? = some (.int .u8 (x0 : Int)) := rvV_at (by decide) hx0
      have v1 : (rvV r)[1]? = some (.int .u32 (x1 : Int)) := rvV_at (by decide) hx1
      have v2 : (rvV r)[2]? = some (.int .u32 (x2 : Int)) := rvV_at (by decide) hx2
      refine TC_skip ?_
      refine TX_then ?_
      refine TC_seq ?_
      refine TC_block ?_
      refine TC_seq ?_
      refine TC_reg ?_
      refine TL_q rfl rfl (QT_move rfl rfl rfl) ?_
      refine TL_q rfl rfl (QT_move rfl rfl rfl) ?_
      refine TL_q rfl rfl (QT_indexG i rfl rfl Tryd.underlying31 YtjehicncbpljaaaDoorF.sz_67 rfl rfl rfl (fun _ => hi') (fun _ => had (by omega))) ?_
      refine TL_q rfl rfl (QT_loadRAj (out := rvV r) (i * 7) rfl rfl Tryd.underlying67 rfl YtjehicncbpljaaaDoorF.sz_67 (hrd.mono fun w h => h.tail) rfl (fun _ => hat1) (fun _ => hat2)) ?_
      refine TL_e rfl rfl rfl (rfl) (ET_alloc rfl YtjehicncbpljaaaDoorF.zero_67) ?_
      rintro _ _ ⟨b7, rfl, rfl⟩
      refine TL_e0 rfl rfl (rfl) (ET_storeW (vs := rvV r) 0 rfl rfl rfl hrz rfl (List.all_eq_true.2 hri2.oneCell) (by rw [hrl]; rfl)) ?_
      rintro _ _ ⟨rfl, rfl⟩
      refine TL_nil ?_
      refine TX_then ?_
      refine TC_seq ?_
      refine TC_seq ?_
      refine TC_A (St w0 ((b7, 67, rvV r) :: (b2, 27, L.cells) :: η)) (fun _ h => h) ?_
      refine TC_draw [(0, 0), (1, 0), (2, 0), (3, 0), (4, 1), (5, 1), (6, 0), (7, 0), (8, 0), (9, 0), (10, 0), (11, 0), (12, 0), (13, 1), (14, 0), (15, 0), (16, 0), (17, 0), (18, 0), (19, 0), (20, 0), (21, 0), (22, 1), (23, 0), (24, 0)] YtjehicncbpljaaaDoorF.mixed (by kernel_rfl) (St.calm _ _) ?_
      refine TV_q rfl rfl rfl (fun _ => QT_field rfl rfl YtjehicncbpljaaaDoorF.fld_67_0 rfl) ?_
      refine TV_ql rfl rfl rfl (QT_load (v := .int .u8 (x0 : Int)) 0 rfl rfl Tryd.underlying5 rfl rfl rfl (fun _ => v0)) ?_
      refine TV_q rfl rfl rfl (fun _ => QT_convN rfl rfl Tryd.underlying5 Tryd.underlying60 rfl (IntWalk.u32_in _ ⟨by omega, by omega⟩)) ?_
      first
        | refine TV_ql rfl rfl rfl (QT_loadW 0 rfl rfl Tryd.underlying27 rfl rfl rfl YtjehicncbpljaaaDoorF.sz_27) ?_
        | refine TV_ql rfl rfl rfl (QT_loadW 1 rfl rfl Tryd.underlying27 rfl rfl rfl YtjehicncbpljaaaDoorF.sz_27) ?_
        | refine TV_ql rfl rfl rfl (QT_loadW 2 rfl rfl Tryd.underlying27 rfl rfl rfl YtjehicncbpljaaaDoorF.sz_27) ?_
        | refine TV_ql rfl rfl rfl (QT_loadA 0 rfl rfl Tryd.underlying27 rfl rfl rfl YtjehicncbpljaaaDoorF.sz_27 (fun _ => rfl)) ?_
        | refine TV_ql rfl rfl rfl (QT_loadA 1 rfl rfl Tryd.underlying27 rfl rfl rfl YtjehicncbpljaaaDoorF.sz_27 (fun _ => rfl)) ?_
        | refine TV_ql rfl rfl rfl (QT_loadA 2 rfl rfl Tryd.underlying27 rfl rfl rfl YtjehicncbpljaaaDoorF.sz_27 (fun _ => rfl)) ?_
      refine TV_cq rfl rfl rfl rfl rfl YtjehicncbpljaaaDoorF.cal_34 rfl (fun _ => hflag _) (.drop (by kernel_rfl) (.keep (by kernel_rfl) rfl (by first | exact QT_load (v := .int .u8 (x0 : Int)) 0 rfl rfl Tryd.underlying5 rfl rfl rfl (fun _ => v0)) (.nil))) ?_
      refine TV_cq rfl rfl rfl rfl rfl YtjehicncbpljaaaDoorF.cal_82 rfl (fun _ => fits_spec w0 _ x0 FL (by omega) (by omega)) (.keep (by kernel_rfl) rfl (by first | exact QT_load (v := .int .u8 (x0 : Int)) 0 rfl rfl Tryd.underlying5 rfl rfl rfl (fun _ => v0)) (.nil)) ?_
      refine TV_q rfl rfl rfl (fun _ => QT_not rfl rfl rfl) ?_
      refine TV_q rfl rfl rfl (fun _ => QT_move rfl rfl rfl) ?_
      refine TV_q rfl rfl rfl (fun _ => QT_field rfl rfl YtjehicncbpljaaaDoorF.fld_67_1 rfl) ?_
      refine TV_q rfl rfl rfl (fun _ => QT_field rfl rfl YtjehicncbpljaaaDoorF.fld_62_0 rfl) ?_
      refine TV_ql rfl rfl rfl (QT_load (v := .int .u32 (x1 : Int)) 0 rfl rfl Tryd.underlying60 rfl rfl rfl (fun _ => v1)) ?_
      refine TV_q rfl rfl rfl (fun _ => QT_field rfl rfl YtjehicncbpljaaaDoorF.fld_27_1 rfl) ?_
      refine TV_ql rfl rfl rfl (QT_load (v := .int .i64 (CO : Int)) 1 rfl rfl Tryd.underlying3 rfl rfl rfl (fun _ => lco)) ?_
      refine TV_cq rfl rfl rfl rfl rfl YtjehicncbpljaaaDoorF.cal_82 rfl (fun _ => fits_spec w0 _ x1 CO l1 (by omega)) (.drop (by kernel_rfl) (.drop (by kernel_rfl) (.keep (by kernel_rfl) rfl (by first | exact QT_load (v := .int .u8 (x0 : Int)) 0 rfl rfl Tryd.underlying5 rfl rfl rfl (fun _ => v0)) (.nil)))) ?_
      refine TV_q rfl rfl rfl (fun _ => QT_not rfl rfl rfl) ?_
      refine TV_q rfl rfl rfl (fun _ => QT_or rfl rfl rfl rfl) ?_
      refine TV_q rfl rfl rfl (fun _ => QT_move rfl rfl rfl) ?_
      refine TV_q rfl rfl rfl (fun _ => QT_field rfl rfl YtjehicncbpljaaaDoorF.fld_67_1 rfl) ?_
      refine TV_q rfl rfl rfl (fun _ => QT_field rfl rfl YtjehicncbpljaaaDoorF.fld_62_1 rfl) ?_
      refine TV_ql rfl rfl rfl (QT_load (v := .int .u32 (x2 : Int)) 0 rfl rfl Tryd.underlying60 rfl rfl rfl (fun _ => v2)) ?_
      refine TV_q rfl rfl rfl (fun _ => QT_field rfl rfl YtjehicncbpljaaaDoorF.fld_27_1 rfl) ?_
      refine TV_ql rfl rfl rfl (QT_load (v := .int .i64 (CO : Int)) 1 rfl rfl Tryd.underlying3 rfl rfl rfl (fun _ => lco)) ?_
      refine TV_cq rfl rfl rfl rfl rfl YtjehicncbpljaaaDoorF.cal_82 rfl (fun _ => fits_spec w0 _ x2 CO l2 (by omega)) (.drop (by kernel_rfl) (.drop (by kernel_rfl) (.keep (by kernel_rfl) rfl (by first | exact QT_load (v := .int .u8 (x0 : Int)) 0 rfl rfl Tryd.underlying5 rfl rfl rfl (fun _ => v0)) (.nil)))) ?_
      refine TV_q rfl rfl rfl (fun _ => QT_not rfl rfl rfl) ?_
      refine TV_q rfl rfl rfl (fun _ => QT_or rfl rfl rfl rfl) ?_
      refine TV_end ?_
      refine TX_then ?_
      first
        | refine TC_cond_dec rfl (fun h50 => ?_) (fun h50 => ?_)
        | refine TC_cond rfl (fun h50 => ?_) (fun h50 => ?_)
      ·
        have hbad : fitR L r = false := by
          simp only [Bool.or_eq_true, Bool.not_eq_true', decide_eq_false_iff_not] at h50
          rcases h50 with (h | h) | h
          · exact fitR_not hrF.len hx0 (by rw [hw0]; exact h)
          · exact fitR_not hrF.len hx1 (by rw [hw1]; exact h)
          · exact fitR_not hrF.len hx2 (by rw [hw2]; exact h)
        have eP := errRP_one hc hrm hbad
        refine TC_seq ?_
        refine TC_reg ?_
        refine TL_q rfl rfl (QT_assign rfl rfl rfl) ?_
        refine TL_q rfl rfl (QT_assign rfl rfl rfl) ?_
        refine TL_nil ?_
        refine TX_then ?_
        refine TC_ret ?_
        refine TX_then_ret ?_
        refine TX_block_ret ?_
        refine TX_then_ret ?_
        refine TX_then_ret ?_
        refine TX_block_ret ?_
        refine TX_then_ret ?_
        exact TX_ret (.inl rfl) (res2 rfl rfl rfl) ⟨_, ⟨_, [], by rw [eP], fragNoneRB eP (by decide), rfl⟩, fun _ h => h.tail.tail⟩
      ·
        simp only [Bool.or_eq_false_iff, Bool.not_eq_false', decide_eq_true_eq] at h50
        obtain ⟨⟨f0, f1⟩, f2⟩ := h50
        have hbeg : ∀ j x, j < 3 → r[j]? = some x → x < 2 ^ wdR L j := fun j x hj hx => by
          match j, hj with
          | 0, _ => rw [hx0] at hx; cases hx; rw [hw0]; exact f0
          | 1, _ => rw [hx1] at hx; cases hx; rw [hw1]; exact f1
          | 2, _ => rw [hx2] at hx; cases hx; rw [hw2]; exact f2
          | j + 3, h => exact absurd h (by omega)
        refine TC_skip ?_
        refine TX_then ?_
        refine TC_seq ?_
        refine TC_reg ?_
        refine TL_q rfl rfl (QT_assign rfl rfl rfl) ?_
        refine TL_nil ?_
        refine TX_then ?_
        refine TC_block ?_
        refine TC_loop (γ := { c : Nat // c ≤ 4 ∧ ∀ j x, j < 3 + c → r[j]? = some x → x < 2 ^ wdR L j }) (fun u => [(1, true, .slice ad rs.length cap), (2, true, .pointer (some ⟨b2, 0, none⟩)), (6, true, .int .i64 (i : Int)), (7, true, .pointer (some ⟨b7, 0, none⟩)), (8, true, .int .i64 (u.1 : Int))]) (fun u => St w0 ((b7, 67, rvV r) :: (b2, 27, L.cells) :: η)) (fun u => 4 - u.1) ⟨0, by decide, hbeg⟩ ⟨rfl, rfl, rfl, rfl, rfl, trivial⟩ (fun _ h => h) ?_
        rintro ⟨c, hc4, hfc⟩
        dsimp only
        refine TC_seq ?_
        refine TC_seq ?_
        refine TC_reg ?_
        refine TL_q rfl rfl (QT_move rfl rfl rfl) ?_
        refine TL_q rfl rfl (QT_lss rfl rfl rfl rfl) ?_
        refine TL_nil ?_
        refine TX_then ?_
        first
          | refine TC_cond_dec rfl (fun h52 => ?_) (fun h52 => ?_)
          | refine TC_cond rfl (fun h52 => ?_) (fun h52 => ?_)
        ·
          have hcl : c < 4 := by omega
          obtain ⟨x, hx⟩ := get7 hrF.len (show 3 + c < 7 by omega)
          have hkm : rkM (3 + c) = 65536 := by unfold rkM; rw [if_neg (by omega), if_neg (by omega)]
          have lx : x < 65536 := by rw [← hkm]; exact hrF.lt hx
          have vx := rvV_at (xs := r) (p := 3 + c) (by omega) hx
          rw [show rkK (3 + c) = .u16 by unfold rkK; rw [if_neg (by omega), if_neg (by omega)]] at vx
          refine TC_skip ?_
          refine TX_then ?_
          refine TC_seq ?_
          refine TC_block ?_
          refine TC_seq ?_
          refine TC_draw [(0, 0), (1, 0), (2, 0), (3, 0), (4, 0), (5, 0), (6, 0), (7, 0), (8, 0), (9, 0), (10, 0), (11, 0), (12, 1), (13, 0), (14, 0), (15, 0), (16, 0), (17, 0), (18, 0), (19, 0), (20, 0), (21, 0), (22, 0), (23, 0), (24, 0), (25, 0), (26, 0), (27, 0)] YtjehicncbpljaaaDoorF.mixed (by kernel_rfl) (St.calm _ _) ?_
          refine TV_q rfl rfl rfl (fun _ => QT_move rfl rfl rfl) ?_
          refine TV_q rfl rfl rfl (fun _ => QT_field rfl rfl YtjehicncbpljaaaDoorF.fld_27_4 rfl) ?_
          refine TV_ql rfl rfl rfl (QT_load (v := .int .i64 (CS : Int)) 1 rfl rfl Tryd.underlying3 rfl rfl rfl (fun _ => lcs)) ?_
          refine TV_q rfl rfl rfl (fun _ => QT_lss rfl rfl rfl rfl) ?_
          refine TV_q rfl rfl rfl (fun _ => QT_move rfl rfl rfl) ?_
          refine TV_q rfl rfl rfl (fun _ => QT_move rfl rfl rfl) ?_
          refine TV_q rfl rfl rfl (fun _ => QT_field rfl rfl YtjehicncbpljaaaDoorF.fld_67_2 rfl) ?_
          refine TV_q rfl rfl rfl (fun _ => QT_indexArr c rfl rfl Tryd.underlying65 YtjehicncbpljaaaDoorF.sz_63 rfl rfl rfl (fun _ => hcl)) ?_
          refine TV_ql rfl rfl rfl (QT_loadRj (v := .int .u16 (x : Int)) (3 + c) rfl rfl Tryd.underlying63 rfl (Rd.own 0 rfl) rfl (fun _ => vx)) ?_
          refine TV_q rfl rfl rfl (fun _ => QT_convN rfl rfl Tryd.underlying63 Tryd.underlying60 rfl (IntWalk.u32_in _ ⟨by omega, by omega⟩)) ?_
          refine TV_q rfl rfl rfl (fun _ => QT_field rfl rfl YtjehicncbpljaaaDoorF.fld_27_2 rfl) ?_
          refine TV_ql rfl rfl rfl (QT_load (v := .int .i64 (CM : Int)) 1 rfl rfl Tryd.underlying3 rfl rfl rfl (fun _ => lcm)) ?_
          refine TV_cq rfl rfl rfl rfl rfl YtjehicncbpljaaaDoorF.cal_82 rfl (fun _ => fits_spec w0 _ x CM (by omega) (by omega)) (.drop (by kernel_rfl) (.keep (by kernel_rfl) rfl (by first | exact QT_loadRj (v := .int .u16 (x : Int)) (3 + c) rfl rfl Tryd.underlying63 rfl (Rd.own 0 rfl) rfl (fun _ => vx)) (.keep (by kernel_rfl) rfl (by first | exact QT_load (v := .int .i64 (CS : Int)) 1 rfl rfl Tryd.underlying3 rfl rfl rfl (fun _ => lcs)) (.nil)))) ?_
          refine TV_q rfl rfl rfl (fun _ => QT_not rfl rfl rfl) ?_
          refine TV_q rfl rfl rfl (fun _ => QT_and rfl rfl rfl rfl) ?_
          refine TV_q rfl rfl rfl (fun _ => QT_move rfl rfl rfl) ?_
          refine TV_q rfl rfl rfl (fun _ => QT_move rfl rfl rfl) ?_
          refine TV_q rfl rfl rfl (fun _ => QT_field rfl rfl YtjehicncbpljaaaDoorF.fld_27_4 rfl) ?_
          refine TV_ql rfl rfl rfl (QT_load (v := .int .i64 (CS : Int)) 1 rfl rfl Tryd.underlying3 rfl rfl rfl (fun _ => lcs)) ?_
          refine TV_q rfl rfl rfl (fun _ => QT_geq rfl rfl rfl rfl) ?_
          refine TV_q rfl rfl rfl (fun _ => QT_move rfl rfl rfl) ?_
          refine TV_q rfl rfl rfl (fun _ => QT_move rfl rfl rfl) ?_
          refine TV_q rfl rfl rfl (fun _ => QT_field rfl rfl YtjehicncbpljaaaDoorF.fld_67_2 rfl) ?_
          refine TV_q rfl rfl rfl (fun _ => QT_indexArr c rfl rfl Tryd.underlying65 YtjehicncbpljaaaDoorF.sz_63 rfl rfl rfl (fun _ => hcl)) ?_
          refine TV_ql rfl rfl rfl (QT_loadRj (v := .int .u16 (x : Int)) (3 + c) rfl rfl Tryd.underlying63 rfl (Rd.own 0 rfl) rfl (fun _ => vx)) ?_
          refine TV_q rfl rfl rfl (fun _ => QT_neq rfl rfl rfl rfl) ?_
          refine TV_q rfl rfl rfl (fun _ => QT_and rfl rfl rfl rfl) ?_
          refine TV_q rfl rfl rfl (fun _ => QT_or rfl rfl rfl rfl) ?_
          refine TV_end ?_
          refine TX_then ?_
          first
            | refine TC_cond_dec rfl (fun h82 => ?_) (fun h82 => ?_)
            | refine TC_cond rfl (fun h82 => ?_) (fun h82 => ?_)
          ·
            have hbad : fitR L r = false := by
              refine fitR_not hrF.len hx ?_
              rw [hw3]
              simp only [Bool.or_eq_true, Bool.and_eq_true, Bool.not_eq_true', decide_eq_true_eq, decide_eq_false_iff_not] at h82
              split
              · intro h; omega
              · intro h; rw [Nat.pow_zero] at h; omega
            have eP := errRP_one hc hrm hbad
            refine TC_seq ?_
            refine TC_reg ?_
            refine TL_q rfl rfl (QT_assign rfl rfl rfl) ?_
            refine TL_q rfl rfl (QT_assign rfl rfl rfl) ?_
            refine TL_nil ?_
            refine TX_then ?_
            refine TC_ret ?_
            refine TX_block_ret ?_
            refine TX_then_ret ?_
            refine TX_then_ret ?_
            refine TX_block_ret ?_
            refine TX_block_ret ?_
            refine TX_then_ret ?_
            refine TX_then_ret ?_
            refine TX_block_ret ?_
            refine TX_then_ret ?_
            exact TX_ret (.inl rfl) (res2 rfl rfl rfl) ⟨_, ⟨_, [], by rw [eP], fragNoneRB eP (by decide), rfl⟩, fun _ h => h.tail.tail⟩
          ·
            have hfx : x < 2 ^ wdR L (3 + c) := by
              rw [hw3]
              simp only [Bool.or_eq_false_iff, Bool.and_eq_false_iff, Bool.not_eq_false', decide_eq_true_eq, decide_eq_false_iff_not] at h82
              split
              · omega
              · rw [Nat.pow_zero]; omega
            refine TC_skip ?_
            refine TX_block_normal ?_
            refine TX_then ?_
            refine TC_reg ?_
            refine TL_q rfl rfl (QT_move rfl rfl rfl) ?_
            refine TL_q rfl rfl (QT_add rfl rfl rfl rfl (fun _ => ⟨by omega, by omega⟩)) ?_
            refine TL_q rfl rfl (QT_assign rfl rfl rfl) ?_
            refine TL_nil ?_
            refine TX_round ⟨c + 1, hcl, fun j y hj hy => ?_⟩ (by show 4 - (c + 1) < 4 - c; omega) ⟨rfl, rfl, rfl, rfl, rfl, trivial⟩ (fun _ h => h)
            by_cases e : j = 3 + c
            · subst e; rw [hx] at hy; cases hy; exact hfx
            · exact hfc j y (by have : j < 3 + (c + 1) := hj; omega) hy
        ·
          refine TC_exit ?_
          refine TX_then_exit ?_
          refine TX_then_exit ?_
          refine TX_block_here ?_
          refine TX_block_normal ?_
          refine TX_then ?_
          obtain rfl : c = 4 := by omega
          have hok1 : fitR L r = true := fitR_of hrF.len fun j x hj hx => hfc j x (by omega) hx
          refine TC_reg ?_
          refine TL_q rfl rfl (QT_move rfl rfl rfl) ?_
          refine TL_q rfl rfl (QT_add rfl rfl rfl rfl (fun _ => ⟨by omega, by omega⟩)) ?_
          refine TL_q rfl rfl (QT_assign rfl rfl rfl) ?_
          refine TL_nil ?_
          refine TX_round ⟨i + 1, hi', ?_⟩ (by show rs.length - (i + 1) < rs.length - i; omega) ⟨rfl, rfl, rfl, trivial⟩ (fun _ h => h.tail)
          rw [htk, List.all_append, hfit]
          simp [hok1]
    ·
      refine TC_exit ?_
      refine TX_then_exit ?_
      refine TX_then_exit ?_
      refine TX_block_here ?_
      refine TX_then ?_
      refine TC_seq ?_
      refine TC_seq ?_
      obtain rfl : i = rs.length := by omega
      rw [List.take_of_length_le (Nat.le_refl _)] at hfit
      have hfit1 := List.all_eq_true.1 hfit
      have hbl := bytesR_len (L := L) (rs := rs) hr
      have hml : (rs.length : Int) * (szR L : Int) = ((bytesR L rs).length : Int) := by rw [hbl, Int.natCast_mul]
      have hb17 : (bytesR L rs).length ≤ 17 * rs.length := by rw [hbl, Nat.mul_comm]; exact Nat.mul_le_mul hszb.2.1 (Nat.le_refl _)
      refine TC_reg ?_
      refine TL_q rfl rfl (QT_move rfl rfl rfl) ?_
      refine TL_q rfl rfl (QT_len rfl rfl Tryd.underlying31 rfl) ?_
      first
        | refine TL_q rfl rfl (QT_loadW 0 rfl rfl Tryd.underlying27 rfl rfl rfl YtjehicncbpljaaaDoorF.sz_27) ?_
        | refine TL_q rfl rfl (QT_loadW 1 rfl rfl Tryd.underlying27 rfl rfl rfl YtjehicncbpljaaaDoorF.sz_27) ?_
        | refine TL_q rfl rfl (QT_loadW 2 rfl rfl Tryd.underlying27 rfl rfl rfl YtjehicncbpljaaaDoorF.sz_27) ?_
        | refine TL_q rfl rfl (QT_loadA 0 rfl rfl Tryd.underlying27 rfl rfl rfl YtjehicncbpljaaaDoorF.sz_27 (fun _ => rfl)) ?_
        | refine TL_q rfl rfl (QT_loadA 1 rfl rfl Tryd.underlying27 rfl rfl rfl YtjehicncbpljaaaDoorF.sz_27 (fun _ => rfl)) ?_
        | refine TL_q rfl rfl (QT_loadA 2 rfl rfl Tryd.underlying27 rfl rfl rfl YtjehicncbpljaaaDoorF.sz_27 (fun _ => rfl)) ?_
      refine TL_cq rfl rfl rfl rfl YtjehicncbpljaaaDoorF.cal_32 rfl (fun _ => hsize _) ?_
      refine TL_q rfl rfl (QT_to (QT_mul rfl rfl rfl rfl (fun _ => by rw [hml]; exact ⟨by omega, by omega⟩)) hml) ?_
      refine TL_q rfl rfl (QT_gtr rfl rfl rfl rfl) ?_
      refine TL_nil ?_
      refine TX_then ?_
      first
        | refine TC_cond_dec rfl (fun h88 => ?_) (fun h88 => ?_)
        | refine TC_cond rfl (fun h88 => ?_) (fun h88 => ?_)
      ·
        refine TC_seq ?_
        refine TC_reg ?_
        refine TL_q rfl rfl (QT_assign rfl rfl rfl) ?_
        refine TL_q rfl rfl (QT_assign rfl rfl rfl) ?_
        refine TL_nil ?_
        refine TX_then ?_
        refine TC_ret ?_
        refine TX_then_ret ?_
        have eP : errRP L rs = 3 := by unfold errRP; rw [if_pos hc, if_pos hfit, if_pos (by omega)]
        exact TX_ret (.inl rfl) (res2 rfl rfl rfl) ⟨_, ⟨_, [], by rw [eP], fragNoneRB eP (by decide), rfl⟩, fun _ h => h.tail⟩
      ·
        refine TC_skip ?_
        refine TX_then ?_
        refine TC_seq ?_
        have eP : errRP L rs = 0 := by unfold errRP; rw [if_pos hc, if_pos hfit, if_neg (by omega)]
        have eO : outRP L rs = bytesR L rs := by unfold outRP; rw [if_pos eP]
        refine TC_reg ?_
        refine TL_q rfl rfl (QT_assign rfl rfl rfl) ?_
        refine TL_nil ?_
        refine TX_then ?_
        refine TC_seq ?_
        refine TC_seq ?_
        refine TC_reg ?_
        refine TL_q rfl rfl (QT_assign rfl rfl rfl) ?_
        refine TL_nil ?_
        refine TX_then ?_
        refine TC_block ?_
        refine TC_loop (γ := { t : Nat × Value × Heap // t.1 ≤ rs.length ∧ Frag 5 1 t.2.1 (bytesR L (rs.take t.1)).length (byV (bytesR L (rs.take t.1))) t.2.2 }) (fun u => [(1, true, .slice ad rs.length cap), (2, true, .pointer (some ⟨b2, 0, none⟩)), (9, true, u.1.2.1), (10, true, .int .i64 (u.1.1 : Int))]) (fun u => St w0 ((b2, 27, L.cells) :: (u.1.2.2 ++ η))) (fun u => rs.length - u.1.1) ⟨(0, .slice none 0 0, []), Nat.zero_le _, Frag.nil _ _⟩ ⟨rfl, rfl, rfl, rfl, trivial⟩ (fun _ h => h) ?_
        rintro ⟨⟨i, bv, H⟩, hin, hF⟩
        dsimp only at hin hF ⊢
        refine TC_seq ?_
        refine TC_seq ?_
        refine TC_reg ?_
        refine TL_q rfl rfl (QT_move rfl rfl rfl) ?_
        refine TL_q rfl rfl (QT_move rfl rfl rfl) ?_
        refine TL_q rfl rfl (QT_len rfl rfl Tryd.underlying31 rfl) ?_
        refine TL_q rfl rfl (QT_lss rfl rfl rfl rfl) ?_
        refine TL_nil ?_
        refine TX_then ?_
        first
          | refine TC_cond_dec rfl (fun h92 => ?_) (fun h92 => ?_)
          | refine TC_cond rfl (fun h92 => ?_) (fun h92 => ?_)
        ·
          have hi' : i < rs.length := by omega
          obtain ⟨r, hri⟩ : ∃ r, rs[i]? = some r := ⟨_, List.getElem?_eq_getElem hi'⟩
          have hrm := List.mem_of_getElem? hri
          have hrF := hr r hrm
          have hrfit := hfit1 r hrm
          obtain rfl := had (by omega)
          have htk := take_snocX hri
          have hel := fun {p : Nat} (hp : p < 7) => flatR_elem hr hri hp
          have hpl : (packR L r).length ≤ 17 := by rw [packR_len hrF]; exact hszb.2.1
          have hbi := bytesR_len (L := L) (rs := rs.take i) fun z hz => hr z (List.mem_of_mem_take hz)
          have hbi2 : (bytesR L (rs.take i)).length ≤ 17 * rs.length := by
            rw [hbi, List.length_take, Nat.mul_comm]
            exact Nat.mul_le_mul hszb.2.1 (by omega)
          obtain ⟨x0, hx0⟩ := get7 hrF.len (show 0 < 7 by decide)
          obtain ⟨x1, hx1⟩ := get7 hrF.len (show 1 < 7 by decide)
          obtain ⟨x2, hx2⟩ := get7 hrF.len (show 2 < 7 by decide)
          have l0 : x0 < 256 := hrF.lt hx0
          have l1 : x1 < 4294967296 := hrF.lt hx1
          have l2 : x2 < 4294967296 := hrF.lt hx2
          have v0 : (flatR rs)[i * 7 + 0]? = some (.int .u8 (x0 : Int)) := by rw [hel (by decide)]; exact rvV_at (by decide) hx0
          have v1 : (flatR rs)[i * 7 + 1]? = some (.int .u32 (x1 : Int)) := by rw [hel (by decide)]; exact rvV_at (by decide) hx1
          have v2 : (flatR rs)[i * 7 + 2]? = some (.int .u32 (x2 : Int)) := by rw [hel (by decide)]; exact rvV_at (by decide) hx2
          have f0 : x0 < 2 ^ FL := by rw [← hw0]; exact fitB_atX hrfit (wR_at (by decide)) hx0
          have f1 : x1 < 2 ^ CO := by rw [← hw1]; exact fitB_atX hrfit (wR_at (by decide)) hx1
          have f2 : x2 < 2 ^ CO := by rw [← hw2]; exact fitB_atX hrfit (wR_at (by decide)) hx2
          have heL := eR_len hc.1 hrF.len
          have s0 : eR L r 1 = eR L r 0 ++ bitsN (wdR L 0) x0 := eR_step (L := L) hrF.len hx0
          have s1 : eR L r 2 = eR L r 1 ++ bitsN (wdR L 1) x1 := eR_step (L := L) hrF.len hx1
          have s2 : eR L r 3 = eR L r 2 ++ bitsN (wdR L 2) x2 := eR_step (L := L) hrF.len hx2
          rw [hw0] at s0
          rw [hw1] at s1
          rw [hw2] at s2
          have q0 := heL 0
          have q1 := heL 1
          have q2 := heL 2
          have hLr := fun (K : Heap) => (Rd.own (w0 := w0) (η := (b2, 27, L.cells) :: (H ++ η)) 0 rfl).mono fun w (h : St w0 (K ++ ((b2, 27, L.cells) :: (H ++ η))) w) => h.app_right
          have hSr := fun (K : Heap) => hrd.mono fun w (h : St w0 (K ++ ((b2, 27, L.cells) :: (H ++ η))) w) => h.app_right.tail.app_right
          refine TC_skip ?_
          refine TX_then ?_
          refine TC_seq ?_
          refine TC_block ?_
          refine TC_seq ?_
          refine TC_reg ?_
          refine TL_e rfl rfl rfl (rfl) (ET_call rfl YtjehicncbpljaaaDoorF.cal_83 rfl (rnew_spec w0 _)) ?_
          rintro _ _ ⟨mb, K, rfl, hK, rfl⟩
          refine TL_q rfl rfl (QT_assign rfl rfl rfl) ?_
          refine TL_nil ?_
          refine TX_then ?_
          refine TC_seq ?_
          refine TC_draw [(0, 0), (1, 0), (2, 0), (3, 0), (4, 0), (5, 0), (6, 0), (7, 0), (8, 1), (9, 1)] YtjehicncbpljaaaDoorF.mixed (by kernel_rfl) (St.calm _ _) ?_
          refine TV_q rfl rfl rfl (fun _ => QT_move rfl rfl rfl) ?_
          refine TV_q rfl rfl rfl (fun _ => QT_move rfl rfl rfl) ?_
          refine TV_q rfl rfl rfl (fun _ => QT_move rfl rfl rfl) ?_
          refine TV_q rfl rfl rfl (fun _ => QT_indexG i rfl rfl Tryd.underlying31 YtjehicncbpljaaaDoorF.sz_67 rfl rfl rfl (fun _ => hi') (fun _ => rfl)) ?_
          refine TV_q rfl rfl rfl (fun _ => QT_field rfl rfl YtjehicncbpljaaaDoorF.fld_67_0 rfl) ?_
          refine TV_ql rfl rfl rfl (QT_loadRj (v := .int .u8 (x0 : Int)) (i * 7 + 0) rfl rfl Tryd.underlying5 rfl (hSr _) rfl (fun _ => v0)) ?_
          refine TV_q rfl rfl rfl (fun _ => QT_convN rfl rfl Tryd.underlying5 Tryd.underlying60 rfl (IntWalk.u32_in _ ⟨by omega, by omega⟩)) ?_
          refine TV_ql rfl rfl rfl (QT_loadRAj (cs := L.cells) (out := L.cells) 0 rfl rfl Tryd.underlying27 rfl YtjehicncbpljaaaDoorF.sz_27 (hLr _) rfl (fun _ => Nat.le_refl 18) (fun _ => rfl)) ?_
          refine TV_cq rfl rfl rfl rfl rfl YtjehicncbpljaaaDoorF.cal_34 rfl (fun _ => hflag _) (.drop (by kernel_rfl) (.keep (by kernel_rfl) rfl (by first | exact QT_loadRj (v := .int .u8 (x0 : Int)) (i * 7 + 0) rfl rfl Tryd.underlying5 rfl (hSr _) rfl (fun _ => v0)) (.nil))) ?_
          refine TV_e rfl rfl rfl rfl (rfl) (ET_call rfl YtjehicncbpljaaaDoorF.cal_84 rfl (rput_spec w0 _ K mb [] x0 FL hK (by omega) ⟨by omega, by omega⟩ (by decide))) ?_
          rintro _ _ ⟨K1, rfl, hK1, rfl⟩
          refine ⟨_, .keep (by kernel_rfl) rfl (by first | exact QT_loadRj (v := .int .u8 (x0 : Int)) (i * 7 + 0) rfl rfl Tryd.underlying5 rfl (hSr _) rfl (fun _ => v0)) (.nil), ?_⟩
          refine TV_end ?_
          refine TX_then ?_
          refine TC_seq ?_
          rw [putL_okX (by omega) f0 (by show 0 + FL ≤ 524288; omega), show ([] : List Bool) = eR L r 0 from rfl, ← s0] at hK1
          refine TC_draw [(0, 0), (1, 0), (2, 0), (3, 0), (4, 0), (5, 0), (6, 0), (7, 0), (8, 0), (9, 1)] YtjehicncbpljaaaDoorF.mixed (by kernel_rfl) (St.calm _ _) ?_
          refine TV_q rfl rfl rfl (fun _ => QT_move rfl rfl rfl) ?_
          refine TV_q rfl rfl rfl (fun _ => QT_move rfl rfl rfl) ?_
          refine TV_q rfl rfl rfl (fun _ => QT_move rfl rfl rfl) ?_
          refine TV_q rfl rfl rfl (fun _ => QT_indexG i rfl rfl Tryd.underlying31 YtjehicncbpljaaaDoorF.sz_67 rfl rfl rfl (fun _ => hi') (fun _ => rfl)) ?_
          refine TV_q rfl rfl rfl (fun _ => QT_field rfl rfl YtjehicncbpljaaaDoorF.fld_67_1 rfl) ?_
          refine TV_q rfl rfl rfl (fun _ => QT_field rfl rfl YtjehicncbpljaaaDoorF.fld_62_0 rfl) ?_
          refine TV_ql rfl rfl rfl (QT_loadRj (v := .int .u32 (x1 : Int)) (i * 7 + 1) rfl rfl Tryd.underlying60 rfl (hSr _) rfl (fun _ => v1)) ?_
          refine TV_q rfl rfl rfl (fun _ => QT_field rfl rfl YtjehicncbpljaaaDoorF.fld_27_1 rfl) ?_
          refine TV_ql rfl rfl rfl (QT_loadRj (v := .int .i64 (CO : Int)) 1 rfl rfl Tryd.underlying3 rfl (hLr _) rfl (fun _ => lco)) ?_
          refine TV_e rfl rfl rfl rfl (rfl) (ET_call rfl YtjehicncbpljaaaDoorF.cal_84 rfl (rput_spec w0 _ K1 mb _ x1 CO hK1 l1 ⟨by omega, by omega⟩ (by omega))) ?_
          rintro _ _ ⟨K2, rfl, hK2, rfl⟩
          refine ⟨_, .drop (by kernel_rfl) (.drop (by kernel_rfl) (.nil)), ?_⟩
          refine TV_end ?_
          refine TX_then ?_
          refine TC_seq ?_
          rw [putL_okX (by omega) f1 (by omega), ← s1] at hK2
          refine TC_draw [(0, 0), (1, 0), (2, 0), (3, 0), (4, 0), (5, 0), (6, 0), (7, 0), (8, 0), (9, 1)] YtjehicncbpljaaaDoorF.mixed (by kernel_rfl) (St.calm _ _) ?_
          refine TV_q rfl rfl rfl (fun _ => QT_move rfl rfl rfl) ?_
          refine TV_q rfl rfl rfl (fun _ => QT_move rfl rfl rfl) ?_
          refine TV_q rfl rfl rfl (fun _ => QT_move rfl rfl rfl) ?_
          refine TV_q rfl rfl rfl (fun _ => QT_indexG i rfl rfl Tryd.underlying31 YtjehicncbpljaaaDoorF.sz_67 rfl rfl rfl (fun _ => hi') (fun _ => rfl)) ?_
          refine TV_q rfl rfl rfl (fun _ => QT_field rfl rfl YtjehicncbpljaaaDoorF.fld_67_1 rfl) ?_
          refine TV_q rfl rfl rfl (fun _ => QT_field rfl rfl YtjehicncbpljaaaDoorF.fld_62_1 rfl) ?_
          refine TV_ql rfl rfl rfl (QT_loadRj (v := .int .u32 (x2 : Int)) (i * 7 + 2) rfl rfl Tryd.underlying60 rfl (hSr _) rfl (fun _ => v2)) ?_
          refine TV_q rfl rfl rfl (fun _ => QT_field rfl rfl YtjehicncbpljaaaDoorF.fld_27_1 rfl) ?_
          refine TV_ql rfl rfl rfl (QT_loadRj (v := .int .i64 (CO : Int)) 1 rfl rfl Tryd.underlying3 rfl (hLr _) rfl (fun _ => lco)) ?_
          refine TV_e rfl rfl rfl rfl (rfl) (ET_call rfl YtjehicncbpljaaaDoorF.cal_84 rfl (rput_spec w0 _ K2 mb _ x2 CO hK2 l2 ⟨by omega, by omega⟩ (by omega))) ?_
          rintro _ _ ⟨K3, rfl, hK3, rfl⟩
          refine ⟨_, .drop (by kernel_rfl) (.drop (by kernel_rfl) (.nil)), ?_⟩
          refine TV_end ?_
          refine TX_then ?_
          refine TC_seq ?_
          refine TC_seq ?_
          rw [putL_okX (by omega) f2 (by omega), ← s2] at hK3
          refine TC_reg ?_
          refine TL_q rfl rfl (QT_assign rfl rfl rfl) ?_
          refine TL_nil ?_
          refine TX_then ?_
          refine TC_block ?_
          refine TC_loop (γ := { t : Nat × Heap // t.1 ≤ CS ∧ RefAt mb (eR L r (3 + t.1)) t.2 }) (fun u => [(1, true, .slice (some ⟨sb, so, none⟩) rs.length cap), (2, true, .pointer (some ⟨b2, 0, none⟩)), (9, true, bv), (10, true, .int .i64 (i : Int)), (11, true, .pointer (some ⟨mb, 0, none⟩)), (12, true, .int .i64 (u.1.1 : Int))]) (fun u => St w0 (u.1.2 ++ ((b2, 27, L.cells) :: (H ++ η)))) (fun u => CS - u.1.1) ⟨(0, K3), Nat.zero_le _, hK3⟩ ⟨rfl, rfl, rfl, rfl, rfl, rfl, trivial⟩ (fun _ h => h) ?_
          rintro ⟨⟨c, K4⟩, hcc, hK4⟩
          dsimp only at hcc hK4 ⊢
          refine TC_seq ?_
          refine TC_seq ?_
          refine TC_reg ?_
          refine TL_q rfl rfl (QT_move rfl rfl rfl) ?_
          refine TL_q rfl rfl (QT_field rfl rfl YtjehicncbpljaaaDoorF.fld_27_4 rfl) ?_
          refine TL_q rfl rfl (QT_loadRj (v := .int .i64 (CS : Int)) 4 rfl rfl Tryd.underlying3 rfl (hLr _) rfl (fun _ => lcs)) ?_
          refine TL_q rfl rfl (QT_lss rfl rfl rfl rfl) ?_
          refine TL_nil ?_
          refine TX_then ?_
          first
            | refine TC_cond_dec rfl (fun h129 => ?_) (fun h129 => ?_)
            | refine TC_cond rfl (fun h129 => ?_) (fun h129 => ?_)
          ·
            have hcC : c < CS := by omega
            obtain ⟨x, hx⟩ := get7 hrF.len (show 3 + c < 7 by omega)
            have hkm : rkM (3 + c) = 65536 := by unfold rkM; rw [if_neg (by omega), if_neg (by omega)]
            have lx : x < 65536 := by rw [← hkm]; exact hrF.lt hx
            have vx : (flatR rs)[i * 7 + (3 + c)]? = some (.int .u16 (x : Int)) := by
              rw [hel (by omega)]
              have := rvV_at (xs := r) (p := 3 + c) (by omega) hx
              rwa [show rkK (3 + c) = .u16 by unfold rkK; rw [if_neg (by omega), if_neg (by omega)]] at this
            have hwc : wdR L (3 + c) = CM := by rw [hw3, if_pos hcC]
            have fx : x < 2 ^ CM := by rw [← hwc]; exact fitB_atX hrfit (wR_at (by omega)) hx
            have sx := eR_step (L := L) hrF.len hx
            rw [hwc] at sx
            have qx := heL (3 + c)
            refine TC_skip ?_
            refine TX_then ?_
            refine TC_seq ?_
            refine TC_block ?_
            refine TC_draw [(0, 0), (1, 0), (2, 0), (3, 0), (4, 0), (5, 0), (6, 0), (7, 0), (8, 0), (9, 0), (10, 0), (11, 1)] YtjehicncbpljaaaDoorF.mixed (by kernel_rfl) (St.calm _ _) ?_
            refine TV_q rfl rfl rfl (fun _ => QT_move rfl rfl rfl) ?_
            refine TV_q rfl rfl rfl (fun _ => QT_move rfl rfl rfl) ?_
            refine TV_q rfl rfl rfl (fun _ => QT_move rfl rfl rfl) ?_
            refine TV_q rfl rfl rfl (fun _ => QT_move rfl rfl rfl) ?_
            refine TV_q rfl rfl rfl (fun _ => QT_indexG i rfl rfl Tryd.underlying31 YtjehicncbpljaaaDoorF.sz_67 rfl rfl rfl (fun _ => hi') (fun _ => rfl)) ?_
            refine TV_q rfl rfl rfl (fun _ => QT_field rfl rfl YtjehicncbpljaaaDoorF.fld_67_2 rfl) ?_
            refine TV_q rfl rfl rfl (fun _ => QT_indexArr c rfl rfl Tryd.underlying65 YtjehicncbpljaaaDoorF.sz_63 rfl rfl rfl (fun _ => by omega)) ?_
            refine TV_ql rfl rfl rfl (QT_loadRj (v := .int .u16 (x : Int)) (i * 7 + (3 + c)) rfl rfl Tryd.underlying63 rfl (hSr _) rfl (fun _ => vx)) ?_
            refine TV_q rfl rfl rfl (fun _ => QT_convN rfl rfl Tryd.underlying63 Tryd.underlying60 rfl (IntWalk.u32_in _ ⟨by omega, by omega⟩)) ?_
            refine TV_q rfl rfl rfl (fun _ => QT_field rfl rfl YtjehicncbpljaaaDoorF.fld_27_2 rfl) ?_
            refine TV_ql rfl rfl rfl (QT_loadRj (v := .int .i64 (CM : Int)) 2 rfl rfl Tryd.underlying3 rfl (hLr _) rfl (fun _ => lcm)) ?_
            refine TV_e rfl rfl rfl rfl (rfl) (ET_call rfl YtjehicncbpljaaaDoorF.cal_84 rfl (rput_spec w0 _ K4 mb _ x CM hK4 (by omega) ⟨by omega, by omega⟩ (by omega))) ?_
            rintro _ _ ⟨K5, rfl, hK5, rfl⟩
            refine ⟨_, .drop (by kernel_rfl) (.keep (by kernel_rfl) rfl (by first | exact QT_loadRj (v := .int .u16 (x : Int)) (i * 7 + (3 + c)) rfl rfl Tryd.underlying63 rfl (hSr _) rfl (fun _ => vx)) (.nil)), ?_⟩
            refine TV_end ?_
            refine TX_block_normal ?_
            refine TX_then ?_
            rw [putL_okX (by omega) fx (by omega), ← sx] at hK5
            refine TC_reg ?_
            refine TL_q rfl rfl (QT_move rfl rfl rfl) ?_
            refine TL_q rfl rfl (QT_add rfl rfl rfl rfl (fun _ => ⟨by omega, by omega⟩)) ?_
            refine TL_q rfl rfl (QT_assign rfl rfl rfl) ?_
            refine TL_nil ?_
            exact TX_round ⟨(c + 1, K5), hcC, hK5⟩ (by show CS - (c + 1) < CS - c; omega) ⟨rfl, rfl, rfl, rfl, rfl, rfl, trivial⟩ (fun _ h => h)
          ·
            refine TC_exit ?_
            refine TX_then_exit ?_
            refine TX_then_exit ?_
            refine TX_block_here ?_
            refine TX_then ?_
            obtain rfl : c = CS := by omega
            have k3 := eR_skip (L := L) hrF.len (7 - (3 + c)) (3 + c) (by omega) fun p h1 h2 => by
              have := hw3 (p - 3)
              rw [show 3 + (p - 3) = p by omega, if_neg (by omega)] at this
              exact this
            rw [show 3 + c + (7 - (3 + c)) = 7 by omega, eR_all hrF.len] at k3
            rw [← k3] at hK4
            have hl5 : (encR L r).length ≤ 136 := by rw [← eR_all hrF.len]; exact heL 7
            have hbx := RefAt.bytesX (w0 := w0) ((b2, 27, L.cells) :: (H ++ η)) hK4 (by omega)
            rw [show packB (encR L r) = packR L r from rfl] at hbx
            refine TC_reg ?_
            refine TL_q rfl rfl (QT_move rfl rfl rfl) ?_
            refine TL_q rfl rfl (QT_move rfl rfl rfl) ?_
            refine TL_e rfl rfl rfl (rfl) (ET_call rfl YtjehicncbpljaaaDoorF.cal_85 rfl (hbx)) ?_
            rintro nv _ ⟨H2, hF2, rfl⟩
            refine TL_e rfl rfl rfl (rfl) (ET_appendL (η := η) (L := H2 ++ [(b2, 27, L.cells)]) rfl Tryd.underlying28 el_Byte rfl rfl hF (fun w h => h.cnt fun p => by simp only [List.countP_append, List.countP_cons, List.countP_nil]; omega) (hF2.within fun p => by simp only [List.countP_append]; omega) (byV_ints (packB_lt _)).oneCell (by omega) (by omega)) ?_
            rintro bv2 _ ⟨H', hF', rfl⟩
            refine TL_q rfl rfl (QT_assign rfl rfl rfl) ?_
            refine TL_nil ?_
            refine TX_block_normal ?_
            refine TX_then ?_
            refine TC_reg ?_
            refine TL_q rfl rfl (QT_move rfl rfl rfl) ?_
            refine TL_q rfl rfl (QT_add rfl rfl rfl rfl (fun _ => ⟨by omega, by omega⟩)) ?_
            refine TL_q rfl rfl (QT_assign rfl rfl rfl) ?_
            refine TL_nil ?_
            refine TX_round ⟨(i + 1, bv2, H'), hi', ?_⟩ (by show rs.length - (i + 1) < rs.length - i; omega) ⟨rfl, rfl, rfl, rfl, trivial⟩ (fun w h => h.cnt fun p => by simp only [List.countP_append, List.countP_cons, List.countP_nil]; omega)
            have e : bytesR L (rs.take (i + 1)) = bytesR L (rs.take i) ++ packR L r := by rw [htk, bytesR_append]; simp [bytesR]
            show Frag _ 1 _ (bytesR L (rs.take (i + 1))).length (byV (bytesR L (rs.take (i + 1)))) H'
            rw [e, List.length_append, byV_append]
            exact hF'
        ·
          refine TC_exit ?_
          refine TX_then_exit ?_
          refine TX_then_exit ?_
          refine TX_block_here ?_
          refine TX_then ?_
          refine TC_seq ?_
          obtain rfl : i = rs.length := by omega
          rw [List.take_of_length_le (Nat.le_refl _)] at hF
          refine TC_reg ?_
          refine TL_q rfl rfl (QT_move rfl rfl rfl) ?_
          refine TL_q rfl rfl (QT_assign rfl rfl rfl) ?_
          refine TL_q rfl rfl (QT_assign rfl rfl rfl) ?_
          refine TL_nil ?_
          refine TX_then ?_
          refine TC_ret ?_
          exact TX_ret (.inl rfl) (res2 rfl rfl rfl) ⟨_, ⟨_, H, by rw [eP], by rw [eO]; exact hF, rfl⟩, fun _ h => h.tail⟩
end Go.Proofs.YtjehicncbpljaaaDoor

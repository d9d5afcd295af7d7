/- RECORDS CUT DOWN to what a layout has room for; THE LAW: what has room is put, and got as it was; without the last byte it is not. -/
import Derived.Test.YtjehicncbpljaaaDoorS09n
namespace Go.Proofs.YtjehicncbpljaaaDoor
open Go Go.Gx Go.RowKit
set_option maxRecDepth 100000
theorem mask_u8R : ∀ w : Fin 9, IntKind.u8.wrap (IntKind.u8.wrap (1 * 2 ^ (min ((w.1 : Nat) : Int).toNat IntKind.u8.bits)) - 1) = ((2 ^ w.1 - 1 : Nat) : Int) := by decide +kernel
theorem mask_u16R : ∀ w : Fin 17, IntKind.u16.wrap (IntKind.u16.wrap (1 * 2 ^ (min ((w.1 : Nat) : Int).toNat IntKind.u16.bits)) - 1) = ((2 ^ w.1 - 1 : Nat) : Int) := by decide +kernel
theorem mask_u32R : ∀ w : Fin 33, IntKind.u32.wrap (IntKind.u32.wrap (1 * 2 ^ (min ((w.1 : Nat) : Int).toNat IntKind.u32.bits)) - 1) = ((2 ^ w.1 - 1 : Nat) : Int) := by decide +kernel
theorem ofInt16R (a : Nat) (h : a < 65536) : (BitVec.ofInt 16 (a : Int)).toNat = a := by
  rw [BitVec.toNat_ofInt]
  have : ((2 ^ 16 : Nat) : Int) = 65536 := by decide
  rw [this]; omega
theorem and_u16R {a b : Nat} (ha : a < 65536) (hb : b < 65536) : bitsOf .and .u16 (a : Int) (b : Int) = ((a &&& b : Nat) : Int) := by
  have h : a &&& b ≤ a := Nat.and_le_left
  show IntKind.u16.wrap ((BitVec.ofInt 16 (a : Int) &&& BitVec.ofInt 16 (b : Int)).toNat : Int) = _
  rw [BitVec.toNat_and, ofInt16R a ha, ofInt16R b hb]
  exact IntWalk.u16_in ((a &&& b : Nat) : Int) ⟨by omega, by omega⟩
theorem pow_leR {w n : Nat} (h : w ≤ n) : 0 < 2 ^ w ∧ 2 ^ w ≤ 2 ^ n := ⟨Nat.two_pow_pos w, Nat.pow_le_pow_right (by decide) h⟩
theorem cut_u8R {x w : Nat} (hx : x < 256) (hw : w ≤ 8) : bitsOf .and .u8 (x : Int) ((2 ^ w - 1 : Nat) : Int) = ((x % 2 ^ w : Nat) : Int) := by
  have := pow_leR hw
  rw [and_u8 hx (by have : 2 ^ 8 = 256 := rfl; omega), Nat.and_two_pow_sub_one_eq_mod]
theorem cut_u16R {x w : Nat} (hx : x < 65536) (hw : w ≤ 16) : bitsOf .and .u16 (x : Int) ((2 ^ w - 1 : Nat) : Int) = ((x % 2 ^ w : Nat) : Int) := by
  have := pow_leR hw
  rw [and_u16R hx (by have : 2 ^ 16 = 65536 := rfl; omega), Nat.and_two_pow_sub_one_eq_mod]
theorem cut_u32R {x w : Nat} (hx : x < 4294967296) (hw : w ≤ 32) : bitsOf .and .u32 (x : Int) ((2 ^ w - 1 : Nat) : Int) = ((x % 2 ^ w : Nat) : Int) := by
  have := pow_leR hw
  rw [and_u32 hx (by have : 2 ^ 32 = 4294967296 := rfl; omega), Nat.and_two_pow_sub_one_eq_mod]
/-- a record some of whose numbers are cut -/
def cutF (L : Lay) (r : List Nat) (a b : Nat) : List Nat := (List.range 7).map fun p => if a ≤ p ∧ p < b then r.getD p 0 % 2 ^ wdR L p else r.getD p 0
def cutR (L : Lay) (r : List Nat) : List Nat := cutF L r 0 7
theorem cutF_len (L : Lay) (r : List Nat) (a b : Nat) : (cutF L r a b).length = 7 := by simp [cutF]
theorem cutF_at {L : Lay} {r : List Nat} {a b p x : Nat} (hp : p < 7) (hx : r[p]? = some x) : (cutF L r a b)[p]? = some (if a ≤ p ∧ p < b then x % 2 ^ wdR L p else x) := by
  rw [cutF, List.getElem?_map, List.getElem?_range hp]
  simp [hx]
theorem cutF_step {L : Lay} {r : List Nat} (hr : r.length = 7) {a b k x : Nat} (a' b' : Nat) (hk : k < 7) (hx : r[k]? = some x) (h : ∀ p, p < 7 → p ≠ k → ((a ≤ p ∧ p < b) ↔ (a' ≤ p ∧ p < b'))) (hk' : a' ≤ k ∧ k < b') : (cutF L r a b).set k (x % 2 ^ wdR L k) = cutF L r a' b' := by
  apply List.ext_getElem?
  intro p
  rw [List.getElem?_set]
  by_cases hp : p < 7
  · obtain ⟨y, hy⟩ := get7 hr hp
    rw [cutF_at hp hy]
    by_cases e : k = p
    · subst e
      rw [hx] at hy; cases hy
      rw [if_pos rfl, if_pos (by rw [cutF_len]; exact hp), cutF_at hp hx, if_pos hk']
    · rw [if_neg e, cutF_at hp hy]
      by_cases h1 : a ≤ p ∧ p < b
      · rw [if_pos h1, if_pos ((h p hp fun h => e h.symm).1 h1)]
      · rw [if_neg h1, if_neg fun h2 => h1 ((h p hp fun h => e h.symm).2 h2)]
  · rw [if_neg (by omega), List.getElem?_eq_none (by rw [cutF_len]; omega), List.getElem?_eq_none (by rw [cutF_len]; omega)]
theorem cutF_none {L : Lay} {r : List Nat} (hr : r.length = 7) : cutF L r 1 1 = r := by
  apply List.ext_getElem?
  intro p
  by_cases hp : p < 7
  · obtain ⟨y, hy⟩ := get7 hr hp
    rw [cutF_at hp hy, if_neg (by omega), hy]
  · rw [List.getElem?_eq_none (by rw [cutF_len]; omega), List.getElem?_eq_none (by omega)]
theorem cutR_rcf {L : Lay} {r : List Nat} (h : RcF r) : RcF (cutR L r) := ⟨cutF_len _ _ _ _, fun {p x} hx => by
  have hp : p < 7 := by rw [← cutF_len L r 0 7]; exact (List.getElem?_eq_some_iff.1 hx).1
  obtain ⟨y, hy⟩ := get7 h.len hp
  unfold cutR at hx
  rw [cutF_at hp hy, if_pos (by omega)] at hx
  cases hx
  exact Nat.lt_of_le_of_lt (Nat.mod_le _ _) (h.lt hy)⟩
theorem cutR_fit {L : Lay} {r : List Nat} (h : RcF r) : fitR L (cutR L r) = true := fitR_of (cutF_len _ _ _ _) fun p x hp hx => by
  obtain ⟨y, hy⟩ := get7 h.len hp
  unfold cutR at hx
  rw [cutF_at hp hy, if_pos (by omega)] at hx
  cases hx
  exact Nat.mod_lt _ (Nat.two_pow_pos _)
theorem cutAllR {L : Lay} {rs : List (List Nat)} (h : ∀ r ∈ rs, RcF r) : (∀ r ∈ rs.map (cutR L), RcF r) ∧ (rs.map (cutR L)).all (fitR L) = true := by
  constructor
  · intro y hy
    obtain ⟨z, hz, rfl⟩ := List.mem_map.1 hy
    exact cutR_rcf (h z hz)
  · rw [List.all_eq_true]
    intro y hy
    obtain ⟨z, hz, rfl⟩ := List.mem_map.1 hy
    exact cutR_fit (h z hz)
set_option maxHeartbeats 4000000 in
theorem fittingR_spec (w0 : Base) (η : Heap) (L : Lay) (hc : okB L = true ∧ L.ty ≤ 5) (hf : 0 ≤ L.fl ∧ L.fl ≤ 60) (r : List Nat) (hr : RcF r) :
    CallsT Tryd.prog 24 [L.val, .agg (rvV r).toArray] (St w0 η) fun v A' => v = .agg (rvV (cutR L r)).toArray ∧ A' = St w0 η := by
  have hbd := okB_bounds hc.1
  have hco : (L.co.toNat : Int) = L.co := by have := hbd.1; omega
  have hcm : (L.cm.toNat : Int) = L.cm := by have := hbd.2.1; omega
  have hcs : (L.cs.toNat : Int) = L.cs := by have := hbd.2.2.1; omega
  have hco32 : L.co.toNat ≤ 32 := by have := hbd.1; omega
  have hcm16 : L.cm.toNat ≤ 16 := by have := hbd.2.1; omega
  have hcs4 : 1 ≤ L.cs.toNat ∧ L.cs.toNat ≤ 4 := by have := hbd.2.2.1; omega
  have lco : L.cells[0 + 1]? = some (.int .i64 (L.co.toNat : Int)) := layR_at rfl hco
  have lcm : L.cells[0 + 2]? = some (.int .i64 (L.cm.toNat : Int)) := layR_at rfl hcm
  have lcs : L.cells[0 + 4]? = some (.int .i64 (L.cs.toNat : Int)) := layR_at rfl hcs
  have hw1 : wdR L 1 = L.co.toNat := rfl
  have hw2 : wdR L 2 = L.co.toNat := rfl
  have hw3 : ∀ c, wdR L (3 + c) = if c < L.cs.toNat then L.cm.toNat else 0 := fun c => by unfold wdR; rw [if_neg (by omega), if_neg (by omega), show 3 + c - 3 = c by omega]
  generalize hCO : L.co.toNat = CO at lco hco32 hw1 hw2
  generalize hCM : L.cm.toNat = CM at lcm hcm16 hw3
  generalize hCS : L.cs.toNat = CS at lcs hcs4 hw3
  obtain ⟨x0, hx0⟩ := get7 hr.len (show 0 < 7 by decide)
  obtain ⟨x1, hx1⟩ := get7 hr.len (show 1 < 7 by decide)
  obtain ⟨x2, hx2⟩ := get7 hr.len (show 2 < 7 by decide)
  have l0 : x0 < 256 := hr.lt hx0
  have l1 : x1 < 4294967296 := hr.lt hx1
  have l2 : x2 < 4294967296 := hr.lt hx2
  have k0 : rkK 0 = .u8 := rfl
  have k1 : rkK 1 = .u32 := rfl
  have k2 : rkK 2 = .u32 := rfl
  have v1 : (rvV (cutF L r 1 1))[1]? = some (.int .u32 (x1 : Int)) := by rw [cutF_none hr.len]; exact rvV_at (by decide) hx1
  have v2 : (rvV (cutF L r 1 2))[2]? = some (.int .u32 (x2 : Int)) := by
    have := rvV_at (p := 2) (by decide) (cutF_at (L := L) (a := 1) (b := 2) (by decide) hx2)
    rwa [if_neg (by omega)] at this
  have v0 : (rvV (cutF L r 1 7))[0]? = some (.int .u8 (x0 : Int)) := by
    have := rvV_at (p := 0) (by decide) (cutF_at (L := L) (a := 1) (b := 7) (by decide) hx0)
    rwa [if_neg (by omega)] at this
  have s1 := rvV_set (xs := cutF L r 1 1) (p := 1) (v := x1 % 2 ^ wdR L 1) (by decide)
  rw [cutF_step hr.len 1 2 (by decide) hx1 (fun p h1 h2 => by omega) (by omega), hw1, k1] at s1
  have s2 := rvV_set (xs := cutF L r 1 2) (p := 2) (v := x2 % 2 ^ wdR L 2) (by decide)
  rw [cutF_step hr.len 1 3 (by decide) hx2 (fun p h1 h2 => by omega) (by omega), hw2, k2] at s2
  have s0 := rvV_set (xs := cutF L r 1 7) (p := 0) (v := x0 % 2 ^ wdR L 0) (by decide)
  rw [cutF_step hr.len 0 7 (by decide) hx0 (fun p h1 h2 => by omega) (by omega), k0] at s0
  have hble : ∀ {c a b : Nat}, c < 7 → Nat.ble (c + 1) (rvV (cutF L r a b)).length = true := fun h => Nat.ble_eq_true_of_le (by rw [rvV_len (cutF_len _ _ _ _)]; omega)
  have hrl : (rvV (cutR L r)).length = 7 := rvV_len (cutF_len _ _ _ _)
  have hrz : Sz Tryd.prog 67 (rvV (cutR L r)).length := by rw [hrl]; exact YtjehicncbpljaaaDoorF.sz_67
  have hri := rvV_ints (cutR_rcf (L := L) hr)
  refine CallsT.body Tryd.func24 rfl rfl ?_
  simp only [Tryd.ntmps24, slotsOf, Nat.reduceAdd]
  refine TC_seq ?_
  refine TC_reg ?_
  refine TL_e rfl rfl rfl (rfl) (ET_box rfl rfl) ?_
  rintro _ _ ⟨b2, rfl, rfl⟩
  refine TL_e rfl rfl rfl (rfl) (ET_box rfl rfl) ?_
  rintro _ _ ⟨b3, rfl, rfl⟩
  refine TL_e rfl rfl rfl (rfl) (ET_alloc rfl YtjehicncbpljaaaDoorF.zero_67) ?_
  rintro _ _ ⟨b4, rfl, rfl⟩
  refine TL_nil ?_
  refine TX_then ?_
  refine TC_seq ?_
  refine TC_A (St w0 ((b4, 67, rvV (List.replicate 7 0)) :: (b3, 67, rvV (cutF L r 1 1)) :: (b2, 27, L.cells) :: η)) (fun _ h => by rw [cutF_none hr.len]; exact h) ?_
  refine TC_draw [(0, 0), (1, 0), (2, 0), (3, 0), (4, 0), (5, 0), (6, 0), (7, 0), (8, 0), (9, 0), (10, 1)] YtjehicncbpljaaaDoorF.mixed (by kernel_rfl) (St.calm _ _) ?_
  refine TV_q rfl rfl rfl (fun _ => QT_field rfl rfl YtjehicncbpljaaaDoorF.fld_67_1 rfl) ?_
  refine TV_q rfl rfl rfl (fun _ => QT_field rfl rfl YtjehicncbpljaaaDoorF.fld_62_0 rfl) ?_
  refine TV_ql rfl rfl rfl (QT_load (v := .int .u32 (x1 : Int)) 1 rfl rfl Tryd.underlying60 rfl rfl rfl (fun _ => v1)) ?_
  refine TV_q rfl rfl rfl (fun _ => QT_field rfl rfl YtjehicncbpljaaaDoorF.fld_27_1 rfl) ?_
  refine TV_ql rfl rfl rfl (QT_load (v := .int .i64 (CO : Int)) 2 rfl rfl Tryd.underlying3 rfl rfl rfl (fun _ => lco)) ?_
  refine TV_q rfl rfl rfl (fun _ => QT_shl rfl rfl rfl rfl (fun _ => by omega)) ?_
  refine TV_q rfl rfl rfl (fun _ => QT_to (QT_subw rfl rfl rfl rfl) (mask_u32R ⟨CO, by omega⟩)) ?_
  refine TV_q rfl rfl rfl (fun _ => QT_to (QT_bits rfl rfl (by decide) rfl rfl) (cut_u32R l1 hco32)) ?_
  refine TV_q rfl rfl rfl (fun _ => QT_field rfl rfl YtjehicncbpljaaaDoorF.fld_67_1 rfl) ?_
  refine TV_q rfl rfl rfl (fun _ => QT_field rfl rfl YtjehicncbpljaaaDoorF.fld_62_0 rfl) ?_
  refine TV_e0 rfl rfl rfl (rfl) (ET_store (vs := [.int .u32 ((x1 % 2 ^ CO : Nat) : Int)]) 1 rfl rfl rfl rfl YtjehicncbpljaaaDoorF.sz_60 rfl rfl (hble (by decide))) ?_
  rintro _ _ ⟨rfl, rfl⟩
  refine ⟨_, .drop (by kernel_rfl) (.drop (by kernel_rfl) (.nil)), ?_⟩
  refine TV_end ?_
  refine TX_then ?_
  refine TC_seq ?_
  refine TC_A (St w0 ((b4, 67, rvV (List.replicate 7 0)) :: (b3, 67, rvV (cutF L r 1 2)) :: (b2, 27, L.cells) :: η)) (fun _ h => by rw [← s1]; exact h) ?_
  refine TC_draw [(0, 0), (1, 0), (2, 0), (3, 0), (4, 0), (5, 0), (6, 0), (7, 0), (8, 0), (9, 0), (10, 1)] YtjehicncbpljaaaDoorF.mixed (by kernel_rfl) (St.calm _ _) ?_
  refine TV_q rfl rfl rfl (fun _ => QT_field rfl rfl YtjehicncbpljaaaDoorF.fld_67_1 rfl) ?_
  refine TV_q rfl rfl rfl (fun _ => QT_field rfl rfl YtjehicncbpljaaaDoorF.fld_62_1 rfl) ?_
  refine TV_ql rfl rfl rfl (QT_load (v := .int .u32 (x2 : Int)) 1 rfl rfl Tryd.underlying60 rfl rfl rfl (fun _ => v2)) ?_
  refine TV_q rfl rfl rfl (fun _ => QT_field rfl rfl YtjehicncbpljaaaDoorF.fld_27_1 rfl) ?_
  refine TV_ql rfl rfl rfl (QT_load (v := .int .i64 (CO : Int)) 2 rfl rfl Tryd.underlying3 rfl rfl rfl (fun _ => lco)) ?_
  refine TV_q rfl rfl rfl (fun _ => QT_shl rfl rfl rfl rfl (fun _ => by omega)) ?_
  refine TV_q rfl rfl rfl (fun _ => QT_to (QT_subw rfl rfl rfl rfl) (mask_u32R ⟨CO, by omega⟩)) ?_
  refine TV_q rfl rfl rfl (fun _ => QT_to (QT_bits rfl rfl (by decide) rfl rfl) (cut_u32R l2 hco32)) ?_
  refine TV_q rfl rfl rfl (fun _ => QT_field rfl rfl YtjehicncbpljaaaDoorF.fld_67_1 rfl) ?_
  refine TV_q rfl rfl rfl (fun _ => QT_field rfl rfl YtjehicncbpljaaaDoorF.fld_62_1 rfl) ?_
  refine TV_e0 rfl rfl rfl (rfl) (ET_store (vs := [.int .u32 ((x2 % 2 ^ CO : Nat) : Int)]) 1 rfl rfl rfl rfl YtjehicncbpljaaaDoorF.sz_60 rfl rfl (hble (by decide))) ?_
  rintro _ _ ⟨rfl, rfl⟩
  refine ⟨_, .drop (by kernel_rfl) (.drop (by kernel_rfl) (.nil)), ?_⟩
  refine TV_end ?_
  refine TX_then ?_
  refine TC_seq ?_
  refine TC_seq ?_
  refine TC_A (St w0 ((b4, 67, rvV (List.replicate 7 0)) :: (b3, 67, rvV (cutF L r 1 3)) :: (b2, 27, L.cells) :: η)) (fun _ h => by rw [← s2]; exact h) ?_
  refine TC_reg ?_
  refine TL_q rfl rfl (QT_assign rfl rfl rfl) ?_
  refine TL_nil ?_
  refine TX_then ?_
  refine TC_block ?_
  refine TC_loop (γ := { c : Nat // c ≤ 4 }) (fun u => [(2, true, .pointer (some ⟨b2, 0, none⟩)), (3, true, .pointer (some ⟨b3, 0, none⟩)), (4, true, .pointer (some ⟨b4, 0, none⟩)), (5, true, .int .i64 (u.1 : Int))]) (fun u => St w0 ((b4, 67, rvV (List.replicate 7 0)) :: (b3, 67, rvV (cutF L r 1 (3 + u.1))) :: (b2, 27, L.cells) :: η)) (fun u => 4 - u.1) ⟨0, by decide⟩ ⟨rfl, rfl, rfl, rfl, trivial⟩ (fun _ h => h) ?_
  rintro ⟨c, hc4⟩
  dsimp only
  refine TC_seq ?_
  refine TC_seq ?_
  refine TC_reg ?_
  refine TL_q rfl rfl (QT_move rfl rfl rfl) ?_
  refine TL_q rfl rfl (QT_lss rfl rfl rfl rfl) ?_
  refine TL_nil ?_
  refine TX_then ?_
  first
    | refine TC_cond_dec rfl (fun h27 => ?_) (fun h27 => ?_)
    | refine TC_cond rfl (fun h27 => ?_) (fun h27 => ?_)
  ·
    have hcl : c < 4 := by omega
    obtain ⟨x, hx⟩ := get7 hr.len (show 3 + c < 7 by omega)
    have hkm : rkM (3 + c) = 65536 := by unfold rkM; rw [if_neg (by omega), if_neg (by omega)]
    have hkk : rkK (3 + c) = .u16 := by unfold rkK; rw [if_neg (by omega), if_neg (by omega)]
    have lx : x < 65536 := by rw [← hkm]; exact hr.lt hx
    have vx := rvV_at (p := 3 + c) (by omega) (cutF_at (L := L) (a := 1) (b := 3 + c) (by omega) hx)
    rw [if_neg (by omega), hkk] at vx
    have sx := rvV_set (xs := cutF L r 1 (3 + c)) (p := 3 + c) (v := x % 2 ^ wdR L (3 + c)) (by omega)
    rw [cutF_step hr.len 1 (3 + c + 1) (by omega) hx (fun p h1 h2 => by omega) (by omega), hw3, hkk] at sx
    refine TC_skip ?_
    refine TX_then ?_
    refine TC_cut (γ := Unit) (fun _ => [(2, true, .pointer (some ⟨b2, 0, none⟩)), (3, true, .pointer (some ⟨b3, 0, none⟩)), (4, true, .pointer (some ⟨b4, 0, none⟩)), (5, true, .int .i64 (c : Int))]) (fun _ => St w0 ((b4, 67, rvV (List.replicate 7 0)) :: (b3, 67, rvV (cutF L r 1 (3 + c + 1))) :: (b2, 27, L.cells) :: η)) ?_ ?_
    ·
      refine TC_block ?_
      refine TC_seq ?_
      refine TC_draw [(0, 0), (1, 0), (2, 0), (3, 0), (4, 0), (5, 0), (6, 0), (7, 0), (8, 0), (9, 0), (10, 0), (11, 0), (12, 1)] YtjehicncbpljaaaDoorF.mixed (by kernel_rfl) (St.calm _ _) ?_
      refine TV_q rfl rfl rfl (fun _ => QT_move rfl rfl rfl) ?_
      refine TV_q rfl rfl rfl (fun _ => QT_move rfl rfl rfl) ?_
      refine TV_q rfl rfl rfl (fun _ => QT_field rfl rfl YtjehicncbpljaaaDoorF.fld_67_2 rfl) ?_
      refine TV_q rfl rfl rfl (fun _ => QT_indexArr c rfl rfl Tryd.underlying65 YtjehicncbpljaaaDoorF.sz_63 rfl rfl rfl (fun _ => hcl)) ?_
      refine TV_ql rfl rfl rfl (QT_loadRj (v := .int .u16 (x : Int)) (3 + c) rfl rfl Tryd.underlying63 rfl (Rd.own 1 rfl) rfl (fun _ => vx)) ?_
      refine TV_q rfl rfl rfl (fun _ => QT_field rfl rfl YtjehicncbpljaaaDoorF.fld_27_2 rfl) ?_
      refine TV_ql rfl rfl rfl (QT_load (v := .int .i64 (CM : Int)) 2 rfl rfl Tryd.underlying3 rfl rfl rfl (fun _ => lcm)) ?_
      refine TV_q rfl rfl rfl (fun _ => QT_shl rfl rfl rfl rfl (fun _ => by omega)) ?_
      refine TV_q rfl rfl rfl (fun _ => QT_to (QT_subw rfl rfl rfl rfl) (mask_u16R ⟨CM, by omega⟩)) ?_
      refine TV_q rfl rfl rfl (fun _ => QT_to (QT_bits rfl rfl (by decide) rfl rfl) (cut_u16R lx hcm16)) ?_
      refine TV_q rfl rfl rfl (fun _ => QT_field rfl rfl YtjehicncbpljaaaDoorF.fld_67_2 rfl) ?_
      refine TV_q rfl rfl rfl (fun _ => QT_indexArr c rfl rfl Tryd.underlying65 YtjehicncbpljaaaDoorF.sz_63 rfl rfl rfl (fun _ => hcl)) ?_
      refine TV_e0 rfl rfl rfl (rfl) (ET_store (vs := [.int .u16 ((x % 2 ^ CM : Nat) : Int)]) 1 rfl rfl rfl rfl YtjehicncbpljaaaDoorF.sz_63 rfl rfl (hble (c := 0 + 3 + c * 1) (by omega))) ?_
      rintro _ _ ⟨rfl, rfl⟩
      refine ⟨_, .drop (by kernel_rfl) (.drop (by kernel_rfl) (.nil)), ?_⟩
      refine TV_end ?_
      refine TX_then ?_
      refine TC_seq ?_
      refine TC_A (St w0 ((b4, 67, rvV (List.replicate 7 0)) :: (b3, 67, (rvV (cutF L r 1 (3 + c))).set (3 + c) (.int .u16 ((x % 2 ^ CM : Nat) : Int))) :: (b2, 27, L.cells) :: η)) (fun w h => by
        have h' : St w0 ((b4, 67, rvV (List.replicate 7 0)) :: (b3, 67, (rvV (cutF L r 1 (3 + c))).set (0 + 3 + c * 1) (.int .u16 ((x % 2 ^ CM : Nat) : Int))) :: (b2, 27, L.cells) :: η) w := h
        rw [show 0 + 3 + c * 1 = 3 + c by omega] at h'
        exact h') ?_
      refine TC_reg ?_
      refine TL_q rfl rfl (QT_move rfl rfl rfl) ?_
      refine TL_q rfl rfl (QT_field rfl rfl YtjehicncbpljaaaDoorF.fld_27_4 rfl) ?_
      refine TL_q rfl rfl (QT_load (v := .int .i64 (CS : Int)) 2 rfl rfl Tryd.underlying3 rfl rfl rfl (fun _ => lcs)) ?_
      refine TL_q rfl rfl (QT_geq rfl rfl rfl rfl) ?_
      refine TL_nil ?_
      refine TX_then ?_
      first
        | refine TC_cond_dec rfl (fun h45 => ?_) (fun h45 => ?_)
        | refine TC_cond rfl (fun h45 => ?_) (fun h45 => ?_)
      ·
        refine TC_reg ?_
        refine TL_q rfl rfl (QT_move rfl rfl rfl) ?_
        refine TL_q rfl rfl (QT_field rfl rfl YtjehicncbpljaaaDoorF.fld_67_2 rfl) ?_
        refine TL_q rfl rfl (QT_indexArr c rfl rfl Tryd.underlying65 YtjehicncbpljaaaDoorF.sz_63 rfl rfl rfl (fun _ => hcl)) ?_
        refine TL_e0 rfl rfl (rfl) (ET_store (vs := [.int .u16 0]) 1 rfl rfl rfl rfl YtjehicncbpljaaaDoorF.sz_63 rfl rfl (Nat.ble_eq_true_of_le (by show 0 + 3 + c * 1 + 1 ≤ _; rw [List.length_set, rvV_len (cutF_len _ _ _ _)]; omega))) ?_
        rintro _ _ ⟨rfl, rfl⟩
        refine TL_nil ?_
        refine TX_block_normal ?_
        exact TX_cut () ⟨rfl, rfl, rfl, rfl, trivial⟩ (fun w h => by
          rw [← sx, if_neg (by omega), Nat.pow_zero, Nat.mod_one]
          have h' : St w0 ((b4, 67, rvV (List.replicate 7 0)) :: (b3, 67, ((rvV (cutF L r 1 (3 + c))).set (3 + c) (.int .u16 ((x % 2 ^ CM : Nat) : Int))).set (0 + 3 + c * 1) (.int .u16 0)) :: (b2, 27, L.cells) :: η) w := h
          rw [show 0 + 3 + c * 1 = 3 + c by omega, List.set_set] at h'
          exact h')
      ·
        refine TC_skip ?_
        refine TX_block_normal ?_
        exact TX_cut () ⟨rfl, rfl, rfl, rfl, trivial⟩ (fun w h => by
          rw [← sx, if_pos (by omega)]
          exact h)
    rintro ⟨⟩
    refine TC_reg ?_
    refine TL_q rfl rfl (QT_move rfl rfl rfl) ?_
    refine TL_q rfl rfl (QT_add rfl rfl rfl rfl (fun _ => ⟨by omega, by omega⟩)) ?_
    refine TL_q rfl rfl (QT_assign rfl rfl rfl) ?_
    refine TL_nil ?_
    exact TX_round ⟨c + 1, hcl⟩ (by show 4 - (c + 1) < 4 - c; omega) ⟨rfl, rfl, rfl, rfl, trivial⟩ (fun _ h => h)
  ·
    refine TC_exit ?_
    refine TX_then_exit ?_
    refine TX_then_exit ?_
    refine TX_block_here ?_
    refine TX_then ?_
    refine TC_seq ?_
    obtain rfl : c = 4 := by omega
    obtain ⟨Z, hZ⟩ : ∃ Z, bitsOf .and .u8 (x0 : Int) (IntKind.u8.wrap (IntKind.u8.wrap (1 * 2 ^ (min L.fl.toNat IntKind.u8.bits)) - 1)) = Z := ⟨_, rfl⟩
    refine TC_draw [(0, 0), (1, 0), (2, 0), (3, 0), (4, 0), (5, 0), (6, 0), (7, 0), (8, 1)] YtjehicncbpljaaaDoorF.mixed (by kernel_rfl) (St.calm _ _) ?_
    refine TV_q rfl rfl rfl (fun _ => QT_field rfl rfl YtjehicncbpljaaaDoorF.fld_67_0 rfl) ?_
    refine TV_ql rfl rfl rfl (QT_load (v := .int .u8 (x0 : Int)) 1 rfl rfl Tryd.underlying5 rfl rfl rfl (fun _ => v0)) ?_
    refine TV_q rfl rfl rfl (fun _ => QT_field rfl rfl YtjehicncbpljaaaDoorF.fld_27_3 rfl) ?_
    refine TV_ql rfl rfl rfl (QT_load (v := .int .i64 L.fl) 2 rfl rfl Tryd.underlying3 rfl rfl rfl (fun _ => rfl)) ?_
    refine TV_q rfl rfl rfl (fun _ => QT_shl rfl rfl rfl rfl (fun _ => by omega)) ?_
    refine TV_q rfl rfl rfl (fun _ => QT_subw rfl rfl rfl rfl) ?_
    refine TV_q rfl rfl rfl (fun _ => QT_to (QT_bits rfl rfl (by decide) rfl rfl) hZ) ?_
    refine TV_q rfl rfl rfl (fun _ => QT_field rfl rfl YtjehicncbpljaaaDoorF.fld_67_0 rfl) ?_
    refine TV_e0 rfl rfl rfl (rfl) (ET_store (vs := [.int .u8 Z]) 1 rfl rfl rfl rfl YtjehicncbpljaaaDoorF.sz_5 rfl rfl (hble (by decide))) ?_
    rintro _ _ ⟨rfl, rfl⟩
    refine ⟨_, .drop (by kernel_rfl) (.drop (by kernel_rfl) (.nil)), ?_⟩
    refine TV_end ?_
    refine TX_then ?_
    refine TC_cut (γ := Unit) (fun _ => [(3, true, .pointer (some ⟨b3, 0, none⟩)), (4, true, .pointer (some ⟨b4, 0, none⟩))]) (fun _ => St w0 ((b4, 67, rvV (List.replicate 7 0)) :: (b3, 67, rvV (cutR L r)) :: (b2, 27, L.cells) :: η)) ?_ ?_
    ·
      refine TC_seq ?_
      refine TC_reg ?_
      refine TL_q rfl rfl (QT_field rfl rfl YtjehicncbpljaaaDoorF.fld_27_0 rfl) ?_
      refine TL_q rfl rfl (QT_load (v := .int .i64 L.ty) 2 rfl rfl Tryd.underlying3 rfl rfl rfl (fun _ => rfl)) ?_
      refine TL_q rfl rfl (QT_eql rfl rfl rfl rfl) ?_
      refine TL_nil ?_
      refine TX_then ?_
      first
        | refine TC_cond_dec rfl (fun h59 => ?_) (fun h59 => ?_)
        | refine TC_cond rfl (fun h59 => ?_) (fun h59 => ?_)
      ·
        refine TC_reg ?_
        refine TL_q rfl rfl (QT_field rfl rfl YtjehicncbpljaaaDoorF.fld_67_0 rfl) ?_
        refine TL_e0 rfl rfl (rfl) (ET_store (vs := [.int .u8 0]) 1 rfl rfl rfl rfl YtjehicncbpljaaaDoorF.sz_5 rfl rfl (Nat.ble_eq_true_of_le (by show 1 ≤ ((rvV (cutF L r 1 7)).set 0 _).length; rw [List.length_set, rvV_len (cutF_len _ _ _ _)]; omega))) ?_
        rintro _ _ ⟨rfl, rfl⟩
        refine TL_nil ?_
        exact TX_cut () ⟨rfl, rfl, trivial⟩ (fun w h => by
          have hz : wdR L 0 = 0 := by show flN L = 0; unfold flN flb; rw [if_pos h59]; rfl
          unfold cutR
          rw [← s0, hz, Nat.pow_zero, Nat.mod_one]
          have h' : St w0 ((b4, 67, rvV (List.replicate 7 0)) :: (b3, 67, ((rvV (cutF L r 1 7)).set 0 (.int .u8 Z)).set 0 (.int .u8 0)) :: (b2, 27, L.cells) :: η) w := h
          rw [List.set_set] at h'
          exact h')
      ·
        refine TC_skip ?_
        have hz : wdR L 0 = L.fl.toNat := by show flN L = _; unfold flN flb; rw [if_neg h59]
        have h8 : L.fl.toNat ≤ 8 := by have := hbd.2.2.2.2.2 h59; omega
        have hfe : L.fl = ((L.fl.toNat : Nat) : Int) := by omega
        have em := mask_u8R ⟨L.fl.toNat, by omega⟩
        dsimp only at em
        rw [← hfe] at em
        have ec := cut_u8R l0 h8
        rw [← em, hZ] at ec
        exact TX_cut () ⟨rfl, rfl, trivial⟩ (fun w h => by
          unfold cutR
          rw [← s0, hz, ← ec]
          exact h)
    rintro ⟨⟩
    refine TC_seq ?_
    refine TC_reg ?_
    refine TL_q rfl rfl (QT_loadW (cs := rvV (cutR L r)) 1 rfl rfl Tryd.underlying67 rfl rfl rfl hrz) ?_
    refine TL_e0 rfl rfl (rfl) (ET_storeW (vs := rvV (cutR L r)) 0 rfl rfl rfl hrz rfl (List.all_eq_true.2 hri.oneCell) (by rw [hrl]; rfl)) ?_
    rintro _ _ ⟨rfl, rfl⟩
    refine TL_nil ?_
    refine TX_then ?_
    refine TC_ret ?_
    exact TX_ret (.inl rfl) (resC 0 rfl rfl Tryd.underlying67 rfl rfl hrz) ⟨_, ⟨rfl, rfl⟩, (fun _ h => by first | exact h | exact h.tail | exact h.tail.tail | exact h.tail.tail.tail | exact h.tail.tail.tail.tail | exact h.tail.tail.tail.tail.tail | exact h.tail.tail.tail.tail.tail.tail | exact h.tail.tail.tail.tail.tail.tail.tail | exact h.tail.tail.tail.tail.tail.tail.tail.tail | exact h.tail.tail.tail.tail.tail.tail.tail.tail.tail | exact h.tail.tail.tail.tail.tail.tail.tail.tail.tail.tail | exact h.tail.tail.tail.tail.tail.tail.tail.tail.tail.tail.tail | exact h.tail.tail.tail.tail.tail.tail.tail.tail.tail.tail.tail.tail | exact h.tail.tail.tail.tail.tail.tail.tail.tail.tail.tail.tail.tail.tail)⟩
end Go.Proofs.YtjehicncbpljaaaDoor

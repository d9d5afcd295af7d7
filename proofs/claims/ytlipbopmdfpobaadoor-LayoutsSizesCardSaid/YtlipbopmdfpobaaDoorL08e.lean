/- THE LAWS OF THE LAYER OF LAYOUTS, walked: LayoutsFields, LayoutsSizes, LayoutsMore. -/
import Derived.Test.YtlipbopmdfpobaaDoorL08c
namespace Go.Proofs.YtlipbopmdfpobaaDoor
open Go Go.Gx Go.RowKit
set_option maxRecDepth 100000

def rMix (r : Nat → Int) : Nat → Int := fun i => match i with
  | 0 => 5
  | 1 => -5
  | 10 => 5
  | 11 => -5
  | i => r i

theorem ok_of_err {L : Lay} (h : ¬errOf L ≠ 0) : okB L = true := by
  by_cases h' : okB L = true
  · exact h'
  · exact absurd (by unfold errOf; rw [if_neg h']; decide) h
theorem size_bounds {L : Lay} (h : okB L = true) (f : Int) (h0 : 0 ≤ f) : 1 ≤ sizeZ L f ∧ sizeZ L f ≤ 161 := by
  obtain ⟨⟨c1, c2⟩, ⟨m1, m2⟩, ⟨s1, s2⟩, hty, hro, hfl⟩ := okB_bounds h
  have hp := mul_bd s1 s2 m1 m2
  have e1 : 1 * L.cs * L.cm = L.cs * L.cm := by rw [Int.one_mul]
  have e2 : 2 * L.cs * L.cm = 2 * (L.cs * L.cm) := Int.mul_assoc ..
  have e4 : 4 * L.cs * L.cm = 4 * (L.cs * L.cm) := Int.mul_assoc ..
  unfold sizeZ bitsZ flb ptsZ colZ
  rw [if_pos h]
  repeat' split
  all_goals omega

theorem size_pos (L : Lay) (f : Int) (h : 0 < f) : sizeZ L f = sizeZ L 1 := by
  have h1 : f ≠ 0 := by omega
  unfold sizeZ bitsZ ptsZ colZ
  simp [h1]
theorem dec_err (L : Lay) : decide (errOf L = 0) = okB L := by
  unfold errOf
  cases okB L <;> rfl

theorem sizes_48 {L : Lay} (hok : okB L = true) (f : Int) (h0 : 0 ≤ f) : (decide (sizeZ L f < 1) || decide (161 < sizeZ L f) || decide (f = 0) && decide (sizeZ L f ≠ sizeZ L 0) || decide (0 < f) && decide (sizeZ L f ≠ sizeZ L 1)) = false := by
  have h1 := size_bounds hok f h0
  have h2 := size_pos L f
  rw [← Bool.not_eq_true]
  simp only [Bool.or_eq_true, Bool.and_eq_true, decide_eq_true_eq, not_or, not_and]
  exact ⟨⟨⟨by omega, by omega⟩, fun h => by simp [h]⟩, fun h => by simp [h2 h]⟩
theorem m08 : mayB 0 8 = true := by decide +kernel
theorem m18 : mayB 1 8 = true := by decide +kernel
theorem m28 : mayB 2 8 = true := by decide +kernel
theorem okB_r (L : Lay) (r : Nat → Int) : okB ⟨L.ty, L.co, L.cm, L.fl, L.cs, L.ro, r⟩ = okB L := rfl
theorem fields5 {L : Lay} (h : L.ty = 5) : okB L = (okB ⟨L.ty, 8, 8, 8, 1, 2, z32⟩ && okB ⟨4, L.co, 8, 8, 1, 2, z32⟩ && okB ⟨4, 8, L.cm, 8, 1, 2, z32⟩ && okB ⟨4, 8, 8, 8, L.cs, 2, z32⟩ && okB ⟨5, 8, 8, 0, 1, L.ro, z32⟩) := by
  simp [okB, base, h, m08, m18, m28, Bool.and_assoc]
theorem fields4 {L : Lay} (h : ¬L.ty = 5) : okB L = (okB ⟨L.ty, 8, 8, 8, 1, 2, z32⟩ && okB ⟨4, L.co, 8, 8, 1, 2, z32⟩ && okB ⟨4, 8, L.cm, 8, 1, 2, z32⟩ && okB ⟨4, 8, 8, 8, L.cs, 2, z32⟩ && okB ⟨4, 8, 8, L.fl, 1, 2, z32⟩) := by
  by_cases h7 : L.ty = 4 ∨ L.ty = 6 ∨ L.ty = 7 <;> simp [okB, base, h, h7, m08, m18, m28, Bool.and_assoc]
theorem size_bad {L : Lay} (h : okB L = false) (f : Int) : sizeZ L f = 0 := by simp [sizeZ, h]
theorem bad_of_err {L : Lay} (h : errOf L ≠ 0) : okB L = false := by
  by_cases h' : okB L = true
  · exact absurd (by unfold errOf; rw [if_pos h']) h
  · simpa using h'
theorem size_low {L : Lay} (hok : okB L = true) (h : L.ty < 6) (f : Int) : sizeZ L f = ((if L.ty = 4 then L.fl else 0) + (2 * L.co + L.cs * L.cm) + 7) / 8 := by
  obtain ⟨_, _, _, hty, _, _⟩ := okB_bounds hok
  have h6 : ¬L.ty = 6 := by omega
  have h7 : ¬L.ty = 7 := by omega
  have h45 : L.ty = 4 ∨ L.ty = 5 := by omega
  rcases h45 with h45 | h45 <;> simp [sizeZ, hok, bitsZ, flb, ptsZ, colZ, h45]
theorem size_high {L : Lay} (hok : okB L = true) (h : ¬L.ty < 6) (f : Int) : sizeZ L f = (L.fl + (2 * ((if L.ty = 7 then 12 else 8) + (if f = 0 then 4 else 0)) * L.co + (if f = 0 then 4 else 2) * (L.cs * L.cm)) + 7) / 8 := by
  obtain ⟨_, _, _, hty, _, _⟩ := okB_bounds hok
  have h67 : L.ty = 6 ∨ L.ty = 7 := by omega
  rcases h67 with h67 | h67 <;> by_cases hf : f = 0 <;> simp [sizeZ, hok, bitsZ, flb, ptsZ, colZ, h67, hf, Int.mul_assoc]
theorem okB_more {L : Lay} (hok : okB L = true) : okB ⟨L.ty, L.co, L.cm, L.fl, L.cs + 1, L.ro, L.r⟩ = decide (L.cs ≠ 4) := by
  obtain ⟨_, _, hs, hty, hro, hfl⟩ := okB_bounds hok
  have e : decide (L.cs + 1 ≤ 4) = decide (L.cs ≠ 4) := by simp only [decide_eq_decide]; omega
  have e1 : decide (1 ≤ L.cs + 1) = true := by simp; omega
  unfold okB base at hok ⊢
  dsimp only
  by_cases h5 : L.ty = 5
  · rw [if_pos h5] at hok ⊢
    simp only [Bool.and_eq_true] at hok
    rw [e, e1]; simp [hok]
  · rw [if_neg h5] at hok ⊢
    have h7 : L.ty = 4 ∨ L.ty = 6 ∨ L.ty = 7 := by omega
    rw [if_pos h7] at hok ⊢
    simp only [Bool.and_eq_true] at hok
    rw [e, e1]; simp [hok]
theorem okB_seven {L : Lay} (hok : okB L = true) (h : ¬L.ty ≠ 6) : okB ⟨7, L.co, L.cm, L.fl, L.cs, L.ro, L.r⟩ = true := by
  have h6 : L.ty = 6 := by omega
  simpa [okB, base, h6] using hok

theorem size_seven {L : Lay} (hok : okB L = true) (h : ¬L.ty ≠ 6) (f : Int) : sizeZ ⟨7, L.co, L.cm, L.fl, L.cs, L.ro, L.r⟩ f = sizeZ L f + L.co := by
  have h6 : L.ty = 6 := by omega
  rw [size_high hok (by omega), size_high (okB_seven hok h) (by dsimp only; omega)]
  dsimp only
  rw [h6, if_pos rfl, if_neg (by decide : ¬(6 : Int) = 7)]
  split <;> omega
theorem size_more {L : Lay} (hok : okB L = true) (h : ¬L.cs = 4) (f : Int) : let s := sizeZ ⟨L.ty, L.co, L.cm, L.fl, L.cs + 1, L.ro, L.r⟩ f
    sizeZ L f ≤ s ∧ (8 ≤ L.cm → sizeZ L f < s) := by
  dsimp only
  obtain ⟨⟨c1, c2⟩, ⟨m1, m2⟩, ⟨s1, s2⟩, hty, hro, hfl⟩ := okB_bounds hok
  have e : (L.cs + 1) * L.cm = L.cs * L.cm + L.cm := by rw [Int.add_mul, Int.one_mul]
  have hok' : okB ⟨L.ty, L.co, L.cm, L.fl, L.cs + 1, L.ro, L.r⟩ = true := by rw [okB_more hok]; simpa using h
  by_cases h6 : L.ty < 6
  · rw [size_low hok h6, size_low hok' (by exact h6)]
    dsimp only
    rw [e]
    split <;> exact ⟨by omega, by omega⟩
  · rw [size_high hok h6, size_high hok' (by exact h6)]
    dsimp only
    rw [e]
    generalize L.cs * L.cm = q
    generalize 2 * ((if L.ty = 7 then 12 else 8) + (if f = 0 then 4 else 0)) * L.co = p
    split <;> exact ⟨by omega, by omega⟩

theorem more_40 {L : Lay} (hok : okB L = true) (h : ¬L.cs = 4) (f : Int) : ¬(decide (sizeZ ⟨L.ty, L.co, L.cm, L.fl, L.cs + 1, L.ro, L.r⟩ f < sizeZ L f) || decide (8 ≤ L.cm) && decide (sizeZ ⟨L.ty, L.co, L.cm, L.fl, L.cs + 1, L.ro, L.r⟩ f = sizeZ L f)) = true := by
  have := size_more hok h f
  dsimp only at this
  simp only [Bool.or_eq_true, Bool.and_eq_true, decide_eq_true_eq, not_or, not_and]
  exact ⟨by omega, fun h => by have := this.2 h; omega⟩

theorem sizes_low {L : Lay} (hok : okB L = true) (h : L.ty < 6) (f : Int) {b : Int} (hb : (L.ty = 4 ∧ b = 2 * L.co + L.cs * L.cm + L.fl) ∨ (¬L.ty = 4 ∧ b = 2 * L.co + L.cs * L.cm)) :
    Value.bool ((decide (sizeZ L 0 = sizeZ L 1) && decide (b ≤ 8 * sizeZ L f) && decide (8 * sizeZ L f < b + 8)) && true) = Value.bool true := by
  congr 1
  have e0 := size_low hok h 0
  have e1 := size_low hok h 1
  have ef := size_low hok h f
  simp only [Bool.and_eq_true, decide_eq_true_eq, and_true]
  rcases hb with ⟨h4, rfl⟩ | ⟨h4, rfl⟩
  · rw [if_pos h4] at e0 e1 ef; omega
  · rw [if_neg h4] at e0 e1 ef; omega
theorem sizes_high {L : Lay} (hok : okB L = true) (h : ¬L.ty < 6) :
    Value.bool ((decide (sizeZ L 1 < sizeZ L 0) && decide (8 * L.co + 2 * L.cs * L.cm - 8 < 8 * (sizeZ L 0 - sizeZ L 1)) && decide (8 * (sizeZ L 0 - sizeZ L 1) < 8 * L.co + 2 * L.cs * L.cm + 8)) && true) = Value.bool true := by
  congr 1
  have e0 := size_high hok h 0
  have e1 := size_high hok h 1
  rw [if_pos rfl, if_pos rfl] at e0
  simp only [if_neg (by decide : ¬(1 : Int) = 0)] at e1
  obtain ⟨⟨c1, c2⟩, ⟨m1, m2⟩, ⟨s1, s2⟩, hty, hro, hfl⟩ := okB_bounds hok
  have hp := mul_bd s1 s2 m1 m2
  have e2 : 2 * L.cs * L.cm = 2 * (L.cs * L.cm) := Int.mul_assoc ..
  simp only [Bool.and_eq_true, decide_eq_true_eq, and_true]
  by_cases h7 : L.ty = 7
  · rw [if_pos h7] at e0 e1; omega
  · rw [if_neg h7] at e0 e1; omega

theorem lawFields (w0 : World) (η : Heap) (hG : Sets w0) (L : Lay) : CallsT Tryd.prog 4 [L.val] (St w0 η) fun v A' => v = .bool true ∧ A' = St w0 η := by
  refine CallsT.body Tryd.func4 rfl rfl ?_
  simp only [Tryd.ntmps4, slotsOf, Nat.reduceAdd]
  refine TC_seq ?_
  refine TC_reg ?_
  refine TL_e rfl rfl rfl (rfl) (ET_box rfl rfl) ?_
  rintro _ _ ⟨b1, rfl, rfl⟩
  refine TL_q rfl rfl (QT_assign rfl rfl rfl) ?_
  refine TL_nil ?_
  refine TX_then ?_
  refine TC_seq ?_
  refine TC_reg ?_
  first
    | refine TL_q rfl rfl (QT_loadW 0 rfl rfl Tryd.underlying27 rfl rfl rfl YtlipbopmdfpobaaDoorF.sz_27) ?_
    | refine TL_q rfl rfl (QT_loadW 1 rfl rfl Tryd.underlying27 rfl rfl rfl YtlipbopmdfpobaaDoorF.sz_27) ?_
    | refine TL_q rfl rfl (QT_loadW 2 rfl rfl Tryd.underlying27 rfl rfl rfl YtlipbopmdfpobaaDoorF.sz_27) ?_
    | refine TL_q rfl rfl (QT_loadW 3 rfl rfl Tryd.underlying27 rfl rfl rfl YtlipbopmdfpobaaDoorF.sz_27) ?_
    | refine TL_q rfl rfl (QT_loadW 4 rfl rfl Tryd.underlying27 rfl rfl rfl YtlipbopmdfpobaaDoorF.sz_27) ?_
    | refine TL_q rfl rfl (QT_loadW 5 rfl rfl Tryd.underlying27 rfl rfl rfl YtlipbopmdfpobaaDoorF.sz_27) ?_
    | refine TL_q rfl rfl (QT_loadW 6 rfl rfl Tryd.underlying27 rfl rfl rfl YtlipbopmdfpobaaDoorF.sz_27) ?_
    | refine TL_q rfl rfl (QT_loadW 7 rfl rfl Tryd.underlying27 rfl rfl rfl YtlipbopmdfpobaaDoorF.sz_27) ?_
    | refine TL_q rfl rfl (QT_loadA 0 rfl rfl Tryd.underlying27 rfl rfl rfl YtlipbopmdfpobaaDoorF.sz_27 (fun _ => rfl)) ?_
    | refine TL_q rfl rfl (QT_loadA 1 rfl rfl Tryd.underlying27 rfl rfl rfl YtlipbopmdfpobaaDoorF.sz_27 (fun _ => rfl)) ?_
    | refine TL_q rfl rfl (QT_loadA 2 rfl rfl Tryd.underlying27 rfl rfl rfl YtlipbopmdfpobaaDoorF.sz_27 (fun _ => rfl)) ?_
    | refine TL_q rfl rfl (QT_loadA 3 rfl rfl Tryd.underlying27 rfl rfl rfl YtlipbopmdfpobaaDoorF.sz_27 (fun _ => rfl)) ?_
    | refine TL_q rfl rfl (QT_loadA 4 rfl rfl Tryd.underlying27 rfl rfl rfl YtlipbopmdfpobaaDoorF.sz_27 (fun _ => rfl)) ?_
    | refine TL_q rfl rfl (QT_loadA 5 rfl rfl Tryd.underlying27 rfl rfl rfl YtlipbopmdfpobaaDoorF.sz_27 (fun _ => rfl)) ?_
    | refine TL_q rfl rfl (QT_loadA 6 rfl rfl Tryd.underlying27 rfl rfl rfl YtlipbopmdfpobaaDoorF.sz_27 (fun _ => rfl)) ?_
    | refine TL_q rfl rfl (QT_loadA 7 rfl rfl Tryd.underlying27 rfl rfl rfl YtlipbopmdfpobaaDoorF.sz_27 (fun _ => rfl)) ?_
  refine TL_cq rfl rfl rfl rfl YtlipbopmdfpobaaDoorF.cal_7 rfl (fun _ => check_spec w0 _ hG L) ?_
  refine TL_q rfl rfl (QT_eql rfl rfl rfl rfl) ?_
  refine TL_q rfl rfl (QT_assign rfl rfl rfl) ?_
  refine TL_nil ?_
  refine TX_then ?_
  refine TC_seq ?_
  refine TC_reg ?_
  refine TL_q rfl rfl (QT_field rfl rfl YtlipbopmdfpobaaDoorF.fld_27_1 rfl) ?_
  first
    | refine TL_q rfl rfl (QT_load 0 rfl rfl Tryd.underlying3 rfl rfl rfl (fun _ => rfl)) ?_
    | refine TL_q rfl rfl (QT_load 1 rfl rfl Tryd.underlying3 rfl rfl rfl (fun _ => rfl)) ?_
    | refine TL_q rfl rfl (QT_load 2 rfl rfl Tryd.underlying3 rfl rfl rfl (fun _ => rfl)) ?_
    | refine TL_q rfl rfl (QT_load 3 rfl rfl Tryd.underlying3 rfl rfl rfl (fun _ => rfl)) ?_
    | refine TL_q rfl rfl (QT_load 4 rfl rfl Tryd.underlying3 rfl rfl rfl (fun _ => rfl)) ?_
    | refine TL_q rfl rfl (QT_load 5 rfl rfl Tryd.underlying3 rfl rfl rfl (fun _ => rfl)) ?_
    | refine TL_q rfl rfl (QT_load 6 rfl rfl Tryd.underlying3 rfl rfl rfl (fun _ => rfl)) ?_
    | refine TL_q rfl rfl (QT_load 7 rfl rfl Tryd.underlying3 rfl rfl rfl (fun _ => rfl)) ?_
  refine TL_cq rfl rfl rfl rfl YtlipbopmdfpobaaDoorF.cal_12 rfl (fun _ => plain_spec w0 _ 4 L.co 8 8) ?_
  refine TL_e rfl rfl rfl (rfl) (ET_alloc rfl YtlipbopmdfpobaaDoorF.zero_27) ?_
  rintro _ _ ⟨b4, rfl, rfl⟩
  first
    | refine TL_e0 rfl rfl (rfl) (ET_storeW 0 rfl rfl rfl YtlipbopmdfpobaaDoorF.sz_27 rfl rfl rfl) ?_
    | refine TL_e0 rfl rfl (rfl) (ET_storeW 1 rfl rfl rfl YtlipbopmdfpobaaDoorF.sz_27 rfl rfl rfl) ?_
    | refine TL_e0 rfl rfl (rfl) (ET_storeW 2 rfl rfl rfl YtlipbopmdfpobaaDoorF.sz_27 rfl rfl rfl) ?_
    | refine TL_e0 rfl rfl (rfl) (ET_storeW 3 rfl rfl rfl YtlipbopmdfpobaaDoorF.sz_27 rfl rfl rfl) ?_
    | refine TL_e0 rfl rfl (rfl) (ET_storeW 4 rfl rfl rfl YtlipbopmdfpobaaDoorF.sz_27 rfl rfl rfl) ?_
    | refine TL_e0 rfl rfl (rfl) (ET_storeW 5 rfl rfl rfl YtlipbopmdfpobaaDoorF.sz_27 rfl rfl rfl) ?_
    | refine TL_e0 rfl rfl (rfl) (ET_storeW 6 rfl rfl rfl YtlipbopmdfpobaaDoorF.sz_27 rfl rfl rfl) ?_
    | refine TL_e0 rfl rfl (rfl) (ET_storeW 7 rfl rfl rfl YtlipbopmdfpobaaDoorF.sz_27 rfl rfl rfl) ?_
    | refine TL_e0 rfl rfl (rfl) (ET_store 0 rfl rfl rfl rfl YtlipbopmdfpobaaDoorF.sz_27 rfl rfl rfl) ?_
    | refine TL_e0 rfl rfl (rfl) (ET_store 1 rfl rfl rfl rfl YtlipbopmdfpobaaDoorF.sz_27 rfl rfl rfl) ?_
    | refine TL_e0 rfl rfl (rfl) (ET_store 2 rfl rfl rfl rfl YtlipbopmdfpobaaDoorF.sz_27 rfl rfl rfl) ?_
    | refine TL_e0 rfl rfl (rfl) (ET_store 3 rfl rfl rfl rfl YtlipbopmdfpobaaDoorF.sz_27 rfl rfl rfl) ?_
    | refine TL_e0 rfl rfl (rfl) (ET_store 4 rfl rfl rfl rfl YtlipbopmdfpobaaDoorF.sz_27 rfl rfl rfl) ?_
    | refine TL_e0 rfl rfl (rfl) (ET_store 5 rfl rfl rfl rfl YtlipbopmdfpobaaDoorF.sz_27 rfl rfl rfl) ?_
    | refine TL_e0 rfl rfl (rfl) (ET_store 6 rfl rfl rfl rfl YtlipbopmdfpobaaDoorF.sz_27 rfl rfl rfl) ?_
    | refine TL_e0 rfl rfl (rfl) (ET_store 7 rfl rfl rfl rfl YtlipbopmdfpobaaDoorF.sz_27 rfl rfl rfl) ?_
  rintro _ _ ⟨rfl, rfl⟩
  refine TL_nil ?_
  refine TX_then ?_
  refine TC_seq ?_
  refine TC_reg ?_
  refine TL_q rfl rfl (QT_field rfl rfl YtlipbopmdfpobaaDoorF.fld_27_2 rfl) ?_
  first
    | refine TL_q rfl rfl (QT_load 0 rfl rfl Tryd.underlying3 rfl rfl rfl (fun _ => rfl)) ?_
    | refine TL_q rfl rfl (QT_load 1 rfl rfl Tryd.underlying3 rfl rfl rfl (fun _ => rfl)) ?_
    | refine TL_q rfl rfl (QT_load 2 rfl rfl Tryd.underlying3 rfl rfl rfl (fun _ => rfl)) ?_
    | refine TL_q rfl rfl (QT_load 3 rfl rfl Tryd.underlying3 rfl rfl rfl (fun _ => rfl)) ?_
    | refine TL_q rfl rfl (QT_load 4 rfl rfl Tryd.underlying3 rfl rfl rfl (fun _ => rfl)) ?_
    | refine TL_q rfl rfl (QT_load 5 rfl rfl Tryd.underlying3 rfl rfl rfl (fun _ => rfl)) ?_
    | refine TL_q rfl rfl (QT_load 6 rfl rfl Tryd.underlying3 rfl rfl rfl (fun _ => rfl)) ?_
    | refine TL_q rfl rfl (QT_load 7 rfl rfl Tryd.underlying3 rfl rfl rfl (fun _ => rfl)) ?_
  refine TL_cq rfl rfl rfl rfl YtlipbopmdfpobaaDoorF.cal_12 rfl (fun _ => plain_spec w0 _ 4 8 L.cm 8) ?_
  refine TL_e rfl rfl rfl (rfl) (ET_alloc rfl YtlipbopmdfpobaaDoorF.zero_27) ?_
  rintro _ _ ⟨b5, rfl, rfl⟩
  first
    | refine TL_e0 rfl rfl (rfl) (ET_storeW 0 rfl rfl rfl YtlipbopmdfpobaaDoorF.sz_27 rfl rfl rfl) ?_
    | refine TL_e0 rfl rfl (rfl) (ET_storeW 1 rfl rfl rfl YtlipbopmdfpobaaDoorF.sz_27 rfl rfl rfl) ?_
    | refine TL_e0 rfl rfl (rfl) (ET_storeW 2 rfl rfl rfl YtlipbopmdfpobaaDoorF.sz_27 rfl rfl rfl) ?_
    | refine TL_e0 rfl rfl (rfl) (ET_storeW 3 rfl rfl rfl YtlipbopmdfpobaaDoorF.sz_27 rfl rfl rfl) ?_
    | refine TL_e0 rfl rfl (rfl) (ET_storeW 4 rfl rfl rfl YtlipbopmdfpobaaDoorF.sz_27 rfl rfl rfl) ?_
    | refine TL_e0 rfl rfl (rfl) (ET_storeW 5 rfl rfl rfl YtlipbopmdfpobaaDoorF.sz_27 rfl rfl rfl) ?_
    | refine TL_e0 rfl rfl (rfl) (ET_storeW 6 rfl rfl rfl YtlipbopmdfpobaaDoorF.sz_27 rfl rfl rfl) ?_
    | refine TL_e0 rfl rfl (rfl) (ET_storeW 7 rfl rfl rfl YtlipbopmdfpobaaDoorF.sz_27 rfl rfl rfl) ?_
    | refine TL_e0 rfl rfl (rfl) (ET_store 0 rfl rfl rfl rfl YtlipbopmdfpobaaDoorF.sz_27 rfl rfl rfl) ?_
    | refine TL_e0 rfl rfl (rfl) (ET_store 1 rfl rfl rfl rfl YtlipbopmdfpobaaDoorF.sz_27 rfl rfl rfl) ?_
    | refine TL_e0 rfl rfl (rfl) (ET_store 2 rfl rfl rfl rfl YtlipbopmdfpobaaDoorF.sz_27 rfl rfl rfl) ?_
    | refine TL_e0 rfl rfl (rfl) (ET_store 3 rfl rfl rfl rfl YtlipbopmdfpobaaDoorF.sz_27 rfl rfl rfl) ?_
    | refine TL_e0 rfl rfl (rfl) (ET_store 4 rfl rfl rfl rfl YtlipbopmdfpobaaDoorF.sz_27 rfl rfl rfl) ?_
    | refine TL_e0 rfl rfl (rfl) (ET_store 5 rfl rfl rfl rfl YtlipbopmdfpobaaDoorF.sz_27 rfl rfl rfl) ?_
    | refine TL_e0 rfl rfl (rfl) (ET_store 6 rfl rfl rfl rfl YtlipbopmdfpobaaDoorF.sz_27 rfl rfl rfl) ?_
    | refine TL_e0 rfl rfl (rfl) (ET_store 7 rfl rfl rfl rfl YtlipbopmdfpobaaDoorF.sz_27 rfl rfl rfl) ?_
  rintro _ _ ⟨rfl, rfl⟩
  refine TL_nil ?_
  refine TX_then ?_
  refine TC_seq ?_
  refine TC_reg ?_
  refine TL_q rfl rfl (QT_field rfl rfl YtlipbopmdfpobaaDoorF.fld_27_3 rfl) ?_
  first
    | refine TL_q rfl rfl (QT_load 0 rfl rfl Tryd.underlying3 rfl rfl rfl (fun _ => rfl)) ?_
    | refine TL_q rfl rfl (QT_load 1 rfl rfl Tryd.underlying3 rfl rfl rfl (fun _ => rfl)) ?_
    | refine TL_q rfl rfl (QT_load 2 rfl rfl Tryd.underlying3 rfl rfl rfl (fun _ => rfl)) ?_
    | refine TL_q rfl rfl (QT_load 3 rfl rfl Tryd.underlying3 rfl rfl rfl (fun _ => rfl)) ?_
    | refine TL_q rfl rfl (QT_load 4 rfl rfl Tryd.underlying3 rfl rfl rfl (fun _ => rfl)) ?_
    | refine TL_q rfl rfl (QT_load 5 rfl rfl Tryd.underlying3 rfl rfl rfl (fun _ => rfl)) ?_
    | refine TL_q rfl rfl (QT_load 6 rfl rfl Tryd.underlying3 rfl rfl rfl (fun _ => rfl)) ?_
    | refine TL_q rfl rfl (QT_load 7 rfl rfl Tryd.underlying3 rfl rfl rfl (fun _ => rfl)) ?_
  refine TL_cq rfl rfl rfl rfl YtlipbopmdfpobaaDoorF.cal_12 rfl (fun _ => plain_spec w0 _ 4 8 8 L.fl) ?_
  refine TL_e rfl rfl rfl (rfl) (ET_alloc rfl YtlipbopmdfpobaaDoorF.zero_27) ?_
  rintro _ _ ⟨b6, rfl, rfl⟩
  first
    | refine TL_e0 rfl rfl (rfl) (ET_storeW 0 rfl rfl rfl YtlipbopmdfpobaaDoorF.sz_27 rfl rfl rfl) ?_
    | refine TL_e0 rfl rfl (rfl) (ET_storeW 1 rfl rfl rfl YtlipbopmdfpobaaDoorF.sz_27 rfl rfl rfl) ?_
    | refine TL_e0 rfl rfl (rfl) (ET_storeW 2 rfl rfl rfl YtlipbopmdfpobaaDoorF.sz_27 rfl rfl rfl) ?_
    | refine TL_e0 rfl rfl (rfl) (ET_storeW 3 rfl rfl rfl YtlipbopmdfpobaaDoorF.sz_27 rfl rfl rfl) ?_
    | refine TL_e0 rfl rfl (rfl) (ET_storeW 4 rfl rfl rfl YtlipbopmdfpobaaDoorF.sz_27 rfl rfl rfl) ?_
    | refine TL_e0 rfl rfl (rfl) (ET_storeW 5 rfl rfl rfl YtlipbopmdfpobaaDoorF.sz_27 rfl rfl rfl) ?_
    | refine TL_e0 rfl rfl (rfl) (ET_storeW 6 rfl rfl rfl YtlipbopmdfpobaaDoorF.sz_27 rfl rfl rfl) ?_
    | refine TL_e0 rfl rfl (rfl) (ET_storeW 7 rfl rfl rfl YtlipbopmdfpobaaDoorF.sz_27 rfl rfl rfl) ?_
    | refine TL_e0 rfl rfl (rfl) (ET_store 0 rfl rfl rfl rfl YtlipbopmdfpobaaDoorF.sz_27 rfl rfl rfl) ?_
    | refine TL_e0 rfl rfl (rfl) (ET_store 1 rfl rfl rfl rfl YtlipbopmdfpobaaDoorF.sz_27 rfl rfl rfl) ?_
    | refine TL_e0 rfl rfl (rfl) (ET_store 2 rfl rfl rfl rfl YtlipbopmdfpobaaDoorF.sz_27 rfl rfl rfl) ?_
    | refine TL_e0 rfl rfl (rfl) (ET_store 3 rfl rfl rfl rfl YtlipbopmdfpobaaDoorF.sz_27 rfl rfl rfl) ?_
    | refine TL_e0 rfl rfl (rfl) (ET_store 4 rfl rfl rfl rfl YtlipbopmdfpobaaDoorF.sz_27 rfl rfl rfl) ?_
    | refine TL_e0 rfl rfl (rfl) (ET_store 5 rfl rfl rfl rfl YtlipbopmdfpobaaDoorF.sz_27 rfl rfl rfl) ?_
    | refine TL_e0 rfl rfl (rfl) (ET_store 6 rfl rfl rfl rfl YtlipbopmdfpobaaDoorF.sz_27 rfl rfl rfl) ?_
    | refine TL_e0 rfl rfl (rfl) (ET_store 7 rfl rfl rfl rfl YtlipbopmdfpobaaDoorF.sz_27 rfl rfl rfl) ?_
  rintro _ _ ⟨rfl, rfl⟩
  refine TL_nil ?_
  refine TX_then ?_
  refine TC_seq ?_
  refine TC_reg ?_
  refine TL_cq rfl rfl rfl rfl YtlipbopmdfpobaaDoorF.cal_12 rfl (fun _ => plain_spec w0 _ 4 8 8 8) ?_
  refine TL_e rfl rfl rfl (rfl) (ET_alloc rfl YtlipbopmdfpobaaDoorF.zero_27) ?_
  rintro _ _ ⟨b7, rfl, rfl⟩
  first
    | refine TL_e0 rfl rfl (rfl) (ET_storeW 0 rfl rfl rfl YtlipbopmdfpobaaDoorF.sz_27 rfl rfl rfl) ?_
    | refine TL_e0 rfl rfl (rfl) (ET_storeW 1 rfl rfl rfl YtlipbopmdfpobaaDoorF.sz_27 rfl rfl rfl) ?_
    | refine TL_e0 rfl rfl (rfl) (ET_storeW 2 rfl rfl rfl YtlipbopmdfpobaaDoorF.sz_27 rfl rfl rfl) ?_
    | refine TL_e0 rfl rfl (rfl) (ET_storeW 3 rfl rfl rfl YtlipbopmdfpobaaDoorF.sz_27 rfl rfl rfl) ?_
    | refine TL_e0 rfl rfl (rfl) (ET_storeW 4 rfl rfl rfl YtlipbopmdfpobaaDoorF.sz_27 rfl rfl rfl) ?_
    | refine TL_e0 rfl rfl (rfl) (ET_storeW 5 rfl rfl rfl YtlipbopmdfpobaaDoorF.sz_27 rfl rfl rfl) ?_
    | refine TL_e0 rfl rfl (rfl) (ET_storeW 6 rfl rfl rfl YtlipbopmdfpobaaDoorF.sz_27 rfl rfl rfl) ?_
    | refine TL_e0 rfl rfl (rfl) (ET_storeW 7 rfl rfl rfl YtlipbopmdfpobaaDoorF.sz_27 rfl rfl rfl) ?_
    | refine TL_e0 rfl rfl (rfl) (ET_store 0 rfl rfl rfl rfl YtlipbopmdfpobaaDoorF.sz_27 rfl rfl rfl) ?_
    | refine TL_e0 rfl rfl (rfl) (ET_store 1 rfl rfl rfl rfl YtlipbopmdfpobaaDoorF.sz_27 rfl rfl rfl) ?_
    | refine TL_e0 rfl rfl (rfl) (ET_store 2 rfl rfl rfl rfl YtlipbopmdfpobaaDoorF.sz_27 rfl rfl rfl) ?_
    | refine TL_e0 rfl rfl (rfl) (ET_store 3 rfl rfl rfl rfl YtlipbopmdfpobaaDoorF.sz_27 rfl rfl rfl) ?_
    | refine TL_e0 rfl rfl (rfl) (ET_store 4 rfl rfl rfl rfl YtlipbopmdfpobaaDoorF.sz_27 rfl rfl rfl) ?_
    | refine TL_e0 rfl rfl (rfl) (ET_store 5 rfl rfl rfl rfl YtlipbopmdfpobaaDoorF.sz_27 rfl rfl rfl) ?_
    | refine TL_e0 rfl rfl (rfl) (ET_store 6 rfl rfl rfl rfl YtlipbopmdfpobaaDoorF.sz_27 rfl rfl rfl) ?_
    | refine TL_e0 rfl rfl (rfl) (ET_store 7 rfl rfl rfl rfl YtlipbopmdfpobaaDoorF.sz_27 rfl rfl rfl) ?_
  rintro _ _ ⟨rfl, rfl⟩
  refine TL_nil ?_
  refine TX_then ?_
  refine TC_seq ?_
  refine TC_reg ?_
  refine TL_q rfl rfl (QT_field rfl rfl YtlipbopmdfpobaaDoorF.fld_27_4 rfl) ?_
  first
    | refine TL_q rfl rfl (QT_load 0 rfl rfl Tryd.underlying3 rfl rfl rfl (fun _ => rfl)) ?_
    | refine TL_q rfl rfl (QT_load 1 rfl rfl Tryd.underlying3 rfl rfl rfl (fun _ => rfl)) ?_
    | refine TL_q rfl rfl (QT_load 2 rfl rfl Tryd.underlying3 rfl rfl rfl (fun _ => rfl)) ?_
    | refine TL_q rfl rfl (QT_load 3 rfl rfl Tryd.underlying3 rfl rfl rfl (fun _ => rfl)) ?_
    | refine TL_q rfl rfl (QT_load 4 rfl rfl Tryd.underlying3 rfl rfl rfl (fun _ => rfl)) ?_
    | refine TL_q rfl rfl (QT_load 5 rfl rfl Tryd.underlying3 rfl rfl rfl (fun _ => rfl)) ?_
    | refine TL_q rfl rfl (QT_load 6 rfl rfl Tryd.underlying3 rfl rfl rfl (fun _ => rfl)) ?_
    | refine TL_q rfl rfl (QT_load 7 rfl rfl Tryd.underlying3 rfl rfl rfl (fun _ => rfl)) ?_
  refine TL_q rfl rfl (QT_field rfl rfl YtlipbopmdfpobaaDoorF.fld_27_4 rfl) ?_
  first
    | refine TL_e0 rfl rfl (rfl) (ET_store 0 rfl rfl rfl rfl YtlipbopmdfpobaaDoorF.sz_3 rfl rfl rfl) ?_
    | refine TL_e0 rfl rfl (rfl) (ET_store 1 rfl rfl rfl rfl YtlipbopmdfpobaaDoorF.sz_3 rfl rfl rfl) ?_
    | refine TL_e0 rfl rfl (rfl) (ET_store 2 rfl rfl rfl rfl YtlipbopmdfpobaaDoorF.sz_3 rfl rfl rfl) ?_
    | refine TL_e0 rfl rfl (rfl) (ET_store 3 rfl rfl rfl rfl YtlipbopmdfpobaaDoorF.sz_3 rfl rfl rfl) ?_
    | refine TL_e0 rfl rfl (rfl) (ET_store 4 rfl rfl rfl rfl YtlipbopmdfpobaaDoorF.sz_3 rfl rfl rfl) ?_
    | refine TL_e0 rfl rfl (rfl) (ET_store 5 rfl rfl rfl rfl YtlipbopmdfpobaaDoorF.sz_3 rfl rfl rfl) ?_
    | refine TL_e0 rfl rfl (rfl) (ET_store 6 rfl rfl rfl rfl YtlipbopmdfpobaaDoorF.sz_3 rfl rfl rfl) ?_
    | refine TL_e0 rfl rfl (rfl) (ET_store 7 rfl rfl rfl rfl YtlipbopmdfpobaaDoorF.sz_3 rfl rfl rfl) ?_
  rintro _ _ ⟨rfl, rfl⟩
  refine TL_nil ?_
  refine TX_then ?_
  refine TC_seq ?_
  refine TC_reg ?_
  refine TL_cq rfl rfl rfl rfl YtlipbopmdfpobaaDoorF.cal_12 rfl (fun _ => plain_spec w0 _ 5 8 8 0) ?_
  refine TL_e rfl rfl rfl (rfl) (ET_alloc rfl YtlipbopmdfpobaaDoorF.zero_27) ?_
  rintro _ _ ⟨b8, rfl, rfl⟩
  first
    | refine TL_e0 rfl rfl (rfl) (ET_storeW 0 rfl rfl rfl YtlipbopmdfpobaaDoorF.sz_27 rfl rfl rfl) ?_
    | refine TL_e0 rfl rfl (rfl) (ET_storeW 1 rfl rfl rfl YtlipbopmdfpobaaDoorF.sz_27 rfl rfl rfl) ?_
    | refine TL_e0 rfl rfl (rfl) (ET_storeW 2 rfl rfl rfl YtlipbopmdfpobaaDoorF.sz_27 rfl rfl rfl) ?_
    | refine TL_e0 rfl rfl (rfl) (ET_storeW 3 rfl rfl rfl YtlipbopmdfpobaaDoorF.sz_27 rfl rfl rfl) ?_
    | refine TL_e0 rfl rfl (rfl) (ET_storeW 4 rfl rfl rfl YtlipbopmdfpobaaDoorF.sz_27 rfl rfl rfl) ?_
    | refine TL_e0 rfl rfl (rfl) (ET_storeW 5 rfl rfl rfl YtlipbopmdfpobaaDoorF.sz_27 rfl rfl rfl) ?_
    | refine TL_e0 rfl rfl (rfl) (ET_storeW 6 rfl rfl rfl YtlipbopmdfpobaaDoorF.sz_27 rfl rfl rfl) ?_
    | refine TL_e0 rfl rfl (rfl) (ET_storeW 7 rfl rfl rfl YtlipbopmdfpobaaDoorF.sz_27 rfl rfl rfl) ?_
    | refine TL_e0 rfl rfl (rfl) (ET_store 0 rfl rfl rfl rfl YtlipbopmdfpobaaDoorF.sz_27 rfl rfl rfl) ?_
    | refine TL_e0 rfl rfl (rfl) (ET_store 1 rfl rfl rfl rfl YtlipbopmdfpobaaDoorF.sz_27 rfl rfl rfl) ?_
    | refine TL_e0 rfl rfl (rfl) (ET_store 2 rfl rfl rfl rfl YtlipbopmdfpobaaDoorF.sz_27 rfl rfl rfl) ?_
    | refine TL_e0 rfl rfl (rfl) (ET_store 3 rfl rfl rfl rfl YtlipbopmdfpobaaDoorF.sz_27 rfl rfl rfl) ?_
    | refine TL_e0 rfl rfl (rfl) (ET_store 4 rfl rfl rfl rfl YtlipbopmdfpobaaDoorF.sz_27 rfl rfl rfl) ?_
    | refine TL_e0 rfl rfl (rfl) (ET_store 5 rfl rfl rfl rfl YtlipbopmdfpobaaDoorF.sz_27 rfl rfl rfl) ?_
    | refine TL_e0 rfl rfl (rfl) (ET_store 6 rfl rfl rfl rfl YtlipbopmdfpobaaDoorF.sz_27 rfl rfl rfl) ?_
    | refine TL_e0 rfl rfl (rfl) (ET_store 7 rfl rfl rfl rfl YtlipbopmdfpobaaDoorF.sz_27 rfl rfl rfl) ?_
  rintro _ _ ⟨rfl, rfl⟩
  refine TL_nil ?_
  refine TX_then ?_
  refine TC_seq ?_
  refine TC_reg ?_
  refine TL_q rfl rfl (QT_field rfl rfl YtlipbopmdfpobaaDoorF.fld_27_5 rfl) ?_
  first
    | refine TL_q rfl rfl (QT_load 0 rfl rfl Tryd.underlying3 rfl rfl rfl (fun _ => rfl)) ?_
    | refine TL_q rfl rfl (QT_load 1 rfl rfl Tryd.underlying3 rfl rfl rfl (fun _ => rfl)) ?_
    | refine TL_q rfl rfl (QT_load 2 rfl rfl Tryd.underlying3 rfl rfl rfl (fun _ => rfl)) ?_
    | refine TL_q rfl rfl (QT_load 3 rfl rfl Tryd.underlying3 rfl rfl rfl (fun _ => rfl)) ?_
    | refine TL_q rfl rfl (QT_load 4 rfl rfl Tryd.underlying3 rfl rfl rfl (fun _ => rfl)) ?_
    | refine TL_q rfl rfl (QT_load 5 rfl rfl Tryd.underlying3 rfl rfl rfl (fun _ => rfl)) ?_
    | refine TL_q rfl rfl (QT_load 6 rfl rfl Tryd.underlying3 rfl rfl rfl (fun _ => rfl)) ?_
    | refine TL_q rfl rfl (QT_load 7 rfl rfl Tryd.underlying3 rfl rfl rfl (fun _ => rfl)) ?_
  refine TL_q rfl rfl (QT_field rfl rfl YtlipbopmdfpobaaDoorF.fld_27_5 rfl) ?_
  first
    | refine TL_e0 rfl rfl (rfl) (ET_store 0 rfl rfl rfl rfl YtlipbopmdfpobaaDoorF.sz_3 rfl rfl rfl) ?_
    | refine TL_e0 rfl rfl (rfl) (ET_store 1 rfl rfl rfl rfl YtlipbopmdfpobaaDoorF.sz_3 rfl rfl rfl) ?_
    | refine TL_e0 rfl rfl (rfl) (ET_store 2 rfl rfl rfl rfl YtlipbopmdfpobaaDoorF.sz_3 rfl rfl rfl) ?_
    | refine TL_e0 rfl rfl (rfl) (ET_store 3 rfl rfl rfl rfl YtlipbopmdfpobaaDoorF.sz_3 rfl rfl rfl) ?_
    | refine TL_e0 rfl rfl (rfl) (ET_store 4 rfl rfl rfl rfl YtlipbopmdfpobaaDoorF.sz_3 rfl rfl rfl) ?_
    | refine TL_e0 rfl rfl (rfl) (ET_store 5 rfl rfl rfl rfl YtlipbopmdfpobaaDoorF.sz_3 rfl rfl rfl) ?_
    | refine TL_e0 rfl rfl (rfl) (ET_store 6 rfl rfl rfl rfl YtlipbopmdfpobaaDoorF.sz_3 rfl rfl rfl) ?_
    | refine TL_e0 rfl rfl (rfl) (ET_store 7 rfl rfl rfl rfl YtlipbopmdfpobaaDoorF.sz_3 rfl rfl rfl) ?_
  rintro _ _ ⟨rfl, rfl⟩
  refine TL_nil ?_
  refine TX_then ?_
  refine TC_seq ?_
  refine TC_reg ?_
  refine TL_q rfl rfl (QT_field rfl rfl YtlipbopmdfpobaaDoorF.fld_27_0 rfl) ?_
  first
    | refine TL_q rfl rfl (QT_load 0 rfl rfl Tryd.underlying3 rfl rfl rfl (fun _ => rfl)) ?_
    | refine TL_q rfl rfl (QT_load 1 rfl rfl Tryd.underlying3 rfl rfl rfl (fun _ => rfl)) ?_
    | refine TL_q rfl rfl (QT_load 2 rfl rfl Tryd.underlying3 rfl rfl rfl (fun _ => rfl)) ?_
    | refine TL_q rfl rfl (QT_load 3 rfl rfl Tryd.underlying3 rfl rfl rfl (fun _ => rfl)) ?_
    | refine TL_q rfl rfl (QT_load 4 rfl rfl Tryd.underlying3 rfl rfl rfl (fun _ => rfl)) ?_
    | refine TL_q rfl rfl (QT_load 5 rfl rfl Tryd.underlying3 rfl rfl rfl (fun _ => rfl)) ?_
    | refine TL_q rfl rfl (QT_load 6 rfl rfl Tryd.underlying3 rfl rfl rfl (fun _ => rfl)) ?_
    | refine TL_q rfl rfl (QT_load 7 rfl rfl Tryd.underlying3 rfl rfl rfl (fun _ => rfl)) ?_
  refine TL_cq rfl rfl rfl rfl YtlipbopmdfpobaaDoorF.cal_12 rfl (fun _ => plain_spec w0 _ L.ty 8 8 8) ?_
  refine TL_cq rfl rfl rfl rfl YtlipbopmdfpobaaDoorF.cal_7 rfl (fun _ => check_spec w0 _ hG ⟨L.ty, 8, 8, 8, 1, 2, z32⟩) ?_
  refine TL_q rfl rfl (QT_eql rfl rfl rfl rfl) ?_
  refine TL_q rfl rfl (QT_assign rfl rfl rfl) ?_
  refine TL_nil ?_
  refine TX_then ?_
  refine TC_seq ?_
  refine TC_reg ?_
  refine TL_q rfl rfl (QT_move rfl rfl rfl) ?_
  refine TL_q rfl rfl (QT_move rfl rfl rfl) ?_
  first
    | refine TL_q rfl rfl (QT_loadW 0 rfl rfl Tryd.underlying27 rfl rfl rfl YtlipbopmdfpobaaDoorF.sz_27) ?_
    | refine TL_q rfl rfl (QT_loadW 1 rfl rfl Tryd.underlying27 rfl rfl rfl YtlipbopmdfpobaaDoorF.sz_27) ?_
    | refine TL_q rfl rfl (QT_loadW 2 rfl rfl Tryd.underlying27 rfl rfl rfl YtlipbopmdfpobaaDoorF.sz_27) ?_
    | refine TL_q rfl rfl (QT_loadW 3 rfl rfl Tryd.underlying27 rfl rfl rfl YtlipbopmdfpobaaDoorF.sz_27) ?_
    | refine TL_q rfl rfl (QT_loadW 4 rfl rfl Tryd.underlying27 rfl rfl rfl YtlipbopmdfpobaaDoorF.sz_27) ?_
    | refine TL_q rfl rfl (QT_loadW 5 rfl rfl Tryd.underlying27 rfl rfl rfl YtlipbopmdfpobaaDoorF.sz_27) ?_
    | refine TL_q rfl rfl (QT_loadW 6 rfl rfl Tryd.underlying27 rfl rfl rfl YtlipbopmdfpobaaDoorF.sz_27) ?_
    | refine TL_q rfl rfl (QT_loadW 7 rfl rfl Tryd.underlying27 rfl rfl rfl YtlipbopmdfpobaaDoorF.sz_27) ?_
    | refine TL_q rfl rfl (QT_loadA 0 rfl rfl Tryd.underlying27 rfl rfl rfl YtlipbopmdfpobaaDoorF.sz_27 (fun _ => rfl)) ?_
    | refine TL_q rfl rfl (QT_loadA 1 rfl rfl Tryd.underlying27 rfl rfl rfl YtlipbopmdfpobaaDoorF.sz_27 (fun _ => rfl)) ?_
    | refine TL_q rfl rfl (QT_loadA 2 rfl rfl Tryd.underlying27 rfl rfl rfl YtlipbopmdfpobaaDoorF.sz_27 (fun _ => rfl)) ?_
    | refine TL_q rfl rfl (QT_loadA 3 rfl rfl Tryd.underlying27 rfl rfl rfl YtlipbopmdfpobaaDoorF.sz_27 (fun _ => rfl)) ?_
    | refine TL_q rfl rfl (QT_loadA 4 rfl rfl Tryd.underlying27 rfl rfl rfl YtlipbopmdfpobaaDoorF.sz_27 (fun _ => rfl)) ?_
    | refine TL_q rfl rfl (QT_loadA 5 rfl rfl Tryd.underlying27 rfl rfl rfl YtlipbopmdfpobaaDoorF.sz_27 (fun _ => rfl)) ?_
    | refine TL_q rfl rfl (QT_loadA 6 rfl rfl Tryd.underlying27 rfl rfl rfl YtlipbopmdfpobaaDoorF.sz_27 (fun _ => rfl)) ?_
    | refine TL_q rfl rfl (QT_loadA 7 rfl rfl Tryd.underlying27 rfl rfl rfl YtlipbopmdfpobaaDoorF.sz_27 (fun _ => rfl)) ?_
  refine TL_cq rfl rfl rfl rfl YtlipbopmdfpobaaDoorF.cal_7 rfl (fun _ => check_spec w0 _ hG ⟨4, L.co, 8, 8, 1, 2, z32⟩) ?_
  refine TL_q rfl rfl (QT_eql rfl rfl rfl rfl) ?_
  refine TL_q rfl rfl (QT_and rfl rfl rfl rfl) ?_
  refine TL_q rfl rfl (QT_move rfl rfl rfl) ?_
  first
    | refine TL_q rfl rfl (QT_loadW 0 rfl rfl Tryd.underlying27 rfl rfl rfl YtlipbopmdfpobaaDoorF.sz_27) ?_
    | refine TL_q rfl rfl (QT_loadW 1 rfl rfl Tryd.underlying27 rfl rfl rfl YtlipbopmdfpobaaDoorF.sz_27) ?_
    | refine TL_q rfl rfl (QT_loadW 2 rfl rfl Tryd.underlying27 rfl rfl rfl YtlipbopmdfpobaaDoorF.sz_27) ?_
    | refine TL_q rfl rfl (QT_loadW 3 rfl rfl Tryd.underlying27 rfl rfl rfl YtlipbopmdfpobaaDoorF.sz_27) ?_
    | refine TL_q rfl rfl (QT_loadW 4 rfl rfl Tryd.underlying27 rfl rfl rfl YtlipbopmdfpobaaDoorF.sz_27) ?_
    | refine TL_q rfl rfl (QT_loadW 5 rfl rfl Tryd.underlying27 rfl rfl rfl YtlipbopmdfpobaaDoorF.sz_27) ?_
    | refine TL_q rfl rfl (QT_loadW 6 rfl rfl Tryd.underlying27 rfl rfl rfl YtlipbopmdfpobaaDoorF.sz_27) ?_
    | refine TL_q rfl rfl (QT_loadW 7 rfl rfl Tryd.underlying27 rfl rfl rfl YtlipbopmdfpobaaDoorF.sz_27) ?_
    | refine TL_q rfl rfl (QT_loadA 0 rfl rfl Tryd.underlying27 rfl rfl rfl YtlipbopmdfpobaaDoorF.sz_27 (fun _ => rfl)) ?_
    | refine TL_q rfl rfl (QT_loadA 1 rfl rfl Tryd.underlying27 rfl rfl rfl YtlipbopmdfpobaaDoorF.sz_27 (fun _ => rfl)) ?_
    | refine TL_q rfl rfl (QT_loadA 2 rfl rfl Tryd.underlying27 rfl rfl rfl YtlipbopmdfpobaaDoorF.sz_27 (fun _ => rfl)) ?_
    | refine TL_q rfl rfl (QT_loadA 3 rfl rfl Tryd.underlying27 rfl rfl rfl YtlipbopmdfpobaaDoorF.sz_27 (fun _ => rfl)) ?_
    | refine TL_q rfl rfl (QT_loadA 4 rfl rfl Tryd.underlying27 rfl rfl rfl YtlipbopmdfpobaaDoorF.sz_27 (fun _ => rfl)) ?_
    | refine TL_q rfl rfl (QT_loadA 5 rfl rfl Tryd.underlying27 rfl rfl rfl YtlipbopmdfpobaaDoorF.sz_27 (fun _ => rfl)) ?_
    | refine TL_q rfl rfl (QT_loadA 6 rfl rfl Tryd.underlying27 rfl rfl rfl YtlipbopmdfpobaaDoorF.sz_27 (fun _ => rfl)) ?_
    | refine TL_q rfl rfl (QT_loadA 7 rfl rfl Tryd.underlying27 rfl rfl rfl YtlipbopmdfpobaaDoorF.sz_27 (fun _ => rfl)) ?_
  refine TL_cq rfl rfl rfl rfl YtlipbopmdfpobaaDoorF.cal_7 rfl (fun _ => check_spec w0 _ hG ⟨4, 8, L.cm, 8, 1, 2, z32⟩) ?_
  refine TL_q rfl rfl (QT_eql rfl rfl rfl rfl) ?_
  refine TL_q rfl rfl (QT_and rfl rfl rfl rfl) ?_
  refine TL_q rfl rfl (QT_move rfl rfl rfl) ?_
  first
    | refine TL_q rfl rfl (QT_loadW 0 rfl rfl Tryd.underlying27 rfl rfl rfl YtlipbopmdfpobaaDoorF.sz_27) ?_
    | refine TL_q rfl rfl (QT_loadW 1 rfl rfl Tryd.underlying27 rfl rfl rfl YtlipbopmdfpobaaDoorF.sz_27) ?_
    | refine TL_q rfl rfl (QT_loadW 2 rfl rfl Tryd.underlying27 rfl rfl rfl YtlipbopmdfpobaaDoorF.sz_27) ?_
    | refine TL_q rfl rfl (QT_loadW 3 rfl rfl Tryd.underlying27 rfl rfl rfl YtlipbopmdfpobaaDoorF.sz_27) ?_
    | refine TL_q rfl rfl (QT_loadW 4 rfl rfl Tryd.underlying27 rfl rfl rfl YtlipbopmdfpobaaDoorF.sz_27) ?_
    | refine TL_q rfl rfl (QT_loadW 5 rfl rfl Tryd.underlying27 rfl rfl rfl YtlipbopmdfpobaaDoorF.sz_27) ?_
    | refine TL_q rfl rfl (QT_loadW 6 rfl rfl Tryd.underlying27 rfl rfl rfl YtlipbopmdfpobaaDoorF.sz_27) ?_
    | refine TL_q rfl rfl (QT_loadW 7 rfl rfl Tryd.underlying27 rfl rfl rfl YtlipbopmdfpobaaDoorF.sz_27) ?_
    | refine TL_q rfl rfl (QT_loadA 0 rfl rfl Tryd.underlying27 rfl rfl rfl YtlipbopmdfpobaaDoorF.sz_27 (fun _ => rfl)) ?_
    | refine TL_q rfl rfl (QT_loadA 1 rfl rfl Tryd.underlying27 rfl rfl rfl YtlipbopmdfpobaaDoorF.sz_27 (fun _ => rfl)) ?_
    | refine TL_q rfl rfl (QT_loadA 2 rfl rfl Tryd.underlying27 rfl rfl rfl YtlipbopmdfpobaaDoorF.sz_27 (fun _ => rfl)) ?_
    | refine TL_q rfl rfl (QT_loadA 3 rfl rfl Tryd.underlying27 rfl rfl rfl YtlipbopmdfpobaaDoorF.sz_27 (fun _ => rfl)) ?_
    | refine TL_q rfl rfl (QT_loadA 4 rfl rfl Tryd.underlying27 rfl rfl rfl YtlipbopmdfpobaaDoorF.sz_27 (fun _ => rfl)) ?_
    | refine TL_q rfl rfl (QT_loadA 5 rfl rfl Tryd.underlying27 rfl rfl rfl YtlipbopmdfpobaaDoorF.sz_27 (fun _ => rfl)) ?_
    | refine TL_q rfl rfl (QT_loadA 6 rfl rfl Tryd.underlying27 rfl rfl rfl YtlipbopmdfpobaaDoorF.sz_27 (fun _ => rfl)) ?_
    | refine TL_q rfl rfl (QT_loadA 7 rfl rfl Tryd.underlying27 rfl rfl rfl YtlipbopmdfpobaaDoorF.sz_27 (fun _ => rfl)) ?_
  refine TL_cq rfl rfl rfl rfl YtlipbopmdfpobaaDoorF.cal_7 rfl (fun _ => check_spec w0 _ hG ⟨4, 8, 8, 8, L.cs, 2, z32⟩) ?_
  refine TL_q rfl rfl (QT_eql rfl rfl rfl rfl) ?_
  refine TL_q rfl rfl (QT_and rfl rfl rfl rfl) ?_
  refine TL_q rfl rfl (QT_assign rfl rfl rfl) ?_
  refine TL_nil ?_
  refine TX_then ?_
  refine TC_seq ?_
  refine TC_seq ?_
  refine TC_reg ?_
  refine TL_q rfl rfl (QT_field rfl rfl YtlipbopmdfpobaaDoorF.fld_27_0 rfl) ?_
  first
    | refine TL_q rfl rfl (QT_load 0 rfl rfl Tryd.underlying3 rfl rfl rfl (fun _ => rfl)) ?_
    | refine TL_q rfl rfl (QT_load 1 rfl rfl Tryd.underlying3 rfl rfl rfl (fun _ => rfl)) ?_
    | refine TL_q rfl rfl (QT_load 2 rfl rfl Tryd.underlying3 rfl rfl rfl (fun _ => rfl)) ?_
    | refine TL_q rfl rfl (QT_load 3 rfl rfl Tryd.underlying3 rfl rfl rfl (fun _ => rfl)) ?_
    | refine TL_q rfl rfl (QT_load 4 rfl rfl Tryd.underlying3 rfl rfl rfl (fun _ => rfl)) ?_
    | refine TL_q rfl rfl (QT_load 5 rfl rfl Tryd.underlying3 rfl rfl rfl (fun _ => rfl)) ?_
    | refine TL_q rfl rfl (QT_load 6 rfl rfl Tryd.underlying3 rfl rfl rfl (fun _ => rfl)) ?_
    | refine TL_q rfl rfl (QT_load 7 rfl rfl Tryd.underlying3 rfl rfl rfl (fun _ => rfl)) ?_
  refine TL_q rfl rfl (QT_eql rfl rfl rfl rfl) ?_
  refine TL_nil ?_
  refine TX_then ?_
  first
    | refine TC_cond_dec rfl (fun h55 => ?_) (fun h55 => ?_)
    | refine TC_cond rfl (fun h55 => ?_) (fun h55 => ?_)
  ·
    refine TC_reg ?_
    refine TL_q rfl rfl (QT_move rfl rfl rfl) ?_
    refine TL_q rfl rfl (QT_move rfl rfl rfl) ?_
    first
      | refine TL_q rfl rfl (QT_loadW 0 rfl rfl Tryd.underlying27 rfl rfl rfl YtlipbopmdfpobaaDoorF.sz_27) ?_
      | refine TL_q rfl rfl (QT_loadW 1 rfl rfl Tryd.underlying27 rfl rfl rfl YtlipbopmdfpobaaDoorF.sz_27) ?_
      | refine TL_q rfl rfl (QT_loadW 2 rfl rfl Tryd.underlying27 rfl rfl rfl YtlipbopmdfpobaaDoorF.sz_27) ?_
      | refine TL_q rfl rfl (QT_loadW 3 rfl rfl Tryd.underlying27 rfl rfl rfl YtlipbopmdfpobaaDoorF.sz_27) ?_
      | refine TL_q rfl rfl (QT_loadW 4 rfl rfl Tryd.underlying27 rfl rfl rfl YtlipbopmdfpobaaDoorF.sz_27) ?_
      | refine TL_q rfl rfl (QT_loadW 5 rfl rfl Tryd.underlying27 rfl rfl rfl YtlipbopmdfpobaaDoorF.sz_27) ?_
      | refine TL_q rfl rfl (QT_loadW 6 rfl rfl Tryd.underlying27 rfl rfl rfl YtlipbopmdfpobaaDoorF.sz_27) ?_
      | refine TL_q rfl rfl (QT_loadW 7 rfl rfl Tryd.underlying27 rfl rfl rfl YtlipbopmdfpobaaDoorF.sz_27) ?_
      | refine TL_q rfl rfl (QT_loadA 0 rfl rfl Tryd.underlying27 rfl rfl rfl YtlipbopmdfpobaaDoorF.sz_27 (fun _ => rfl)) ?_
      | refine TL_q rfl rfl (QT_loadA 1 rfl rfl Tryd.underlying27 rfl rfl rfl YtlipbopmdfpobaaDoorF.sz_27 (fun _ => rfl)) ?_
      | refine TL_q rfl rfl (QT_loadA 2 rfl rfl Tryd.underlying27 rfl rfl rfl YtlipbopmdfpobaaDoorF.sz_27 (fun _ => rfl)) ?_
      | refine TL_q rfl rfl (QT_loadA 3 rfl rfl Tryd.underlying27 rfl rfl rfl YtlipbopmdfpobaaDoorF.sz_27 (fun _ => rfl)) ?_
      | refine TL_q rfl rfl (QT_loadA 4 rfl rfl Tryd.underlying27 rfl rfl rfl YtlipbopmdfpobaaDoorF.sz_27 (fun _ => rfl)) ?_
      | refine TL_q rfl rfl (QT_loadA 5 rfl rfl Tryd.underlying27 rfl rfl rfl YtlipbopmdfpobaaDoorF.sz_27 (fun _ => rfl)) ?_
      | refine TL_q rfl rfl (QT_loadA 6 rfl rfl Tryd.underlying27 rfl rfl rfl YtlipbopmdfpobaaDoorF.sz_27 (fun _ => rfl)) ?_
      | refine TL_q rfl rfl (QT_loadA 7 rfl rfl Tryd.underlying27 rfl rfl rfl YtlipbopmdfpobaaDoorF.sz_27 (fun _ => rfl)) ?_
    refine TL_cq rfl rfl rfl rfl YtlipbopmdfpobaaDoorF.cal_7 rfl (fun _ => check_spec w0 _ hG ⟨5, 8, 8, 0, 1, L.ro, z32⟩) ?_
    refine TL_q rfl rfl (QT_eql rfl rfl rfl rfl) ?_
    refine TL_q rfl rfl (QT_and rfl rfl rfl rfl) ?_
    refine TL_q rfl rfl (QT_assign rfl rfl rfl) ?_
    refine TL_nil ?_
    refine TX_then ?_
    refine TC_seq ?_
    refine TC_reg ?_
    first
      | refine TL_q rfl rfl (QT_loadW 0 rfl rfl Tryd.underlying27 rfl rfl rfl YtlipbopmdfpobaaDoorF.sz_27) ?_
      | refine TL_q rfl rfl (QT_loadW 1 rfl rfl Tryd.underlying27 rfl rfl rfl YtlipbopmdfpobaaDoorF.sz_27) ?_
      | refine TL_q rfl rfl (QT_loadW 2 rfl rfl Tryd.underlying27 rfl rfl rfl YtlipbopmdfpobaaDoorF.sz_27) ?_
      | refine TL_q rfl rfl (QT_loadW 3 rfl rfl Tryd.underlying27 rfl rfl rfl YtlipbopmdfpobaaDoorF.sz_27) ?_
      | refine TL_q rfl rfl (QT_loadW 4 rfl rfl Tryd.underlying27 rfl rfl rfl YtlipbopmdfpobaaDoorF.sz_27) ?_
      | refine TL_q rfl rfl (QT_loadW 5 rfl rfl Tryd.underlying27 rfl rfl rfl YtlipbopmdfpobaaDoorF.sz_27) ?_
      | refine TL_q rfl rfl (QT_loadW 6 rfl rfl Tryd.underlying27 rfl rfl rfl YtlipbopmdfpobaaDoorF.sz_27) ?_
      | refine TL_q rfl rfl (QT_loadW 7 rfl rfl Tryd.underlying27 rfl rfl rfl YtlipbopmdfpobaaDoorF.sz_27) ?_
      | refine TL_q rfl rfl (QT_loadA 0 rfl rfl Tryd.underlying27 rfl rfl rfl YtlipbopmdfpobaaDoorF.sz_27 (fun _ => rfl)) ?_
      | refine TL_q rfl rfl (QT_loadA 1 rfl rfl Tryd.underlying27 rfl rfl rfl YtlipbopmdfpobaaDoorF.sz_27 (fun _ => rfl)) ?_
      | refine TL_q rfl rfl (QT_loadA 2 rfl rfl Tryd.underlying27 rfl rfl rfl YtlipbopmdfpobaaDoorF.sz_27 (fun _ => rfl)) ?_
      | refine TL_q rfl rfl (QT_loadA 3 rfl rfl Tryd.underlying27 rfl rfl rfl YtlipbopmdfpobaaDoorF.sz_27 (fun _ => rfl)) ?_
      | refine TL_q rfl rfl (QT_loadA 4 rfl rfl Tryd.underlying27 rfl rfl rfl YtlipbopmdfpobaaDoorF.sz_27 (fun _ => rfl)) ?_
      | refine TL_q rfl rfl (QT_loadA 5 rfl rfl Tryd.underlying27 rfl rfl rfl YtlipbopmdfpobaaDoorF.sz_27 (fun _ => rfl)) ?_
      | refine TL_q rfl rfl (QT_loadA 6 rfl rfl Tryd.underlying27 rfl rfl rfl YtlipbopmdfpobaaDoorF.sz_27 (fun _ => rfl)) ?_
      | refine TL_q rfl rfl (QT_loadA 7 rfl rfl Tryd.underlying27 rfl rfl rfl YtlipbopmdfpobaaDoorF.sz_27 (fun _ => rfl)) ?_
    refine TL_e rfl rfl rfl (rfl) (ET_alloc rfl YtlipbopmdfpobaaDoorF.zero_27) ?_
    rintro _ _ ⟨b11, rfl, rfl⟩
    first
      | refine TL_e0 rfl rfl (rfl) (ET_storeW 0 rfl rfl rfl YtlipbopmdfpobaaDoorF.sz_27 rfl rfl rfl) ?_
      | refine TL_e0 rfl rfl (rfl) (ET_storeW 1 rfl rfl rfl YtlipbopmdfpobaaDoorF.sz_27 rfl rfl rfl) ?_
      | refine TL_e0 rfl rfl (rfl) (ET_storeW 2 rfl rfl rfl YtlipbopmdfpobaaDoorF.sz_27 rfl rfl rfl) ?_
      | refine TL_e0 rfl rfl (rfl) (ET_storeW 3 rfl rfl rfl YtlipbopmdfpobaaDoorF.sz_27 rfl rfl rfl) ?_
      | refine TL_e0 rfl rfl (rfl) (ET_storeW 4 rfl rfl rfl YtlipbopmdfpobaaDoorF.sz_27 rfl rfl rfl) ?_
      | refine TL_e0 rfl rfl (rfl) (ET_storeW 5 rfl rfl rfl YtlipbopmdfpobaaDoorF.sz_27 rfl rfl rfl) ?_
      | refine TL_e0 rfl rfl (rfl) (ET_storeW 6 rfl rfl rfl YtlipbopmdfpobaaDoorF.sz_27 rfl rfl rfl) ?_
      | refine TL_e0 rfl rfl (rfl) (ET_storeW 7 rfl rfl rfl YtlipbopmdfpobaaDoorF.sz_27 rfl rfl rfl) ?_
      | refine TL_e0 rfl rfl (rfl) (ET_store 0 rfl rfl rfl rfl YtlipbopmdfpobaaDoorF.sz_27 rfl rfl rfl) ?_
      | refine TL_e0 rfl rfl (rfl) (ET_store 1 rfl rfl rfl rfl YtlipbopmdfpobaaDoorF.sz_27 rfl rfl rfl) ?_
      | refine TL_e0 rfl rfl (rfl) (ET_store 2 rfl rfl rfl rfl YtlipbopmdfpobaaDoorF.sz_27 rfl rfl rfl) ?_
      | refine TL_e0 rfl rfl (rfl) (ET_store 3 rfl rfl rfl rfl YtlipbopmdfpobaaDoorF.sz_27 rfl rfl rfl) ?_
      | refine TL_e0 rfl rfl (rfl) (ET_store 4 rfl rfl rfl rfl YtlipbopmdfpobaaDoorF.sz_27 rfl rfl rfl) ?_
      | refine TL_e0 rfl rfl (rfl) (ET_store 5 rfl rfl rfl rfl YtlipbopmdfpobaaDoorF.sz_27 rfl rfl rfl) ?_
      | refine TL_e0 rfl rfl (rfl) (ET_store 6 rfl rfl rfl rfl YtlipbopmdfpobaaDoorF.sz_27 rfl rfl rfl) ?_
      | refine TL_e0 rfl rfl (rfl) (ET_store 7 rfl rfl rfl rfl YtlipbopmdfpobaaDoorF.sz_27 rfl rfl rfl) ?_
    rintro _ _ ⟨rfl, rfl⟩
    refine TL_nil ?_
    refine TX_then ?_
    refine TC_seq ?_
    refine TC_reg ?_
    refine TL_q rfl rfl (QT_build rfl rfl YtlipbopmdfpobaaDoorF.zero_24 YtlipbopmdfpobaaDoorF.pl_24 rfl rfl rfl) ?_
    refine TL_q rfl rfl (QT_field rfl rfl YtlipbopmdfpobaaDoorF.fld_27_6 rfl) ?_
    first
      | refine TL_e0 rfl rfl (rfl) (ET_storeW 0 rfl rfl rfl YtlipbopmdfpobaaDoorF.sz_24 rfl rfl rfl) ?_
      | refine TL_e0 rfl rfl (rfl) (ET_storeW 1 rfl rfl rfl YtlipbopmdfpobaaDoorF.sz_24 rfl rfl rfl) ?_
      | refine TL_e0 rfl rfl (rfl) (ET_storeW 2 rfl rfl rfl YtlipbopmdfpobaaDoorF.sz_24 rfl rfl rfl) ?_
      | refine TL_e0 rfl rfl (rfl) (ET_storeW 3 rfl rfl rfl YtlipbopmdfpobaaDoorF.sz_24 rfl rfl rfl) ?_
      | refine TL_e0 rfl rfl (rfl) (ET_storeW 4 rfl rfl rfl YtlipbopmdfpobaaDoorF.sz_24 rfl rfl rfl) ?_
      | refine TL_e0 rfl rfl (rfl) (ET_storeW 5 rfl rfl rfl YtlipbopmdfpobaaDoorF.sz_24 rfl rfl rfl) ?_
      | refine TL_e0 rfl rfl (rfl) (ET_storeW 6 rfl rfl rfl YtlipbopmdfpobaaDoorF.sz_24 rfl rfl rfl) ?_
      | refine TL_e0 rfl rfl (rfl) (ET_storeW 7 rfl rfl rfl YtlipbopmdfpobaaDoorF.sz_24 rfl rfl rfl) ?_
      | refine TL_e0 rfl rfl (rfl) (ET_store 0 rfl rfl rfl rfl YtlipbopmdfpobaaDoorF.sz_24 rfl rfl rfl) ?_
      | refine TL_e0 rfl rfl (rfl) (ET_store 1 rfl rfl rfl rfl YtlipbopmdfpobaaDoorF.sz_24 rfl rfl rfl) ?_
      | refine TL_e0 rfl rfl (rfl) (ET_store 2 rfl rfl rfl rfl YtlipbopmdfpobaaDoorF.sz_24 rfl rfl rfl) ?_
      | refine TL_e0 rfl rfl (rfl) (ET_store 3 rfl rfl rfl rfl YtlipbopmdfpobaaDoorF.sz_24 rfl rfl rfl) ?_
      | refine TL_e0 rfl rfl (rfl) (ET_store 4 rfl rfl rfl rfl YtlipbopmdfpobaaDoorF.sz_24 rfl rfl rfl) ?_
      | refine TL_e0 rfl rfl (rfl) (ET_store 5 rfl rfl rfl rfl YtlipbopmdfpobaaDoorF.sz_24 rfl rfl rfl) ?_
      | refine TL_e0 rfl rfl (rfl) (ET_store 6 rfl rfl rfl rfl YtlipbopmdfpobaaDoorF.sz_24 rfl rfl rfl) ?_
      | refine TL_e0 rfl rfl (rfl) (ET_store 7 rfl rfl rfl rfl YtlipbopmdfpobaaDoorF.sz_24 rfl rfl rfl) ?_
    rintro _ _ ⟨rfl, rfl⟩
    refine TL_nil ?_
    refine TX_then ?_
    refine TC_seq ?_
    refine TC_reg ?_
    refine TL_q rfl rfl (QT_field rfl rfl YtlipbopmdfpobaaDoorF.fld_27_6 rfl) ?_
    first
      | refine TL_q rfl rfl (QT_loadW 0 rfl rfl Tryd.underlying24 rfl rfl rfl YtlipbopmdfpobaaDoorF.sz_24) ?_
      | refine TL_q rfl rfl (QT_loadW 1 rfl rfl Tryd.underlying24 rfl rfl rfl YtlipbopmdfpobaaDoorF.sz_24) ?_
      | refine TL_q rfl rfl (QT_loadW 2 rfl rfl Tryd.underlying24 rfl rfl rfl YtlipbopmdfpobaaDoorF.sz_24) ?_
      | refine TL_q rfl rfl (QT_loadW 3 rfl rfl Tryd.underlying24 rfl rfl rfl YtlipbopmdfpobaaDoorF.sz_24) ?_
      | refine TL_q rfl rfl (QT_loadW 4 rfl rfl Tryd.underlying24 rfl rfl rfl YtlipbopmdfpobaaDoorF.sz_24) ?_
      | refine TL_q rfl rfl (QT_loadW 5 rfl rfl Tryd.underlying24 rfl rfl rfl YtlipbopmdfpobaaDoorF.sz_24) ?_
      | refine TL_q rfl rfl (QT_loadW 6 rfl rfl Tryd.underlying24 rfl rfl rfl YtlipbopmdfpobaaDoorF.sz_24) ?_
      | refine TL_q rfl rfl (QT_loadW 7 rfl rfl Tryd.underlying24 rfl rfl rfl YtlipbopmdfpobaaDoorF.sz_24) ?_
      | refine TL_q rfl rfl (QT_loadA 0 rfl rfl Tryd.underlying24 rfl rfl rfl YtlipbopmdfpobaaDoorF.sz_24 (fun _ => rfl)) ?_
      | refine TL_q rfl rfl (QT_loadA 1 rfl rfl Tryd.underlying24 rfl rfl rfl YtlipbopmdfpobaaDoorF.sz_24 (fun _ => rfl)) ?_
      | refine TL_q rfl rfl (QT_loadA 2 rfl rfl Tryd.underlying24 rfl rfl rfl YtlipbopmdfpobaaDoorF.sz_24 (fun _ => rfl)) ?_
      | refine TL_q rfl rfl (QT_loadA 3 rfl rfl Tryd.underlying24 rfl rfl rfl YtlipbopmdfpobaaDoorF.sz_24 (fun _ => rfl)) ?_
      | refine TL_q rfl rfl (QT_loadA 4 rfl rfl Tryd.underlying24 rfl rfl rfl YtlipbopmdfpobaaDoorF.sz_24 (fun _ => rfl)) ?_
      | refine TL_q rfl rfl (QT_loadA 5 rfl rfl Tryd.underlying24 rfl rfl rfl YtlipbopmdfpobaaDoorF.sz_24 (fun _ => rfl)) ?_
      | refine TL_q rfl rfl (QT_loadA 6 rfl rfl Tryd.underlying24 rfl rfl rfl YtlipbopmdfpobaaDoorF.sz_24 (fun _ => rfl)) ?_
      | refine TL_q rfl rfl (QT_loadA 7 rfl rfl Tryd.underlying24 rfl rfl rfl YtlipbopmdfpobaaDoorF.sz_24 (fun _ => rfl)) ?_
    refine TL_q rfl rfl (QT_field rfl rfl YtlipbopmdfpobaaDoorF.fld_27_8 rfl) ?_
    refine TL_q rfl rfl (QT_indexArr (3) rfl rfl Tryd.underlying25 YtlipbopmdfpobaaDoorF.sz_24 rfl rfl (rfl) (fun _ => by decide)) ?_
    first
      | refine TL_e0 rfl rfl (rfl) (ET_storeW 0 rfl rfl rfl YtlipbopmdfpobaaDoorF.sz_24 rfl rfl rfl) ?_
      | refine TL_e0 rfl rfl (rfl) (ET_storeW 1 rfl rfl rfl YtlipbopmdfpobaaDoorF.sz_24 rfl rfl rfl) ?_
      | refine TL_e0 rfl rfl (rfl) (ET_storeW 2 rfl rfl rfl YtlipbopmdfpobaaDoorF.sz_24 rfl rfl rfl) ?_
      | refine TL_e0 rfl rfl (rfl) (ET_storeW 3 rfl rfl rfl YtlipbopmdfpobaaDoorF.sz_24 rfl rfl rfl) ?_
      | refine TL_e0 rfl rfl (rfl) (ET_storeW 4 rfl rfl rfl YtlipbopmdfpobaaDoorF.sz_24 rfl rfl rfl) ?_
      | refine TL_e0 rfl rfl (rfl) (ET_storeW 5 rfl rfl rfl YtlipbopmdfpobaaDoorF.sz_24 rfl rfl rfl) ?_
      | refine TL_e0 rfl rfl (rfl) (ET_storeW 6 rfl rfl rfl YtlipbopmdfpobaaDoorF.sz_24 rfl rfl rfl) ?_
      | refine TL_e0 rfl rfl (rfl) (ET_storeW 7 rfl rfl rfl YtlipbopmdfpobaaDoorF.sz_24 rfl rfl rfl) ?_
      | refine TL_e0 rfl rfl (rfl) (ET_store 0 rfl rfl rfl rfl YtlipbopmdfpobaaDoorF.sz_24 rfl rfl rfl) ?_
      | refine TL_e0 rfl rfl (rfl) (ET_store 1 rfl rfl rfl rfl YtlipbopmdfpobaaDoorF.sz_24 rfl rfl rfl) ?_
      | refine TL_e0 rfl rfl (rfl) (ET_store 2 rfl rfl rfl rfl YtlipbopmdfpobaaDoorF.sz_24 rfl rfl rfl) ?_
      | refine TL_e0 rfl rfl (rfl) (ET_store 3 rfl rfl rfl rfl YtlipbopmdfpobaaDoorF.sz_24 rfl rfl rfl) ?_
      | refine TL_e0 rfl rfl (rfl) (ET_store 4 rfl rfl rfl rfl YtlipbopmdfpobaaDoorF.sz_24 rfl rfl rfl) ?_
      | refine TL_e0 rfl rfl (rfl) (ET_store 5 rfl rfl rfl rfl YtlipbopmdfpobaaDoorF.sz_24 rfl rfl rfl) ?_
      | refine TL_e0 rfl rfl (rfl) (ET_store 6 rfl rfl rfl rfl YtlipbopmdfpobaaDoorF.sz_24 rfl rfl rfl) ?_
      | refine TL_e0 rfl rfl (rfl) (ET_store 7 rfl rfl rfl rfl YtlipbopmdfpobaaDoorF.sz_24 rfl rfl rfl) ?_
    rintro _ _ ⟨rfl, rfl⟩
    refine TL_nil ?_
    refine TX_then ?_
    refine TC_seq ?_
    refine TC_reg ?_
    refine TL_q rfl rfl (QT_move rfl rfl rfl) ?_
    refine TL_q rfl rfl (QT_move rfl rfl rfl) ?_
    refine TL_q rfl rfl (QT_eqlb rfl rfl Tryd.underlying4 rfl rfl) ?_
    refine TL_q rfl rfl (QT_move rfl rfl rfl) ?_
    first
      | refine TL_q rfl rfl (QT_loadW 0 rfl rfl Tryd.underlying27 rfl rfl rfl YtlipbopmdfpobaaDoorF.sz_27) ?_
      | refine TL_q rfl rfl (QT_loadW 1 rfl rfl Tryd.underlying27 rfl rfl rfl YtlipbopmdfpobaaDoorF.sz_27) ?_
      | refine TL_q rfl rfl (QT_loadW 2 rfl rfl Tryd.underlying27 rfl rfl rfl YtlipbopmdfpobaaDoorF.sz_27) ?_
      | refine TL_q rfl rfl (QT_loadW 3 rfl rfl Tryd.underlying27 rfl rfl rfl YtlipbopmdfpobaaDoorF.sz_27) ?_
      | refine TL_q rfl rfl (QT_loadW 4 rfl rfl Tryd.underlying27 rfl rfl rfl YtlipbopmdfpobaaDoorF.sz_27) ?_
      | refine TL_q rfl rfl (QT_loadW 5 rfl rfl Tryd.underlying27 rfl rfl rfl YtlipbopmdfpobaaDoorF.sz_27) ?_
      | refine TL_q rfl rfl (QT_loadW 6 rfl rfl Tryd.underlying27 rfl rfl rfl YtlipbopmdfpobaaDoorF.sz_27) ?_
      | refine TL_q rfl rfl (QT_loadW 7 rfl rfl Tryd.underlying27 rfl rfl rfl YtlipbopmdfpobaaDoorF.sz_27) ?_
      | refine TL_q rfl rfl (QT_loadA 0 rfl rfl Tryd.underlying27 rfl rfl rfl YtlipbopmdfpobaaDoorF.sz_27 (fun _ => rfl)) ?_
      | refine TL_q rfl rfl (QT_loadA 1 rfl rfl Tryd.underlying27 rfl rfl rfl YtlipbopmdfpobaaDoorF.sz_27 (fun _ => rfl)) ?_
      | refine TL_q rfl rfl (QT_loadA 2 rfl rfl Tryd.underlying27 rfl rfl rfl YtlipbopmdfpobaaDoorF.sz_27 (fun _ => rfl)) ?_
      | refine TL_q rfl rfl (QT_loadA 3 rfl rfl Tryd.underlying27 rfl rfl rfl YtlipbopmdfpobaaDoorF.sz_27 (fun _ => rfl)) ?_
      | refine TL_q rfl rfl (QT_loadA 4 rfl rfl Tryd.underlying27 rfl rfl rfl YtlipbopmdfpobaaDoorF.sz_27 (fun _ => rfl)) ?_
      | refine TL_q rfl rfl (QT_loadA 5 rfl rfl Tryd.underlying27 rfl rfl rfl YtlipbopmdfpobaaDoorF.sz_27 (fun _ => rfl)) ?_
      | refine TL_q rfl rfl (QT_loadA 6 rfl rfl Tryd.underlying27 rfl rfl rfl YtlipbopmdfpobaaDoorF.sz_27 (fun _ => rfl)) ?_
      | refine TL_q rfl rfl (QT_loadA 7 rfl rfl Tryd.underlying27 rfl rfl rfl YtlipbopmdfpobaaDoorF.sz_27 (fun _ => rfl)) ?_
    refine TL_cq rfl rfl rfl rfl YtlipbopmdfpobaaDoorF.cal_7 rfl (fun _ => check_spec w0 _ hG ⟨L.ty, L.co, L.cm, L.fl, L.cs, L.ro, rMix L.r⟩) ?_
    refine TL_q rfl rfl (QT_eql rfl rfl rfl rfl) ?_
    refine TL_q rfl rfl (QT_move rfl rfl rfl) ?_
    refine TL_q rfl rfl (QT_eqlb rfl rfl Tryd.underlying4 rfl rfl) ?_
    refine TL_q rfl rfl (QT_and rfl rfl rfl rfl) ?_
    refine TL_q rfl rfl (QT_move rfl rfl rfl) ?_
    refine TL_cq rfl rfl rfl rfl YtlipbopmdfpobaaDoorF.cal_11 rfl (fun _ => lives08 w0 _ hG) ?_
    refine TL_q rfl rfl (QT_and rfl rfl rfl rfl) ?_
    refine TL_q rfl rfl (QT_assign rfl rfl rfl) ?_
    refine TL_nil ?_
    refine TX_then ?_
    refine TC_ret ?_
    exact TX_ret (.inl rfl) (res1 rfl rfl) ⟨_, ⟨by simp only [dec_err]; rw [okB_r L (rMix L.r)]; first | (rw [← fields5 h55]; simp) | (rw [← fields4 h55]; simp), rfl⟩, (fun _ h => by first | exact h | exact h.tail | exact h.tail.tail | exact h.tail.tail.tail | exact h.tail.tail.tail.tail | exact h.tail.tail.tail.tail.tail | exact h.tail.tail.tail.tail.tail.tail | exact h.tail.tail.tail.tail.tail.tail.tail | exact h.tail.tail.tail.tail.tail.tail.tail.tail | exact h.tail.tail.tail.tail.tail.tail.tail.tail.tail | exact h.tail.tail.tail.tail.tail.tail.tail.tail.tail.tail | exact h.tail.tail.tail.tail.tail.tail.tail.tail.tail.tail.tail | exact h.tail.tail.tail.tail.tail.tail.tail.tail.tail.tail.tail.tail | exact h.tail.tail.tail.tail.tail.tail.tail.tail.tail.tail.tail.tail.tail)⟩
  ·
    refine TC_reg ?_
    refine TL_q rfl rfl (QT_move rfl rfl rfl) ?_
    refine TL_q rfl rfl (QT_move rfl rfl rfl) ?_
    first
      | refine TL_q rfl rfl (QT_loadW 0 rfl rfl Tryd.underlying27 rfl rfl rfl YtlipbopmdfpobaaDoorF.sz_27) ?_
      | refine TL_q rfl rfl (QT_loadW 1 rfl rfl Tryd.underlying27 rfl rfl rfl YtlipbopmdfpobaaDoorF.sz_27) ?_
      | refine TL_q rfl rfl (QT_loadW 2 rfl rfl Tryd.underlying27 rfl rfl rfl YtlipbopmdfpobaaDoorF.sz_27) ?_
      | refine TL_q rfl rfl (QT_loadW 3 rfl rfl Tryd.underlying27 rfl rfl rfl YtlipbopmdfpobaaDoorF.sz_27) ?_
      | refine TL_q rfl rfl (QT_loadW 4 rfl rfl Tryd.underlying27 rfl rfl rfl YtlipbopmdfpobaaDoorF.sz_27) ?_
      | refine TL_q rfl rfl (QT_loadW 5 rfl rfl Tryd.underlying27 rfl rfl rfl YtlipbopmdfpobaaDoorF.sz_27) ?_
      | refine TL_q rfl rfl (QT_loadW 6 rfl rfl Tryd.underlying27 rfl rfl rfl YtlipbopmdfpobaaDoorF.sz_27) ?_
      | refine TL_q rfl rfl (QT_loadW 7 rfl rfl Tryd.underlying27 rfl rfl rfl YtlipbopmdfpobaaDoorF.sz_27) ?_
      | refine TL_q rfl rfl (QT_loadA 0 rfl rfl Tryd.underlying27 rfl rfl rfl YtlipbopmdfpobaaDoorF.sz_27 (fun _ => rfl)) ?_
      | refine TL_q rfl rfl (QT_loadA 1 rfl rfl Tryd.underlying27 rfl rfl rfl YtlipbopmdfpobaaDoorF.sz_27 (fun _ => rfl)) ?_
      | refine TL_q rfl rfl (QT_loadA 2 rfl rfl Tryd.underlying27 rfl rfl rfl YtlipbopmdfpobaaDoorF.sz_27 (fun _ => rfl)) ?_
      | refine TL_q rfl rfl (QT_loadA 3 rfl rfl Tryd.underlying27 rfl rfl rfl YtlipbopmdfpobaaDoorF.sz_27 (fun _ => rfl)) ?_
      | refine TL_q rfl rfl (QT_loadA 4 rfl rfl Tryd.underlying27 rfl rfl rfl YtlipbopmdfpobaaDoorF.sz_27 (fun _ => rfl)) ?_
      | refine TL_q rfl rfl (QT_loadA 5 rfl rfl Tryd.underlying27 rfl rfl rfl YtlipbopmdfpobaaDoorF.sz_27 (fun _ => rfl)) ?_
      | refine TL_q rfl rfl (QT_loadA 6 rfl rfl Tryd.underlying27 rfl rfl rfl YtlipbopmdfpobaaDoorF.sz_27 (fun _ => rfl)) ?_
      | refine TL_q rfl rfl (QT_loadA 7 rfl rfl Tryd.underlying27 rfl rfl rfl YtlipbopmdfpobaaDoorF.sz_27 (fun _ => rfl)) ?_
    refine TL_cq rfl rfl rfl rfl YtlipbopmdfpobaaDoorF.cal_7 rfl (fun _ => check_spec w0 _ hG ⟨4, 8, 8, L.fl, 1, 2, z32⟩) ?_
    refine TL_q rfl rfl (QT_eql rfl rfl rfl rfl) ?_
    refine TL_q rfl rfl (QT_and rfl rfl rfl rfl) ?_
    refine TL_q rfl rfl (QT_assign rfl rfl rfl) ?_
    refine TL_nil ?_
    refine TX_then ?_
    refine TC_seq ?_
    refine TC_reg ?_
    first
      | refine TL_q rfl rfl (QT_loadW 0 rfl rfl Tryd.underlying27 rfl rfl rfl YtlipbopmdfpobaaDoorF.sz_27) ?_
      | refine TL_q rfl rfl (QT_loadW 1 rfl rfl Tryd.underlying27 rfl rfl rfl YtlipbopmdfpobaaDoorF.sz_27) ?_
      | refine TL_q rfl rfl (QT_loadW 2 rfl rfl Tryd.underlying27 rfl rfl rfl YtlipbopmdfpobaaDoorF.sz_27) ?_
      | refine TL_q rfl rfl (QT_loadW 3 rfl rfl Tryd.underlying27 rfl rfl rfl YtlipbopmdfpobaaDoorF.sz_27) ?_
      | refine TL_q rfl rfl (QT_loadW 4 rfl rfl Tryd.underlying27 rfl rfl rfl YtlipbopmdfpobaaDoorF.sz_27) ?_
      | refine TL_q rfl rfl (QT_loadW 5 rfl rfl Tryd.underlying27 rfl rfl rfl YtlipbopmdfpobaaDoorF.sz_27) ?_
      | refine TL_q rfl rfl (QT_loadW 6 rfl rfl Tryd.underlying27 rfl rfl rfl YtlipbopmdfpobaaDoorF.sz_27) ?_
      | refine TL_q rfl rfl (QT_loadW 7 rfl rfl Tryd.underlying27 rfl rfl rfl YtlipbopmdfpobaaDoorF.sz_27) ?_
      | refine TL_q rfl rfl (QT_loadA 0 rfl rfl Tryd.underlying27 rfl rfl rfl YtlipbopmdfpobaaDoorF.sz_27 (fun _ => rfl)) ?_
      | refine TL_q rfl rfl (QT_loadA 1 rfl rfl Tryd.underlying27 rfl rfl rfl YtlipbopmdfpobaaDoorF.sz_27 (fun _ => rfl)) ?_
      | refine TL_q rfl rfl (QT_loadA 2 rfl rfl Tryd.underlying27 rfl rfl rfl YtlipbopmdfpobaaDoorF.sz_27 (fun _ => rfl)) ?_
      | refine TL_q rfl rfl (QT_loadA 3 rfl rfl Tryd.underlying27 rfl rfl rfl YtlipbopmdfpobaaDoorF.sz_27 (fun _ => rfl)) ?_
      | refine TL_q rfl rfl (QT_loadA 4 rfl rfl Tryd.underlying27 rfl rfl rfl YtlipbopmdfpobaaDoorF.sz_27 (fun _ => rfl)) ?_
      | refine TL_q rfl rfl (QT_loadA 5 rfl rfl Tryd.underlying27 rfl rfl rfl YtlipbopmdfpobaaDoorF.sz_27 (fun _ => rfl)) ?_
      | refine TL_q rfl rfl (QT_loadA 6 rfl rfl Tryd.underlying27 rfl rfl rfl YtlipbopmdfpobaaDoorF.sz_27 (fun _ => rfl)) ?_
      | refine TL_q rfl rfl (QT_loadA 7 rfl rfl Tryd.underlying27 rfl rfl rfl YtlipbopmdfpobaaDoorF.sz_27 (fun _ => rfl)) ?_
    refine TL_e rfl rfl rfl (rfl) (ET_alloc rfl YtlipbopmdfpobaaDoorF.zero_27) ?_
    rintro _ _ ⟨b11, rfl, rfl⟩
    first
      | refine TL_e0 rfl rfl (rfl) (ET_storeW 0 rfl rfl rfl YtlipbopmdfpobaaDoorF.sz_27 rfl rfl rfl) ?_
      | refine TL_e0 rfl rfl (rfl) (ET_storeW 1 rfl rfl rfl YtlipbopmdfpobaaDoorF.sz_27 rfl rfl rfl) ?_
      | refine TL_e0 rfl rfl (rfl) (ET_storeW 2 rfl rfl rfl YtlipbopmdfpobaaDoorF.sz_27 rfl rfl rfl) ?_
      | refine TL_e0 rfl rfl (rfl) (ET_storeW 3 rfl rfl rfl YtlipbopmdfpobaaDoorF.sz_27 rfl rfl rfl) ?_
      | refine TL_e0 rfl rfl (rfl) (ET_storeW 4 rfl rfl rfl YtlipbopmdfpobaaDoorF.sz_27 rfl rfl rfl) ?_
      | refine TL_e0 rfl rfl (rfl) (ET_storeW 5 rfl rfl rfl YtlipbopmdfpobaaDoorF.sz_27 rfl rfl rfl) ?_
      | refine TL_e0 rfl rfl (rfl) (ET_storeW 6 rfl rfl rfl YtlipbopmdfpobaaDoorF.sz_27 rfl rfl rfl) ?_
      | refine TL_e0 rfl rfl (rfl) (ET_storeW 7 rfl rfl rfl YtlipbopmdfpobaaDoorF.sz_27 rfl rfl rfl) ?_
      | refine TL_e0 rfl rfl (rfl) (ET_store 0 rfl rfl rfl rfl YtlipbopmdfpobaaDoorF.sz_27 rfl rfl rfl) ?_
      | refine TL_e0 rfl rfl (rfl) (ET_store 1 rfl rfl rfl rfl YtlipbopmdfpobaaDoorF.sz_27 rfl rfl rfl) ?_
      | refine TL_e0 rfl rfl (rfl) (ET_store 2 rfl rfl rfl rfl YtlipbopmdfpobaaDoorF.sz_27 rfl rfl rfl) ?_
      | refine TL_e0 rfl rfl (rfl) (ET_store 3 rfl rfl rfl rfl YtlipbopmdfpobaaDoorF.sz_27 rfl rfl rfl) ?_
      | refine TL_e0 rfl rfl (rfl) (ET_store 4 rfl rfl rfl rfl YtlipbopmdfpobaaDoorF.sz_27 rfl rfl rfl) ?_
      | refine TL_e0 rfl rfl (rfl) (ET_store 5 rfl rfl rfl rfl YtlipbopmdfpobaaDoorF.sz_27 rfl rfl rfl) ?_
      | refine TL_e0 rfl rfl (rfl) (ET_store 6 rfl rfl rfl rfl YtlipbopmdfpobaaDoorF.sz_27 rfl rfl rfl) ?_
      | refine TL_e0 rfl rfl (rfl) (ET_store 7 rfl rfl rfl rfl YtlipbopmdfpobaaDoorF.sz_27 rfl rfl rfl) ?_
    rintro _ _ ⟨rfl, rfl⟩
    refine TL_nil ?_
    refine TX_then ?_
    refine TC_seq ?_
    refine TC_reg ?_
    refine TL_q rfl rfl (QT_build rfl rfl YtlipbopmdfpobaaDoorF.zero_24 YtlipbopmdfpobaaDoorF.pl_24 rfl rfl rfl) ?_
    refine TL_q rfl rfl (QT_field rfl rfl YtlipbopmdfpobaaDoorF.fld_27_6 rfl) ?_
    first
      | refine TL_e0 rfl rfl (rfl) (ET_storeW 0 rfl rfl rfl YtlipbopmdfpobaaDoorF.sz_24 rfl rfl rfl) ?_
      | refine TL_e0 rfl rfl (rfl) (ET_storeW 1 rfl rfl rfl YtlipbopmdfpobaaDoorF.sz_24 rfl rfl rfl) ?_
      | refine TL_e0 rfl rfl (rfl) (ET_storeW 2 rfl rfl rfl YtlipbopmdfpobaaDoorF.sz_24 rfl rfl rfl) ?_
      | refine TL_e0 rfl rfl (rfl) (ET_storeW 3 rfl rfl rfl YtlipbopmdfpobaaDoorF.sz_24 rfl rfl rfl) ?_
      | refine TL_e0 rfl rfl (rfl) (ET_storeW 4 rfl rfl rfl YtlipbopmdfpobaaDoorF.sz_24 rfl rfl rfl) ?_
      | refine TL_e0 rfl rfl (rfl) (ET_storeW 5 rfl rfl rfl YtlipbopmdfpobaaDoorF.sz_24 rfl rfl rfl) ?_
      | refine TL_e0 rfl rfl (rfl) (ET_storeW 6 rfl rfl rfl YtlipbopmdfpobaaDoorF.sz_24 rfl rfl rfl) ?_
      | refine TL_e0 rfl rfl (rfl) (ET_storeW 7 rfl rfl rfl YtlipbopmdfpobaaDoorF.sz_24 rfl rfl rfl) ?_
      | refine TL_e0 rfl rfl (rfl) (ET_store 0 rfl rfl rfl rfl YtlipbopmdfpobaaDoorF.sz_24 rfl rfl rfl) ?_
      | refine TL_e0 rfl rfl (rfl) (ET_store 1 rfl rfl rfl rfl YtlipbopmdfpobaaDoorF.sz_24 rfl rfl rfl) ?_
      | refine TL_e0 rfl rfl (rfl) (ET_store 2 rfl rfl rfl rfl YtlipbopmdfpobaaDoorF.sz_24 rfl rfl rfl) ?_
      | refine TL_e0 rfl rfl (rfl) (ET_store 3 rfl rfl rfl rfl YtlipbopmdfpobaaDoorF.sz_24 rfl rfl rfl) ?_
      | refine TL_e0 rfl rfl (rfl) (ET_store 4 rfl rfl rfl rfl YtlipbopmdfpobaaDoorF.sz_24 rfl rfl rfl) ?_
      | refine TL_e0 rfl rfl (rfl) (ET_store 5 rfl rfl rfl rfl YtlipbopmdfpobaaDoorF.sz_24 rfl rfl rfl) ?_
      | refine TL_e0 rfl rfl (rfl) (ET_store 6 rfl rfl rfl rfl YtlipbopmdfpobaaDoorF.sz_24 rfl rfl rfl) ?_
      | refine TL_e0 rfl rfl (rfl) (ET_store 7 rfl rfl rfl rfl YtlipbopmdfpobaaDoorF.sz_24 rfl rfl rfl) ?_
    rintro _ _ ⟨rfl, rfl⟩
    refine TL_nil ?_
    refine TX_then ?_
    refine TC_seq ?_
    refine TC_reg ?_
    refine TL_q rfl rfl (QT_field rfl rfl YtlipbopmdfpobaaDoorF.fld_27_6 rfl) ?_
    first
      | refine TL_q rfl rfl (QT_loadW 0 rfl rfl Tryd.underlying24 rfl rfl rfl YtlipbopmdfpobaaDoorF.sz_24) ?_
      | refine TL_q rfl rfl (QT_loadW 1 rfl rfl Tryd.underlying24 rfl rfl rfl YtlipbopmdfpobaaDoorF.sz_24) ?_
      | refine TL_q rfl rfl (QT_loadW 2 rfl rfl Tryd.underlying24 rfl rfl rfl YtlipbopmdfpobaaDoorF.sz_24) ?_
      | refine TL_q rfl rfl (QT_loadW 3 rfl rfl Tryd.underlying24 rfl rfl rfl YtlipbopmdfpobaaDoorF.sz_24) ?_
      | refine TL_q rfl rfl (QT_loadW 4 rfl rfl Tryd.underlying24 rfl rfl rfl YtlipbopmdfpobaaDoorF.sz_24) ?_
      | refine TL_q rfl rfl (QT_loadW 5 rfl rfl Tryd.underlying24 rfl rfl rfl YtlipbopmdfpobaaDoorF.sz_24) ?_
      | refine TL_q rfl rfl (QT_loadW 6 rfl rfl Tryd.underlying24 rfl rfl rfl YtlipbopmdfpobaaDoorF.sz_24) ?_
      | refine TL_q rfl rfl (QT_loadW 7 rfl rfl Tryd.underlying24 rfl rfl rfl YtlipbopmdfpobaaDoorF.sz_24) ?_
      | refine TL_q rfl rfl (QT_loadA 0 rfl rfl Tryd.underlying24 rfl rfl rfl YtlipbopmdfpobaaDoorF.sz_24 (fun _ => rfl)) ?_
      | refine TL_q rfl rfl (QT_loadA 1 rfl rfl Tryd.underlying24 rfl rfl rfl YtlipbopmdfpobaaDoorF.sz_24 (fun _ => rfl)) ?_
      | refine TL_q rfl rfl (QT_loadA 2 rfl rfl Tryd.underlying24 rfl rfl rfl YtlipbopmdfpobaaDoorF.sz_24 (fun _ => rfl)) ?_
      | refine TL_q rfl rfl (QT_loadA 3 rfl rfl Tryd.underlying24 rfl rfl rfl YtlipbopmdfpobaaDoorF.sz_24 (fun _ => rfl)) ?_
      | refine TL_q rfl rfl (QT_loadA 4 rfl rfl Tryd.underlying24 rfl rfl rfl YtlipbopmdfpobaaDoorF.sz_24 (fun _ => rfl)) ?_
      | refine TL_q rfl rfl (QT_loadA 5 rfl rfl Tryd.underlying24 rfl rfl rfl YtlipbopmdfpobaaDoorF.sz_24 (fun _ => rfl)) ?_
      | refine TL_q rfl rfl (QT_loadA 6 rfl rfl Tryd.underlying24 rfl rfl rfl YtlipbopmdfpobaaDoorF.sz_24 (fun _ => rfl)) ?_
      | refine TL_q rfl rfl (QT_loadA 7 rfl rfl Tryd.underlying24 rfl rfl rfl YtlipbopmdfpobaaDoorF.sz_24 (fun _ => rfl)) ?_
    refine TL_q rfl rfl (QT_field rfl rfl YtlipbopmdfpobaaDoorF.fld_27_8 rfl) ?_
    refine TL_q rfl rfl (QT_indexArr (3) rfl rfl Tryd.underlying25 YtlipbopmdfpobaaDoorF.sz_24 rfl rfl (rfl) (fun _ => by decide)) ?_
    first
      | refine TL_e0 rfl rfl (rfl) (ET_storeW 0 rfl rfl rfl YtlipbopmdfpobaaDoorF.sz_24 rfl rfl rfl) ?_
      | refine TL_e0 rfl rfl (rfl) (ET_storeW 1 rfl rfl rfl YtlipbopmdfpobaaDoorF.sz_24 rfl rfl rfl) ?_
      | refine TL_e0 rfl rfl (rfl) (ET_storeW 2 rfl rfl rfl YtlipbopmdfpobaaDoorF.sz_24 rfl rfl rfl) ?_
      | refine TL_e0 rfl rfl (rfl) (ET_storeW 3 rfl rfl rfl YtlipbopmdfpobaaDoorF.sz_24 rfl rfl rfl) ?_
      | refine TL_e0 rfl rfl (rfl) (ET_storeW 4 rfl rfl rfl YtlipbopmdfpobaaDoorF.sz_24 rfl rfl rfl) ?_
      | refine TL_e0 rfl rfl (rfl) (ET_storeW 5 rfl rfl rfl YtlipbopmdfpobaaDoorF.sz_24 rfl rfl rfl) ?_
      | refine TL_e0 rfl rfl (rfl) (ET_storeW 6 rfl rfl rfl YtlipbopmdfpobaaDoorF.sz_24 rfl rfl rfl) ?_
      | refine TL_e0 rfl rfl (rfl) (ET_storeW 7 rfl rfl rfl YtlipbopmdfpobaaDoorF.sz_24 rfl rfl rfl) ?_
      | refine TL_e0 rfl rfl (rfl) (ET_store 0 rfl rfl rfl rfl YtlipbopmdfpobaaDoorF.sz_24 rfl rfl rfl) ?_
      | refine TL_e0 rfl rfl (rfl) (ET_store 1 rfl rfl rfl rfl YtlipbopmdfpobaaDoorF.sz_24 rfl rfl rfl) ?_
      | refine TL_e0 rfl rfl (rfl) (ET_store 2 rfl rfl rfl rfl YtlipbopmdfpobaaDoorF.sz_24 rfl rfl rfl) ?_
      | refine TL_e0 rfl rfl (rfl) (ET_store 3 rfl rfl rfl rfl YtlipbopmdfpobaaDoorF.sz_24 rfl rfl rfl) ?_
      | refine TL_e0 rfl rfl (rfl) (ET_store 4 rfl rfl rfl rfl YtlipbopmdfpobaaDoorF.sz_24 rfl rfl rfl) ?_
      | refine TL_e0 rfl rfl (rfl) (ET_store 5 rfl rfl rfl rfl YtlipbopmdfpobaaDoorF.sz_24 rfl rfl rfl) ?_
      | refine TL_e0 rfl rfl (rfl) (ET_store 6 rfl rfl rfl rfl YtlipbopmdfpobaaDoorF.sz_24 rfl rfl rfl) ?_
      | refine TL_e0 rfl rfl (rfl) (ET_store 7 rfl rfl rfl rfl YtlipbopmdfpobaaDoorF.sz_24 rfl rfl rfl) ?_
    rintro _ _ ⟨rfl, rfl⟩
    refine TL_nil ?_
    refine TX_then ?_
    refine TC_seq ?_
    refine TC_reg ?_
    refine TL_q rfl rfl (QT_move rfl rfl rfl) ?_
    refine TL_q rfl rfl (QT_move rfl rfl rfl) ?_
    refine TL_q rfl rfl (QT_eqlb rfl rfl Tryd.underlying4 rfl rfl) ?_
    refine TL_q rfl rfl (QT_move rfl rfl rfl) ?_
    first
      | refine TL_q rfl rfl (QT_loadW 0 rfl rfl Tryd.underlying27 rfl rfl rfl YtlipbopmdfpobaaDoorF.sz_27) ?_
      | refine TL_q rfl rfl (QT_loadW 1 rfl rfl Tryd.underlying27 rfl rfl rfl YtlipbopmdfpobaaDoorF.sz_27) ?_
      | refine TL_q rfl rfl (QT_loadW 2 rfl rfl Tryd.underlying27 rfl rfl rfl YtlipbopmdfpobaaDoorF.sz_27) ?_
      | refine TL_q rfl rfl (QT_loadW 3 rfl rfl Tryd.underlying27 rfl rfl rfl YtlipbopmdfpobaaDoorF.sz_27) ?_
      | refine TL_q rfl rfl (QT_loadW 4 rfl rfl Tryd.underlying27 rfl rfl rfl YtlipbopmdfpobaaDoorF.sz_27) ?_
      | refine TL_q rfl rfl (QT_loadW 5 rfl rfl Tryd.underlying27 rfl rfl rfl YtlipbopmdfpobaaDoorF.sz_27) ?_
      | refine TL_q rfl rfl (QT_loadW 6 rfl rfl Tryd.underlying27 rfl rfl rfl YtlipbopmdfpobaaDoorF.sz_27) ?_
      | refine TL_q rfl rfl (QT_loadW 7 rfl rfl Tryd.underlying27 rfl rfl rfl YtlipbopmdfpobaaDoorF.sz_27) ?_
      | refine TL_q rfl rfl (QT_loadA 0 rfl rfl Tryd.underlying27 rfl rfl rfl YtlipbopmdfpobaaDoorF.sz_27 (fun _ => rfl)) ?_
      | refine TL_q rfl rfl (QT_loadA 1 rfl rfl Tryd.underlying27 rfl rfl rfl YtlipbopmdfpobaaDoorF.sz_27 (fun _ => rfl)) ?_
      | refine TL_q rfl rfl (QT_loadA 2 rfl rfl Tryd.underlying27 rfl rfl rfl YtlipbopmdfpobaaDoorF.sz_27 (fun _ => rfl)) ?_
      | refine TL_q rfl rfl (QT_loadA 3 rfl rfl Tryd.underlying27 rfl rfl rfl YtlipbopmdfpobaaDoorF.sz_27 (fun _ => rfl)) ?_
      | refine TL_q rfl rfl (QT_loadA 4 rfl rfl Tryd.underlying27 rfl rfl rfl YtlipbopmdfpobaaDoorF.sz_27 (fun _ => rfl)) ?_
      | refine TL_q rfl rfl (QT_loadA 5 rfl rfl Tryd.underlying27 rfl rfl rfl YtlipbopmdfpobaaDoorF.sz_27 (fun _ => rfl)) ?_
      | refine TL_q rfl rfl (QT_loadA 6 rfl rfl Tryd.underlying27 rfl rfl rfl YtlipbopmdfpobaaDoorF.sz_27 (fun _ => rfl)) ?_
      | refine TL_q rfl rfl (QT_loadA 7 rfl rfl Tryd.underlying27 rfl rfl rfl YtlipbopmdfpobaaDoorF.sz_27 (fun _ => rfl)) ?_
    refine TL_cq rfl rfl rfl rfl YtlipbopmdfpobaaDoorF.cal_7 rfl (fun _ => check_spec w0 _ hG ⟨L.ty, L.co, L.cm, L.fl, L.cs, L.ro, rMix L.r⟩) ?_
    refine TL_q rfl rfl (QT_eql rfl rfl rfl rfl) ?_
    refine TL_q rfl rfl (QT_move rfl rfl rfl) ?_
    refine TL_q rfl rfl (QT_eqlb rfl rfl Tryd.underlying4 rfl rfl) ?_
    refine TL_q rfl rfl (QT_and rfl rfl rfl rfl) ?_
    refine TL_q rfl rfl (QT_move rfl rfl rfl) ?_
    refine TL_cq rfl rfl rfl rfl YtlipbopmdfpobaaDoorF.cal_11 rfl (fun _ => lives08 w0 _ hG) ?_
    refine TL_q rfl rfl (QT_and rfl rfl rfl rfl) ?_
    refine TL_q rfl rfl (QT_assign rfl rfl rfl) ?_
    refine TL_nil ?_
    refine TX_then ?_
    refine TC_ret ?_
    exact TX_ret (.inl rfl) (res1 rfl rfl) ⟨_, ⟨by simp only [dec_err]; rw [okB_r L (rMix L.r)]; first | (rw [← fields5 h55]; simp) | (rw [← fields4 h55]; simp), rfl⟩, (fun _ h => by first | exact h | exact h.tail | exact h.tail.tail | exact h.tail.tail.tail | exact h.tail.tail.tail.tail | exact h.tail.tail.tail.tail.tail | exact h.tail.tail.tail.tail.tail.tail | exact h.tail.tail.tail.tail.tail.tail.tail | exact h.tail.tail.tail.tail.tail.tail.tail.tail | exact h.tail.tail.tail.tail.tail.tail.tail.tail.tail | exact h.tail.tail.tail.tail.tail.tail.tail.tail.tail.tail | exact h.tail.tail.tail.tail.tail.tail.tail.tail.tail.tail.tail | exact h.tail.tail.tail.tail.tail.tail.tail.tail.tail.tail.tail.tail | exact h.tail.tail.tail.tail.tail.tail.tail.tail.tail.tail.tail.tail.tail)⟩

theorem lawSizes (w0 : World) (η : Heap) (hG : Sets w0) (L : Lay) (f : Int) (h0 : 0 ≤ f) : CallsT Tryd.prog 5 [L.val, .int .u8 f] (St w0 η) fun v A' => v = .bool true ∧ A' = St w0 η := by
  refine CallsT.body Tryd.func5 rfl rfl ?_
  simp only [Tryd.ntmps5, slotsOf, Nat.reduceAdd]
  refine TC_seq ?_
  refine TC_reg ?_
  refine TL_e rfl rfl rfl (rfl) (ET_box rfl rfl) ?_
  rintro _ _ ⟨b2, rfl, rfl⟩
  refine TL_q rfl rfl (QT_assign rfl rfl rfl) ?_
  refine TL_nil ?_
  refine TX_then ?_
  refine TC_seq ?_
  refine TC_reg ?_
  first
    | refine TL_q rfl rfl (QT_loadW 0 rfl rfl Tryd.underlying27 rfl rfl rfl YtlipbopmdfpobaaDoorF.sz_27) ?_
    | refine TL_q rfl rfl (QT_loadW 1 rfl rfl Tryd.underlying27 rfl rfl rfl YtlipbopmdfpobaaDoorF.sz_27) ?_
    | refine TL_q rfl rfl (QT_loadW 2 rfl rfl Tryd.underlying27 rfl rfl rfl YtlipbopmdfpobaaDoorF.sz_27) ?_
    | refine TL_q rfl rfl (QT_loadA 0 rfl rfl Tryd.underlying27 rfl rfl rfl YtlipbopmdfpobaaDoorF.sz_27 (fun _ => rfl)) ?_
    | refine TL_q rfl rfl (QT_loadA 1 rfl rfl Tryd.underlying27 rfl rfl rfl YtlipbopmdfpobaaDoorF.sz_27 (fun _ => rfl)) ?_
    | refine TL_q rfl rfl (QT_loadA 2 rfl rfl Tryd.underlying27 rfl rfl rfl YtlipbopmdfpobaaDoorF.sz_27 (fun _ => rfl)) ?_
  refine TL_q rfl rfl (QT_move rfl rfl rfl) ?_
  refine TL_cq rfl rfl rfl rfl YtlipbopmdfpobaaDoorF.cal_9 rfl (fun _ => size_spec w0 _ hG L f h0) ?_
  refine TL_q rfl rfl (QT_assign rfl rfl rfl) ?_
  refine TL_nil ?_
  refine TX_then ?_
  refine TC_seq ?_
  refine TC_seq ?_
  refine TC_reg ?_
  first
    | refine TL_q rfl rfl (QT_loadW 0 rfl rfl Tryd.underlying27 rfl rfl rfl YtlipbopmdfpobaaDoorF.sz_27) ?_
    | refine TL_q rfl rfl (QT_loadW 1 rfl rfl Tryd.underlying27 rfl rfl rfl YtlipbopmdfpobaaDoorF.sz_27) ?_
    | refine TL_q rfl rfl (QT_loadW 2 rfl rfl Tryd.underlying27 rfl rfl rfl YtlipbopmdfpobaaDoorF.sz_27) ?_
    | refine TL_q rfl rfl (QT_loadA 0 rfl rfl Tryd.underlying27 rfl rfl rfl YtlipbopmdfpobaaDoorF.sz_27 (fun _ => rfl)) ?_
    | refine TL_q rfl rfl (QT_loadA 1 rfl rfl Tryd.underlying27 rfl rfl rfl YtlipbopmdfpobaaDoorF.sz_27 (fun _ => rfl)) ?_
    | refine TL_q rfl rfl (QT_loadA 2 rfl rfl Tryd.underlying27 rfl rfl rfl YtlipbopmdfpobaaDoorF.sz_27 (fun _ => rfl)) ?_
  refine TL_cq rfl rfl rfl rfl YtlipbopmdfpobaaDoorF.cal_7 rfl (fun _ => check_spec w0 _ hG L) ?_
  refine TL_q rfl rfl (QT_neq rfl rfl rfl rfl) ?_
  refine TL_nil ?_
  refine TX_then ?_
  first
    | refine TC_cond_dec rfl (fun h15 => ?_) (fun h15 => ?_)
    | refine TC_cond rfl (fun h15 => ?_) (fun h15 => ?_)
  ·
    refine TC_seq ?_
    refine TC_reg ?_
    refine TL_q rfl rfl (QT_move rfl rfl rfl) ?_
    refine TL_q rfl rfl (QT_eql rfl rfl rfl rfl) ?_
    refine TL_q rfl rfl (QT_move rfl rfl rfl) ?_
    refine TL_cq rfl rfl rfl rfl YtlipbopmdfpobaaDoorF.cal_11 rfl (fun _ => lives08 w0 _ hG) ?_
    refine TL_q rfl rfl (QT_and rfl rfl rfl rfl) ?_
    refine TL_q rfl rfl (QT_assign rfl rfl rfl) ?_
    refine TL_nil ?_
    refine TX_then ?_
    refine TC_ret ?_
    refine TX_then_ret ?_
    exact TX_ret (.inl rfl) (res1 rfl rfl) ⟨_, ⟨by first | (simp [size_bad (bad_of_err h15)]; done) | (exact sizes_low hok h51 f (.inl ⟨h63, rfl⟩)) | (exact sizes_low hok h51 f (.inr ⟨h63, rfl⟩)) | exact sizes_high hok h51, rfl⟩, (fun _ h => by first | exact h | exact h.tail | exact h.tail.tail | exact h.tail.tail.tail | exact h.tail.tail.tail.tail | exact h.tail.tail.tail.tail.tail | exact h.tail.tail.tail.tail.tail.tail | exact h.tail.tail.tail.tail.tail.tail.tail | exact h.tail.tail.tail.tail.tail.tail.tail.tail | exact h.tail.tail.tail.tail.tail.tail.tail.tail.tail | exact h.tail.tail.tail.tail.tail.tail.tail.tail.tail.tail | exact h.tail.tail.tail.tail.tail.tail.tail.tail.tail.tail.tail | exact h.tail.tail.tail.tail.tail.tail.tail.tail.tail.tail.tail.tail | exact h.tail.tail.tail.tail.tail.tail.tail.tail.tail.tail.tail.tail.tail)⟩
  ·
    have hok := ok_of_err h15
    have hbd := size_bounds hok f h0
    have hbd0 := size_bounds hok 0 (by decide)
    have hbd1 := size_bounds hok 1 (by decide)
    obtain ⟨⟨c1, c2⟩, ⟨m1, m2⟩, ⟨s1, s2⟩, hty, hro, hfl⟩ := okB_bounds hok
    have hp := mul_bd s1 s2 m1 m2
    have e2 : 2 * L.cs * L.cm = 2 * (L.cs * L.cm) := Int.mul_assoc ..
    refine TC_skip ?_
    refine TX_then ?_
    refine TC_seq ?_
    refine TC_reg ?_
    first
      | refine TL_q rfl rfl (QT_loadW 0 rfl rfl Tryd.underlying27 rfl rfl rfl YtlipbopmdfpobaaDoorF.sz_27) ?_
      | refine TL_q rfl rfl (QT_loadW 1 rfl rfl Tryd.underlying27 rfl rfl rfl YtlipbopmdfpobaaDoorF.sz_27) ?_
      | refine TL_q rfl rfl (QT_loadW 2 rfl rfl Tryd.underlying27 rfl rfl rfl YtlipbopmdfpobaaDoorF.sz_27) ?_
      | refine TL_q rfl rfl (QT_loadA 0 rfl rfl Tryd.underlying27 rfl rfl rfl YtlipbopmdfpobaaDoorF.sz_27 (fun _ => rfl)) ?_
      | refine TL_q rfl rfl (QT_loadA 1 rfl rfl Tryd.underlying27 rfl rfl rfl YtlipbopmdfpobaaDoorF.sz_27 (fun _ => rfl)) ?_
      | refine TL_q rfl rfl (QT_loadA 2 rfl rfl Tryd.underlying27 rfl rfl rfl YtlipbopmdfpobaaDoorF.sz_27 (fun _ => rfl)) ?_
    refine TL_cq rfl rfl rfl rfl YtlipbopmdfpobaaDoorF.cal_9 rfl (fun _ => size_spec w0 _ hG L 0 (by decide)) ?_
    refine TL_q rfl rfl (QT_assign rfl rfl rfl) ?_
    refine TL_nil ?_
    refine TX_then ?_
    refine TC_seq ?_
    refine TC_reg ?_
    first
      | refine TL_q rfl rfl (QT_loadW 0 rfl rfl Tryd.underlying27 rfl rfl rfl YtlipbopmdfpobaaDoorF.sz_27) ?_
      | refine TL_q rfl rfl (QT_loadW 1 rfl rfl Tryd.underlying27 rfl rfl rfl YtlipbopmdfpobaaDoorF.sz_27) ?_
      | refine TL_q rfl rfl (QT_loadW 2 rfl rfl Tryd.underlying27 rfl rfl rfl YtlipbopmdfpobaaDoorF.sz_27) ?_
      | refine TL_q rfl rfl (QT_loadA 0 rfl rfl Tryd.underlying27 rfl rfl rfl YtlipbopmdfpobaaDoorF.sz_27 (fun _ => rfl)) ?_
      | refine TL_q rfl rfl (QT_loadA 1 rfl rfl Tryd.underlying27 rfl rfl rfl YtlipbopmdfpobaaDoorF.sz_27 (fun _ => rfl)) ?_
      | refine TL_q rfl rfl (QT_loadA 2 rfl rfl Tryd.underlying27 rfl rfl rfl YtlipbopmdfpobaaDoorF.sz_27 (fun _ => rfl)) ?_
    refine TL_cq rfl rfl rfl rfl YtlipbopmdfpobaaDoorF.cal_9 rfl (fun _ => size_spec w0 _ hG L 1 (by decide)) ?_
    refine TL_q rfl rfl (QT_assign rfl rfl rfl) ?_
    refine TL_nil ?_
    refine TX_then ?_
    refine TC_seq ?_
    refine TC_seq ?_
    refine TC_reg ?_
    refine TL_q rfl rfl (QT_move rfl rfl rfl) ?_
    refine TL_q rfl rfl (QT_lss rfl rfl rfl rfl) ?_
    refine TL_q rfl rfl (QT_move rfl rfl rfl) ?_
    refine TL_q rfl rfl (QT_move rfl rfl rfl) ?_
    refine TL_q rfl rfl (QT_gtr rfl rfl rfl rfl) ?_
    refine TL_q rfl rfl (QT_or rfl rfl rfl rfl) ?_
    refine TL_q rfl rfl (QT_move rfl rfl rfl) ?_
    refine TL_q rfl rfl (QT_move rfl rfl rfl) ?_
    refine TL_q rfl rfl (QT_eql rfl rfl rfl rfl) ?_
    refine TL_q rfl rfl (QT_move rfl rfl rfl) ?_
    refine TL_q rfl rfl (QT_move rfl rfl rfl) ?_
    refine TL_q rfl rfl (QT_move rfl rfl rfl) ?_
    refine TL_q rfl rfl (QT_neq rfl rfl rfl rfl) ?_
    refine TL_q rfl rfl (QT_and rfl rfl rfl rfl) ?_
    refine TL_q rfl rfl (QT_or rfl rfl rfl rfl) ?_
    refine TL_q rfl rfl (QT_move rfl rfl rfl) ?_
    refine TL_q rfl rfl (QT_move rfl rfl rfl) ?_
    refine TL_q rfl rfl (QT_gtr rfl rfl rfl rfl) ?_
    refine TL_q rfl rfl (QT_move rfl rfl rfl) ?_
    refine TL_q rfl rfl (QT_move rfl rfl rfl) ?_
    refine TL_q rfl rfl (QT_move rfl rfl rfl) ?_
    refine TL_q rfl rfl (QT_neq rfl rfl rfl rfl) ?_
    refine TL_q rfl rfl (QT_and rfl rfl rfl rfl) ?_
    refine TL_q rfl rfl (QT_or rfl rfl rfl rfl) ?_
    refine TL_nil ?_
    refine TX_then ?_
    refine TC_cond rfl (fun h => absurd (h.symm.trans ((sizes_48 hok f h0))) (by decide)) (fun _ => ?_)
    refine TC_skip ?_
    refine TX_then ?_
    refine TC_seq ?_
    refine TC_seq ?_
    refine TC_reg ?_
    refine TL_q rfl rfl (QT_field rfl rfl YtlipbopmdfpobaaDoorF.fld_27_0 rfl) ?_
    first
      | refine TL_q rfl rfl (QT_load 0 rfl rfl Tryd.underlying3 rfl rfl rfl (fun _ => rfl)) ?_
      | refine TL_q rfl rfl (QT_load 1 rfl rfl Tryd.underlying3 rfl rfl rfl (fun _ => rfl)) ?_
      | refine TL_q rfl rfl (QT_load 2 rfl rfl Tryd.underlying3 rfl rfl rfl (fun _ => rfl)) ?_
    refine TL_q rfl rfl (QT_lss rfl rfl rfl rfl) ?_
    refine TL_nil ?_
    refine TX_then ?_
    first
      | refine TC_cond_dec rfl (fun h51 => ?_) (fun h51 => ?_)
      | refine TC_cond rfl (fun h51 => ?_) (fun h51 => ?_)
    ·
      refine TC_seq ?_
      refine TC_reg ?_
      refine TL_q rfl rfl (QT_field rfl rfl YtlipbopmdfpobaaDoorF.fld_27_1 rfl) ?_
      first
        | refine TL_q rfl rfl (QT_load 0 rfl rfl Tryd.underlying3 rfl rfl rfl (fun _ => rfl)) ?_
        | refine TL_q rfl rfl (QT_load 1 rfl rfl Tryd.underlying3 rfl rfl rfl (fun _ => rfl)) ?_
        | refine TL_q rfl rfl (QT_load 2 rfl rfl Tryd.underlying3 rfl rfl rfl (fun _ => rfl)) ?_
      refine TL_q rfl rfl (QT_mul rfl rfl rfl rfl (fun _ => ⟨by omega, by omega⟩)) ?_
      refine TL_q rfl rfl (QT_field rfl rfl YtlipbopmdfpobaaDoorF.fld_27_4 rfl) ?_
      first
        | refine TL_q rfl rfl (QT_load 0 rfl rfl Tryd.underlying3 rfl rfl rfl (fun _ => rfl)) ?_
        | refine TL_q rfl rfl (QT_load 1 rfl rfl Tryd.underlying3 rfl rfl rfl (fun _ => rfl)) ?_
        | refine TL_q rfl rfl (QT_load 2 rfl rfl Tryd.underlying3 rfl rfl rfl (fun _ => rfl)) ?_
      refine TL_q rfl rfl (QT_field rfl rfl YtlipbopmdfpobaaDoorF.fld_27_2 rfl) ?_
      first
        | refine TL_q rfl rfl (QT_load 0 rfl rfl Tryd.underlying3 rfl rfl rfl (fun _ => rfl)) ?_
        | refine TL_q rfl rfl (QT_load 1 rfl rfl Tryd.underlying3 rfl rfl rfl (fun _ => rfl)) ?_
        | refine TL_q rfl rfl (QT_load 2 rfl rfl Tryd.underlying3 rfl rfl rfl (fun _ => rfl)) ?_
      refine TL_q rfl rfl (QT_mul rfl rfl rfl rfl (fun _ => ⟨by omega, by omega⟩)) ?_
      refine TL_q rfl rfl (QT_add rfl rfl rfl rfl (fun _ => ⟨by omega, by omega⟩)) ?_
      refine TL_q rfl rfl (QT_assign rfl rfl rfl) ?_
      refine TL_nil ?_
      refine TX_then ?_
      refine TC_seq ?_
      refine TC_seq ?_
      refine TC_reg ?_
      refine TL_q rfl rfl (QT_field rfl rfl YtlipbopmdfpobaaDoorF.fld_27_0 rfl) ?_
      first
        | refine TL_q rfl rfl (QT_load 0 rfl rfl Tryd.underlying3 rfl rfl rfl (fun _ => rfl)) ?_
        | refine TL_q rfl rfl (QT_load 1 rfl rfl Tryd.underlying3 rfl rfl rfl (fun _ => rfl)) ?_
        | refine TL_q rfl rfl (QT_load 2 rfl rfl Tryd.underlying3 rfl rfl rfl (fun _ => rfl)) ?_
      refine TL_q rfl rfl (QT_eql rfl rfl rfl rfl) ?_
      refine TL_nil ?_
      refine TX_then ?_
      first
        | refine TC_cond_dec rfl (fun h63 => ?_) (fun h63 => ?_)
        | refine TC_cond rfl (fun h63 => ?_) (fun h63 => ?_)
      ·
        refine TC_reg ?_
        refine TL_q rfl rfl (QT_move rfl rfl rfl) ?_
        refine TL_q rfl rfl (QT_field rfl rfl YtlipbopmdfpobaaDoorF.fld_27_3 rfl) ?_
        first
          | refine TL_q rfl rfl (QT_load 0 rfl rfl Tryd.underlying3 rfl rfl rfl (fun _ => rfl)) ?_
          | refine TL_q rfl rfl (QT_load 1 rfl rfl Tryd.underlying3 rfl rfl rfl (fun _ => rfl)) ?_
          | refine TL_q rfl rfl (QT_load 2 rfl rfl Tryd.underlying3 rfl rfl rfl (fun _ => rfl)) ?_
        refine TL_q rfl rfl (QT_add rfl rfl rfl rfl (fun _ => ⟨by omega, by omega⟩)) ?_
        refine TL_q rfl rfl (QT_assign rfl rfl rfl) ?_
        refine TL_nil ?_
        refine TX_then ?_
        refine TC_seq ?_
        refine TC_reg ?_
        refine TL_q rfl rfl (QT_move rfl rfl rfl) ?_
        refine TL_q rfl rfl (QT_move rfl rfl rfl) ?_
        refine TL_q rfl rfl (QT_eql rfl rfl rfl rfl) ?_
        refine TL_q rfl rfl (QT_move rfl rfl rfl) ?_
        refine TL_q rfl rfl (QT_move rfl rfl rfl) ?_
        refine TL_q rfl rfl (QT_mul rfl rfl rfl rfl (fun _ => ⟨by omega, by omega⟩)) ?_
        refine TL_q rfl rfl (QT_move rfl rfl rfl) ?_
        refine TL_q rfl rfl (QT_geq rfl rfl rfl rfl) ?_
        refine TL_q rfl rfl (QT_and rfl rfl rfl rfl) ?_
        refine TL_q rfl rfl (QT_move rfl rfl rfl) ?_
        refine TL_q rfl rfl (QT_move rfl rfl rfl) ?_
        refine TL_q rfl rfl (QT_mul rfl rfl rfl rfl (fun _ => ⟨by omega, by omega⟩)) ?_
        refine TL_q rfl rfl (QT_move rfl rfl rfl) ?_
        refine TL_q rfl rfl (QT_add rfl rfl rfl rfl (fun _ => ⟨by omega, by omega⟩)) ?_
        refine TL_q rfl rfl (QT_lss rfl rfl rfl rfl) ?_
        refine TL_q rfl rfl (QT_and rfl rfl rfl rfl) ?_
        refine TL_q rfl rfl (QT_move rfl rfl rfl) ?_
        refine TL_cq rfl rfl rfl rfl YtlipbopmdfpobaaDoorF.cal_11 rfl (fun _ => lives08 w0 _ hG) ?_
        refine TL_q rfl rfl (QT_and rfl rfl rfl rfl) ?_
        refine TL_q rfl rfl (QT_assign rfl rfl rfl) ?_
        refine TL_nil ?_
        refine TX_then ?_
        refine TC_ret ?_
        refine TX_then_ret ?_
        exact TX_ret (.inl rfl) (res1 rfl rfl) ⟨_, ⟨by first | (simp [size_bad (bad_of_err h15)]; done) | (exact sizes_low hok h51 f (.inl ⟨h63, rfl⟩)) | (exact sizes_low hok h51 f (.inr ⟨h63, rfl⟩)) | exact sizes_high hok h51, rfl⟩, (fun _ h => by first | exact h | exact h.tail | exact h.tail.tail | exact h.tail.tail.tail | exact h.tail.tail.tail.tail | exact h.tail.tail.tail.tail.tail | exact h.tail.tail.tail.tail.tail.tail | exact h.tail.tail.tail.tail.tail.tail.tail | exact h.tail.tail.tail.tail.tail.tail.tail.tail | exact h.tail.tail.tail.tail.tail.tail.tail.tail.tail | exact h.tail.tail.tail.tail.tail.tail.tail.tail.tail.tail | exact h.tail.tail.tail.tail.tail.tail.tail.tail.tail.tail.tail | exact h.tail.tail.tail.tail.tail.tail.tail.tail.tail.tail.tail.tail | exact h.tail.tail.tail.tail.tail.tail.tail.tail.tail.tail.tail.tail.tail)⟩
      ·
        refine TC_skip ?_
        refine TX_then ?_
        refine TC_seq ?_
        refine TC_reg ?_
        refine TL_q rfl rfl (QT_move rfl rfl rfl) ?_
        refine TL_q rfl rfl (QT_move rfl rfl rfl) ?_
        refine TL_q rfl rfl (QT_eql rfl rfl rfl rfl) ?_
        refine TL_q rfl rfl (QT_move rfl rfl rfl) ?_
        refine TL_q rfl rfl (QT_move rfl rfl rfl) ?_
        refine TL_q rfl rfl (QT_mul rfl rfl rfl rfl (fun _ => ⟨by omega, by omega⟩)) ?_
        refine TL_q rfl rfl (QT_move rfl rfl rfl) ?_
        refine TL_q rfl rfl (QT_geq rfl rfl rfl rfl) ?_
        refine TL_q rfl rfl (QT_and rfl rfl rfl rfl) ?_
        refine TL_q rfl rfl (QT_move rfl rfl rfl) ?_
        refine TL_q rfl rfl (QT_move rfl rfl rfl) ?_
        refine TL_q rfl rfl (QT_mul rfl rfl rfl rfl (fun _ => ⟨by omega, by omega⟩)) ?_
        refine TL_q rfl rfl (QT_move rfl rfl rfl) ?_
        refine TL_q rfl rfl (QT_add rfl rfl rfl rfl (fun _ => ⟨by omega, by omega⟩)) ?_
        refine TL_q rfl rfl (QT_lss rfl rfl rfl rfl) ?_
        refine TL_q rfl rfl (QT_and rfl rfl rfl rfl) ?_
        refine TL_q rfl rfl (QT_move rfl rfl rfl) ?_
        refine TL_cq rfl rfl rfl rfl YtlipbopmdfpobaaDoorF.cal_11 rfl (fun _ => lives08 w0 _ hG) ?_
        refine TL_q rfl rfl (QT_and rfl rfl rfl rfl) ?_
        refine TL_q rfl rfl (QT_assign rfl rfl rfl) ?_
        refine TL_nil ?_
        refine TX_then ?_
        refine TC_ret ?_
        refine TX_then_ret ?_
        exact TX_ret (.inl rfl) (res1 rfl rfl) ⟨_, ⟨by first | (simp [size_bad (bad_of_err h15)]; done) | (exact sizes_low hok h51 f (.inl ⟨h63, rfl⟩)) | (exact sizes_low hok h51 f (.inr ⟨h63, rfl⟩)) | exact sizes_high hok h51, rfl⟩, (fun _ h => by first | exact h | exact h.tail | exact h.tail.tail | exact h.tail.tail.tail | exact h.tail.tail.tail.tail | exact h.tail.tail.tail.tail.tail | exact h.tail.tail.tail.tail.tail.tail | exact h.tail.tail.tail.tail.tail.tail.tail | exact h.tail.tail.tail.tail.tail.tail.tail.tail | exact h.tail.tail.tail.tail.tail.tail.tail.tail.tail | exact h.tail.tail.tail.tail.tail.tail.tail.tail.tail.tail | exact h.tail.tail.tail.tail.tail.tail.tail.tail.tail.tail.tail | exact h.tail.tail.tail.tail.tail.tail.tail.tail.tail.tail.tail.tail | exact h.tail.tail.tail.tail.tail.tail.tail.tail.tail.tail.tail.tail.tail)⟩
    ·
      refine TC_skip ?_
      refine TX_then ?_
      refine TC_seq ?_
      refine TC_reg ?_
      refine TL_q rfl rfl (QT_field rfl rfl YtlipbopmdfpobaaDoorF.fld_27_1 rfl) ?_
      first
        | refine TL_q rfl rfl (QT_load 0 rfl rfl Tryd.underlying3 rfl rfl rfl (fun _ => rfl)) ?_
        | refine TL_q rfl rfl (QT_load 1 rfl rfl Tryd.underlying3 rfl rfl rfl (fun _ => rfl)) ?_
        | refine TL_q rfl rfl (QT_load 2 rfl rfl Tryd.underlying3 rfl rfl rfl (fun _ => rfl)) ?_
      refine TL_q rfl rfl (QT_mul rfl rfl rfl rfl (fun _ => ⟨by omega, by omega⟩)) ?_
      refine TL_q rfl rfl (QT_field rfl rfl YtlipbopmdfpobaaDoorF.fld_27_4 rfl) ?_
      first
        | refine TL_q rfl rfl (QT_load 0 rfl rfl Tryd.underlying3 rfl rfl rfl (fun _ => rfl)) ?_
        | refine TL_q rfl rfl (QT_load 1 rfl rfl Tryd.underlying3 rfl rfl rfl (fun _ => rfl)) ?_
        | refine TL_q rfl rfl (QT_load 2 rfl rfl Tryd.underlying3 rfl rfl rfl (fun _ => rfl)) ?_
      refine TL_q rfl rfl (QT_mul rfl rfl rfl rfl (fun _ => ⟨by omega, by omega⟩)) ?_
      refine TL_q rfl rfl (QT_field rfl rfl YtlipbopmdfpobaaDoorF.fld_27_2 rfl) ?_
      first
        | refine TL_q rfl rfl (QT_load 0 rfl rfl Tryd.underlying3 rfl rfl rfl (fun _ => rfl)) ?_
        | refine TL_q rfl rfl (QT_load 1 rfl rfl Tryd.underlying3 rfl rfl rfl (fun _ => rfl)) ?_
        | refine TL_q rfl rfl (QT_load 2 rfl rfl Tryd.underlying3 rfl rfl rfl (fun _ => rfl)) ?_
      refine TL_q rfl rfl (QT_mul rfl rfl rfl rfl (fun _ => ⟨by omega, by omega⟩)) ?_
      refine TL_q rfl rfl (QT_add rfl rfl rfl rfl (fun _ => ⟨by omega, by omega⟩)) ?_
      refine TL_q rfl rfl (QT_assign rfl rfl rfl) ?_
      refine TL_nil ?_
      refine TX_then ?_
      refine TC_seq ?_
      refine TC_reg ?_
      refine TL_q rfl rfl (QT_move rfl rfl rfl) ?_
      refine TL_q rfl rfl (QT_move rfl rfl rfl) ?_
      refine TL_q rfl rfl (QT_lss rfl rfl rfl rfl) ?_
      refine TL_q rfl rfl (QT_move rfl rfl rfl) ?_
      refine TL_q rfl rfl (QT_move rfl rfl rfl) ?_
      refine TL_q rfl rfl (QT_move rfl rfl rfl) ?_
      refine TL_q rfl rfl (QT_sub rfl rfl rfl rfl (fun _ => ⟨by omega, by omega⟩)) ?_
      refine TL_q rfl rfl (QT_mul rfl rfl rfl rfl (fun _ => ⟨by omega, by omega⟩)) ?_
      refine TL_q rfl rfl (QT_move rfl rfl rfl) ?_
      refine TL_q rfl rfl (QT_sub rfl rfl rfl rfl (fun _ => ⟨by omega, by omega⟩)) ?_
      refine TL_q rfl rfl (QT_gtr rfl rfl rfl rfl) ?_
      refine TL_q rfl rfl (QT_and rfl rfl rfl rfl) ?_
      refine TL_q rfl rfl (QT_move rfl rfl rfl) ?_
      refine TL_q rfl rfl (QT_move rfl rfl rfl) ?_
      refine TL_q rfl rfl (QT_move rfl rfl rfl) ?_
      refine TL_q rfl rfl (QT_sub rfl rfl rfl rfl (fun _ => ⟨by omega, by omega⟩)) ?_
      refine TL_q rfl rfl (QT_mul rfl rfl rfl rfl (fun _ => ⟨by omega, by omega⟩)) ?_
      refine TL_q rfl rfl (QT_move rfl rfl rfl) ?_
      refine TL_q rfl rfl (QT_add rfl rfl rfl rfl (fun _ => ⟨by omega, by omega⟩)) ?_
      refine TL_q rfl rfl (QT_lss rfl rfl rfl rfl) ?_
      refine TL_q rfl rfl (QT_and rfl rfl rfl rfl) ?_
      refine TL_q rfl rfl (QT_move rfl rfl rfl) ?_
      refine TL_cq rfl rfl rfl rfl YtlipbopmdfpobaaDoorF.cal_11 rfl (fun _ => lives08 w0 _ hG) ?_
      refine TL_q rfl rfl (QT_and rfl rfl rfl rfl) ?_
      refine TL_q rfl rfl (QT_assign rfl rfl rfl) ?_
      refine TL_nil ?_
      refine TX_then ?_
      refine TC_ret ?_
      exact TX_ret (.inl rfl) (res1 rfl rfl) ⟨_, ⟨by first | (simp [size_bad (bad_of_err h15)]; done) | (exact sizes_low hok h51 f (.inl ⟨h63, rfl⟩)) | (exact sizes_low hok h51 f (.inr ⟨h63, rfl⟩)) | exact sizes_high hok h51, rfl⟩, (fun _ h => by first | exact h | exact h.tail | exact h.tail.tail | exact h.tail.tail.tail | exact h.tail.tail.tail.tail | exact h.tail.tail.tail.tail.tail | exact h.tail.tail.tail.tail.tail.tail | exact h.tail.tail.tail.tail.tail.tail.tail | exact h.tail.tail.tail.tail.tail.tail.tail.tail | exact h.tail.tail.tail.tail.tail.tail.tail.tail.tail | exact h.tail.tail.tail.tail.tail.tail.tail.tail.tail.tail | exact h.tail.tail.tail.tail.tail.tail.tail.tail.tail.tail.tail | exact h.tail.tail.tail.tail.tail.tail.tail.tail.tail.tail.tail.tail | exact h.tail.tail.tail.tail.tail.tail.tail.tail.tail.tail.tail.tail.tail)⟩

theorem lawMore (w0 : World) (η : Heap) (hG : Sets w0) (L : Lay) (f : Int) (h0 : 0 ≤ f) : CallsT Tryd.prog 6 [L.val, .int .u8 f] (St w0 η) fun v A' => v = .bool true ∧ A' = St w0 η := by
  refine CallsT.body Tryd.func6 rfl rfl ?_
  simp only [Tryd.ntmps6, slotsOf, Nat.reduceAdd]
  refine TC_seq ?_
  refine TC_reg ?_
  refine TL_e rfl rfl rfl (rfl) (ET_box rfl rfl) ?_
  rintro _ _ ⟨b2, rfl, rfl⟩
  refine TL_q rfl rfl (QT_assign rfl rfl rfl) ?_
  refine TL_nil ?_
  refine TX_then ?_
  refine TC_seq ?_
  refine TC_seq ?_
  refine TC_reg ?_
  first
    | refine TL_q rfl rfl (QT_loadW 0 rfl rfl Tryd.underlying27 rfl rfl rfl YtlipbopmdfpobaaDoorF.sz_27) ?_
    | refine TL_q rfl rfl (QT_loadW 1 rfl rfl Tryd.underlying27 rfl rfl rfl YtlipbopmdfpobaaDoorF.sz_27) ?_
    | refine TL_q rfl rfl (QT_loadW 2 rfl rfl Tryd.underlying27 rfl rfl rfl YtlipbopmdfpobaaDoorF.sz_27) ?_
    | refine TL_q rfl rfl (QT_loadA 0 rfl rfl Tryd.underlying27 rfl rfl rfl YtlipbopmdfpobaaDoorF.sz_27 (fun _ => rfl)) ?_
    | refine TL_q rfl rfl (QT_loadA 1 rfl rfl Tryd.underlying27 rfl rfl rfl YtlipbopmdfpobaaDoorF.sz_27 (fun _ => rfl)) ?_
    | refine TL_q rfl rfl (QT_loadA 2 rfl rfl Tryd.underlying27 rfl rfl rfl YtlipbopmdfpobaaDoorF.sz_27 (fun _ => rfl)) ?_
  refine TL_cq rfl rfl rfl rfl YtlipbopmdfpobaaDoorF.cal_7 rfl (fun _ => check_spec w0 _ hG L) ?_
  refine TL_q rfl rfl (QT_neq rfl rfl rfl rfl) ?_
  refine TL_nil ?_
  refine TX_then ?_
  first
    | refine TC_cond_dec rfl (fun h10 => ?_) (fun h10 => ?_)
    | refine TC_cond rfl (fun h10 => ?_) (fun h10 => ?_)
  ·
    refine TC_seq ?_
    refine TC_reg ?_
    refine TL_cq rfl rfl rfl rfl YtlipbopmdfpobaaDoorF.cal_11 rfl (fun _ => lives08 w0 _ hG) ?_
    refine TL_q rfl rfl (QT_assign rfl rfl rfl) ?_
    refine TL_nil ?_
    refine TX_then ?_
    refine TC_ret ?_
    refine TX_then_ret ?_
    exact TX_ret (.inl rfl) (res1 rfl rfl) ⟨_, ⟨by first | rfl | (simp [size_seven hok h43]; done) | exact absurd (size_bad (by rw [okB_more hok]; simp [h25]) f) h27 | exact absurd h40 (more_40 hok h25 f), rfl⟩, (fun _ h => by first | exact h | exact h.tail | exact h.tail.tail | exact h.tail.tail.tail | exact h.tail.tail.tail.tail | exact h.tail.tail.tail.tail.tail | exact h.tail.tail.tail.tail.tail.tail | exact h.tail.tail.tail.tail.tail.tail.tail | exact h.tail.tail.tail.tail.tail.tail.tail.tail | exact h.tail.tail.tail.tail.tail.tail.tail.tail.tail | exact h.tail.tail.tail.tail.tail.tail.tail.tail.tail.tail | exact h.tail.tail.tail.tail.tail.tail.tail.tail.tail.tail.tail | exact h.tail.tail.tail.tail.tail.tail.tail.tail.tail.tail.tail.tail | exact h.tail.tail.tail.tail.tail.tail.tail.tail.tail.tail.tail.tail.tail)⟩
  ·
    have hok := ok_of_err h10
    have hbd := size_bounds hok f h0
    obtain ⟨⟨c1, c2⟩, ⟨m1, m2⟩, ⟨s1, s2⟩, hty, hro, hfl⟩ := okB_bounds hok
    refine TC_skip ?_
    refine TX_then ?_
    refine TC_seq ?_
    refine TC_reg ?_
    first
      | refine TL_q rfl rfl (QT_loadW 0 rfl rfl Tryd.underlying27 rfl rfl rfl YtlipbopmdfpobaaDoorF.sz_27) ?_
      | refine TL_q rfl rfl (QT_loadW 1 rfl rfl Tryd.underlying27 rfl rfl rfl YtlipbopmdfpobaaDoorF.sz_27) ?_
      | refine TL_q rfl rfl (QT_loadW 2 rfl rfl Tryd.underlying27 rfl rfl rfl YtlipbopmdfpobaaDoorF.sz_27) ?_
      | refine TL_q rfl rfl (QT_loadA 0 rfl rfl Tryd.underlying27 rfl rfl rfl YtlipbopmdfpobaaDoorF.sz_27 (fun _ => rfl)) ?_
      | refine TL_q rfl rfl (QT_loadA 1 rfl rfl Tryd.underlying27 rfl rfl rfl YtlipbopmdfpobaaDoorF.sz_27 (fun _ => rfl)) ?_
      | refine TL_q rfl rfl (QT_loadA 2 rfl rfl Tryd.underlying27 rfl rfl rfl YtlipbopmdfpobaaDoorF.sz_27 (fun _ => rfl)) ?_
    refine TL_q rfl rfl (QT_move rfl rfl rfl) ?_
    refine TL_cq rfl rfl rfl rfl YtlipbopmdfpobaaDoorF.cal_9 rfl (fun _ => size_spec w0 _ hG L f h0) ?_
    refine TL_q rfl rfl (QT_assign rfl rfl rfl) ?_
    refine TL_nil ?_
    refine TX_then ?_
    refine TC_seq ?_
    refine TC_reg ?_
    first
      | refine TL_q rfl rfl (QT_loadW 0 rfl rfl Tryd.underlying27 rfl rfl rfl YtlipbopmdfpobaaDoorF.sz_27) ?_
      | refine TL_q rfl rfl (QT_loadW 1 rfl rfl Tryd.underlying27 rfl rfl rfl YtlipbopmdfpobaaDoorF.sz_27) ?_
      | refine TL_q rfl rfl (QT_loadW 2 rfl rfl Tryd.underlying27 rfl rfl rfl YtlipbopmdfpobaaDoorF.sz_27) ?_
      | refine TL_q rfl rfl (QT_loadA 0 rfl rfl Tryd.underlying27 rfl rfl rfl YtlipbopmdfpobaaDoorF.sz_27 (fun _ => rfl)) ?_
      | refine TL_q rfl rfl (QT_loadA 1 rfl rfl Tryd.underlying27 rfl rfl rfl YtlipbopmdfpobaaDoorF.sz_27 (fun _ => rfl)) ?_
      | refine TL_q rfl rfl (QT_loadA 2 rfl rfl Tryd.underlying27 rfl rfl rfl YtlipbopmdfpobaaDoorF.sz_27 (fun _ => rfl)) ?_
    refine TL_e rfl rfl rfl (rfl) (ET_alloc rfl YtlipbopmdfpobaaDoorF.zero_27) ?_
    rintro _ _ ⟨b6, rfl, rfl⟩
    first
      | refine TL_e0 rfl rfl (rfl) (ET_storeW 0 rfl rfl rfl YtlipbopmdfpobaaDoorF.sz_27 rfl rfl rfl) ?_
      | refine TL_e0 rfl rfl (rfl) (ET_storeW 1 rfl rfl rfl YtlipbopmdfpobaaDoorF.sz_27 rfl rfl rfl) ?_
      | refine TL_e0 rfl rfl (rfl) (ET_storeW 2 rfl rfl rfl YtlipbopmdfpobaaDoorF.sz_27 rfl rfl rfl) ?_
      | refine TL_e0 rfl rfl (rfl) (ET_store 0 rfl rfl rfl rfl YtlipbopmdfpobaaDoorF.sz_27 rfl rfl rfl) ?_
      | refine TL_e0 rfl rfl (rfl) (ET_store 1 rfl rfl rfl rfl YtlipbopmdfpobaaDoorF.sz_27 rfl rfl rfl) ?_
      | refine TL_e0 rfl rfl (rfl) (ET_store 2 rfl rfl rfl rfl YtlipbopmdfpobaaDoorF.sz_27 rfl rfl rfl) ?_
    rintro _ _ ⟨rfl, rfl⟩
    refine TL_nil ?_
    refine TX_then ?_
    refine TC_seq ?_
    refine TC_reg ?_
    refine TL_q rfl rfl (QT_field rfl rfl YtlipbopmdfpobaaDoorF.fld_27_4 rfl) ?_
    first
      | refine TL_q rfl rfl (QT_load 0 rfl rfl Tryd.underlying3 rfl rfl rfl (fun _ => rfl)) ?_
      | refine TL_q rfl rfl (QT_load 1 rfl rfl Tryd.underlying3 rfl rfl rfl (fun _ => rfl)) ?_
      | refine TL_q rfl rfl (QT_load 2 rfl rfl Tryd.underlying3 rfl rfl rfl (fun _ => rfl)) ?_
    refine TL_q rfl rfl (QT_add rfl rfl rfl rfl (fun _ => ⟨by omega, by omega⟩)) ?_
    refine TL_q rfl rfl (QT_field rfl rfl YtlipbopmdfpobaaDoorF.fld_27_4 rfl) ?_
    first
      | refine TL_e0 rfl rfl (rfl) (ET_store 0 rfl rfl rfl rfl YtlipbopmdfpobaaDoorF.sz_3 rfl rfl rfl) ?_
      | refine TL_e0 rfl rfl (rfl) (ET_store 1 rfl rfl rfl rfl YtlipbopmdfpobaaDoorF.sz_3 rfl rfl rfl) ?_
      | refine TL_e0 rfl rfl (rfl) (ET_store 2 rfl rfl rfl rfl YtlipbopmdfpobaaDoorF.sz_3 rfl rfl rfl) ?_
    rintro _ _ ⟨rfl, rfl⟩
    refine TL_nil ?_
    refine TX_then ?_
    refine TC_seq ?_
    refine TC_reg ?_
    first
      | refine TL_q rfl rfl (QT_loadW 0 rfl rfl Tryd.underlying27 rfl rfl rfl YtlipbopmdfpobaaDoorF.sz_27) ?_
      | refine TL_q rfl rfl (QT_loadW 1 rfl rfl Tryd.underlying27 rfl rfl rfl YtlipbopmdfpobaaDoorF.sz_27) ?_
      | refine TL_q rfl rfl (QT_loadW 2 rfl rfl Tryd.underlying27 rfl rfl rfl YtlipbopmdfpobaaDoorF.sz_27) ?_
      | refine TL_q rfl rfl (QT_loadA 0 rfl rfl Tryd.underlying27 rfl rfl rfl YtlipbopmdfpobaaDoorF.sz_27 (fun _ => rfl)) ?_
      | refine TL_q rfl rfl (QT_loadA 1 rfl rfl Tryd.underlying27 rfl rfl rfl YtlipbopmdfpobaaDoorF.sz_27 (fun _ => rfl)) ?_
      | refine TL_q rfl rfl (QT_loadA 2 rfl rfl Tryd.underlying27 rfl rfl rfl YtlipbopmdfpobaaDoorF.sz_27 (fun _ => rfl)) ?_
    refine TL_q rfl rfl (QT_move rfl rfl rfl) ?_
    refine TL_cq rfl rfl rfl rfl YtlipbopmdfpobaaDoorF.cal_9 rfl (fun _ => size_spec w0 _ hG ⟨L.ty, L.co, L.cm, L.fl, L.cs + 1, L.ro, L.r⟩ f h0) ?_
    refine TL_q rfl rfl (QT_assign rfl rfl rfl) ?_
    refine TL_nil ?_
    refine TX_then ?_
    refine TC_seq ?_
    refine TC_seq ?_
    refine TC_reg ?_
    refine TL_q rfl rfl (QT_field rfl rfl YtlipbopmdfpobaaDoorF.fld_27_4 rfl) ?_
    first
      | refine TL_q rfl rfl (QT_load 0 rfl rfl Tryd.underlying3 rfl rfl rfl (fun _ => rfl)) ?_
      | refine TL_q rfl rfl (QT_load 1 rfl rfl Tryd.underlying3 rfl rfl rfl (fun _ => rfl)) ?_
      | refine TL_q rfl rfl (QT_load 2 rfl rfl Tryd.underlying3 rfl rfl rfl (fun _ => rfl)) ?_
    refine TL_q rfl rfl (QT_eql rfl rfl rfl rfl) ?_
    refine TL_nil ?_
    refine TX_then ?_
    first
      | refine TC_cond_dec rfl (fun h25 => ?_) (fun h25 => ?_)
      | refine TC_cond rfl (fun h25 => ?_) (fun h25 => ?_)
    ·
      refine TC_seq ?_
      refine TC_reg ?_
      refine TL_q rfl rfl (QT_move rfl rfl rfl) ?_
      refine TL_q rfl rfl (QT_neq rfl rfl rfl rfl) ?_
      refine TL_nil ?_
      refine TX_then ?_
      first
        | refine TC_cond_dec rfl (fun h27 => ?_) (fun h27 => ?_)
        | refine TC_cond rfl (fun h27 => ?_) (fun h27 => ?_)
      ·
        refine TC_seq ?_
        refine TC_reg ?_
        refine TL_q rfl rfl (QT_assign rfl rfl rfl) ?_
        refine TL_nil ?_
        refine TX_then ?_
        refine TC_ret ?_
        refine TX_then_ret ?_
        exact TX_ret (.inl rfl) (res1 rfl rfl) ⟨_, ⟨by first | rfl | (simp [size_seven hok h43]; done) | exact absurd (size_bad (by rw [okB_more hok]; simp [h25]) f) h27 | exact absurd h40 (more_40 hok h25 f), rfl⟩, (fun _ h => by first | exact h | exact h.tail | exact h.tail.tail | exact h.tail.tail.tail | exact h.tail.tail.tail.tail | exact h.tail.tail.tail.tail.tail | exact h.tail.tail.tail.tail.tail.tail | exact h.tail.tail.tail.tail.tail.tail.tail | exact h.tail.tail.tail.tail.tail.tail.tail.tail | exact h.tail.tail.tail.tail.tail.tail.tail.tail.tail | exact h.tail.tail.tail.tail.tail.tail.tail.tail.tail.tail | exact h.tail.tail.tail.tail.tail.tail.tail.tail.tail.tail.tail | exact h.tail.tail.tail.tail.tail.tail.tail.tail.tail.tail.tail.tail | exact h.tail.tail.tail.tail.tail.tail.tail.tail.tail.tail.tail.tail.tail)⟩
      ·
        refine TC_skip ?_
        refine TX_then ?_
        refine TC_seq ?_
        refine TC_seq ?_
        refine TC_reg ?_
        refine TL_q rfl rfl (QT_field rfl rfl YtlipbopmdfpobaaDoorF.fld_27_0 rfl) ?_
        first
          | refine TL_q rfl rfl (QT_load 0 rfl rfl Tryd.underlying3 rfl rfl rfl (fun _ => rfl)) ?_
          | refine TL_q rfl rfl (QT_load 1 rfl rfl Tryd.underlying3 rfl rfl rfl (fun _ => rfl)) ?_
          | refine TL_q rfl rfl (QT_load 2 rfl rfl Tryd.underlying3 rfl rfl rfl (fun _ => rfl)) ?_
        refine TL_q rfl rfl (QT_neq rfl rfl rfl rfl) ?_
        refine TL_nil ?_
        refine TX_then ?_
        first
          | refine TC_cond_dec rfl (fun h43 => ?_) (fun h43 => ?_)
          | refine TC_cond rfl (fun h43 => ?_) (fun h43 => ?_)
        ·
          refine TC_seq ?_
          refine TC_reg ?_
          refine TL_cq rfl rfl rfl rfl YtlipbopmdfpobaaDoorF.cal_11 rfl (fun _ => lives08 w0 _ hG) ?_
          refine TL_q rfl rfl (QT_assign rfl rfl rfl) ?_
          refine TL_nil ?_
          refine TX_then ?_
          refine TC_ret ?_
          refine TX_then_ret ?_
          exact TX_ret (.inl rfl) (res1 rfl rfl) ⟨_, ⟨by first | rfl | (simp [size_seven hok h43]; done) | exact absurd (size_bad (by rw [okB_more hok]; simp [h25]) f) h27 | exact absurd h40 (more_40 hok h25 f), rfl⟩, (fun _ h => by first | exact h | exact h.tail | exact h.tail.tail | exact h.tail.tail.tail | exact h.tail.tail.tail.tail | exact h.tail.tail.tail.tail.tail | exact h.tail.tail.tail.tail.tail.tail | exact h.tail.tail.tail.tail.tail.tail.tail | exact h.tail.tail.tail.tail.tail.tail.tail.tail | exact h.tail.tail.tail.tail.tail.tail.tail.tail.tail | exact h.tail.tail.tail.tail.tail.tail.tail.tail.tail.tail | exact h.tail.tail.tail.tail.tail.tail.tail.tail.tail.tail.tail | exact h.tail.tail.tail.tail.tail.tail.tail.tail.tail.tail.tail.tail | exact h.tail.tail.tail.tail.tail.tail.tail.tail.tail.tail.tail.tail.tail)⟩
        ·
          refine TC_skip ?_
          refine TX_then ?_
          refine TC_seq ?_
          refine TC_reg ?_
          first
            | refine TL_q rfl rfl (QT_loadW 0 rfl rfl Tryd.underlying27 rfl rfl rfl YtlipbopmdfpobaaDoorF.sz_27) ?_
            | refine TL_q rfl rfl (QT_loadW 1 rfl rfl Tryd.underlying27 rfl rfl rfl YtlipbopmdfpobaaDoorF.sz_27) ?_
            | refine TL_q rfl rfl (QT_loadW 2 rfl rfl Tryd.underlying27 rfl rfl rfl YtlipbopmdfpobaaDoorF.sz_27) ?_
            | refine TL_q rfl rfl (QT_loadA 0 rfl rfl Tryd.underlying27 rfl rfl rfl YtlipbopmdfpobaaDoorF.sz_27 (fun _ => rfl)) ?_
            | refine TL_q rfl rfl (QT_loadA 1 rfl rfl Tryd.underlying27 rfl rfl rfl YtlipbopmdfpobaaDoorF.sz_27 (fun _ => rfl)) ?_
            | refine TL_q rfl rfl (QT_loadA 2 rfl rfl Tryd.underlying27 rfl rfl rfl YtlipbopmdfpobaaDoorF.sz_27 (fun _ => rfl)) ?_
          first
            | refine TL_e0 rfl rfl (rfl) (ET_storeW 0 rfl rfl rfl YtlipbopmdfpobaaDoorF.sz_27 rfl rfl rfl) ?_
            | refine TL_e0 rfl rfl (rfl) (ET_storeW 1 rfl rfl rfl YtlipbopmdfpobaaDoorF.sz_27 rfl rfl rfl) ?_
            | refine TL_e0 rfl rfl (rfl) (ET_storeW 2 rfl rfl rfl YtlipbopmdfpobaaDoorF.sz_27 rfl rfl rfl) ?_
            | refine TL_e0 rfl rfl (rfl) (ET_store 0 rfl rfl rfl rfl YtlipbopmdfpobaaDoorF.sz_27 rfl rfl rfl) ?_
            | refine TL_e0 rfl rfl (rfl) (ET_store 1 rfl rfl rfl rfl YtlipbopmdfpobaaDoorF.sz_27 rfl rfl rfl) ?_
            | refine TL_e0 rfl rfl (rfl) (ET_store 2 rfl rfl rfl rfl YtlipbopmdfpobaaDoorF.sz_27 rfl rfl rfl) ?_
          rintro _ _ ⟨rfl, rfl⟩
          refine TL_nil ?_
          refine TX_then ?_
          refine TC_seq ?_
          refine TC_reg ?_
          refine TL_q rfl rfl (QT_field rfl rfl YtlipbopmdfpobaaDoorF.fld_27_0 rfl) ?_
          first
            | refine TL_e0 rfl rfl (rfl) (ET_store 0 rfl rfl rfl rfl YtlipbopmdfpobaaDoorF.sz_3 rfl rfl rfl) ?_
            | refine TL_e0 rfl rfl (rfl) (ET_store 1 rfl rfl rfl rfl YtlipbopmdfpobaaDoorF.sz_3 rfl rfl rfl) ?_
            | refine TL_e0 rfl rfl (rfl) (ET_store 2 rfl rfl rfl rfl YtlipbopmdfpobaaDoorF.sz_3 rfl rfl rfl) ?_
          rintro _ _ ⟨rfl, rfl⟩
          refine TL_nil ?_
          refine TX_then ?_
          refine TC_seq ?_
          refine TC_draw [(0, false), (1, false), (3, false), (4, false), (5, false), (6, false), (2, true), (7, false), (8, false), (9, true), (10, false), (11, false)] YtlipbopmdfpobaaDoorF.mixed (by kernel_rfl) (St.calm _ _) ?_
          first
            | refine TV_ql rfl rfl rfl (QT_loadW 0 rfl rfl Tryd.underlying27 rfl rfl rfl YtlipbopmdfpobaaDoorF.sz_27) ?_
            | refine TV_ql rfl rfl rfl (QT_loadW 1 rfl rfl Tryd.underlying27 rfl rfl rfl YtlipbopmdfpobaaDoorF.sz_27) ?_
            | refine TV_ql rfl rfl rfl (QT_loadW 2 rfl rfl Tryd.underlying27 rfl rfl rfl YtlipbopmdfpobaaDoorF.sz_27) ?_
            | refine TV_ql rfl rfl rfl (QT_loadA 0 rfl rfl Tryd.underlying27 rfl rfl rfl YtlipbopmdfpobaaDoorF.sz_27 (fun _ => rfl)) ?_
            | refine TV_ql rfl rfl rfl (QT_loadA 1 rfl rfl Tryd.underlying27 rfl rfl rfl YtlipbopmdfpobaaDoorF.sz_27 (fun _ => rfl)) ?_
            | refine TV_ql rfl rfl rfl (QT_loadA 2 rfl rfl Tryd.underlying27 rfl rfl rfl YtlipbopmdfpobaaDoorF.sz_27 (fun _ => rfl)) ?_
          refine TV_q rfl rfl rfl (fun _ => QT_move rfl rfl rfl) ?_
          refine TV_q rfl rfl rfl (fun _ => QT_move rfl rfl rfl) ?_
          refine TV_q rfl rfl rfl (fun _ => QT_field rfl rfl YtlipbopmdfpobaaDoorF.fld_27_1 rfl) ?_
          first
            | refine TV_ql rfl rfl rfl (QT_load 0 rfl rfl Tryd.underlying3 rfl rfl rfl (fun _ => rfl)) ?_
            | refine TV_ql rfl rfl rfl (QT_load 1 rfl rfl Tryd.underlying3 rfl rfl rfl (fun _ => rfl)) ?_
            | refine TV_ql rfl rfl rfl (QT_load 2 rfl rfl Tryd.underlying3 rfl rfl rfl (fun _ => rfl)) ?_
          refine TV_q rfl rfl rfl (fun _ => QT_add rfl rfl rfl rfl (fun _ => ⟨by omega, by omega⟩)) ?_
          refine TV_cq rfl rfl rfl rfl rfl YtlipbopmdfpobaaDoorF.cal_9 rfl (fun _ => size_spec w0 _ hG ⟨7, L.co, L.cm, L.fl, L.cs, L.ro, L.r⟩ f h0) (.keep (by kernel_rfl) rfl (by first | exact QT_load 0 rfl rfl Tryd.underlying3 rfl rfl rfl (fun _ => rfl) | exact QT_load 1 rfl rfl Tryd.underlying3 rfl rfl rfl (fun _ => rfl) | exact QT_load 2 rfl rfl Tryd.underlying3 rfl rfl rfl (fun _ => rfl)) (.drop (by kernel_rfl) (.nil))) ?_
          refine TV_q rfl rfl rfl (fun _ => QT_eql rfl rfl rfl rfl) ?_
          refine TV_q rfl rfl rfl (fun _ => QT_move rfl rfl rfl) ?_
          refine TV_cq rfl rfl rfl rfl rfl YtlipbopmdfpobaaDoorF.cal_11 rfl (fun _ => lives08 w0 _ hG) (.keep (by kernel_rfl) rfl (by first | exact QT_load 0 rfl rfl Tryd.underlying3 rfl rfl rfl (fun _ => rfl) | exact QT_load 1 rfl rfl Tryd.underlying3 rfl rfl rfl (fun _ => rfl) | exact QT_load 2 rfl rfl Tryd.underlying3 rfl rfl rfl (fun _ => rfl)) (.nil)) ?_
          refine TV_q rfl rfl rfl (fun _ => QT_and rfl rfl rfl rfl) ?_
          refine TV_q rfl rfl rfl (fun _ => QT_assign rfl rfl rfl) ?_
          refine TV_end ?_
          refine TX_then ?_
          refine TC_ret ?_
          exact TX_ret (.inl rfl) (res1 rfl rfl) ⟨_, ⟨by first | rfl | (simp [size_seven hok h43]; done) | exact absurd (size_bad (by rw [okB_more hok]; simp [h25]) f) h27 | exact absurd h40 (more_40 hok h25 f), rfl⟩, (fun _ h => by first | exact h | exact h.tail | exact h.tail.tail | exact h.tail.tail.tail | exact h.tail.tail.tail.tail | exact h.tail.tail.tail.tail.tail | exact h.tail.tail.tail.tail.tail.tail | exact h.tail.tail.tail.tail.tail.tail.tail | exact h.tail.tail.tail.tail.tail.tail.tail.tail | exact h.tail.tail.tail.tail.tail.tail.tail.tail.tail | exact h.tail.tail.tail.tail.tail.tail.tail.tail.tail.tail | exact h.tail.tail.tail.tail.tail.tail.tail.tail.tail.tail.tail | exact h.tail.tail.tail.tail.tail.tail.tail.tail.tail.tail.tail.tail | exact h.tail.tail.tail.tail.tail.tail.tail.tail.tail.tail.tail.tail.tail)⟩
    ·
      refine TC_seq ?_
      refine TC_reg ?_
      refine TL_q rfl rfl (QT_move rfl rfl rfl) ?_
      refine TL_q rfl rfl (QT_move rfl rfl rfl) ?_
      refine TL_q rfl rfl (QT_lss rfl rfl rfl rfl) ?_
      refine TL_q rfl rfl (QT_move rfl rfl rfl) ?_
      refine TL_q rfl rfl (QT_field rfl rfl YtlipbopmdfpobaaDoorF.fld_27_2 rfl) ?_
      first
        | refine TL_q rfl rfl (QT_load 0 rfl rfl Tryd.underlying3 rfl rfl rfl (fun _ => rfl)) ?_
        | refine TL_q rfl rfl (QT_load 1 rfl rfl Tryd.underlying3 rfl rfl rfl (fun _ => rfl)) ?_
        | refine TL_q rfl rfl (QT_load 2 rfl rfl Tryd.underlying3 rfl rfl rfl (fun _ => rfl)) ?_
      refine TL_q rfl rfl (QT_geq rfl rfl rfl rfl) ?_
      refine TL_q rfl rfl (QT_move rfl rfl rfl) ?_
      refine TL_q rfl rfl (QT_move rfl rfl rfl) ?_
      refine TL_q rfl rfl (QT_move rfl rfl rfl) ?_
      refine TL_q rfl rfl (QT_eql rfl rfl rfl rfl) ?_
      refine TL_q rfl rfl (QT_and rfl rfl rfl rfl) ?_
      refine TL_q rfl rfl (QT_or rfl rfl rfl rfl) ?_
      refine TL_nil ?_
      refine TX_then ?_
      first
        | refine TC_cond_dec rfl (fun h40 => ?_) (fun h40 => ?_)
        | refine TC_cond rfl (fun h40 => ?_) (fun h40 => ?_)
      ·
        refine TC_seq ?_
        refine TC_reg ?_
        refine TL_q rfl rfl (QT_assign rfl rfl rfl) ?_
        refine TL_nil ?_
        refine TX_then ?_
        refine TC_ret ?_
        refine TX_then_ret ?_
        exact TX_ret (.inl rfl) (res1 rfl rfl) ⟨_, ⟨by first | rfl | (simp [size_seven hok h43]; done) | exact absurd (size_bad (by rw [okB_more hok]; simp [h25]) f) h27 | exact absurd h40 (more_40 hok h25 f), rfl⟩, (fun _ h => by first | exact h | exact h.tail | exact h.tail.tail | exact h.tail.tail.tail | exact h.tail.tail.tail.tail | exact h.tail.tail.tail.tail.tail | exact h.tail.tail.tail.tail.tail.tail | exact h.tail.tail.tail.tail.tail.tail.tail | exact h.tail.tail.tail.tail.tail.tail.tail.tail | exact h.tail.tail.tail.tail.tail.tail.tail.tail.tail | exact h.tail.tail.tail.tail.tail.tail.tail.tail.tail.tail | exact h.tail.tail.tail.tail.tail.tail.tail.tail.tail.tail.tail | exact h.tail.tail.tail.tail.tail.tail.tail.tail.tail.tail.tail.tail | exact h.tail.tail.tail.tail.tail.tail.tail.tail.tail.tail.tail.tail.tail)⟩
      ·
        refine TC_skip ?_
        refine TX_then ?_
        refine TC_seq ?_
        refine TC_seq ?_
        refine TC_reg ?_
        refine TL_q rfl rfl (QT_field rfl rfl YtlipbopmdfpobaaDoorF.fld_27_0 rfl) ?_
        first
          | refine TL_q rfl rfl (QT_load 0 rfl rfl Tryd.underlying3 rfl rfl rfl (fun _ => rfl)) ?_
          | refine TL_q rfl rfl (QT_load 1 rfl rfl Tryd.underlying3 rfl rfl rfl (fun _ => rfl)) ?_
          | refine TL_q rfl rfl (QT_load 2 rfl rfl Tryd.underlying3 rfl rfl rfl (fun _ => rfl)) ?_
        refine TL_q rfl rfl (QT_neq rfl rfl rfl rfl) ?_
        refine TL_nil ?_
        refine TX_then ?_
        first
          | refine TC_cond_dec rfl (fun h43 => ?_) (fun h43 => ?_)
          | refine TC_cond rfl (fun h43 => ?_) (fun h43 => ?_)
        ·
          refine TC_seq ?_
          refine TC_reg ?_
          refine TL_cq rfl rfl rfl rfl YtlipbopmdfpobaaDoorF.cal_11 rfl (fun _ => lives08 w0 _ hG) ?_
          refine TL_q rfl rfl (QT_assign rfl rfl rfl) ?_
          refine TL_nil ?_
          refine TX_then ?_
          refine TC_ret ?_
          refine TX_then_ret ?_
          exact TX_ret (.inl rfl) (res1 rfl rfl) ⟨_, ⟨by first | rfl | (simp [size_seven hok h43]; done) | exact absurd (size_bad (by rw [okB_more hok]; simp [h25]) f) h27 | exact absurd h40 (more_40 hok h25 f), rfl⟩, (fun _ h => by first | exact h | exact h.tail | exact h.tail.tail | exact h.tail.tail.tail | exact h.tail.tail.tail.tail | exact h.tail.tail.tail.tail.tail | exact h.tail.tail.tail.tail.tail.tail | exact h.tail.tail.tail.tail.tail.tail.tail | exact h.tail.tail.tail.tail.tail.tail.tail.tail | exact h.tail.tail.tail.tail.tail.tail.tail.tail.tail | exact h.tail.tail.tail.tail.tail.tail.tail.tail.tail.tail | exact h.tail.tail.tail.tail.tail.tail.tail.tail.tail.tail.tail | exact h.tail.tail.tail.tail.tail.tail.tail.tail.tail.tail.tail.tail | exact h.tail.tail.tail.tail.tail.tail.tail.tail.tail.tail.tail.tail.tail)⟩
        ·
          refine TC_skip ?_
          refine TX_then ?_
          refine TC_seq ?_
          refine TC_reg ?_
          first
            | refine TL_q rfl rfl (QT_loadW 0 rfl rfl Tryd.underlying27 rfl rfl rfl YtlipbopmdfpobaaDoorF.sz_27) ?_
            | refine TL_q rfl rfl (QT_loadW 1 rfl rfl Tryd.underlying27 rfl rfl rfl YtlipbopmdfpobaaDoorF.sz_27) ?_
            | refine TL_q rfl rfl (QT_loadW 2 rfl rfl Tryd.underlying27 rfl rfl rfl YtlipbopmdfpobaaDoorF.sz_27) ?_
            | refine TL_q rfl rfl (QT_loadA 0 rfl rfl Tryd.underlying27 rfl rfl rfl YtlipbopmdfpobaaDoorF.sz_27 (fun _ => rfl)) ?_
            | refine TL_q rfl rfl (QT_loadA 1 rfl rfl Tryd.underlying27 rfl rfl rfl YtlipbopmdfpobaaDoorF.sz_27 (fun _ => rfl)) ?_
            | refine TL_q rfl rfl (QT_loadA 2 rfl rfl Tryd.underlying27 rfl rfl rfl YtlipbopmdfpobaaDoorF.sz_27 (fun _ => rfl)) ?_
          first
            | refine TL_e0 rfl rfl (rfl) (ET_storeW 0 rfl rfl rfl YtlipbopmdfpobaaDoorF.sz_27 rfl rfl rfl) ?_
            | refine TL_e0 rfl rfl (rfl) (ET_storeW 1 rfl rfl rfl YtlipbopmdfpobaaDoorF.sz_27 rfl rfl rfl) ?_
            | refine TL_e0 rfl rfl (rfl) (ET_storeW 2 rfl rfl rfl YtlipbopmdfpobaaDoorF.sz_27 rfl rfl rfl) ?_
            | refine TL_e0 rfl rfl (rfl) (ET_store 0 rfl rfl rfl rfl YtlipbopmdfpobaaDoorF.sz_27 rfl rfl rfl) ?_
            | refine TL_e0 rfl rfl (rfl) (ET_store 1 rfl rfl rfl rfl YtlipbopmdfpobaaDoorF.sz_27 rfl rfl rfl) ?_
            | refine TL_e0 rfl rfl (rfl) (ET_store 2 rfl rfl rfl rfl YtlipbopmdfpobaaDoorF.sz_27 rfl rfl rfl) ?_
          rintro _ _ ⟨rfl, rfl⟩
          refine TL_nil ?_
          refine TX_then ?_
          refine TC_seq ?_
          refine TC_reg ?_
          refine TL_q rfl rfl (QT_field rfl rfl YtlipbopmdfpobaaDoorF.fld_27_0 rfl) ?_
          first
            | refine TL_e0 rfl rfl (rfl) (ET_store 0 rfl rfl rfl rfl YtlipbopmdfpobaaDoorF.sz_3 rfl rfl rfl) ?_
            | refine TL_e0 rfl rfl (rfl) (ET_store 1 rfl rfl rfl rfl YtlipbopmdfpobaaDoorF.sz_3 rfl rfl rfl) ?_
            | refine TL_e0 rfl rfl (rfl) (ET_store 2 rfl rfl rfl rfl YtlipbopmdfpobaaDoorF.sz_3 rfl rfl rfl) ?_
          rintro _ _ ⟨rfl, rfl⟩
          refine TL_nil ?_
          refine TX_then ?_
          refine TC_seq ?_
          refine TC_draw [(0, false), (1, false), (3, false), (4, false), (5, false), (6, false), (2, true), (7, false), (8, false), (9, true), (10, false), (11, false)] YtlipbopmdfpobaaDoorF.mixed (by kernel_rfl) (St.calm _ _) ?_
          first
            | refine TV_ql rfl rfl rfl (QT_loadW 0 rfl rfl Tryd.underlying27 rfl rfl rfl YtlipbopmdfpobaaDoorF.sz_27) ?_
            | refine TV_ql rfl rfl rfl (QT_loadW 1 rfl rfl Tryd.underlying27 rfl rfl rfl YtlipbopmdfpobaaDoorF.sz_27) ?_
            | refine TV_ql rfl rfl rfl (QT_loadW 2 rfl rfl Tryd.underlying27 rfl rfl rfl YtlipbopmdfpobaaDoorF.sz_27) ?_
            | refine TV_ql rfl rfl rfl (QT_loadA 0 rfl rfl Tryd.underlying27 rfl rfl rfl YtlipbopmdfpobaaDoorF.sz_27 (fun _ => rfl)) ?_
            | refine TV_ql rfl rfl rfl (QT_loadA 1 rfl rfl Tryd.underlying27 rfl rfl rfl YtlipbopmdfpobaaDoorF.sz_27 (fun _ => rfl)) ?_
            | refine TV_ql rfl rfl rfl (QT_loadA 2 rfl rfl Tryd.underlying27 rfl rfl rfl YtlipbopmdfpobaaDoorF.sz_27 (fun _ => rfl)) ?_
          refine TV_q rfl rfl rfl (fun _ => QT_move rfl rfl rfl) ?_
          refine TV_q rfl rfl rfl (fun _ => QT_move rfl rfl rfl) ?_
          refine TV_q rfl rfl rfl (fun _ => QT_field rfl rfl YtlipbopmdfpobaaDoorF.fld_27_1 rfl) ?_
          first
            | refine TV_ql rfl rfl rfl (QT_load 0 rfl rfl Tryd.underlying3 rfl rfl rfl (fun _ => rfl)) ?_
            | refine TV_ql rfl rfl rfl (QT_load 1 rfl rfl Tryd.underlying3 rfl rfl rfl (fun _ => rfl)) ?_
            | refine TV_ql rfl rfl rfl (QT_load 2 rfl rfl Tryd.underlying3 rfl rfl rfl (fun _ => rfl)) ?_
          refine TV_q rfl rfl rfl (fun _ => QT_add rfl rfl rfl rfl (fun _ => ⟨by omega, by omega⟩)) ?_
          refine TV_cq rfl rfl rfl rfl rfl YtlipbopmdfpobaaDoorF.cal_9 rfl (fun _ => size_spec w0 _ hG ⟨7, L.co, L.cm, L.fl, L.cs, L.ro, L.r⟩ f h0) (.keep (by kernel_rfl) rfl (by first | exact QT_load 0 rfl rfl Tryd.underlying3 rfl rfl rfl (fun _ => rfl) | exact QT_load 1 rfl rfl Tryd.underlying3 rfl rfl rfl (fun _ => rfl) | exact QT_load 2 rfl rfl Tryd.underlying3 rfl rfl rfl (fun _ => rfl)) (.drop (by kernel_rfl) (.nil))) ?_
          refine TV_q rfl rfl rfl (fun _ => QT_eql rfl rfl rfl rfl) ?_
          refine TV_q rfl rfl rfl (fun _ => QT_move rfl rfl rfl) ?_
          refine TV_cq rfl rfl rfl rfl rfl YtlipbopmdfpobaaDoorF.cal_11 rfl (fun _ => lives08 w0 _ hG) (.keep (by kernel_rfl) rfl (by first | exact QT_load 0 rfl rfl Tryd.underlying3 rfl rfl rfl (fun _ => rfl) | exact QT_load 1 rfl rfl Tryd.underlying3 rfl rfl rfl (fun _ => rfl) | exact QT_load 2 rfl rfl Tryd.underlying3 rfl rfl rfl (fun _ => rfl)) (.nil)) ?_
          refine TV_q rfl rfl rfl (fun _ => QT_and rfl rfl rfl rfl) ?_
          refine TV_q rfl rfl rfl (fun _ => QT_assign rfl rfl rfl) ?_
          refine TV_end ?_
          refine TX_then ?_
          refine TC_ret ?_
          exact TX_ret (.inl rfl) (res1 rfl rfl) ⟨_, ⟨by first | rfl | (simp [size_seven hok h43]; done) | exact absurd (size_bad (by rw [okB_more hok]; simp [h25]) f) h27 | exact absurd h40 (more_40 hok h25 f), rfl⟩, (fun _ h => by first | exact h | exact h.tail | exact h.tail.tail | exact h.tail.tail.tail | exact h.tail.tail.tail.tail | exact h.tail.tail.tail.tail.tail | exact h.tail.tail.tail.tail.tail.tail | exact h.tail.tail.tail.tail.tail.tail.tail | exact h.tail.tail.tail.tail.tail.tail.tail.tail | exact h.tail.tail.tail.tail.tail.tail.tail.tail.tail | exact h.tail.tail.tail.tail.tail.tail.tail.tail.tail.tail | exact h.tail.tail.tail.tail.tail.tail.tail.tail.tail.tail.tail | exact h.tail.tail.tail.tail.tail.tail.tail.tail.tail.tail.tail.tail | exact h.tail.tail.tail.tail.tail.tail.tail.tail.tail.tail.tail.tail.tail)⟩
end Go.Proofs.YtlipbopmdfpobaaDoor

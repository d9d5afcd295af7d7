/- A ROW OF BITS, the program's own: a number more, noughts up to a whole byte, its bytes, how many bits. -/
import Derived.Test.YtjehicncbpljaaaDoorP06b
import Derived.Test.YtjehicncbpljaaaDoorJ
import Derived.Test.YtjehicncbpljaaaDoorK
namespace Go.Proofs.YtjehicncbpljaaaDoor
open Go Go.Gx Go.RowKit
set_option maxRecDepth 100000

def rowC (bv : Value) (free made : Int) : List Value := [bv, .int .i64 free, .int .i64 made]
theorem new_spec (w0 : Base) (η : Heap) :
    CallsT Tryd.prog 78 [] (St w0 η) fun v A' => ∃ rb, v = .pointer (some ⟨rb, 0, none⟩) ∧ A' = St w0 ((rb, 201, rowC (.slice none 0 0) 0 1) :: η) := by
  refine CallsT.body Tryd.func78 rfl rfl ?_
  simp only [Tryd.ntmps78, slotsOf, Nat.reduceAdd]
  refine TC_seq ?_
  refine TC_reg ?_
  refine TL_q rfl rfl (QT_assign rfl rfl rfl) ?_
  refine TL_nil ?_
  refine TX_then ?_
  refine TC_seq ?_
  refine TC_reg ?_
  refine TL_q rfl rfl (QT_build rfl rfl YtjehicncbpljaaaDoorF.zero_201 YtjehicncbpljaaaDoorF.pl_201 rfl rfl rfl) ?_
  refine TL_e rfl rfl rfl (rfl) (ET_box rfl rfl) ?_
  rintro _ _ ⟨b2, rfl, rfl⟩
  refine TL_q rfl rfl (QT_assign rfl rfl rfl) ?_
  refine TL_nil ?_
  refine TX_then ?_
  refine TC_ret ?_
  exact TX_ret (.inl rfl) (res1 rfl rfl) ⟨_, ⟨b2, rfl, rfl⟩, fun _ h => h⟩
theorem there_spec (w0 : Base) (η : Heap) (rb : Nat) (bv : Value) (free made : Int) :
    CallsT Tryd.prog 102 [.pointer (some ⟨rb, 0, none⟩)] (St w0 ((rb, 201, rowC bv free made) :: η)) fun v A' => v = .bool (decide (made = 1)) ∧ A' = St w0 ((rb, 201, rowC bv free made) :: η) := by
  refine CallsT.body Tryd.func102 rfl rfl ?_
  simp only [Tryd.ntmps102, slotsOf, Nat.reduceAdd]
  refine TC_seq ?_
  refine TC_reg ?_
  refine TL_q rfl rfl (QT_assign rfl rfl rfl) ?_
  refine TL_nil ?_
  refine TX_then ?_
  refine TC_seq ?_
  refine TC_reg ?_
  refine TL_q rfl rfl (QT_move rfl rfl rfl) ?_
  refine TL_q rfl rfl (QT_neNilP rfl rfl Tryd.underlying151 rfl rfl) ?_
  refine TL_q rfl rfl (QT_move rfl rfl rfl) ?_
  refine TL_q rfl rfl (QT_move rfl rfl rfl) ?_
  refine TL_q rfl rfl (QT_nilCheck rfl rfl rfl) ?_
  refine TL_q rfl rfl (QT_field rfl rfl YtjehicncbpljaaaDoorF.fld_201_1 rfl) ?_
  first
    | refine TL_q rfl rfl (QT_load 0 rfl rfl Tryd.underlying3 rfl rfl rfl (fun _ => rfl)) ?_
    | refine TL_q rfl rfl (QT_load 1 rfl rfl Tryd.underlying3 rfl rfl rfl (fun _ => rfl)) ?_
    | refine TL_q rfl rfl (QT_load 2 rfl rfl Tryd.underlying3 rfl rfl rfl (fun _ => rfl)) ?_
  refine TL_q rfl rfl (QT_eql rfl rfl rfl rfl) ?_
  refine TL_q rfl rfl (QT_and rfl rfl rfl rfl) ?_
  refine TL_q rfl rfl (QT_assign rfl rfl rfl) ?_
  refine TL_nil ?_
  refine TX_then ?_
  refine TC_ret ?_
  exact TX_ret (.inl rfl) (res1 rfl rfl) ⟨_, ⟨by simp, rfl⟩, fun _ h => h⟩
theorem thereNil_spec (w0 : Base) (η : Heap) :
    CallsT Tryd.prog 102 [.pointer none] (St w0 η) fun v A' => v = .bool false ∧ A' = St w0 η := by
  refine CallsT.body Tryd.func102 rfl rfl ?_
  simp only [Tryd.ntmps102, slotsOf, Nat.reduceAdd]
  refine TC_seq ?_
  refine TC_reg ?_
  refine TL_q rfl rfl (QT_assign rfl rfl rfl) ?_
  refine TL_nil ?_
  refine TX_then ?_
  refine TC_seq ?_
  refine TC_reg ?_
  refine TL_q rfl rfl (QT_move rfl rfl rfl) ?_
  refine TL_q rfl rfl (QT_neNilP rfl rfl Tryd.underlying151 rfl rfl) ?_
  refine TL_q rfl rfl (QT_move rfl rfl rfl) ?_
  refine TL_q rfl rfl (QT_move rfl rfl rfl) ?_
  refine TL_skip rfl rfl rfl rfl ?_
  refine TL_skip rfl rfl rfl rfl ?_
  refine TL_skip rfl rfl rfl rfl ?_
  refine TL_skip rfl rfl rfl rfl ?_
  refine TL_q rfl rfl (QT_and_f rfl rfl rfl (fun _ => rfl)) ?_
  refine TL_q rfl rfl (QT_assign rfl rfl rfl) ?_
  refine TL_nil ?_
  refine TX_then ?_
  refine TC_ret ?_
  exact TX_ret (.inl rfl) (res1 rfl rfl) ⟨_, ⟨rfl, rfl⟩, fun _ h => h⟩
theorem len_spec (w0 : Base) (η : Heap) (rb : Nat) (ad : Option Addr) (n cap free : Nat) (hn : n ≤ 140737488355328) (hf : free ≤ 8) :
    CallsT Tryd.prog 103 [.pointer (some ⟨rb, 0, none⟩)] (St w0 ((rb, 201, rowC (.slice ad n cap) free 1) :: η)) fun v A' => v = .int .i64 (8 * (n : Int) - (free : Int)) ∧ A' = St w0 ((rb, 201, rowC (.slice ad n cap) free 1) :: η) := by
  refine CallsT.body Tryd.func103 rfl rfl ?_
  simp only [Tryd.ntmps103, slotsOf, Nat.reduceAdd]
  refine TC_seq ?_
  refine TC_reg ?_
  refine TL_q rfl rfl (QT_assign rfl rfl rfl) ?_
  refine TL_nil ?_
  refine TX_then ?_
  refine TC_seq ?_
  refine TC_seq ?_
  refine TC_reg ?_
  refine TL_q rfl rfl (QT_move rfl rfl rfl) ?_
  refine TL_cq rfl rfl rfl rfl YtjehicncbpljaaaDoorF.cal_102 rfl (fun _ => there_spec w0 η rb _ free 1) ?_
  refine TL_q rfl rfl (QT_not rfl rfl rfl) ?_
  refine TL_nil ?_
  refine TX_then ?_
  refine TC_cond rfl (fun h => absurd (h.symm.trans ((show (_ : Bool) = false by rfl))) (by decide)) (fun _ => ?_)
  refine TC_skip ?_
  refine TX_then ?_
  refine TC_seq ?_
  refine TC_draw [(0, 0), (1, 0), (2, 0), (3, 0), (4, 0), (5, 0), (6, 0), (7, 0), (8, 0), (9, 0), (10, 0), (11, 0), (12, 0), (13, 0)] YtjehicncbpljaaaDoorF.mixed (by kernel_rfl) (St.calm _ _) ?_
  refine TV_q rfl rfl rfl (fun _ => QT_move rfl rfl rfl) ?_
  refine TV_q rfl rfl rfl (fun _ => QT_nilCheck rfl rfl rfl) ?_
  refine TV_q rfl rfl rfl (fun _ => QT_field rfl rfl YtjehicncbpljaaaDoorF.fld_201_0 rfl) ?_
  refine TV_q rfl rfl rfl (fun _ => QT_field rfl rfl YtjehicncbpljaaaDoorF.fld_199_0 rfl) ?_
  first
    | refine TV_ql rfl rfl rfl (QT_load 0 rfl rfl Tryd.underlying28 rfl rfl rfl (fun _ => rfl)) ?_
    | refine TV_ql rfl rfl rfl (QT_load 1 rfl rfl Tryd.underlying28 rfl rfl rfl (fun _ => rfl)) ?_
    | refine TV_ql rfl rfl rfl (QT_load 2 rfl rfl Tryd.underlying28 rfl rfl rfl (fun _ => rfl)) ?_
  refine TV_q rfl rfl rfl (fun _ => QT_len rfl rfl Tryd.underlying28 rfl) ?_
  refine TV_q rfl rfl rfl (fun _ => QT_mul rfl rfl rfl rfl (fun _ => ⟨by omega, by omega⟩)) ?_
  refine TV_q rfl rfl rfl (fun _ => QT_move rfl rfl rfl) ?_
  refine TV_q rfl rfl rfl (fun _ => QT_nilCheck rfl rfl rfl) ?_
  refine TV_q rfl rfl rfl (fun _ => QT_field rfl rfl YtjehicncbpljaaaDoorF.fld_201_0 rfl) ?_
  refine TV_q rfl rfl rfl (fun _ => QT_field rfl rfl YtjehicncbpljaaaDoorF.fld_199_1 rfl) ?_
  first
    | refine TV_ql rfl rfl rfl (QT_load 0 rfl rfl Tryd.underlying3 rfl rfl rfl (fun _ => rfl)) ?_
    | refine TV_ql rfl rfl rfl (QT_load 1 rfl rfl Tryd.underlying3 rfl rfl rfl (fun _ => rfl)) ?_
    | refine TV_ql rfl rfl rfl (QT_load 2 rfl rfl Tryd.underlying3 rfl rfl rfl (fun _ => rfl)) ?_
  refine TV_q rfl rfl rfl (fun _ => QT_sub rfl rfl rfl rfl (fun _ => ⟨by omega, by omega⟩)) ?_
  refine TV_q rfl rfl rfl (fun _ => QT_assign rfl rfl rfl) ?_
  refine TV_end ?_
  refine TX_then ?_
  refine TC_ret ?_
  exact TX_ret (.inl rfl) (res1 rfl rfl) ⟨_, ⟨rfl, rfl⟩, fun _ h => h⟩
theorem clipB_spec (w0 : Base) (η H : Heap) (v : Value) (n : Nat) (xs : List Value) (hF : Frag 5 1 v n xs H) :
    CallsT Tryd.prog 81 [v] (St w0 (H ++ η)) fun v A' => Frag 5 1 v n xs H ∧ A' = St w0 (H ++ η) := by
  obtain ⟨hl, hF⟩ := hF
  rcases hF with ⟨rfl, rfl, rfl⟩ | ⟨b, cap, rest, rfl, hc, hlen, rfl⟩
  · refine CallsT.body Tryd.func81 rfl rfl ?_
    simp only [Tryd.ntmps81, slotsOf, Nat.reduceAdd]
    refine TC_seq ?_
    refine TC_reg ?_
    refine TL_q rfl rfl (QT_assign rfl rfl rfl) ?_
    refine TL_nil ?_
    refine TX_then ?_
    refine TC_seq ?_
    refine TC_reg ?_
    refine TL_q rfl rfl (QT_move rfl rfl rfl) ?_
    refine TL_q rfl rfl (QT_move rfl rfl rfl) ?_
    refine TL_q rfl rfl (QT_len rfl rfl Tryd.underlying28 rfl) ?_
    refine TL_q rfl rfl (QT_move rfl rfl rfl) ?_
    refine TL_q rfl rfl (QT_len rfl rfl Tryd.underlying28 rfl) ?_
    refine TL_q rfl rfl (QT_slcHM (0) (0) rfl rfl rfl Tryd.underlying28 YtjehicncbpljaaaDoorF.sz_5 rfl rfl rfl rfl rfl (fun _ => ⟨by omega, by omega⟩)) ?_
    refine TL_q rfl rfl (QT_assign rfl rfl rfl) ?_
    refine TL_nil ?_
    refine TX_then ?_
    refine TC_ret ?_
    exact TX_ret (.inl rfl) (res1 rfl rfl) ⟨_, ⟨⟨hl, .inl ⟨rfl, rfl, rfl⟩⟩, rfl⟩, fun _ h => h⟩
  · refine CallsT.body Tryd.func81 rfl rfl ?_
    simp only [Tryd.ntmps81, slotsOf, Nat.reduceAdd]
    refine TC_seq ?_
    refine TC_reg ?_
    refine TL_q rfl rfl (QT_assign rfl rfl rfl) ?_
    refine TL_nil ?_
    refine TX_then ?_
    refine TC_seq ?_
    refine TC_reg ?_
    refine TL_q rfl rfl (QT_move rfl rfl rfl) ?_
    refine TL_q rfl rfl (QT_move rfl rfl rfl) ?_
    refine TL_q rfl rfl (QT_len rfl rfl Tryd.underlying28 rfl) ?_
    refine TL_q rfl rfl (QT_move rfl rfl rfl) ?_
    refine TL_q rfl rfl (QT_len rfl rfl Tryd.underlying28 rfl) ?_
    refine TL_q rfl rfl (QT_slcHM (n) (n) rfl rfl rfl Tryd.underlying28 YtjehicncbpljaaaDoorF.sz_5 rfl rfl rfl rfl rfl (fun _ => ⟨by omega, by omega⟩)) ?_
    refine TL_q rfl rfl (QT_assign rfl rfl rfl) ?_
    refine TL_nil ?_
    refine TX_then ?_
    refine TC_ret ?_
    exact TX_ret (.inl rfl) (res1 rfl rfl) ⟨_, ⟨⟨hl, .inr ⟨b, n, rest, rfl, ⟨Nat.le_refl _, by omega⟩, Nat.le_trans (Nat.mul_le_mul_right _ hc.1) hlen, rfl⟩⟩, rfl⟩, fun _ h => h⟩
theorem clone_spec (w0 : Base) (η : Heap) (sv : Value) (n : Nat) (xs : List Value) (hs : SlA (St w0 η) sv 1 n xs) (hi : Ints (rep n byteK) xs) (hn : n ≤ 140737488355328) :
    CallsT Tryd.prog 105 [sv] (St w0 η) fun v A' => ∃ H, Frag 5 1 v n xs H ∧ A' = St w0 (H ++ η) := by
  have hs0 := hs
  obtain ⟨hl, ad, cap, rfl, hcap, hr⟩ := hs
  refine CallsT.body Tryd.func105 rfl rfl ?_
  simp only [Tryd.ntmps105, slotsOf, Nat.reduceAdd]
  refine TC_seq ?_
  refine TC_reg ?_
  refine TL_q rfl rfl (QT_assign rfl rfl rfl) ?_
  refine TL_nil ?_
  refine TX_then ?_
  refine TC_seq ?_
  refine TC_seq ?_
  refine TC_reg ?_
  refine TL_q rfl rfl (QT_move rfl rfl rfl) ?_
  refine TL_q rfl rfl (QT_eqNilS rfl rfl Tryd.underlying28 rfl rfl) ?_
  refine TL_nil ?_
  refine TX_then ?_
  first
    | refine TC_cond_dec rfl (fun h4 => ?_) (fun h4 => ?_)
    | refine TC_cond rfl (fun h4 => ?_) (fun h4 => ?_)
  ·
    refine TC_seq ?_
    refine TC_reg ?_
    refine TL_q rfl rfl (QT_assign rfl rfl rfl) ?_
    refine TL_nil ?_
    refine TX_then ?_
    refine TC_ret ?_
    refine TX_then_ret ?_
    have h0 : n = 0 ∧ xs = [] := by
      rcases hr with h | ⟨b, off, rfl, _⟩
      · subst h; exact ⟨rfl, List.eq_nil_of_length_eq_zero (by simpa using hl)⟩
      · simp at h4
    obtain ⟨rfl, rfl⟩ := h0
    exact TX_ret (.inl rfl) (res1 rfl rfl) ⟨_, ⟨[], Frag.nil _ _, rfl⟩, fun _ h => h⟩
  ·
    refine TC_skip ?_
    refine TX_then ?_
    refine TC_seq ?_
    refine TC_reg ?_
    refine TL_e rfl rfl rfl (rfl) (ET_buildN [] rfl Tryd.underlying28 YtjehicncbpljaaaDoorF.sz_5 YtjehicncbpljaaaDoorF.zero_5 rfl rfl rfl (fun v hv => absurd hv List.not_mem_nil)) ?_
    rintro _ _ ⟨b5, rfl, rfl⟩
    refine TL_q rfl rfl (QT_move rfl rfl rfl) ?_
    refine TL_e rfl rfl rfl (rfl) (ET_appendL (η := η) (L := []) (H := [(b5, 5, [] ++ [])]) rfl Tryd.underlying28 el_Byte rfl rfl ⟨rfl, .inr ⟨b5, 0, [], rfl, ⟨Nat.le_refl _, by omega⟩, Nat.le_refl _, rfl⟩⟩ (fun _ h => h) hs0.tail hi.oneCell (by omega) (by omega)) ?_
    rintro cv _ ⟨H', hF', rfl⟩
    refine TL_q rfl rfl (QT_assign rfl rfl rfl) ?_
    refine TL_nil ?_
    refine TX_then ?_
    refine TC_ret ?_
    rw [Nat.zero_add, List.nil_append] at hF'
    exact TX_ret (.inl rfl) (res1 rfl rfl) ⟨_, ⟨H', hF', rfl⟩, fun _ h => h⟩
theorem bytes_spec (w0 : Base) (η H : Heap) (rb : Nat) (bv : Value) (free : Int) (n : Nat) (xs : List Value) (hF : Frag 5 1 bv n xs H) (hi : Ints (rep n byteK) xs) (hn : n ≤ 140737488355328) :
    CallsT Tryd.prog 80 [.pointer (some ⟨rb, 0, none⟩)] (St w0 ((rb, 201, rowC bv free 1) :: (H ++ η))) fun v A' => ∃ H2, Frag 5 1 v n xs H2 ∧ A' = St w0 (H2 ++ ((rb, 201, rowC bv free 1) :: (H ++ η))) := by
  refine CallsT.body Tryd.func80 rfl rfl ?_
  simp only [Tryd.ntmps80, slotsOf, Nat.reduceAdd]
  refine TC_seq ?_
  refine TC_reg ?_
  refine TL_q rfl rfl (QT_assign rfl rfl rfl) ?_
  refine TL_nil ?_
  refine TX_then ?_
  refine TC_seq ?_
  refine TC_seq ?_
  refine TC_reg ?_
  refine TL_q rfl rfl (QT_move rfl rfl rfl) ?_
  refine TL_cq rfl rfl rfl rfl YtjehicncbpljaaaDoorF.cal_102 rfl (fun _ => there_spec w0 (H ++ η) rb _ free 1) ?_
  refine TL_q rfl rfl (QT_not rfl rfl rfl) ?_
  refine TL_nil ?_
  refine TX_then ?_
  refine TC_cond rfl (fun h => absurd (h.symm.trans ((show (_ : Bool) = false by rfl))) (by decide)) (fun _ => ?_)
  refine TC_skip ?_
  refine TX_then ?_
  refine TC_seq ?_
  refine TC_reg ?_
  refine TL_q rfl rfl (QT_move rfl rfl rfl) ?_
  refine TL_q rfl rfl (QT_nilCheck rfl rfl rfl) ?_
  refine TL_q rfl rfl (QT_field rfl rfl YtjehicncbpljaaaDoorF.fld_201_0 rfl) ?_
  refine TL_q rfl rfl (QT_field rfl rfl YtjehicncbpljaaaDoorF.fld_199_0 rfl) ?_
  first
    | refine TL_q rfl rfl (QT_load 0 rfl rfl Tryd.underlying28 rfl rfl rfl (fun _ => rfl)) ?_
    | refine TL_q rfl rfl (QT_load 1 rfl rfl Tryd.underlying28 rfl rfl rfl (fun _ => rfl)) ?_
    | refine TL_q rfl rfl (QT_load 2 rfl rfl Tryd.underlying28 rfl rfl rfl (fun _ => rfl)) ?_
  refine TL_e rfl rfl rfl (rfl) (ET_call rfl YtjehicncbpljaaaDoorF.cal_105 rfl (clone_spec w0 _ bv n xs (hF.within fun p => by simp only [List.countP_append, List.countP_cons]; omega) hi hn)) ?_
  rintro cv _ ⟨H2, hF2, rfl⟩
  refine TL_e rfl rfl rfl (rfl) (ET_call rfl YtjehicncbpljaaaDoorF.cal_81 rfl (clipB_spec w0 _ H2 cv n xs hF2)) ?_
  rintro rv _ ⟨hF3, rfl⟩
  refine TL_q rfl rfl (QT_assign rfl rfl rfl) ?_
  refine TL_nil ?_
  refine TX_then ?_
  refine TC_ret ?_
  exact TX_ret (.inl rfl) (res1 rfl rfl) ⟨_, ⟨H2, hF3, rfl⟩, fun _ h => h⟩
end Go.Proofs.YtjehicncbpljaaaDoor

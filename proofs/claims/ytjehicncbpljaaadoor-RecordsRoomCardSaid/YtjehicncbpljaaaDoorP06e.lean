/- A ROW OF BITS: Put, each answer; the document's row. -/
import Derived.Test.YtjehicncbpljaaaDoorP06d
namespace Go.Proofs.YtjehicncbpljaaaDoor
open Go Go.Gx Go.RowKit
set_option maxRecDepth 100000

def putE (len v : Nat) (n : Int) : Int := if n < 0 ∨ 32 < n ∨ 0 < v / 2 ^ n.toNat then 1 else if 524288 < (len : Int) + n then 3 else 0
def putL (l : List Bool) (v : Nat) (n : Int) : List Bool := if putE l.length v n = 0 then l ++ bitsN n.toNat v else l
theorem shr64 {v : Nat} {n : Int} (hv : v < 4294967296) (h0 : 0 ≤ n) : (v : Int).fdiv (2 ^ (min n.toNat IntKind.u64.bits)) = ((v / 2 ^ n.toNat : Nat) : Int) := by
  obtain ⟨m, rfl⟩ := Int.eq_ofNat_of_zero_le h0
  by_cases h : m ≤ 64
  · exact shr_nat (k := .u64) h
  · have h1 : v / 2 ^ m = 0 := Nat.div_eq_of_lt (Nat.lt_of_lt_of_le hv (Nat.le_trans (show 4294967296 ≤ 2 ^ 32 by decide) (Nat.pow_le_pow_right (show 0 < 2 by decide) (show 32 ≤ m by omega))))
    have h2 : v / 2 ^ 64 = 0 := Nat.div_eq_of_lt (by omega)
    rw [Int.toNat_natCast, Nat.min_eq_right (show IntKind.u64.bits ≤ m by show 64 ≤ m; omega), h1]
    show (v : Int).fdiv ((2 ^ 64 : Nat) : Int) = _
    rw [fdiv_nat, h2]
theorem shr32 {v : Nat} {n : Int} (hv : v < 4294967296) (h0 : 0 ≤ n) : (v : Int).fdiv (2 ^ (min n.toNat IntKind.u32.bits)) = ((v / 2 ^ n.toNat : Nat) : Int) := by
  obtain ⟨m, rfl⟩ := Int.eq_ofNat_of_zero_le h0
  by_cases h : m ≤ 32
  · exact shr_nat (k := .u32) h
  · have h1 : v / 2 ^ m = 0 := Nat.div_eq_of_lt (Nat.lt_of_lt_of_le hv (Nat.le_trans (show 4294967296 ≤ 2 ^ 32 by decide) (Nat.pow_le_pow_right (show 0 < 2 by decide) (show 32 ≤ m by omega))))
    have h2 : v / 2 ^ 32 = 0 := Nat.div_eq_of_lt (by omega)
    rw [Int.toNat_natCast, Nat.min_eq_right (show IntKind.u32.bits ≤ m by show 32 ≤ m; omega), h1]
    show (v : Int).fdiv ((2 ^ 32 : Nat) : Int) = _
    rw [fdiv_nat, h2]
theorem putE_ok {len v : Nat} {n : Int} (h : putE len v n = 0) : 0 ≤ n ∧ n ≤ 32 ∧ v < 2 ^ n.toNat ∧ (len : Int) + n ≤ 524288 := by
  unfold putE at h
  split at h
  · cases h
  · rename_i h1
    split at h
    · cases h
    · have h3 : v / 2 ^ n.toNat = 0 := Nat.eq_zero_of_not_pos fun h => h1 (.inr (.inr h))
      refine ⟨by omega, by omega, ?_, by omega⟩
      rcases Nat.div_eq_zero_iff.1 h3 with h4 | h4
      · exact absurd h4 (Nat.ne_of_gt (Nat.two_pow_pos _))
      · exact h4
theorem putL_len {l : List Bool} {v : Nat} {n : Int} (h : l.length ≤ 524288) : (putL l v n).length ≤ 524288 := by
  unfold putL
  split
  · rename_i he
    have := putE_ok he
    rw [List.length_append, bitsN_len]; omega
  · exact h

/-- the row's memory: its block, its bytes' block -/
def RowAt (rb : Nat) (l : List Bool) (K : Heap) : Prop := ∃ bs bv free H, Frag 5 1 bv bs.length (byV bs) H ∧ Packed bs free l ∧ free < 8 ∧ K = (rb, 201, rowC bv free 1) :: H

theorem put_spec (w0 : Base) (η K : Heap) (rb : Nat) (l : List Bool) (v : Nat) (n : Int) (hK : RowAt rb l K) (hv : v < 4294967296) (hn : I64 n) (hl : l.length ≤ 524288) :
    CallsT Tryd.prog 79 [.pointer (some ⟨rb, 0, none⟩), .int .u32 (v : Int), .int .i64 n] (St w0 (K ++ η)) fun r A' => ∃ K', r = .int .i64 (putE l.length v n) ∧ RowAt rb (putL l v n) K' ∧ A' = St w0 (K' ++ η) := by
  obtain ⟨bs, bv, free, H, hF, hP, h8f, rfl⟩ := hK
  obtain ⟨bad, bcap, rfl, _, _⟩ := hF.slice
  have hln := hP.len
  have hfl := hP.le
  have hw64 : IntKind.u64.wrap (v : Int) = (v : Int) := IntWalk.u64_in _ ⟨by omega, by omega⟩
  have hsame : ∀ {e : Int}, putE l.length v n = e → e ≠ 0 → RowAt rb (putL l v n) ((rb, 201, rowC (.slice bad bs.length bcap) free 1) :: H) := fun h h0 => by
    unfold putL
    rw [if_neg (by rw [h]; exact h0)]
    exact ⟨bs, _, free, H, hF, hP, h8f, rfl⟩
  refine CallsT.body Tryd.func79 rfl rfl ?_
  simp only [Tryd.ntmps79, slotsOf, Nat.reduceAdd]
  refine TC_seq ?_
  refine TC_reg ?_
  refine TL_q rfl rfl (QT_assign rfl rfl rfl) ?_
  refine TL_nil ?_
  refine TX_then ?_
  refine TC_seq ?_
  refine TC_block ?_
  refine TC_seq ?_
  refine TC_reg ?_
  refine TL_q rfl rfl (QT_move rfl rfl rfl) ?_
  refine TL_cq rfl rfl rfl rfl YtjehicncbpljaaaDoorF.cal_102 rfl (fun _ => there_spec w0 (H ++ η) rb _ free 1) ?_
  refine TL_q rfl rfl (QT_not rfl rfl rfl) ?_
  refine TL_q rfl rfl (QT_assign rfl rfl rfl) ?_
  refine TL_nil ?_
  refine TX_then ?_
  refine TC_cond rfl (fun h => absurd (h.symm.trans ((show (_ : Bool) = false by rfl))) (by decide)) (fun _ => ?_)
  refine TC_seq ?_
  refine TC_reg ?_
  refine TL_q rfl rfl (QT_move rfl rfl rfl) ?_
  refine TL_q rfl rfl (QT_lss rfl rfl rfl rfl) ?_
  refine TL_q rfl rfl (QT_move rfl rfl rfl) ?_
  refine TL_q rfl rfl (QT_move rfl rfl rfl) ?_
  refine TL_q rfl rfl (QT_gtr rfl rfl rfl rfl) ?_
  refine TL_q rfl rfl (QT_or rfl rfl rfl rfl) ?_
  refine TL_q rfl rfl (QT_move rfl rfl rfl) ?_
  refine TL_q rfl rfl (QT_move rfl rfl rfl) ?_
  refine TL_q rfl rfl (QT_convN rfl rfl Tryd.underlying60 Tryd.underlying71 rfl hw64) ?_
  refine TL_q rfl rfl (QT_move rfl rfl rfl) ?_
  refine TL_q rfl rfl (QT_shr rfl rfl rfl rfl (fun h => by simp at h; omega)) ?_
  refine TL_q rfl rfl (QT_gtr rfl rfl rfl rfl) ?_
  refine TL_q rfl rfl (QT_or rfl rfl rfl rfl) ?_
  refine TL_q rfl rfl (QT_assign rfl rfl rfl) ?_
  refine TL_nil ?_
  refine TX_then ?_
  first
    | refine TC_cond_dec rfl (fun h11 => ?_) (fun h11 => ?_)
    | refine TC_cond rfl (fun h11 => ?_) (fun h11 => ?_)
  ·
    refine TC_seq ?_
    refine TC_reg ?_
    refine TL_q rfl rfl (QT_assign rfl rfl rfl) ?_
    refine TL_nil ?_
    refine TX_then ?_
    refine TC_ret ?_
    refine TX_block_ret ?_
    refine TX_then_ret ?_
    have e1 : putE l.length v n = 1 := by
      unfold putE
      rw [if_pos]
      by_cases h0 : n < 0
      · exact .inl h0
      · by_cases h1 : 32 < n
        · exact .inr (.inl h1)
        · right; right
          rw [shr64 hv (by omega)] at h11
          simp only [Bool.or_eq_true, decide_eq_true_eq] at h11
          omega
    exact TX_ret (.inl rfl) (res1 rfl rfl) ⟨_, ⟨_, by rw [e1], hsame e1 (by decide), rfl⟩, fun _ h => h⟩
  ·
    refine TC_seq ?_
    have hgood : ¬ (n < 0 ∨ 32 < n ∨ 0 < v / 2 ^ n.toNat) := by
      have h0 : 0 ≤ n := by
        simp only [Bool.or_eq_false_iff, decide_eq_false_iff_not] at h11
        omega
      rw [shr64 hv h0] at h11
      simp only [Bool.or_eq_false_iff, decide_eq_false_iff_not] at h11
      omega
    refine TC_reg ?_
    refine TL_q rfl rfl (QT_move rfl rfl rfl) ?_
    refine TL_cq rfl rfl rfl rfl YtjehicncbpljaaaDoorF.cal_103 rfl (fun _ => len_spec w0 (H ++ η) rb bad bs.length bcap free (by omega) hfl) ?_
    refine TL_q rfl rfl (QT_move rfl rfl rfl) ?_
    refine TL_q rfl rfl (QT_add rfl rfl rfl rfl (fun _ => ⟨by omega, by omega⟩)) ?_
    refine TL_q rfl rfl (QT_gtr rfl rfl rfl rfl) ?_
    refine TL_q rfl rfl (QT_assign rfl rfl rfl) ?_
    refine TL_nil ?_
    refine TX_then ?_
    first
      | refine TC_cond_dec rfl (fun h25 => ?_) (fun h25 => ?_)
      | refine TC_cond rfl (fun h25 => ?_) (fun h25 => ?_)
    ·
      refine TC_seq ?_
      refine TC_reg ?_
      refine TL_q rfl rfl (QT_assign rfl rfl rfl) ?_
      refine TL_nil ?_
      refine TX_then ?_
      refine TC_ret ?_
      refine TX_block_ret ?_
      refine TX_then_ret ?_
      have e3 : putE l.length v n = 3 := by unfold putE; rw [if_neg hgood, if_pos (by omega)]
      exact TX_ret (.inl rfl) (res1 rfl rfl) ⟨_, ⟨_, by rw [e3], hsame e3 (by decide), rfl⟩, fun _ h => h⟩
    ·
      refine TC_skip ?_
      refine TX_block_normal ?_
      refine TX_then ?_
      refine TC_seq ?_
      have e0 : putE l.length v n = 0 := by unfold putE; rw [if_neg hgood, if_neg (by omega)]
      obtain ⟨m, rfl⟩ := Int.eq_ofNat_of_zero_le (show 0 ≤ n by omega)
      refine TC_reg ?_
      refine TL_q rfl rfl (QT_move rfl rfl rfl) ?_
      refine TL_q rfl rfl (QT_nilCheck rfl rfl rfl) ?_
      refine TL_q rfl rfl (QT_field rfl rfl YtjehicncbpljaaaDoorF.fld_201_0 rfl) ?_
      refine TL_q rfl rfl (QT_move rfl rfl rfl) ?_
      refine TL_q rfl rfl (QT_move rfl rfl rfl) ?_
      refine TL_e rfl rfl rfl (rfl) (ET_call rfl YtjehicncbpljaaaDoorF.cal_104 rfl (lays_spec w0 η H rb _ bs free l v m hF hP h8f hv (by omega) (by omega))) ?_
      rintro _ _ ⟨bs', bv', free', H', hF', hP', h8', rfl⟩
      refine TL_nil ?_
      refine TX_then ?_
      refine TC_seq ?_
      refine TC_reg ?_
      refine TL_q rfl rfl (QT_assign rfl rfl rfl) ?_
      refine TL_nil ?_
      refine TX_then ?_
      refine TC_ret ?_
      refine TX_ret (.inl rfl) (res1 rfl rfl) ⟨_, ⟨(rb, 201, rowC bv' free' 1) :: H', by rw [e0], ?_, rfl⟩, fun _ h => h⟩
      unfold putL
      rw [if_pos e0, Int.toNat_natCast]
      exact ⟨bs', bv', free', H', hF', hP', h8', rfl⟩
theorem RowAt.len {w0 : Base} {rb : Nat} {l : List Bool} {K : Heap} (η : Heap) (hK : RowAt rb l K) (hl : l.length ≤ 600000) :
    CallsT Tryd.prog 103 [.pointer (some ⟨rb, 0, none⟩)] (St w0 (K ++ η)) fun v A' => v = .int .i64 (l.length : Int) ∧ A' = St w0 (K ++ η) := by
  obtain ⟨bs, bv, free, H, hF, hP, h8f, rfl⟩ := hK
  obtain ⟨bad, bcap, rfl, _, _⟩ := hF.slice
  have hln := hP.len
  have hfl := hP.le
  have h := len_spec w0 (H ++ η) rb bad bs.length bcap free (by omega) hfl
  rwa [show 8 * (bs.length : Int) - (free : Int) = (l.length : Int) by omega] at h
theorem RowAt.bytes {w0 : Base} {rb : Nat} {l : List Bool} {K : Heap} (η : Heap) (hK : RowAt rb l K) (hl : l.length ≤ 600000) :
    CallsT Tryd.prog 80 [.pointer (some ⟨rb, 0, none⟩)] (St w0 (K ++ η)) fun v A' => ∃ bs H2, Frag 5 1 v bs.length (byV bs) H2 ∧ (byB bs = l ++ List.replicate (8 * ((l.length + 7) / 8) - l.length) false ∧ ∀ c ∈ bs, c < 256) ∧ A' = St w0 (H2 ++ (K ++ η)) := by
  obtain ⟨bs, bv, free, H, hF, hP, h8f, rfl⟩ := hK
  have hln := hP.len
  refine (bytes_spec w0 η H rb bv free bs.length (byV bs) hF (byV_ints hP.small) (by omega)).mono fun v A' ⟨H2, hF2, hA⟩ => ⟨_, ⟨bs, H2, hF2, ⟨?_, hP.small⟩, rfl⟩, fun w h => by rw [hA] at h; exact h⟩
  rw [hP.eq, show free = 8 * ((l.length + 7) / 8) - l.length by omega]
end Go.Proofs.YtjehicncbpljaaaDoor

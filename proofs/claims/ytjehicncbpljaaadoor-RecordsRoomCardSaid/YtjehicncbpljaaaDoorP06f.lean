/- THE DOCUMENT's ROW OF BITS: noughts and ones, one behind the other. -/
import Derived.Test.YtjehicncbpljaaaDoorP06e
namespace Go.Proofs.YtjehicncbpljaaaDoor
open Go Go.Gx Go.RowKit
set_option maxRecDepth 100000

def bitV (l : List Bool) : List Value := byV (l.map Bool.toNat)
theorem bitV_len (l : List Bool) : (bitV l).length = l.length := by simp [bitV, byV]
theorem bitV_append (a b : List Bool) : bitV (a ++ b) = bitV a ++ bitV b := by simp [bitV, byV]
theorem bitV_at {l : List Bool} {i : Nat} {b : Bool} (h : l[i]? = some b) : (bitV l)[i]? = some (.int .u8 ((b.toNat : Nat) : Int)) := by simp [bitV, byV, h]
def RefAt (mb : Nat) (l : List Bool) (K : Heap) : Prop := ∃ lv H, Frag 5 1 lv l.length (bitV l) H ∧ K = (mb, 204, [lv]) :: H

theorem rnew_spec (w0 : Base) (η : Heap) :
    CallsT Tryd.prog 83 [] (St w0 η) fun v A' => ∃ mb K, v = .pointer (some ⟨mb, 0, none⟩) ∧ RefAt mb [] K ∧ A' = St w0 (K ++ η) := by
  refine CallsT.body Tryd.func83 rfl rfl ?_
  simp only [Tryd.ntmps83, slotsOf, Nat.reduceAdd]
  refine TC_seq ?_
  refine TC_reg ?_
  refine TL_q rfl rfl (QT_assign rfl rfl rfl) ?_
  refine TL_nil ?_
  refine TX_then ?_
  refine TC_seq ?_
  refine TC_reg ?_
  refine TL_q rfl rfl (QT_build rfl rfl YtjehicncbpljaaaDoorF.zero_204 YtjehicncbpljaaaDoorF.pl_204 rfl rfl rfl) ?_
  refine TL_e rfl rfl rfl (rfl) (ET_box rfl rfl) ?_
  rintro _ _ ⟨b2, rfl, rfl⟩
  refine TL_q rfl rfl (QT_assign rfl rfl rfl) ?_
  refine TL_nil ?_
  refine TX_then ?_
  refine TC_ret ?_
  exact TX_ret (.inl rfl) (res1 rfl rfl) ⟨_, ⟨b2, [(b2, 204, [.slice none 0 0])], rfl, ⟨_, [], Frag.nil _ _, rfl⟩, rfl⟩, fun _ h => h⟩
theorem rput_spec (w0 : Base) (η K : Heap) (mb : Nat) (l : List Bool) (v : Nat) (n : Int) (hK : RefAt mb l K) (hv : v < 4294967296) (hn : I64 n) (hl : l.length ≤ 524288) :
    CallsT Tryd.prog 84 [.pointer (some ⟨mb, 0, none⟩), .int .u32 (v : Int), .int .i64 n] (St w0 (K ++ η)) fun r A' => ∃ K', r = .int .i64 (putE l.length v n) ∧ RefAt mb (putL l v n) K' ∧ A' = St w0 (K' ++ η) := by
  obtain ⟨lv, H, hF, rfl⟩ := hK
  obtain ⟨lad0, lcap0, rfl, _, _⟩ := hF.slice
  have hsame : ∀ {e : Int}, putE l.length v n = e → e ≠ 0 → RefAt mb (putL l v n) ((mb, 204, [.slice lad0 l.length lcap0]) :: H) := fun h h0 => by
    unfold putL
    rw [if_neg (by rw [h]; exact h0)]
    exact ⟨_, H, hF, rfl⟩
  have hv32 : v / 2 ^ 32 = 0 := Nat.div_eq_of_lt (by omega)
  refine CallsT.body Tryd.func84 rfl rfl ?_
  simp only [Tryd.ntmps84, slotsOf, Nat.reduceAdd]
  refine TC_seq ?_
  refine TC_reg ?_
  refine TL_q rfl rfl (QT_assign rfl rfl rfl) ?_
  refine TL_nil ?_
  refine TX_then ?_
  refine TC_seq ?_
  refine TC_seq ?_
  refine TC_reg ?_
  refine TL_q rfl rfl (QT_move rfl rfl rfl) ?_
  refine TL_q rfl rfl (QT_lss rfl rfl rfl rfl) ?_
  refine TL_q rfl rfl (QT_move rfl rfl rfl) ?_
  refine TL_q rfl rfl (QT_move rfl rfl rfl) ?_
  refine TL_q rfl rfl (QT_gtr rfl rfl rfl rfl) ?_
  refine TL_q rfl rfl (QT_or rfl rfl rfl rfl) ?_
  refine TL_q rfl rfl (QT_move rfl rfl rfl) ?_
  refine TL_q rfl rfl (QT_move rfl rfl rfl) ?_
  refine TL_q rfl rfl (QT_lss rfl rfl rfl rfl) ?_
  refine TL_q rfl rfl (QT_move rfl rfl rfl) ?_
  refine TL_q rfl rfl (QT_move rfl rfl rfl) ?_
  refine TL_q rfl rfl (QT_move rfl rfl rfl) ?_
  refine TL_q rfl rfl (QT_shr rfl rfl rfl rfl (fun h => by simp at h; omega)) ?_
  refine TL_q rfl rfl (QT_neq rfl rfl rfl rfl) ?_
  refine TL_q rfl rfl (QT_and rfl rfl rfl rfl) ?_
  refine TL_q rfl rfl (QT_or rfl rfl rfl rfl) ?_
  refine TL_nil ?_
  refine TX_then ?_
  first
    | refine TC_cond_dec rfl (fun h23 => ?_) (fun h23 => ?_)
    | refine TC_cond rfl (fun h23 => ?_) (fun h23 => ?_)
  ·
    refine TC_seq ?_
    refine TC_reg ?_
    refine TL_q rfl rfl (QT_assign rfl rfl rfl) ?_
    refine TL_nil ?_
    refine TX_then ?_
    refine TC_ret ?_
    refine TX_then_ret ?_
    have e1 : putE l.length v n = 1 := by
      unfold putE
      rw [if_pos]
      by_cases h0 : n < 0
      · exact .inl h0
      · by_cases h1 : 32 < n
        · exact .inr (.inl h1)
        · right; right
          rw [shr32 hv (by omega)] at h23
          simp only [Bool.or_eq_true, Bool.and_eq_true, decide_eq_true_eq] at h23
          generalize v / 2 ^ n.toNat = X at h23 ⊢
          omega
    exact TX_ret (.inl rfl) (res1 rfl rfl) ⟨_, ⟨_, by rw [e1], hsame e1 (by decide), rfl⟩, fun _ h => h⟩
  ·
    refine TC_skip ?_
    refine TX_then ?_
    refine TC_seq ?_
    refine TC_seq ?_
    have hgood : ¬ (n < 0 ∨ 32 < n ∨ 0 < v / 2 ^ n.toNat) := by
      have h0 : 0 ≤ n ∧ n ≤ 32 := by
        simp only [Bool.or_eq_false_iff, decide_eq_false_iff_not] at h23
        omega
      rw [shr32 hv h0.1] at h23
      simp only [Bool.or_eq_false_iff, Bool.and_eq_false_iff, decide_eq_false_iff_not, ne_eq, Classical.not_not] at h23
      by_cases h32 : n = 32
      · subst h32
        have : v / 2 ^ (32 : Int).toNat = 0 := hv32
        omega
      · generalize v / 2 ^ n.toNat = X at h23 ⊢
        omega
    refine TC_reg ?_
    refine TL_q rfl rfl (QT_move rfl rfl rfl) ?_
    refine TL_q rfl rfl (QT_nilCheck rfl rfl rfl) ?_
    refine TL_q rfl rfl (QT_field rfl rfl YtjehicncbpljaaaDoorF.fld_204_0 rfl) ?_
    first
      | refine TL_q rfl rfl (QT_load 0 rfl rfl Tryd.underlying28 rfl rfl rfl (fun _ => rfl)) ?_
      | refine TL_q rfl rfl (QT_load 1 rfl rfl Tryd.underlying28 rfl rfl rfl (fun _ => rfl)) ?_
      | refine TL_q rfl rfl (QT_load 2 rfl rfl Tryd.underlying28 rfl rfl rfl (fun _ => rfl)) ?_
    refine TL_q rfl rfl (QT_len rfl rfl Tryd.underlying28 rfl) ?_
    refine TL_q rfl rfl (QT_move rfl rfl rfl) ?_
    refine TL_q rfl rfl (QT_add rfl rfl rfl rfl (fun _ => ⟨by omega, by omega⟩)) ?_
    refine TL_q rfl rfl (QT_gtr rfl rfl rfl rfl) ?_
    refine TL_nil ?_
    refine TX_then ?_
    first
      | refine TC_cond_dec rfl (fun h31 => ?_) (fun h31 => ?_)
      | refine TC_cond rfl (fun h31 => ?_) (fun h31 => ?_)
    ·
      refine TC_seq ?_
      refine TC_reg ?_
      refine TL_q rfl rfl (QT_assign rfl rfl rfl) ?_
      refine TL_nil ?_
      refine TX_then ?_
      refine TC_ret ?_
      refine TX_then_ret ?_
      have e3 : putE l.length v n = 3 := by unfold putE; rw [if_neg hgood, if_pos (by omega)]
      exact TX_ret (.inl rfl) (res1 rfl rfl) ⟨_, ⟨_, by rw [e3], hsame e3 (by decide), rfl⟩, fun _ h => h⟩
    ·
      refine TC_skip ?_
      refine TX_then ?_
      refine TC_seq ?_
      refine TC_seq ?_
      have e0 : putE l.length v n = 0 := by unfold putE; rw [if_neg hgood, if_neg (by omega)]
      obtain ⟨m, rfl⟩ := Int.eq_ofNat_of_zero_le (show 0 ≤ n by omega)
      have hm32 : m ≤ 32 := by omega
      refine TC_reg ?_
      refine TL_q rfl rfl (QT_move rfl rfl rfl) ?_
      refine TL_q rfl rfl (QT_sub rfl rfl rfl rfl (fun _ => ⟨by omega, by omega⟩)) ?_
      refine TL_q rfl rfl (QT_assign rfl rfl rfl) ?_
      refine TL_nil ?_
      refine TX_then ?_
      refine TC_block ?_
      refine TC_loop (γ := { t : Nat × Value × Heap // t.1 ≤ m ∧ Frag 5 1 t.2.1 (l.length + t.1) (bitV (l ++ bitsN t.1 (v / 2 ^ (m - t.1)))) t.2.2 }) (fun t => [(0, true, .pointer (some ⟨mb, 0, none⟩)), (1, true, .int .u32 (v : Int)), (7, true, .int .i64 ((m : Int) - 1 - (t.1.1 : Int)))]) (fun t => St w0 ((mb, 204, [t.1.2.1]) :: (t.1.2.2 ++ η))) (fun t => m - t.1.1) ⟨(0, .slice lad0 l.length lcap0, H), Nat.zero_le _, by show Frag _ 1 _ (l.length + 0) (bitV (l ++ [])) H; rw [List.append_nil]; exact hF⟩ ⟨rfl, rfl, slotI rfl (by dsimp only; omega), trivial⟩ (fun _ h => h) ?_
      rintro ⟨⟨j, lv, H⟩, hj, hF⟩
      dsimp only at hj hF ⊢
      obtain ⟨lad, lcap, rfl, _, _⟩ := hF.slice
      refine TC_seq ?_
      refine TC_seq ?_
      refine TC_reg ?_
      refine TL_q rfl rfl (QT_move rfl rfl rfl) ?_
      refine TL_q rfl rfl (QT_geq rfl rfl rfl rfl) ?_
      refine TL_nil ?_
      refine TX_then ?_
      first
        | refine TC_cond_dec rfl (fun h35 => ?_) (fun h35 => ?_)
        | refine TC_cond rfl (fun h35 => ?_) (fun h35 => ?_)
      ·
        have hj' : j < m := by omega
        have hx : v / 2 ^ (m - 1 - j) ≤ v := Nat.div_le_self ..
        have hx2 : v / 2 ^ (m - 1 - j) % 2 < 2 := Nat.mod_lt _ (by decide)
        refine TC_skip ?_
        refine TX_then ?_
        refine TC_seq ?_
        refine TC_block ?_
        refine TC_draw [(0, 0), (1, 0), (2, 0), (3, 0), (4, 0), (5, 0), (6, 0), (7, 0), (8, 0), (9, 0), (10, 1), (11, 1), (12, 0), (13, 0), (14, 1)] YtjehicncbpljaaaDoorF.mixed (by kernel_rfl) (St.calm _ _) ?_
        refine TV_q rfl rfl rfl (fun _ => QT_move rfl rfl rfl) ?_
        refine TV_q rfl rfl rfl (fun _ => QT_move rfl rfl rfl) ?_
        refine TV_q rfl rfl rfl (fun _ => QT_nilCheck rfl rfl rfl) ?_
        refine TV_q rfl rfl rfl (fun _ => QT_field rfl rfl YtjehicncbpljaaaDoorF.fld_204_0 rfl) ?_
        first
          | refine TV_ql rfl rfl rfl (QT_load 0 rfl rfl Tryd.underlying28 rfl rfl rfl (fun _ => rfl)) ?_
          | refine TV_ql rfl rfl rfl (QT_load 1 rfl rfl Tryd.underlying28 rfl rfl rfl (fun _ => rfl)) ?_
          | refine TV_ql rfl rfl rfl (QT_load 2 rfl rfl Tryd.underlying28 rfl rfl rfl (fun _ => rfl)) ?_
        refine TV_q rfl rfl rfl (fun _ => QT_move rfl rfl rfl) ?_
        refine TV_q rfl rfl rfl (fun _ => QT_to (QT_move rfl rfl rfl) (show (m : Int) - 1 - (j : Int) = ((m - 1 - j : Nat) : Int) by omega)) ?_
        refine TV_q rfl rfl rfl (fun _ => QT_to (QT_shr rfl rfl rfl rfl (fun _ => by omega)) (shr_nat (k := .u32) (by show m - 1 - j ≤ 32; omega))) ?_
        refine TV_q rfl rfl rfl (fun _ => QT_to (QT_bits rfl rfl (by decide) rfl rfl) (show bitsOf .and .u32 ((v / 2 ^ (m - 1 - j) : Nat) : Int) 1 = ((v / 2 ^ (m - 1 - j) % 2 : Nat) : Int) by have := and_u32 (a := v / 2 ^ (m - 1 - j)) (b := 1) (by omega) (by decide); rwa [Nat.and_one_is_mod] at this)) ?_
        refine TV_q rfl rfl rfl (fun _ => QT_convN rfl rfl Tryd.underlying60 Tryd.underlying5 rfl (IntWalk.u8_in _ ⟨by omega, by omega⟩)) ?_
        refine TV_e rfl rfl rfl rfl (rfl) (ET_buildN [_] rfl Tryd.underlying28 YtjehicncbpljaaaDoorF.sz_5 YtjehicncbpljaaaDoorF.zero_5 rfl rfl rfl (fun v hv => by cases List.mem_singleton.1 hv; rfl)) ?_
        rintro _ _ ⟨b48, rfl, rfl⟩
        refine ⟨_, .keep (by kernel_rfl) rfl (by first | exact QT_load 0 rfl rfl Tryd.underlying28 rfl rfl rfl (fun _ => rfl) | exact QT_load 1 rfl rfl Tryd.underlying28 rfl rfl rfl (fun _ => rfl) | exact QT_load 2 rfl rfl Tryd.underlying28 rfl rfl rfl (fun _ => rfl)) (.nil), ?_⟩
        refine TV_e rfl rfl rfl rfl (rfl) (ET_appendL (L := [_, _]) rfl Tryd.underlying28 el_Byte rfl rfl hF (fun _ h => h) (SlA.own (n := 1) (xs := [.int .u8 ((v / 2 ^ (m - 1 - j) % 2 : Nat) : Int)]) 0 rfl rfl (Nat.le_refl _) (by omega)) (fun u hu => by cases List.mem_singleton.1 hu; rfl) (by omega) (by omega)) ?_
        rintro cv _ ⟨H', hF', rfl⟩
        refine ⟨_, .drop (by kernel_rfl) (.nil), ?_⟩
        obtain ⟨cad, ccap, rfl, _, _⟩ := hF'.slice
        refine TV_q rfl rfl rfl (fun _ => QT_nilCheck rfl rfl rfl) ?_
        refine TV_q rfl rfl rfl (fun _ => QT_field rfl rfl YtjehicncbpljaaaDoorF.fld_204_0 rfl) ?_
        first
          | refine TV_e0 rfl rfl rfl (rfl) (ET_store 0 rfl rfl rfl rfl YtjehicncbpljaaaDoorF.sz_28 rfl rfl rfl) ?_
          | refine TV_e0 rfl rfl rfl (rfl) (ET_store 1 rfl rfl rfl rfl YtjehicncbpljaaaDoorF.sz_28 rfl rfl rfl) ?_
          | refine TV_e0 rfl rfl rfl (rfl) (ET_store 2 rfl rfl rfl rfl YtjehicncbpljaaaDoorF.sz_28 rfl rfl rfl) ?_
        rintro _ _ ⟨rfl, rfl⟩
        refine ⟨_, .nil, ?_⟩
        refine TV_end ?_
        refine TX_block_normal ?_
        refine TX_then ?_
        refine TC_reg ?_
        refine TL_q rfl rfl (QT_move rfl rfl rfl) ?_
        refine TL_q rfl rfl (QT_sub rfl rfl rfl rfl (fun _ => ⟨by omega, by omega⟩)) ?_
        refine TL_q rfl rfl (QT_assign rfl rfl rfl) ?_
        refine TL_nil ?_
        refine TX_round ⟨(j + 1, .slice cad (l.length + j + 1) ccap, H'), hj', ?_⟩ (by dsimp only; omega) ⟨rfl, rfl, slotI rfl (by dsimp only; omega), trivial⟩ (fun _ h => h.tail)
        dsimp only
        have e1 : v / 2 ^ (m - (j + 1)) / 2 = v / 2 ^ (m - j) := by
          rw [Nat.div_div_eq_div_mul, ← Nat.pow_succ]; congr 2; omega
        have e2 : bitV (l ++ bitsN (j + 1) (v / 2 ^ (m - (j + 1)))) = bitV (l ++ bitsN j (v / 2 ^ (m - j))) ++ [.int .u8 ((v / 2 ^ (m - 1 - j) % 2 : Nat) : Int)] := by
          rw [bitsN, e1, ← List.append_assoc, bitV_append]
          congr 1
          show [Value.int .u8 (((v / 2 ^ (m - (j + 1)) % 2 == 1).toNat : Nat) : Int)] = _
          rw [toNat_bit, show m - (j + 1) = m - 1 - j by omega]
        rw [e2]
        exact hF'
      ·
        refine TC_exit ?_
        refine TX_then_exit ?_
        refine TX_then_exit ?_
        refine TX_block_here ?_
        refine TX_then ?_
        refine TC_seq ?_
        refine TC_reg ?_
        refine TL_q rfl rfl (QT_assign rfl rfl rfl) ?_
        refine TL_nil ?_
        refine TX_then ?_
        refine TC_ret ?_
        obtain rfl : j = m := by omega
        refine TX_ret (.inl rfl) (res1 rfl rfl) ⟨_, ⟨(mb, 204, [.slice lad (l.length + j) lcap]) :: H, by rw [e0], ?_, rfl⟩, fun _ h => h⟩
        unfold putL
        rw [if_pos e0, Int.toNat_natCast]
        rw [Nat.sub_self, Nat.pow_zero, Nat.div_one] at hF
        exact ⟨_, H, by rw [List.length_append, bitsN_len]; exact hF, rfl⟩
theorem take_snoc {l : List Bool} {i : Nat} {b : Bool} (h : l[i]? = some b) : l.take (i + 1) = l.take i ++ [b] := by rw [List.take_add_one, h]; rfl
theorem bits1 (b : Bool) : bitsN 1 b.toNat = [b] := by cases b <;> rfl
theorem rbytes_spec (w0 : Base) (η K : Heap) (mb : Nat) (l : List Bool) (hK : RefAt mb l K) (hl : l.length ≤ 600000) :
    CallsT Tryd.prog 85 [.pointer (some ⟨mb, 0, none⟩)] (St w0 (K ++ η)) fun v A' => ∃ bs H2, Frag 5 1 v bs.length (byV bs) H2 ∧ (byB bs = l ++ List.replicate (8 * ((l.length + 7) / 8) - l.length) false ∧ ∀ c ∈ bs, c < 256) ∧ A' = St w0 (H2 ++ (K ++ η)) := by
  obtain ⟨lv, HL, hFL, rfl⟩ := hK
  have hLs : ∀ X : Heap, SlA (St w0 (X ++ (HL ++ η))) lv 1 l.length (bitV l) := fun X => hFL.within fun p => by simp only [List.countP_append]; omega
  obtain ⟨lad, lcap, rfl, _, _⟩ := hFL.slice
  refine CallsT.body Tryd.func85 rfl rfl ?_
  simp only [Tryd.ntmps85, slotsOf, Nat.reduceAdd]
  refine TC_seq ?_
  refine TC_reg ?_
  refine TL_q rfl rfl (QT_assign rfl rfl rfl) ?_
  refine TL_nil ?_
  refine TX_then ?_
  refine TC_seq ?_
  refine TC_reg ?_
  refine TL_q rfl rfl (QT_assign rfl rfl rfl) ?_
  refine TL_nil ?_
  refine TX_then ?_
  refine TC_seq ?_
  refine TC_seq ?_
  refine TC_reg ?_
  refine TL_q rfl rfl (QT_assign rfl rfl rfl) ?_
  refine TL_nil ?_
  refine TX_then ?_
  refine TC_block ?_
  refine TC_loop (γ := { t : Nat × List Nat × Value × Nat × Heap // t.1 ≤ l.length ∧ Frag 5 1 t.2.2.1 t.2.1.length (byV t.2.1) t.2.2.2.2 ∧ Packed t.2.1 t.2.2.2.1 (l.take t.1) ∧ t.2.2.2.1 < 8 }) (fun t => [(0, true, .pointer (some ⟨mb, 0, none⟩)), (3, true, t.1.2.2.1), (4, true, .int .i64 (t.1.1 : Int))]) (fun t => St w0 ((mb, 204, [.slice lad l.length lcap]) :: (t.1.2.2.2.2 ++ (HL ++ η)))) (fun t => l.length - t.1.1) ⟨(0, [], .slice none 0 0, 0, []), Nat.zero_le _, Frag.nil _ _, Packed.nil, by decide⟩ ⟨rfl, rfl, rfl, trivial⟩ (fun _ h => h) ?_
  rintro ⟨⟨i, bs, bv, free, H⟩, hin, hF, hP, h8f⟩
  dsimp only at hin hF hP h8f ⊢
  have hln := hP.len
  rw [List.length_take, Nat.min_eq_left hin] at hln
  refine TC_seq ?_
  refine TC_seq ?_
  refine TC_reg ?_
  refine TL_q rfl rfl (QT_move rfl rfl rfl) ?_
  refine TL_q rfl rfl (QT_move rfl rfl rfl) ?_
  refine TL_q rfl rfl (QT_nilCheck rfl rfl rfl) ?_
  refine TL_q rfl rfl (QT_field rfl rfl YtjehicncbpljaaaDoorF.fld_204_0 rfl) ?_
  first
    | refine TL_q rfl rfl (QT_load 0 rfl rfl Tryd.underlying28 rfl rfl rfl (fun _ => rfl)) ?_
    | refine TL_q rfl rfl (QT_load 1 rfl rfl Tryd.underlying28 rfl rfl rfl (fun _ => rfl)) ?_
    | refine TL_q rfl rfl (QT_load 2 rfl rfl Tryd.underlying28 rfl rfl rfl (fun _ => rfl)) ?_
  refine TL_q rfl rfl (QT_len rfl rfl Tryd.underlying28 rfl) ?_
  refine TL_q rfl rfl (QT_lss rfl rfl rfl rfl) ?_
  refine TL_nil ?_
  refine TX_then ?_
  first
    | refine TC_cond_dec rfl (fun h11 => ?_) (fun h11 => ?_)
    | refine TC_cond rfl (fun h11 => ?_) (fun h11 => ?_)
  ·
    have hi' : i < l.length := by omega
    obtain ⟨b, hb⟩ : ∃ b, l[i]? = some b := ⟨_, List.getElem?_eq_getElem hi'⟩
    refine TC_skip ?_
    refine TX_then ?_
    refine TC_seq ?_
    refine TC_block ?_
    refine TC_cut (γ := { t : List Nat × Value × Nat × Heap // (0 < t.2.2.1) ∧ Frag 5 1 t.2.1 t.1.length (byV t.1) t.2.2.2 ∧ Packed t.1 t.2.2.1 (l.take i) }) (fun t => [(0, true, .pointer (some ⟨mb, 0, none⟩)), (3, true, t.1.2.1), (4, true, .int .i64 (i : Int))]) (fun t => St w0 ((mb, 204, [.slice lad l.length lcap]) :: (t.1.2.2.2 ++ (HL ++ η)))) ?_ ?_
    ·
      refine TC_seq ?_
      refine TC_reg ?_
      refine TL_q rfl rfl (QT_move rfl rfl rfl) ?_
      refine TL_q rfl rfl (QT_to (QT_rem rfl rfl rfl rfl (fun _ => ⟨by omega, by omega⟩)) (show (i : Int) % 8 = ((i % 8 : Nat) : Int) by simp)) ?_
      refine TL_q rfl rfl (QT_eql rfl rfl rfl rfl) ?_
      refine TL_nil ?_
      refine TX_then ?_
      first
        | refine TC_cond_dec rfl (fun h16 => ?_) (fun h16 => ?_)
        | refine TC_cond rfl (fun h16 => ?_) (fun h16 => ?_)
      ·
        refine TC_reg ?_
        refine TL_q rfl rfl (QT_move rfl rfl rfl) ?_
        refine TL_e rfl rfl rfl (rfl) (ET_buildSlice rfl Tryd.underlying28 YtjehicncbpljaaaDoorF.sz_5 YtjehicncbpljaaaDoorF.zero_5 rfl rfl rfl) ?_
        rintro _ _ ⟨b18, rfl, rfl⟩
        refine TL_e rfl rfl rfl (rfl) (ET_appendL (η := HL ++ η) (L := [_, _]) rfl Tryd.underlying28 el_Byte rfl rfl hF (fun _ h => h) (SlA.own (n := 1) (xs := [.int .u8 0]) 0 rfl rfl (Nat.le_refl _) (by omega)) (fun u hu => by cases List.mem_singleton.1 hu; rfl) (by omega) (by omega)) ?_
        rintro cv _ ⟨H', hF', rfl⟩
        refine TL_q rfl rfl (QT_assign rfl rfl rfl) ?_
        refine TL_nil ?_
        obtain rfl : free = 0 := by omega
        exact TX_cut ⟨(bs ++ [0], cv, 8, H'), by show 0 < 8; decide, by rw [List.length_append, byV_append]; exact hF', hP.more⟩ ⟨rfl, rfl, rfl, trivial⟩ (fun _ h => h.tail)
      ·
        refine TC_skip ?_
        exact TX_cut ⟨(bs, bv, free, H), by show 0 < free; omega, hF, hP⟩ ⟨rfl, rfl, rfl, trivial⟩ (fun _ h => h)
    clear hF hP hln h8f bs bv free H
    rintro ⟨⟨bs, bv, free, H⟩, hf0, hF, hP⟩
    dsimp only at hf0 hF hP ⊢
    have hln := hP.len
    rw [List.length_take, Nat.min_eq_left (by omega)] at hln
    have hfl := hP.le
    obtain ⟨bs1, B, rfl⟩ : ∃ bs1 B, bs = bs1 ++ [B] := by
      rcases List.eq_nil_or_concat bs with h | ⟨a, b, h⟩
      · subst h; simp at hln; omega
      · exact ⟨a, b, by rw [h]; simp⟩
    obtain ⟨bad, bcap, rfl, hbc, hbb⟩ := hF.slice
    obtain ⟨bb, rest, rfl, rfl⟩ := hbb (by simp)
    have hbl : (bs1 ++ [B]).length - 1 = i / 8 := by omega
    have hpb : b.toNat < 2 ^ 1 := by cases b <;> decide
    obtain ⟨hlt, hlay⟩ := hP.lay (many := 1) (p := b.toNat) (by omega) hpb
    rw [bits1, ← take_snoc hb] at hlay
    have hfr : free - 1 = 7 - i % 8 := by omega
    have hB : B < 256 := hP.small B (by simp)
    have hsl := shl_lt (k := free - 1) hpb (by omega)
    have hBat : (byV (bs1 ++ [B]) ++ rest)[0 + (i / 8) * 1]? = some (.int .u8 (B : Int)) := by
      rw [← hbl, byV_append, List.append_assoc, List.getElem?_append_right (by rw [byV_len]; simp), byV_len]
      simp [byV]
    have hble : 0 + (i / 8) * 1 + 1 ≤ (byV (bs1 ++ [B]) ++ rest).length := by
      have e1 : (byV (bs1 ++ [B]) ++ rest).length = (bs1 ++ [B]).length + rest.length := by rw [List.length_append, byV_len]
      have e2 : 0 < (bs1 ++ [B]).length := by simp
      omega
    have hi8 : i / 8 < (bs1 ++ [B]).length := by
      have e2 : 0 < (bs1 ++ [B]).length := by simp
      omega
    obtain ⟨_, lad2, lcap2, lb, loff, heq, _, hlad, hlr⟩ := (hLs [(mb, 204, [.slice lad l.length lcap]), (bb, 5, byV (bs1 ++ [B]) ++ rest)]).some
    obtain ⟨rfl, _, rfl⟩ := Value.slice.inj heq
    obtain rfl := hlad (by omega)
    refine TC_draw [(0, 0), (1, 0), (2, 0), (3, 0), (4, 0), (5, 0), (6, 0), (7, 0), (8, 0), (9, 0), (10, 0), (11, 0), (12, 0), (13, 0), (14, 0), (15, 0), (16, 0), (17, 0), (18, 0), (19, 0), (20, 0), (21, 1)] YtjehicncbpljaaaDoorF.mixed (by kernel_rfl) (St.calm _ _) ?_
    refine TV_q rfl rfl rfl (fun _ => QT_move rfl rfl rfl) ?_
    refine TV_q rfl rfl rfl (fun _ => QT_move rfl rfl rfl) ?_
    refine TV_q rfl rfl rfl (fun _ => QT_to (QT_quo rfl rfl rfl rfl (fun _ => ⟨by omega, by omega, by omega⟩)) (show (i : Int) / 8 = ((i / 8 : Nat) : Int) by omega)) ?_
    refine TV_q rfl rfl rfl (fun _ => QT_move rfl rfl rfl) ?_
    refine TV_q rfl rfl rfl (fun _ => QT_move rfl rfl rfl) ?_
    refine TV_q rfl rfl rfl (fun _ => QT_to (QT_quo rfl rfl rfl rfl (fun _ => ⟨by omega, by omega, by omega⟩)) (show (i : Int) / 8 = ((i / 8 : Nat) : Int) by omega)) ?_
    refine TV_q rfl rfl rfl (fun _ => QT_indexSlice (i / 8) rfl rfl Tryd.underlying28 YtjehicncbpljaaaDoorF.sz_5 rfl rfl (rfl) (fun _ => hi8)) ?_
    refine TV_ql rfl rfl rfl (QT_load 1 rfl rfl Tryd.underlying5 rfl rfl rfl (fun _ => hBat)) ?_
    refine TV_q rfl rfl rfl (fun _ => QT_move rfl rfl rfl) ?_
    refine TV_q rfl rfl rfl (fun _ => QT_nilCheck rfl rfl rfl) ?_
    refine TV_q rfl rfl rfl (fun _ => QT_field rfl rfl YtjehicncbpljaaaDoorF.fld_204_0 rfl) ?_
    first
      | refine TV_ql rfl rfl rfl (QT_load 0 rfl rfl Tryd.underlying28 rfl rfl rfl (fun _ => rfl)) ?_
      | refine TV_ql rfl rfl rfl (QT_load 1 rfl rfl Tryd.underlying28 rfl rfl rfl (fun _ => rfl)) ?_
      | refine TV_ql rfl rfl rfl (QT_load 2 rfl rfl Tryd.underlying28 rfl rfl rfl (fun _ => rfl)) ?_
    refine TV_q rfl rfl rfl (fun _ => QT_move rfl rfl rfl) ?_
    refine TV_q rfl rfl rfl (fun _ => QT_indexSlice (i) rfl rfl Tryd.underlying28 YtjehicncbpljaaaDoorF.sz_5 rfl rfl (rfl) (fun _ => by omega)) ?_
    refine TV_ql rfl rfl rfl (QT_loadRj i rfl rfl Tryd.underlying5 rfl hlr rfl (fun _ => bitV_at hb)) ?_
    refine TV_q rfl rfl rfl (fun _ => QT_move rfl rfl rfl) ?_
    refine TV_q rfl rfl rfl (fun _ => QT_rem rfl rfl rfl rfl (fun _ => ⟨by omega, by omega⟩)) ?_
    refine TV_q rfl rfl rfl (fun _ => QT_to (QT_sub rfl rfl rfl rfl (fun _ => ⟨by omega, by omega⟩)) (show (7 : Int) - (i : Int) % 8 = ((free - 1 : Nat) : Int) by omega)) ?_
    refine TV_q rfl rfl rfl (fun _ => QT_to (QT_shl rfl rfl rfl rfl (fun _ => by omega)) (shl_u8 (by omega) hsl)) ?_
    refine TV_q rfl rfl rfl (fun _ => QT_to (QT_bits rfl rfl (by decide) rfl rfl) (or_u8 hB hsl hlt)) ?_
    refine TV_q rfl rfl rfl (fun _ => QT_indexSlice (i / 8) rfl rfl Tryd.underlying28 YtjehicncbpljaaaDoorF.sz_5 rfl rfl (rfl) (fun _ => hi8)) ?_
    refine TV_e0 rfl rfl rfl (rfl) (ET_store (vs := [.int .u8 ((B ||| (b.toNat <<< (free - 1)) : Nat) : Int)]) 1 rfl rfl rfl rfl YtjehicncbpljaaaDoorF.sz_5 rfl rfl (Nat.ble_eq_true_of_le hble)) ?_
    rintro _ _ ⟨rfl, rfl⟩
    refine ⟨_, .drop (by kernel_rfl) (.drop (by kernel_rfl) (.drop (by kernel_rfl) (.nil))), ?_⟩
    refine TV_end ?_
    refine TX_block_normal ?_
    refine TX_then ?_
    refine TC_reg ?_
    refine TL_q rfl rfl (QT_move rfl rfl rfl) ?_
    refine TL_q rfl rfl (QT_add rfl rfl rfl rfl (fun _ => ⟨by omega, by omega⟩)) ?_
    refine TL_q rfl rfl (QT_assign rfl rfl rfl) ?_
    refine TL_nil ?_
    refine TX_round ⟨(i + 1, bs1 ++ [B ||| (b.toNat <<< (free - 1))], .slice (some ⟨bb, 0, none⟩) (bs1 ++ [B]).length bcap, free - 1, [(bb, 5, byV (bs1 ++ [B ||| (b.toNat <<< (free - 1))]) ++ rest)]), by dsimp only; omega, ?_, hlay, by dsimp only; omega⟩ (by dsimp only; omega) ⟨rfl, rfl, slotI rfl (by dsimp only; omega), trivial⟩ (fun w h => ?_)
    · dsimp only
      obtain ⟨_, hFr⟩ := hF
      rcases hFr with ⟨h, _, _⟩ | ⟨b2, cap2, rest2, hv2, hc2, hl2, hH2⟩
      · cases h
      · obtain ⟨h1, _, rfl⟩ := Value.slice.inj hv2
        simp only [List.cons.injEq, Prod.mk.injEq, true_and, and_true] at hH2
        obtain ⟨rfl, hr⟩ := hH2
        refine ⟨by rw [byV_len, Nat.mul_one], .inr ⟨bb, bcap, rest, by simp, by simpa using hc2, ?_, rfl⟩⟩
        have := List.append_cancel_left hr
        subst this
        simpa [byV_len] using hl2
    · have e := set_last (bs := bs1) (B := B) (rest := rest) (.int .u8 ((B ||| (b.toNat <<< (free - 1)) : Nat) : Int))
      rw [hbl] at e
      have e2 : byV (bs1 ++ [B ||| (b.toNat <<< (free - 1))]) ++ rest = byV bs1 ++ [.int .u8 ((B ||| (b.toNat <<< (free - 1)) : Nat) : Int)] ++ rest := by rw [byV_append]; rfl
      dsimp only
      rw [e2, ← e]
      exact h
  ·
    refine TC_exit ?_
    refine TX_then_exit ?_
    refine TX_then_exit ?_
    refine TX_block_here ?_
    refine TX_then ?_
    refine TC_seq ?_
    refine TC_reg ?_
    refine TL_q rfl rfl (QT_move rfl rfl rfl) ?_
    refine TL_q rfl rfl (QT_assign rfl rfl rfl) ?_
    refine TL_nil ?_
    refine TX_then ?_
    refine TC_ret ?_
    obtain rfl : i = l.length := by omega
    have h := hP.eq
    rw [List.take_length] at h
    exact TX_ret (.inl rfl) (res1 rfl rfl) ⟨_, ⟨bs, H, hF, ⟨by rw [h, show free = 8 * ((l.length + 7) / 8) - l.length by omega], hP.small⟩, rfl⟩, fun _ h => h.cnt fun p => by simp only [List.countP_append, List.countP_cons]; omega⟩
end Go.Proofs.YtjehicncbpljaaaDoor

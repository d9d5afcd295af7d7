/- A ROW OF BITS: a number more, laid piece by piece. -/
import Derived.Test.YtjehicncbpljaaaDoorP06c
namespace Go.Proofs.YtjehicncbpljaaaDoor
open Go Go.Gx Go.RowKit
set_option maxRecDepth 100000

theorem two_u32 {m : Nat} (h : m ≤ 8) : IntKind.u32.wrap (1 * 2 ^ (min (m : Int).toNat IntKind.u32.bits)) = ((2 ^ m : Nat) : Int) := by
  have hp : 2 ^ m ≤ 2 ^ 8 := Nat.pow_le_pow_right (by decide) h
  have e : (1 : Int) * 2 ^ (min (m : Int).toNat IntKind.u32.bits) = ((2 ^ m : Nat) : Int) := by
    rw [Int.toNat_natCast, Nat.min_eq_left (show m ≤ IntKind.u32.bits by show m ≤ 32; omega), Int.one_mul]; simp
  rw [e]
  clear e
  generalize 2 ^ m = X at hp
  exact IntWalk.u32_in (X : Int) ⟨by omega, by omega⟩
theorem shl_u8 {p m : Nat} (hm : m ≤ 8) (h : p <<< m < 256) : IntKind.u8.wrap ((p : Int) * 2 ^ (min (m : Int).toNat IntKind.u8.bits)) = ((p <<< m : Nat) : Int) := by
  have e : (p : Int) * 2 ^ (min (m : Int).toNat IntKind.u8.bits) = ((p <<< m : Nat) : Int) := by
    rw [Int.toNat_natCast, Nat.min_eq_left (show m ≤ IntKind.u8.bits from hm), Nat.shiftLeft_eq]; simp
  rw [e]
  clear e
  generalize p <<< m = X at h
  exact IntWalk.u8_in (X : Int) ⟨by omega, by omega⟩
theorem shl_lt {p many k : Nat} (hp : p < 2 ^ many) (h : many + k ≤ 8) : p <<< k < 256 := by
  rw [Nat.shiftLeft_eq]
  have h1 : p * 2 ^ k < 2 ^ many * 2 ^ k := Nat.mul_lt_mul_of_pos_right hp (Nat.two_pow_pos k)
  rw [← Nat.pow_add] at h1
  have h2 : 2 ^ (many + k) ≤ 2 ^ 8 := Nat.pow_le_pow_right (by decide) h
  omega
theorem set_last {bs : List Nat} {B : Nat} {rest : List Value} (v : Value) : setAt (byV (bs ++ [B]) ++ rest) (0 + ((bs ++ [B]).length - 1) * 1) [v] = byV bs ++ [v] ++ rest := by
  have h1 : (byV bs).length = bs.length := byV_len bs
  have e : byV (bs ++ [B]) ++ rest = byV bs ++ [.int .u8 (B : Int)] ++ rest := by rw [byV_append]; rfl
  rw [e, List.length_append, List.length_singleton, show 0 + (bs.length + 1 - 1) * 1 = (byV bs).length by omega]
  exact setAt_mid [v] (byV bs) [.int .u8 (B : Int)] rest rfl
theorem lay_bits (l : List Bool) (a many v n : Nat) (hm : many ≤ n) : l ++ bitsN a (v / 2 ^ n) ++ bitsN many (v / 2 ^ (n - many) % 2 ^ many) = l ++ bitsN (a + many) (v / 2 ^ (n - many)) := by
  rw [bitsN_mod, bitsN_add, Nat.div_div_eq_div_mul, ← Nat.pow_add, show n - many + many = n by omega, List.append_assoc]

theorem lays_spec (w0 : Base) (η H0 : Heap) (rb : Nat) (bv0 : Value) (bs0 : List Nat) (free0 : Nat) (l0 : List Bool) (v n0 : Nat) (hF0 : Frag 5 1 bv0 bs0.length (byV bs0) H0) (hP0 : Packed bs0 free0 l0) (h80 : free0 < 8) (hv : v < 4294967296) (hn0 : n0 ≤ 32) (hl0 : l0.length ≤ 1000000) :
    CallsT Tryd.prog 104 [.pointer (some ⟨rb, 0, none⟩), .int .u32 (v : Int), .int .i64 (n0 : Int)] (St w0 ((rb, 201, rowC bv0 free0 1) :: (H0 ++ η))) fun _ A' => ∃ bs bv free H, Frag 5 1 bv bs.length (byV bs) H ∧ Packed bs free (l0 ++ bitsN n0 v) ∧ free < 8 ∧ A' = St w0 ((rb, 201, rowC bv free 1) :: (H ++ η)) := by
  refine CallsT.body Tryd.func104 rfl rfl ?_
  simp only [Tryd.ntmps104, slotsOf, Nat.reduceAdd]
  refine TC_jumps (γ := { t : Nat × List Nat × Value × Nat × Heap // t.1 ≤ n0 ∧ Frag 5 1 t.2.2.1 t.2.1.length (byV t.2.1) t.2.2.2.2 ∧ Packed t.2.1 t.2.2.2.1 (l0 ++ bitsN (n0 - t.1) (v / 2 ^ t.1)) ∧ t.2.2.2.1 < 8 }) (fun t => [(0, true, .pointer (some ⟨rb, 0, none⟩)), (1, true, .int .u32 (v : Int)), (2, true, .int .i64 (t.1.1 : Int))]) (fun t => St w0 ((rb, 201, rowC t.1.2.2.1 t.1.2.2.2.1 1) :: (t.1.2.2.2.2 ++ η))) (fun t => t.1.1) ⟨(n0, bs0, bv0, free0, H0), Nat.le_refl _, hF0, by rw [Nat.sub_self]; show Packed bs0 free0 (l0 ++ []); rw [List.append_nil]; exact hP0, h80⟩ ⟨rfl, rfl, rfl, trivial⟩ (fun _ h => h) ?_
  rintro ⟨⟨n, bs, bv, free, H⟩, hn, hF, hP, h8f⟩
  dsimp only at hn hF hP h8f ⊢
  have hln := hP.len
  rw [List.length_append, bitsN_len] at hln
  have hfl := hP.le
  refine TC_seq ?_
  refine TC_seq ?_
  refine TC_reg ?_
  refine TL_q rfl rfl (QT_move rfl rfl rfl) ?_
  refine TL_q rfl rfl (QT_eql rfl rfl rfl rfl) ?_
  refine TL_nil ?_
  refine TX_then ?_
  first
    | refine TC_cond_dec rfl (fun h8 => ?_) (fun h8 => ?_)
    | refine TC_cond rfl (fun h8 => ?_) (fun h8 => ?_)
  ·
    refine TC_ret ?_
    refine TX_then_ret ?_
    refine TX_jump_ret ?_
    obtain rfl : n = 0 := by omega
    refine TX_ret (.inl rfl) (res0 rfl) ⟨_, ⟨bs, bv, free, H, hF, ?_, h8f, rfl⟩, fun _ h => h⟩
    rw [Nat.sub_zero, Nat.pow_zero, Nat.div_one] at hP
    exact hP
  ·
    refine TC_skip ?_
    refine TX_then ?_
    refine TC_cut (γ := { t : List Nat × Value × Nat × Heap // (0 < t.2.2.1 ∧ 0 < n) ∧ Frag 5 1 t.2.1 t.1.length (byV t.1) t.2.2.2 ∧ Packed t.1 t.2.2.1 (l0 ++ bitsN (n0 - n) (v / 2 ^ n)) }) (fun _ => [(0, true, .pointer (some ⟨rb, 0, none⟩)), (1, true, .int .u32 (v : Int)), (2, true, .int .i64 (n : Int))]) (fun t => St w0 ((rb, 201, rowC t.1.2.1 t.1.2.2.1 1) :: (t.1.2.2.2 ++ η))) ?_ ?_
    ·
      refine TC_seq ?_
      refine TC_reg ?_
      refine TL_q rfl rfl (QT_move rfl rfl rfl) ?_
      refine TL_q rfl rfl (QT_nilCheck rfl rfl rfl) ?_
      refine TL_q rfl rfl (QT_field rfl rfl YtjehicncbpljaaaDoorF.fld_199_1 rfl) ?_
      first
        | refine TL_q rfl rfl (QT_load 0 rfl rfl Tryd.underlying3 rfl rfl rfl (fun _ => rfl)) ?_
        | refine TL_q rfl rfl (QT_load 1 rfl rfl Tryd.underlying3 rfl rfl rfl (fun _ => rfl)) ?_
        | refine TL_q rfl rfl (QT_load 2 rfl rfl Tryd.underlying3 rfl rfl rfl (fun _ => rfl)) ?_
      refine TL_q rfl rfl (QT_eql rfl rfl rfl rfl) ?_
      refine TL_nil ?_
      refine TX_then ?_
      first
        | refine TC_cond_dec rfl (fun h13 => ?_) (fun h13 => ?_)
        | refine TC_cond rfl (fun h13 => ?_) (fun h13 => ?_)
      ·
        refine TC_reg ?_
        refine TL_q rfl rfl (QT_move rfl rfl rfl) ?_
        refine TL_q rfl rfl (QT_move rfl rfl rfl) ?_
        refine TL_q rfl rfl (QT_move rfl rfl rfl) ?_
        refine TL_q rfl rfl (QT_nilCheck rfl rfl rfl) ?_
        refine TL_q rfl rfl (QT_field rfl rfl YtjehicncbpljaaaDoorF.fld_199_0 rfl) ?_
        first
          | refine TL_q rfl rfl (QT_load 0 rfl rfl Tryd.underlying28 rfl rfl rfl (fun _ => rfl)) ?_
          | refine TL_q rfl rfl (QT_load 1 rfl rfl Tryd.underlying28 rfl rfl rfl (fun _ => rfl)) ?_
          | refine TL_q rfl rfl (QT_load 2 rfl rfl Tryd.underlying28 rfl rfl rfl (fun _ => rfl)) ?_
        refine TL_e rfl rfl rfl (rfl) (ET_buildSlice rfl Tryd.underlying28 YtjehicncbpljaaaDoorF.sz_5 YtjehicncbpljaaaDoorF.zero_5 rfl rfl rfl) ?_
        rintro _ _ ⟨b20, rfl, rfl⟩
        refine TL_e rfl rfl rfl (rfl) (ET_appendL (L := [_, _]) rfl Tryd.underlying28 el_Byte rfl rfl hF (fun _ h => h) (SlA.own (n := 1) (xs := [.int .u8 0]) 0 rfl rfl (Nat.le_refl _) (by omega)) (fun u hu => by cases List.mem_singleton.1 hu; rfl) (by omega) (by omega)) ?_
        rintro cv _ ⟨H', hF', rfl⟩
        obtain ⟨cad, ccap, rfl, _, _⟩ := hF'.slice
        refine TL_q rfl rfl (QT_nilCheck rfl rfl rfl) ?_
        refine TL_q rfl rfl (QT_field rfl rfl YtjehicncbpljaaaDoorF.fld_199_0 rfl) ?_
        first
          | refine TL_e0 rfl rfl (rfl) (ET_store 0 rfl rfl rfl rfl YtjehicncbpljaaaDoorF.sz_28 rfl rfl rfl) ?_
          | refine TL_e0 rfl rfl (rfl) (ET_store 1 rfl rfl rfl rfl YtjehicncbpljaaaDoorF.sz_28 rfl rfl rfl) ?_
          | refine TL_e0 rfl rfl (rfl) (ET_store 2 rfl rfl rfl rfl YtjehicncbpljaaaDoorF.sz_28 rfl rfl rfl) ?_
        rintro _ _ ⟨rfl, rfl⟩
        refine TL_q rfl rfl (QT_nilCheck rfl rfl rfl) ?_
        refine TL_q rfl rfl (QT_field rfl rfl YtjehicncbpljaaaDoorF.fld_199_1 rfl) ?_
        first
          | refine TL_e0 rfl rfl (rfl) (ET_store 0 rfl rfl rfl rfl YtjehicncbpljaaaDoorF.sz_3 rfl rfl rfl) ?_
          | refine TL_e0 rfl rfl (rfl) (ET_store 1 rfl rfl rfl rfl YtjehicncbpljaaaDoorF.sz_3 rfl rfl rfl) ?_
          | refine TL_e0 rfl rfl (rfl) (ET_store 2 rfl rfl rfl rfl YtjehicncbpljaaaDoorF.sz_3 rfl rfl rfl) ?_
        rintro _ _ ⟨rfl, rfl⟩
        refine TL_nil ?_
        obtain rfl : free = 0 := by omega
        exact TX_cut ⟨(bs ++ [0], .slice cad (bs.length + 1) ccap, 8, H'), ⟨by show 0 < 8; decide, by omega⟩, by rw [List.length_append, byV_append]; exact hF', hP.more⟩ ⟨rfl, rfl, rfl, trivial⟩ (fun _ h => h.tail)
      ·
        refine TC_skip ?_
        exact TX_cut ⟨(bs, bv, free, H), ⟨by show 0 < free; omega, by omega⟩, hF, hP⟩ ⟨rfl, rfl, rfl, trivial⟩ (fun _ h => h)
    clear hF hP hln hfl h8f bs bv free H
    rintro ⟨⟨bs, bv, free, H⟩, ⟨hf0, hn1⟩, hF, hP⟩
    dsimp only at hf0 hF hP ⊢
    have hln := hP.len
    rw [List.length_append, bitsN_len] at hln
    have hfl := hP.le
    obtain ⟨many, hmany⟩ : ∃ many, many = min n free := ⟨_, rfl⟩
    have hm1 : many ≤ n := by omega
    have hm2 : many ≤ free := by omega
    have hm0 : 0 < many := by omega
    refine TC_seq ?_
    refine TC_reg ?_
    refine TL_q rfl rfl (QT_move rfl rfl rfl) ?_
    refine TL_q rfl rfl (QT_move rfl rfl rfl) ?_
    refine TL_q rfl rfl (QT_nilCheck rfl rfl rfl) ?_
    refine TL_q rfl rfl (QT_field rfl rfl YtjehicncbpljaaaDoorF.fld_199_1 rfl) ?_
    first
      | refine TL_q rfl rfl (QT_load 0 rfl rfl Tryd.underlying3 rfl rfl rfl (fun _ => rfl)) ?_
      | refine TL_q rfl rfl (QT_load 1 rfl rfl Tryd.underlying3 rfl rfl rfl (fun _ => rfl)) ?_
      | refine TL_q rfl rfl (QT_load 2 rfl rfl Tryd.underlying3 rfl rfl rfl (fun _ => rfl)) ?_
    refine TL_q rfl rfl (QT_to (QT_min rfl rfl rfl rfl) (z' := (many : Int)) (by omega)) ?_
    refine TL_q rfl rfl (QT_assign rfl rfl rfl) ?_
    refine TL_nil ?_
    refine TX_then ?_
    refine TC_seq ?_
    refine TC_draw [(0, 0), (1, 0), (2, 0), (3, 0), (4, 0), (5, 0), (6, 0), (7, 0), (8, 0), (9, 0), (10, 0), (11, 0), (12, 0), (13, 1)] YtjehicncbpljaaaDoorF.mixed (by kernel_rfl) (St.calm _ _) ?_
    refine TV_q rfl rfl rfl (fun _ => QT_move rfl rfl rfl) ?_
    refine TV_q rfl rfl rfl (fun _ => QT_move rfl rfl rfl) ?_
    refine TV_q rfl rfl rfl (fun _ => QT_move rfl rfl rfl) ?_
    refine TV_q rfl rfl rfl (fun _ => QT_to (QT_sub rfl rfl rfl rfl (fun _ => ⟨by omega, by omega⟩)) (show (n : Int) - (many : Int) = ((n - many : Nat) : Int) by omega)) ?_
    refine TV_q rfl rfl rfl (fun _ => QT_move rfl rfl rfl) ?_
    refine TV_q rfl rfl rfl (fun _ => QT_nilCheck rfl rfl rfl) ?_
    refine TV_q rfl rfl rfl (fun _ => QT_field rfl rfl YtjehicncbpljaaaDoorF.fld_199_1 rfl) ?_
    first
      | refine TV_ql rfl rfl rfl (QT_load 0 rfl rfl Tryd.underlying3 rfl rfl rfl (fun _ => rfl)) ?_
      | refine TV_ql rfl rfl rfl (QT_load 1 rfl rfl Tryd.underlying3 rfl rfl rfl (fun _ => rfl)) ?_
      | refine TV_ql rfl rfl rfl (QT_load 2 rfl rfl Tryd.underlying3 rfl rfl rfl (fun _ => rfl)) ?_
    refine TV_q rfl rfl rfl (fun _ => QT_move rfl rfl rfl) ?_
    refine TV_q rfl rfl rfl (fun _ => QT_to (QT_sub rfl rfl rfl rfl (fun _ => ⟨by omega, by omega⟩)) (show (free : Int) - (many : Int) = ((free - many : Nat) : Int) by omega)) ?_
    refine TV_q rfl rfl rfl (fun _ => QT_assign rfl rfl rfl) ?_
    refine TV_q rfl rfl rfl (fun _ => QT_nilCheck rfl rfl rfl) ?_
    refine TV_q rfl rfl rfl (fun _ => QT_field rfl rfl YtjehicncbpljaaaDoorF.fld_199_1 rfl) ?_
    first
      | refine TV_e0 rfl rfl rfl (rfl) (ET_store 0 rfl rfl rfl rfl YtjehicncbpljaaaDoorF.sz_3 rfl rfl rfl) ?_
      | refine TV_e0 rfl rfl rfl (rfl) (ET_store 1 rfl rfl rfl rfl YtjehicncbpljaaaDoorF.sz_3 rfl rfl rfl) ?_
      | refine TV_e0 rfl rfl rfl (rfl) (ET_store 2 rfl rfl rfl rfl YtjehicncbpljaaaDoorF.sz_3 rfl rfl rfl) ?_
    rintro _ _ ⟨rfl, rfl⟩
    refine ⟨_, .drop (by kernel_rfl) (.nil), ?_⟩
    refine TV_end ?_
    refine TX_then ?_
    refine TC_seq ?_
    obtain ⟨bs1, B, rfl⟩ : ∃ bs1 B, bs = bs1 ++ [B] := by
      rcases List.eq_nil_or_concat bs with h | ⟨a, b, h⟩
      · subst h; simp at hln; omega
      · exact ⟨a, b, by rw [h]; simp⟩
    obtain ⟨bad, bcap, rfl, hbc, hbb⟩ := hF.slice
    obtain ⟨bb, rest, rfl, rfl⟩ := hbb (by simp)
    obtain ⟨hlt, hlay⟩ := hP.lay (many := many) (p := v / 2 ^ (n - many) % 2 ^ many) hm2 (Nat.mod_lt _ (Nat.two_pow_pos _))
    rw [lay_bits l0 (n0 - n) many v n hm1] at hlay
    have hB : B < 256 := hP.small B (by simp)
    have hm8 : many ≤ 8 := by omega
    have hp8 := pow_b (m := many) (by omega)
    have hpm : v / 2 ^ (n - many) % 2 ^ many < 2 ^ many := Nat.mod_lt _ hp8.1
    have hp256 : 2 ^ many ≤ 2 ^ 8 := Nat.pow_le_pow_right (by decide) hm8
    have hvd : v / 2 ^ (n - many) ≤ v := Nat.div_le_self ..
    have hsl := shl_lt (k := free - many) hpm (by omega)
    have hBat : (byV (bs1 ++ [B]) ++ rest)[0 + ((bs1 ++ [B]).length - 1) * 1]? = some (.int .u8 (B : Int)) := by
      rw [byV_append, List.append_assoc, List.getElem?_append_right (by rw [byV_len]; simp), byV_len]
      simp [byV]
    have hble : 0 + ((bs1 ++ [B]).length - 1) * 1 + 1 ≤ (byV (bs1 ++ [B]) ++ rest).length := by
      have e1 : (byV (bs1 ++ [B]) ++ rest).length = (bs1 ++ [B]).length + rest.length := by rw [List.length_append, byV_len]
      have e2 : 0 < (bs1 ++ [B]).length := by simp
      omega
    refine TC_draw [(0, 0), (1, 0), (2, 0), (3, 0), (4, 0), (5, 0), (6, 0), (7, 0), (8, 0), (9, 0), (10, 0), (11, 0), (12, 0), (13, 0), (14, 0), (15, 0), (16, 0), (17, 0), (18, 0), (19, 0), (20, 0), (21, 0), (22, 0), (23, 0), (24, 0), (25, 0), (26, 0), (27, 1)] YtjehicncbpljaaaDoorF.mixed (by kernel_rfl) (St.calm _ _) ?_
    refine TV_q rfl rfl rfl (fun _ => QT_move rfl rfl rfl) ?_
    refine TV_q rfl rfl rfl (fun _ => QT_nilCheck rfl rfl rfl) ?_
    refine TV_q rfl rfl rfl (fun _ => QT_field rfl rfl YtjehicncbpljaaaDoorF.fld_199_0 rfl) ?_
    first
      | refine TV_ql rfl rfl rfl (QT_load 0 rfl rfl Tryd.underlying28 rfl rfl rfl (fun _ => rfl)) ?_
      | refine TV_ql rfl rfl rfl (QT_load 1 rfl rfl Tryd.underlying28 rfl rfl rfl (fun _ => rfl)) ?_
      | refine TV_ql rfl rfl rfl (QT_load 2 rfl rfl Tryd.underlying28 rfl rfl rfl (fun _ => rfl)) ?_
    refine TV_q rfl rfl rfl (fun _ => QT_move rfl rfl rfl) ?_
    refine TV_q rfl rfl rfl (fun _ => QT_nilCheck rfl rfl rfl) ?_
    refine TV_q rfl rfl rfl (fun _ => QT_field rfl rfl YtjehicncbpljaaaDoorF.fld_199_0 rfl) ?_
    first
      | refine TV_ql rfl rfl rfl (QT_load 0 rfl rfl Tryd.underlying28 rfl rfl rfl (fun _ => rfl)) ?_
      | refine TV_ql rfl rfl rfl (QT_load 1 rfl rfl Tryd.underlying28 rfl rfl rfl (fun _ => rfl)) ?_
      | refine TV_ql rfl rfl rfl (QT_load 2 rfl rfl Tryd.underlying28 rfl rfl rfl (fun _ => rfl)) ?_
    refine TV_q rfl rfl rfl (fun _ => QT_len rfl rfl Tryd.underlying28 rfl) ?_
    refine TV_q rfl rfl rfl (fun _ => QT_to (QT_sub rfl rfl rfl rfl (fun _ => ⟨by omega, by omega⟩)) (show (((bs1 ++ [B]).length : Nat) : Int) - 1 = (((bs1 ++ [B]).length - 1 : Nat) : Int) by simp)) ?_
    refine TV_q rfl rfl rfl (fun _ => QT_indexSlice ((bs1 ++ [B]).length - 1) rfl rfl Tryd.underlying28 YtjehicncbpljaaaDoorF.sz_5 rfl rfl (rfl) (fun _ => by simp)) ?_
    refine TV_ql rfl rfl rfl (QT_load 1 rfl rfl Tryd.underlying5 rfl rfl rfl (fun _ => hBat)) ?_
    refine TV_q rfl rfl rfl (fun _ => QT_move rfl rfl rfl) ?_
    refine TV_q rfl rfl rfl (fun _ => QT_move rfl rfl rfl) ?_
    refine TV_q rfl rfl rfl (fun _ => QT_to (QT_shr rfl rfl rfl rfl (fun _ => by omega)) (shr_nat (k := .u32) (by show n - many ≤ 32; omega))) ?_
    refine TV_q rfl rfl rfl (fun _ => QT_move rfl rfl rfl) ?_
    refine TV_q rfl rfl rfl (fun _ => QT_to (QT_shl rfl rfl rfl rfl (fun _ => by omega)) (two_u32 hm8)) ?_
    refine TV_q rfl rfl rfl (fun _ => QT_to (QT_subw rfl rfl rfl rfl) (show IntKind.u32.wrap (((2 ^ many : Nat) : Int) - 1) = ((2 ^ many - 1 : Nat) : Int) by rw [IntWalk.u32_in _ ⟨by omega, by omega⟩]; omega)) ?_
    refine TV_q rfl rfl rfl (fun _ => QT_to (QT_bits rfl rfl (by decide) rfl rfl) (show bitsOf .and .u32 ((v / 2 ^ (n - many) : Nat) : Int) ((2 ^ many - 1 : Nat) : Int) = ((v / 2 ^ (n - many) % 2 ^ many : Nat) : Int) by rw [and_u32 (by omega) (by omega), Nat.and_two_pow_sub_one_eq_mod])) ?_
    refine TV_q rfl rfl rfl (fun _ => QT_convN rfl rfl Tryd.underlying60 Tryd.underlying5 rfl (IntWalk.u8_in _ ⟨by omega, by omega⟩)) ?_
    refine TV_q rfl rfl rfl (fun _ => QT_move rfl rfl rfl) ?_
    refine TV_q rfl rfl rfl (fun _ => QT_nilCheck rfl rfl rfl) ?_
    refine TV_q rfl rfl rfl (fun _ => QT_field rfl rfl YtjehicncbpljaaaDoorF.fld_199_1 rfl) ?_
    first
      | refine TV_ql rfl rfl rfl (QT_load 0 rfl rfl Tryd.underlying3 rfl rfl rfl (fun _ => rfl)) ?_
      | refine TV_ql rfl rfl rfl (QT_load 1 rfl rfl Tryd.underlying3 rfl rfl rfl (fun _ => rfl)) ?_
      | refine TV_ql rfl rfl rfl (QT_load 2 rfl rfl Tryd.underlying3 rfl rfl rfl (fun _ => rfl)) ?_
    refine TV_q rfl rfl rfl (fun _ => QT_to (QT_shl rfl rfl rfl rfl (fun _ => by omega)) (shl_u8 (by omega) hsl)) ?_
    refine TV_q rfl rfl rfl (fun _ => QT_to (QT_bits rfl rfl (by decide) rfl rfl) (or_u8 hB hsl hlt)) ?_
    refine TV_q rfl rfl rfl (fun _ => QT_indexSlice ((bs1 ++ [B]).length - 1) rfl rfl Tryd.underlying28 YtjehicncbpljaaaDoorF.sz_5 rfl rfl (rfl) (fun _ => by simp)) ?_
    refine TV_e0 rfl rfl rfl (rfl) (ET_store (vs := [.int .u8 ((B ||| ((v / 2 ^ (n - many) % 2 ^ many) <<< (free - many)) : Nat) : Int)]) 1 rfl rfl rfl rfl YtjehicncbpljaaaDoorF.sz_5 rfl rfl (Nat.ble_eq_true_of_le hble)) ?_
    rintro _ _ ⟨rfl, rfl⟩
    refine ⟨_, .drop (by kernel_rfl) (.drop (by kernel_rfl) (.drop (by kernel_rfl) (.drop (by kernel_rfl) (.nil)))), ?_⟩
    refine TV_end ?_
    refine TX_then ?_
    refine TC_goto ?_
    refine TX_jump_round ⟨(n - many, bs1 ++ [B ||| ((v / 2 ^ (n - many) % 2 ^ many) <<< (free - many))], .slice (some ⟨bb, 0, none⟩) (bs1 ++ [B]).length bcap, free - many, [(bb, 5, byV (bs1 ++ [B ||| ((v / 2 ^ (n - many) % 2 ^ many) <<< (free - many))]) ++ rest)]), by dsimp only; omega, ?_, ?_, by dsimp only; omega⟩ (by dsimp only; omega) ⟨rfl, rfl, rfl, trivial⟩ (fun w h => ?_)
    · dsimp only
      obtain ⟨_, hFr⟩ := hF
      rcases hFr with ⟨h, _, _⟩ | ⟨b2, cap2, rest2, hv2, hc2, hl2, hH2⟩
      · cases h
      · obtain ⟨h1, _, rfl⟩ := Value.slice.inj hv2
        simp only [List.cons.injEq, Prod.mk.injEq, true_and, and_true] at hH2
        obtain ⟨rfl, hr⟩ := hH2
        refine ⟨by rw [byV_len, Nat.mul_one], .inr ⟨bb, bcap, rest, by simp, by simpa using hc2, ?_, rfl⟩⟩
        have := List.append_cancel_left hr
        subst this
        simpa [byV_len] using hl2
    · dsimp only
      rw [show n0 - (n - many) = n0 - n + many by omega]
      exact hlay
    · have e := set_last (bs := bs1) (B := B) (rest := rest) (.int .u8 ((B ||| ((v / 2 ^ (n - many) % 2 ^ many) <<< (free - many)) : Nat) : Int))
      have e2 : byV (bs1 ++ [B ||| ((v / 2 ^ (n - many) % 2 ^ many) <<< (free - many))]) ++ rest = byV bs1 ++ [.int .u8 ((B ||| ((v / 2 ^ (n - many) % 2 ^ many) <<< (free - many)) : Nat) : Int)] ++ rest := by rw [byV_append]; rfl
      dsimp only
      rw [e2, ← e]
      exact h
end Go.Proofs.YtjehicncbpljaaaDoor

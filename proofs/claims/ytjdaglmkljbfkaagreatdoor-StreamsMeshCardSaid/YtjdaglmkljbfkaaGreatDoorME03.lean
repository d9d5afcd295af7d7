/- THE DOCUMENT's ROW OF BITS: noughts and ones, one behind the other. NUMBERS GOING THROUGH A HAND, one behind the other: what a reader reads, what a layer lays. Plain. ROWS OF BITS: a new one; its bytes; a number put with others' memory about. LISTS OF STRUCTS OF INTEGERS: are two the same; the facts on their types. One text for each kind of list that the seat has. A LIST's COPY WITH MARKS BEHIND IT, and whether it is still as it was. THE BOOK: fill, grow, marked, for each kind of list of structs. THE BOOK: a list more, and whether all are apart. -/
import Derived.Test.YtjdaglmkljbfkaaGreatDoorME02
namespace Go.Proofs.YtjdaglmkljbfkaaGreatDoor
open Go Go.Gx Go.RowKit
set_option maxRecDepth 100000
def bitV (l : List Bool) : List Value := byV (l.map Bool.toNat)
theorem bitV_append (a b : List Bool) : bitV (a ++ b) = bitV a ++ bitV b := by simp [bitV, byV]
theorem bitV_at {l : List Bool} {i : Nat} {b : Bool} (h : l[i]? = some b) : (bitV l)[i]? = some (.int .u8 ((b.toNat : Nat) : Int)) := by simp [bitV, byV, h]
def RefAt (mb : Nat) (l : List Bool) (K : Heap) : Prop := ∃ lv H, Frag 5 1 lv l.length (bitV l) H ∧ K = (mb, 233, [lv]) :: H
theorem rnew_spec (w0 : Base) (η : Heap) :
  CallsT Tryz.prog 114 [] (St w0 η) fun v A' => ∃ mb K, v = .pointer (some ⟨mb, 0, none⟩) ∧ RefAt mb [] K ∧ A' = St w0 (K ++ η) := by
 refine CallsT.body Tryz.func114 rfl rfl ?_
 simp only [Tryz.ntmps114, slotsOf, Nat.reduceAdd]
 refine Qe (Qg ?_)
 refine Qa rfl rfl (Qd rfl rfl rfl) ?_
 refine Qf (Qb (Qe (Qg ?_)))
 refine Qa rfl rfl (QT_build rfl rfl KF.zero_233 KF.pl_233 rfl rfl rfl) ?_
 refine TL_e rfl rfl rfl (rfl) (ET_box rfl rfl) ?_
 rintro _ _ ⟨b2, rfl, rfl⟩
 refine Qa rfl rfl (Qd rfl rfl rfl) ?_
 refine Qf (Qb ?_)
 refine Qu ?_
 exact Qs (.inl rfl) (res1 rfl rfl) ⟨_, ⟨b2, [(b2, 233, [.slice none 0 0])], rfl, ⟨_, [], Frag.nil _ _, rfl⟩, rfl⟩, fun _ h => h⟩
theorem rput_spec (w0 : Base) (η K : Heap) (mb : Nat) (l : List Bool) (v : Nat) (n : Int) (hK : RefAt mb l K) (hv : v < 4294967296) (hn : I64 n) (hl : l.length ≤ 524288) :
    CallsT Tryz.prog 115 [.pointer (some ⟨mb, 0, none⟩), .int .u32 (v : Int), .int .i64 n] (St w0 (K ++ η)) fun r A' => ∃ K', r = .int .i64 (putE l.length v n) ∧ RefAt mb (putL l v n) K' ∧ A' = St w0 (K' ++ η) := by
  obtain ⟨lv, H, hF, rfl⟩ := hK
  obtain ⟨lad0, lcap0, rfl, _, _⟩ := hF.slice
  have hsame : ∀ {e : Int}, putE l.length v n = e → e ≠ 0 → RefAt mb (putL l v n) ((mb, 233, [.slice lad0 l.length lcap0]) :: H) := fun h h0 => by
    unfold putL
    rw [if_neg (by rw [h]; exact h0)]
    exact ⟨_, H, hF, rfl⟩
  have hv32 : v / 2 ^ 32 = 0 := Nat.div_eq_of_lt (by omega)
  refine CallsT.body Tryz.func115 rfl rfl ?_
  simp only [Tryz.ntmps115, slotsOf, Nat.reduceAdd]
  refine Qe (Qg ?_)
  refine Qa rfl rfl (Qd rfl rfl rfl) ?_
  refine Qf (Qb (Qe (Qe (Qg ?_))))
  refine Qa rfl rfl (Qc rfl rfl rfl) ?_
  refine Qa rfl rfl (QT_lss rfl rfl rfl rfl) ?_
  refine Qa rfl rfl (Qc rfl rfl rfl) ?_
  refine Qa rfl rfl (Qc rfl rfl rfl) ?_
  refine Qa rfl rfl (QT_gtr rfl rfl rfl rfl) ?_
  refine Qa rfl rfl (QT_or rfl rfl rfl rfl) ?_
  refine Qa rfl rfl (Qc rfl rfl rfl) ?_
  refine Qa rfl rfl (Qc rfl rfl rfl) ?_
  refine Qa rfl rfl (QT_lss rfl rfl rfl rfl) ?_
  refine Qa rfl rfl (Qc rfl rfl rfl) ?_
  refine Qa rfl rfl (Qc rfl rfl rfl) ?_
  refine Qa rfl rfl (Qc rfl rfl rfl) ?_
  refine Qa rfl rfl (QT_shr rfl rfl rfl rfl (fun h => by simp at h; omega)) ?_
  refine Qa rfl rfl (QT_neq rfl rfl rfl rfl) ?_
  refine Qa rfl rfl (QT_and rfl rfl rfl rfl) ?_
  refine Qa rfl rfl (QT_or rfl rfl rfl rfl) ?_
  refine Qf (Qb ?_)
  refine TC_cond rfl (fun h23 => ?_) (fun h23 => ?_)
  ·
    refine Qe (Qg ?_)
    refine Qa rfl rfl (Qd rfl rfl rfl) ?_
    refine Qf (Qb ?_)
    refine Qu ?_
    refine Qn ?_
    have e1 : putE l.length v n = 1 := by
      unfold putE
      rw [if_pos]
      by_cases h0 : n < 0
      · exact .inl h0
      · by_cases h1 : 32 < n
        · exact .inr (.inl h1)
        · right; right
          rw [shr32 hv (by omega)] at h23
          simp only [Bool.or_eq_true, Bool.and_eq_true, decide_eq_true_eq] at h23
          generalize v / 2 ^ n.toNat = X at h23 ⊢
          omega
    exact Qs (.inl rfl) (res1 rfl rfl) ⟨_, ⟨_, by rw [e1], hsame e1 (by decide), rfl⟩, fun _ h => h⟩
  ·
    refine Qt (Qb (Qe (Qe ?_)))
    have hgood : ¬ (n < 0 ∨ 32 < n ∨ 0 < v / 2 ^ n.toNat) := by
      have h0 : 0 ≤ n ∧ n ≤ 32 := by
        simp only [Bool.or_eq_false_iff, decide_eq_false_iff_not] at h23
        omega
      rw [shr32 hv h0.1] at h23
      simp only [Bool.or_eq_false_iff, Bool.and_eq_false_iff, decide_eq_false_iff_not, ne_eq, Classical.not_not] at h23
      by_cases h32 : n = 32
      · subst h32
        have : v / 2 ^ (32 : Int).toNat = 0 := hv32
        omega
      · generalize v / 2 ^ n.toNat = X at h23 ⊢
        omega
    refine Qg ?_
    refine Qa rfl rfl (Qc rfl rfl rfl) ?_
    refine Qa rfl rfl (Qv rfl rfl rfl) ?_
    refine Qa rfl rfl (Qh rfl rfl KF.fld_233_0 rfl) ?_
    refine Qa rfl rfl (Qj 0 rfl rfl Tryz.underlying28 rfl rfl rfl (fun _ => rfl)) ?_
    refine Qa rfl rfl (Za rfl rfl Tryz.underlying28 rfl) ?_
    refine Qa rfl rfl (Qc rfl rfl rfl) ?_
    refine Qa rfl rfl (Zb rfl rfl rfl rfl (fun _ => ⟨by omega, by omega⟩)) ?_
    refine Qa rfl rfl (QT_gtr rfl rfl rfl rfl) ?_
    refine Qf (Qb ?_)
    refine Qm rfl (fun h31 => ?_) (fun h31 => ?_)
    ·
      refine Qe (Qg ?_)
      refine Qa rfl rfl (Qd rfl rfl rfl) ?_
      refine Qf (Qb ?_)
      refine Qu ?_
      refine Qn ?_
      have e3 : putE l.length v n = 3 := by unfold putE; rw [if_neg hgood, if_pos (by omega)]
      exact Qs (.inl rfl) (res1 rfl rfl) ⟨_, ⟨_, by rw [e3], hsame e3 (by decide), rfl⟩, fun _ h => h⟩
    ·
      refine Qt (Qb (Qe (Qe ?_)))
      have e0 : putE l.length v n = 0 := by unfold putE; rw [if_neg hgood, if_neg (by omega)]
      obtain ⟨m, rfl⟩ := Int.eq_ofNat_of_zero_le (show 0 ≤ n by omega)
      have hm32 : m ≤ 32 := by omega
      refine Qg ?_
      refine Qa rfl rfl (Qc rfl rfl rfl) ?_
      refine Qa rfl rfl (QT_sub rfl rfl rfl rfl (fun _ => ⟨by omega, by omega⟩)) ?_
      refine Qa rfl rfl (Qd rfl rfl rfl) ?_
      refine Qf (Qb (Qr ?_))
      refine TC_loop (γ := { t : Nat × Value × Heap // t.1 ≤ m ∧ Frag 5 1 t.2.1 (l.length + t.1) (bitV (l ++ bitsN t.1 (v / 2 ^ (m - t.1)))) t.2.2 }) (fun t => [(0, true, .pointer (some ⟨mb, 0, none⟩)), (1, true, .int .u32 (v : Int)), (7, true, .int .i64 ((m : Int) - 1 - (t.1.1 : Int)))]) (fun t => St w0 ((mb, 233, [t.1.2.1]) :: (t.1.2.2 ++ η))) (fun t => m - t.1.1) ⟨(0, .slice lad0 l.length lcap0, H), Nat.zero_le _, by show Frag _ 1 _ (l.length + 0) (bitV (l ++ [])) H; rw [List.append_nil]; exact hF⟩ ⟨rfl, rfl, slotI rfl (by dsimp only; omega), trivial⟩ (fun _ h => h) ?_
      rintro ⟨⟨j, lv, H⟩, hj, hF⟩
      dsimp only at hj hF ⊢
      obtain ⟨lad, lcap, rfl, _, _⟩ := hF.slice
      refine Qe (Qe (Qg ?_))
      refine Qa rfl rfl (Qc rfl rfl rfl) ?_
      refine Qa rfl rfl (QT_geq rfl rfl rfl rfl) ?_
      refine Qf (Qb ?_)
      refine Qm rfl (fun h35 => ?_) (fun h35 => ?_)
      ·
        have hj' : j < m := by omega
        have hx : v / 2 ^ (m - 1 - j) ≤ v := Nat.div_le_self ..
        have hx2 : v / 2 ^ (m - 1 - j) % 2 < 2 := Nat.mod_lt _ (by decide)
        refine Qt (Qb (Qe (Qr ?_)))
        refine TC_draw [(0, 0), (1, 0), (2, 0), (3, 0), (4, 0), (5, 0), (6, 0), (7, 0), (8, 0), (9, 0), (10, 1), (11, 1), (12, 0), (13, 0), (14, 1)] KF.mixed (by kernel_rfl) (St.calm _ _) ?_
        refine Qk rfl rfl rfl (fun _ => Qc rfl rfl rfl) ?_
        refine Qk rfl rfl rfl (fun _ => Qc rfl rfl rfl) ?_
        refine Qk rfl rfl rfl (fun _ => Qv rfl rfl rfl) ?_
        refine Qk rfl rfl rfl (fun _ => Qh rfl rfl KF.fld_233_0 rfl) ?_
        refine Qz rfl rfl rfl (Qj 0 rfl rfl Tryz.underlying28 rfl rfl rfl (fun _ => rfl)) ?_
        refine Qk rfl rfl rfl (fun _ => Qc rfl rfl rfl) ?_
        refine Qk rfl rfl rfl (fun _ => QT_to (Qc rfl rfl rfl) (show (m : Int) - 1 - (j : Int) = ((m - 1 - j : Nat) : Int) by omega)) ?_
        refine Qk rfl rfl rfl (fun _ => QT_to (QT_shr rfl rfl rfl rfl (fun _ => by omega)) (shr_nat (k := .u32) (by show m - 1 - j ≤ 32; omega))) ?_
        refine Qk rfl rfl rfl (fun _ => QT_to (QT_bits rfl rfl (by decide) rfl rfl) (show bitsOf .and .u32 ((v / 2 ^ (m - 1 - j) : Nat) : Int) 1 = ((v / 2 ^ (m - 1 - j) % 2 : Nat) : Int) by have := and_u32 (a := v / 2 ^ (m - 1 - j)) (b := 1) (by omega) (by decide); rwa [Nat.and_one_is_mod] at this)) ?_
        refine Qk rfl rfl rfl (fun _ => QT_convN rfl rfl Tryz.underlying70 Tryz.underlying5 rfl (IntWalk.u8_in _ ⟨by omega, by omega⟩)) ?_
        refine TV_e rfl rfl rfl rfl (rfl) (ET_buildN [_] rfl Tryz.underlying28 KF.sz_5 KF.zero_5 rfl rfl rfl (fun v hv => by cases List.mem_singleton.1 hv; rfl)) ?_
        rintro _ _ ⟨b48, rfl, rfl⟩
        refine ⟨_, .keep (by kernel_rfl) rfl (by first | exact Qj 0 rfl rfl Tryz.underlying28 rfl rfl rfl (fun _ => rfl) | exact Qj 1 rfl rfl Tryz.underlying28 rfl rfl rfl (fun _ => rfl) | exact Qj 2 rfl rfl Tryz.underlying28 rfl rfl rfl (fun _ => rfl)) (.nil), ?_⟩
        refine TV_e rfl rfl rfl rfl (rfl) (ET_appendL (L := [_, _]) rfl Tryz.underlying28 el_Byte rfl rfl hF (fun _ h => h) (SlA.own (n := 1) (xs := [.int .u8 ((v / 2 ^ (m - 1 - j) % 2 : Nat) : Int)]) 0 rfl rfl (Nat.le_refl _) (by omega)) (fun u hu => by cases List.mem_singleton.1 hu; rfl) (by omega) (by omega)) ?_
        rintro cv _ ⟨H', hF', rfl⟩
        refine ⟨_, .drop (by kernel_rfl) (.nil), ?_⟩
        obtain ⟨cad, ccap, rfl, _, _⟩ := hF'.slice
        refine Qk rfl rfl rfl (fun _ => Qv rfl rfl rfl) ?_
        refine Qk rfl rfl rfl (fun _ => Qh rfl rfl KF.fld_233_0 rfl) ?_
        refine TV_e0 rfl rfl rfl (rfl) (ET_store 1 rfl rfl rfl rfl KF.sz_28 rfl rfl rfl) ?_
        rintro _ _ ⟨rfl, rfl⟩
        refine ⟨_, .nil, ?_⟩
        refine TV_end ?_
        refine Qo ?_
        refine Qb (Qg ?_)
        refine Qa rfl rfl (Qc rfl rfl rfl) ?_
        refine Qa rfl rfl (QT_sub rfl rfl rfl rfl (fun _ => ⟨by omega, by omega⟩)) ?_
        refine Qa rfl rfl (Qd rfl rfl rfl) ?_
        refine Qf ?_
        refine TX_round ⟨(j + 1, .slice cad (l.length + j + 1) ccap, H'), hj', ?_⟩ (by dsimp only; omega) ⟨rfl, rfl, slotI rfl (by dsimp only; omega), trivial⟩ (fun _ h => h.tail)
        dsimp only
        have e1 : v / 2 ^ (m - (j + 1)) / 2 = v / 2 ^ (m - j) := by
          rw [Nat.div_div_eq_div_mul, ← Nat.pow_succ]; congr 2; omega
        have e2 : bitV (l ++ bitsN (j + 1) (v / 2 ^ (m - (j + 1)))) = bitV (l ++ bitsN j (v / 2 ^ (m - j))) ++ [.int .u8 ((v / 2 ^ (m - 1 - j) % 2 : Nat) : Int)] := by
          rw [bitsN, e1, ← List.append_assoc, bitV_append]
          congr 1
          show [Value.int .u8 (((v / 2 ^ (m - (j + 1)) % 2 == 1).toNat : Nat) : Int)] = _
          rw [toNat_bit, show m - (j + 1) = m - 1 - j by omega]
        rw [e2]
        exact hF'
      ·
        refine Zd ?_
        refine Qi (Qi ?_)
        refine Qp ?_
        refine Qb (Qe (Qg ?_))
        refine Qa rfl rfl (Qd rfl rfl rfl) ?_
        refine Qf (Qb ?_)
        refine Qu ?_
        obtain rfl : j = m := by omega
        refine Qs (.inl rfl) (res1 rfl rfl) ⟨_, ⟨(mb, 233, [.slice lad (l.length + j) lcap]) :: H, by rw [e0], ?_, rfl⟩, fun _ h => h⟩
        unfold putL
        rw [if_pos e0, Int.toNat_natCast]
        rw [Nat.sub_self, Nat.pow_zero, Nat.div_one] at hF
        exact ⟨_, H, by rw [List.length_append, bitsN_len]; exact hF, rfl⟩
theorem take_snoc {l : List Bool} {i : Nat} {b : Bool} (h : l[i]? = some b) : l.take (i + 1) = l.take i ++ [b] := by rw [List.take_add_one, h]; rfl
theorem bits1 (b : Bool) : bitsN 1 b.toNat = [b] := by cases b <;> rfl
theorem rbytes_spec (w0 : Base) (η K : Heap) (mb : Nat) (l : List Bool) (hK : RefAt mb l K) (hl : l.length ≤ 600000) :
    CallsT Tryz.prog 116 [.pointer (some ⟨mb, 0, none⟩)] (St w0 (K ++ η)) fun v A' => ∃ bs H2, Frag 5 1 v bs.length (byV bs) H2 ∧ (byB bs = l ++ List.replicate (8 * ((l.length + 7) / 8) - l.length) false ∧ ∀ c ∈ bs, c < 256) ∧ A' = St w0 (H2 ++ (K ++ η)) := by
  obtain ⟨lv, HL, hFL, rfl⟩ := hK
  have hLs : ∀ X : Heap, SlA (St w0 (X ++ (HL ++ η))) lv 1 l.length (bitV l) := fun X => hFL.within fun p => by simp only [List.countP_append]; omega
  obtain ⟨lad, lcap, rfl, _, _⟩ := hFL.slice
  refine CallsT.body Tryz.func116 rfl rfl ?_
  simp only [Tryz.ntmps116, slotsOf, Nat.reduceAdd]
  refine Qe (Qg ?_)
  refine Qa rfl rfl (Qd rfl rfl rfl) ?_
  refine Qf (Qb (Qe (Qg ?_)))
  refine Qa rfl rfl (Qd rfl rfl rfl) ?_
  refine Qf (Qb (Qe (Qe (Qg ?_))))
  refine Qa rfl rfl (Qd rfl rfl rfl) ?_
  refine Qf (Qb (Qr ?_))
  refine TC_loop (γ := { t : Nat × List Nat × Value × Nat × Heap // t.1 ≤ l.length ∧ Frag 5 1 t.2.2.1 t.2.1.length (byV t.2.1) t.2.2.2.2 ∧ Packed t.2.1 t.2.2.2.1 (l.take t.1) ∧ t.2.2.2.1 < 8 }) (fun t => [(0, true, .pointer (some ⟨mb, 0, none⟩)), (3, true, t.1.2.2.1), (4, true, .int .i64 (t.1.1 : Int))]) (fun t => St w0 ((mb, 233, [.slice lad l.length lcap]) :: (t.1.2.2.2.2 ++ (HL ++ η)))) (fun t => l.length - t.1.1) ⟨(0, [], .slice none 0 0, 0, []), Nat.zero_le _, Frag.nil _ _, Packed.nil, by decide⟩ ⟨rfl, rfl, rfl, trivial⟩ (fun _ h => h) ?_
  rintro ⟨⟨i, bs, bv, free, H⟩, hin, hF, hP, h8f⟩
  dsimp only at hin hF hP h8f ⊢
  have hln := hP.len
  rw [List.length_take, Nat.min_eq_left hin] at hln
  refine Qe (Qe (Qg ?_))
  refine Qa rfl rfl (Qc rfl rfl rfl) ?_
  refine Qa rfl rfl (Qc rfl rfl rfl) ?_
  refine Qa rfl rfl (Qv rfl rfl rfl) ?_
  refine Qa rfl rfl (Qh rfl rfl KF.fld_233_0 rfl) ?_
  refine Qa rfl rfl (Qj 0 rfl rfl Tryz.underlying28 rfl rfl rfl (fun _ => rfl)) ?_
  refine Qa rfl rfl (Za rfl rfl Tryz.underlying28 rfl) ?_
  refine Qa rfl rfl (QT_lss rfl rfl rfl rfl) ?_
  refine Qf (Qb ?_)
  refine Qm rfl (fun h11 => ?_) (fun h11 => ?_)
  ·
    have hi' : i < l.length := by omega
    obtain ⟨b, hb⟩ : ∃ b, l[i]? = some b := ⟨_, List.getElem?_eq_getElem hi'⟩
    refine Qt (Qb (Qe (Qr ?_)))
    refine TC_cut (γ := { t : List Nat × Value × Nat × Heap // (0 < t.2.2.1) ∧ Frag 5 1 t.2.1 t.1.length (byV t.1) t.2.2.2 ∧ Packed t.1 t.2.2.1 (l.take i) }) (fun t => [(0, true, .pointer (some ⟨mb, 0, none⟩)), (3, true, t.1.2.1), (4, true, .int .i64 (i : Int))]) (fun t => St w0 ((mb, 233, [.slice lad l.length lcap]) :: (t.1.2.2.2 ++ (HL ++ η)))) ?_ ?_
    ·
      refine Qe (Qg ?_)
      refine Qa rfl rfl (Qc rfl rfl rfl) ?_
      refine Qa rfl rfl (QT_to (QT_rem rfl rfl rfl rfl (fun _ => ⟨by omega, by omega⟩)) (show (i : Int) % 8 = ((i % 8 : Nat) : Int) by simp)) ?_
      refine Qa rfl rfl (QT_eql rfl rfl rfl rfl) ?_
      refine Qf (Qb ?_)
      refine Qm rfl (fun h16 => ?_) (fun h16 => ?_)
      ·
        refine Qg ?_
        refine Qa rfl rfl (Qc rfl rfl rfl) ?_
        refine TL_e rfl rfl rfl (rfl) (ET_buildSlice rfl Tryz.underlying28 KF.sz_5 KF.zero_5 rfl rfl rfl) ?_
        rintro _ _ ⟨b18, rfl, rfl⟩
        refine TL_e rfl rfl rfl (rfl) (ET_appendL (η := HL ++ η) (L := [_, _]) rfl Tryz.underlying28 el_Byte rfl rfl hF (fun _ h => h) (SlA.own (n := 1) (xs := [.int .u8 0]) 0 rfl rfl (Nat.le_refl _) (by omega)) (fun u hu => by cases List.mem_singleton.1 hu; rfl) (by omega) (by omega)) ?_
        rintro cv _ ⟨H', hF', rfl⟩
        refine Qa rfl rfl (Qd rfl rfl rfl) ?_
        refine Qf ?_
        obtain rfl : free = 0 := by omega
        exact TX_cut ⟨(bs ++ [0], cv, 8, H'), by show 0 < 8; decide, by rw [List.length_append, byV_append]; exact hF', hP.more⟩ ⟨rfl, rfl, rfl, trivial⟩ (fun _ h => h.tail)
      ·
        refine Qt ?_
        exact TX_cut ⟨(bs, bv, free, H), by show 0 < free; omega, hF, hP⟩ ⟨rfl, rfl, rfl, trivial⟩ (fun _ h => h)
    clear hF hP hln h8f bs bv free H
    rintro ⟨⟨bs, bv, free, H⟩, hf0, hF, hP⟩
    dsimp only at hf0 hF hP ⊢
    have hln := hP.len
    rw [List.length_take, Nat.min_eq_left (by omega)] at hln
    have hfl := hP.le
    obtain ⟨bs1, B, rfl⟩ : ∃ bs1 B, bs = bs1 ++ [B] := by
      rcases List.eq_nil_or_concat bs with h | ⟨a, b, h⟩
      · subst h; simp at hln; omega
      · exact ⟨a, b, by rw [h]; simp⟩
    obtain ⟨bad, bcap, rfl, hbc, hbb⟩ := hF.slice
    obtain ⟨bb, rest, rfl, rfl⟩ := hbb (by simp)
    have hbl : (bs1 ++ [B]).length - 1 = i / 8 := by omega
    have hpb : b.toNat < 2 ^ 1 := by cases b <;> decide
    obtain ⟨hlt, hlay⟩ := hP.lay (many := 1) (p := b.toNat) (by omega) hpb
    rw [bits1, ← take_snoc hb] at hlay
    have hfr : free - 1 = 7 - i % 8 := by omega
    have hB : B < 256 := hP.small B (by simp)
    have hsl := shl_lt (k := free - 1) hpb (by omega)
    have hBat : (byV (bs1 ++ [B]) ++ rest)[0 + (i / 8) * 1]? = some (.int .u8 (B : Int)) := by
      rw [← hbl, byV_append, List.append_assoc, List.getElem?_append_right (by rw [byV_len]; simp), byV_len]
      simp [byV]
    have hble : 0 + (i / 8) * 1 + 1 ≤ (byV (bs1 ++ [B]) ++ rest).length := by
      have e1 : (byV (bs1 ++ [B]) ++ rest).length = (bs1 ++ [B]).length + rest.length := by rw [List.length_append, byV_len]
      have e2 : 0 < (bs1 ++ [B]).length := by simp
      omega
    have hi8 : i / 8 < (bs1 ++ [B]).length := by
      have e2 : 0 < (bs1 ++ [B]).length := by simp
      omega
    obtain ⟨_, lad2, lcap2, lb, loff, heq, _, hlad, hlr⟩ := (hLs [(mb, 233, [.slice lad l.length lcap]), (bb, 5, byV (bs1 ++ [B]) ++ rest)]).some
    obtain ⟨rfl, _, rfl⟩ := Value.slice.inj heq
    obtain rfl := hlad (by omega)
    refine TC_draw [(0, 0), (1, 0), (2, 0), (3, 0), (4, 0), (5, 0), (6, 0), (7, 0), (8, 0), (9, 0), (10, 0), (11, 0), (12, 0), (13, 0), (14, 0), (15, 0), (16, 0), (17, 0), (18, 0), (19, 0), (20, 0), (21, 1)] KF.mixed (by kernel_rfl) (St.calm _ _) ?_
    refine Qk rfl rfl rfl (fun _ => Qc rfl rfl rfl) ?_
    refine Qk rfl rfl rfl (fun _ => Qc rfl rfl rfl) ?_
    refine Qk rfl rfl rfl (fun _ => QT_to (QT_quo rfl rfl rfl rfl (fun _ => ⟨by omega, by omega, by omega⟩)) (show (i : Int) / 8 = ((i / 8 : Nat) : Int) by omega)) ?_
    refine Qk rfl rfl rfl (fun _ => Qc rfl rfl rfl) ?_
    refine Qk rfl rfl rfl (fun _ => Qc rfl rfl rfl) ?_
    refine Qk rfl rfl rfl (fun _ => QT_to (QT_quo rfl rfl rfl rfl (fun _ => ⟨by omega, by omega, by omega⟩)) (show (i : Int) / 8 = ((i / 8 : Nat) : Int) by omega)) ?_
    refine Qk rfl rfl rfl (fun _ => Qq (i / 8) rfl rfl Tryz.underlying28 KF.sz_5 rfl rfl (rfl) (fun _ => hi8)) ?_
    refine Qz rfl rfl rfl (Qj 1 rfl rfl Tryz.underlying5 rfl rfl rfl (fun _ => hBat)) ?_
    refine Qk rfl rfl rfl (fun _ => Qc rfl rfl rfl) ?_
    refine Qk rfl rfl rfl (fun _ => Qv rfl rfl rfl) ?_
    refine Qk rfl rfl rfl (fun _ => Qh rfl rfl KF.fld_233_0 rfl) ?_
    refine Qz rfl rfl rfl (Qj 0 rfl rfl Tryz.underlying28 rfl rfl rfl (fun _ => rfl)) ?_
    refine Qk rfl rfl rfl (fun _ => Qc rfl rfl rfl) ?_
    refine Qk rfl rfl rfl (fun _ => Qq (i) rfl rfl Tryz.underlying28 KF.sz_5 rfl rfl (rfl) (fun _ => by omega)) ?_
    refine Qz rfl rfl rfl (Qw i rfl rfl Tryz.underlying5 rfl hlr rfl (fun _ => bitV_at hb)) ?_
    refine Qk rfl rfl rfl (fun _ => Qc rfl rfl rfl) ?_
    refine Qk rfl rfl rfl (fun _ => QT_rem rfl rfl rfl rfl (fun _ => ⟨by omega, by omega⟩)) ?_
    refine Qk rfl rfl rfl (fun _ => QT_to (QT_sub rfl rfl rfl rfl (fun _ => ⟨by omega, by omega⟩)) (show (7 : Int) - (i : Int) % 8 = ((free - 1 : Nat) : Int) by omega)) ?_
    refine Qk rfl rfl rfl (fun _ => QT_to (QT_shl rfl rfl rfl rfl (fun _ => by omega)) (shl_u8 (by omega) hsl)) ?_
    refine Qk rfl rfl rfl (fun _ => QT_to (QT_bits rfl rfl (by decide) rfl rfl) (or_u8 hB hsl hlt)) ?_
    refine Qk rfl rfl rfl (fun _ => Qq (i / 8) rfl rfl Tryz.underlying28 KF.sz_5 rfl rfl (rfl) (fun _ => hi8)) ?_
    refine TV_e0 rfl rfl rfl (rfl) (ET_store (vs := [.int .u8 ((B ||| (b.toNat <<< (free - 1)) : Nat) : Int)]) 1 rfl rfl rfl rfl KF.sz_5 rfl rfl (Nat.ble_eq_true_of_le hble)) ?_
    rintro _ _ ⟨rfl, rfl⟩
    refine ⟨_, .drop (by kernel_rfl) (.drop (by kernel_rfl) (.drop (by kernel_rfl) (.nil))), ?_⟩
    refine TV_end ?_
    refine Qo ?_
    refine Qb (Qg ?_)
    refine Qa rfl rfl (Qc rfl rfl rfl) ?_
    refine Qa rfl rfl (Zb rfl rfl rfl rfl (fun _ => ⟨by omega, by omega⟩)) ?_
    refine Qa rfl rfl (Qd rfl rfl rfl) ?_
    refine Qf ?_
    refine TX_round ⟨(i + 1, bs1 ++ [B ||| (b.toNat <<< (free - 1))], .slice (some ⟨bb, 0, none⟩) (bs1 ++ [B]).length bcap, free - 1, [(bb, 5, byV (bs1 ++ [B ||| (b.toNat <<< (free - 1))]) ++ rest)]), by dsimp only; omega, ?_, hlay, by dsimp only; omega⟩ (by dsimp only; omega) ⟨rfl, rfl, slotI rfl (by dsimp only; omega), trivial⟩ (fun w h => ?_)
    · dsimp only
      obtain ⟨_, hFr⟩ := hF
      rcases hFr with ⟨h, _, _⟩ | ⟨b2, cap2, rest2, hv2, hc2, hl2, hH2⟩
      · cases h
      · obtain ⟨h1, _, rfl⟩ := Value.slice.inj hv2
        simp only [List.cons.injEq, Prod.mk.injEq, true_and, and_true] at hH2
        obtain ⟨rfl, hr⟩ := hH2
        refine ⟨by rw [byV_len, Nat.mul_one], .inr ⟨bb, bcap, rest, by simp, by simpa using hc2, ?_, rfl⟩⟩
        have := List.append_cancel_left hr
        subst this
        simpa [byV_len] using hl2
    · have e := set_last (bs := bs1) (B := B) (rest := rest) (.int .u8 ((B ||| (b.toNat <<< (free - 1)) : Nat) : Int))
      rw [hbl] at e
      have e2 : byV (bs1 ++ [B ||| (b.toNat <<< (free - 1))]) ++ rest = byV bs1 ++ [.int .u8 ((B ||| (b.toNat <<< (free - 1)) : Nat) : Int)] ++ rest := by rw [byV_append]; rfl
      dsimp only
      rw [e2, ← e]
      exact h
  ·
    refine Zd ?_
    refine Qi (Qi ?_)
    refine Qp ?_
    refine Qb (Qe (Qg ?_))
    refine Qa rfl rfl (Qc rfl rfl rfl) ?_
    refine Qa rfl rfl (Qd rfl rfl rfl) ?_
    refine Qf (Qb ?_)
    refine Qu ?_
    obtain rfl : i = l.length := by omega
    have h := hP.eq
    rw [List.take_length] at h
    exact Qs (.inl rfl) (res1 rfl rfl) ⟨_, ⟨bs, H, hF, ⟨by rw [h, show free = 8 * ((l.length + 7) / 8) - l.length by omega], hP.small⟩, rfl⟩, fun _ h => h.cnt fun p => by simp only [List.countP_append, List.countP_cons]; omega⟩
end Go.Proofs.YtjdaglmkljbfkaaGreatDoor
namespace Go.Proofs.YtjdaglmkljbfkaaGreatDoor
open Go Go.Gx
abbrev Ws := List (Nat × Nat)
def run {S : Type} (go : S → Nat → Nat → Nat × S) : Ws → List Nat → S → List Nat × S
 | (w, m) :: ws, x :: xs, s => ((go s x w).1 % m :: (run go ws xs (go s x w).2).1, (run go ws xs (go s x w).2).2)
 | _, _, s => ([], s)
section
variable {S : Type} {go : S → Nat → Nat → Nat × S}
theorem run_len : ∀ {ws : Ws} {xs : List Nat} {s : S}, ws.length = xs.length → (run go ws xs s).1.length = xs.length
 | [], [], _, _ => rfl
 | [], _ :: _, _, h => by simp at h
 | _ :: _, [], _, h => by simp at h
 | (w, m) :: ws, x :: xs, s, h => by
  simp only [run, List.length_cons]
  rw [run_len (by simpa using h)]
theorem run_append : ∀ {a b : Ws} {xs ys : List Nat} {s : S}, a.length = xs.length → run go (a ++ b) (xs ++ ys) s = ((run go a xs s).1 ++ (run go b ys (run go a xs s).2).1, (run go b ys (run go a xs s).2).2)
 | [], b, [], ys, s, _ => rfl
 | [], _, _ :: _, _, _, h => by simp at h
 | _ :: _, _, [], _, _, h => by simp at h
 | (w, m) :: a, b, x :: xs, ys, s, h => by
  simp only [List.cons_append, run]
  rw [run_append (by simpa using h)]
theorem run_step {ws : Ws} {xs : List Nat} {s : S} {k w m x : Nat} (hw : ws[k]? = some (w, m)) (hx : xs[k]? = some x) :
  run go (ws.take (k + 1)) (xs.take (k + 1)) s = ((run go (ws.take k) (xs.take k) s).1 ++ [(go (run go (ws.take k) (xs.take k) s).2 x w).1 % m], (go (run go (ws.take k) (xs.take k) s).2 x w).2) := by
 have h1 : k < ws.length := (List.getElem?_eq_some_iff.1 hw).1
 have h2 : k < xs.length := (List.getElem?_eq_some_iff.1 hx).1
 rw [List.take_add_one, List.take_add_one, hw, hx]
 show run go (ws.take k ++ [(w, m)]) (xs.take k ++ [x]) s = _
 rw [run_append (by rw [List.length_take, List.length_take]; omega)]
 rfl
end
def tot (ws : Ws) : Nat := (ws.map (·.1)).sum
theorem tot_cons (p : Nat × Nat) (ws : Ws) : tot (p :: ws) = p.1 + tot ws := by simp [tot]
theorem tot_append (a b : Ws) : tot (a ++ b) = tot a + tot b := by simp [tot]
def dec : Ws → List Bool → List Nat
 | [], _ => []
 | (w, m) :: r, l => num (l.take w) % m :: dec r (l.drop w)
def enc : Ws → List Nat → List Bool
 | (w, _) :: r, x :: xs => bitsN w x ++ enc r xs
 | _, _ => []
def fitB : Ws → List Nat → Bool
 | (w, _) :: r, x :: xs => decide (x < 2 ^ w) && fitB r xs
 | _, _ => true
/-- each number is below its kind's end -/
def Und : Ws → List Nat → Prop
 | (_, m) :: r, x :: xs => x < m ∧ Und r xs
 | [], [] => True
 | _, _ => False
theorem Und.len : ∀ {ws : Ws} {xs : List Nat}, Und ws xs → ws.length = xs.length
 | [], [], _ => rfl
 | [], _ :: _, h => h.elim
 | _ :: _, [], h => h.elim
 | (_, _) :: r, x :: xs, h => by rw [List.length_cons, List.length_cons, Und.len h.2]
theorem enc_len : ∀ {ws : Ws} {xs : List Nat}, ws.length = xs.length → (enc ws xs).length = tot ws
 | [], [], _ => rfl
 | [], _ :: _, h => by simp at h
 | _ :: _, [], h => by simp at h
 | (w, m) :: r, x :: xs, h => by
  rw [enc, List.length_append, bitsN_len, enc_len (by simpa using h), tot_cons]
theorem dec_und : ∀ {ws : Ws} (l : List Bool), (∀ p ∈ ws, 0 < p.2) → Und ws (dec ws l)
 | [], _, _ => trivial
 | (w, m) :: r, l, h => ⟨Nat.mod_lt _ (h _ (List.mem_cons_self ..)), dec_und _ fun p hp => h p (List.mem_cons_of_mem _ hp)⟩
/-- of more bits the first ones alone count -/
theorem dec_take : ∀ {ws : Ws} {l : List Bool} {k : Nat}, tot ws ≤ k → dec ws (l.take k) = dec ws l
 | [], _, _, _ => rfl
 | (w, m) :: r, l, k, h => by
  rw [tot_cons] at h
  have h' : w + tot r ≤ k := h
  rw [dec, dec, List.take_take, Nat.min_eq_left (by omega), List.drop_take, dec_take (by omega)]
/-! a reader -/
theorem getE_ok {len p n : Nat} (hn : n ≤ 32) (h : p + n ≤ 8 * len) : getE len p n = 0 := by
 unfold getE; rw [if_neg (by omega), if_neg (by omega)]
theorem getV_ok {bs : List Nat} {p n : Nat} (hn : n ≤ 32) (h : p + n ≤ 8 * bs.length) : getV bs p n = num (((byB bs).drop p).take n) := by
 unfold getV; rw [if_pos (getE_ok hn h), Int.toNat_natCast, Int.toNat_natCast]
/-! a layer -/
def goL (s : List Bool × Int) (v w : Nat) : Nat × (List Bool × Int) := (v, if s.2 = 0 then (putL s.1 v w, putE s.1.length v w) else s)
theorem putE_zero {len v n : Nat} (hn : n ≤ 32) (hv : v < 2 ^ n) (h : len + n ≤ 524288) : putE len v n = 0 := by
 have h0 : v / 2 ^ n = 0 := Nat.div_eq_of_lt hv
 unfold putE; rw [if_neg (by rw [Int.toNat_natCast, h0]; omega), if_neg (by omega)]
theorem putE_one {len v n : Nat} (hv : ¬ v < 2 ^ n) : putE len v n = 1 := by
 have h0 : 0 < v / 2 ^ n := Nat.div_pos (by omega) (Nat.two_pow_pos n)
 unfold putE; rw [if_pos (by rw [Int.toNat_natCast]; exact .inr (.inr h0))]
theorem goL_ok {l : List Bool} {v w : Nat} (hw : w ≤ 32) (hv : v < 2 ^ w) (h : l.length + w ≤ 524288) : goL (l, 0) v w = (v, (l ++ bitsN w v, 0)) := by
 have e := putE_zero hw hv h
 unfold goL putL
 rw [if_pos rfl, e, if_pos rfl, Int.toNat_natCast]
theorem run_goL_vals : ∀ {ws : Ws} {xs : List Nat} {s : List Bool × Int}, Und ws xs → (run goL ws xs s).1 = xs
 | [], [], _, _ => rfl
 | [], _ :: _, _, h => h.elim
 | _ :: _, [], _, h => h.elim
 | (w, m) :: r, x :: xs, s, h => by
  rw [run, run_goL_vals h.2]
  show x % m :: xs = _
  rw [Nat.mod_eq_of_lt h.1]
theorem run_goL_err : ∀ {ws : Ws} {xs : List Nat} {s : List Bool × Int}, s.2 ≠ 0 → (run goL ws xs s).2 = s
 | [], [], _, _ => rfl
 | [], _ :: _, _, _ => rfl
 | _ :: _, [], _, _ => rfl
 | (w, m) :: r, x :: xs, s, h => by
  rw [run]
  have e : (goL s x w).2 = s := by unfold goL; rw [if_neg h]
  rw [e]
  exact run_goL_err h
theorem run_goL_ok : ∀ {ws : Ws} {xs : List Nat} {l : List Bool}, (∀ p ∈ ws, p.1 ≤ 32) → l.length + tot ws ≤ 524288 → ws.length = xs.length → fitB ws xs = true → (run goL ws xs (l, 0)).2 = (l ++ enc ws xs, 0)
 | [], [], l, _, _, _, _ => by simp [run, enc]
 | [], _ :: _, _, _, _, h, _ => by simp at h
 | _ :: _, [], _, _, _, h, _ => by simp at h
 | (w, m) :: r, x :: xs, l, hw, hl, hx, hf => by
  rw [tot_cons] at hl
  have hl' : l.length + (w + tot r) ≤ 524288 := hl
  simp only [fitB, Bool.and_eq_true, decide_eq_true_eq] at hf
  rw [run, goL_ok (hw _ (List.mem_cons_self ..)) hf.1 (by omega)]
  dsimp only
  rw [run_goL_ok (fun p hp => hw p (List.mem_cons_of_mem _ hp)) (by rw [List.length_append, bitsN_len]; omega) (by simpa using hx) hf.2, enc, List.append_assoc]
theorem run_goL_bad : ∀ {ws : Ws} {xs : List Nat} {l : List Bool}, (∀ p ∈ ws, p.1 ≤ 32) → l.length + tot ws ≤ 524288 → ws.length = xs.length → fitB ws xs = false → (run goL ws xs (l, 0)).2.2 = 1
  | [], [], l, _, _, _, h => by simp [fitB] at h
  | [], _ :: _, _, _, _, h, _ => by simp at h
  | _ :: _, [], _, _, _, h, _ => by simp at h
  | (w, m) :: r, x :: xs, l, hw, hl, hx, hf => by
    rw [tot_cons] at hl
    have hl' : l.length + (w + tot r) ≤ 524288 := hl
    rw [run]
    by_cases hc : x < 2 ^ w
    · rw [goL_ok (hw _ (List.mem_cons_self ..)) hc (by omega)]
      have hf' : fitB r xs = false := by rw [fitB] at hf; simpa [hc] using hf
      exact run_goL_bad (fun p hp => hw p (List.mem_cons_of_mem _ hp)) (by rw [List.length_append, bitsN_len]; omega) (by simpa using hx) hf'
    · have e : (goL (l, 0) x w).2 = (putL l x w, 1) := by
        unfold goL; rw [if_pos rfl, putE_one hc]
      rw [e, run_goL_err (show (1 : Int) ≠ 0 by decide)]
/-! bits in whole bytes -/
def packF : Nat → List Bool → List Nat
 | 0, _ => []
 | k + 1, l => num ((l ++ List.replicate (8 - l.length) false).take 8) :: packF k (l.drop 8)
def packB (l : List Bool) : List Nat := packF ((l.length + 7) / 8) l
theorem packF_len : ∀ (k : Nat) (l : List Bool), (packF k l).length = k
 | 0, _ => rfl
 | k + 1, l => by rw [packF, List.length_cons, packF_len k]
theorem packB_len (l : List Bool) : (packB l).length = (l.length + 7) / 8 := packF_len _ _
theorem packF_lt : ∀ (k : Nat) (l : List Bool), ∀ c ∈ packF k l, c < 256
 | 0, _, c, h => by simp [packF] at h
 | k + 1, l, c, h => by
  rw [packF, List.mem_cons] at h
  rcases h with rfl | h
  · exact Nat.lt_of_lt_of_le (num_lt _) (Nat.pow_le_pow_right (by decide) (show _ ≤ 8 by rw [List.length_take]; omega))
  · exact packF_lt k _ c h
theorem packB_lt (l : List Bool) : ∀ c ∈ packB l, c < 256 := packF_lt _ _
theorem byB_packF : ∀ (k : Nat) (l : List Bool), l.length ≤ 8 * k → 8 * k < l.length + 8 → byB (packF k l) = l ++ List.replicate (8 * k - l.length) false
  | 0, l, h, _ => by
    obtain rfl : l = [] := List.length_eq_zero_iff.1 (by omega)
    rfl
  | k + 1, l, h1, h2 => by
    have hl : ((l ++ List.replicate (8 - l.length) false).take 8).length = 8 := by simp; omega
    have e8 := bitsN_num ((l ++ List.replicate (8 - l.length) false).take 8)
    rw [hl] at e8
    rw [packF, show ∀ (a : Nat) (r : List Nat), byB (a :: r) = bitsN 8 a ++ byB r from fun a r => by simp [byB], e8]
    by_cases hc : 8 ≤ l.length
    · rw [byB_packF k _ (by rw [List.length_drop]; omega) (by rw [List.length_drop]; omega), List.length_drop, show 8 - l.length = 0 by omega, List.replicate_zero, List.append_nil, ← List.append_assoc, List.take_append_drop]
      congr 2; omega
    · obtain rfl : k = 0 := by omega
      rw [show packF 0 (l.drop 8) = [] from rfl, show byB [] = [] from rfl, List.append_nil, List.take_of_length_le (by simp; omega)]
theorem byB_packB (l : List Bool) : byB (packB l) = l ++ List.replicate (8 * ((l.length + 7) / 8) - l.length) false := byB_packF _ _ (by omega) (by omega)
end Go.Proofs.YtjdaglmkljbfkaaGreatDoor
namespace Go.Proofs.YtjdaglmkljbfkaaGreatDoor
open Go Go.Gx Go.RowKit
set_option maxRecDepth 100000
theorem newRowS (w0 : Base) (η : Heap) :
  CallsT Tryz.prog 141 [] (St w0 η) fun v A' => ∃ rb K, v = .pointer (some ⟨rb, 0, none⟩) ∧ RowAt rb [] K ∧ A' = St w0 (K ++ η) :=
 (new_spec w0 η).mono fun v A' ⟨rb, hv, hA⟩ => ⟨St w0 ([(rb, 272, rowC (.slice none 0 0) 0 1)] ++ η), ⟨rb, [(rb, 272, rowC (.slice none 0 0) 0 1)], hv, ⟨[], _, 0, [], Frag.nil _ _, Packed.nil, by decide, rfl⟩, rfl⟩, fun w h => by rw [hA] at h; exact h⟩
theorem byBInj : ∀ {a b : List Nat}, byB a = byB b → (∀ c ∈ a, c < 256) → (∀ c ∈ b, c < 256) → a = b
 | [], [], _, _, _ => rfl
 | [], c :: b, h, _, _ => by have := congrArg List.length h; rw [byB_len, byB_len] at this; simp at this
 | c :: a, [], h, _, _ => by have := congrArg List.length h; rw [byB_len, byB_len] at this; simp at this
 | c :: a, d :: b, h, ha, hb => by
  have h1 : bitsN 8 c ++ byB a = bitsN 8 d ++ byB b := by simpa [byB] using h
  obtain ⟨h2, h3⟩ := List.append_inj h1 (by rw [bitsN_len, bitsN_len])
  have h4 := congrArg num h2
  rw [num_bitsN, num_bitsN, Nat.mod_eq_of_lt (ha c (List.mem_cons_self ..)), Nat.mod_eq_of_lt (hb d (List.mem_cons_self ..))] at h4
  rw [h4, byBInj h3 (fun x hx => ha x (List.mem_cons_of_mem _ hx)) (fun x hx => hb x (List.mem_cons_of_mem _ hx))]
theorem RowAt.bytesX {w0 : Base} {rb : Nat} {l : List Bool} {K : Heap} (X η : Heap) (hK : RowAt rb l K) (hl : l.length ≤ 600000) :
  CallsT Tryz.prog 143 [.pointer (some ⟨rb, 0, none⟩)] (St w0 (X ++ (K ++ η))) fun v A' => ∃ H2, Frag 5 1 v (packB l).length (byV (packB l)) H2 ∧ A' = St w0 (H2 ++ (X ++ (K ++ η))) := by
 have h := RowAt.bytes (w0 := w0) (X ++ η) hK hl
 refine fun w hA => (h.mono ?_) w (hA.cnt fun p => by simp only [List.countP_append]; omega)
 rintro v A' ⟨bs, H2, hF, ⟨hb1, hb2⟩, rfl⟩
 obtain rfl : bs = packB l := byBInj (by rw [hb1, byB_packB]) hb2 (packB_lt l)
 exact ⟨_, ⟨H2, hF, rfl⟩, fun w h => h.cnt fun p => by simp only [List.countP_append]; omega⟩
theorem RefAt.bytesX {w0 : Base} {mb : Nat} {l : List Bool} {K : Heap} (η : Heap) (hK : RefAt mb l K) (hl : l.length ≤ 600000) :
  CallsT Tryz.prog 116 [.pointer (some ⟨mb, 0, none⟩)] (St w0 (K ++ η)) fun v A' => ∃ H2, Frag 5 1 v (packB l).length (byV (packB l)) H2 ∧ A' = St w0 (H2 ++ (K ++ η)) := by
 refine (rbytes_spec w0 η K mb l hK hl).mono ?_
 rintro v A' ⟨bs, H2, hF, ⟨hb1, hb2⟩, rfl⟩
 obtain rfl : bs = packB l := byBInj (by rw [hb1, byB_packB]) hb2 (packB_lt l)
 exact ⟨_, ⟨H2, hF, rfl⟩, fun w h => h⟩
theorem RowAt.putX {w0 : Base} {rb : Nat} {l : List Bool} {K : Heap} (X η : Heap) (hK : RowAt rb l K) {v w : Nat} (hv : v < 4294967296) (hw : w ≤ 32) (hl : l.length ≤ 524288) :
  CallsT Tryz.prog 142 [.pointer (some ⟨rb, 0, none⟩), .int .u32 (v : Int), .int .i64 (w : Int)] (St w0 (X ++ (K ++ η))) fun r A' => ∃ K', r = .int .i64 (putE l.length v w) ∧ RowAt rb (putL l v w) K' ∧ A' = St w0 (X ++ (K' ++ η)) := by
 have h := put_spec w0 (X ++ η) K rb l v w hK hv ⟨by omega, by omega⟩ hl
 refine fun w hA => (h.mono ?_) w (hA.cnt fun p => by simp only [List.countP_append]; omega)
 rintro r A' ⟨K', hr, hK', rfl⟩
 exact ⟨_, ⟨K', hr, hK', rfl⟩, fun w h => h.cnt fun p => by simp only [List.countP_append]; omega⟩
theorem putL_okX {l : List Bool} {v w : Nat} (hw : w ≤ 32) (hv : v < 2 ^ w) (h : l.length + w ≤ 524288) : putL l v w = l ++ bitsN w v := by
 unfold putL
 rw [if_pos (putE_zero hw hv h), Int.toNat_natCast]
theorem enc_appendX : ∀ {a b : Ws} {xs zs : List Nat}, a.length = xs.length → enc (a ++ b) (xs ++ zs) = enc a xs ++ enc b zs
 | [], b, [], zs, _ => by simp [enc]
 | [], _, _ :: _, _, h => by simp at h
 | _ :: _, _, [], _, h => by simp at h
 | (w, m) :: a, b, x :: xs, zs, h => by
  simp only [List.cons_append, enc]
  rw [enc_appendX (by simpa using h), List.append_assoc]
theorem take_snocX {α : Type} {l : List α} {k : Nat} {x : α} (h : l[k]? = some x) : l.take (k + 1) = l.take k ++ [x] := by rw [List.take_add_one, h]; rfl
theorem fitB_atX : ∀ {ws : Ws} {xs : List Nat}, fitB ws xs = true → ∀ {k w m x : Nat}, ws[k]? = some (w, m) → xs[k]? = some x → x < 2 ^ w
 | [], _, _, k, w, m, x, h, _ => by simp at h
 | _ :: _, [], _, k, w, m, x, _, h => by simp at h
 | (w, m) :: ws, x :: xs, h, 0, _, _, _, h1, h2 => by
  cases h1; cases h2
  simp only [fitB, Bool.and_eq_true, decide_eq_true_eq] at h
  exact h.1
 | (w, m) :: ws, x :: xs, h, k + 1, _, _, _, h1, h2 => by
  simp only [fitB, Bool.and_eq_true, decide_eq_true_eq] at h
  exact fitB_atX h.2 h1 h2
end Go.Proofs.YtjdaglmkljbfkaaGreatDoor
namespace Go.Proofs.YtjdaglmkljbfkaaGreatDoor
open Go Go.Gx Go.RowKit
set_option maxRecDepth 100000
def spotK : List IntKind := [.u32, .u32]
def colK : List IntKind := [.u16, .u16, .u16, .u16]
def recK : List IntKind := [.u8] ++ spotK ++ colK
def sheetK : List IntKind := [.u8] ++ rep 16 spotK ++ rep 4 colK
def patchK : List IntKind := rep 16 spotK ++ rep 4 colK
def triK : List IntKind := rep 3 recK
theorem eq_Sheet : EqOk Tryz.prog 102 sheetK := ⟨by kernel_rfl, by kernel_rfl, by kernel_rfl, by kernel_rfl⟩
theorem el_Sheet : ElemOk Tryz.prog 102 49 164 (zv sheetK) := .of KF.sz_102 (by kernel_rfl) (by unfold ZeroOk; kernel_rfl) (by kernel_rfl) (by decide)
theorem same_Sheet (w0 : Base) (η : Heap) (va vb : Value) (n m : Nat) (xs ys : List Value) (ha : SlA (St w0 η) va 49 n xs) (hb : SlA (St w0 η) vb 49 m ys) (hia : Ints (rep n sheetK) xs) (hib : Ints (rep m sheetK) ys) :
    CallsT Tryz.prog 35 [va, vb] (St w0 η) fun v A' => v = .bool (eqC xs ys) ∧ A' = St w0 η := by
  obtain ⟨hal, ada, ca, rfl, ⟨hca, hca2⟩, hra⟩ := ha
  obtain ⟨hbl, adb, cb, rfl, ⟨hcb, hcb2⟩, hrb⟩ := hb
  refine CallsT.body Tryz.func35 rfl rfl ?_
  simp only [Tryz.ntmps35, slotsOf, Nat.reduceAdd]
  refine Qe (Qg ?_)
  refine Qa rfl rfl (Qd rfl rfl rfl) ?_
  refine Qf (Qb (Qe (Qe (Qg ?_))))
  refine Qa rfl rfl (Qc rfl rfl rfl) ?_
  refine Qa rfl rfl (Za rfl rfl Tryz.underlying32 rfl) ?_
  refine Qa rfl rfl (Qc rfl rfl rfl) ?_
  refine Qa rfl rfl (Za rfl rfl Tryz.underlying32 rfl) ?_
  refine Qa rfl rfl (QT_neq rfl rfl rfl rfl) ?_
  refine Qf (Qb ?_)
  refine Qm rfl (fun h10 => ?_) (fun h10 => ?_)
  ·
    refine Qe (Qg ?_)
    refine Qa rfl rfl (Qd rfl rfl rfl) ?_
    refine Qf (Qb ?_)
    refine Qu ?_
    refine Qn ?_
    exact Qs (.inl rfl) (res1 rfl rfl) ⟨_, ⟨by rw [eqC_ne_len (by omega)], rfl⟩, (fun _ h => by first | exact h | exact h.tail | exact h.tail.tail | exact h.tail.tail.tail | exact h.tail.tail.tail.tail | exact h.tail.tail.tail.tail.tail | exact h.tail.tail.tail.tail.tail.tail | exact h.tail.tail.tail.tail.tail.tail.tail | exact h.tail.tail.tail.tail.tail.tail.tail.tail | exact h.tail.tail.tail.tail.tail.tail.tail.tail.tail | exact h.tail.tail.tail.tail.tail.tail.tail.tail.tail.tail | exact h.tail.tail.tail.tail.tail.tail.tail.tail.tail.tail.tail | exact h.tail.tail.tail.tail.tail.tail.tail.tail.tail.tail.tail.tail | exact h.tail.tail.tail.tail.tail.tail.tail.tail.tail.tail.tail.tail.tail)⟩
  ·
    obtain rfl : n = m := by omega
    refine Qt (Qb (Qe (Qe (Qg ?_))))
    refine Qa rfl rfl (Qd rfl rfl rfl) ?_
    refine Qf (Qb (Qr ?_))
    refine TC_loop (γ := {i : Nat // i ≤ n ∧ xs.take (i * 49) = ys.take (i * 49)}) (fun t => [(0, true, .slice ada n ca), (1, true, .slice adb n cb), (5, true, .int .i64 (t.1 : Int))]) (fun _ => St w0 η) (fun t => n - t.1) ⟨0, by omega, by simp⟩ ⟨rfl, rfl, rfl, trivial⟩ (fun _ h => h) ?_
    rintro ⟨i, hi, he⟩
    dsimp only
    refine Qe (Qe (Qg ?_))
    refine Qa rfl rfl (Qc rfl rfl rfl) ?_
    refine Qa rfl rfl (Qc rfl rfl rfl) ?_
    refine Qa rfl rfl (Za rfl rfl Tryz.underlying32 rfl) ?_
    refine Qa rfl rfl (QT_lss rfl rfl rfl rfl) ?_
    refine Qf (Qb ?_)
    refine Qm rfl (fun h14 => ?_) (fun h14 => ?_)
    ·
      refine Qt (Qb (Qe (Qr (Qe ?_))))
      have hin : i < n := by omega
      obtain ⟨ba, oa, rfl, hrA⟩ := hra.resolve_left (by omega)
      obtain ⟨bb, ob, rfl, hrB⟩ := hrb.resolve_left (by omega)
      have hea : Ints sheetK (elem xs 49 i) := hia.elem hin
      have heb : Ints sheetK (elem ys 49 i) := hib.elem hin
      refine TC_draw [(0, 0), (1, 0), (2, 0), (3, 0), (4, 0), (5, 0), (6, 0), (7, 0), (8, 0)] KF.mixed (by kernel_rfl) (St.calm _ _) ?_
      refine Qk rfl rfl rfl (fun _ => Qc rfl rfl rfl) ?_
      refine Qk rfl rfl rfl (fun _ => Qc rfl rfl rfl) ?_
      refine Qk rfl rfl rfl (fun _ => Qq (i) rfl rfl Tryz.underlying32 KF.sz_102 rfl rfl (rfl) (fun _ => hin)) ?_
      refine Qz rfl rfl rfl (QT_loadRA rfl rfl Tryz.underlying102 rfl KF.sz_102 hrA rfl (fun _ => by omega)) ?_
      refine Qk rfl rfl rfl (fun _ => Qc rfl rfl rfl) ?_
      refine Qk rfl rfl rfl (fun _ => Qc rfl rfl rfl) ?_
      refine Qk rfl rfl rfl (fun _ => Qq (i) rfl rfl Tryz.underlying32 KF.sz_102 rfl rfl (rfl) (fun _ => hin)) ?_
      refine Qz rfl rfl rfl (QT_loadRA rfl rfl Tryz.underlying102 rfl KF.sz_102 hrB rfl (fun _ => by omega)) ?_
      refine Qk rfl rfl rfl (fun _ => QT_neA rfl rfl eq_Sheet rfl rfl (fun _ => hea) (fun _ => heb)) ?_
      refine TV_end (Qb ?_)
      refine TC_cond rfl (fun h25 => ?_) (fun h25 => ?_)
      ·
        refine Qe (Qg ?_)
        refine Qa rfl rfl (Qd rfl rfl rfl) ?_
        refine Qf (Qb ?_)
        refine Qu ?_
        refine Zc ?_
        refine Qn ?_
        refine Qn ?_
        refine Zc ?_
        refine Qn ?_
        exact Qs (.inl rfl) (res1 rfl rfl) ⟨_, ⟨(by
         have h1 : eqC (elem xs 49 i) (elem ys 49 i) = false := by simpa [elem] using h25
         rw [eqC_ne hia hib]
         intro e
         rw [e, eqC_refl heb] at h1
         cases h1), rfl⟩, (fun _ h => by first | exact h | exact h.tail | exact h.tail.tail | exact h.tail.tail.tail | exact h.tail.tail.tail.tail | exact h.tail.tail.tail.tail.tail | exact h.tail.tail.tail.tail.tail.tail | exact h.tail.tail.tail.tail.tail.tail.tail | exact h.tail.tail.tail.tail.tail.tail.tail.tail | exact h.tail.tail.tail.tail.tail.tail.tail.tail.tail | exact h.tail.tail.tail.tail.tail.tail.tail.tail.tail.tail | exact h.tail.tail.tail.tail.tail.tail.tail.tail.tail.tail.tail | exact h.tail.tail.tail.tail.tail.tail.tail.tail.tail.tail.tail.tail | exact h.tail.tail.tail.tail.tail.tail.tail.tail.tail.tail.tail.tail.tail)⟩
      ·
        refine Qt ?_
        refine Qo ?_
        refine Qb (Qg ?_)
        refine Qa rfl rfl (Qc rfl rfl rfl) ?_
        refine Qa rfl rfl (Zb rfl rfl rfl rfl (fun _ => ⟨by omega, by omega⟩)) ?_
        refine Qa rfl rfl (Qd rfl rfl rfl) ?_
        refine Qf ?_
        refine TX_round ⟨i + 1, by omega, ?_⟩ (by dsimp only; omega) ⟨rfl, rfl, slotI rfl (by dsimp only; omega), trivial⟩ (fun _ h => h)
        rw [take_succ_elem, take_succ_elem, he, (eqC_iff hea heb).1 (by simpa [elem] using h25)]
    ·
      refine Zd ?_
      refine Qi (Qi ?_)
      refine Qp ?_
      refine Qb (Qe (Qg ?_))
      refine Qa rfl rfl (Qd rfl rfl rfl) ?_
      refine Qf (Qb ?_)
      refine Qu ?_
      exact Qs (.inl rfl) (res1 rfl rfl) ⟨_, ⟨(by
       have hin : i = n := by omega
       subst hin
       rw [List.take_of_length_le (by omega), List.take_of_length_le (by omega)] at he
       subst he
       rw [eqC_refl hia]), rfl⟩, (fun _ h => by first | exact h | exact h.tail | exact h.tail.tail | exact h.tail.tail.tail | exact h.tail.tail.tail.tail | exact h.tail.tail.tail.tail.tail | exact h.tail.tail.tail.tail.tail.tail | exact h.tail.tail.tail.tail.tail.tail.tail | exact h.tail.tail.tail.tail.tail.tail.tail.tail | exact h.tail.tail.tail.tail.tail.tail.tail.tail.tail | exact h.tail.tail.tail.tail.tail.tail.tail.tail.tail.tail | exact h.tail.tail.tail.tail.tail.tail.tail.tail.tail.tail.tail | exact h.tail.tail.tail.tail.tail.tail.tail.tail.tail.tail.tail.tail | exact h.tail.tail.tail.tail.tail.tail.tail.tail.tail.tail.tail.tail.tail)⟩
theorem eq_Patch : EqOk Tryz.prog 112 patchK := ⟨by kernel_rfl, by kernel_rfl, by kernel_rfl, by kernel_rfl⟩
theorem el_Patch : ElemOk Tryz.prog 112 48 160 (zv patchK) := .of KF.sz_112 (by kernel_rfl) (by unfold ZeroOk; kernel_rfl) (by kernel_rfl) (by decide)
theorem same_Patch (w0 : Base) (η : Heap) (va vb : Value) (n m : Nat) (xs ys : List Value) (ha : SlA (St w0 η) va 48 n xs) (hb : SlA (St w0 η) vb 48 m ys) (hia : Ints (rep n patchK) xs) (hib : Ints (rep m patchK) ys) :
    CallsT Tryz.prog 87 [va, vb] (St w0 η) fun v A' => v = .bool (eqC xs ys) ∧ A' = St w0 η := by
  obtain ⟨hal, ada, ca, rfl, ⟨hca, hca2⟩, hra⟩ := ha
  obtain ⟨hbl, adb, cb, rfl, ⟨hcb, hcb2⟩, hrb⟩ := hb
  refine CallsT.body Tryz.func87 rfl rfl ?_
  simp only [Tryz.ntmps87, slotsOf, Nat.reduceAdd]
  refine Qe (Qg ?_)
  refine Qa rfl rfl (Qd rfl rfl rfl) ?_
  refine Qf (Qb (Qe (Qe (Qg ?_))))
  refine Qa rfl rfl (Qc rfl rfl rfl) ?_
  refine Qa rfl rfl (Za rfl rfl Tryz.underlying62 rfl) ?_
  refine Qa rfl rfl (Qc rfl rfl rfl) ?_
  refine Qa rfl rfl (Za rfl rfl Tryz.underlying62 rfl) ?_
  refine Qa rfl rfl (QT_neq rfl rfl rfl rfl) ?_
  refine Qf (Qb ?_)
  refine Qm rfl (fun h10 => ?_) (fun h10 => ?_)
  ·
    refine Qe (Qg ?_)
    refine Qa rfl rfl (Qd rfl rfl rfl) ?_
    refine Qf (Qb ?_)
    refine Qu ?_
    refine Qn ?_
    exact Qs (.inl rfl) (res1 rfl rfl) ⟨_, ⟨by rw [eqC_ne_len (by omega)], rfl⟩, (fun _ h => by first | exact h | exact h.tail | exact h.tail.tail | exact h.tail.tail.tail | exact h.tail.tail.tail.tail | exact h.tail.tail.tail.tail.tail | exact h.tail.tail.tail.tail.tail.tail | exact h.tail.tail.tail.tail.tail.tail.tail | exact h.tail.tail.tail.tail.tail.tail.tail.tail | exact h.tail.tail.tail.tail.tail.tail.tail.tail.tail | exact h.tail.tail.tail.tail.tail.tail.tail.tail.tail.tail | exact h.tail.tail.tail.tail.tail.tail.tail.tail.tail.tail.tail | exact h.tail.tail.tail.tail.tail.tail.tail.tail.tail.tail.tail.tail | exact h.tail.tail.tail.tail.tail.tail.tail.tail.tail.tail.tail.tail.tail)⟩
  ·
    obtain rfl : n = m := by omega
    refine Qt (Qb (Qe (Qe (Qg ?_))))
    refine Qa rfl rfl (Qd rfl rfl rfl) ?_
    refine Qf (Qb (Qr ?_))
    refine TC_loop (γ := {i : Nat // i ≤ n ∧ xs.take (i * 48) = ys.take (i * 48)}) (fun t => [(0, true, .slice ada n ca), (1, true, .slice adb n cb), (5, true, .int .i64 (t.1 : Int))]) (fun _ => St w0 η) (fun t => n - t.1) ⟨0, by omega, by simp⟩ ⟨rfl, rfl, rfl, trivial⟩ (fun _ h => h) ?_
    rintro ⟨i, hi, he⟩
    dsimp only
    refine Qe (Qe (Qg ?_))
    refine Qa rfl rfl (Qc rfl rfl rfl) ?_
    refine Qa rfl rfl (Qc rfl rfl rfl) ?_
    refine Qa rfl rfl (Za rfl rfl Tryz.underlying62 rfl) ?_
    refine Qa rfl rfl (QT_lss rfl rfl rfl rfl) ?_
    refine Qf (Qb ?_)
    refine Qm rfl (fun h14 => ?_) (fun h14 => ?_)
    ·
      refine Qt (Qb (Qe (Qr (Qe ?_))))
      have hin : i < n := by omega
      obtain ⟨ba, oa, rfl, hrA⟩ := hra.resolve_left (by omega)
      obtain ⟨bb, ob, rfl, hrB⟩ := hrb.resolve_left (by omega)
      have hea : Ints patchK (elem xs 48 i) := hia.elem hin
      have heb : Ints patchK (elem ys 48 i) := hib.elem hin
      refine TC_draw [(0, 0), (1, 0), (2, 0), (3, 0), (4, 0), (5, 0), (6, 0), (7, 0), (8, 0)] KF.mixed (by kernel_rfl) (St.calm _ _) ?_
      refine Qk rfl rfl rfl (fun _ => Qc rfl rfl rfl) ?_
      refine Qk rfl rfl rfl (fun _ => Qc rfl rfl rfl) ?_
      refine Qk rfl rfl rfl (fun _ => Qq (i) rfl rfl Tryz.underlying62 KF.sz_112 rfl rfl (rfl) (fun _ => hin)) ?_
      refine Qz rfl rfl rfl (QT_loadRA rfl rfl Tryz.underlying112 rfl KF.sz_112 hrA rfl (fun _ => by omega)) ?_
      refine Qk rfl rfl rfl (fun _ => Qc rfl rfl rfl) ?_
      refine Qk rfl rfl rfl (fun _ => Qc rfl rfl rfl) ?_
      refine Qk rfl rfl rfl (fun _ => Qq (i) rfl rfl Tryz.underlying62 KF.sz_112 rfl rfl (rfl) (fun _ => hin)) ?_
      refine Qz rfl rfl rfl (QT_loadRA rfl rfl Tryz.underlying112 rfl KF.sz_112 hrB rfl (fun _ => by omega)) ?_
      refine Qk rfl rfl rfl (fun _ => QT_neA rfl rfl eq_Patch rfl rfl (fun _ => hea) (fun _ => heb)) ?_
      refine TV_end (Qb ?_)
      refine TC_cond rfl (fun h25 => ?_) (fun h25 => ?_)
      ·
        refine Qe (Qg ?_)
        refine Qa rfl rfl (Qd rfl rfl rfl) ?_
        refine Qf (Qb ?_)
        refine Qu ?_
        refine Zc ?_
        refine Qn ?_
        refine Qn ?_
        refine Zc ?_
        refine Qn ?_
        exact Qs (.inl rfl) (res1 rfl rfl) ⟨_, ⟨(by
         have h1 : eqC (elem xs 48 i) (elem ys 48 i) = false := by simpa [elem] using h25
         rw [eqC_ne hia hib]
         intro e
         rw [e, eqC_refl heb] at h1
         cases h1), rfl⟩, (fun _ h => by first | exact h | exact h.tail | exact h.tail.tail | exact h.tail.tail.tail | exact h.tail.tail.tail.tail | exact h.tail.tail.tail.tail.tail | exact h.tail.tail.tail.tail.tail.tail | exact h.tail.tail.tail.tail.tail.tail.tail | exact h.tail.tail.tail.tail.tail.tail.tail.tail | exact h.tail.tail.tail.tail.tail.tail.tail.tail.tail | exact h.tail.tail.tail.tail.tail.tail.tail.tail.tail.tail | exact h.tail.tail.tail.tail.tail.tail.tail.tail.tail.tail.tail | exact h.tail.tail.tail.tail.tail.tail.tail.tail.tail.tail.tail.tail | exact h.tail.tail.tail.tail.tail.tail.tail.tail.tail.tail.tail.tail.tail)⟩
      ·
        refine Qt ?_
        refine Qo ?_
        refine Qb (Qg ?_)
        refine Qa rfl rfl (Qc rfl rfl rfl) ?_
        refine Qa rfl rfl (Zb rfl rfl rfl rfl (fun _ => ⟨by omega, by omega⟩)) ?_
        refine Qa rfl rfl (Qd rfl rfl rfl) ?_
        refine Qf ?_
        refine TX_round ⟨i + 1, by omega, ?_⟩ (by dsimp only; omega) ⟨rfl, rfl, slotI rfl (by dsimp only; omega), trivial⟩ (fun _ h => h)
        rw [take_succ_elem, take_succ_elem, he, (eqC_iff hea heb).1 (by simpa [elem] using h25)]
    ·
      refine Zd ?_
      refine Qi (Qi ?_)
      refine Qp ?_
      refine Qb (Qe (Qg ?_))
      refine Qa rfl rfl (Qd rfl rfl rfl) ?_
      refine Qf (Qb ?_)
      refine Qu ?_
      exact Qs (.inl rfl) (res1 rfl rfl) ⟨_, ⟨(by
       have hin : i = n := by omega
       subst hin
       rw [List.take_of_length_le (by omega), List.take_of_length_le (by omega)] at he
       subst he
       rw [eqC_refl hia]), rfl⟩, (fun _ h => by first | exact h | exact h.tail | exact h.tail.tail | exact h.tail.tail.tail | exact h.tail.tail.tail.tail | exact h.tail.tail.tail.tail.tail | exact h.tail.tail.tail.tail.tail.tail | exact h.tail.tail.tail.tail.tail.tail.tail | exact h.tail.tail.tail.tail.tail.tail.tail.tail | exact h.tail.tail.tail.tail.tail.tail.tail.tail.tail | exact h.tail.tail.tail.tail.tail.tail.tail.tail.tail.tail | exact h.tail.tail.tail.tail.tail.tail.tail.tail.tail.tail.tail | exact h.tail.tail.tail.tail.tail.tail.tail.tail.tail.tail.tail.tail | exact h.tail.tail.tail.tail.tail.tail.tail.tail.tail.tail.tail.tail.tail)⟩
theorem eq_Rec : EqOk Tryz.prog 77 recK := ⟨by kernel_rfl, by kernel_rfl, by kernel_rfl, by kernel_rfl⟩
theorem el_Rec : ElemOk Tryz.prog 77 7 20 (zv recK) := .of KF.sz_77 (by kernel_rfl) (by unfold ZeroOk; kernel_rfl) (by kernel_rfl) (by decide)
theorem same_Rec (w0 : Base) (η : Heap) (va vb : Value) (n m : Nat) (xs ys : List Value) (ha : SlA (St w0 η) va 7 n xs) (hb : SlA (St w0 η) vb 7 m ys) (hia : Ints (rep n recK) xs) (hib : Ints (rep m recK) ys) :
    CallsT Tryz.prog 34 [va, vb] (St w0 η) fun v A' => v = .bool (eqC xs ys) ∧ A' = St w0 η := by
  obtain ⟨hal, ada, ca, rfl, ⟨hca, hca2⟩, hra⟩ := ha
  obtain ⟨hbl, adb, cb, rfl, ⟨hcb, hcb2⟩, hrb⟩ := hb
  refine CallsT.body Tryz.func34 rfl rfl ?_
  simp only [Tryz.ntmps34, slotsOf, Nat.reduceAdd]
  refine Qe (Qg ?_)
  refine Qa rfl rfl (Qd rfl rfl rfl) ?_
  refine Qf (Qb (Qe (Qe (Qg ?_))))
  refine Qa rfl rfl (Qc rfl rfl rfl) ?_
  refine Qa rfl rfl (Za rfl rfl Tryz.underlying31 rfl) ?_
  refine Qa rfl rfl (Qc rfl rfl rfl) ?_
  refine Qa rfl rfl (Za rfl rfl Tryz.underlying31 rfl) ?_
  refine Qa rfl rfl (QT_neq rfl rfl rfl rfl) ?_
  refine Qf (Qb ?_)
  refine Qm rfl (fun h10 => ?_) (fun h10 => ?_)
  ·
    refine Qe (Qg ?_)
    refine Qa rfl rfl (Qd rfl rfl rfl) ?_
    refine Qf (Qb ?_)
    refine Qu ?_
    refine Qn ?_
    exact Qs (.inl rfl) (res1 rfl rfl) ⟨_, ⟨by rw [eqC_ne_len (by omega)], rfl⟩, (fun _ h => by first | exact h | exact h.tail | exact h.tail.tail | exact h.tail.tail.tail | exact h.tail.tail.tail.tail | exact h.tail.tail.tail.tail.tail | exact h.tail.tail.tail.tail.tail.tail | exact h.tail.tail.tail.tail.tail.tail.tail | exact h.tail.tail.tail.tail.tail.tail.tail.tail | exact h.tail.tail.tail.tail.tail.tail.tail.tail.tail | exact h.tail.tail.tail.tail.tail.tail.tail.tail.tail.tail | exact h.tail.tail.tail.tail.tail.tail.tail.tail.tail.tail.tail | exact h.tail.tail.tail.tail.tail.tail.tail.tail.tail.tail.tail.tail | exact h.tail.tail.tail.tail.tail.tail.tail.tail.tail.tail.tail.tail.tail)⟩
  ·
    obtain rfl : n = m := by omega
    refine Qt (Qb (Qe (Qe (Qg ?_))))
    refine Qa rfl rfl (Qd rfl rfl rfl) ?_
    refine Qf (Qb (Qr ?_))
    refine TC_loop (γ := {i : Nat // i ≤ n ∧ xs.take (i * 7) = ys.take (i * 7)}) (fun t => [(0, true, .slice ada n ca), (1, true, .slice adb n cb), (5, true, .int .i64 (t.1 : Int))]) (fun _ => St w0 η) (fun t => n - t.1) ⟨0, by omega, by simp⟩ ⟨rfl, rfl, rfl, trivial⟩ (fun _ h => h) ?_
    rintro ⟨i, hi, he⟩
    dsimp only
    refine Qe (Qe (Qg ?_))
    refine Qa rfl rfl (Qc rfl rfl rfl) ?_
    refine Qa rfl rfl (Qc rfl rfl rfl) ?_
    refine Qa rfl rfl (Za rfl rfl Tryz.underlying31 rfl) ?_
    refine Qa rfl rfl (QT_lss rfl rfl rfl rfl) ?_
    refine Qf (Qb ?_)
    refine Qm rfl (fun h14 => ?_) (fun h14 => ?_)
    ·
      refine Qt (Qb (Qe (Qr (Qe ?_))))
      have hin : i < n := by omega
      obtain ⟨ba, oa, rfl, hrA⟩ := hra.resolve_left (by omega)
      obtain ⟨bb, ob, rfl, hrB⟩ := hrb.resolve_left (by omega)
      have hea : Ints recK (elem xs 7 i) := hia.elem hin
      have heb : Ints recK (elem ys 7 i) := hib.elem hin
      refine TC_draw [(0, 0), (1, 0), (2, 0), (3, 0), (4, 0), (5, 0), (6, 0), (7, 0), (8, 0)] KF.mixed (by kernel_rfl) (St.calm _ _) ?_
      refine Qk rfl rfl rfl (fun _ => Qc rfl rfl rfl) ?_
      refine Qk rfl rfl rfl (fun _ => Qc rfl rfl rfl) ?_
      refine Qk rfl rfl rfl (fun _ => Qq (i) rfl rfl Tryz.underlying31 KF.sz_77 rfl rfl (rfl) (fun _ => hin)) ?_
      refine Qz rfl rfl rfl (QT_loadRA rfl rfl Tryz.underlying77 rfl KF.sz_77 hrA rfl (fun _ => by omega)) ?_
      refine Qk rfl rfl rfl (fun _ => Qc rfl rfl rfl) ?_
      refine Qk rfl rfl rfl (fun _ => Qc rfl rfl rfl) ?_
      refine Qk rfl rfl rfl (fun _ => Qq (i) rfl rfl Tryz.underlying31 KF.sz_77 rfl rfl (rfl) (fun _ => hin)) ?_
      refine Qz rfl rfl rfl (QT_loadRA rfl rfl Tryz.underlying77 rfl KF.sz_77 hrB rfl (fun _ => by omega)) ?_
      refine Qk rfl rfl rfl (fun _ => QT_neA rfl rfl eq_Rec rfl rfl (fun _ => hea) (fun _ => heb)) ?_
      refine TV_end (Qb ?_)
      refine TC_cond rfl (fun h25 => ?_) (fun h25 => ?_)
      ·
        refine Qe (Qg ?_)
        refine Qa rfl rfl (Qd rfl rfl rfl) ?_
        refine Qf (Qb ?_)
        refine Qu ?_
        refine Zc ?_
        refine Qn ?_
        refine Qn ?_
        refine Zc ?_
        refine Qn ?_
        exact Qs (.inl rfl) (res1 rfl rfl) ⟨_, ⟨(by
         have h1 : eqC (elem xs 7 i) (elem ys 7 i) = false := by simpa [elem] using h25
         rw [eqC_ne hia hib]
         intro e
         rw [e, eqC_refl heb] at h1
         cases h1), rfl⟩, (fun _ h => by first | exact h | exact h.tail | exact h.tail.tail | exact h.tail.tail.tail | exact h.tail.tail.tail.tail | exact h.tail.tail.tail.tail.tail | exact h.tail.tail.tail.tail.tail.tail | exact h.tail.tail.tail.tail.tail.tail.tail | exact h.tail.tail.tail.tail.tail.tail.tail.tail | exact h.tail.tail.tail.tail.tail.tail.tail.tail.tail | exact h.tail.tail.tail.tail.tail.tail.tail.tail.tail.tail | exact h.tail.tail.tail.tail.tail.tail.tail.tail.tail.tail.tail | exact h.tail.tail.tail.tail.tail.tail.tail.tail.tail.tail.tail.tail | exact h.tail.tail.tail.tail.tail.tail.tail.tail.tail.tail.tail.tail.tail)⟩
      ·
        refine Qt ?_
        refine Qo ?_
        refine Qb (Qg ?_)
        refine Qa rfl rfl (Qc rfl rfl rfl) ?_
        refine Qa rfl rfl (Zb rfl rfl rfl rfl (fun _ => ⟨by omega, by omega⟩)) ?_
        refine Qa rfl rfl (Qd rfl rfl rfl) ?_
        refine Qf ?_
        refine TX_round ⟨i + 1, by omega, ?_⟩ (by dsimp only; omega) ⟨rfl, rfl, slotI rfl (by dsimp only; omega), trivial⟩ (fun _ h => h)
        rw [take_succ_elem, take_succ_elem, he, (eqC_iff hea heb).1 (by simpa [elem] using h25)]
    ·
      refine Zd ?_
      refine Qi (Qi ?_)
      refine Qp ?_
      refine Qb (Qe (Qg ?_))
      refine Qa rfl rfl (Qd rfl rfl rfl) ?_
      refine Qf (Qb ?_)
      refine Qu ?_
      exact Qs (.inl rfl) (res1 rfl rfl) ⟨_, ⟨(by
       have hin : i = n := by omega
       subst hin
       rw [List.take_of_length_le (by omega), List.take_of_length_le (by omega)] at he
       subst he
       rw [eqC_refl hia]), rfl⟩, (fun _ h => by first | exact h | exact h.tail | exact h.tail.tail | exact h.tail.tail.tail | exact h.tail.tail.tail.tail | exact h.tail.tail.tail.tail.tail | exact h.tail.tail.tail.tail.tail.tail | exact h.tail.tail.tail.tail.tail.tail.tail | exact h.tail.tail.tail.tail.tail.tail.tail.tail | exact h.tail.tail.tail.tail.tail.tail.tail.tail.tail | exact h.tail.tail.tail.tail.tail.tail.tail.tail.tail.tail | exact h.tail.tail.tail.tail.tail.tail.tail.tail.tail.tail.tail | exact h.tail.tail.tail.tail.tail.tail.tail.tail.tail.tail.tail.tail | exact h.tail.tail.tail.tail.tail.tail.tail.tail.tail.tail.tail.tail.tail)⟩
theorem eq_Tri : EqOk Tryz.prog 79 triK := ⟨by kernel_rfl, by kernel_rfl, by kernel_rfl, by kernel_rfl⟩
theorem el_Tri : ElemOk Tryz.prog 79 21 60 (zv triK) := .of KF.sz_79 (by kernel_rfl) (by unfold ZeroOk; kernel_rfl) (by kernel_rfl) (by decide)
theorem same_Tri (w0 : Base) (η : Heap) (va vb : Value) (n m : Nat) (xs ys : List Value) (ha : SlA (St w0 η) va 21 n xs) (hb : SlA (St w0 η) vb 21 m ys) (hia : Ints (rep n triK) xs) (hib : Ints (rep m triK) ys) :
    CallsT Tryz.prog 86 [va, vb] (St w0 η) fun v A' => v = .bool (eqC xs ys) ∧ A' = St w0 η := by
  obtain ⟨hal, ada, ca, rfl, ⟨hca, hca2⟩, hra⟩ := ha
  obtain ⟨hbl, adb, cb, rfl, ⟨hcb, hcb2⟩, hrb⟩ := hb
  refine CallsT.body Tryz.func86 rfl rfl ?_
  simp only [Tryz.ntmps86, slotsOf, Nat.reduceAdd]
  refine Qe (Qg ?_)
  refine Qa rfl rfl (Qd rfl rfl rfl) ?_
  refine Qf (Qb (Qe (Qe (Qg ?_))))
  refine Qa rfl rfl (Qc rfl rfl rfl) ?_
  refine Qa rfl rfl (Za rfl rfl Tryz.underlying61 rfl) ?_
  refine Qa rfl rfl (Qc rfl rfl rfl) ?_
  refine Qa rfl rfl (Za rfl rfl Tryz.underlying61 rfl) ?_
  refine Qa rfl rfl (QT_neq rfl rfl rfl rfl) ?_
  refine Qf (Qb ?_)
  refine Qm rfl (fun h10 => ?_) (fun h10 => ?_)
  ·
    refine Qe (Qg ?_)
    refine Qa rfl rfl (Qd rfl rfl rfl) ?_
    refine Qf (Qb ?_)
    refine Qu ?_
    refine Qn ?_
    exact Qs (.inl rfl) (res1 rfl rfl) ⟨_, ⟨by rw [eqC_ne_len (by omega)], rfl⟩, (fun _ h => by first | exact h | exact h.tail | exact h.tail.tail | exact h.tail.tail.tail | exact h.tail.tail.tail.tail | exact h.tail.tail.tail.tail.tail | exact h.tail.tail.tail.tail.tail.tail | exact h.tail.tail.tail.tail.tail.tail.tail | exact h.tail.tail.tail.tail.tail.tail.tail.tail | exact h.tail.tail.tail.tail.tail.tail.tail.tail.tail | exact h.tail.tail.tail.tail.tail.tail.tail.tail.tail.tail | exact h.tail.tail.tail.tail.tail.tail.tail.tail.tail.tail.tail | exact h.tail.tail.tail.tail.tail.tail.tail.tail.tail.tail.tail.tail | exact h.tail.tail.tail.tail.tail.tail.tail.tail.tail.tail.tail.tail.tail)⟩
  ·
    obtain rfl : n = m := by omega
    refine Qt (Qb (Qe (Qe (Qg ?_))))
    refine Qa rfl rfl (Qd rfl rfl rfl) ?_
    refine Qf (Qb (Qr ?_))
    refine TC_loop (γ := {i : Nat // i ≤ n ∧ xs.take (i * 21) = ys.take (i * 21)}) (fun t => [(0, true, .slice ada n ca), (1, true, .slice adb n cb), (5, true, .int .i64 (t.1 : Int))]) (fun _ => St w0 η) (fun t => n - t.1) ⟨0, by omega, by simp⟩ ⟨rfl, rfl, rfl, trivial⟩ (fun _ h => h) ?_
    rintro ⟨i, hi, he⟩
    dsimp only
    refine Qe (Qe (Qg ?_))
    refine Qa rfl rfl (Qc rfl rfl rfl) ?_
    refine Qa rfl rfl (Qc rfl rfl rfl) ?_
    refine Qa rfl rfl (Za rfl rfl Tryz.underlying61 rfl) ?_
    refine Qa rfl rfl (QT_lss rfl rfl rfl rfl) ?_
    refine Qf (Qb ?_)
    refine Qm rfl (fun h14 => ?_) (fun h14 => ?_)
    ·
      refine Qt (Qb (Qe (Qr (Qe ?_))))
      have hin : i < n := by omega
      obtain ⟨ba, oa, rfl, hrA⟩ := hra.resolve_left (by omega)
      obtain ⟨bb, ob, rfl, hrB⟩ := hrb.resolve_left (by omega)
      have hea : Ints triK (elem xs 21 i) := hia.elem hin
      have heb : Ints triK (elem ys 21 i) := hib.elem hin
      refine TC_draw [(0, 0), (1, 0), (2, 0), (3, 0), (4, 0), (5, 0), (6, 0), (7, 0), (8, 0)] KF.mixed (by kernel_rfl) (St.calm _ _) ?_
      refine Qk rfl rfl rfl (fun _ => Qc rfl rfl rfl) ?_
      refine Qk rfl rfl rfl (fun _ => Qc rfl rfl rfl) ?_
      refine Qk rfl rfl rfl (fun _ => Qq (i) rfl rfl Tryz.underlying61 KF.sz_79 rfl rfl (rfl) (fun _ => hin)) ?_
      refine Qz rfl rfl rfl (QT_loadRA rfl rfl Tryz.underlying79 rfl KF.sz_79 hrA rfl (fun _ => by omega)) ?_
      refine Qk rfl rfl rfl (fun _ => Qc rfl rfl rfl) ?_
      refine Qk rfl rfl rfl (fun _ => Qc rfl rfl rfl) ?_
      refine Qk rfl rfl rfl (fun _ => Qq (i) rfl rfl Tryz.underlying61 KF.sz_79 rfl rfl (rfl) (fun _ => hin)) ?_
      refine Qz rfl rfl rfl (QT_loadRA rfl rfl Tryz.underlying79 rfl KF.sz_79 hrB rfl (fun _ => by omega)) ?_
      refine Qk rfl rfl rfl (fun _ => QT_neA rfl rfl eq_Tri rfl rfl (fun _ => hea) (fun _ => heb)) ?_
      refine TV_end (Qb ?_)
      refine TC_cond rfl (fun h25 => ?_) (fun h25 => ?_)
      ·
        refine Qe (Qg ?_)
        refine Qa rfl rfl (Qd rfl rfl rfl) ?_
        refine Qf (Qb ?_)
        refine Qu ?_
        refine Zc ?_
        refine Qn ?_
        refine Qn ?_
        refine Zc ?_
        refine Qn ?_
        exact Qs (.inl rfl) (res1 rfl rfl) ⟨_, ⟨(by
         have h1 : eqC (elem xs 21 i) (elem ys 21 i) = false := by simpa [elem] using h25
         rw [eqC_ne hia hib]
         intro e
         rw [e, eqC_refl heb] at h1
         cases h1), rfl⟩, (fun _ h => by first | exact h | exact h.tail | exact h.tail.tail | exact h.tail.tail.tail | exact h.tail.tail.tail.tail | exact h.tail.tail.tail.tail.tail | exact h.tail.tail.tail.tail.tail.tail | exact h.tail.tail.tail.tail.tail.tail.tail | exact h.tail.tail.tail.tail.tail.tail.tail.tail | exact h.tail.tail.tail.tail.tail.tail.tail.tail.tail | exact h.tail.tail.tail.tail.tail.tail.tail.tail.tail.tail | exact h.tail.tail.tail.tail.tail.tail.tail.tail.tail.tail.tail | exact h.tail.tail.tail.tail.tail.tail.tail.tail.tail.tail.tail.tail | exact h.tail.tail.tail.tail.tail.tail.tail.tail.tail.tail.tail.tail.tail)⟩
      ·
        refine Qt ?_
        refine Qo ?_
        refine Qb (Qg ?_)
        refine Qa rfl rfl (Qc rfl rfl rfl) ?_
        refine Qa rfl rfl (Zb rfl rfl rfl rfl (fun _ => ⟨by omega, by omega⟩)) ?_
        refine Qa rfl rfl (Qd rfl rfl rfl) ?_
        refine Qf ?_
        refine TX_round ⟨i + 1, by omega, ?_⟩ (by dsimp only; omega) ⟨rfl, rfl, slotI rfl (by dsimp only; omega), trivial⟩ (fun _ h => h)
        rw [take_succ_elem, take_succ_elem, he, (eqC_iff hea heb).1 (by simpa [elem] using h25)]
    ·
      refine Zd ?_
      refine Qi (Qi ?_)
      refine Qp ?_
      refine Qb (Qe (Qg ?_))
      refine Qa rfl rfl (Qd rfl rfl rfl) ?_
      refine Qf (Qb ?_)
      refine Qu ?_
      exact Qs (.inl rfl) (res1 rfl rfl) ⟨_, ⟨(by
       have hin : i = n := by omega
       subst hin
       rw [List.take_of_length_le (by omega), List.take_of_length_le (by omega)] at he
       subst he
       rw [eqC_refl hia]), rfl⟩, (fun _ h => by first | exact h | exact h.tail | exact h.tail.tail | exact h.tail.tail.tail | exact h.tail.tail.tail.tail | exact h.tail.tail.tail.tail.tail | exact h.tail.tail.tail.tail.tail.tail | exact h.tail.tail.tail.tail.tail.tail.tail | exact h.tail.tail.tail.tail.tail.tail.tail.tail | exact h.tail.tail.tail.tail.tail.tail.tail.tail.tail | exact h.tail.tail.tail.tail.tail.tail.tail.tail.tail.tail | exact h.tail.tail.tail.tail.tail.tail.tail.tail.tail.tail.tail | exact h.tail.tail.tail.tail.tail.tail.tail.tail.tail.tail.tail.tail | exact h.tail.tail.tail.tail.tail.tail.tail.tail.tail.tail.tail.tail.tail)⟩
end Go.Proofs.YtjdaglmkljbfkaaGreatDoor
namespace Go.Proofs.YtjdaglmkljbfkaaGreatDoor
open Go Go.Gx Go.RowKit
set_option maxRecDepth 100000
theorem two_rooms (rest xs mm : List Value) (n s : Nat) (h : xs.length = n * s) (hr : rest.length = (n + 3) * s) (hm : mm.length = 3 * s) :
  (rest.take (0 * s) ++ xs ++ rest.drop (0 * s + xs.length)).take ((0 + n) * s) ++ mm ++ (rest.take (0 * s) ++ xs ++ rest.drop (0 * s + xs.length)).drop ((0 + n) * s + mm.length) = xs ++ mm := by
 simp only [Nat.zero_mul, List.take_zero, List.nil_append, Nat.zero_add, ← h]
 rw [List.take_left, List.drop_append, List.drop_of_length_le (by omega), List.nil_append, List.drop_drop, List.drop_of_length_le (by rw [hr, h, hm, Nat.add_mul]; omega), List.append_nil]
theorem twin_Sheet (w0 : Base) (η : Heap) (va : Value) (n : Nat) (xs mk : List Value) (ha : SlA (St w0 η) va 49 n xs) (hi : Ints (rep n sheetK) xs) (hmk : Ints sheetK mk) (hn : n ≤ 1000000) :
  CallsT Tryz.prog 112 [va, .agg mk.toArray] (St w0 η) fun v A' => ∃ b, v = .slice (some ⟨b, 0, none⟩) n (n + 3) ∧ A' = St w0 ((b, 102, xs ++ (mk ++ (mk ++ mk))) :: η) := by
 have hml : mk.length = 49 := hmk.length
 have hszm : Sz Tryz.prog 102 mk.length := by rw [hml]; exact KF.sz_102
 obtain ⟨hal, ada, ca, rfl, ⟨hca, hca2⟩, hra⟩ := ha
 have hsa : SlA (St w0 η) (.slice ada n ca) 49 n xs := ⟨hal, ada, ca, rfl, ⟨hca, hca2⟩, hra⟩
 refine CallsT.body Tryz.func112 rfl rfl ?_
 simp only [Tryz.ntmps112, slotsOf, Nat.reduceAdd]
 refine Qe (Qg ?_)
 refine TL_e rfl rfl rfl (rfl) (ET_box rfl rfl) ?_
 rintro _ _ ⟨b3, rfl, rfl⟩
 refine Qa rfl rfl (Qd rfl rfl rfl) ?_
 refine Qf (Qb (Qe (Qg ?_)))
 refine Qa rfl rfl (Qc rfl rfl rfl) ?_
 refine Qa rfl rfl (Za rfl rfl Tryz.underlying32 rfl) ?_
 refine Qa rfl rfl (Zb rfl rfl rfl rfl (fun _ => ⟨by omega, by omega⟩)) ?_
 refine TL_e rfl rfl rfl (rfl) (ET_make (n + 3) rfl Tryz.underlying32 el_Sheet rfl rfl rfl (by omega) (by omega) (by omega)) ?_
 rintro _ _ ⟨b9, rest, rfl, hrest, rfl⟩
 refine Qa rfl rfl (Qd rfl rfl rfl) ?_
 refine Qf (Qb (Qe ?_))
 refine TC_draw [(0, 0), (1, 0), (3, 0), (4, 0), (5, 0), (2, 2), (6, 1), (7, 1), (8, 1)] KF.mixed (by kernel_rfl) (St.calm _ _) ?_
 refine Qk rfl rfl rfl (fun _ => Qc rfl rfl rfl) ?_
 refine Qk rfl rfl rfl (fun _ => Qc rfl rfl rfl) ?_
 refine Qz rfl rfl rfl (Ql 1 rfl rfl Tryz.underlying102 rfl rfl rfl hszm) ?_
 refine Qz rfl rfl rfl (Ql 1 rfl rfl Tryz.underlying102 rfl rfl rfl hszm) ?_
 refine Qz rfl rfl rfl (Ql 1 rfl rfl Tryz.underlying102 rfl rfl rfl hszm) ?_
 refine TV_two (i := 2) (j := 6) [(6, 1), (7, 1), (8, 0)] [(2, 1), (7, 1), (8, 0)] (by kernel_rfl) ?_ ?_
 ·
  refine TVB_e rfl rfl rfl rfl (rfl) (ET_appendRoom 0 rfl Tryz.underlying32 KF.sz_102 rfl rfl rfl hsa.tail.tail hi.oneCell (by omega) (by omega)) ?_
  rintro _ _ ⟨rfl, rfl⟩
  refine ⟨_, .keep (by kernel_rfl) rfl (by first | exact Ql 1 rfl rfl Tryz.underlying102 rfl rfl rfl hszm) (.keep (by kernel_rfl) rfl (by first | exact Ql 1 rfl rfl Tryz.underlying102 rfl rfl rfl hszm) (.keep (by kernel_rfl) rfl (by first | exact Ql 1 rfl rfl Tryz.underlying102 rfl rfl rfl hszm) (.nil))), ?_⟩
  refine TV_e rfl rfl rfl rfl (rfl) (ET_buildN [_, _, _] rfl Tryz.underlying32 KF.sz_102 KF.zero_102 rfl rfl rfl (by simp [Value.cells, hml])) ?_
  rintro _ _ ⟨b16, rfl, rfl⟩
  refine ⟨_, .drop (by kernel_rfl) (.drop (by kernel_rfl) (.drop (by kernel_rfl) (.nil))), ?_⟩
  refine TV_e rfl rfl rfl rfl (rfl) (ET_appendRoom 1 rfl Tryz.underlying32 KF.sz_102 rfl rfl rfl (SlA.own (n := 3) (xs := mk ++ (mk ++ mk)) 0 rfl (by rw [List.drop_zero, List.take_of_length_le (by simp [Value.cells, hml])]; simp [Value.cells]) (by simp [Value.cells, hml]) (by omega)) (fun u hu => hmk.oneCell u (by simpa using hu)) (by omega) (by simp; omega)) ?_
  rintro _ _ ⟨rfl, rfl⟩
  refine ⟨_, .nil, ?_⟩
  refine Qk rfl rfl rfl (fun _ => Qd rfl rfl rfl) ?_
  refine TV_end (Qb (Qe (Qg ?_)))
  refine Qa rfl rfl (Qc rfl rfl rfl) ?_
  refine Qa rfl rfl (Qc rfl rfl rfl) ?_
  refine Qa rfl rfl (Za rfl rfl Tryz.underlying32 rfl) ?_
  refine Qa rfl rfl (QT_slcH _ rfl rfl rfl rfl Tryz.underlying32 KF.sz_102 rfl rfl rfl (fun _ => by omega)) ?_
  refine Qa rfl rfl (Qd rfl rfl rfl) ?_
  refine Qf (Qb ?_)
  refine Qu ?_
  refine Qs (.inl rfl) (res1 rfl rfl) ⟨_, ⟨_, congrArg (fun m => Value.slice _ m _) (by omega), rfl⟩, fun w h => ?_⟩
  simp only [upd] at h
  rw [two_rooms rest xs (mk ++ (mk ++ mk)) n 49 hal hrest (by simp [hml])] at h
  exact h.cnt (fun p => by simp only [List.countP_cons]; omega)
 ·
  refine TVB_e rfl rfl rfl rfl (rfl) (ET_buildN [_, _, _] rfl Tryz.underlying32 KF.sz_102 KF.zero_102 rfl rfl rfl (by simp [Value.cells, hml])) ?_
  rintro _ _ ⟨b16, rfl, rfl⟩
  refine ⟨_, .drop (by kernel_rfl) (.drop (by kernel_rfl) (.drop (by kernel_rfl) (.nil))), ?_⟩
  refine TV_e rfl rfl rfl rfl (rfl) (ET_appendRoom 1 rfl Tryz.underlying32 KF.sz_102 rfl rfl rfl hsa.tail.tail.tail hi.oneCell (by omega) (by omega)) ?_
  rintro _ _ ⟨rfl, rfl⟩
  refine ⟨_, .nil, ?_⟩
  refine TV_e rfl rfl rfl rfl (rfl) (ET_appendRoom 1 rfl Tryz.underlying32 KF.sz_102 rfl rfl rfl (SlA.own (n := 3) (xs := mk ++ (mk ++ mk)) 0 rfl (by rw [List.drop_zero, List.take_of_length_le (by simp [Value.cells, hml])]; simp [Value.cells]) (by simp [Value.cells, hml]) (by omega)) (fun u hu => hmk.oneCell u (by simpa using hu)) (by omega) (by simp; omega)) ?_
  rintro _ _ ⟨rfl, rfl⟩
  refine ⟨_, .nil, ?_⟩
  refine Qk rfl rfl rfl (fun _ => Qd rfl rfl rfl) ?_
  refine TV_end (Qb (Qe (Qg ?_)))
  refine Qa rfl rfl (Qc rfl rfl rfl) ?_
  refine Qa rfl rfl (Qc rfl rfl rfl) ?_
  refine Qa rfl rfl (Za rfl rfl Tryz.underlying32 rfl) ?_
  refine Qa rfl rfl (QT_slcH _ rfl rfl rfl rfl Tryz.underlying32 KF.sz_102 rfl rfl rfl (fun _ => by omega)) ?_
  refine Qa rfl rfl (Qd rfl rfl rfl) ?_
  refine Qf (Qb ?_)
  refine Qu ?_
  refine Qs (.inl rfl) (res1 rfl rfl) ⟨_, ⟨_, congrArg (fun m => Value.slice _ m _) (by omega), rfl⟩, fun w h => ?_⟩
  simp only [upd] at h
  rw [two_rooms rest xs (mk ++ (mk ++ mk)) n 49 hal hrest (by simp [hml])] at h
  exact h.cnt (fun p => by simp only [List.countP_cons]; omega)
theorem left_Sheet (w0 : Base) (η : Heap) (va : Value) (b n : Nat) (xs mk : List Value) (ha : SlA (St w0 η) va 49 n xs) (hb : (b, 102, xs ++ (mk ++ (mk ++ mk))) ∈ η) (hi : Ints (rep n sheetK) xs) (hmk : Ints sheetK mk) (hn : n ≤ 1000000) :
  CallsT Tryz.prog 128 [.slice (some ⟨b, 0, none⟩) n (n + 3), va, .agg mk.toArray] (St w0 η) fun v A' => v = .bool true ∧ A' = St w0 η := by
 have hml : mk.length = 49 := hmk.length
 have hszm : Sz Tryz.prog 102 mk.length := by rw [hml]; exact KF.sz_102
 obtain ⟨hal, ada, ca, rfl, ⟨hca, hca2⟩, hra⟩ := ha
 have hsa : SlA (St w0 η) (.slice ada n ca) 49 n xs := ⟨hal, ada, ca, rfl, ⟨hca, hca2⟩, hra⟩
 have ht : SlA (St w0 η) (.slice (some ⟨b, 0, none⟩) n (n + 3)) 49 n xs := SlA.mem hb (by rw [List.drop_zero, ← hal, List.take_left]) (by simp [hal]) (by omega)
 have hmm : Ints (rep 3 sheetK) (mk ++ (mk ++ mk)) := by
  have e : rep 3 sheetK = sheetK ++ (sheetK ++ sheetK) := by decide
  rw [e]; exact hmk.append (hmk.append hmk)
 have hbk : SlA (St w0 η) (.slice (if n + 3 = n then some ⟨b, 0, none⟩ else (some ⟨b, 0, none⟩ : Option Addr).map (·.add (n * 49))) (n + 3 - n) (n + 3 - n)) 49 3 (mk ++ (mk ++ mk)) := by
  rw [slc_addr (by omega), show n + 3 - n = 3 by omega]
  exact SlA.mem hb (by rw [Nat.zero_add, ← hal, List.drop_left, List.take_of_length_le (by simp [hml])]) (by simp [hal, hml]) (by omega)
 refine CallsT.body Tryz.func128 rfl rfl ?_
 simp only [Tryz.ntmps128, slotsOf, Nat.reduceAdd]
 refine Qe (Qg ?_)
 refine TL_e rfl rfl rfl (rfl) (ET_box rfl rfl) ?_
 rintro _ _ ⟨b5, rfl, rfl⟩
 refine Qa rfl rfl (Qd rfl rfl rfl) ?_
 refine Qf (Qb (Qe (Qe (Qg ?_))))
 refine Qa rfl rfl (Qc rfl rfl rfl) ?_
 refine Qa rfl rfl (QT_cap rfl rfl Tryz.underlying32 rfl) ?_
 refine Qa rfl rfl (Qc rfl rfl rfl) ?_
 refine Qa rfl rfl (Za rfl rfl Tryz.underlying32 rfl) ?_
 refine Qa rfl rfl (Zb rfl rfl rfl rfl (fun _ => ⟨by omega, by omega⟩)) ?_
 refine Qa rfl rfl (QT_neq rfl rfl rfl rfl) ?_
 refine Qa rfl rfl (Qc rfl rfl rfl) ?_
 refine Qa rfl rfl (Qc rfl rfl rfl) ?_
 refine Qa rfl rfl (Qc rfl rfl rfl) ?_
 refine TL_cq rfl rfl rfl rfl KF.cal_35 rfl (fun _ => same_Sheet w0 _ _ _ n n xs xs ht.tail hsa.tail hi hi) ?_
 refine Qa rfl rfl (QT_not rfl rfl rfl) ?_
 refine Qa rfl rfl (QT_or rfl rfl rfl rfl) ?_
 refine Qf (Qb ?_)
 refine TC_cond rfl (fun h => absurd (h.symm.trans ((show (_ : Bool) = false by rw [eqC_refl hi]; simp))) (by decide)) (fun _ => ?_)
 refine Qt (Qb (Qe ?_))
 refine TC_draw [(0, 0), (1, 0), (2, 0), (3, 0), (4, 0), (5, 0), (6, 0), (7, 0), (8, 0), (9, 1), (10, 1), (11, 0)] KF.mixed (by kernel_rfl) (St.calm _ _) ?_
 refine Qk rfl rfl rfl (fun _ => Qc rfl rfl rfl) ?_
 refine Qk rfl rfl rfl (fun _ => Qc rfl rfl rfl) ?_
 refine Qk rfl rfl rfl (fun _ => Za rfl rfl Tryz.underlying32 rfl) ?_
 refine Qk rfl rfl rfl (fun _ => Qc rfl rfl rfl) ?_
 refine Qk rfl rfl rfl (fun _ => QT_cap rfl rfl Tryz.underlying32 rfl) ?_
 refine Qk rfl rfl rfl (fun _ => QT_slcLH (n) (n + 3) rfl rfl rfl Tryz.underlying32 KF.sz_102 rfl rfl rfl rfl rfl (fun _ => ⟨by omega, by omega⟩)) ?_
 refine Qz rfl rfl rfl (Ql 0 rfl rfl Tryz.underlying102 rfl rfl rfl hszm) ?_
 refine Qz rfl rfl rfl (Ql 0 rfl rfl Tryz.underlying102 rfl rfl rfl hszm) ?_
 refine Qz rfl rfl rfl (Ql 0 rfl rfl Tryz.underlying102 rfl rfl rfl hszm) ?_
 refine TV_e rfl rfl rfl rfl (rfl) (ET_buildN [_, _, _] rfl Tryz.underlying32 KF.sz_102 KF.zero_102 rfl rfl rfl (by simp [Value.cells, hml])) ?_
 rintro _ _ ⟨b16, rfl, rfl⟩
 refine ⟨_, .drop (by kernel_rfl) (.drop (by kernel_rfl) (.drop (by kernel_rfl) (.nil))), ?_⟩
 refine TV_cq rfl rfl rfl rfl rfl KF.cal_35 rfl (fun _ => same_Sheet w0 _ _ _ 3 3 _ _ hbk.tail.tail (SlA.own (n := 3) (xs := mk ++ (mk ++ mk)) 0 rfl (by rw [List.drop_zero, List.take_of_length_le (by simp [Value.cells, hml])]; simp [Value.cells]) (by simp [Value.cells, hml]) (by omega)) hmm hmm) (.nil) ?_
 refine Qk rfl rfl rfl (fun _ => Qd rfl rfl rfl) ?_
 refine TV_end (Qb ?_)
 refine Qu ?_
 exact Qs (.inl rfl) (res1 rfl rfl) ⟨_, ⟨by rw [eqC_refl hmm], rfl⟩, (fun _ h => by first | exact h | exact h.tail | exact h.tail.tail | exact h.tail.tail.tail | exact h.tail.tail.tail.tail | exact h.tail.tail.tail.tail.tail | exact h.tail.tail.tail.tail.tail.tail | exact h.tail.tail.tail.tail.tail.tail.tail | exact h.tail.tail.tail.tail.tail.tail.tail.tail | exact h.tail.tail.tail.tail.tail.tail.tail.tail.tail | exact h.tail.tail.tail.tail.tail.tail.tail.tail.tail.tail | exact h.tail.tail.tail.tail.tail.tail.tail.tail.tail.tail.tail | exact h.tail.tail.tail.tail.tail.tail.tail.tail.tail.tail.tail.tail | exact h.tail.tail.tail.tail.tail.tail.tail.tail.tail.tail.tail.tail.tail)⟩
theorem twin_Rec (w0 : Base) (η : Heap) (va : Value) (n : Nat) (xs mk : List Value) (ha : SlA (St w0 η) va 7 n xs) (hi : Ints (rep n recK) xs) (hmk : Ints recK mk) (hn : n ≤ 1000000) :
  CallsT Tryz.prog 111 [va, .agg mk.toArray] (St w0 η) fun v A' => ∃ b, v = .slice (some ⟨b, 0, none⟩) n (n + 3) ∧ A' = St w0 ((b, 77, xs ++ (mk ++ (mk ++ mk))) :: η) := by
 have hml : mk.length = 7 := hmk.length
 have hszm : Sz Tryz.prog 77 mk.length := by rw [hml]; exact KF.sz_77
 obtain ⟨hal, ada, ca, rfl, ⟨hca, hca2⟩, hra⟩ := ha
 have hsa : SlA (St w0 η) (.slice ada n ca) 7 n xs := ⟨hal, ada, ca, rfl, ⟨hca, hca2⟩, hra⟩
 refine CallsT.body Tryz.func111 rfl rfl ?_
 simp only [Tryz.ntmps111, slotsOf, Nat.reduceAdd]
 refine Qe (Qg ?_)
 refine TL_e rfl rfl rfl (rfl) (ET_box rfl rfl) ?_
 rintro _ _ ⟨b3, rfl, rfl⟩
 refine Qa rfl rfl (Qd rfl rfl rfl) ?_
 refine Qf (Qb (Qe (Qg ?_)))
 refine Qa rfl rfl (Qc rfl rfl rfl) ?_
 refine Qa rfl rfl (Za rfl rfl Tryz.underlying31 rfl) ?_
 refine Qa rfl rfl (Zb rfl rfl rfl rfl (fun _ => ⟨by omega, by omega⟩)) ?_
 refine TL_e rfl rfl rfl (rfl) (ET_make (n + 3) rfl Tryz.underlying31 el_Rec rfl rfl rfl (by omega) (by omega) (by omega)) ?_
 rintro _ _ ⟨b9, rest, rfl, hrest, rfl⟩
 refine Qa rfl rfl (Qd rfl rfl rfl) ?_
 refine Qf (Qb (Qe ?_))
 refine TC_draw [(0, 0), (1, 0), (3, 0), (4, 0), (5, 0), (2, 2), (6, 1), (7, 1), (8, 1)] KF.mixed (by kernel_rfl) (St.calm _ _) ?_
 refine Qk rfl rfl rfl (fun _ => Qc rfl rfl rfl) ?_
 refine Qk rfl rfl rfl (fun _ => Qc rfl rfl rfl) ?_
 refine Qz rfl rfl rfl (Ql 1 rfl rfl Tryz.underlying77 rfl rfl rfl hszm) ?_
 refine Qz rfl rfl rfl (Ql 1 rfl rfl Tryz.underlying77 rfl rfl rfl hszm) ?_
 refine Qz rfl rfl rfl (Ql 1 rfl rfl Tryz.underlying77 rfl rfl rfl hszm) ?_
 refine TV_two (i := 2) (j := 6) [(6, 1), (7, 1), (8, 0)] [(2, 1), (7, 1), (8, 0)] (by kernel_rfl) ?_ ?_
 ·
  refine TVB_e rfl rfl rfl rfl (rfl) (ET_appendRoom 0 rfl Tryz.underlying31 KF.sz_77 rfl rfl rfl hsa.tail.tail hi.oneCell (by omega) (by omega)) ?_
  rintro _ _ ⟨rfl, rfl⟩
  refine ⟨_, .keep (by kernel_rfl) rfl (by first | exact Ql 1 rfl rfl Tryz.underlying77 rfl rfl rfl hszm) (.keep (by kernel_rfl) rfl (by first | exact Ql 1 rfl rfl Tryz.underlying77 rfl rfl rfl hszm) (.keep (by kernel_rfl) rfl (by first | exact Ql 1 rfl rfl Tryz.underlying77 rfl rfl rfl hszm) (.nil))), ?_⟩
  refine TV_e rfl rfl rfl rfl (rfl) (ET_buildN [_, _, _] rfl Tryz.underlying31 KF.sz_77 KF.zero_77 rfl rfl rfl (by simp [Value.cells, hml])) ?_
  rintro _ _ ⟨b16, rfl, rfl⟩
  refine ⟨_, .drop (by kernel_rfl) (.drop (by kernel_rfl) (.drop (by kernel_rfl) (.nil))), ?_⟩
  refine TV_e rfl rfl rfl rfl (rfl) (ET_appendRoom 1 rfl Tryz.underlying31 KF.sz_77 rfl rfl rfl (SlA.own (n := 3) (xs := mk ++ (mk ++ mk)) 0 rfl (by rw [List.drop_zero, List.take_of_length_le (by simp [Value.cells, hml])]; simp [Value.cells]) (by simp [Value.cells, hml]) (by omega)) (fun u hu => hmk.oneCell u (by simpa using hu)) (by omega) (by simp; omega)) ?_
  rintro _ _ ⟨rfl, rfl⟩
  refine ⟨_, .nil, ?_⟩
  refine Qk rfl rfl rfl (fun _ => Qd rfl rfl rfl) ?_
  refine TV_end (Qb (Qe (Qg ?_)))
  refine Qa rfl rfl (Qc rfl rfl rfl) ?_
  refine Qa rfl rfl (Qc rfl rfl rfl) ?_
  refine Qa rfl rfl (Za rfl rfl Tryz.underlying31 rfl) ?_
  refine Qa rfl rfl (QT_slcH _ rfl rfl rfl rfl Tryz.underlying31 KF.sz_77 rfl rfl rfl (fun _ => by omega)) ?_
  refine Qa rfl rfl (Qd rfl rfl rfl) ?_
  refine Qf (Qb ?_)
  refine Qu ?_
  refine Qs (.inl rfl) (res1 rfl rfl) ⟨_, ⟨_, congrArg (fun m => Value.slice _ m _) (by omega), rfl⟩, fun w h => ?_⟩
  simp only [upd] at h
  rw [two_rooms rest xs (mk ++ (mk ++ mk)) n 7 hal hrest (by simp [hml])] at h
  exact h.cnt (fun p => by simp only [List.countP_cons]; omega)
 ·
  refine TVB_e rfl rfl rfl rfl (rfl) (ET_buildN [_, _, _] rfl Tryz.underlying31 KF.sz_77 KF.zero_77 rfl rfl rfl (by simp [Value.cells, hml])) ?_
  rintro _ _ ⟨b16, rfl, rfl⟩
  refine ⟨_, .drop (by kernel_rfl) (.drop (by kernel_rfl) (.drop (by kernel_rfl) (.nil))), ?_⟩
  refine TV_e rfl rfl rfl rfl (rfl) (ET_appendRoom 1 rfl Tryz.underlying31 KF.sz_77 rfl rfl rfl hsa.tail.tail.tail hi.oneCell (by omega) (by omega)) ?_
  rintro _ _ ⟨rfl, rfl⟩
  refine ⟨_, .nil, ?_⟩
  refine TV_e rfl rfl rfl rfl (rfl) (ET_appendRoom 1 rfl Tryz.underlying31 KF.sz_77 rfl rfl rfl (SlA.own (n := 3) (xs := mk ++ (mk ++ mk)) 0 rfl (by rw [List.drop_zero, List.take_of_length_le (by simp [Value.cells, hml])]; simp [Value.cells]) (by simp [Value.cells, hml]) (by omega)) (fun u hu => hmk.oneCell u (by simpa using hu)) (by omega) (by simp; omega)) ?_
  rintro _ _ ⟨rfl, rfl⟩
  refine ⟨_, .nil, ?_⟩
  refine Qk rfl rfl rfl (fun _ => Qd rfl rfl rfl) ?_
  refine TV_end (Qb (Qe (Qg ?_)))
  refine Qa rfl rfl (Qc rfl rfl rfl) ?_
  refine Qa rfl rfl (Qc rfl rfl rfl) ?_
  refine Qa rfl rfl (Za rfl rfl Tryz.underlying31 rfl) ?_
  refine Qa rfl rfl (QT_slcH _ rfl rfl rfl rfl Tryz.underlying31 KF.sz_77 rfl rfl rfl (fun _ => by omega)) ?_
  refine Qa rfl rfl (Qd rfl rfl rfl) ?_
  refine Qf (Qb ?_)
  refine Qu ?_
  refine Qs (.inl rfl) (res1 rfl rfl) ⟨_, ⟨_, congrArg (fun m => Value.slice _ m _) (by omega), rfl⟩, fun w h => ?_⟩
  simp only [upd] at h
  rw [two_rooms rest xs (mk ++ (mk ++ mk)) n 7 hal hrest (by simp [hml])] at h
  exact h.cnt (fun p => by simp only [List.countP_cons]; omega)
theorem left_Rec (w0 : Base) (η : Heap) (va : Value) (b n : Nat) (xs mk : List Value) (ha : SlA (St w0 η) va 7 n xs) (hb : (b, 77, xs ++ (mk ++ (mk ++ mk))) ∈ η) (hi : Ints (rep n recK) xs) (hmk : Ints recK mk) (hn : n ≤ 1000000) :
  CallsT Tryz.prog 127 [.slice (some ⟨b, 0, none⟩) n (n + 3), va, .agg mk.toArray] (St w0 η) fun v A' => v = .bool true ∧ A' = St w0 η := by
 have hml : mk.length = 7 := hmk.length
 have hszm : Sz Tryz.prog 77 mk.length := by rw [hml]; exact KF.sz_77
 obtain ⟨hal, ada, ca, rfl, ⟨hca, hca2⟩, hra⟩ := ha
 have hsa : SlA (St w0 η) (.slice ada n ca) 7 n xs := ⟨hal, ada, ca, rfl, ⟨hca, hca2⟩, hra⟩
 have ht : SlA (St w0 η) (.slice (some ⟨b, 0, none⟩) n (n + 3)) 7 n xs := SlA.mem hb (by rw [List.drop_zero, ← hal, List.take_left]) (by simp [hal]) (by omega)
 have hmm : Ints (rep 3 recK) (mk ++ (mk ++ mk)) := by
  have e : rep 3 recK = recK ++ (recK ++ recK) := by decide
  rw [e]; exact hmk.append (hmk.append hmk)
 have hbk : SlA (St w0 η) (.slice (if n + 3 = n then some ⟨b, 0, none⟩ else (some ⟨b, 0, none⟩ : Option Addr).map (·.add (n * 7))) (n + 3 - n) (n + 3 - n)) 7 3 (mk ++ (mk ++ mk)) := by
  rw [slc_addr (by omega), show n + 3 - n = 3 by omega]
  exact SlA.mem hb (by rw [Nat.zero_add, ← hal, List.drop_left, List.take_of_length_le (by simp [hml])]) (by simp [hal, hml]) (by omega)
 refine CallsT.body Tryz.func127 rfl rfl ?_
 simp only [Tryz.ntmps127, slotsOf, Nat.reduceAdd]
 refine Qe (Qg ?_)
 refine TL_e rfl rfl rfl (rfl) (ET_box rfl rfl) ?_
 rintro _ _ ⟨b5, rfl, rfl⟩
 refine Qa rfl rfl (Qd rfl rfl rfl) ?_
 refine Qf (Qb (Qe (Qe (Qg ?_))))
 refine Qa rfl rfl (Qc rfl rfl rfl) ?_
 refine Qa rfl rfl (QT_cap rfl rfl Tryz.underlying31 rfl) ?_
 refine Qa rfl rfl (Qc rfl rfl rfl) ?_
 refine Qa rfl rfl (Za rfl rfl Tryz.underlying31 rfl) ?_
 refine Qa rfl rfl (Zb rfl rfl rfl rfl (fun _ => ⟨by omega, by omega⟩)) ?_
 refine Qa rfl rfl (QT_neq rfl rfl rfl rfl) ?_
 refine Qa rfl rfl (Qc rfl rfl rfl) ?_
 refine Qa rfl rfl (Qc rfl rfl rfl) ?_
 refine Qa rfl rfl (Qc rfl rfl rfl) ?_
 refine TL_cq rfl rfl rfl rfl KF.cal_34 rfl (fun _ => same_Rec w0 _ _ _ n n xs xs ht.tail hsa.tail hi hi) ?_
 refine Qa rfl rfl (QT_not rfl rfl rfl) ?_
 refine Qa rfl rfl (QT_or rfl rfl rfl rfl) ?_
 refine Qf (Qb ?_)
 refine TC_cond rfl (fun h => absurd (h.symm.trans ((show (_ : Bool) = false by rw [eqC_refl hi]; simp))) (by decide)) (fun _ => ?_)
 refine Qt (Qb (Qe ?_))
 refine TC_draw [(0, 0), (1, 0), (2, 0), (3, 0), (4, 0), (5, 0), (6, 0), (7, 0), (8, 0), (9, 1), (10, 1), (11, 0)] KF.mixed (by kernel_rfl) (St.calm _ _) ?_
 refine Qk rfl rfl rfl (fun _ => Qc rfl rfl rfl) ?_
 refine Qk rfl rfl rfl (fun _ => Qc rfl rfl rfl) ?_
 refine Qk rfl rfl rfl (fun _ => Za rfl rfl Tryz.underlying31 rfl) ?_
 refine Qk rfl rfl rfl (fun _ => Qc rfl rfl rfl) ?_
 refine Qk rfl rfl rfl (fun _ => QT_cap rfl rfl Tryz.underlying31 rfl) ?_
 refine Qk rfl rfl rfl (fun _ => QT_slcLH (n) (n + 3) rfl rfl rfl Tryz.underlying31 KF.sz_77 rfl rfl rfl rfl rfl (fun _ => ⟨by omega, by omega⟩)) ?_
 refine Qz rfl rfl rfl (Ql 0 rfl rfl Tryz.underlying77 rfl rfl rfl hszm) ?_
 refine Qz rfl rfl rfl (Ql 0 rfl rfl Tryz.underlying77 rfl rfl rfl hszm) ?_
 refine Qz rfl rfl rfl (Ql 0 rfl rfl Tryz.underlying77 rfl rfl rfl hszm) ?_
 refine TV_e rfl rfl rfl rfl (rfl) (ET_buildN [_, _, _] rfl Tryz.underlying31 KF.sz_77 KF.zero_77 rfl rfl rfl (by simp [Value.cells, hml])) ?_
 rintro _ _ ⟨b16, rfl, rfl⟩
 refine ⟨_, .drop (by kernel_rfl) (.drop (by kernel_rfl) (.drop (by kernel_rfl) (.nil))), ?_⟩
 refine TV_cq rfl rfl rfl rfl rfl KF.cal_34 rfl (fun _ => same_Rec w0 _ _ _ 3 3 _ _ hbk.tail.tail (SlA.own (n := 3) (xs := mk ++ (mk ++ mk)) 0 rfl (by rw [List.drop_zero, List.take_of_length_le (by simp [Value.cells, hml])]; simp [Value.cells]) (by simp [Value.cells, hml]) (by omega)) hmm hmm) (.nil) ?_
 refine Qk rfl rfl rfl (fun _ => Qd rfl rfl rfl) ?_
 refine TV_end (Qb ?_)
 refine Qu ?_
 exact Qs (.inl rfl) (res1 rfl rfl) ⟨_, ⟨by rw [eqC_refl hmm], rfl⟩, (fun _ h => by first | exact h | exact h.tail | exact h.tail.tail | exact h.tail.tail.tail | exact h.tail.tail.tail.tail | exact h.tail.tail.tail.tail.tail | exact h.tail.tail.tail.tail.tail.tail | exact h.tail.tail.tail.tail.tail.tail.tail | exact h.tail.tail.tail.tail.tail.tail.tail.tail | exact h.tail.tail.tail.tail.tail.tail.tail.tail.tail | exact h.tail.tail.tail.tail.tail.tail.tail.tail.tail.tail | exact h.tail.tail.tail.tail.tail.tail.tail.tail.tail.tail.tail | exact h.tail.tail.tail.tail.tail.tail.tail.tail.tail.tail.tail.tail | exact h.tail.tail.tail.tail.tail.tail.tail.tail.tail.tail.tail.tail.tail)⟩
def zs (ks : List IntKind) : List Value := ks.map fun k => .int k 0
theorem zs_ints : ∀ ks : List IntKind, Ints ks (zs ks)
 | [] => .nil
 | k :: ks => .cons (by cases k <;> rfl) (zs_ints ks)
def mark_Sheet : List Value := .int .u8 202 :: zs sheetK.tail
theorem mark_Sheet_ints : Ints sheetK mark_Sheet := .cons (by decide) (zs_ints _)
theorem twin_Sheets (w0 : Base) (η : Heap) (va : Value) (n : Nat) (xs : List Value) (ha : SlA (St w0 η) va sheetK.length n xs) (hi : Ints (rep n sheetK) xs) (hn : n ≤ 1000000) :
  CallsT Tryz.prog 77 [va] (St w0 η) fun v A' => ∃ b, v = .slice (some ⟨b, 0, none⟩) n (n + 3) ∧ A' = St w0 ((b, 102, xs ++ (mark_Sheet ++ (mark_Sheet ++ mark_Sheet))) :: η) := by
 refine CallsT.body Tryz.func77 rfl rfl ?_
 simp only [Tryz.ntmps77, slotsOf, Nat.reduceAdd]
 refine Qe (Qg ?_)
 refine Qa rfl rfl (Qd rfl rfl rfl) ?_
 refine Qf (Qb (Qe (Qg ?_)))
 refine Qa rfl rfl (Qc rfl rfl rfl) ?_
 refine Qa rfl rfl (QT_build rfl rfl KF.zero_102 KF.pl_102 rfl rfl rfl) ?_
 refine TL_e rfl rfl rfl (rfl) (ET_call rfl KF.cal_112 rfl (twin_Sheet w0 _ va n xs mark_Sheet ha hi mark_Sheet_ints hn)) ?_
 rintro _ _ ⟨b5, rfl, rfl⟩
 refine Qa rfl rfl (Qd rfl rfl rfl) ?_
 refine Qf (Qb ?_)
 refine Qu ?_
 exact Qs (.inl rfl) (res1 rfl rfl) ⟨_, ⟨_, rfl, rfl⟩, (fun _ h => by first | exact h | exact h.tail | exact h.tail.tail | exact h.tail.tail.tail | exact h.tail.tail.tail.tail | exact h.tail.tail.tail.tail.tail | exact h.tail.tail.tail.tail.tail.tail | exact h.tail.tail.tail.tail.tail.tail.tail | exact h.tail.tail.tail.tail.tail.tail.tail.tail | exact h.tail.tail.tail.tail.tail.tail.tail.tail.tail | exact h.tail.tail.tail.tail.tail.tail.tail.tail.tail.tail | exact h.tail.tail.tail.tail.tail.tail.tail.tail.tail.tail.tail | exact h.tail.tail.tail.tail.tail.tail.tail.tail.tail.tail.tail.tail | exact h.tail.tail.tail.tail.tail.tail.tail.tail.tail.tail.tail.tail.tail)⟩
theorem left_Sheets (w0 : Base) (η : Heap) (va : Value) (b n : Nat) (xs : List Value) (ha : SlA (St w0 η) va sheetK.length n xs) (hb : (b, 102, xs ++ (mark_Sheet ++ (mark_Sheet ++ mark_Sheet))) ∈ η) (hi : Ints (rep n sheetK) xs) (hn : n ≤ 1000000) :
  CallsT Tryz.prog 89 [.slice (some ⟨b, 0, none⟩) n (n + 3), va] (St w0 η) fun v A' => v = .bool true ∧ A' = St w0 η := by
 refine CallsT.body Tryz.func89 rfl rfl ?_
 simp only [Tryz.ntmps89, slotsOf, Nat.reduceAdd]
 refine Qe (Qg ?_)
 refine Qa rfl rfl (Qd rfl rfl rfl) ?_
 refine Qf (Qb (Qe (Qg ?_)))
 refine Qa rfl rfl (Qc rfl rfl rfl) ?_
 refine Qa rfl rfl (Qc rfl rfl rfl) ?_
 refine Qa rfl rfl (QT_build rfl rfl KF.zero_102 KF.pl_102 rfl rfl rfl) ?_
 refine TL_cq rfl rfl rfl rfl KF.cal_128 rfl (fun _ => left_Sheet w0 _ va b n xs mark_Sheet ha hb hi mark_Sheet_ints hn) ?_
 refine Qa rfl rfl (Qd rfl rfl rfl) ?_
 refine Qf (Qb ?_)
 refine Qu ?_
 exact Qs (.inl rfl) (res1 rfl rfl) ⟨_, ⟨rfl, rfl⟩, (fun _ h => by first | exact h | exact h.tail | exact h.tail.tail | exact h.tail.tail.tail | exact h.tail.tail.tail.tail | exact h.tail.tail.tail.tail.tail | exact h.tail.tail.tail.tail.tail.tail | exact h.tail.tail.tail.tail.tail.tail.tail | exact h.tail.tail.tail.tail.tail.tail.tail.tail | exact h.tail.tail.tail.tail.tail.tail.tail.tail.tail | exact h.tail.tail.tail.tail.tail.tail.tail.tail.tail.tail | exact h.tail.tail.tail.tail.tail.tail.tail.tail.tail.tail.tail | exact h.tail.tail.tail.tail.tail.tail.tail.tail.tail.tail.tail.tail | exact h.tail.tail.tail.tail.tail.tail.tail.tail.tail.tail.tail.tail.tail)⟩
def mark_Rec : List Value := .int .u8 201 :: zs recK.tail
theorem mark_Rec_ints : Ints recK mark_Rec := .cons (by decide) (zs_ints _)
theorem twin_Recs (w0 : Base) (η : Heap) (va : Value) (n : Nat) (xs : List Value) (ha : SlA (St w0 η) va recK.length n xs) (hi : Ints (rep n recK) xs) (hn : n ≤ 1000000) :
  CallsT Tryz.prog 76 [va] (St w0 η) fun v A' => ∃ b, v = .slice (some ⟨b, 0, none⟩) n (n + 3) ∧ A' = St w0 ((b, 77, xs ++ (mark_Rec ++ (mark_Rec ++ mark_Rec))) :: η) := by
 refine CallsT.body Tryz.func76 rfl rfl ?_
 simp only [Tryz.ntmps76, slotsOf, Nat.reduceAdd]
 refine Qe (Qg ?_)
 refine Qa rfl rfl (Qd rfl rfl rfl) ?_
 refine Qf (Qb (Qe (Qg ?_)))
 refine Qa rfl rfl (Qc rfl rfl rfl) ?_
 refine Qa rfl rfl (QT_build rfl rfl KF.zero_77 KF.pl_77 rfl rfl rfl) ?_
 refine TL_e rfl rfl rfl (rfl) (ET_call rfl KF.cal_111 rfl (twin_Rec w0 _ va n xs mark_Rec ha hi mark_Rec_ints hn)) ?_
 rintro _ _ ⟨b5, rfl, rfl⟩
 refine Qa rfl rfl (Qd rfl rfl rfl) ?_
 refine Qf (Qb ?_)
 refine Qu ?_
 exact Qs (.inl rfl) (res1 rfl rfl) ⟨_, ⟨_, rfl, rfl⟩, (fun _ h => by first | exact h | exact h.tail | exact h.tail.tail | exact h.tail.tail.tail | exact h.tail.tail.tail.tail | exact h.tail.tail.tail.tail.tail | exact h.tail.tail.tail.tail.tail.tail | exact h.tail.tail.tail.tail.tail.tail.tail | exact h.tail.tail.tail.tail.tail.tail.tail.tail | exact h.tail.tail.tail.tail.tail.tail.tail.tail.tail | exact h.tail.tail.tail.tail.tail.tail.tail.tail.tail.tail | exact h.tail.tail.tail.tail.tail.tail.tail.tail.tail.tail.tail | exact h.tail.tail.tail.tail.tail.tail.tail.tail.tail.tail.tail.tail | exact h.tail.tail.tail.tail.tail.tail.tail.tail.tail.tail.tail.tail.tail)⟩
theorem left_Recs (w0 : Base) (η : Heap) (va : Value) (b n : Nat) (xs : List Value) (ha : SlA (St w0 η) va recK.length n xs) (hb : (b, 77, xs ++ (mark_Rec ++ (mark_Rec ++ mark_Rec))) ∈ η) (hi : Ints (rep n recK) xs) (hn : n ≤ 1000000) :
  CallsT Tryz.prog 88 [.slice (some ⟨b, 0, none⟩) n (n + 3), va] (St w0 η) fun v A' => v = .bool true ∧ A' = St w0 η := by
 refine CallsT.body Tryz.func88 rfl rfl ?_
 simp only [Tryz.ntmps88, slotsOf, Nat.reduceAdd]
 refine Qe (Qg ?_)
 refine Qa rfl rfl (Qd rfl rfl rfl) ?_
 refine Qf (Qb (Qe (Qg ?_)))
 refine Qa rfl rfl (Qc rfl rfl rfl) ?_
 refine Qa rfl rfl (Qc rfl rfl rfl) ?_
 refine Qa rfl rfl (QT_build rfl rfl KF.zero_77 KF.pl_77 rfl rfl rfl) ?_
 refine TL_cq rfl rfl rfl rfl KF.cal_127 rfl (fun _ => left_Rec w0 _ va b n xs mark_Rec ha hb hi mark_Rec_ints hn) ?_
 refine Qa rfl rfl (Qd rfl rfl rfl) ?_
 refine Qf (Qb ?_)
 refine Qu ?_
 exact Qs (.inl rfl) (res1 rfl rfl) ⟨_, ⟨rfl, rfl⟩, (fun _ h => by first | exact h | exact h.tail | exact h.tail.tail | exact h.tail.tail.tail | exact h.tail.tail.tail.tail | exact h.tail.tail.tail.tail.tail | exact h.tail.tail.tail.tail.tail.tail | exact h.tail.tail.tail.tail.tail.tail.tail | exact h.tail.tail.tail.tail.tail.tail.tail.tail | exact h.tail.tail.tail.tail.tail.tail.tail.tail.tail | exact h.tail.tail.tail.tail.tail.tail.tail.tail.tail.tail | exact h.tail.tail.tail.tail.tail.tail.tail.tail.tail.tail.tail | exact h.tail.tail.tail.tail.tail.tail.tail.tail.tail.tail.tail.tail | exact h.tail.tail.tail.tail.tail.tail.tail.tail.tail.tail.tail.tail.tail)⟩
theorem same_Tiles (w0 : Base) (η : Heap) (va vb : Value) (n m : Nat) (xs ys : List Value) (ha : SlA (St w0 η) va patchK.length n xs) (hb : SlA (St w0 η) vb patchK.length m ys) (hia : Ints (rep n patchK) xs) (hib : Ints (rep m patchK) ys) :
  CallsT Tryz.prog 23 [va, vb] (St w0 η) fun v A' => v = .bool (eqC xs ys) ∧ A' = St w0 η := by
 refine CallsT.body Tryz.func23 rfl rfl ?_
 simp only [Tryz.ntmps23, slotsOf, Nat.reduceAdd]
 refine Qe (Qg ?_)
 refine Qa rfl rfl (Qd rfl rfl rfl) ?_
 refine Qf (Qb (Qe (Qg ?_)))
 refine Qa rfl rfl (Qc rfl rfl rfl) ?_
 refine Qa rfl rfl (Qc rfl rfl rfl) ?_
 refine TL_cq rfl rfl rfl rfl KF.cal_87 rfl (fun _ => same_Patch w0 _ va vb n m xs ys ha hb hia hib) ?_
 refine Qa rfl rfl (Qd rfl rfl rfl) ?_
 refine Qf (Qb ?_)
 refine Qu ?_
 exact Qs (.inl rfl) (res1 rfl rfl) ⟨_, ⟨rfl, rfl⟩, (fun _ h => by first | exact h | exact h.tail | exact h.tail.tail | exact h.tail.tail.tail | exact h.tail.tail.tail.tail | exact h.tail.tail.tail.tail.tail | exact h.tail.tail.tail.tail.tail.tail | exact h.tail.tail.tail.tail.tail.tail.tail | exact h.tail.tail.tail.tail.tail.tail.tail.tail | exact h.tail.tail.tail.tail.tail.tail.tail.tail.tail | exact h.tail.tail.tail.tail.tail.tail.tail.tail.tail.tail | exact h.tail.tail.tail.tail.tail.tail.tail.tail.tail.tail.tail | exact h.tail.tail.tail.tail.tail.tail.tail.tail.tail.tail.tail.tail | exact h.tail.tail.tail.tail.tail.tail.tail.tail.tail.tail.tail.tail.tail)⟩
theorem same_Tris (w0 : Base) (η : Heap) (va vb : Value) (n m : Nat) (xs ys : List Value) (ha : SlA (St w0 η) va triK.length n xs) (hb : SlA (St w0 η) vb triK.length m ys) (hia : Ints (rep n triK) xs) (hib : Ints (rep m triK) ys) :
  CallsT Tryz.prog 22 [va, vb] (St w0 η) fun v A' => v = .bool (eqC xs ys) ∧ A' = St w0 η := by
 refine CallsT.body Tryz.func22 rfl rfl ?_
 simp only [Tryz.ntmps22, slotsOf, Nat.reduceAdd]
 refine Qe (Qg ?_)
 refine Qa rfl rfl (Qd rfl rfl rfl) ?_
 refine Qf (Qb (Qe (Qg ?_)))
 refine Qa rfl rfl (Qc rfl rfl rfl) ?_
 refine Qa rfl rfl (Qc rfl rfl rfl) ?_
 refine TL_cq rfl rfl rfl rfl KF.cal_86 rfl (fun _ => same_Tri w0 _ va vb n m xs ys ha hb hia hib) ?_
 refine Qa rfl rfl (Qd rfl rfl rfl) ?_
 refine Qf (Qb ?_)
 refine Qu ?_
 exact Qs (.inl rfl) (res1 rfl rfl) ⟨_, ⟨rfl, rfl⟩, (fun _ h => by first | exact h | exact h.tail | exact h.tail.tail | exact h.tail.tail.tail | exact h.tail.tail.tail.tail | exact h.tail.tail.tail.tail.tail | exact h.tail.tail.tail.tail.tail.tail | exact h.tail.tail.tail.tail.tail.tail.tail | exact h.tail.tail.tail.tail.tail.tail.tail.tail | exact h.tail.tail.tail.tail.tail.tail.tail.tail.tail | exact h.tail.tail.tail.tail.tail.tail.tail.tail.tail.tail | exact h.tail.tail.tail.tail.tail.tail.tail.tail.tail.tail.tail | exact h.tail.tail.tail.tail.tail.tail.tail.tail.tail.tail.tail.tail | exact h.tail.tail.tail.tail.tail.tail.tail.tail.tail.tail.tail.tail.tail)⟩
end Go.Proofs.YtjdaglmkljbfkaaGreatDoor
namespace Go.Proofs.YtjdaglmkljbfkaaGreatDoor
open Go Go.Gx Go.RowKit
set_option maxRecDepth 100000
theorem fill_Sheet (w0 : Base) (η : Heap) (va : Value) (ss : List Strip) (hs : ∀ s ∈ ss, s.ok 102 49 sheetK) (ha : SlA (St w0 η) va 51 ss.length (arrOf ss)) :
  CallsT Tryz.prog 42 [va] (St w0 (heapOf ss ++ η)) fun _ A' => A' = St w0 (heapOf (ss.map (fillS 49)) ++ η) := by
 have hml : ∀ s ∈ ss, s.mark.length = 49 := fun s h => (hs s h).mints.length
 obtain ⟨hal, ada, ca, rfl, ⟨hca, hca2⟩, hra⟩ := ha
 refine CallsT.body Tryz.func42 rfl rfl ?_
 simp only [Tryz.ntmps42, slotsOf, Nat.reduceAdd]
 refine Qe (Qg ?_)
 refine Qa rfl rfl (Qd rfl rfl rfl) ?_
 refine Qf (Qb (Qr ?_))
 refine TC_loop (γ := {i : Nat // i ≤ ss.length}) (fun t => [(0, true, .slice ada ss.length ca), (2, true, .int .i64 (t.1 : Int))]) (fun t => St w0 (heapOf ((ss.take t.1).map (fillS 49)) ++ (heapOf (ss.drop t.1) ++ η))) (fun t => ss.length - t.1) ⟨0, by omega⟩ ⟨rfl, rfl, trivial⟩ (fun _ h => by simpa [heapOf] using h) ?_
 rintro ⟨i, hi⟩
 dsimp only
 refine Qe (Qe (Qg ?_))
 refine Qa rfl rfl (Qc rfl rfl rfl) ?_
 refine Qa rfl rfl (Qc rfl rfl rfl) ?_
 refine Qa rfl rfl (Za rfl rfl Tryz.underlying43 rfl) ?_
 refine Qa rfl rfl (QT_lss rfl rfl rfl rfl) ?_
 refine Qf (Qb ?_)
 refine Qm rfl (fun h7 => ?_) (fun h7 => ?_)
 ·
  refine Qt (Qb (Qe (Qr (Qe ?_))))
  have hin : i < ss.length := by omega
  obtain ⟨ba, oa, rfl, hrA⟩ := hra.resolve_left (by omega)
  obtain ⟨s, hsi⟩ : ∃ s, ss[i]? = some s := ⟨_, List.getElem?_eq_getElem hin⟩
  obtain ⟨hat1, hat2, hat3, hat4⟩ := arrOf_at hml hsi
  have hdrop : ss.drop i = s :: ss.drop (i + 1) := by
   rw [List.drop_eq_getElem_cons hin]
   congr 1
   exact (List.getElem?_eq_some_iff.1 hsi).2
  have htake : (ss.take (i + 1)).map (fillS 49) = (ss.take i).map (fillS 49) ++ [fillS 49 s] := by
   rw [List.take_add_one, hsi]; simp
  have hok := hs s (List.mem_of_getElem? hsi)
  have hmls := hml s (List.mem_of_getElem? hsi)
  rw [hdrop, heapOf_cons]
  obtain ⟨sv, sn, sxs, slong, smk, sH⟩ := s
  obtain ⟨⟨hfl, hfr⟩, hmk, hfew⟩ := hok
  dsimp only at hfl hfr hmk hfew hmls hat1 hat2 hat3 hat4
  have hsv : ∃ sad scap, sv = .slice sad sn scap := by
   rcases hfr with ⟨rfl, rfl, _⟩ | ⟨b, cap, rest, rfl, _⟩
   · exact ⟨_, _, rfl⟩
   · exact ⟨_, _, rfl⟩
  obtain ⟨sad, scap, rfl⟩ := hsv
  refine Qg ?_
  refine Qa rfl rfl (Qd rfl rfl rfl) ?_
  refine Qf (Qb (Qr ?_))
  refine TC_loop (γ := {k : Nat // k ≤ sn}) (fun t => [(0, true, .slice (some ⟨ba, oa, none⟩) ss.length ca), (2, true, .int .i64 (i : Int)), (3, true, .int .i64 (t.1 : Int))]) (fun t => St w0 (fillH 49 t.1 smk sH ++ (heapOf ((ss.take i).map (fillS 49)) ++ (heapOf (ss.drop (i + 1)) ++ η)))) (fun t => sn - t.1) ⟨0, by omega⟩ ⟨rfl, rfl, rfl, trivial⟩ (fun _ h => h.cnt (fun p => by simp only [fillH_zero, List.countP_append]; omega)) ?_
  rintro ⟨k, hk⟩
  dsimp only
  refine Qe (Qe (Qg ?_))
  refine Qa rfl rfl (Qc rfl rfl rfl) ?_
  refine Qa rfl rfl (Qc rfl rfl rfl) ?_
  refine Qa rfl rfl (Qc rfl rfl rfl) ?_
  refine Qa rfl rfl (Qq (i) rfl rfl Tryz.underlying43 KF.sz_188 rfl rfl (rfl) (fun _ => hin)) ?_
  refine Qa rfl rfl (Qh rfl rfl KF.fld_188_0 rfl) ?_
  refine Qa rfl rfl (Qw (i * 51) rfl rfl Tryz.underlying32 rfl (hrA.mono fun _ h => h.cnt fun p => by simp only [List.countP_append]; omega) rfl (fun _ => hat1)) ?_
  refine Qa rfl rfl (Za rfl rfl Tryz.underlying32 rfl) ?_
  refine Qa rfl rfl (QT_lss rfl rfl rfl rfl) ?_
  refine Qf (Qb ?_)
  refine Qm rfl (fun h17 => ?_) (fun h17 => ?_)
  ·
   refine Qt (Qb (Qe (Qr ?_)))
   have hkn : k < sn := by omega
   have hszm : Sz Tryz.prog 102 smk.length := by rw [hmls]; exact KF.sz_102
   have hkz : (k + 1) * 49 ≤ sn * 49 := Nat.mul_le_mul_right _ (by omega)
   obtain ⟨b, cap, rest, hv, hcap, hlen, rfl⟩ : ∃ b cap rest, Value.slice sad sn scap = .slice (some ⟨b, 0, none⟩) sn cap ∧ (sn ≤ cap ∧ cap ≤ 9223372036854775807) ∧ cap * 49 ≤ (sxs ++ rest).length ∧ sH = [(b, 102, sxs ++ rest)] := by
    rcases hfr with ⟨_, h0, _⟩ | h
    · omega
    · exact h
   simp only [Value.slice.injEq, true_and] at hv
   obtain ⟨rfl, rfl⟩ := hv
   have hcz : sn * 49 ≤ scap * 49 := Nat.mul_le_mul_right _ (by omega)
   refine TC_draw [(0, 0), (1, 0), (2, 0), (3, 0), (4, 0), (5, 0), (6, 0), (7, 0), (8, 0), (9, 0), (10, 0), (11, 0), (12, 1)] KF.mixed (by kernel_rfl) (St.calm _ _) ?_
   refine Qk rfl rfl rfl (fun _ => Qc rfl rfl rfl) ?_
   refine Qk rfl rfl rfl (fun _ => Qc rfl rfl rfl) ?_
   refine Qk rfl rfl rfl (fun _ => Qq (i) rfl rfl Tryz.underlying43 KF.sz_188 rfl rfl (rfl) (fun _ => hin)) ?_
   refine Qk rfl rfl rfl (fun _ => Qh rfl rfl KF.fld_188_0 rfl) ?_
   refine Qz rfl rfl rfl (Qw (i * 51) rfl rfl Tryz.underlying32 rfl (hrA.mono fun _ h => h.cnt fun p => by simp only [List.countP_append]; omega) rfl (fun _ => hat1)) ?_
   refine Qk rfl rfl rfl (fun _ => Qc rfl rfl rfl) ?_
   refine Qk rfl rfl rfl (fun _ => Qc rfl rfl rfl) ?_
   refine Qk rfl rfl rfl (fun _ => Qc rfl rfl rfl) ?_
   refine Qk rfl rfl rfl (fun _ => Qq (i) rfl rfl Tryz.underlying43 KF.sz_188 rfl rfl (rfl) (fun _ => hin)) ?_
   refine Qk rfl rfl rfl (fun _ => Qh rfl rfl KF.fld_188_2 rfl) ?_
   refine Qz rfl rfl rfl (Qy (i * 51 + 2) rfl rfl Tryz.underlying102 rfl KF.sz_102 (hrA.mono fun _ h => h.cnt fun p => by simp only [List.countP_append]; omega) rfl (fun _ => hat4) (fun _ => hat3)) ?_
   refine Qk rfl rfl rfl (fun _ => Qq (k) rfl rfl Tryz.underlying32 KF.sz_102 rfl rfl (rfl) (fun _ => hkn)) ?_
   refine TV_e0 rfl rfl rfl (rfl) (ET_store (vs := smk) 0 rfl rfl rfl rfl hszm rfl (by rw [List.all_eq_true]; exact hmk.oneCell) (Nat.ble_eq_true_of_le (by simp only [List.length_append, List.length_drop, marks_len hmls]; omega))) ?_
   rintro _ _ ⟨rfl, rfl⟩
   refine ⟨_, .drop (by kernel_rfl) (.drop (by kernel_rfl) (.nil)), ?_⟩
   refine TV_end ?_
   refine Qo ?_
   refine Qb ?_
   skip
   refine Qg ?_
   refine Qa rfl rfl (Qc rfl rfl rfl) ?_
   refine Qa rfl rfl (Zb rfl rfl rfl rfl (fun _ => ⟨by omega, by omega⟩)) ?_
   refine Qa rfl rfl (Qd rfl rfl rfl) ?_
   refine Qf ?_
   refine TX_round ⟨k + 1, by omega⟩ (by dsimp only; omega) ⟨rfl, rfl, slotI rfl (by dsimp only; omega), trivial⟩ (fun w h => ?_)
   simp only [fillH, List.map_cons, List.map_nil, List.singleton_append, List.cons_append, List.nil_append, upd, Nat.zero_add] at h ⊢
   rw [fill_step hmls (by omega)] at h
   exact h
  ·
   refine Zd ?_
   refine Qi (Qi ?_)
   refine Qp ?_
   refine Qo ?_
   refine Qb (Qg ?_)
   refine Qa rfl rfl (Qc rfl rfl rfl) ?_
   refine Qa rfl rfl (Zb rfl rfl rfl rfl (fun _ => ⟨by omega, by omega⟩)) ?_
   refine Qa rfl rfl (Qd rfl rfl rfl) ?_
   refine Qf ?_
   refine TX_round ⟨i + 1, by omega⟩ (by dsimp only; omega) ⟨rfl, slotI rfl (by dsimp only; omega), trivial⟩ (fun w h => h.cnt fun p => ?_)
   obtain rfl : k = sn := by omega
   rw [htake, heapOf_append, heapOf_cons, heapOf_nil]
   simp only [fillS, List.countP_append, List.countP_nil]; omega
 ·
  refine Zd ?_
  refine Qi (Qi ?_)
  refine Qp ?_
  refine Qs (.inr rfl) (res0 rfl) ⟨_, rfl, fun w h => ?_⟩
  obtain rfl : i = ss.length := by omega
  simpa [heapOf] using h
theorem marked_Sheet (w0 : Base) (η : Heap) (va : Value) (ss : List Strip) (hs : ∀ s ∈ ss, s.grown (St w0 η) 49 sheetK) (ha : SlA (St w0 η) va 51 ss.length (arrOf ss)) :
    CallsT Tryz.prog 68 [va] (St w0 η) fun v A' => v = .bool true ∧ A' = St w0 η := by
  have hml : ∀ s ∈ ss, s.mark.length = 49 := fun s h => (hs s h).mints.length
  obtain ⟨hal, ada, ca, rfl, ⟨hca, hca2⟩, hra⟩ := ha
  refine CallsT.body Tryz.func68 rfl rfl ?_
  simp only [Tryz.ntmps68, slotsOf, Nat.reduceAdd]
  refine Qe (Qg ?_)
  refine Qa rfl rfl (Qd rfl rfl rfl) ?_
  refine Qf (Qb (Qe (Qe (Qg ?_))))
  refine Qa rfl rfl (Qd rfl rfl rfl) ?_
  refine Qf (Qb (Qr ?_))
  refine TC_loop (γ := {i : Nat // i ≤ ss.length}) (fun t => [(0, true, .slice ada ss.length ca), (3, true, .int .i64 (t.1 : Int))]) (fun t => St w0 η) (fun t => ss.length - t.1) ⟨0, by omega⟩ ⟨rfl, rfl, trivial⟩ (fun _ h => h) ?_
  rintro ⟨i, hi⟩
  dsimp only
  refine Qe (Qe (Qg ?_))
  refine Qa rfl rfl (Qc rfl rfl rfl) ?_
  refine Qa rfl rfl (Qc rfl rfl rfl) ?_
  refine Qa rfl rfl (Za rfl rfl Tryz.underlying43 rfl) ?_
  refine Qa rfl rfl (QT_lss rfl rfl rfl rfl) ?_
  refine Qf (Qb ?_)
  refine Qm rfl (fun h8 => ?_) (fun h8 => ?_)
  ·
    refine Qt (Qb (Qe (Qr (Qe ?_))))
    have hin : i < ss.length := by omega
    obtain ⟨ba, oa, rfl, hrA⟩ := hra.resolve_left (by omega)
    obtain ⟨s, hsi⟩ : ∃ s, ss[i]? = some s := ⟨_, List.getElem?_eq_getElem hin⟩
    obtain ⟨hat1, hat2, hat3, hat4⟩ := arrOf_at hml hsi
    have hok := hs s (List.mem_of_getElem? hsi)
    have hmls := hml s (List.mem_of_getElem? hsi)
    obtain ⟨sv, sn, sxs, slong, smk, sH⟩ := s
    obtain ⟨hl, hlong, hmk, hfew⟩ := hok
    dsimp only at hl hlong hmk hfew hmls hat1 hat2 hat3 hat4
    obtain ⟨hll, lad, lcap, lb, loff, rfl, hlc, hlad, hlr⟩ := hl.some
    obtain ⟨hgl, gad, gcap, gb, goff, rfl, hgc, hgad, hgr⟩ := hlong.some
    obtain rfl := hgad (by omega)
    have hself : eqC smk smk = true := eqC_refl hmk
    refine Qg ?_
    refine Qa rfl rfl (Qd rfl rfl rfl) ?_
    refine Qf (Qb (Qr ?_))
    refine TC_loop (γ := {k : Nat // k ≤ sn + 24}) (fun t => [(0, true, .slice (some ⟨ba, oa, none⟩) ss.length ca), (3, true, .int .i64 (i : Int)), (4, true, .int .i64 (t.1 : Int))]) (fun t => St w0 η) (fun t => sn + 24 - t.1) ⟨0, by omega⟩ ⟨rfl, rfl, rfl, trivial⟩ (fun _ h => h) ?_
    rintro ⟨k, hk⟩
    dsimp only
    refine Qe (Qe (Qg ?_))
    refine Qa rfl rfl (Qc rfl rfl rfl) ?_
    refine Qa rfl rfl (Qc rfl rfl rfl) ?_
    refine Qa rfl rfl (Qc rfl rfl rfl) ?_
    refine Qa rfl rfl (Qq (i) rfl rfl Tryz.underlying43 KF.sz_188 rfl rfl (rfl) (fun _ => hin)) ?_
    refine Qa rfl rfl (Qh rfl rfl KF.fld_188_1 rfl) ?_
    refine Qa rfl rfl (Qw (i * 51 + 1) rfl rfl Tryz.underlying32 rfl hrA rfl (fun _ => hat2)) ?_
    refine Qa rfl rfl (Za rfl rfl Tryz.underlying32 rfl) ?_
    refine Qa rfl rfl (QT_lss rfl rfl rfl rfl) ?_
    refine Qf (Qb ?_)
    refine Qm rfl (fun h18 => ?_) (fun h18 => ?_)
    ·
      refine Qt (Qb (Qe (Qr (Qe ?_))))
      have hkn : k < sn + 24 := by omega
      have hz1 : k * 49 + 49 ≤ (marks (sn + 24) smk).length := by
        rw [marks_len hmls]
        have : (k + 1) * 49 ≤ (sn + 24) * 49 := Nat.mul_le_mul_right _ (by omega)
        rw [Nat.add_mul] at this; omega
      have hz2 : (true && !decide ((k : Int) < (sn : Int))) = true ∨ k * 49 + 49 ≤ (marks sn smk).length := by
        by_cases h : k < sn
        · refine .inr ?_
          rw [marks_len hmls]
          have : (k + 1) * 49 ≤ sn * 49 := Nat.mul_le_mul_right _ (by omega)
          rw [Nat.add_mul] at this; omega
        · refine .inl ?_
          simpa using h
      refine TC_draw [(0, 0), (1, 0), (2, 0), (3, 0), (4, 0), (5, 0), (6, 0), (7, 0), (8, 0), (9, 0), (10, 0), (11, 0), (12, 0), (13, 0), (14, 0), (15, 0), (16, 0), (17, 0), (18, 0), (19, 0), (20, 0), (21, 0), (22, 0), (23, 0), (24, 0), (25, 0), (26, 0), (27, 0), (28, 0), (29, 0), (30, 0), (31, 0), (32, 0), (33, 0), (34, 0), (35, 0), (36, 0), (37, 0), (38, 0), (39, 0)] KF.mixed (by kernel_rfl) (St.calm _ _) ?_
      refine Qk rfl rfl rfl (fun _ => Qc rfl rfl rfl) ?_
      refine Qk rfl rfl rfl (fun _ => Qc rfl rfl rfl) ?_
      refine Qk rfl rfl rfl (fun _ => Qq (i) rfl rfl Tryz.underlying43 KF.sz_188 rfl rfl (rfl) (fun _ => hin)) ?_
      refine Qk rfl rfl rfl (fun _ => Qh rfl rfl KF.fld_188_1 rfl) ?_
      refine Qz rfl rfl rfl (Qw (i * 51 + 1) rfl rfl Tryz.underlying32 rfl hrA rfl (fun _ => hat2)) ?_
      refine Qk rfl rfl rfl (fun _ => Qc rfl rfl rfl) ?_
      refine Qk rfl rfl rfl (fun _ => Qq (k) rfl rfl Tryz.underlying32 KF.sz_102 rfl rfl (rfl) (fun _ => hkn)) ?_
      refine Qz rfl rfl rfl (Qy (k * 49) rfl rfl Tryz.underlying102 rfl KF.sz_102 hgr rfl (fun _ => hz1) (fun _ => elem_marks hmls hkn)) ?_
      refine Qk rfl rfl rfl (fun _ => Qc rfl rfl rfl) ?_
      refine Qk rfl rfl rfl (fun _ => Qc rfl rfl rfl) ?_
      refine Qk rfl rfl rfl (fun _ => Qq (i) rfl rfl Tryz.underlying43 KF.sz_188 rfl rfl (rfl) (fun _ => hin)) ?_
      refine Qk rfl rfl rfl (fun _ => Qh rfl rfl KF.fld_188_2 rfl) ?_
      refine Qz rfl rfl rfl (Qy (i * 51 + 2) rfl rfl Tryz.underlying102 rfl KF.sz_102 hrA rfl (fun _ => hat4) (fun _ => hat3)) ?_
      refine Qk rfl rfl rfl (fun _ => QT_neA rfl rfl eq_Sheet rfl rfl (fun _ => hmk) (fun _ => hmk)) ?_
      refine Qk rfl rfl rfl (fun _ => Qc rfl rfl rfl) ?_
      refine Qk rfl rfl rfl (fun _ => Qc rfl rfl rfl) ?_
      refine Qk rfl rfl rfl (fun _ => Qc rfl rfl rfl) ?_
      refine Qk rfl rfl rfl (fun _ => Qc rfl rfl rfl) ?_
      refine Qk rfl rfl rfl (fun _ => Qq (i) rfl rfl Tryz.underlying43 KF.sz_188 rfl rfl (rfl) (fun _ => hin)) ?_
      refine Qk rfl rfl rfl (fun _ => Qh rfl rfl KF.fld_188_0 rfl) ?_
      refine Qz rfl rfl rfl (Qw (i * 51) rfl rfl Tryz.underlying32 rfl hrA rfl (fun _ => hat1)) ?_
      refine Qk rfl rfl rfl (fun _ => Za rfl rfl Tryz.underlying32 rfl) ?_
      refine Qk rfl rfl rfl (fun _ => QT_lss rfl rfl rfl rfl) ?_
      refine Qk rfl rfl rfl (fun _ => Qc rfl rfl rfl) ?_
      refine Qk rfl rfl rfl (fun _ => Qc rfl rfl rfl) ?_
      refine Qk rfl rfl rfl (fun _ => Qc rfl rfl rfl) ?_
      refine Qk rfl rfl rfl (fun _ => Qq (i) rfl rfl Tryz.underlying43 KF.sz_188 rfl rfl (rfl) (fun _ => hin)) ?_
      refine Qk rfl rfl rfl (fun _ => Qh rfl rfl KF.fld_188_0 rfl) ?_
      refine Qz rfl rfl rfl (Qw (i * 51) rfl rfl Tryz.underlying32 rfl hrA rfl (fun _ => hat1)) ?_
      refine Qk rfl rfl rfl (fun _ => Qc rfl rfl rfl) ?_
      refine Qk rfl rfl rfl (fun _ => QT_indexG k rfl rfl Tryz.underlying32 KF.sz_102 rfl rfl rfl (fun h => by simp at h; omega) (fun h => hlad (by simp at h; omega))) ?_
      refine Qz rfl rfl rfl (Qy (k * 49) rfl rfl Tryz.underlying102 rfl KF.sz_102 hlr rfl (fun h => by simp at h hz2; omega) (fun h => elem_marks hmls (by simp at h; omega))) ?_
      refine Qk rfl rfl rfl (fun _ => Qc rfl rfl rfl) ?_
      refine Qk rfl rfl rfl (fun _ => Qc rfl rfl rfl) ?_
      refine Qk rfl rfl rfl (fun _ => Qq (i) rfl rfl Tryz.underlying43 KF.sz_188 rfl rfl (rfl) (fun _ => hin)) ?_
      refine Qk rfl rfl rfl (fun _ => Qh rfl rfl KF.fld_188_2 rfl) ?_
      refine Qz rfl rfl rfl (Qy (i * 51 + 2) rfl rfl Tryz.underlying102 rfl KF.sz_102 hrA rfl (fun _ => hat4) (fun _ => hat3)) ?_
      refine Qk rfl rfl rfl (fun _ => QT_neA rfl rfl eq_Sheet rfl rfl (fun _ => hmk) (fun _ => hmk)) ?_
      refine Qk rfl rfl rfl (fun _ => QT_and rfl rfl rfl rfl) ?_
      refine Qk rfl rfl rfl (fun _ => QT_or rfl rfl rfl rfl) ?_
      refine TV_end (Qb ?_)
      refine TC_cond rfl (fun h => absurd (h.symm.trans ((show (_ : Bool) = false by rw [hself]; simp))) (by decide)) (fun _ => ?_)
      refine Qt ?_
      refine Qo ?_
      refine Qb (Qg ?_)
      refine Qa rfl rfl (Qc rfl rfl rfl) ?_
      refine Qa rfl rfl (Zb rfl rfl rfl rfl (fun _ => ⟨by omega, by omega⟩)) ?_
      refine Qa rfl rfl (Qd rfl rfl rfl) ?_
      refine Qf ?_
      exact TX_round ⟨k + 1, by omega⟩ (by dsimp only; omega) ⟨rfl, rfl, slotI rfl (by dsimp only; omega), trivial⟩ (fun w h => h)
    ·
      refine Zd ?_
      refine Qi (Qi ?_)
      refine Qp ?_
      refine Qo ?_
      refine Qb (Qg ?_)
      refine Qa rfl rfl (Qc rfl rfl rfl) ?_
      refine Qa rfl rfl (Zb rfl rfl rfl rfl (fun _ => ⟨by omega, by omega⟩)) ?_
      refine Qa rfl rfl (Qd rfl rfl rfl) ?_
      refine Qf ?_
      exact TX_round ⟨i + 1, by omega⟩ (by dsimp only; omega) ⟨rfl, slotI rfl (by dsimp only; omega), trivial⟩ (fun w h => h)
  ·
    refine Zd ?_
    refine Qi (Qi ?_)
    refine Qp ?_
    refine Qb (Qe (Qg ?_))
    refine Qa rfl rfl (Qd rfl rfl rfl) ?_
    refine Qf (Qb ?_)
    refine Qu ?_
    exact Qs (.inl rfl) (res1 rfl rfl) ⟨_, ⟨rfl, rfl⟩, (fun _ h => by first | exact h | exact h.tail | exact h.tail.tail | exact h.tail.tail.tail | exact h.tail.tail.tail.tail | exact h.tail.tail.tail.tail.tail | exact h.tail.tail.tail.tail.tail.tail | exact h.tail.tail.tail.tail.tail.tail.tail | exact h.tail.tail.tail.tail.tail.tail.tail.tail | exact h.tail.tail.tail.tail.tail.tail.tail.tail.tail | exact h.tail.tail.tail.tail.tail.tail.tail.tail.tail.tail | exact h.tail.tail.tail.tail.tail.tail.tail.tail.tail.tail.tail | exact h.tail.tail.tail.tail.tail.tail.tail.tail.tail.tail.tail.tail | exact h.tail.tail.tail.tail.tail.tail.tail.tail.tail.tail.tail.tail.tail)⟩
theorem grow_Sheet (w0 : Base) (η H : Heap) (va : Value) (ss : List Strip) (hs : ∀ s ∈ ss, s.ok 102 49 sheetK ∧ s.xs = marks s.n s.mark) (ha : Frag 188 51 va ss.length (arrOf ss) H) :
    CallsT Tryz.prog 55 [va] (St w0 (H ++ (heapOf ss ++ η))) fun _ A' => ∃ ss' H', ss'.length = ss.length ∧ (∀ s ∈ ss', s.grown (St w0 (heapOf ss')) 49 sheetK) ∧ Frag 188 51 va ss'.length (arrOf ss') H' ∧ A' = St w0 (H' ++ (heapOf ss' ++ η)) := by
  have hml : ∀ s ∈ ss, s.mark.length = 49 := fun s h => (hs s h).1.mints.length
  have hF := ha
  obtain ⟨ada, ca, rfl, ⟨hca, hca2⟩, hblk⟩ := ha.slice
  have hal := ha.1
  refine CallsT.body Tryz.func55 rfl rfl ?_
  simp only [Tryz.ntmps55, slotsOf, Nat.reduceAdd]
  refine Qe (Qg ?_)
  refine Qa rfl rfl (Qd rfl rfl rfl) ?_
  refine Qf (Qb (Qr ?_))
  refine TC_loop (γ := {d : List Strip // d.length ≤ ss.length ∧ ∀ s ∈ d, s.grown (St w0 s.H) 49 sheetK}) (fun t => [(0, true, .slice ada ss.length ca), (2, true, .int .i64 (t.1.length : Int))]) (fun t => St w0 (reH (arrOf ss).length (arrOf (t.1 ++ ss.drop t.1.length)) H ++ (heapOf t.1 ++ (heapOf (ss.drop t.1.length) ++ η)))) (fun t => ss.length - t.1.length) ⟨[], by simp, by simp⟩ ⟨rfl, rfl, trivial⟩ (fun _ h => by simpa [heapOf_nil, hF.re_self] using h) ?_
  rintro ⟨d, hi, hd⟩
  dsimp only
  refine Qe (Qe (Qg ?_))
  refine Qa rfl rfl (Qc rfl rfl rfl) ?_
  refine Qa rfl rfl (Qc rfl rfl rfl) ?_
  refine Qa rfl rfl (Za rfl rfl Tryz.underlying43 rfl) ?_
  refine Qa rfl rfl (QT_lss rfl rfl rfl rfl) ?_
  refine Qf (Qb ?_)
  refine Qm rfl (fun h7 => ?_) (fun h7 => ?_)
  ·
    refine Qt (Qb (Qe (Qr (Qe ?_))))
    have hin : d.length < ss.length := by omega
    have hmd : ∀ s ∈ d, s.mark.length = 49 := fun s h => (hd s h).mints.length
    obtain ⟨ba, rest, rfl, rfl⟩ := hblk (by omega)
    obtain ⟨s, hsi⟩ : ∃ s, ss[d.length]? = some s := ⟨_, List.getElem?_eq_getElem hin⟩
    have hdrop : ss.drop d.length = s :: ss.drop (d.length + 1) := by
      rw [List.drop_eq_getElem_cons hin]
      congr 1
      exact (List.getElem?_eq_some_iff.1 hsi).2
    obtain ⟨hok, hxs⟩ := hs s (List.mem_of_getElem? hsi)
    have hmls := hml s (List.mem_of_getElem? hsi)
    have hmt : ∀ s ∈ ss.drop (d.length + 1), s.mark.length = 49 := fun s h => hml s (List.mem_of_mem_drop h)
    have hI := LongInv.start (w0 := w0) hok hxs
    have hmi := hok.mints
    have hfew := hok.few
    obtain ⟨sad, scap, hsv, hscap, hsb⟩ := hok.frag.slice
    obtain ⟨sv, sn, sxs, slong, smk, sH⟩ := s
    dsimp only at hI hmi hfew hmls hsv hscap hsb
    subst hsv
    have hall : ∀ lv : Value, ∀ s' ∈ (d ++ (⟨.slice sad sn scap, sn, sxs, lv, smk, sH⟩ : Strip) :: ss.drop (d.length + 1)), s'.mark.length = 49 := fun lv s' h => by
      rcases List.mem_append.1 h with h | h
      · exact hmd s' h
      · rcases List.mem_cons.1 h with rfl | h
        · exact hmls
        · exact hmt s' h
    have hlens : ∀ lv : Value, (arrOf (d ++ (⟨.slice sad sn scap, sn, sxs, lv, smk, sH⟩ : Strip) :: ss.drop (d.length + 1))).length = ss.length * 51 := fun lv => by
      rw [arrOf_len (hall lv), List.length_append, List.length_cons, List.length_drop]
      congr 1; omega
    have hat : ∀ lv : Value, (arrOf (d ++ (⟨.slice sad sn scap, sn, sxs, lv, smk, sH⟩ : Strip) :: ss.drop (d.length + 1)))[d.length * (49 + 2)]? = some (.slice sad sn scap) ∧ (arrOf (d ++ (⟨.slice sad sn scap, sn, sxs, lv, smk, sH⟩ : Strip) :: ss.drop (d.length + 1)))[d.length * (49 + 2) + 1]? = some lv ∧ ((arrOf (d ++ (⟨.slice sad sn scap, sn, sxs, lv, smk, sH⟩ : Strip) :: ss.drop (d.length + 1))).drop (d.length * (49 + 2) + 2)).take 49 = smk ∧ d.length * (49 + 2) + 2 + 49 ≤ (arrOf (d ++ (⟨.slice sad sn scap, sn, sxs, lv, smk, sH⟩ : Strip) :: ss.drop (d.length + 1))).length := fun lv => arrOf_at (hall lv) (i := d.length) (s := ⟨_, sn, sxs, lv, smk, sH⟩) (by simp)
    have hset : ∀ lv r : Value, setAt (arrOf (d ++ (⟨.slice sad sn scap, sn, sxs, lv, smk, sH⟩ : Strip) :: ss.drop (d.length + 1)) ++ rest) (d.length * (49 + 2) + 1) [r] = arrOf (d ++ (⟨.slice sad sn scap, sn, sxs, r, smk, sH⟩ : Strip) :: ss.drop (d.length + 1)) ++ rest := fun lv r => arrOf_set hmd rest
    have hin2 : (d.length + 1) * 51 ≤ ss.length * 51 := Nat.mul_le_mul_right _ (by omega)
    rw [hdrop]
    refine TC_A (St w0 ((ba, 188, arrOf (d ++ (⟨.slice sad sn scap, sn, sxs, slong, smk, sH⟩ : Strip) :: ss.drop (d.length + 1)) ++ rest) :: (sH ++ ([] ++ (heapOf d ++ (heapOf (ss.drop (d.length + 1)) ++ η)))))) (fun w h => by
      simp only [reH, List.map_cons, List.map_nil, List.drop_left, heapOf_cons] at h
      exact h.cnt fun p => by simp only [List.countP_append, List.countP_cons, List.countP_nil]; omega) ?_
    have hrA : ∀ (X : Heap) (lv : Value), Rd (St w0 ((ba, 188, arrOf (d ++ (⟨.slice sad sn scap, sn, sxs, lv, smk, sH⟩ : Strip) :: ss.drop (d.length + 1)) ++ rest) :: X)) ba 0 (arrOf (d ++ (⟨.slice sad sn scap, sn, sxs, lv, smk, sH⟩ : Strip) :: ss.drop (d.length + 1))) := fun X lv => Rd.ownA (List.mem_cons_self ..) 0 (by simp)
    refine Qg ?_
    refine Qa rfl rfl (Qc rfl rfl rfl) ?_
    refine Qa rfl rfl (Qc rfl rfl rfl) ?_
    refine Qa rfl rfl (Qc rfl rfl rfl) ?_
    refine Qa rfl rfl (Qc rfl rfl rfl) ?_
    refine Qa rfl rfl (Qq (d.length) rfl rfl Tryz.underlying43 KF.sz_188 rfl rfl (rfl) (fun _ => hin)) ?_
    refine Qa rfl rfl (Qh rfl rfl KF.fld_188_0 rfl) ?_
    refine Qa rfl rfl (Qw (d.length * 51) rfl rfl Tryz.underlying32 rfl (hrA _ slong) rfl (fun _ => (hat slong).1)) ?_
    refine Qa rfl rfl (Qq (d.length) rfl rfl Tryz.underlying43 KF.sz_188 rfl rfl (rfl) (fun _ => hin)) ?_
    refine Qa rfl rfl (Qh rfl rfl KF.fld_188_1 rfl) ?_
    refine TL_e0 rfl rfl (rfl) (ET_store (vs := [.slice sad sn scap]) 0 rfl rfl rfl rfl KF.sz_32 rfl rfl (Nat.ble_eq_true_of_le (by have := hlens slong; simp only [List.length_append, List.length_cons, List.length_nil]; omega))) ?_
    rintro _ _ ⟨rfl, rfl⟩
    refine Qf (Qb (Qe ?_))
    refine TC_A (St w0 ((ba, 188, arrOf (d ++ (⟨.slice sad sn scap, sn, sxs, (.slice sad sn scap), smk, sH⟩ : Strip) :: ss.drop (d.length + 1)) ++ rest) :: (sH ++ ([] ++ (heapOf d ++ (heapOf (ss.drop (d.length + 1)) ++ η)))))) (fun w h => by
      simp only [upd, Nat.zero_add] at h
      rw [hset slong] at h
      exact h) ?_
    refine Qg ?_
    refine Qa rfl rfl (Qd rfl rfl rfl) ?_
    refine Qf (Qb (Qr ?_))
    refine TC_loop (γ := {t : Nat × Value × Heap × Heap // t.1 ≤ 24 ∧ LongInv w0 102 49 (.slice sad sn scap) sn smk t.2.1 (sn + t.1) t.2.2.1 t.2.2.2}) (fun t => [(0, true, .slice (some ⟨ba, 0, none⟩) ss.length ca), (2, true, .int .i64 (d.length : Int)), (3, true, .int .i64 (t.1.1 : Int))]) (fun t => St w0 ((ba, 188, arrOf (d ++ (⟨.slice sad sn scap, sn, sxs, t.1.2.1, smk, sH⟩ : Strip) :: ss.drop (d.length + 1)) ++ rest) :: (t.1.2.2.1 ++ (t.1.2.2.2 ++ (heapOf d ++ (heapOf (ss.drop (d.length + 1)) ++ η)))))) (fun t => 24 - t.1.1) ⟨(0, .slice sad sn scap, sH, []), by dsimp only; omega, hI⟩ ⟨rfl, rfl, rfl, trivial⟩ (fun _ h => h) ?_
    rintro ⟨⟨k, lv, HL, KK⟩, hk, hL⟩
    dsimp only at hk hL ⊢
    refine Qe (Qe (Qg ?_))
    refine Qa rfl rfl (Qc rfl rfl rfl) ?_
    refine Qa rfl rfl (QT_lss rfl rfl rfl rfl) ?_
    refine Qf (Qb ?_)
    refine Qm rfl (fun h20 => ?_) (fun h20 => ?_)
    ·
      refine Qt (Qb (Qe (Qr ?_)))
      have hk24 : k < 24 := by omega
      refine TC_draw [(0, 0), (1, 0), (2, 0), (3, 0), (4, 0), (5, 0), (6, 0), (7, 0), (8, 0), (9, 0), (10, 0), (11, 0), (12, 1), (13, 1), (14, 0), (15, 0), (16, 1)] KF.mixed (by kernel_rfl) (St.calm _ _) ?_
      refine Qk rfl rfl rfl (fun _ => Qc rfl rfl rfl) ?_
      refine Qk rfl rfl rfl (fun _ => Qc rfl rfl rfl) ?_
      refine Qk rfl rfl rfl (fun _ => Qc rfl rfl rfl) ?_
      refine Qk rfl rfl rfl (fun _ => Qc rfl rfl rfl) ?_
      refine Qk rfl rfl rfl (fun _ => Qq (d.length) rfl rfl Tryz.underlying43 KF.sz_188 rfl rfl (rfl) (fun _ => hin)) ?_
      refine Qk rfl rfl rfl (fun _ => Qh rfl rfl KF.fld_188_1 rfl) ?_
      refine Qz rfl rfl rfl (Qw (d.length * 51 + 1) rfl rfl Tryz.underlying32 rfl ((hrA [] lv).mono fun _ h => h.cnt fun p => by simp only [List.countP_append, List.countP_cons, List.countP_nil]; omega) rfl (fun _ => (hat lv).2.1)) ?_
      refine Qk rfl rfl rfl (fun _ => Qc rfl rfl rfl) ?_
      refine Qk rfl rfl rfl (fun _ => Qc rfl rfl rfl) ?_
      refine Qk rfl rfl rfl (fun _ => Qq (d.length) rfl rfl Tryz.underlying43 KF.sz_188 rfl rfl (rfl) (fun _ => hin)) ?_
      refine Qk rfl rfl rfl (fun _ => Qh rfl rfl KF.fld_188_2 rfl) ?_
      refine Qz rfl rfl rfl (Qy (d.length * 51 + 2) rfl rfl Tryz.underlying102 rfl KF.sz_102 ((hrA [] lv).mono fun _ h => h.cnt fun p => by simp only [List.countP_append, List.countP_cons, List.countP_nil]; omega) rfl (fun _ => (hat lv).2.2.2) (fun _ => (hat lv).2.2.1)) ?_
      refine TV_e rfl rfl rfl rfl (rfl) (ET_buildN [_] rfl Tryz.underlying32 KF.sz_102 KF.zero_102 rfl rfl rfl (by simp [Value.cells, hmls])) ?_
      rintro _ _ ⟨b35, rfl, rfl⟩
      refine ⟨_, .drop (by kernel_rfl) (.keep (by kernel_rfl) rfl (by first | exact Qw (d.length * 51 + 1) rfl rfl Tryz.underlying32 rfl ((hrA [] lv).mono fun _ h => h.cnt fun p => by simp only [List.countP_append, List.countP_cons, List.countP_nil]; omega) rfl (fun _ => (hat lv).2.1)) (.nil)), ?_⟩
      refine TV_e rfl rfl rfl rfl (rfl) (ET_long (L := [_, _]) rfl Tryz.underlying32 el_Sheet rfl rfl hL hmls (fun _ h => h) (SlA.own (n := 1) (xs := smk) 0 rfl (by rw [List.drop_zero, List.take_of_length_le (by simp [Value.cells, hmls])]; simp [Value.cells]) (by simp [Value.cells, hmls]) (by omega)) hmi.oneCell (few_b hfew hk24 (by decide)) (few_l hfew hk24)) ?_
      rintro lv2 _ ⟨H', K', hL', rfl⟩
      refine ⟨_, .drop (by kernel_rfl) (.nil), ?_⟩
      obtain ⟨ad2, cap2, rfl, _⟩ := hL'.frag.slice
      refine Qk rfl rfl rfl (fun _ => Qq (d.length) rfl rfl Tryz.underlying43 KF.sz_188 rfl rfl (rfl) (fun _ => hin)) ?_
      refine Qk rfl rfl rfl (fun _ => Qh rfl rfl KF.fld_188_1 rfl) ?_
      refine TV_e0 rfl rfl rfl (rfl) (ET_store (vs := [.slice ad2 (sn + k + 1) cap2]) 1 rfl rfl rfl rfl KF.sz_32 rfl rfl (Nat.ble_eq_true_of_le (by have := hlens lv; simp only [List.length_append, List.length_cons, List.length_nil]; omega))) ?_
      rintro _ _ ⟨rfl, rfl⟩
      refine ⟨_, .nil, ?_⟩
      refine TV_end ?_
      refine Qo ?_
      refine Qb (Qg ?_)
      refine Qa rfl rfl (Qc rfl rfl rfl) ?_
      refine Qa rfl rfl (Zb rfl rfl rfl rfl (fun _ => ⟨by omega, by omega⟩)) ?_
      refine Qa rfl rfl (Qd rfl rfl rfl) ?_
      refine Qf ?_
      refine TX_round ⟨(k + 1, .slice ad2 (sn + k + 1) cap2, H', K'), by dsimp only; omega, hL'⟩ (by dsimp only; omega) ⟨rfl, rfl, slotI rfl (by dsimp only; omega), trivial⟩ (fun w h => ?_)
      simp only [upd, Nat.zero_add] at h
      rw [hset lv] at h
      exact h.tail
    ·
      refine Zd ?_
      refine Qi (Qi ?_)
      refine Qp ?_
      refine Qo ?_
      refine Qb (Qg ?_)
      refine Qa rfl rfl (Qc rfl rfl rfl) ?_
      refine Qa rfl rfl (Zb rfl rfl rfl rfl (fun _ => ⟨by omega, by omega⟩)) ?_
      refine Qa rfl rfl (Qd rfl rfl rfl) ?_
      refine Qf ?_
      obtain rfl : k = 24 := by omega
      have hg := LongInv.grown (s := ⟨.slice sad sn scap, sn, sxs, lv, smk, sH⟩) hL hmi rfl hfew
      refine TX_round ⟨d ++ [⟨.slice sad sn scap, sn, sxs, lv, smk, HL ++ KK⟩], by simp; omega, fun s h => ?_⟩ (by simp only [List.length_append, List.length_cons, List.length_nil]; omega) ⟨rfl, slotI rfl (by simp), trivial⟩ (fun w h => ?_)
      · rcases List.mem_append.1 h with h | h
        · exact hd s h
        · obtain rfl := List.mem_singleton.1 h
          exact hg
      · have e : arrOf ((d ++ [(⟨.slice sad sn scap, sn, sxs, lv, smk, HL ++ KK⟩ : Strip)]) ++ ss.drop (d.length + 1)) = arrOf (d ++ (⟨.slice sad sn scap, sn, sxs, lv, smk, sH⟩ : Strip) :: ss.drop (d.length + 1)) := by
          simp [arrOf, Strip.cells]
        simp only [List.length_append, List.length_cons, List.length_nil, Nat.zero_add, e, heapOf_append, heapOf_cons, heapOf_nil, reH, List.map_cons, List.map_nil, List.drop_left]
        exact h.cnt fun p => by simp only [List.countP_append, List.countP_cons, List.countP_nil]; omega
  ·
    refine Zd ?_
    refine Qi (Qi ?_)
    refine Qp ?_
    refine Qs (.inr rfl) (res0 rfl) ⟨_, ⟨d, reH (arrOf ss).length (arrOf d) H, by omega, fun s h => (hd s h).mono fun _ hw => hw.cnt (heapOf_mem h), ?_, rfl⟩, fun w h => ?_⟩
    · have hdl : d.length = ss.length := by omega
      rw [hdl]
      exact hF.re (by rw [arrOf_len (Z := 49) (fun s h => (hd s h).mints.length), arrOf_len hml, hdl])
    · have hdl : ss.drop d.length = [] := List.drop_eq_nil_of_le (by omega)
      rw [hdl, List.append_nil, heapOf_nil] at h
      simpa using h
theorem fill_Patch (w0 : Base) (η : Heap) (va : Value) (ss : List Strip) (hs : ∀ s ∈ ss, s.ok 112 48 patchK) (ha : SlA (St w0 η) va 50 ss.length (arrOf ss)) :
  CallsT Tryz.prog 43 [va] (St w0 (heapOf ss ++ η)) fun _ A' => A' = St w0 (heapOf (ss.map (fillS 48)) ++ η) := by
 have hml : ∀ s ∈ ss, s.mark.length = 48 := fun s h => (hs s h).mints.length
 obtain ⟨hal, ada, ca, rfl, ⟨hca, hca2⟩, hra⟩ := ha
 refine CallsT.body Tryz.func43 rfl rfl ?_
 simp only [Tryz.ntmps43, slotsOf, Nat.reduceAdd]
 refine Qe (Qg ?_)
 refine Qa rfl rfl (Qd rfl rfl rfl) ?_
 refine Qf (Qb (Qr ?_))
 refine TC_loop (γ := {i : Nat // i ≤ ss.length}) (fun t => [(0, true, .slice ada ss.length ca), (2, true, .int .i64 (t.1 : Int))]) (fun t => St w0 (heapOf ((ss.take t.1).map (fillS 48)) ++ (heapOf (ss.drop t.1) ++ η))) (fun t => ss.length - t.1) ⟨0, by omega⟩ ⟨rfl, rfl, trivial⟩ (fun _ h => by simpa [heapOf] using h) ?_
 rintro ⟨i, hi⟩
 dsimp only
 refine Qe (Qe (Qg ?_))
 refine Qa rfl rfl (Qc rfl rfl rfl) ?_
 refine Qa rfl rfl (Qc rfl rfl rfl) ?_
 refine Qa rfl rfl (Za rfl rfl Tryz.underlying44 rfl) ?_
 refine Qa rfl rfl (QT_lss rfl rfl rfl rfl) ?_
 refine Qf (Qb ?_)
 refine Qm rfl (fun h7 => ?_) (fun h7 => ?_)
 ·
  refine Qt (Qb (Qe (Qr (Qe ?_))))
  have hin : i < ss.length := by omega
  obtain ⟨ba, oa, rfl, hrA⟩ := hra.resolve_left (by omega)
  obtain ⟨s, hsi⟩ : ∃ s, ss[i]? = some s := ⟨_, List.getElem?_eq_getElem hin⟩
  obtain ⟨hat1, hat2, hat3, hat4⟩ := arrOf_at hml hsi
  have hdrop : ss.drop i = s :: ss.drop (i + 1) := by
   rw [List.drop_eq_getElem_cons hin]
   congr 1
   exact (List.getElem?_eq_some_iff.1 hsi).2
  have htake : (ss.take (i + 1)).map (fillS 48) = (ss.take i).map (fillS 48) ++ [fillS 48 s] := by
   rw [List.take_add_one, hsi]; simp
  have hok := hs s (List.mem_of_getElem? hsi)
  have hmls := hml s (List.mem_of_getElem? hsi)
  rw [hdrop, heapOf_cons]
  obtain ⟨sv, sn, sxs, slong, smk, sH⟩ := s
  obtain ⟨⟨hfl, hfr⟩, hmk, hfew⟩ := hok
  dsimp only at hfl hfr hmk hfew hmls hat1 hat2 hat3 hat4
  have hsv : ∃ sad scap, sv = .slice sad sn scap := by
   rcases hfr with ⟨rfl, rfl, _⟩ | ⟨b, cap, rest, rfl, _⟩
   · exact ⟨_, _, rfl⟩
   · exact ⟨_, _, rfl⟩
  obtain ⟨sad, scap, rfl⟩ := hsv
  refine Qg ?_
  refine Qa rfl rfl (Qd rfl rfl rfl) ?_
  refine Qf (Qb (Qr ?_))
  refine TC_loop (γ := {k : Nat // k ≤ sn}) (fun t => [(0, true, .slice (some ⟨ba, oa, none⟩) ss.length ca), (2, true, .int .i64 (i : Int)), (3, true, .int .i64 (t.1 : Int))]) (fun t => St w0 (fillH 48 t.1 smk sH ++ (heapOf ((ss.take i).map (fillS 48)) ++ (heapOf (ss.drop (i + 1)) ++ η)))) (fun t => sn - t.1) ⟨0, by omega⟩ ⟨rfl, rfl, rfl, trivial⟩ (fun _ h => h.cnt (fun p => by simp only [fillH_zero, List.countP_append]; omega)) ?_
  rintro ⟨k, hk⟩
  dsimp only
  refine Qe (Qe (Qg ?_))
  refine Qa rfl rfl (Qc rfl rfl rfl) ?_
  refine Qa rfl rfl (Qc rfl rfl rfl) ?_
  refine Qa rfl rfl (Qc rfl rfl rfl) ?_
  refine Qa rfl rfl (Qq (i) rfl rfl Tryz.underlying44 KF.sz_162 rfl rfl (rfl) (fun _ => hin)) ?_
  refine Qa rfl rfl (Qh rfl rfl KF.fld_162_0 rfl) ?_
  refine Qa rfl rfl (Qw (i * 50) rfl rfl Tryz.underlying62 rfl (hrA.mono fun _ h => h.cnt fun p => by simp only [List.countP_append]; omega) rfl (fun _ => hat1)) ?_
  refine Qa rfl rfl (Za rfl rfl Tryz.underlying62 rfl) ?_
  refine Qa rfl rfl (QT_lss rfl rfl rfl rfl) ?_
  refine Qf (Qb ?_)
  refine Qm rfl (fun h17 => ?_) (fun h17 => ?_)
  ·
   refine Qt (Qb (Qe (Qr ?_)))
   have hkn : k < sn := by omega
   have hszm : Sz Tryz.prog 112 smk.length := by rw [hmls]; exact KF.sz_112
   have hkz : (k + 1) * 48 ≤ sn * 48 := Nat.mul_le_mul_right _ (by omega)
   obtain ⟨b, cap, rest, hv, hcap, hlen, rfl⟩ : ∃ b cap rest, Value.slice sad sn scap = .slice (some ⟨b, 0, none⟩) sn cap ∧ (sn ≤ cap ∧ cap ≤ 9223372036854775807) ∧ cap * 48 ≤ (sxs ++ rest).length ∧ sH = [(b, 112, sxs ++ rest)] := by
    rcases hfr with ⟨_, h0, _⟩ | h
    · omega
    · exact h
   simp only [Value.slice.injEq, true_and] at hv
   obtain ⟨rfl, rfl⟩ := hv
   have hcz : sn * 48 ≤ scap * 48 := Nat.mul_le_mul_right _ (by omega)
   refine TC_draw [(0, 0), (1, 0), (2, 0), (3, 0), (4, 0), (5, 0), (6, 0), (7, 0), (8, 0), (9, 0), (10, 0), (11, 0), (12, 1)] KF.mixed (by kernel_rfl) (St.calm _ _) ?_
   refine Qk rfl rfl rfl (fun _ => Qc rfl rfl rfl) ?_
   refine Qk rfl rfl rfl (fun _ => Qc rfl rfl rfl) ?_
   refine Qk rfl rfl rfl (fun _ => Qq (i) rfl rfl Tryz.underlying44 KF.sz_162 rfl rfl (rfl) (fun _ => hin)) ?_
   refine Qk rfl rfl rfl (fun _ => Qh rfl rfl KF.fld_162_0 rfl) ?_
   refine Qz rfl rfl rfl (Qw (i * 50) rfl rfl Tryz.underlying62 rfl (hrA.mono fun _ h => h.cnt fun p => by simp only [List.countP_append]; omega) rfl (fun _ => hat1)) ?_
   refine Qk rfl rfl rfl (fun _ => Qc rfl rfl rfl) ?_
   refine Qk rfl rfl rfl (fun _ => Qc rfl rfl rfl) ?_
   refine Qk rfl rfl rfl (fun _ => Qc rfl rfl rfl) ?_
   refine Qk rfl rfl rfl (fun _ => Qq (i) rfl rfl Tryz.underlying44 KF.sz_162 rfl rfl (rfl) (fun _ => hin)) ?_
   refine Qk rfl rfl rfl (fun _ => Qh rfl rfl KF.fld_162_2 rfl) ?_
   refine Qz rfl rfl rfl (Qy (i * 50 + 2) rfl rfl Tryz.underlying112 rfl KF.sz_112 (hrA.mono fun _ h => h.cnt fun p => by simp only [List.countP_append]; omega) rfl (fun _ => hat4) (fun _ => hat3)) ?_
   refine Qk rfl rfl rfl (fun _ => Qq (k) rfl rfl Tryz.underlying62 KF.sz_112 rfl rfl (rfl) (fun _ => hkn)) ?_
   refine TV_e0 rfl rfl rfl (rfl) (ET_store (vs := smk) 0 rfl rfl rfl rfl hszm rfl (by rw [List.all_eq_true]; exact hmk.oneCell) (Nat.ble_eq_true_of_le (by simp only [List.length_append, List.length_drop, marks_len hmls]; omega))) ?_
   rintro _ _ ⟨rfl, rfl⟩
   refine ⟨_, .drop (by kernel_rfl) (.drop (by kernel_rfl) (.nil)), ?_⟩
   refine TV_end ?_
   refine Qo ?_
   refine Qb ?_
   skip
   refine Qg ?_
   refine Qa rfl rfl (Qc rfl rfl rfl) ?_
   refine Qa rfl rfl (Zb rfl rfl rfl rfl (fun _ => ⟨by omega, by omega⟩)) ?_
   refine Qa rfl rfl (Qd rfl rfl rfl) ?_
   refine Qf ?_
   refine TX_round ⟨k + 1, by omega⟩ (by dsimp only; omega) ⟨rfl, rfl, slotI rfl (by dsimp only; omega), trivial⟩ (fun w h => ?_)
   simp only [fillH, List.map_cons, List.map_nil, List.singleton_append, List.cons_append, List.nil_append, upd, Nat.zero_add] at h ⊢
   rw [fill_step hmls (by omega)] at h
   exact h
  ·
   refine Zd ?_
   refine Qi (Qi ?_)
   refine Qp ?_
   refine Qo ?_
   refine Qb (Qg ?_)
   refine Qa rfl rfl (Qc rfl rfl rfl) ?_
   refine Qa rfl rfl (Zb rfl rfl rfl rfl (fun _ => ⟨by omega, by omega⟩)) ?_
   refine Qa rfl rfl (Qd rfl rfl rfl) ?_
   refine Qf ?_
   refine TX_round ⟨i + 1, by omega⟩ (by dsimp only; omega) ⟨rfl, slotI rfl (by dsimp only; omega), trivial⟩ (fun w h => h.cnt fun p => ?_)
   obtain rfl : k = sn := by omega
   rw [htake, heapOf_append, heapOf_cons, heapOf_nil]
   simp only [fillS, List.countP_append, List.countP_nil]; omega
 ·
  refine Zd ?_
  refine Qi (Qi ?_)
  refine Qp ?_
  refine Qs (.inr rfl) (res0 rfl) ⟨_, rfl, fun w h => ?_⟩
  obtain rfl : i = ss.length := by omega
  simpa [heapOf] using h
theorem marked_Patch (w0 : Base) (η : Heap) (va : Value) (ss : List Strip) (hs : ∀ s ∈ ss, s.grown (St w0 η) 48 patchK) (ha : SlA (St w0 η) va 50 ss.length (arrOf ss)) :
    CallsT Tryz.prog 69 [va] (St w0 η) fun v A' => v = .bool true ∧ A' = St w0 η := by
  have hml : ∀ s ∈ ss, s.mark.length = 48 := fun s h => (hs s h).mints.length
  obtain ⟨hal, ada, ca, rfl, ⟨hca, hca2⟩, hra⟩ := ha
  refine CallsT.body Tryz.func69 rfl rfl ?_
  simp only [Tryz.ntmps69, slotsOf, Nat.reduceAdd]
  refine Qe (Qg ?_)
  refine Qa rfl rfl (Qd rfl rfl rfl) ?_
  refine Qf (Qb (Qe (Qe (Qg ?_))))
  refine Qa rfl rfl (Qd rfl rfl rfl) ?_
  refine Qf (Qb (Qr ?_))
  refine TC_loop (γ := {i : Nat // i ≤ ss.length}) (fun t => [(0, true, .slice ada ss.length ca), (3, true, .int .i64 (t.1 : Int))]) (fun t => St w0 η) (fun t => ss.length - t.1) ⟨0, by omega⟩ ⟨rfl, rfl, trivial⟩ (fun _ h => h) ?_
  rintro ⟨i, hi⟩
  dsimp only
  refine Qe (Qe (Qg ?_))
  refine Qa rfl rfl (Qc rfl rfl rfl) ?_
  refine Qa rfl rfl (Qc rfl rfl rfl) ?_
  refine Qa rfl rfl (Za rfl rfl Tryz.underlying44 rfl) ?_
  refine Qa rfl rfl (QT_lss rfl rfl rfl rfl) ?_
  refine Qf (Qb ?_)
  refine Qm rfl (fun h8 => ?_) (fun h8 => ?_)
  ·
    refine Qt (Qb (Qe (Qr (Qe ?_))))
    have hin : i < ss.length := by omega
    obtain ⟨ba, oa, rfl, hrA⟩ := hra.resolve_left (by omega)
    obtain ⟨s, hsi⟩ : ∃ s, ss[i]? = some s := ⟨_, List.getElem?_eq_getElem hin⟩
    obtain ⟨hat1, hat2, hat3, hat4⟩ := arrOf_at hml hsi
    have hok := hs s (List.mem_of_getElem? hsi)
    have hmls := hml s (List.mem_of_getElem? hsi)
    obtain ⟨sv, sn, sxs, slong, smk, sH⟩ := s
    obtain ⟨hl, hlong, hmk, hfew⟩ := hok
    dsimp only at hl hlong hmk hfew hmls hat1 hat2 hat3 hat4
    obtain ⟨hll, lad, lcap, lb, loff, rfl, hlc, hlad, hlr⟩ := hl.some
    obtain ⟨hgl, gad, gcap, gb, goff, rfl, hgc, hgad, hgr⟩ := hlong.some
    obtain rfl := hgad (by omega)
    have hself : eqC smk smk = true := eqC_refl hmk
    refine Qg ?_
    refine Qa rfl rfl (Qd rfl rfl rfl) ?_
    refine Qf (Qb (Qr ?_))
    refine TC_loop (γ := {k : Nat // k ≤ sn + 24}) (fun t => [(0, true, .slice (some ⟨ba, oa, none⟩) ss.length ca), (3, true, .int .i64 (i : Int)), (4, true, .int .i64 (t.1 : Int))]) (fun t => St w0 η) (fun t => sn + 24 - t.1) ⟨0, by omega⟩ ⟨rfl, rfl, rfl, trivial⟩ (fun _ h => h) ?_
    rintro ⟨k, hk⟩
    dsimp only
    refine Qe (Qe (Qg ?_))
    refine Qa rfl rfl (Qc rfl rfl rfl) ?_
    refine Qa rfl rfl (Qc rfl rfl rfl) ?_
    refine Qa rfl rfl (Qc rfl rfl rfl) ?_
    refine Qa rfl rfl (Qq (i) rfl rfl Tryz.underlying44 KF.sz_162 rfl rfl (rfl) (fun _ => hin)) ?_
    refine Qa rfl rfl (Qh rfl rfl KF.fld_162_1 rfl) ?_
    refine Qa rfl rfl (Qw (i * 50 + 1) rfl rfl Tryz.underlying62 rfl hrA rfl (fun _ => hat2)) ?_
    refine Qa rfl rfl (Za rfl rfl Tryz.underlying62 rfl) ?_
    refine Qa rfl rfl (QT_lss rfl rfl rfl rfl) ?_
    refine Qf (Qb ?_)
    refine Qm rfl (fun h18 => ?_) (fun h18 => ?_)
    ·
      refine Qt (Qb (Qe (Qr (Qe ?_))))
      have hkn : k < sn + 24 := by omega
      have hz1 : k * 48 + 48 ≤ (marks (sn + 24) smk).length := by
        rw [marks_len hmls]
        have : (k + 1) * 48 ≤ (sn + 24) * 48 := Nat.mul_le_mul_right _ (by omega)
        rw [Nat.add_mul] at this; omega
      have hz2 : (true && !decide ((k : Int) < (sn : Int))) = true ∨ k * 48 + 48 ≤ (marks sn smk).length := by
        by_cases h : k < sn
        · refine .inr ?_
          rw [marks_len hmls]
          have : (k + 1) * 48 ≤ sn * 48 := Nat.mul_le_mul_right _ (by omega)
          rw [Nat.add_mul] at this; omega
        · refine .inl ?_
          simpa using h
      refine TC_draw [(0, 0), (1, 0), (2, 0), (3, 0), (4, 0), (5, 0), (6, 0), (7, 0), (8, 0), (9, 0), (10, 0), (11, 0), (12, 0), (13, 0), (14, 0), (15, 0), (16, 0), (17, 0), (18, 0), (19, 0), (20, 0), (21, 0), (22, 0), (23, 0), (24, 0), (25, 0), (26, 0), (27, 0), (28, 0), (29, 0), (30, 0), (31, 0), (32, 0), (33, 0), (34, 0), (35, 0), (36, 0), (37, 0), (38, 0), (39, 0)] KF.mixed (by kernel_rfl) (St.calm _ _) ?_
      refine Qk rfl rfl rfl (fun _ => Qc rfl rfl rfl) ?_
      refine Qk rfl rfl rfl (fun _ => Qc rfl rfl rfl) ?_
      refine Qk rfl rfl rfl (fun _ => Qq (i) rfl rfl Tryz.underlying44 KF.sz_162 rfl rfl (rfl) (fun _ => hin)) ?_
      refine Qk rfl rfl rfl (fun _ => Qh rfl rfl KF.fld_162_1 rfl) ?_
      refine Qz rfl rfl rfl (Qw (i * 50 + 1) rfl rfl Tryz.underlying62 rfl hrA rfl (fun _ => hat2)) ?_
      refine Qk rfl rfl rfl (fun _ => Qc rfl rfl rfl) ?_
      refine Qk rfl rfl rfl (fun _ => Qq (k) rfl rfl Tryz.underlying62 KF.sz_112 rfl rfl (rfl) (fun _ => hkn)) ?_
      refine Qz rfl rfl rfl (Qy (k * 48) rfl rfl Tryz.underlying112 rfl KF.sz_112 hgr rfl (fun _ => hz1) (fun _ => elem_marks hmls hkn)) ?_
      refine Qk rfl rfl rfl (fun _ => Qc rfl rfl rfl) ?_
      refine Qk rfl rfl rfl (fun _ => Qc rfl rfl rfl) ?_
      refine Qk rfl rfl rfl (fun _ => Qq (i) rfl rfl Tryz.underlying44 KF.sz_162 rfl rfl (rfl) (fun _ => hin)) ?_
      refine Qk rfl rfl rfl (fun _ => Qh rfl rfl KF.fld_162_2 rfl) ?_
      refine Qz rfl rfl rfl (Qy (i * 50 + 2) rfl rfl Tryz.underlying112 rfl KF.sz_112 hrA rfl (fun _ => hat4) (fun _ => hat3)) ?_
      refine Qk rfl rfl rfl (fun _ => QT_neA rfl rfl eq_Patch rfl rfl (fun _ => hmk) (fun _ => hmk)) ?_
      refine Qk rfl rfl rfl (fun _ => Qc rfl rfl rfl) ?_
      refine Qk rfl rfl rfl (fun _ => Qc rfl rfl rfl) ?_
      refine Qk rfl rfl rfl (fun _ => Qc rfl rfl rfl) ?_
      refine Qk rfl rfl rfl (fun _ => Qc rfl rfl rfl) ?_
      refine Qk rfl rfl rfl (fun _ => Qq (i) rfl rfl Tryz.underlying44 KF.sz_162 rfl rfl (rfl) (fun _ => hin)) ?_
      refine Qk rfl rfl rfl (fun _ => Qh rfl rfl KF.fld_162_0 rfl) ?_
      refine Qz rfl rfl rfl (Qw (i * 50) rfl rfl Tryz.underlying62 rfl hrA rfl (fun _ => hat1)) ?_
      refine Qk rfl rfl rfl (fun _ => Za rfl rfl Tryz.underlying62 rfl) ?_
      refine Qk rfl rfl rfl (fun _ => QT_lss rfl rfl rfl rfl) ?_
      refine Qk rfl rfl rfl (fun _ => Qc rfl rfl rfl) ?_
      refine Qk rfl rfl rfl (fun _ => Qc rfl rfl rfl) ?_
      refine Qk rfl rfl rfl (fun _ => Qc rfl rfl rfl) ?_
      refine Qk rfl rfl rfl (fun _ => Qq (i) rfl rfl Tryz.underlying44 KF.sz_162 rfl rfl (rfl) (fun _ => hin)) ?_
      refine Qk rfl rfl rfl (fun _ => Qh rfl rfl KF.fld_162_0 rfl) ?_
      refine Qz rfl rfl rfl (Qw (i * 50) rfl rfl Tryz.underlying62 rfl hrA rfl (fun _ => hat1)) ?_
      refine Qk rfl rfl rfl (fun _ => Qc rfl rfl rfl) ?_
      refine Qk rfl rfl rfl (fun _ => QT_indexG k rfl rfl Tryz.underlying62 KF.sz_112 rfl rfl rfl (fun h => by simp at h; omega) (fun h => hlad (by simp at h; omega))) ?_
      refine Qz rfl rfl rfl (Qy (k * 48) rfl rfl Tryz.underlying112 rfl KF.sz_112 hlr rfl (fun h => by simp at h hz2; omega) (fun h => elem_marks hmls (by simp at h; omega))) ?_
      refine Qk rfl rfl rfl (fun _ => Qc rfl rfl rfl) ?_
      refine Qk rfl rfl rfl (fun _ => Qc rfl rfl rfl) ?_
      refine Qk rfl rfl rfl (fun _ => Qq (i) rfl rfl Tryz.underlying44 KF.sz_162 rfl rfl (rfl) (fun _ => hin)) ?_
      refine Qk rfl rfl rfl (fun _ => Qh rfl rfl KF.fld_162_2 rfl) ?_
      refine Qz rfl rfl rfl (Qy (i * 50 + 2) rfl rfl Tryz.underlying112 rfl KF.sz_112 hrA rfl (fun _ => hat4) (fun _ => hat3)) ?_
      refine Qk rfl rfl rfl (fun _ => QT_neA rfl rfl eq_Patch rfl rfl (fun _ => hmk) (fun _ => hmk)) ?_
      refine Qk rfl rfl rfl (fun _ => QT_and rfl rfl rfl rfl) ?_
      refine Qk rfl rfl rfl (fun _ => QT_or rfl rfl rfl rfl) ?_
      refine TV_end (Qb ?_)
      refine TC_cond rfl (fun h => absurd (h.symm.trans ((show (_ : Bool) = false by rw [hself]; simp))) (by decide)) (fun _ => ?_)
      refine Qt ?_
      refine Qo ?_
      refine Qb (Qg ?_)
      refine Qa rfl rfl (Qc rfl rfl rfl) ?_
      refine Qa rfl rfl (Zb rfl rfl rfl rfl (fun _ => ⟨by omega, by omega⟩)) ?_
      refine Qa rfl rfl (Qd rfl rfl rfl) ?_
      refine Qf ?_
      exact TX_round ⟨k + 1, by omega⟩ (by dsimp only; omega) ⟨rfl, rfl, slotI rfl (by dsimp only; omega), trivial⟩ (fun w h => h)
    ·
      refine Zd ?_
      refine Qi (Qi ?_)
      refine Qp ?_
      refine Qo ?_
      refine Qb (Qg ?_)
      refine Qa rfl rfl (Qc rfl rfl rfl) ?_
      refine Qa rfl rfl (Zb rfl rfl rfl rfl (fun _ => ⟨by omega, by omega⟩)) ?_
      refine Qa rfl rfl (Qd rfl rfl rfl) ?_
      refine Qf ?_
      exact TX_round ⟨i + 1, by omega⟩ (by dsimp only; omega) ⟨rfl, slotI rfl (by dsimp only; omega), trivial⟩ (fun w h => h)
  ·
    refine Zd ?_
    refine Qi (Qi ?_)
    refine Qp ?_
    refine Qb (Qe (Qg ?_))
    refine Qa rfl rfl (Qd rfl rfl rfl) ?_
    refine Qf (Qb ?_)
    refine Qu ?_
    exact Qs (.inl rfl) (res1 rfl rfl) ⟨_, ⟨rfl, rfl⟩, (fun _ h => by first | exact h | exact h.tail | exact h.tail.tail | exact h.tail.tail.tail | exact h.tail.tail.tail.tail | exact h.tail.tail.tail.tail.tail | exact h.tail.tail.tail.tail.tail.tail | exact h.tail.tail.tail.tail.tail.tail.tail | exact h.tail.tail.tail.tail.tail.tail.tail.tail | exact h.tail.tail.tail.tail.tail.tail.tail.tail.tail | exact h.tail.tail.tail.tail.tail.tail.tail.tail.tail.tail | exact h.tail.tail.tail.tail.tail.tail.tail.tail.tail.tail.tail | exact h.tail.tail.tail.tail.tail.tail.tail.tail.tail.tail.tail.tail | exact h.tail.tail.tail.tail.tail.tail.tail.tail.tail.tail.tail.tail.tail)⟩
theorem grow_Patch (w0 : Base) (η H : Heap) (va : Value) (ss : List Strip) (hs : ∀ s ∈ ss, s.ok 112 48 patchK ∧ s.xs = marks s.n s.mark) (ha : Frag 162 50 va ss.length (arrOf ss) H) :
    CallsT Tryz.prog 56 [va] (St w0 (H ++ (heapOf ss ++ η))) fun _ A' => ∃ ss' H', ss'.length = ss.length ∧ (∀ s ∈ ss', s.grown (St w0 (heapOf ss')) 48 patchK) ∧ Frag 162 50 va ss'.length (arrOf ss') H' ∧ A' = St w0 (H' ++ (heapOf ss' ++ η)) := by
  have hml : ∀ s ∈ ss, s.mark.length = 48 := fun s h => (hs s h).1.mints.length
  have hF := ha
  obtain ⟨ada, ca, rfl, ⟨hca, hca2⟩, hblk⟩ := ha.slice
  have hal := ha.1
  refine CallsT.body Tryz.func56 rfl rfl ?_
  simp only [Tryz.ntmps56, slotsOf, Nat.reduceAdd]
  refine Qe (Qg ?_)
  refine Qa rfl rfl (Qd rfl rfl rfl) ?_
  refine Qf (Qb (Qr ?_))
  refine TC_loop (γ := {d : List Strip // d.length ≤ ss.length ∧ ∀ s ∈ d, s.grown (St w0 s.H) 48 patchK}) (fun t => [(0, true, .slice ada ss.length ca), (2, true, .int .i64 (t.1.length : Int))]) (fun t => St w0 (reH (arrOf ss).length (arrOf (t.1 ++ ss.drop t.1.length)) H ++ (heapOf t.1 ++ (heapOf (ss.drop t.1.length) ++ η)))) (fun t => ss.length - t.1.length) ⟨[], by simp, by simp⟩ ⟨rfl, rfl, trivial⟩ (fun _ h => by simpa [heapOf_nil, hF.re_self] using h) ?_
  rintro ⟨d, hi, hd⟩
  dsimp only
  refine Qe (Qe (Qg ?_))
  refine Qa rfl rfl (Qc rfl rfl rfl) ?_
  refine Qa rfl rfl (Qc rfl rfl rfl) ?_
  refine Qa rfl rfl (Za rfl rfl Tryz.underlying44 rfl) ?_
  refine Qa rfl rfl (QT_lss rfl rfl rfl rfl) ?_
  refine Qf (Qb ?_)
  refine Qm rfl (fun h7 => ?_) (fun h7 => ?_)
  ·
    refine Qt (Qb (Qe (Qr (Qe ?_))))
    have hin : d.length < ss.length := by omega
    have hmd : ∀ s ∈ d, s.mark.length = 48 := fun s h => (hd s h).mints.length
    obtain ⟨ba, rest, rfl, rfl⟩ := hblk (by omega)
    obtain ⟨s, hsi⟩ : ∃ s, ss[d.length]? = some s := ⟨_, List.getElem?_eq_getElem hin⟩
    have hdrop : ss.drop d.length = s :: ss.drop (d.length + 1) := by
      rw [List.drop_eq_getElem_cons hin]
      congr 1
      exact (List.getElem?_eq_some_iff.1 hsi).2
    obtain ⟨hok, hxs⟩ := hs s (List.mem_of_getElem? hsi)
    have hmls := hml s (List.mem_of_getElem? hsi)
    have hmt : ∀ s ∈ ss.drop (d.length + 1), s.mark.length = 48 := fun s h => hml s (List.mem_of_mem_drop h)
    have hI := LongInv.start (w0 := w0) hok hxs
    have hmi := hok.mints
    have hfew := hok.few
    obtain ⟨sad, scap, hsv, hscap, hsb⟩ := hok.frag.slice
    obtain ⟨sv, sn, sxs, slong, smk, sH⟩ := s
    dsimp only at hI hmi hfew hmls hsv hscap hsb
    subst hsv
    have hall : ∀ lv : Value, ∀ s' ∈ (d ++ (⟨.slice sad sn scap, sn, sxs, lv, smk, sH⟩ : Strip) :: ss.drop (d.length + 1)), s'.mark.length = 48 := fun lv s' h => by
      rcases List.mem_append.1 h with h | h
      · exact hmd s' h
      · rcases List.mem_cons.1 h with rfl | h
        · exact hmls
        · exact hmt s' h
    have hlens : ∀ lv : Value, (arrOf (d ++ (⟨.slice sad sn scap, sn, sxs, lv, smk, sH⟩ : Strip) :: ss.drop (d.length + 1))).length = ss.length * 50 := fun lv => by
      rw [arrOf_len (hall lv), List.length_append, List.length_cons, List.length_drop]
      congr 1; omega
    have hat : ∀ lv : Value, (arrOf (d ++ (⟨.slice sad sn scap, sn, sxs, lv, smk, sH⟩ : Strip) :: ss.drop (d.length + 1)))[d.length * (48 + 2)]? = some (.slice sad sn scap) ∧ (arrOf (d ++ (⟨.slice sad sn scap, sn, sxs, lv, smk, sH⟩ : Strip) :: ss.drop (d.length + 1)))[d.length * (48 + 2) + 1]? = some lv ∧ ((arrOf (d ++ (⟨.slice sad sn scap, sn, sxs, lv, smk, sH⟩ : Strip) :: ss.drop (d.length + 1))).drop (d.length * (48 + 2) + 2)).take 48 = smk ∧ d.length * (48 + 2) + 2 + 48 ≤ (arrOf (d ++ (⟨.slice sad sn scap, sn, sxs, lv, smk, sH⟩ : Strip) :: ss.drop (d.length + 1))).length := fun lv => arrOf_at (hall lv) (i := d.length) (s := ⟨_, sn, sxs, lv, smk, sH⟩) (by simp)
    have hset : ∀ lv r : Value, setAt (arrOf (d ++ (⟨.slice sad sn scap, sn, sxs, lv, smk, sH⟩ : Strip) :: ss.drop (d.length + 1)) ++ rest) (d.length * (48 + 2) + 1) [r] = arrOf (d ++ (⟨.slice sad sn scap, sn, sxs, r, smk, sH⟩ : Strip) :: ss.drop (d.length + 1)) ++ rest := fun lv r => arrOf_set hmd rest
    have hin2 : (d.length + 1) * 50 ≤ ss.length * 50 := Nat.mul_le_mul_right _ (by omega)
    rw [hdrop]
    refine TC_A (St w0 ((ba, 162, arrOf (d ++ (⟨.slice sad sn scap, sn, sxs, slong, smk, sH⟩ : Strip) :: ss.drop (d.length + 1)) ++ rest) :: (sH ++ ([] ++ (heapOf d ++ (heapOf (ss.drop (d.length + 1)) ++ η)))))) (fun w h => by
      simp only [reH, List.map_cons, List.map_nil, List.drop_left, heapOf_cons] at h
      exact h.cnt fun p => by simp only [List.countP_append, List.countP_cons, List.countP_nil]; omega) ?_
    have hrA : ∀ (X : Heap) (lv : Value), Rd (St w0 ((ba, 162, arrOf (d ++ (⟨.slice sad sn scap, sn, sxs, lv, smk, sH⟩ : Strip) :: ss.drop (d.length + 1)) ++ rest) :: X)) ba 0 (arrOf (d ++ (⟨.slice sad sn scap, sn, sxs, lv, smk, sH⟩ : Strip) :: ss.drop (d.length + 1))) := fun X lv => Rd.ownA (List.mem_cons_self ..) 0 (by simp)
    refine Qg ?_
    refine Qa rfl rfl (Qc rfl rfl rfl) ?_
    refine Qa rfl rfl (Qc rfl rfl rfl) ?_
    refine Qa rfl rfl (Qc rfl rfl rfl) ?_
    refine Qa rfl rfl (Qc rfl rfl rfl) ?_
    refine Qa rfl rfl (Qq (d.length) rfl rfl Tryz.underlying44 KF.sz_162 rfl rfl (rfl) (fun _ => hin)) ?_
    refine Qa rfl rfl (Qh rfl rfl KF.fld_162_0 rfl) ?_
    refine Qa rfl rfl (Qw (d.length * 50) rfl rfl Tryz.underlying62 rfl (hrA _ slong) rfl (fun _ => (hat slong).1)) ?_
    refine Qa rfl rfl (Qq (d.length) rfl rfl Tryz.underlying44 KF.sz_162 rfl rfl (rfl) (fun _ => hin)) ?_
    refine Qa rfl rfl (Qh rfl rfl KF.fld_162_1 rfl) ?_
    refine TL_e0 rfl rfl (rfl) (ET_store (vs := [.slice sad sn scap]) 0 rfl rfl rfl rfl KF.sz_62 rfl rfl (Nat.ble_eq_true_of_le (by have := hlens slong; simp only [List.length_append, List.length_cons, List.length_nil]; omega))) ?_
    rintro _ _ ⟨rfl, rfl⟩
    refine Qf (Qb (Qe ?_))
    refine TC_A (St w0 ((ba, 162, arrOf (d ++ (⟨.slice sad sn scap, sn, sxs, (.slice sad sn scap), smk, sH⟩ : Strip) :: ss.drop (d.length + 1)) ++ rest) :: (sH ++ ([] ++ (heapOf d ++ (heapOf (ss.drop (d.length + 1)) ++ η)))))) (fun w h => by
      simp only [upd, Nat.zero_add] at h
      rw [hset slong] at h
      exact h) ?_
    refine Qg ?_
    refine Qa rfl rfl (Qd rfl rfl rfl) ?_
    refine Qf (Qb (Qr ?_))
    refine TC_loop (γ := {t : Nat × Value × Heap × Heap // t.1 ≤ 24 ∧ LongInv w0 112 48 (.slice sad sn scap) sn smk t.2.1 (sn + t.1) t.2.2.1 t.2.2.2}) (fun t => [(0, true, .slice (some ⟨ba, 0, none⟩) ss.length ca), (2, true, .int .i64 (d.length : Int)), (3, true, .int .i64 (t.1.1 : Int))]) (fun t => St w0 ((ba, 162, arrOf (d ++ (⟨.slice sad sn scap, sn, sxs, t.1.2.1, smk, sH⟩ : Strip) :: ss.drop (d.length + 1)) ++ rest) :: (t.1.2.2.1 ++ (t.1.2.2.2 ++ (heapOf d ++ (heapOf (ss.drop (d.length + 1)) ++ η)))))) (fun t => 24 - t.1.1) ⟨(0, .slice sad sn scap, sH, []), by dsimp only; omega, hI⟩ ⟨rfl, rfl, rfl, trivial⟩ (fun _ h => h) ?_
    rintro ⟨⟨k, lv, HL, KK⟩, hk, hL⟩
    dsimp only at hk hL ⊢
    refine Qe (Qe (Qg ?_))
    refine Qa rfl rfl (Qc rfl rfl rfl) ?_
    refine Qa rfl rfl (QT_lss rfl rfl rfl rfl) ?_
    refine Qf (Qb ?_)
    refine Qm rfl (fun h20 => ?_) (fun h20 => ?_)
    ·
      refine Qt (Qb (Qe (Qr ?_)))
      have hk24 : k < 24 := by omega
      refine TC_draw [(0, 0), (1, 0), (2, 0), (3, 0), (4, 0), (5, 0), (6, 0), (7, 0), (8, 0), (9, 0), (10, 0), (11, 0), (12, 1), (13, 1), (14, 0), (15, 0), (16, 1)] KF.mixed (by kernel_rfl) (St.calm _ _) ?_
      refine Qk rfl rfl rfl (fun _ => Qc rfl rfl rfl) ?_
      refine Qk rfl rfl rfl (fun _ => Qc rfl rfl rfl) ?_
      refine Qk rfl rfl rfl (fun _ => Qc rfl rfl rfl) ?_
      refine Qk rfl rfl rfl (fun _ => Qc rfl rfl rfl) ?_
      refine Qk rfl rfl rfl (fun _ => Qq (d.length) rfl rfl Tryz.underlying44 KF.sz_162 rfl rfl (rfl) (fun _ => hin)) ?_
      refine Qk rfl rfl rfl (fun _ => Qh rfl rfl KF.fld_162_1 rfl) ?_
      refine Qz rfl rfl rfl (Qw (d.length * 50 + 1) rfl rfl Tryz.underlying62 rfl ((hrA [] lv).mono fun _ h => h.cnt fun p => by simp only [List.countP_append, List.countP_cons, List.countP_nil]; omega) rfl (fun _ => (hat lv).2.1)) ?_
      refine Qk rfl rfl rfl (fun _ => Qc rfl rfl rfl) ?_
      refine Qk rfl rfl rfl (fun _ => Qc rfl rfl rfl) ?_
      refine Qk rfl rfl rfl (fun _ => Qq (d.length) rfl rfl Tryz.underlying44 KF.sz_162 rfl rfl (rfl) (fun _ => hin)) ?_
      refine Qk rfl rfl rfl (fun _ => Qh rfl rfl KF.fld_162_2 rfl) ?_
      refine Qz rfl rfl rfl (Qy (d.length * 50 + 2) rfl rfl Tryz.underlying112 rfl KF.sz_112 ((hrA [] lv).mono fun _ h => h.cnt fun p => by simp only [List.countP_append, List.countP_cons, List.countP_nil]; omega) rfl (fun _ => (hat lv).2.2.2) (fun _ => (hat lv).2.2.1)) ?_
      refine TV_e rfl rfl rfl rfl (rfl) (ET_buildN [_] rfl Tryz.underlying62 KF.sz_112 KF.zero_112 rfl rfl rfl (by simp [Value.cells, hmls])) ?_
      rintro _ _ ⟨b35, rfl, rfl⟩
      refine ⟨_, .drop (by kernel_rfl) (.keep (by kernel_rfl) rfl (by first | exact Qw (d.length * 50 + 1) rfl rfl Tryz.underlying62 rfl ((hrA [] lv).mono fun _ h => h.cnt fun p => by simp only [List.countP_append, List.countP_cons, List.countP_nil]; omega) rfl (fun _ => (hat lv).2.1)) (.nil)), ?_⟩
      refine TV_e rfl rfl rfl rfl (rfl) (ET_long (L := [_, _]) rfl Tryz.underlying62 el_Patch rfl rfl hL hmls (fun _ h => h) (SlA.own (n := 1) (xs := smk) 0 rfl (by rw [List.drop_zero, List.take_of_length_le (by simp [Value.cells, hmls])]; simp [Value.cells]) (by simp [Value.cells, hmls]) (by omega)) hmi.oneCell (few_b hfew hk24 (by decide)) (few_l hfew hk24)) ?_
      rintro lv2 _ ⟨H', K', hL', rfl⟩
      refine ⟨_, .drop (by kernel_rfl) (.nil), ?_⟩
      obtain ⟨ad2, cap2, rfl, _⟩ := hL'.frag.slice
      refine Qk rfl rfl rfl (fun _ => Qq (d.length) rfl rfl Tryz.underlying44 KF.sz_162 rfl rfl (rfl) (fun _ => hin)) ?_
      refine Qk rfl rfl rfl (fun _ => Qh rfl rfl KF.fld_162_1 rfl) ?_
      refine TV_e0 rfl rfl rfl (rfl) (ET_store (vs := [.slice ad2 (sn + k + 1) cap2]) 1 rfl rfl rfl rfl KF.sz_62 rfl rfl (Nat.ble_eq_true_of_le (by have := hlens lv; simp only [List.length_append, List.length_cons, List.length_nil]; omega))) ?_
      rintro _ _ ⟨rfl, rfl⟩
      refine ⟨_, .nil, ?_⟩
      refine TV_end ?_
      refine Qo ?_
      refine Qb (Qg ?_)
      refine Qa rfl rfl (Qc rfl rfl rfl) ?_
      refine Qa rfl rfl (Zb rfl rfl rfl rfl (fun _ => ⟨by omega, by omega⟩)) ?_
      refine Qa rfl rfl (Qd rfl rfl rfl) ?_
      refine Qf ?_
      refine TX_round ⟨(k + 1, .slice ad2 (sn + k + 1) cap2, H', K'), by dsimp only; omega, hL'⟩ (by dsimp only; omega) ⟨rfl, rfl, slotI rfl (by dsimp only; omega), trivial⟩ (fun w h => ?_)
      simp only [upd, Nat.zero_add] at h
      rw [hset lv] at h
      exact h.tail
    ·
      refine Zd ?_
      refine Qi (Qi ?_)
      refine Qp ?_
      refine Qo ?_
      refine Qb (Qg ?_)
      refine Qa rfl rfl (Qc rfl rfl rfl) ?_
      refine Qa rfl rfl (Zb rfl rfl rfl rfl (fun _ => ⟨by omega, by omega⟩)) ?_
      refine Qa rfl rfl (Qd rfl rfl rfl) ?_
      refine Qf ?_
      obtain rfl : k = 24 := by omega
      have hg := LongInv.grown (s := ⟨.slice sad sn scap, sn, sxs, lv, smk, sH⟩) hL hmi rfl hfew
      refine TX_round ⟨d ++ [⟨.slice sad sn scap, sn, sxs, lv, smk, HL ++ KK⟩], by simp; omega, fun s h => ?_⟩ (by simp only [List.length_append, List.length_cons, List.length_nil]; omega) ⟨rfl, slotI rfl (by simp), trivial⟩ (fun w h => ?_)
      · rcases List.mem_append.1 h with h | h
        · exact hd s h
        · obtain rfl := List.mem_singleton.1 h
          exact hg
      · have e : arrOf ((d ++ [(⟨.slice sad sn scap, sn, sxs, lv, smk, HL ++ KK⟩ : Strip)]) ++ ss.drop (d.length + 1)) = arrOf (d ++ (⟨.slice sad sn scap, sn, sxs, lv, smk, sH⟩ : Strip) :: ss.drop (d.length + 1)) := by
          simp [arrOf, Strip.cells]
        simp only [List.length_append, List.length_cons, List.length_nil, Nat.zero_add, e, heapOf_append, heapOf_cons, heapOf_nil, reH, List.map_cons, List.map_nil, List.drop_left]
        exact h.cnt fun p => by simp only [List.countP_append, List.countP_cons, List.countP_nil]; omega
  ·
    refine Zd ?_
    refine Qi (Qi ?_)
    refine Qp ?_
    refine Qs (.inr rfl) (res0 rfl) ⟨_, ⟨d, reH (arrOf ss).length (arrOf d) H, by omega, fun s h => (hd s h).mono fun _ hw => hw.cnt (heapOf_mem h), ?_, rfl⟩, fun w h => ?_⟩
    · have hdl : d.length = ss.length := by omega
      rw [hdl]
      exact hF.re (by rw [arrOf_len (Z := 48) (fun s h => (hd s h).mints.length), arrOf_len hml, hdl])
    · have hdl : ss.drop d.length = [] := List.drop_eq_nil_of_le (by omega)
      rw [hdl, List.append_nil, heapOf_nil] at h
      simpa using h
theorem fill_Rec (w0 : Base) (η : Heap) (va : Value) (ss : List Strip) (hs : ∀ s ∈ ss, s.ok 77 7 recK) (ha : SlA (St w0 η) va 9 ss.length (arrOf ss)) :
  CallsT Tryz.prog 40 [va] (St w0 (heapOf ss ++ η)) fun _ A' => A' = St w0 (heapOf (ss.map (fillS 7)) ++ η) := by
 have hml : ∀ s ∈ ss, s.mark.length = 7 := fun s h => (hs s h).mints.length
 obtain ⟨hal, ada, ca, rfl, ⟨hca, hca2⟩, hra⟩ := ha
 refine CallsT.body Tryz.func40 rfl rfl ?_
 simp only [Tryz.ntmps40, slotsOf, Nat.reduceAdd]
 refine Qe (Qg ?_)
 refine Qa rfl rfl (Qd rfl rfl rfl) ?_
 refine Qf (Qb (Qr ?_))
 refine TC_loop (γ := {i : Nat // i ≤ ss.length}) (fun t => [(0, true, .slice ada ss.length ca), (2, true, .int .i64 (t.1 : Int))]) (fun t => St w0 (heapOf ((ss.take t.1).map (fillS 7)) ++ (heapOf (ss.drop t.1) ++ η))) (fun t => ss.length - t.1) ⟨0, by omega⟩ ⟨rfl, rfl, trivial⟩ (fun _ h => by simpa [heapOf] using h) ?_
 rintro ⟨i, hi⟩
 dsimp only
 refine Qe (Qe (Qg ?_))
 refine Qa rfl rfl (Qc rfl rfl rfl) ?_
 refine Qa rfl rfl (Qc rfl rfl rfl) ?_
 refine Qa rfl rfl (Za rfl rfl Tryz.underlying41 rfl) ?_
 refine Qa rfl rfl (QT_lss rfl rfl rfl rfl) ?_
 refine Qf (Qb ?_)
 refine Qm rfl (fun h7 => ?_) (fun h7 => ?_)
 ·
  refine Qt (Qb (Qe (Qr (Qe ?_))))
  have hin : i < ss.length := by omega
  obtain ⟨ba, oa, rfl, hrA⟩ := hra.resolve_left (by omega)
  obtain ⟨s, hsi⟩ : ∃ s, ss[i]? = some s := ⟨_, List.getElem?_eq_getElem hin⟩
  obtain ⟨hat1, hat2, hat3, hat4⟩ := arrOf_at hml hsi
  have hdrop : ss.drop i = s :: ss.drop (i + 1) := by
   rw [List.drop_eq_getElem_cons hin]
   congr 1
   exact (List.getElem?_eq_some_iff.1 hsi).2
  have htake : (ss.take (i + 1)).map (fillS 7) = (ss.take i).map (fillS 7) ++ [fillS 7 s] := by
   rw [List.take_add_one, hsi]; simp
  have hok := hs s (List.mem_of_getElem? hsi)
  have hmls := hml s (List.mem_of_getElem? hsi)
  rw [hdrop, heapOf_cons]
  obtain ⟨sv, sn, sxs, slong, smk, sH⟩ := s
  obtain ⟨⟨hfl, hfr⟩, hmk, hfew⟩ := hok
  dsimp only at hfl hfr hmk hfew hmls hat1 hat2 hat3 hat4
  have hsv : ∃ sad scap, sv = .slice sad sn scap := by
   rcases hfr with ⟨rfl, rfl, _⟩ | ⟨b, cap, rest, rfl, _⟩
   · exact ⟨_, _, rfl⟩
   · exact ⟨_, _, rfl⟩
  obtain ⟨sad, scap, rfl⟩ := hsv
  refine Qg ?_
  refine Qa rfl rfl (Qd rfl rfl rfl) ?_
  refine Qf (Qb (Qr ?_))
  refine TC_loop (γ := {k : Nat // k ≤ sn}) (fun t => [(0, true, .slice (some ⟨ba, oa, none⟩) ss.length ca), (2, true, .int .i64 (i : Int)), (3, true, .int .i64 (t.1 : Int))]) (fun t => St w0 (fillH 7 t.1 smk sH ++ (heapOf ((ss.take i).map (fillS 7)) ++ (heapOf (ss.drop (i + 1)) ++ η)))) (fun t => sn - t.1) ⟨0, by omega⟩ ⟨rfl, rfl, rfl, trivial⟩ (fun _ h => h.cnt (fun p => by simp only [fillH_zero, List.countP_append]; omega)) ?_
  rintro ⟨k, hk⟩
  dsimp only
  refine Qe (Qe (Qg ?_))
  refine Qa rfl rfl (Qc rfl rfl rfl) ?_
  refine Qa rfl rfl (Qc rfl rfl rfl) ?_
  refine Qa rfl rfl (Qc rfl rfl rfl) ?_
  refine Qa rfl rfl (Qq (i) rfl rfl Tryz.underlying41 KF.sz_186 rfl rfl (rfl) (fun _ => hin)) ?_
  refine Qa rfl rfl (Qh rfl rfl KF.fld_186_0 rfl) ?_
  refine Qa rfl rfl (Qw (i * 9) rfl rfl Tryz.underlying31 rfl (hrA.mono fun _ h => h.cnt fun p => by simp only [List.countP_append]; omega) rfl (fun _ => hat1)) ?_
  refine Qa rfl rfl (Za rfl rfl Tryz.underlying31 rfl) ?_
  refine Qa rfl rfl (QT_lss rfl rfl rfl rfl) ?_
  refine Qf (Qb ?_)
  refine Qm rfl (fun h17 => ?_) (fun h17 => ?_)
  ·
   refine Qt (Qb (Qe (Qr ?_)))
   have hkn : k < sn := by omega
   have hszm : Sz Tryz.prog 77 smk.length := by rw [hmls]; exact KF.sz_77
   have hkz : (k + 1) * 7 ≤ sn * 7 := Nat.mul_le_mul_right _ (by omega)
   obtain ⟨b, cap, rest, hv, hcap, hlen, rfl⟩ : ∃ b cap rest, Value.slice sad sn scap = .slice (some ⟨b, 0, none⟩) sn cap ∧ (sn ≤ cap ∧ cap ≤ 9223372036854775807) ∧ cap * 7 ≤ (sxs ++ rest).length ∧ sH = [(b, 77, sxs ++ rest)] := by
    rcases hfr with ⟨_, h0, _⟩ | h
    · omega
    · exact h
   simp only [Value.slice.injEq, true_and] at hv
   obtain ⟨rfl, rfl⟩ := hv
   have hcz : sn * 7 ≤ scap * 7 := Nat.mul_le_mul_right _ (by omega)
   refine TC_draw [(0, 0), (1, 0), (2, 0), (3, 0), (4, 0), (5, 0), (6, 0), (7, 0), (8, 0), (9, 0), (10, 0), (11, 0), (12, 1)] KF.mixed (by kernel_rfl) (St.calm _ _) ?_
   refine Qk rfl rfl rfl (fun _ => Qc rfl rfl rfl) ?_
   refine Qk rfl rfl rfl (fun _ => Qc rfl rfl rfl) ?_
   refine Qk rfl rfl rfl (fun _ => Qq (i) rfl rfl Tryz.underlying41 KF.sz_186 rfl rfl (rfl) (fun _ => hin)) ?_
   refine Qk rfl rfl rfl (fun _ => Qh rfl rfl KF.fld_186_0 rfl) ?_
   refine Qz rfl rfl rfl (Qw (i * 9) rfl rfl Tryz.underlying31 rfl (hrA.mono fun _ h => h.cnt fun p => by simp only [List.countP_append]; omega) rfl (fun _ => hat1)) ?_
   refine Qk rfl rfl rfl (fun _ => Qc rfl rfl rfl) ?_
   refine Qk rfl rfl rfl (fun _ => Qc rfl rfl rfl) ?_
   refine Qk rfl rfl rfl (fun _ => Qc rfl rfl rfl) ?_
   refine Qk rfl rfl rfl (fun _ => Qq (i) rfl rfl Tryz.underlying41 KF.sz_186 rfl rfl (rfl) (fun _ => hin)) ?_
   refine Qk rfl rfl rfl (fun _ => Qh rfl rfl KF.fld_186_2 rfl) ?_
   refine Qz rfl rfl rfl (Qy (i * 9 + 2) rfl rfl Tryz.underlying77 rfl KF.sz_77 (hrA.mono fun _ h => h.cnt fun p => by simp only [List.countP_append]; omega) rfl (fun _ => hat4) (fun _ => hat3)) ?_
   refine Qk rfl rfl rfl (fun _ => Qq (k) rfl rfl Tryz.underlying31 KF.sz_77 rfl rfl (rfl) (fun _ => hkn)) ?_
   refine TV_e0 rfl rfl rfl (rfl) (ET_store (vs := smk) 0 rfl rfl rfl rfl hszm rfl (by rw [List.all_eq_true]; exact hmk.oneCell) (Nat.ble_eq_true_of_le (by simp only [List.length_append, List.length_drop, marks_len hmls]; omega))) ?_
   rintro _ _ ⟨rfl, rfl⟩
   refine ⟨_, .drop (by kernel_rfl) (.drop (by kernel_rfl) (.nil)), ?_⟩
   refine TV_end ?_
   refine Qo ?_
   refine Qb ?_
   skip
   refine Qg ?_
   refine Qa rfl rfl (Qc rfl rfl rfl) ?_
   refine Qa rfl rfl (Zb rfl rfl rfl rfl (fun _ => ⟨by omega, by omega⟩)) ?_
   refine Qa rfl rfl (Qd rfl rfl rfl) ?_
   refine Qf ?_
   refine TX_round ⟨k + 1, by omega⟩ (by dsimp only; omega) ⟨rfl, rfl, slotI rfl (by dsimp only; omega), trivial⟩ (fun w h => ?_)
   simp only [fillH, List.map_cons, List.map_nil, List.singleton_append, List.cons_append, List.nil_append, upd, Nat.zero_add] at h ⊢
   rw [fill_step hmls (by omega)] at h
   exact h
  ·
   refine Zd ?_
   refine Qi (Qi ?_)
   refine Qp ?_
   refine Qo ?_
   refine Qb (Qg ?_)
   refine Qa rfl rfl (Qc rfl rfl rfl) ?_
   refine Qa rfl rfl (Zb rfl rfl rfl rfl (fun _ => ⟨by omega, by omega⟩)) ?_
   refine Qa rfl rfl (Qd rfl rfl rfl) ?_
   refine Qf ?_
   refine TX_round ⟨i + 1, by omega⟩ (by dsimp only; omega) ⟨rfl, slotI rfl (by dsimp only; omega), trivial⟩ (fun w h => h.cnt fun p => ?_)
   obtain rfl : k = sn := by omega
   rw [htake, heapOf_append, heapOf_cons, heapOf_nil]
   simp only [fillS, List.countP_append, List.countP_nil]; omega
 ·
  refine Zd ?_
  refine Qi (Qi ?_)
  refine Qp ?_
  refine Qs (.inr rfl) (res0 rfl) ⟨_, rfl, fun w h => ?_⟩
  obtain rfl : i = ss.length := by omega
  simpa [heapOf] using h
theorem marked_Rec (w0 : Base) (η : Heap) (va : Value) (ss : List Strip) (hs : ∀ s ∈ ss, s.grown (St w0 η) 7 recK) (ha : SlA (St w0 η) va 9 ss.length (arrOf ss)) :
    CallsT Tryz.prog 66 [va] (St w0 η) fun v A' => v = .bool true ∧ A' = St w0 η := by
  have hml : ∀ s ∈ ss, s.mark.length = 7 := fun s h => (hs s h).mints.length
  obtain ⟨hal, ada, ca, rfl, ⟨hca, hca2⟩, hra⟩ := ha
  refine CallsT.body Tryz.func66 rfl rfl ?_
  simp only [Tryz.ntmps66, slotsOf, Nat.reduceAdd]
  refine Qe (Qg ?_)
  refine Qa rfl rfl (Qd rfl rfl rfl) ?_
  refine Qf (Qb (Qe (Qe (Qg ?_))))
  refine Qa rfl rfl (Qd rfl rfl rfl) ?_
  refine Qf (Qb (Qr ?_))
  refine TC_loop (γ := {i : Nat // i ≤ ss.length}) (fun t => [(0, true, .slice ada ss.length ca), (3, true, .int .i64 (t.1 : Int))]) (fun t => St w0 η) (fun t => ss.length - t.1) ⟨0, by omega⟩ ⟨rfl, rfl, trivial⟩ (fun _ h => h) ?_
  rintro ⟨i, hi⟩
  dsimp only
  refine Qe (Qe (Qg ?_))
  refine Qa rfl rfl (Qc rfl rfl rfl) ?_
  refine Qa rfl rfl (Qc rfl rfl rfl) ?_
  refine Qa rfl rfl (Za rfl rfl Tryz.underlying41 rfl) ?_
  refine Qa rfl rfl (QT_lss rfl rfl rfl rfl) ?_
  refine Qf (Qb ?_)
  refine Qm rfl (fun h8 => ?_) (fun h8 => ?_)
  ·
    refine Qt (Qb (Qe (Qr (Qe ?_))))
    have hin : i < ss.length := by omega
    obtain ⟨ba, oa, rfl, hrA⟩ := hra.resolve_left (by omega)
    obtain ⟨s, hsi⟩ : ∃ s, ss[i]? = some s := ⟨_, List.getElem?_eq_getElem hin⟩
    obtain ⟨hat1, hat2, hat3, hat4⟩ := arrOf_at hml hsi
    have hok := hs s (List.mem_of_getElem? hsi)
    have hmls := hml s (List.mem_of_getElem? hsi)
    obtain ⟨sv, sn, sxs, slong, smk, sH⟩ := s
    obtain ⟨hl, hlong, hmk, hfew⟩ := hok
    dsimp only at hl hlong hmk hfew hmls hat1 hat2 hat3 hat4
    obtain ⟨hll, lad, lcap, lb, loff, rfl, hlc, hlad, hlr⟩ := hl.some
    obtain ⟨hgl, gad, gcap, gb, goff, rfl, hgc, hgad, hgr⟩ := hlong.some
    obtain rfl := hgad (by omega)
    have hself : eqC smk smk = true := eqC_refl hmk
    refine Qg ?_
    refine Qa rfl rfl (Qd rfl rfl rfl) ?_
    refine Qf (Qb (Qr ?_))
    refine TC_loop (γ := {k : Nat // k ≤ sn + 24}) (fun t => [(0, true, .slice (some ⟨ba, oa, none⟩) ss.length ca), (3, true, .int .i64 (i : Int)), (4, true, .int .i64 (t.1 : Int))]) (fun t => St w0 η) (fun t => sn + 24 - t.1) ⟨0, by omega⟩ ⟨rfl, rfl, rfl, trivial⟩ (fun _ h => h) ?_
    rintro ⟨k, hk⟩
    dsimp only
    refine Qe (Qe (Qg ?_))
    refine Qa rfl rfl (Qc rfl rfl rfl) ?_
    refine Qa rfl rfl (Qc rfl rfl rfl) ?_
    refine Qa rfl rfl (Qc rfl rfl rfl) ?_
    refine Qa rfl rfl (Qq (i) rfl rfl Tryz.underlying41 KF.sz_186 rfl rfl (rfl) (fun _ => hin)) ?_
    refine Qa rfl rfl (Qh rfl rfl KF.fld_186_1 rfl) ?_
    refine Qa rfl rfl (Qw (i * 9 + 1) rfl rfl Tryz.underlying31 rfl hrA rfl (fun _ => hat2)) ?_
    refine Qa rfl rfl (Za rfl rfl Tryz.underlying31 rfl) ?_
    refine Qa rfl rfl (QT_lss rfl rfl rfl rfl) ?_
    refine Qf (Qb ?_)
    refine Qm rfl (fun h18 => ?_) (fun h18 => ?_)
    ·
      refine Qt (Qb (Qe (Qr (Qe ?_))))
      have hkn : k < sn + 24 := by omega
      have hz1 : k * 7 + 7 ≤ (marks (sn + 24) smk).length := by
        rw [marks_len hmls]
        have : (k + 1) * 7 ≤ (sn + 24) * 7 := Nat.mul_le_mul_right _ (by omega)
        rw [Nat.add_mul] at this; omega
      have hz2 : (true && !decide ((k : Int) < (sn : Int))) = true ∨ k * 7 + 7 ≤ (marks sn smk).length := by
        by_cases h : k < sn
        · refine .inr ?_
          rw [marks_len hmls]
          have : (k + 1) * 7 ≤ sn * 7 := Nat.mul_le_mul_right _ (by omega)
          rw [Nat.add_mul] at this; omega
        · refine .inl ?_
          simpa using h
      refine TC_draw [(0, 0), (1, 0), (2, 0), (3, 0), (4, 0), (5, 0), (6, 0), (7, 0), (8, 0), (9, 0), (10, 0), (11, 0), (12, 0), (13, 0), (14, 0), (15, 0), (16, 0), (17, 0), (18, 0), (19, 0), (20, 0), (21, 0), (22, 0), (23, 0), (24, 0), (25, 0), (26, 0), (27, 0), (28, 0), (29, 0), (30, 0), (31, 0), (32, 0), (33, 0), (34, 0), (35, 0), (36, 0), (37, 0), (38, 0), (39, 0)] KF.mixed (by kernel_rfl) (St.calm _ _) ?_
      refine Qk rfl rfl rfl (fun _ => Qc rfl rfl rfl) ?_
      refine Qk rfl rfl rfl (fun _ => Qc rfl rfl rfl) ?_
      refine Qk rfl rfl rfl (fun _ => Qq (i) rfl rfl Tryz.underlying41 KF.sz_186 rfl rfl (rfl) (fun _ => hin)) ?_
      refine Qk rfl rfl rfl (fun _ => Qh rfl rfl KF.fld_186_1 rfl) ?_
      refine Qz rfl rfl rfl (Qw (i * 9 + 1) rfl rfl Tryz.underlying31 rfl hrA rfl (fun _ => hat2)) ?_
      refine Qk rfl rfl rfl (fun _ => Qc rfl rfl rfl) ?_
      refine Qk rfl rfl rfl (fun _ => Qq (k) rfl rfl Tryz.underlying31 KF.sz_77 rfl rfl (rfl) (fun _ => hkn)) ?_
      refine Qz rfl rfl rfl (Qy (k * 7) rfl rfl Tryz.underlying77 rfl KF.sz_77 hgr rfl (fun _ => hz1) (fun _ => elem_marks hmls hkn)) ?_
      refine Qk rfl rfl rfl (fun _ => Qc rfl rfl rfl) ?_
      refine Qk rfl rfl rfl (fun _ => Qc rfl rfl rfl) ?_
      refine Qk rfl rfl rfl (fun _ => Qq (i) rfl rfl Tryz.underlying41 KF.sz_186 rfl rfl (rfl) (fun _ => hin)) ?_
      refine Qk rfl rfl rfl (fun _ => Qh rfl rfl KF.fld_186_2 rfl) ?_
      refine Qz rfl rfl rfl (Qy (i * 9 + 2) rfl rfl Tryz.underlying77 rfl KF.sz_77 hrA rfl (fun _ => hat4) (fun _ => hat3)) ?_
      refine Qk rfl rfl rfl (fun _ => QT_neA rfl rfl eq_Rec rfl rfl (fun _ => hmk) (fun _ => hmk)) ?_
      refine Qk rfl rfl rfl (fun _ => Qc rfl rfl rfl) ?_
      refine Qk rfl rfl rfl (fun _ => Qc rfl rfl rfl) ?_
      refine Qk rfl rfl rfl (fun _ => Qc rfl rfl rfl) ?_
      refine Qk rfl rfl rfl (fun _ => Qc rfl rfl rfl) ?_
      refine Qk rfl rfl rfl (fun _ => Qq (i) rfl rfl Tryz.underlying41 KF.sz_186 rfl rfl (rfl) (fun _ => hin)) ?_
      refine Qk rfl rfl rfl (fun _ => Qh rfl rfl KF.fld_186_0 rfl) ?_
      refine Qz rfl rfl rfl (Qw (i * 9) rfl rfl Tryz.underlying31 rfl hrA rfl (fun _ => hat1)) ?_
      refine Qk rfl rfl rfl (fun _ => Za rfl rfl Tryz.underlying31 rfl) ?_
      refine Qk rfl rfl rfl (fun _ => QT_lss rfl rfl rfl rfl) ?_
      refine Qk rfl rfl rfl (fun _ => Qc rfl rfl rfl) ?_
      refine Qk rfl rfl rfl (fun _ => Qc rfl rfl rfl) ?_
      refine Qk rfl rfl rfl (fun _ => Qc rfl rfl rfl) ?_
      refine Qk rfl rfl rfl (fun _ => Qq (i) rfl rfl Tryz.underlying41 KF.sz_186 rfl rfl (rfl) (fun _ => hin)) ?_
      refine Qk rfl rfl rfl (fun _ => Qh rfl rfl KF.fld_186_0 rfl) ?_
      refine Qz rfl rfl rfl (Qw (i * 9) rfl rfl Tryz.underlying31 rfl hrA rfl (fun _ => hat1)) ?_
      refine Qk rfl rfl rfl (fun _ => Qc rfl rfl rfl) ?_
      refine Qk rfl rfl rfl (fun _ => QT_indexG k rfl rfl Tryz.underlying31 KF.sz_77 rfl rfl rfl (fun h => by simp at h; omega) (fun h => hlad (by simp at h; omega))) ?_
      refine Qz rfl rfl rfl (Qy (k * 7) rfl rfl Tryz.underlying77 rfl KF.sz_77 hlr rfl (fun h => by simp at h hz2; omega) (fun h => elem_marks hmls (by simp at h; omega))) ?_
      refine Qk rfl rfl rfl (fun _ => Qc rfl rfl rfl) ?_
      refine Qk rfl rfl rfl (fun _ => Qc rfl rfl rfl) ?_
      refine Qk rfl rfl rfl (fun _ => Qq (i) rfl rfl Tryz.underlying41 KF.sz_186 rfl rfl (rfl) (fun _ => hin)) ?_
      refine Qk rfl rfl rfl (fun _ => Qh rfl rfl KF.fld_186_2 rfl) ?_
      refine Qz rfl rfl rfl (Qy (i * 9 + 2) rfl rfl Tryz.underlying77 rfl KF.sz_77 hrA rfl (fun _ => hat4) (fun _ => hat3)) ?_
      refine Qk rfl rfl rfl (fun _ => QT_neA rfl rfl eq_Rec rfl rfl (fun _ => hmk) (fun _ => hmk)) ?_
      refine Qk rfl rfl rfl (fun _ => QT_and rfl rfl rfl rfl) ?_
      refine Qk rfl rfl rfl (fun _ => QT_or rfl rfl rfl rfl) ?_
      refine TV_end (Qb ?_)
      refine TC_cond rfl (fun h => absurd (h.symm.trans ((show (_ : Bool) = false by rw [hself]; simp))) (by decide)) (fun _ => ?_)
      refine Qt ?_
      refine Qo ?_
      refine Qb (Qg ?_)
      refine Qa rfl rfl (Qc rfl rfl rfl) ?_
      refine Qa rfl rfl (Zb rfl rfl rfl rfl (fun _ => ⟨by omega, by omega⟩)) ?_
      refine Qa rfl rfl (Qd rfl rfl rfl) ?_
      refine Qf ?_
      exact TX_round ⟨k + 1, by omega⟩ (by dsimp only; omega) ⟨rfl, rfl, slotI rfl (by dsimp only; omega), trivial⟩ (fun w h => h)
    ·
      refine Zd ?_
      refine Qi (Qi ?_)
      refine Qp ?_
      refine Qo ?_
      refine Qb (Qg ?_)
      refine Qa rfl rfl (Qc rfl rfl rfl) ?_
      refine Qa rfl rfl (Zb rfl rfl rfl rfl (fun _ => ⟨by omega, by omega⟩)) ?_
      refine Qa rfl rfl (Qd rfl rfl rfl) ?_
      refine Qf ?_
      exact TX_round ⟨i + 1, by omega⟩ (by dsimp only; omega) ⟨rfl, slotI rfl (by dsimp only; omega), trivial⟩ (fun w h => h)
  ·
    refine Zd ?_
    refine Qi (Qi ?_)
    refine Qp ?_
    refine Qb (Qe (Qg ?_))
    refine Qa rfl rfl (Qd rfl rfl rfl) ?_
    refine Qf (Qb ?_)
    refine Qu ?_
    exact Qs (.inl rfl) (res1 rfl rfl) ⟨_, ⟨rfl, rfl⟩, (fun _ h => by first | exact h | exact h.tail | exact h.tail.tail | exact h.tail.tail.tail | exact h.tail.tail.tail.tail | exact h.tail.tail.tail.tail.tail | exact h.tail.tail.tail.tail.tail.tail | exact h.tail.tail.tail.tail.tail.tail.tail | exact h.tail.tail.tail.tail.tail.tail.tail.tail | exact h.tail.tail.tail.tail.tail.tail.tail.tail.tail | exact h.tail.tail.tail.tail.tail.tail.tail.tail.tail.tail | exact h.tail.tail.tail.tail.tail.tail.tail.tail.tail.tail.tail | exact h.tail.tail.tail.tail.tail.tail.tail.tail.tail.tail.tail.tail | exact h.tail.tail.tail.tail.tail.tail.tail.tail.tail.tail.tail.tail.tail)⟩
theorem grow_Rec (w0 : Base) (η H : Heap) (va : Value) (ss : List Strip) (hs : ∀ s ∈ ss, s.ok 77 7 recK ∧ s.xs = marks s.n s.mark) (ha : Frag 186 9 va ss.length (arrOf ss) H) :
    CallsT Tryz.prog 53 [va] (St w0 (H ++ (heapOf ss ++ η))) fun _ A' => ∃ ss' H', ss'.length = ss.length ∧ (∀ s ∈ ss', s.grown (St w0 (heapOf ss')) 7 recK) ∧ Frag 186 9 va ss'.length (arrOf ss') H' ∧ A' = St w0 (H' ++ (heapOf ss' ++ η)) := by
  have hml : ∀ s ∈ ss, s.mark.length = 7 := fun s h => (hs s h).1.mints.length
  have hF := ha
  obtain ⟨ada, ca, rfl, ⟨hca, hca2⟩, hblk⟩ := ha.slice
  have hal := ha.1
  refine CallsT.body Tryz.func53 rfl rfl ?_
  simp only [Tryz.ntmps53, slotsOf, Nat.reduceAdd]
  refine Qe (Qg ?_)
  refine Qa rfl rfl (Qd rfl rfl rfl) ?_
  refine Qf (Qb (Qr ?_))
  refine TC_loop (γ := {d : List Strip // d.length ≤ ss.length ∧ ∀ s ∈ d, s.grown (St w0 s.H) 7 recK}) (fun t => [(0, true, .slice ada ss.length ca), (2, true, .int .i64 (t.1.length : Int))]) (fun t => St w0 (reH (arrOf ss).length (arrOf (t.1 ++ ss.drop t.1.length)) H ++ (heapOf t.1 ++ (heapOf (ss.drop t.1.length) ++ η)))) (fun t => ss.length - t.1.length) ⟨[], by simp, by simp⟩ ⟨rfl, rfl, trivial⟩ (fun _ h => by simpa [heapOf_nil, hF.re_self] using h) ?_
  rintro ⟨d, hi, hd⟩
  dsimp only
  refine Qe (Qe (Qg ?_))
  refine Qa rfl rfl (Qc rfl rfl rfl) ?_
  refine Qa rfl rfl (Qc rfl rfl rfl) ?_
  refine Qa rfl rfl (Za rfl rfl Tryz.underlying41 rfl) ?_
  refine Qa rfl rfl (QT_lss rfl rfl rfl rfl) ?_
  refine Qf (Qb ?_)
  refine Qm rfl (fun h7 => ?_) (fun h7 => ?_)
  ·
    refine Qt (Qb (Qe (Qr (Qe ?_))))
    have hin : d.length < ss.length := by omega
    have hmd : ∀ s ∈ d, s.mark.length = 7 := fun s h => (hd s h).mints.length
    obtain ⟨ba, rest, rfl, rfl⟩ := hblk (by omega)
    obtain ⟨s, hsi⟩ : ∃ s, ss[d.length]? = some s := ⟨_, List.getElem?_eq_getElem hin⟩
    have hdrop : ss.drop d.length = s :: ss.drop (d.length + 1) := by
      rw [List.drop_eq_getElem_cons hin]
      congr 1
      exact (List.getElem?_eq_some_iff.1 hsi).2
    obtain ⟨hok, hxs⟩ := hs s (List.mem_of_getElem? hsi)
    have hmls := hml s (List.mem_of_getElem? hsi)
    have hmt : ∀ s ∈ ss.drop (d.length + 1), s.mark.length = 7 := fun s h => hml s (List.mem_of_mem_drop h)
    have hI := LongInv.start (w0 := w0) hok hxs
    have hmi := hok.mints
    have hfew := hok.few
    obtain ⟨sad, scap, hsv, hscap, hsb⟩ := hok.frag.slice
    obtain ⟨sv, sn, sxs, slong, smk, sH⟩ := s
    dsimp only at hI hmi hfew hmls hsv hscap hsb
    subst hsv
    have hall : ∀ lv : Value, ∀ s' ∈ (d ++ (⟨.slice sad sn scap, sn, sxs, lv, smk, sH⟩ : Strip) :: ss.drop (d.length + 1)), s'.mark.length = 7 := fun lv s' h => by
      rcases List.mem_append.1 h with h | h
      · exact hmd s' h
      · rcases List.mem_cons.1 h with rfl | h
        · exact hmls
        · exact hmt s' h
    have hlens : ∀ lv : Value, (arrOf (d ++ (⟨.slice sad sn scap, sn, sxs, lv, smk, sH⟩ : Strip) :: ss.drop (d.length + 1))).length = ss.length * 9 := fun lv => by
      rw [arrOf_len (hall lv), List.length_append, List.length_cons, List.length_drop]
      congr 1; omega
    have hat : ∀ lv : Value, (arrOf (d ++ (⟨.slice sad sn scap, sn, sxs, lv, smk, sH⟩ : Strip) :: ss.drop (d.length + 1)))[d.length * (7 + 2)]? = some (.slice sad sn scap) ∧ (arrOf (d ++ (⟨.slice sad sn scap, sn, sxs, lv, smk, sH⟩ : Strip) :: ss.drop (d.length + 1)))[d.length * (7 + 2) + 1]? = some lv ∧ ((arrOf (d ++ (⟨.slice sad sn scap, sn, sxs, lv, smk, sH⟩ : Strip) :: ss.drop (d.length + 1))).drop (d.length * (7 + 2) + 2)).take 7 = smk ∧ d.length * (7 + 2) + 2 + 7 ≤ (arrOf (d ++ (⟨.slice sad sn scap, sn, sxs, lv, smk, sH⟩ : Strip) :: ss.drop (d.length + 1))).length := fun lv => arrOf_at (hall lv) (i := d.length) (s := ⟨_, sn, sxs, lv, smk, sH⟩) (by simp)
    have hset : ∀ lv r : Value, setAt (arrOf (d ++ (⟨.slice sad sn scap, sn, sxs, lv, smk, sH⟩ : Strip) :: ss.drop (d.length + 1)) ++ rest) (d.length * (7 + 2) + 1) [r] = arrOf (d ++ (⟨.slice sad sn scap, sn, sxs, r, smk, sH⟩ : Strip) :: ss.drop (d.length + 1)) ++ rest := fun lv r => arrOf_set hmd rest
    have hin2 : (d.length + 1) * 9 ≤ ss.length * 9 := Nat.mul_le_mul_right _ (by omega)
    rw [hdrop]
    refine TC_A (St w0 ((ba, 186, arrOf (d ++ (⟨.slice sad sn scap, sn, sxs, slong, smk, sH⟩ : Strip) :: ss.drop (d.length + 1)) ++ rest) :: (sH ++ ([] ++ (heapOf d ++ (heapOf (ss.drop (d.length + 1)) ++ η)))))) (fun w h => by
      simp only [reH, List.map_cons, List.map_nil, List.drop_left, heapOf_cons] at h
      exact h.cnt fun p => by simp only [List.countP_append, List.countP_cons, List.countP_nil]; omega) ?_
    have hrA : ∀ (X : Heap) (lv : Value), Rd (St w0 ((ba, 186, arrOf (d ++ (⟨.slice sad sn scap, sn, sxs, lv, smk, sH⟩ : Strip) :: ss.drop (d.length + 1)) ++ rest) :: X)) ba 0 (arrOf (d ++ (⟨.slice sad sn scap, sn, sxs, lv, smk, sH⟩ : Strip) :: ss.drop (d.length + 1))) := fun X lv => Rd.ownA (List.mem_cons_self ..) 0 (by simp)
    refine Qg ?_
    refine Qa rfl rfl (Qc rfl rfl rfl) ?_
    refine Qa rfl rfl (Qc rfl rfl rfl) ?_
    refine Qa rfl rfl (Qc rfl rfl rfl) ?_
    refine Qa rfl rfl (Qc rfl rfl rfl) ?_
    refine Qa rfl rfl (Qq (d.length) rfl rfl Tryz.underlying41 KF.sz_186 rfl rfl (rfl) (fun _ => hin)) ?_
    refine Qa rfl rfl (Qh rfl rfl KF.fld_186_0 rfl) ?_
    refine Qa rfl rfl (Qw (d.length * 9) rfl rfl Tryz.underlying31 rfl (hrA _ slong) rfl (fun _ => (hat slong).1)) ?_
    refine Qa rfl rfl (Qq (d.length) rfl rfl Tryz.underlying41 KF.sz_186 rfl rfl (rfl) (fun _ => hin)) ?_
    refine Qa rfl rfl (Qh rfl rfl KF.fld_186_1 rfl) ?_
    refine TL_e0 rfl rfl (rfl) (ET_store (vs := [.slice sad sn scap]) 0 rfl rfl rfl rfl KF.sz_31 rfl rfl (Nat.ble_eq_true_of_le (by have := hlens slong; simp only [List.length_append, List.length_cons, List.length_nil]; omega))) ?_
    rintro _ _ ⟨rfl, rfl⟩
    refine Qf (Qb (Qe ?_))
    refine TC_A (St w0 ((ba, 186, arrOf (d ++ (⟨.slice sad sn scap, sn, sxs, (.slice sad sn scap), smk, sH⟩ : Strip) :: ss.drop (d.length + 1)) ++ rest) :: (sH ++ ([] ++ (heapOf d ++ (heapOf (ss.drop (d.length + 1)) ++ η)))))) (fun w h => by
      simp only [upd, Nat.zero_add] at h
      rw [hset slong] at h
      exact h) ?_
    refine Qg ?_
    refine Qa rfl rfl (Qd rfl rfl rfl) ?_
    refine Qf (Qb (Qr ?_))
    refine TC_loop (γ := {t : Nat × Value × Heap × Heap // t.1 ≤ 24 ∧ LongInv w0 77 7 (.slice sad sn scap) sn smk t.2.1 (sn + t.1) t.2.2.1 t.2.2.2}) (fun t => [(0, true, .slice (some ⟨ba, 0, none⟩) ss.length ca), (2, true, .int .i64 (d.length : Int)), (3, true, .int .i64 (t.1.1 : Int))]) (fun t => St w0 ((ba, 186, arrOf (d ++ (⟨.slice sad sn scap, sn, sxs, t.1.2.1, smk, sH⟩ : Strip) :: ss.drop (d.length + 1)) ++ rest) :: (t.1.2.2.1 ++ (t.1.2.2.2 ++ (heapOf d ++ (heapOf (ss.drop (d.length + 1)) ++ η)))))) (fun t => 24 - t.1.1) ⟨(0, .slice sad sn scap, sH, []), by dsimp only; omega, hI⟩ ⟨rfl, rfl, rfl, trivial⟩ (fun _ h => h) ?_
    rintro ⟨⟨k, lv, HL, KK⟩, hk, hL⟩
    dsimp only at hk hL ⊢
    refine Qe (Qe (Qg ?_))
    refine Qa rfl rfl (Qc rfl rfl rfl) ?_
    refine Qa rfl rfl (QT_lss rfl rfl rfl rfl) ?_
    refine Qf (Qb ?_)
    refine Qm rfl (fun h20 => ?_) (fun h20 => ?_)
    ·
      refine Qt (Qb (Qe (Qr ?_)))
      have hk24 : k < 24 := by omega
      refine TC_draw [(0, 0), (1, 0), (2, 0), (3, 0), (4, 0), (5, 0), (6, 0), (7, 0), (8, 0), (9, 0), (10, 0), (11, 0), (12, 1), (13, 1), (14, 0), (15, 0), (16, 1)] KF.mixed (by kernel_rfl) (St.calm _ _) ?_
      refine Qk rfl rfl rfl (fun _ => Qc rfl rfl rfl) ?_
      refine Qk rfl rfl rfl (fun _ => Qc rfl rfl rfl) ?_
      refine Qk rfl rfl rfl (fun _ => Qc rfl rfl rfl) ?_
      refine Qk rfl rfl rfl (fun _ => Qc rfl rfl rfl) ?_
      refine Qk rfl rfl rfl (fun _ => Qq (d.length) rfl rfl Tryz.underlying41 KF.sz_186 rfl rfl (rfl) (fun _ => hin)) ?_
      refine Qk rfl rfl rfl (fun _ => Qh rfl rfl KF.fld_186_1 rfl) ?_
      refine Qz rfl rfl rfl (Qw (d.length * 9 + 1) rfl rfl Tryz.underlying31 rfl ((hrA [] lv).mono fun _ h => h.cnt fun p => by simp only [List.countP_append, List.countP_cons, List.countP_nil]; omega) rfl (fun _ => (hat lv).2.1)) ?_
      refine Qk rfl rfl rfl (fun _ => Qc rfl rfl rfl) ?_
      refine Qk rfl rfl rfl (fun _ => Qc rfl rfl rfl) ?_
      refine Qk rfl rfl rfl (fun _ => Qq (d.length) rfl rfl Tryz.underlying41 KF.sz_186 rfl rfl (rfl) (fun _ => hin)) ?_
      refine Qk rfl rfl rfl (fun _ => Qh rfl rfl KF.fld_186_2 rfl) ?_
      refine Qz rfl rfl rfl (Qy (d.length * 9 + 2) rfl rfl Tryz.underlying77 rfl KF.sz_77 ((hrA [] lv).mono fun _ h => h.cnt fun p => by simp only [List.countP_append, List.countP_cons, List.countP_nil]; omega) rfl (fun _ => (hat lv).2.2.2) (fun _ => (hat lv).2.2.1)) ?_
      refine TV_e rfl rfl rfl rfl (rfl) (ET_buildN [_] rfl Tryz.underlying31 KF.sz_77 KF.zero_77 rfl rfl rfl (by simp [Value.cells, hmls])) ?_
      rintro _ _ ⟨b35, rfl, rfl⟩
      refine ⟨_, .drop (by kernel_rfl) (.keep (by kernel_rfl) rfl (by first | exact Qw (d.length * 9 + 1) rfl rfl Tryz.underlying31 rfl ((hrA [] lv).mono fun _ h => h.cnt fun p => by simp only [List.countP_append, List.countP_cons, List.countP_nil]; omega) rfl (fun _ => (hat lv).2.1)) (.nil)), ?_⟩
      refine TV_e rfl rfl rfl rfl (rfl) (ET_long (L := [_, _]) rfl Tryz.underlying31 el_Rec rfl rfl hL hmls (fun _ h => h) (SlA.own (n := 1) (xs := smk) 0 rfl (by rw [List.drop_zero, List.take_of_length_le (by simp [Value.cells, hmls])]; simp [Value.cells]) (by simp [Value.cells, hmls]) (by omega)) hmi.oneCell (few_b hfew hk24 (by decide)) (few_l hfew hk24)) ?_
      rintro lv2 _ ⟨H', K', hL', rfl⟩
      refine ⟨_, .drop (by kernel_rfl) (.nil), ?_⟩
      obtain ⟨ad2, cap2, rfl, _⟩ := hL'.frag.slice
      refine Qk rfl rfl rfl (fun _ => Qq (d.length) rfl rfl Tryz.underlying41 KF.sz_186 rfl rfl (rfl) (fun _ => hin)) ?_
      refine Qk rfl rfl rfl (fun _ => Qh rfl rfl KF.fld_186_1 rfl) ?_
      refine TV_e0 rfl rfl rfl (rfl) (ET_store (vs := [.slice ad2 (sn + k + 1) cap2]) 1 rfl rfl rfl rfl KF.sz_31 rfl rfl (Nat.ble_eq_true_of_le (by have := hlens lv; simp only [List.length_append, List.length_cons, List.length_nil]; omega))) ?_
      rintro _ _ ⟨rfl, rfl⟩
      refine ⟨_, .nil, ?_⟩
      refine TV_end ?_
      refine Qo ?_
      refine Qb (Qg ?_)
      refine Qa rfl rfl (Qc rfl rfl rfl) ?_
      refine Qa rfl rfl (Zb rfl rfl rfl rfl (fun _ => ⟨by omega, by omega⟩)) ?_
      refine Qa rfl rfl (Qd rfl rfl rfl) ?_
      refine Qf ?_
      refine TX_round ⟨(k + 1, .slice ad2 (sn + k + 1) cap2, H', K'), by dsimp only; omega, hL'⟩ (by dsimp only; omega) ⟨rfl, rfl, slotI rfl (by dsimp only; omega), trivial⟩ (fun w h => ?_)
      simp only [upd, Nat.zero_add] at h
      rw [hset lv] at h
      exact h.tail
    ·
      refine Zd ?_
      refine Qi (Qi ?_)
      refine Qp ?_
      refine Qo ?_
      refine Qb (Qg ?_)
      refine Qa rfl rfl (Qc rfl rfl rfl) ?_
      refine Qa rfl rfl (Zb rfl rfl rfl rfl (fun _ => ⟨by omega, by omega⟩)) ?_
      refine Qa rfl rfl (Qd rfl rfl rfl) ?_
      refine Qf ?_
      obtain rfl : k = 24 := by omega
      have hg := LongInv.grown (s := ⟨.slice sad sn scap, sn, sxs, lv, smk, sH⟩) hL hmi rfl hfew
      refine TX_round ⟨d ++ [⟨.slice sad sn scap, sn, sxs, lv, smk, HL ++ KK⟩], by simp; omega, fun s h => ?_⟩ (by simp only [List.length_append, List.length_cons, List.length_nil]; omega) ⟨rfl, slotI rfl (by simp), trivial⟩ (fun w h => ?_)
      · rcases List.mem_append.1 h with h | h
        · exact hd s h
        · obtain rfl := List.mem_singleton.1 h
          exact hg
      · have e : arrOf ((d ++ [(⟨.slice sad sn scap, sn, sxs, lv, smk, HL ++ KK⟩ : Strip)]) ++ ss.drop (d.length + 1)) = arrOf (d ++ (⟨.slice sad sn scap, sn, sxs, lv, smk, sH⟩ : Strip) :: ss.drop (d.length + 1)) := by
          simp [arrOf, Strip.cells]
        simp only [List.length_append, List.length_cons, List.length_nil, Nat.zero_add, e, heapOf_append, heapOf_cons, heapOf_nil, reH, List.map_cons, List.map_nil, List.drop_left]
        exact h.cnt fun p => by simp only [List.countP_append, List.countP_cons, List.countP_nil]; omega
  ·
    refine Zd ?_
    refine Qi (Qi ?_)
    refine Qp ?_
    refine Qs (.inr rfl) (res0 rfl) ⟨_, ⟨d, reH (arrOf ss).length (arrOf d) H, by omega, fun s h => (hd s h).mono fun _ hw => hw.cnt (heapOf_mem h), ?_, rfl⟩, fun w h => ?_⟩
    · have hdl : d.length = ss.length := by omega
      rw [hdl]
      exact hF.re (by rw [arrOf_len (Z := 7) (fun s h => (hd s h).mints.length), arrOf_len hml, hdl])
    · have hdl : ss.drop d.length = [] := List.drop_eq_nil_of_le (by omega)
      rw [hdl, List.append_nil, heapOf_nil] at h
      simpa using h
theorem fill_Tri (w0 : Base) (η : Heap) (va : Value) (ss : List Strip) (hs : ∀ s ∈ ss, s.ok 79 21 triK) (ha : SlA (St w0 η) va 23 ss.length (arrOf ss)) :
  CallsT Tryz.prog 41 [va] (St w0 (heapOf ss ++ η)) fun _ A' => A' = St w0 (heapOf (ss.map (fillS 21)) ++ η) := by
 have hml : ∀ s ∈ ss, s.mark.length = 21 := fun s h => (hs s h).mints.length
 obtain ⟨hal, ada, ca, rfl, ⟨hca, hca2⟩, hra⟩ := ha
 refine CallsT.body Tryz.func41 rfl rfl ?_
 simp only [Tryz.ntmps41, slotsOf, Nat.reduceAdd]
 refine Qe (Qg ?_)
 refine Qa rfl rfl (Qd rfl rfl rfl) ?_
 refine Qf (Qb (Qr ?_))
 refine TC_loop (γ := {i : Nat // i ≤ ss.length}) (fun t => [(0, true, .slice ada ss.length ca), (2, true, .int .i64 (t.1 : Int))]) (fun t => St w0 (heapOf ((ss.take t.1).map (fillS 21)) ++ (heapOf (ss.drop t.1) ++ η))) (fun t => ss.length - t.1) ⟨0, by omega⟩ ⟨rfl, rfl, trivial⟩ (fun _ h => by simpa [heapOf] using h) ?_
 rintro ⟨i, hi⟩
 dsimp only
 refine Qe (Qe (Qg ?_))
 refine Qa rfl rfl (Qc rfl rfl rfl) ?_
 refine Qa rfl rfl (Qc rfl rfl rfl) ?_
 refine Qa rfl rfl (Za rfl rfl Tryz.underlying42 rfl) ?_
 refine Qa rfl rfl (QT_lss rfl rfl rfl rfl) ?_
 refine Qf (Qb ?_)
 refine Qm rfl (fun h7 => ?_) (fun h7 => ?_)
 ·
  refine Qt (Qb (Qe (Qr (Qe ?_))))
  have hin : i < ss.length := by omega
  obtain ⟨ba, oa, rfl, hrA⟩ := hra.resolve_left (by omega)
  obtain ⟨s, hsi⟩ : ∃ s, ss[i]? = some s := ⟨_, List.getElem?_eq_getElem hin⟩
  obtain ⟨hat1, hat2, hat3, hat4⟩ := arrOf_at hml hsi
  have hdrop : ss.drop i = s :: ss.drop (i + 1) := by
   rw [List.drop_eq_getElem_cons hin]
   congr 1
   exact (List.getElem?_eq_some_iff.1 hsi).2
  have htake : (ss.take (i + 1)).map (fillS 21) = (ss.take i).map (fillS 21) ++ [fillS 21 s] := by
   rw [List.take_add_one, hsi]; simp
  have hok := hs s (List.mem_of_getElem? hsi)
  have hmls := hml s (List.mem_of_getElem? hsi)
  rw [hdrop, heapOf_cons]
  obtain ⟨sv, sn, sxs, slong, smk, sH⟩ := s
  obtain ⟨⟨hfl, hfr⟩, hmk, hfew⟩ := hok
  dsimp only at hfl hfr hmk hfew hmls hat1 hat2 hat3 hat4
  have hsv : ∃ sad scap, sv = .slice sad sn scap := by
   rcases hfr with ⟨rfl, rfl, _⟩ | ⟨b, cap, rest, rfl, _⟩
   · exact ⟨_, _, rfl⟩
   · exact ⟨_, _, rfl⟩
  obtain ⟨sad, scap, rfl⟩ := hsv
  refine Qg ?_
  refine Qa rfl rfl (Qd rfl rfl rfl) ?_
  refine Qf (Qb (Qr ?_))
  refine TC_loop (γ := {k : Nat // k ≤ sn}) (fun t => [(0, true, .slice (some ⟨ba, oa, none⟩) ss.length ca), (2, true, .int .i64 (i : Int)), (3, true, .int .i64 (t.1 : Int))]) (fun t => St w0 (fillH 21 t.1 smk sH ++ (heapOf ((ss.take i).map (fillS 21)) ++ (heapOf (ss.drop (i + 1)) ++ η)))) (fun t => sn - t.1) ⟨0, by omega⟩ ⟨rfl, rfl, rfl, trivial⟩ (fun _ h => h.cnt (fun p => by simp only [fillH_zero, List.countP_append]; omega)) ?_
  rintro ⟨k, hk⟩
  dsimp only
  refine Qe (Qe (Qg ?_))
  refine Qa rfl rfl (Qc rfl rfl rfl) ?_
  refine Qa rfl rfl (Qc rfl rfl rfl) ?_
  refine Qa rfl rfl (Qc rfl rfl rfl) ?_
  refine Qa rfl rfl (Qq (i) rfl rfl Tryz.underlying42 KF.sz_160 rfl rfl (rfl) (fun _ => hin)) ?_
  refine Qa rfl rfl (Qh rfl rfl KF.fld_160_0 rfl) ?_
  refine Qa rfl rfl (Qw (i * 23) rfl rfl Tryz.underlying61 rfl (hrA.mono fun _ h => h.cnt fun p => by simp only [List.countP_append]; omega) rfl (fun _ => hat1)) ?_
  refine Qa rfl rfl (Za rfl rfl Tryz.underlying61 rfl) ?_
  refine Qa rfl rfl (QT_lss rfl rfl rfl rfl) ?_
  refine Qf (Qb ?_)
  refine Qm rfl (fun h17 => ?_) (fun h17 => ?_)
  ·
   refine Qt (Qb (Qe (Qr ?_)))
   have hkn : k < sn := by omega
   have hszm : Sz Tryz.prog 79 smk.length := by rw [hmls]; exact KF.sz_79
   have hkz : (k + 1) * 21 ≤ sn * 21 := Nat.mul_le_mul_right _ (by omega)
   obtain ⟨b, cap, rest, hv, hcap, hlen, rfl⟩ : ∃ b cap rest, Value.slice sad sn scap = .slice (some ⟨b, 0, none⟩) sn cap ∧ (sn ≤ cap ∧ cap ≤ 9223372036854775807) ∧ cap * 21 ≤ (sxs ++ rest).length ∧ sH = [(b, 79, sxs ++ rest)] := by
    rcases hfr with ⟨_, h0, _⟩ | h
    · omega
    · exact h
   simp only [Value.slice.injEq, true_and] at hv
   obtain ⟨rfl, rfl⟩ := hv
   have hcz : sn * 21 ≤ scap * 21 := Nat.mul_le_mul_right _ (by omega)
   refine TC_draw [(0, 0), (1, 0), (2, 0), (3, 0), (4, 0), (5, 0), (6, 0), (7, 0), (8, 0), (9, 0), (10, 0), (11, 0), (12, 1)] KF.mixed (by kernel_rfl) (St.calm _ _) ?_
   refine Qk rfl rfl rfl (fun _ => Qc rfl rfl rfl) ?_
   refine Qk rfl rfl rfl (fun _ => Qc rfl rfl rfl) ?_
   refine Qk rfl rfl rfl (fun _ => Qq (i) rfl rfl Tryz.underlying42 KF.sz_160 rfl rfl (rfl) (fun _ => hin)) ?_
   refine Qk rfl rfl rfl (fun _ => Qh rfl rfl KF.fld_160_0 rfl) ?_
   refine Qz rfl rfl rfl (Qw (i * 23) rfl rfl Tryz.underlying61 rfl (hrA.mono fun _ h => h.cnt fun p => by simp only [List.countP_append]; omega) rfl (fun _ => hat1)) ?_
   refine Qk rfl rfl rfl (fun _ => Qc rfl rfl rfl) ?_
   refine Qk rfl rfl rfl (fun _ => Qc rfl rfl rfl) ?_
   refine Qk rfl rfl rfl (fun _ => Qc rfl rfl rfl) ?_
   refine Qk rfl rfl rfl (fun _ => Qq (i) rfl rfl Tryz.underlying42 KF.sz_160 rfl rfl (rfl) (fun _ => hin)) ?_
   refine Qk rfl rfl rfl (fun _ => Qh rfl rfl KF.fld_160_2 rfl) ?_
   refine Qz rfl rfl rfl (Qy (i * 23 + 2) rfl rfl Tryz.underlying79 rfl KF.sz_79 (hrA.mono fun _ h => h.cnt fun p => by simp only [List.countP_append]; omega) rfl (fun _ => hat4) (fun _ => hat3)) ?_
   refine Qk rfl rfl rfl (fun _ => Qq (k) rfl rfl Tryz.underlying61 KF.sz_79 rfl rfl (rfl) (fun _ => hkn)) ?_
   refine TV_e0 rfl rfl rfl (rfl) (ET_store (vs := smk) 0 rfl rfl rfl rfl hszm rfl (by rw [List.all_eq_true]; exact hmk.oneCell) (Nat.ble_eq_true_of_le (by simp only [List.length_append, List.length_drop, marks_len hmls]; omega))) ?_
   rintro _ _ ⟨rfl, rfl⟩
   refine ⟨_, .drop (by kernel_rfl) (.drop (by kernel_rfl) (.nil)), ?_⟩
   refine TV_end ?_
   refine Qo ?_
   refine Qb ?_
   skip
   refine Qg ?_
   refine Qa rfl rfl (Qc rfl rfl rfl) ?_
   refine Qa rfl rfl (Zb rfl rfl rfl rfl (fun _ => ⟨by omega, by omega⟩)) ?_
   refine Qa rfl rfl (Qd rfl rfl rfl) ?_
   refine Qf ?_
   refine TX_round ⟨k + 1, by omega⟩ (by dsimp only; omega) ⟨rfl, rfl, slotI rfl (by dsimp only; omega), trivial⟩ (fun w h => ?_)
   simp only [fillH, List.map_cons, List.map_nil, List.singleton_append, List.cons_append, List.nil_append, upd, Nat.zero_add] at h ⊢
   rw [fill_step hmls (by omega)] at h
   exact h
  ·
   refine Zd ?_
   refine Qi (Qi ?_)
   refine Qp ?_
   refine Qo ?_
   refine Qb (Qg ?_)
   refine Qa rfl rfl (Qc rfl rfl rfl) ?_
   refine Qa rfl rfl (Zb rfl rfl rfl rfl (fun _ => ⟨by omega, by omega⟩)) ?_
   refine Qa rfl rfl (Qd rfl rfl rfl) ?_
   refine Qf ?_
   refine TX_round ⟨i + 1, by omega⟩ (by dsimp only; omega) ⟨rfl, slotI rfl (by dsimp only; omega), trivial⟩ (fun w h => h.cnt fun p => ?_)
   obtain rfl : k = sn := by omega
   rw [htake, heapOf_append, heapOf_cons, heapOf_nil]
   simp only [fillS, List.countP_append, List.countP_nil]; omega
 ·
  refine Zd ?_
  refine Qi (Qi ?_)
  refine Qp ?_
  refine Qs (.inr rfl) (res0 rfl) ⟨_, rfl, fun w h => ?_⟩
  obtain rfl : i = ss.length := by omega
  simpa [heapOf] using h
theorem marked_Tri (w0 : Base) (η : Heap) (va : Value) (ss : List Strip) (hs : ∀ s ∈ ss, s.grown (St w0 η) 21 triK) (ha : SlA (St w0 η) va 23 ss.length (arrOf ss)) :
    CallsT Tryz.prog 67 [va] (St w0 η) fun v A' => v = .bool true ∧ A' = St w0 η := by
  have hml : ∀ s ∈ ss, s.mark.length = 21 := fun s h => (hs s h).mints.length
  obtain ⟨hal, ada, ca, rfl, ⟨hca, hca2⟩, hra⟩ := ha
  refine CallsT.body Tryz.func67 rfl rfl ?_
  simp only [Tryz.ntmps67, slotsOf, Nat.reduceAdd]
  refine Qe (Qg ?_)
  refine Qa rfl rfl (Qd rfl rfl rfl) ?_
  refine Qf (Qb (Qe (Qe (Qg ?_))))
  refine Qa rfl rfl (Qd rfl rfl rfl) ?_
  refine Qf (Qb (Qr ?_))
  refine TC_loop (γ := {i : Nat // i ≤ ss.length}) (fun t => [(0, true, .slice ada ss.length ca), (3, true, .int .i64 (t.1 : Int))]) (fun t => St w0 η) (fun t => ss.length - t.1) ⟨0, by omega⟩ ⟨rfl, rfl, trivial⟩ (fun _ h => h) ?_
  rintro ⟨i, hi⟩
  dsimp only
  refine Qe (Qe (Qg ?_))
  refine Qa rfl rfl (Qc rfl rfl rfl) ?_
  refine Qa rfl rfl (Qc rfl rfl rfl) ?_
  refine Qa rfl rfl (Za rfl rfl Tryz.underlying42 rfl) ?_
  refine Qa rfl rfl (QT_lss rfl rfl rfl rfl) ?_
  refine Qf (Qb ?_)
  refine Qm rfl (fun h8 => ?_) (fun h8 => ?_)
  ·
    refine Qt (Qb (Qe (Qr (Qe ?_))))
    have hin : i < ss.length := by omega
    obtain ⟨ba, oa, rfl, hrA⟩ := hra.resolve_left (by omega)
    obtain ⟨s, hsi⟩ : ∃ s, ss[i]? = some s := ⟨_, List.getElem?_eq_getElem hin⟩
    obtain ⟨hat1, hat2, hat3, hat4⟩ := arrOf_at hml hsi
    have hok := hs s (List.mem_of_getElem? hsi)
    have hmls := hml s (List.mem_of_getElem? hsi)
    obtain ⟨sv, sn, sxs, slong, smk, sH⟩ := s
    obtain ⟨hl, hlong, hmk, hfew⟩ := hok
    dsimp only at hl hlong hmk hfew hmls hat1 hat2 hat3 hat4
    obtain ⟨hll, lad, lcap, lb, loff, rfl, hlc, hlad, hlr⟩ := hl.some
    obtain ⟨hgl, gad, gcap, gb, goff, rfl, hgc, hgad, hgr⟩ := hlong.some
    obtain rfl := hgad (by omega)
    have hself : eqC smk smk = true := eqC_refl hmk
    refine Qg ?_
    refine Qa rfl rfl (Qd rfl rfl rfl) ?_
    refine Qf (Qb (Qr ?_))
    refine TC_loop (γ := {k : Nat // k ≤ sn + 24}) (fun t => [(0, true, .slice (some ⟨ba, oa, none⟩) ss.length ca), (3, true, .int .i64 (i : Int)), (4, true, .int .i64 (t.1 : Int))]) (fun t => St w0 η) (fun t => sn + 24 - t.1) ⟨0, by omega⟩ ⟨rfl, rfl, rfl, trivial⟩ (fun _ h => h) ?_
    rintro ⟨k, hk⟩
    dsimp only
    refine Qe (Qe (Qg ?_))
    refine Qa rfl rfl (Qc rfl rfl rfl) ?_
    refine Qa rfl rfl (Qc rfl rfl rfl) ?_
    refine Qa rfl rfl (Qc rfl rfl rfl) ?_
    refine Qa rfl rfl (Qq (i) rfl rfl Tryz.underlying42 KF.sz_160 rfl rfl (rfl) (fun _ => hin)) ?_
    refine Qa rfl rfl (Qh rfl rfl KF.fld_160_1 rfl) ?_
    refine Qa rfl rfl (Qw (i * 23 + 1) rfl rfl Tryz.underlying61 rfl hrA rfl (fun _ => hat2)) ?_
    refine Qa rfl rfl (Za rfl rfl Tryz.underlying61 rfl) ?_
    refine Qa rfl rfl (QT_lss rfl rfl rfl rfl) ?_
    refine Qf (Qb ?_)
    refine Qm rfl (fun h18 => ?_) (fun h18 => ?_)
    ·
      refine Qt (Qb (Qe (Qr (Qe ?_))))
      have hkn : k < sn + 24 := by omega
      have hz1 : k * 21 + 21 ≤ (marks (sn + 24) smk).length := by
        rw [marks_len hmls]
        have : (k + 1) * 21 ≤ (sn + 24) * 21 := Nat.mul_le_mul_right _ (by omega)
        rw [Nat.add_mul] at this; omega
      have hz2 : (true && !decide ((k : Int) < (sn : Int))) = true ∨ k * 21 + 21 ≤ (marks sn smk).length := by
        by_cases h : k < sn
        · refine .inr ?_
          rw [marks_len hmls]
          have : (k + 1) * 21 ≤ sn * 21 := Nat.mul_le_mul_right _ (by omega)
          rw [Nat.add_mul] at this; omega
        · refine .inl ?_
          simpa using h
      refine TC_draw [(0, 0), (1, 0), (2, 0), (3, 0), (4, 0), (5, 0), (6, 0), (7, 0), (8, 0), (9, 0), (10, 0), (11, 0), (12, 0), (13, 0), (14, 0), (15, 0), (16, 0), (17, 0), (18, 0), (19, 0), (20, 0), (21, 0), (22, 0), (23, 0), (24, 0), (25, 0), (26, 0), (27, 0), (28, 0), (29, 0), (30, 0), (31, 0), (32, 0), (33, 0), (34, 0), (35, 0), (36, 0), (37, 0), (38, 0), (39, 0)] KF.mixed (by kernel_rfl) (St.calm _ _) ?_
      refine Qk rfl rfl rfl (fun _ => Qc rfl rfl rfl) ?_
      refine Qk rfl rfl rfl (fun _ => Qc rfl rfl rfl) ?_
      refine Qk rfl rfl rfl (fun _ => Qq (i) rfl rfl Tryz.underlying42 KF.sz_160 rfl rfl (rfl) (fun _ => hin)) ?_
      refine Qk rfl rfl rfl (fun _ => Qh rfl rfl KF.fld_160_1 rfl) ?_
      refine Qz rfl rfl rfl (Qw (i * 23 + 1) rfl rfl Tryz.underlying61 rfl hrA rfl (fun _ => hat2)) ?_
      refine Qk rfl rfl rfl (fun _ => Qc rfl rfl rfl) ?_
      refine Qk rfl rfl rfl (fun _ => Qq (k) rfl rfl Tryz.underlying61 KF.sz_79 rfl rfl (rfl) (fun _ => hkn)) ?_
      refine Qz rfl rfl rfl (Qy (k * 21) rfl rfl Tryz.underlying79 rfl KF.sz_79 hgr rfl (fun _ => hz1) (fun _ => elem_marks hmls hkn)) ?_
      refine Qk rfl rfl rfl (fun _ => Qc rfl rfl rfl) ?_
      refine Qk rfl rfl rfl (fun _ => Qc rfl rfl rfl) ?_
      refine Qk rfl rfl rfl (fun _ => Qq (i) rfl rfl Tryz.underlying42 KF.sz_160 rfl rfl (rfl) (fun _ => hin)) ?_
      refine Qk rfl rfl rfl (fun _ => Qh rfl rfl KF.fld_160_2 rfl) ?_
      refine Qz rfl rfl rfl (Qy (i * 23 + 2) rfl rfl Tryz.underlying79 rfl KF.sz_79 hrA rfl (fun _ => hat4) (fun _ => hat3)) ?_
      refine Qk rfl rfl rfl (fun _ => QT_neA rfl rfl eq_Tri rfl rfl (fun _ => hmk) (fun _ => hmk)) ?_
      refine Qk rfl rfl rfl (fun _ => Qc rfl rfl rfl) ?_
      refine Qk rfl rfl rfl (fun _ => Qc rfl rfl rfl) ?_
      refine Qk rfl rfl rfl (fun _ => Qc rfl rfl rfl) ?_
      refine Qk rfl rfl rfl (fun _ => Qc rfl rfl rfl) ?_
      refine Qk rfl rfl rfl (fun _ => Qq (i) rfl rfl Tryz.underlying42 KF.sz_160 rfl rfl (rfl) (fun _ => hin)) ?_
      refine Qk rfl rfl rfl (fun _ => Qh rfl rfl KF.fld_160_0 rfl) ?_
      refine Qz rfl rfl rfl (Qw (i * 23) rfl rfl Tryz.underlying61 rfl hrA rfl (fun _ => hat1)) ?_
      refine Qk rfl rfl rfl (fun _ => Za rfl rfl Tryz.underlying61 rfl) ?_
      refine Qk rfl rfl rfl (fun _ => QT_lss rfl rfl rfl rfl) ?_
      refine Qk rfl rfl rfl (fun _ => Qc rfl rfl rfl) ?_
      refine Qk rfl rfl rfl (fun _ => Qc rfl rfl rfl) ?_
      refine Qk rfl rfl rfl (fun _ => Qc rfl rfl rfl) ?_
      refine Qk rfl rfl rfl (fun _ => Qq (i) rfl rfl Tryz.underlying42 KF.sz_160 rfl rfl (rfl) (fun _ => hin)) ?_
      refine Qk rfl rfl rfl (fun _ => Qh rfl rfl KF.fld_160_0 rfl) ?_
      refine Qz rfl rfl rfl (Qw (i * 23) rfl rfl Tryz.underlying61 rfl hrA rfl (fun _ => hat1)) ?_
      refine Qk rfl rfl rfl (fun _ => Qc rfl rfl rfl) ?_
      refine Qk rfl rfl rfl (fun _ => QT_indexG k rfl rfl Tryz.underlying61 KF.sz_79 rfl rfl rfl (fun h => by simp at h; omega) (fun h => hlad (by simp at h; omega))) ?_
      refine Qz rfl rfl rfl (Qy (k * 21) rfl rfl Tryz.underlying79 rfl KF.sz_79 hlr rfl (fun h => by simp at h hz2; omega) (fun h => elem_marks hmls (by simp at h; omega))) ?_
      refine Qk rfl rfl rfl (fun _ => Qc rfl rfl rfl) ?_
      refine Qk rfl rfl rfl (fun _ => Qc rfl rfl rfl) ?_
      refine Qk rfl rfl rfl (fun _ => Qq (i) rfl rfl Tryz.underlying42 KF.sz_160 rfl rfl (rfl) (fun _ => hin)) ?_
      refine Qk rfl rfl rfl (fun _ => Qh rfl rfl KF.fld_160_2 rfl) ?_
      refine Qz rfl rfl rfl (Qy (i * 23 + 2) rfl rfl Tryz.underlying79 rfl KF.sz_79 hrA rfl (fun _ => hat4) (fun _ => hat3)) ?_
      refine Qk rfl rfl rfl (fun _ => QT_neA rfl rfl eq_Tri rfl rfl (fun _ => hmk) (fun _ => hmk)) ?_
      refine Qk rfl rfl rfl (fun _ => QT_and rfl rfl rfl rfl) ?_
      refine Qk rfl rfl rfl (fun _ => QT_or rfl rfl rfl rfl) ?_
      refine TV_end (Qb ?_)
      refine TC_cond rfl (fun h => absurd (h.symm.trans ((show (_ : Bool) = false by rw [hself]; simp))) (by decide)) (fun _ => ?_)
      refine Qt ?_
      refine Qo ?_
      refine Qb (Qg ?_)
      refine Qa rfl rfl (Qc rfl rfl rfl) ?_
      refine Qa rfl rfl (Zb rfl rfl rfl rfl (fun _ => ⟨by omega, by omega⟩)) ?_
      refine Qa rfl rfl (Qd rfl rfl rfl) ?_
      refine Qf ?_
      exact TX_round ⟨k + 1, by omega⟩ (by dsimp only; omega) ⟨rfl, rfl, slotI rfl (by dsimp only; omega), trivial⟩ (fun w h => h)
    ·
      refine Zd ?_
      refine Qi (Qi ?_)
      refine Qp ?_
      refine Qo ?_
      refine Qb (Qg ?_)
      refine Qa rfl rfl (Qc rfl rfl rfl) ?_
      refine Qa rfl rfl (Zb rfl rfl rfl rfl (fun _ => ⟨by omega, by omega⟩)) ?_
      refine Qa rfl rfl (Qd rfl rfl rfl) ?_
      refine Qf ?_
      exact TX_round ⟨i + 1, by omega⟩ (by dsimp only; omega) ⟨rfl, slotI rfl (by dsimp only; omega), trivial⟩ (fun w h => h)
  ·
    refine Zd ?_
    refine Qi (Qi ?_)
    refine Qp ?_
    refine Qb (Qe (Qg ?_))
    refine Qa rfl rfl (Qd rfl rfl rfl) ?_
    refine Qf (Qb ?_)
    refine Qu ?_
    exact Qs (.inl rfl) (res1 rfl rfl) ⟨_, ⟨rfl, rfl⟩, (fun _ h => by first | exact h | exact h.tail | exact h.tail.tail | exact h.tail.tail.tail | exact h.tail.tail.tail.tail | exact h.tail.tail.tail.tail.tail | exact h.tail.tail.tail.tail.tail.tail | exact h.tail.tail.tail.tail.tail.tail.tail | exact h.tail.tail.tail.tail.tail.tail.tail.tail | exact h.tail.tail.tail.tail.tail.tail.tail.tail.tail | exact h.tail.tail.tail.tail.tail.tail.tail.tail.tail.tail | exact h.tail.tail.tail.tail.tail.tail.tail.tail.tail.tail.tail | exact h.tail.tail.tail.tail.tail.tail.tail.tail.tail.tail.tail.tail | exact h.tail.tail.tail.tail.tail.tail.tail.tail.tail.tail.tail.tail.tail)⟩
theorem grow_Tri (w0 : Base) (η H : Heap) (va : Value) (ss : List Strip) (hs : ∀ s ∈ ss, s.ok 79 21 triK ∧ s.xs = marks s.n s.mark) (ha : Frag 160 23 va ss.length (arrOf ss) H) :
    CallsT Tryz.prog 54 [va] (St w0 (H ++ (heapOf ss ++ η))) fun _ A' => ∃ ss' H', ss'.length = ss.length ∧ (∀ s ∈ ss', s.grown (St w0 (heapOf ss')) 21 triK) ∧ Frag 160 23 va ss'.length (arrOf ss') H' ∧ A' = St w0 (H' ++ (heapOf ss' ++ η)) := by
  have hml : ∀ s ∈ ss, s.mark.length = 21 := fun s h => (hs s h).1.mints.length
  have hF := ha
  obtain ⟨ada, ca, rfl, ⟨hca, hca2⟩, hblk⟩ := ha.slice
  have hal := ha.1
  refine CallsT.body Tryz.func54 rfl rfl ?_
  simp only [Tryz.ntmps54, slotsOf, Nat.reduceAdd]
  refine Qe (Qg ?_)
  refine Qa rfl rfl (Qd rfl rfl rfl) ?_
  refine Qf (Qb (Qr ?_))
  refine TC_loop (γ := {d : List Strip // d.length ≤ ss.length ∧ ∀ s ∈ d, s.grown (St w0 s.H) 21 triK}) (fun t => [(0, true, .slice ada ss.length ca), (2, true, .int .i64 (t.1.length : Int))]) (fun t => St w0 (reH (arrOf ss).length (arrOf (t.1 ++ ss.drop t.1.length)) H ++ (heapOf t.1 ++ (heapOf (ss.drop t.1.length) ++ η)))) (fun t => ss.length - t.1.length) ⟨[], by simp, by simp⟩ ⟨rfl, rfl, trivial⟩ (fun _ h => by simpa [heapOf_nil, hF.re_self] using h) ?_
  rintro ⟨d, hi, hd⟩
  dsimp only
  refine Qe (Qe (Qg ?_))
  refine Qa rfl rfl (Qc rfl rfl rfl) ?_
  refine Qa rfl rfl (Qc rfl rfl rfl) ?_
  refine Qa rfl rfl (Za rfl rfl Tryz.underlying42 rfl) ?_
  refine Qa rfl rfl (QT_lss rfl rfl rfl rfl) ?_
  refine Qf (Qb ?_)
  refine Qm rfl (fun h7 => ?_) (fun h7 => ?_)
  ·
    refine Qt (Qb (Qe (Qr (Qe ?_))))
    have hin : d.length < ss.length := by omega
    have hmd : ∀ s ∈ d, s.mark.length = 21 := fun s h => (hd s h).mints.length
    obtain ⟨ba, rest, rfl, rfl⟩ := hblk (by omega)
    obtain ⟨s, hsi⟩ : ∃ s, ss[d.length]? = some s := ⟨_, List.getElem?_eq_getElem hin⟩
    have hdrop : ss.drop d.length = s :: ss.drop (d.length + 1) := by
      rw [List.drop_eq_getElem_cons hin]
      congr 1
      exact (List.getElem?_eq_some_iff.1 hsi).2
    obtain ⟨hok, hxs⟩ := hs s (List.mem_of_getElem? hsi)
    have hmls := hml s (List.mem_of_getElem? hsi)
    have hmt : ∀ s ∈ ss.drop (d.length + 1), s.mark.length = 21 := fun s h => hml s (List.mem_of_mem_drop h)
    have hI := LongInv.start (w0 := w0) hok hxs
    have hmi := hok.mints
    have hfew := hok.few
    obtain ⟨sad, scap, hsv, hscap, hsb⟩ := hok.frag.slice
    obtain ⟨sv, sn, sxs, slong, smk, sH⟩ := s
    dsimp only at hI hmi hfew hmls hsv hscap hsb
    subst hsv
    have hall : ∀ lv : Value, ∀ s' ∈ (d ++ (⟨.slice sad sn scap, sn, sxs, lv, smk, sH⟩ : Strip) :: ss.drop (d.length + 1)), s'.mark.length = 21 := fun lv s' h => by
      rcases List.mem_append.1 h with h | h
      · exact hmd s' h
      · rcases List.mem_cons.1 h with rfl | h
        · exact hmls
        · exact hmt s' h
    have hlens : ∀ lv : Value, (arrOf (d ++ (⟨.slice sad sn scap, sn, sxs, lv, smk, sH⟩ : Strip) :: ss.drop (d.length + 1))).length = ss.length * 23 := fun lv => by
      rw [arrOf_len (hall lv), List.length_append, List.length_cons, List.length_drop]
      congr 1; omega
    have hat : ∀ lv : Value, (arrOf (d ++ (⟨.slice sad sn scap, sn, sxs, lv, smk, sH⟩ : Strip) :: ss.drop (d.length + 1)))[d.length * (21 + 2)]? = some (.slice sad sn scap) ∧ (arrOf (d ++ (⟨.slice sad sn scap, sn, sxs, lv, smk, sH⟩ : Strip) :: ss.drop (d.length + 1)))[d.length * (21 + 2) + 1]? = some lv ∧ ((arrOf (d ++ (⟨.slice sad sn scap, sn, sxs, lv, smk, sH⟩ : Strip) :: ss.drop (d.length + 1))).drop (d.length * (21 + 2) + 2)).take 21 = smk ∧ d.length * (21 + 2) + 2 + 21 ≤ (arrOf (d ++ (⟨.slice sad sn scap, sn, sxs, lv, smk, sH⟩ : Strip) :: ss.drop (d.length + 1))).length := fun lv => arrOf_at (hall lv) (i := d.length) (s := ⟨_, sn, sxs, lv, smk, sH⟩) (by simp)
    have hset : ∀ lv r : Value, setAt (arrOf (d ++ (⟨.slice sad sn scap, sn, sxs, lv, smk, sH⟩ : Strip) :: ss.drop (d.length + 1)) ++ rest) (d.length * (21 + 2) + 1) [r] = arrOf (d ++ (⟨.slice sad sn scap, sn, sxs, r, smk, sH⟩ : Strip) :: ss.drop (d.length + 1)) ++ rest := fun lv r => arrOf_set hmd rest
    have hin2 : (d.length + 1) * 23 ≤ ss.length * 23 := Nat.mul_le_mul_right _ (by omega)
    rw [hdrop]
    refine TC_A (St w0 ((ba, 160, arrOf (d ++ (⟨.slice sad sn scap, sn, sxs, slong, smk, sH⟩ : Strip) :: ss.drop (d.length + 1)) ++ rest) :: (sH ++ ([] ++ (heapOf d ++ (heapOf (ss.drop (d.length + 1)) ++ η)))))) (fun w h => by
      simp only [reH, List.map_cons, List.map_nil, List.drop_left, heapOf_cons] at h
      exact h.cnt fun p => by simp only [List.countP_append, List.countP_cons, List.countP_nil]; omega) ?_
    have hrA : ∀ (X : Heap) (lv : Value), Rd (St w0 ((ba, 160, arrOf (d ++ (⟨.slice sad sn scap, sn, sxs, lv, smk, sH⟩ : Strip) :: ss.drop (d.length + 1)) ++ rest) :: X)) ba 0 (arrOf (d ++ (⟨.slice sad sn scap, sn, sxs, lv, smk, sH⟩ : Strip) :: ss.drop (d.length + 1))) := fun X lv => Rd.ownA (List.mem_cons_self ..) 0 (by simp)
    refine Qg ?_
    refine Qa rfl rfl (Qc rfl rfl rfl) ?_
    refine Qa rfl rfl (Qc rfl rfl rfl) ?_
    refine Qa rfl rfl (Qc rfl rfl rfl) ?_
    refine Qa rfl rfl (Qc rfl rfl rfl) ?_
    refine Qa rfl rfl (Qq (d.length) rfl rfl Tryz.underlying42 KF.sz_160 rfl rfl (rfl) (fun _ => hin)) ?_
    refine Qa rfl rfl (Qh rfl rfl KF.fld_160_0 rfl) ?_
    refine Qa rfl rfl (Qw (d.length * 23) rfl rfl Tryz.underlying61 rfl (hrA _ slong) rfl (fun _ => (hat slong).1)) ?_
    refine Qa rfl rfl (Qq (d.length) rfl rfl Tryz.underlying42 KF.sz_160 rfl rfl (rfl) (fun _ => hin)) ?_
    refine Qa rfl rfl (Qh rfl rfl KF.fld_160_1 rfl) ?_
    refine TL_e0 rfl rfl (rfl) (ET_store (vs := [.slice sad sn scap]) 0 rfl rfl rfl rfl KF.sz_61 rfl rfl (Nat.ble_eq_true_of_le (by have := hlens slong; simp only [List.length_append, List.length_cons, List.length_nil]; omega))) ?_
    rintro _ _ ⟨rfl, rfl⟩
    refine Qf (Qb (Qe ?_))
    refine TC_A (St w0 ((ba, 160, arrOf (d ++ (⟨.slice sad sn scap, sn, sxs, (.slice sad sn scap), smk, sH⟩ : Strip) :: ss.drop (d.length + 1)) ++ rest) :: (sH ++ ([] ++ (heapOf d ++ (heapOf (ss.drop (d.length + 1)) ++ η)))))) (fun w h => by
      simp only [upd, Nat.zero_add] at h
      rw [hset slong] at h
      exact h) ?_
    refine Qg ?_
    refine Qa rfl rfl (Qd rfl rfl rfl) ?_
    refine Qf (Qb (Qr ?_))
    refine TC_loop (γ := {t : Nat × Value × Heap × Heap // t.1 ≤ 24 ∧ LongInv w0 79 21 (.slice sad sn scap) sn smk t.2.1 (sn + t.1) t.2.2.1 t.2.2.2}) (fun t => [(0, true, .slice (some ⟨ba, 0, none⟩) ss.length ca), (2, true, .int .i64 (d.length : Int)), (3, true, .int .i64 (t.1.1 : Int))]) (fun t => St w0 ((ba, 160, arrOf (d ++ (⟨.slice sad sn scap, sn, sxs, t.1.2.1, smk, sH⟩ : Strip) :: ss.drop (d.length + 1)) ++ rest) :: (t.1.2.2.1 ++ (t.1.2.2.2 ++ (heapOf d ++ (heapOf (ss.drop (d.length + 1)) ++ η)))))) (fun t => 24 - t.1.1) ⟨(0, .slice sad sn scap, sH, []), by dsimp only; omega, hI⟩ ⟨rfl, rfl, rfl, trivial⟩ (fun _ h => h) ?_
    rintro ⟨⟨k, lv, HL, KK⟩, hk, hL⟩
    dsimp only at hk hL ⊢
    refine Qe (Qe (Qg ?_))
    refine Qa rfl rfl (Qc rfl rfl rfl) ?_
    refine Qa rfl rfl (QT_lss rfl rfl rfl rfl) ?_
    refine Qf (Qb ?_)
    refine Qm rfl (fun h20 => ?_) (fun h20 => ?_)
    ·
      refine Qt (Qb (Qe (Qr ?_)))
      have hk24 : k < 24 := by omega
      refine TC_draw [(0, 0), (1, 0), (2, 0), (3, 0), (4, 0), (5, 0), (6, 0), (7, 0), (8, 0), (9, 0), (10, 0), (11, 0), (12, 1), (13, 1), (14, 0), (15, 0), (16, 1)] KF.mixed (by kernel_rfl) (St.calm _ _) ?_
      refine Qk rfl rfl rfl (fun _ => Qc rfl rfl rfl) ?_
      refine Qk rfl rfl rfl (fun _ => Qc rfl rfl rfl) ?_
      refine Qk rfl rfl rfl (fun _ => Qc rfl rfl rfl) ?_
      refine Qk rfl rfl rfl (fun _ => Qc rfl rfl rfl) ?_
      refine Qk rfl rfl rfl (fun _ => Qq (d.length) rfl rfl Tryz.underlying42 KF.sz_160 rfl rfl (rfl) (fun _ => hin)) ?_
      refine Qk rfl rfl rfl (fun _ => Qh rfl rfl KF.fld_160_1 rfl) ?_
      refine Qz rfl rfl rfl (Qw (d.length * 23 + 1) rfl rfl Tryz.underlying61 rfl ((hrA [] lv).mono fun _ h => h.cnt fun p => by simp only [List.countP_append, List.countP_cons, List.countP_nil]; omega) rfl (fun _ => (hat lv).2.1)) ?_
      refine Qk rfl rfl rfl (fun _ => Qc rfl rfl rfl) ?_
      refine Qk rfl rfl rfl (fun _ => Qc rfl rfl rfl) ?_
      refine Qk rfl rfl rfl (fun _ => Qq (d.length) rfl rfl Tryz.underlying42 KF.sz_160 rfl rfl (rfl) (fun _ => hin)) ?_
      refine Qk rfl rfl rfl (fun _ => Qh rfl rfl KF.fld_160_2 rfl) ?_
      refine Qz rfl rfl rfl (Qy (d.length * 23 + 2) rfl rfl Tryz.underlying79 rfl KF.sz_79 ((hrA [] lv).mono fun _ h => h.cnt fun p => by simp only [List.countP_append, List.countP_cons, List.countP_nil]; omega) rfl (fun _ => (hat lv).2.2.2) (fun _ => (hat lv).2.2.1)) ?_
      refine TV_e rfl rfl rfl rfl (rfl) (ET_buildN [_] rfl Tryz.underlying61 KF.sz_79 KF.zero_79 rfl rfl rfl (by simp [Value.cells, hmls])) ?_
      rintro _ _ ⟨b35, rfl, rfl⟩
      refine ⟨_, .drop (by kernel_rfl) (.keep (by kernel_rfl) rfl (by first | exact Qw (d.length * 23 + 1) rfl rfl Tryz.underlying61 rfl ((hrA [] lv).mono fun _ h => h.cnt fun p => by simp only [List.countP_append, List.countP_cons, List.countP_nil]; omega) rfl (fun _ => (hat lv).2.1)) (.nil)), ?_⟩
      refine TV_e rfl rfl rfl rfl (rfl) (ET_long (L := [_, _]) rfl Tryz.underlying61 el_Tri rfl rfl hL hmls (fun _ h => h) (SlA.own (n := 1) (xs := smk) 0 rfl (by rw [List.drop_zero, List.take_of_length_le (by simp [Value.cells, hmls])]; simp [Value.cells]) (by simp [Value.cells, hmls]) (by omega)) hmi.oneCell (few_b hfew hk24 (by decide)) (few_l hfew hk24)) ?_
      rintro lv2 _ ⟨H', K', hL', rfl⟩
      refine ⟨_, .drop (by kernel_rfl) (.nil), ?_⟩
      obtain ⟨ad2, cap2, rfl, _⟩ := hL'.frag.slice
      refine Qk rfl rfl rfl (fun _ => Qq (d.length) rfl rfl Tryz.underlying42 KF.sz_160 rfl rfl (rfl) (fun _ => hin)) ?_
      refine Qk rfl rfl rfl (fun _ => Qh rfl rfl KF.fld_160_1 rfl) ?_
      refine TV_e0 rfl rfl rfl (rfl) (ET_store (vs := [.slice ad2 (sn + k + 1) cap2]) 1 rfl rfl rfl rfl KF.sz_61 rfl rfl (Nat.ble_eq_true_of_le (by have := hlens lv; simp only [List.length_append, List.length_cons, List.length_nil]; omega))) ?_
      rintro _ _ ⟨rfl, rfl⟩
      refine ⟨_, .nil, ?_⟩
      refine TV_end ?_
      refine Qo ?_
      refine Qb (Qg ?_)
      refine Qa rfl rfl (Qc rfl rfl rfl) ?_
      refine Qa rfl rfl (Zb rfl rfl rfl rfl (fun _ => ⟨by omega, by omega⟩)) ?_
      refine Qa rfl rfl (Qd rfl rfl rfl) ?_
      refine Qf ?_
      refine TX_round ⟨(k + 1, .slice ad2 (sn + k + 1) cap2, H', K'), by dsimp only; omega, hL'⟩ (by dsimp only; omega) ⟨rfl, rfl, slotI rfl (by dsimp only; omega), trivial⟩ (fun w h => ?_)
      simp only [upd, Nat.zero_add] at h
      rw [hset lv] at h
      exact h.tail
    ·
      refine Zd ?_
      refine Qi (Qi ?_)
      refine Qp ?_
      refine Qo ?_
      refine Qb (Qg ?_)
      refine Qa rfl rfl (Qc rfl rfl rfl) ?_
      refine Qa rfl rfl (Zb rfl rfl rfl rfl (fun _ => ⟨by omega, by omega⟩)) ?_
      refine Qa rfl rfl (Qd rfl rfl rfl) ?_
      refine Qf ?_
      obtain rfl : k = 24 := by omega
      have hg := LongInv.grown (s := ⟨.slice sad sn scap, sn, sxs, lv, smk, sH⟩) hL hmi rfl hfew
      refine TX_round ⟨d ++ [⟨.slice sad sn scap, sn, sxs, lv, smk, HL ++ KK⟩], by simp; omega, fun s h => ?_⟩ (by simp only [List.length_append, List.length_cons, List.length_nil]; omega) ⟨rfl, slotI rfl (by simp), trivial⟩ (fun w h => ?_)
      · rcases List.mem_append.1 h with h | h
        · exact hd s h
        · obtain rfl := List.mem_singleton.1 h
          exact hg
      · have e : arrOf ((d ++ [(⟨.slice sad sn scap, sn, sxs, lv, smk, HL ++ KK⟩ : Strip)]) ++ ss.drop (d.length + 1)) = arrOf (d ++ (⟨.slice sad sn scap, sn, sxs, lv, smk, sH⟩ : Strip) :: ss.drop (d.length + 1)) := by
          simp [arrOf, Strip.cells]
        simp only [List.length_append, List.length_cons, List.length_nil, Nat.zero_add, e, heapOf_append, heapOf_cons, heapOf_nil, reH, List.map_cons, List.map_nil, List.drop_left]
        exact h.cnt fun p => by simp only [List.countP_append, List.countP_cons, List.countP_nil]; omega
  ·
    refine Zd ?_
    refine Qi (Qi ?_)
    refine Qp ?_
    refine Qs (.inr rfl) (res0 rfl) ⟨_, ⟨d, reH (arrOf ss).length (arrOf d) H, by omega, fun s h => (hd s h).mono fun _ hw => hw.cnt (heapOf_mem h), ?_, rfl⟩, fun w h => ?_⟩
    · have hdl : d.length = ss.length := by omega
      rw [hdl]
      exact hF.re (by rw [arrOf_len (Z := 21) (fun s h => (hd s h).mints.length), arrOf_len hml, hdl])
    · have hdl : ss.drop d.length = [] := List.drop_eq_nil_of_le (by omega)
      rw [hdl, List.append_nil, heapOf_nil] at h
      simpa using h
end Go.Proofs.YtjdaglmkljbfkaaGreatDoor
namespace Go.Proofs.YtjdaglmkljbfkaaGreatDoor
open Go Go.Gx Go.RowKit
set_option maxRecDepth 100000
structure Bk where
 many : Int
 bytes : Value
 bits : Value
 fixes : Value
 recs : Value
 tris : Value
 sheets : Value
 tiles : Value
 dots : Value
 facets : Value
 tokens : Value
 codes : Value
 vals : Value
 spots : Value
def Bk.cells (k : Bk) : List Value := [.int .i64 k.many, k.bytes, k.bits, k.fixes, k.recs, k.tris, k.sheets, k.tiles, k.dots, k.facets, k.tokens, k.codes, k.vals, k.spots]
def nilS : Value := .slice none 0 0
def Bk.new : Bk := ⟨0, nilS, nilS, nilS, nilS, nilS, nilS, nilS, nilS, nilS, nilS, nilS, nilS, nilS⟩
theorem next_spec (w0 : Base) (η : Heap) (kb : Nat) (k : Bk) (h0 : 0 ≤ k.many ∧ k.many ≤ 1000) :
  CallsT Tryz.prog 31 [.pointer (some ⟨kb, 0, none⟩)] (St w0 ((kb, 52, k.cells) :: η)) fun v A' => v = .int .i64 (k.many + 1) ∧ A' = St w0 ((kb, 52, { k with many := k.many + 1 }.cells) :: η) := by
 refine CallsT.body Tryz.func31 rfl rfl ?_
 simp only [Tryz.ntmps31, slotsOf, Nat.reduceAdd]
 refine Qe (Qg ?_)
 refine Qa rfl rfl (Qd rfl rfl rfl) ?_
 refine Qf (Qb (Qe (Qg ?_)))
 refine Qa rfl rfl (Qc rfl rfl rfl) ?_
 refine Qa rfl rfl (Qv rfl rfl rfl) ?_
 refine Qa rfl rfl (Qh rfl rfl KF.fld_52_0 rfl) ?_
 refine Qa rfl rfl (Qj 0 rfl rfl Tryz.underlying3 rfl rfl rfl (fun _ => rfl)) ?_
 refine Qa rfl rfl (Zb rfl rfl rfl rfl (fun _ => ⟨by omega, by omega⟩)) ?_
 refine Qa rfl rfl (Qv rfl rfl rfl) ?_
 refine Qa rfl rfl (Qh rfl rfl KF.fld_52_0 rfl) ?_
 refine TL_e0 rfl rfl (rfl) (ET_store 0 rfl rfl rfl rfl KF.sz_3 rfl rfl rfl) ?_
 rintro _ _ ⟨rfl, rfl⟩
 refine Qf (Qb (Qe (Qg ?_)))
 refine Qa rfl rfl (Qc rfl rfl rfl) ?_
 refine Qa rfl rfl (Qv rfl rfl rfl) ?_
 refine Qa rfl rfl (Qh rfl rfl KF.fld_52_0 rfl) ?_
 refine Qa rfl rfl (Qj 0 rfl rfl Tryz.underlying3 rfl rfl rfl (fun _ => rfl)) ?_
 refine Qa rfl rfl (Qd rfl rfl rfl) ?_
 refine Qf (Qb ?_)
 refine Qu ?_
 exact Qs (.inl rfl) (res1 rfl rfl) ⟨_, ⟨rfl, rfl⟩, fun _ h => h⟩
def shMark (c : Int) : List Value := .int .u8 9 :: .int .u32 0 :: .int .u32 0 :: .int .u32 0 :: .int .u32 0 :: .int .u32 0 :: .int .u32 0 :: .int .u32 0 :: .int .u32 c :: (zs (sheetK.drop 9))
def tlMark (c : Int) : List Value := zs (patchK.take 14) ++ .int .u32 c :: zs (patchK.drop 15)
theorem u32_wf {c : Int} (h : 0 ≤ c ∧ c ≤ 2000) : (Lit.int .u32 c).wf = true := by
 have h1 : IntKind.u32.min = 0 := rfl
 have h2 : IntKind.u32.max = 4294967295 := rfl
 simp only [Lit.wf, Bool.and_eq_true, decide_eq_true_eq]
 omega
theorem shMark_ints {c : Int} (h : 0 ≤ c ∧ c ≤ 2000) : Ints sheetK (shMark c) := by
 have e : sheetK = [.u8, .u32, .u32, .u32, .u32, .u32, .u32, .u32] ++ (.u32 :: sheetK.drop 9) := by decide
 have e2 : shMark c = [.int .u8 9, .int .u32 0, .int .u32 0, .int .u32 0, .int .u32 0, .int .u32 0, .int .u32 0, .int .u32 0] ++ (.int .u32 c :: zs (sheetK.drop 9)) := rfl
 rw [e2]
 conv => arg 1; rw [e]
 refine Ints.append ?_ (.cons (u32_wf h) (zs_ints _))
 exact .cons (by decide) (.cons (by decide) (.cons (by decide) (.cons (by decide) (.cons (by decide) (.cons (by decide) (.cons (by decide) (.cons (by decide) .nil)))))))
theorem tlMark_ints {c : Int} (h : 0 ≤ c ∧ c ≤ 2000) : Ints patchK (tlMark c) := by
 have e : patchK = patchK.take 14 ++ (.u32 :: patchK.drop 15) := by decide
 unfold tlMark
 conv => arg 1; rw [e]
 exact Ints.append (zs_ints _) (.cons (u32_wf h) (zs_ints _))
theorem el_stripSheet : ElemOk Tryz.prog 188 51 216 (.agg (nilS :: nilS :: zs sheetK).toArray) := .of KF.sz_188 (by kernel_rfl) (by unfold ZeroOk; kernel_rfl) (by kernel_rfl) (by decide)
theorem book_Sheets (w0 : Base) (η H : Heap) (kb : Nat) (k : Bk) (ss : List Strip) (v : Value) (n : Nat) (xs : List Value) (Hv : Heap) (h0 : 0 ≤ k.many ∧ k.many ≤ 1000) (hF : Frag 188 51 k.sheets ss.length (arrOf ss) H) (hs : ∀ s ∈ ss, s.ok 102 49 sheetK) (hsl : ss.length ≤ 1000) (hv : ∃ ad n cap, v = .slice ad n cap) :
    CallsT Tryz.prog 33 [.pointer (some ⟨kb, 0, none⟩), v] (St w0 ((kb, 52, k.cells) :: (H ++ η))) fun _ A' => ∃ r H', Frag 188 51 r (ss.length + 1) (arrOf (ss ++ [⟨v, n, xs, nilS, shMark (k.many + 1), Hv⟩])) H' ∧ A' = St w0 ((kb, 52, { k with many := k.many + 1, sheets := r }.cells) :: (H' ++ η)) := by
  obtain ⟨vad, vn, vcap, rfl⟩ := hv
  obtain ⟨fad, fcap, hfv, hfc, _⟩ := hF.slice
  have hwr : IntKind.u32.wrap (k.many + 1) = k.many + 1 := IntWalk.u32_in _ ⟨by omega, by omega⟩
  have hmi := shMark_ints (c := k.many + 1) (by omega)
  refine CallsT.body Tryz.func33 rfl rfl ?_
  simp only [Tryz.ntmps33, slotsOf, Nat.reduceAdd]
  refine Qe (Qg ?_)
  refine Qa rfl rfl (QT_build rfl rfl KF.zero_102 KF.pl_102 rfl rfl rfl) ?_
  refine TL_e rfl rfl rfl (rfl) (ET_alloc rfl KF.zero_102) ?_
  rintro _ _ ⟨b4, rfl, rfl⟩
  refine TL_e0 rfl rfl (rfl) (ET_storeW 0 rfl rfl rfl KF.sz_102 rfl rfl rfl) ?_
  rintro _ _ ⟨rfl, rfl⟩
  refine Qf (Qb (Qe (Qg ?_)))
  refine Qa rfl rfl (Qc rfl rfl rfl) ?_
  refine TL_A _ (fun _ h => St.swap h) ?_
  refine TL_e rfl rfl rfl (rfl) (ET_call rfl KF.cal_31 rfl (next_spec w0 _ kb k h0)) ?_
  rintro _ _ ⟨rfl, rfl⟩
  refine Qa rfl rfl (QT_conv rfl rfl Tryz.underlying3 Tryz.underlying70 rfl) ?_
  rw [hwr]
  refine Qa rfl rfl (Qh rfl rfl KF.fld_102_1 rfl) ?_
  refine Qa rfl rfl (QT_indexArr (3) rfl rfl Tryz.underlying99 KF.sz_72 rfl rfl (rfl) (fun _ => by decide)) ?_
  refine Qa rfl rfl (Qh rfl rfl KF.fld_72_1 rfl) ?_
  refine TL_e0 rfl rfl (rfl) (ET_store 1 rfl rfl rfl rfl KF.sz_70 rfl rfl rfl) ?_
  rintro _ _ ⟨rfl, rfl⟩
  refine Qf (Qb ?_)
  refine TC_draw [(0, 0), (1, 0), (2, 0), (3, 0), (4, 0), (5, 0), (6, 0), (7, 0), (8, 1), (9, 1), (10, 0), (11, 0), (12, 1)] KF.mixed (by kernel_rfl) (St.calm _ _) ?_
  refine Qk rfl rfl rfl (fun _ => Qc rfl rfl rfl) ?_
  refine Qk rfl rfl rfl (fun _ => Qc rfl rfl rfl) ?_
  refine Qk rfl rfl rfl (fun _ => Qv rfl rfl rfl) ?_
  refine Qk rfl rfl rfl (fun _ => Qh rfl rfl KF.fld_52_6 rfl) ?_
  refine Qz rfl rfl rfl (Qj 0 rfl rfl Tryz.underlying43 rfl rfl rfl (fun _ => rfl)) ?_
  refine Qk rfl rfl rfl (fun _ => Qc rfl rfl rfl) ?_
  refine Qz rfl rfl rfl (Ql 1 rfl rfl Tryz.underlying102 rfl rfl rfl KF.sz_102) ?_
  refine Qk rfl rfl rfl (fun _ => QT_build rfl rfl KF.zero_188 KF.pl_188 rfl rfl rfl) ?_
  refine TV_e rfl rfl rfl rfl (rfl) (ET_buildN [_] rfl Tryz.underlying43 KF.sz_188 KF.zero_188 rfl rfl rfl (fun v hv => by cases List.mem_singleton.1 hv; rfl)) ?_
  rintro _ _ ⟨b20, rfl, rfl⟩
  refine ⟨_, .keep (by kernel_rfl) rfl (by first | exact Ql 0 rfl rfl Tryz.underlying102 rfl rfl rfl KF.sz_102 | exact Ql 1 rfl rfl Tryz.underlying102 rfl rfl rfl KF.sz_102 | exact Ql 2 rfl rfl Tryz.underlying102 rfl rfl rfl KF.sz_102 | exact QT_loadA 0 rfl rfl Tryz.underlying102 rfl rfl rfl KF.sz_102 (fun _ => rfl) | exact QT_loadA 1 rfl rfl Tryz.underlying102 rfl rfl rfl KF.sz_102 (fun _ => rfl) | exact QT_loadA 2 rfl rfl Tryz.underlying102 rfl rfl rfl KF.sz_102 (fun _ => rfl)) (.keep (by kernel_rfl) rfl (by first | exact Qj 0 rfl rfl Tryz.underlying43 rfl rfl rfl (fun _ => rfl) | exact Qj 1 rfl rfl Tryz.underlying43 rfl rfl rfl (fun _ => rfl) | exact Qj 2 rfl rfl Tryz.underlying43 rfl rfl rfl (fun _ => rfl)) (.nil)), ?_⟩
  refine TV_e rfl rfl rfl rfl (rfl) (ET_appendL (L := [_, _, _]) rfl Tryz.underlying43 el_stripSheet rfl rfl hF (fun _ h => h) (SlA.own (n := 1) (xs := .slice vad vn vcap :: nilS :: shMark (k.many + 1)) 0 rfl rfl (Nat.le_refl _) (by omega)) (fun u hu => by
   rcases List.mem_cons.1 hu with rfl | hu
   · rfl
   · rcases List.mem_cons.1 hu with rfl | hu
     · rfl
     · exact hmi.oneCell u hu) (by omega) (by omega)) ?_
  rintro r _ ⟨H', hF', rfl⟩
  refine ⟨_, .keep (by kernel_rfl) rfl (by first | exact Ql 0 rfl rfl Tryz.underlying102 rfl rfl rfl KF.sz_102 | exact Ql 1 rfl rfl Tryz.underlying102 rfl rfl rfl KF.sz_102 | exact Ql 2 rfl rfl Tryz.underlying102 rfl rfl rfl KF.sz_102 | exact QT_loadA 0 rfl rfl Tryz.underlying102 rfl rfl rfl KF.sz_102 (fun _ => rfl) | exact QT_loadA 1 rfl rfl Tryz.underlying102 rfl rfl rfl KF.sz_102 (fun _ => rfl) | exact QT_loadA 2 rfl rfl Tryz.underlying102 rfl rfl rfl KF.sz_102 (fun _ => rfl)) (.drop (by kernel_rfl) (.nil)), ?_⟩
  obtain ⟨rad, rcap, rfl, _, _⟩ := hF'.slice
  refine Qk rfl rfl rfl (fun _ => Qv rfl rfl rfl) ?_
  refine Qk rfl rfl rfl (fun _ => Qh rfl rfl KF.fld_52_6 rfl) ?_
  refine TV_e0 rfl rfl rfl (rfl) (ET_store 1 rfl rfl rfl rfl KF.sz_43 rfl rfl rfl) ?_
  rintro _ _ ⟨rfl, rfl⟩
  refine ⟨_, .drop (by kernel_rfl) (.nil), ?_⟩
  refine TV_end ?_
  refine Qs (.inr rfl) (res0 rfl) ⟨_, ⟨_, H', by rw [arrOf_append]; simpa [arrOf, Strip.cells] using hF', rfl⟩, fun w h => ?_⟩
  have h2 : St w0 ((b20, 188, _) :: (kb, 52, { k with many := k.many + 1, sheets := .slice rad (ss.length + 1) rcap }.cells) :: (b4, 102, _) :: (H' ++ η)) w := h
  exact h2.tail.swap.tail
theorem el_stripPatch : ElemOk Tryz.prog 162 50 208 (.agg (nilS :: nilS :: zs patchK).toArray) := .of KF.sz_162 (by kernel_rfl) (by unfold ZeroOk; kernel_rfl) (by kernel_rfl) (by decide)
theorem book_Tiles (w0 : Base) (η H : Heap) (kb : Nat) (k : Bk) (ss : List Strip) (v : Value) (n : Nat) (xs : List Value) (Hv : Heap) (h0 : 0 ≤ k.many ∧ k.many ≤ 1000) (hF : Frag 162 50 k.tiles ss.length (arrOf ss) H) (hs : ∀ s ∈ ss, s.ok 112 48 patchK) (hsl : ss.length ≤ 1000) (hv : ∃ ad n cap, v = .slice ad n cap) :
    CallsT Tryz.prog 20 [.pointer (some ⟨kb, 0, none⟩), v] (St w0 ((kb, 52, k.cells) :: (H ++ η))) fun _ A' => ∃ r H', Frag 162 50 r (ss.length + 1) (arrOf (ss ++ [⟨v, n, xs, nilS, tlMark (k.many + 1), Hv⟩])) H' ∧ A' = St w0 ((kb, 52, { k with many := k.many + 1, tiles := r }.cells) :: (H' ++ η)) := by
  obtain ⟨vad, vn, vcap, rfl⟩ := hv
  obtain ⟨fad, fcap, hfv, hfc, _⟩ := hF.slice
  have hwr : IntKind.u32.wrap (k.many + 1) = k.many + 1 := IntWalk.u32_in _ ⟨by omega, by omega⟩
  have hmi := tlMark_ints (c := k.many + 1) (by omega)
  refine CallsT.body Tryz.func20 rfl rfl ?_
  simp only [Tryz.ntmps20, slotsOf, Nat.reduceAdd]
  refine Qe (Qg ?_)
  refine Qa rfl rfl (QT_build rfl rfl KF.zero_112 KF.pl_112 rfl rfl rfl) ?_
  refine TL_e rfl rfl rfl (rfl) (ET_alloc rfl KF.zero_112) ?_
  rintro _ _ ⟨b4, rfl, rfl⟩
  refine TL_e0 rfl rfl (rfl) (ET_storeW 0 rfl rfl rfl KF.sz_112 rfl rfl rfl) ?_
  rintro _ _ ⟨rfl, rfl⟩
  refine Qf (Qb (Qe (Qg ?_)))
  refine Qa rfl rfl (Qc rfl rfl rfl) ?_
  refine TL_A _ (fun _ h => St.swap h) ?_
  refine TL_e rfl rfl rfl (rfl) (ET_call rfl KF.cal_31 rfl (next_spec w0 _ kb k h0)) ?_
  rintro _ _ ⟨rfl, rfl⟩
  refine Qa rfl rfl (QT_conv rfl rfl Tryz.underlying3 Tryz.underlying70 rfl) ?_
  rw [hwr]
  refine Qa rfl rfl (Qh rfl rfl KF.fld_112_0 rfl) ?_
  refine Qa rfl rfl (QT_indexArr (7) rfl rfl Tryz.underlying99 KF.sz_72 rfl rfl (rfl) (fun _ => by decide)) ?_
  refine Qa rfl rfl (Qh rfl rfl KF.fld_72_0 rfl) ?_
  refine TL_e0 rfl rfl (rfl) (ET_store 1 rfl rfl rfl rfl KF.sz_70 rfl rfl rfl) ?_
  rintro _ _ ⟨rfl, rfl⟩
  refine Qf (Qb ?_)
  refine TC_draw [(0, 0), (1, 0), (2, 0), (3, 0), (4, 0), (5, 0), (6, 0), (7, 0), (8, 1), (9, 1), (10, 0), (11, 0), (12, 1)] KF.mixed (by kernel_rfl) (St.calm _ _) ?_
  refine Qk rfl rfl rfl (fun _ => Qc rfl rfl rfl) ?_
  refine Qk rfl rfl rfl (fun _ => Qc rfl rfl rfl) ?_
  refine Qk rfl rfl rfl (fun _ => Qv rfl rfl rfl) ?_
  refine Qk rfl rfl rfl (fun _ => Qh rfl rfl KF.fld_52_7 rfl) ?_
  refine Qz rfl rfl rfl (Qj 0 rfl rfl Tryz.underlying44 rfl rfl rfl (fun _ => rfl)) ?_
  refine Qk rfl rfl rfl (fun _ => Qc rfl rfl rfl) ?_
  refine Qz rfl rfl rfl (Ql 1 rfl rfl Tryz.underlying112 rfl rfl rfl KF.sz_112) ?_
  refine Qk rfl rfl rfl (fun _ => QT_build rfl rfl KF.zero_162 KF.pl_162 rfl rfl rfl) ?_
  refine TV_e rfl rfl rfl rfl (rfl) (ET_buildN [_] rfl Tryz.underlying44 KF.sz_162 KF.zero_162 rfl rfl rfl (fun v hv => by cases List.mem_singleton.1 hv; rfl)) ?_
  rintro _ _ ⟨b20, rfl, rfl⟩
  refine ⟨_, .keep (by kernel_rfl) rfl (by first | exact Ql 0 rfl rfl Tryz.underlying112 rfl rfl rfl KF.sz_112 | exact Ql 1 rfl rfl Tryz.underlying112 rfl rfl rfl KF.sz_112 | exact Ql 2 rfl rfl Tryz.underlying112 rfl rfl rfl KF.sz_112 | exact QT_loadA 0 rfl rfl Tryz.underlying112 rfl rfl rfl KF.sz_112 (fun _ => rfl) | exact QT_loadA 1 rfl rfl Tryz.underlying112 rfl rfl rfl KF.sz_112 (fun _ => rfl) | exact QT_loadA 2 rfl rfl Tryz.underlying112 rfl rfl rfl KF.sz_112 (fun _ => rfl)) (.keep (by kernel_rfl) rfl (by first | exact Qj 0 rfl rfl Tryz.underlying44 rfl rfl rfl (fun _ => rfl) | exact Qj 1 rfl rfl Tryz.underlying44 rfl rfl rfl (fun _ => rfl) | exact Qj 2 rfl rfl Tryz.underlying44 rfl rfl rfl (fun _ => rfl)) (.nil)), ?_⟩
  refine TV_e rfl rfl rfl rfl (rfl) (ET_appendL (L := [_, _, _]) rfl Tryz.underlying44 el_stripPatch rfl rfl hF (fun _ h => h) (SlA.own (n := 1) (xs := .slice vad vn vcap :: nilS :: tlMark (k.many + 1)) 0 rfl rfl (Nat.le_refl _) (by omega)) (fun u hu => by
   rcases List.mem_cons.1 hu with rfl | hu
   · rfl
   · rcases List.mem_cons.1 hu with rfl | hu
     · rfl
     · exact hmi.oneCell u hu) (by omega) (by omega)) ?_
  rintro r _ ⟨H', hF', rfl⟩
  refine ⟨_, .keep (by kernel_rfl) rfl (by first | exact Ql 0 rfl rfl Tryz.underlying112 rfl rfl rfl KF.sz_112 | exact Ql 1 rfl rfl Tryz.underlying112 rfl rfl rfl KF.sz_112 | exact Ql 2 rfl rfl Tryz.underlying112 rfl rfl rfl KF.sz_112 | exact QT_loadA 0 rfl rfl Tryz.underlying112 rfl rfl rfl KF.sz_112 (fun _ => rfl) | exact QT_loadA 1 rfl rfl Tryz.underlying112 rfl rfl rfl KF.sz_112 (fun _ => rfl) | exact QT_loadA 2 rfl rfl Tryz.underlying112 rfl rfl rfl KF.sz_112 (fun _ => rfl)) (.drop (by kernel_rfl) (.nil)), ?_⟩
  obtain ⟨rad, rcap, rfl, _, _⟩ := hF'.slice
  refine Qk rfl rfl rfl (fun _ => Qv rfl rfl rfl) ?_
  refine Qk rfl rfl rfl (fun _ => Qh rfl rfl KF.fld_52_7 rfl) ?_
  refine TV_e0 rfl rfl rfl (rfl) (ET_store 1 rfl rfl rfl rfl KF.sz_44 rfl rfl rfl) ?_
  rintro _ _ ⟨rfl, rfl⟩
  refine ⟨_, .drop (by kernel_rfl) (.nil), ?_⟩
  refine TV_end ?_
  refine Qs (.inr rfl) (res0 rfl) ⟨_, ⟨_, H', by rw [arrOf_append]; simpa [arrOf, Strip.cells] using hF', rfl⟩, fun w h => ?_⟩
  have h2 : St w0 ((b20, 162, _) :: (kb, 52, { k with many := k.many + 1, tiles := .slice rad (ss.length + 1) rcap }.cells) :: (b4, 112, _) :: (H' ++ η)) w := h
  exact h2.tail.swap.tail
end Go.Proofs.YtjdaglmkljbfkaaGreatDoor

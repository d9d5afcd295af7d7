/- THE LAW OF BYTES: put eight bits each they are these bytes again; each is got where it stands, moved by some bits too. -/
import Derived.Test.YtkkdpbjfkncpbaaP06h
namespace Go.Proofs.Ytkkdpbjfkncpbaa
open Go Go.Gx Go.RowKit
set_option maxRecDepth 100000

theorem got_mid {bs : List Nat} {pre post : List Bool} {m v : Nat} (h : byB bs = pre ++ (bitsN m v ++ post)) (hm : m ≤ 32) (hv : v < 2 ^ m) : getE bs.length (pre.length : Int) (m : Int) = 0 ∧ getV bs (pre.length : Int) (m : Int) = v := by
  have hl := congrArg List.length h
  simp only [byB_len, List.length_append, bitsN_len] at hl
  obtain ⟨a, b⟩ := getV_ok (bs := bs) (q := pre.length) (m := m) (by omega) hm
  refine ⟨a, ?_⟩
  rw [b, h, List.drop_left, List.take_left' (bitsN_len m v), num_bitsN, Nat.mod_eq_of_lt hv]
theorem byB_split {bs : List Nat} {i c : Nat} (h : bs[i]? = some c) : byB bs = byB (bs.take i) ++ (bitsN 8 c ++ byB (bs.drop (i + 1))) := by
  have hi : i < bs.length := (List.getElem?_eq_some_iff.1 h).1
  have hc : bs[i] = c := (List.getElem?_eq_some_iff.1 h).2
  rw [← byB_one, ← byB_append, ← byB_append, List.singleton_append, ← hc, ← List.drop_eq_getElem_cons hi, List.take_append_drop]
theorem byB_tlen {bs : List Nat} {i : Nat} (h : i ≤ bs.length) : (byB (bs.take i)).length = 8 * i := by rw [byB_len, List.length_take]; omega

set_option maxHeartbeats 1000000 in
theorem law_bitsBytes (w0 : World) (η : Heap) (sv : Value) (bs : List Nat) (z : Nat) (hs : SlA (St w0 η) sv 1 bs.length (byV bs)) (hb : ∀ c ∈ bs, c < 256) (hz : z ≤ 255) :
    CallsT Try.prog 8 [sv, .int .u8 (z : Int)] (St w0 η) fun v A' => v = .bool true ∧ A' = St w0 η := by
  have hs0 := hs
  obtain ⟨_, ad, cap, b, off, rfl, hcap, had, hrd⟩ := hs.some
  obtain ⟨k, hk⟩ : ∃ k, k = z % 33 := ⟨_, rfl⟩
  have hk32 : k ≤ 32 := by omega
  have hw0 : IntKind.i64.wrap (z : Int) = (z : Int) := wrap_i64 ⟨by omega, by omega⟩
  have h2 : ∀ m : Nat, 0 < 2 ^ m := fun m => Nat.two_pow_pos m
  refine CallsT.body Try.func8 rfl rfl ?_
  simp only [Try.ntmps8, slotsOf, Nat.reduceAdd]
  refine TC_seq ?_
  refine TC_reg ?_
  refine TL_q rfl rfl (QT_assign rfl rfl rfl) ?_
  refine TL_nil ?_
  refine TX_then ?_
  refine TC_seq ?_
  refine TC_seq ?_
  refine TC_reg ?_
  refine TL_q rfl rfl (QT_move rfl rfl rfl) ?_
  refine TL_q rfl rfl (QT_len rfl rfl Try.underlying22 rfl) ?_
  refine TL_q rfl rfl (QT_gtr rfl rfl rfl rfl) ?_
  refine TL_nil ?_
  refine TX_then ?_
  first
    | refine TC_cond_dec rfl (fun h13 => ?_) (fun h13 => ?_)
    | refine TC_cond rfl (fun h13 => ?_) (fun h13 => ?_)
  ·
    refine TC_seq ?_
    refine TC_reg ?_
    refine TL_cq rfl rfl rfl rfl YtkkdpbjfkncpbaaF.cal_10 rfl (fun _ => lives06 w0 _) ?_
    refine TL_q rfl rfl (QT_assign rfl rfl rfl) ?_
    refine TL_nil ?_
    refine TX_then ?_
    refine TC_ret ?_
    refine TX_then_ret ?_
    exact TX_ret (.inl rfl) (res1 rfl rfl) ⟨_, ⟨rfl, rfl⟩, (fun _ h => by first | exact h | exact h.tail | exact h.tail.tail | exact h.tail.tail.tail | exact h.tail.tail.tail.tail | exact h.tail.tail.tail.tail.tail | exact h.tail.tail.tail.tail.tail.tail | exact h.tail.tail.tail.tail.tail.tail.tail | exact h.tail.tail.tail.tail.tail.tail.tail.tail | exact h.tail.tail.tail.tail.tail.tail.tail.tail.tail | exact h.tail.tail.tail.tail.tail.tail.tail.tail.tail.tail | exact h.tail.tail.tail.tail.tail.tail.tail.tail.tail.tail.tail | exact h.tail.tail.tail.tail.tail.tail.tail.tail.tail.tail.tail.tail | exact h.tail.tail.tail.tail.tail.tail.tail.tail.tail.tail.tail.tail.tail)⟩
  ·
    refine TC_skip ?_
    refine TX_then ?_
    refine TC_seq ?_
    have hn : bs.length ≤ 2000 := by omega
    have he0 : putE ([] : List Bool).length 0 (k : Int) = 0 := put0 hk32 (h2 _) (by show 0 + k ≤ 524288; omega)
    have hp0 : putL [] 0 (k : Int) = bitsN k 0 := by unfold putL; rw [if_pos he0, Int.toNat_natCast]; rfl
    refine TC_reg ?_
    refine TL_q rfl rfl (QT_move rfl rfl rfl) ?_
    refine TL_q rfl rfl (QT_convN rfl rfl Try.underlying5 Try.underlying3 rfl hw0) ?_
    refine TL_q rfl rfl (QT_to (QT_rem rfl rfl rfl rfl (fun _ => ⟨by omega, by omega⟩)) (show (z : Int) % 33 = (k : Int) by rw [hk]; simp)) ?_
    refine TL_q rfl rfl (QT_assign rfl rfl rfl) ?_
    refine TL_nil ?_
    refine TX_then ?_
    refine TC_seq ?_
    refine TC_reg ?_
    refine TL_e rfl rfl rfl (rfl) (ET_call rfl YtkkdpbjfkncpbaaF.cal_15 rfl (newRow_spec w0 η)) ?_
    rintro _ _ ⟨rb, K1, rfl, hK1, rfl⟩
    refine TL_q rfl rfl (QT_assign rfl rfl rfl) ?_
    refine TL_nil ?_
    refine TX_then ?_
    refine TC_seq ?_
    refine TC_reg ?_
    refine TL_e rfl rfl rfl (rfl) (ET_call rfl YtkkdpbjfkncpbaaF.cal_15 rfl (newRow_spec w0 (K1 ++ η))) ?_
    rintro _ _ ⟨ob, K2, rfl, hK2, rfl⟩
    refine TL_q rfl rfl (QT_assign rfl rfl rfl) ?_
    refine TL_nil ?_
    refine TX_then ?_
    refine TC_seq ?_
    refine TC_seq ?_
    refine TC_reg ?_
    refine TL_q rfl rfl (QT_move rfl rfl rfl) ?_
    refine TL_q rfl rfl (QT_move rfl rfl rfl) ?_
    refine TL_e rfl rfl rfl (rfl) (ET_call rfl YtkkdpbjfkncpbaaF.cal_19 rfl (put_at (v := 0) (n := (k : Int)) hK2 (by decide) ⟨by omega, by omega⟩ (by decide) he0 hp0)) ?_
    rintro _ _ ⟨K3, rfl, hK3, rfl⟩
    refine TL_q rfl rfl (QT_neq rfl rfl rfl rfl) ?_
    refine TL_nil ?_
    refine TX_then ?_
    refine TC_cond rfl (fun h => absurd (h.symm.trans ((show (_ : Bool) = false by rfl))) (by decide)) (fun _ => ?_)
    refine TC_skip ?_
    refine TX_then ?_
    refine TC_seq ?_
    refine TC_seq ?_
    refine TC_reg ?_
    refine TL_q rfl rfl (QT_assign rfl rfl rfl) ?_
    refine TL_nil ?_
    refine TX_then ?_
    refine TC_block ?_
    refine TC_loop (γ := { t : Nat × Heap × Heap // t.1 ≤ bs.length ∧ RowAt rb (byB (bs.take t.1)) t.2.1 ∧ RowAt ob (bitsN k 0 ++ byB (bs.take t.1)) t.2.2 }) (fun t => [(0, true, .slice ad bs.length cap), (5, true, .int .i64 (k : Int)), (6, true, .pointer (some ⟨rb, 0, none⟩)), (7, true, .pointer (some ⟨ob, 0, none⟩)), (8, true, .int .i64 (t.1.1 : Int))]) (fun t => St w0 (t.1.2.1 ++ (t.1.2.2 ++ η))) (fun t => bs.length - t.1.1) ⟨(0, K1, K3), Nat.zero_le _, hK1, by show RowAt ob (bitsN k 0 ++ []) K3; rw [List.append_nil]; exact hK3⟩ ⟨rfl, rfl, rfl, rfl, rfl, trivial⟩ (fun _ h => h.cnt fun p => by simp only [List.countP_append]; omega) ?_
    rintro ⟨⟨i, X, Y⟩, hi, hX, hY⟩
    dsimp only at hi hX hY ⊢
    refine TC_seq ?_
    refine TC_seq ?_
    refine TC_reg ?_
    refine TL_q rfl rfl (QT_move rfl rfl rfl) ?_
    refine TL_q rfl rfl (QT_move rfl rfl rfl) ?_
    refine TL_q rfl rfl (QT_len rfl rfl Try.underlying22 rfl) ?_
    refine TL_q rfl rfl (QT_lss rfl rfl rfl rfl) ?_
    refine TL_nil ?_
    refine TX_then ?_
    first
      | refine TC_cond_dec rfl (fun h27 => ?_) (fun h27 => ?_)
      | refine TC_cond rfl (fun h27 => ?_) (fun h27 => ?_)
    ·
      have hi' : i < bs.length := by omega
      obtain rfl := had (by omega)
      obtain ⟨c, hc⟩ : ∃ c, bs[i]? = some c := ⟨_, List.getElem?_eq_getElem hi'⟩
      have hcb := hb c (List.mem_of_getElem? hc)
      have hR : ∀ X : Heap, Rd (St w0 (X ++ η)) b off (byV bs) := fun X => hrd.mono fun _ h => h.app_right
      have hS : ∀ X : Heap, SlA (St w0 (X ++ η)) (.slice (some ⟨b, off, none⟩) bs.length cap) 1 bs.length (byV bs) := fun X => hs0.mono fun _ h => h.app_right
      have hat := byV_at hc
      have hw8 : IntKind.u32.wrap (c : Int) = (c : Int) := IntWalk.u32_in _ ⟨by omega, by omega⟩
      have hl1 := byB_tlen (bs := bs) (i := i) (by omega)
      have hnx : byB (bs.take (i + 1)) = byB (bs.take i) ++ bitsN 8 c := by rw [take_one_more hc, byB_append, byB_one]
      have he1 : putE (byB (bs.take i)).length c ((8 : Nat) : Int) = 0 := put0 (by decide) hcb (by omega)
      have hp1 : putL (byB (bs.take i)) c ((8 : Nat) : Int) = byB (bs.take (i + 1)) := by unfold putL; rw [if_pos he1, Int.toNat_natCast, hnx]
      have hl2 : (bitsN k 0 ++ byB (bs.take i)).length = k + 8 * i := by rw [List.length_append, bitsN_len, hl1]
      have he2 : putE (bitsN k 0 ++ byB (bs.take i)).length c ((8 : Nat) : Int) = 0 := put0 (by decide) hcb (by omega)
      have hp2 : putL (bitsN k 0 ++ byB (bs.take i)) c ((8 : Nat) : Int) = bitsN k 0 ++ byB (bs.take (i + 1)) := by unfold putL; rw [if_pos he2, Int.toNat_natCast, hnx, List.append_assoc]
      obtain ⟨q1, q2⟩ := got_mid (byB_split hc) (by decide) hcb
      rw [hl1] at q1 q2
      refine TC_skip ?_
      refine TX_then ?_
      refine TC_seq ?_
      refine TC_block ?_
      refine TC_seq ?_
      refine TC_reg ?_
      refine TL_q rfl rfl (QT_move rfl rfl rfl) ?_
      refine TL_q rfl rfl (QT_move rfl rfl rfl) ?_
      refine TL_q rfl rfl (QT_move rfl rfl rfl) ?_
      refine TL_q rfl rfl (QT_indexSlice (i) rfl rfl Try.underlying22 YtkkdpbjfkncpbaaF.sz_5 rfl rfl (rfl) (fun _ => hi')) ?_
      refine TL_q rfl rfl (QT_loadRj i rfl rfl Try.underlying5 rfl ((hR X).mono fun _ h => h.cnt fun p => by simp only [List.countP_append]; omega) rfl (fun _ => hat)) ?_
      refine TL_q rfl rfl (QT_convN rfl rfl Try.underlying5 Try.underlying25 rfl hw8) ?_
      refine TL_e rfl rfl rfl (rfl) (ET_call rfl YtkkdpbjfkncpbaaF.cal_19 rfl (put_at (v := c) (n := 8) hX (by omega) (by decide) (by omega) he1 hp1)) ?_
      rintro _ _ ⟨X1, rfl, hX1, rfl⟩
      refine TL_q rfl rfl (QT_neq rfl rfl rfl rfl) ?_
      refine TL_q rfl rfl (QT_move rfl rfl rfl) ?_
      refine TL_q rfl rfl (QT_move rfl rfl rfl) ?_
      refine TL_q rfl rfl (QT_move rfl rfl rfl) ?_
      refine TL_q rfl rfl (QT_move rfl rfl rfl) ?_
      refine TL_q rfl rfl (QT_indexSlice (i) rfl rfl Try.underlying22 YtkkdpbjfkncpbaaF.sz_5 rfl rfl (rfl) (fun _ => hi')) ?_
      refine TL_q rfl rfl (QT_loadRj i rfl rfl Try.underlying5 rfl ((hR X1).mono fun _ h => h.cnt fun p => by simp only [List.countP_append]; omega) rfl (fun _ => hat)) ?_
      refine TL_q rfl rfl (QT_convN rfl rfl Try.underlying5 Try.underlying25 rfl hw8) ?_
      refine TL_A (St w0 (Y ++ (X1 ++ η))) (fun _ h => h.cnt fun p => by simp only [List.countP_append]; omega) ?_
      refine TL_e rfl rfl rfl (rfl) (ET_call rfl YtkkdpbjfkncpbaaF.cal_19 rfl (put_at (v := c) (n := 8) hY (by omega) (by decide) (by omega) he2 hp2)) ?_
      rintro _ _ ⟨Y1, rfl, hY1, rfl⟩
      refine TL_q rfl rfl (QT_neq rfl rfl rfl rfl) ?_
      refine TL_q rfl rfl (QT_or rfl rfl rfl rfl) ?_
      refine TL_q rfl rfl (QT_move rfl rfl rfl) ?_
      refine TL_q rfl rfl (QT_move rfl rfl rfl) ?_
      refine TL_q rfl rfl (QT_move rfl rfl rfl) ?_
      refine TL_q rfl rfl (QT_to (QT_mul rfl rfl rfl rfl (fun _ => ⟨by omega, by omega⟩)) (show (8 : Int) * (i : Int) = ((8 * i : Nat) : Int) by simp)) ?_
      refine TL_q rfl rfl (QT_move rfl rfl rfl) ?_
      refine TL_q rfl rfl (QT_move rfl rfl rfl) ?_
      refine TL_q rfl rfl (QT_indexSlice (i) rfl rfl Try.underlying22 YtkkdpbjfkncpbaaF.sz_5 rfl rfl (rfl) (fun _ => hi')) ?_
      refine TL_q rfl rfl (QT_loadRj i rfl rfl Try.underlying5 rfl ((hR Y1).mono fun _ h => h.cnt fun p => by simp only [List.countP_append]; omega) rfl (fun _ => hat)) ?_
      refine TL_q rfl rfl (QT_convN rfl rfl Try.underlying5 Try.underlying25 rfl hw8) ?_
      refine TL_cq rfl rfl rfl rfl YtkkdpbjfkncpbaaF.cal_29 rfl (fun _ => got_ok (n := 8) ((hS Y1).mono fun _ h => h.cnt fun p => by simp only [List.countP_append]; omega) hb ⟨by omega, by omega⟩ (by decide) (by omega) q1 q2) ?_
      refine TL_q rfl rfl (QT_not rfl rfl rfl) ?_
      refine TL_q rfl rfl (QT_or rfl rfl rfl rfl) ?_
      refine TL_nil ?_
      refine TX_then ?_
      refine TC_cond rfl (fun h => absurd (h.symm.trans ((show (_ : Bool) = false by rfl))) (by decide)) (fun _ => ?_)
      refine TC_skip ?_
      refine TX_block_normal ?_
      refine TX_then ?_
      refine TC_reg ?_
      refine TL_q rfl rfl (QT_move rfl rfl rfl) ?_
      refine TL_q rfl rfl (QT_add rfl rfl rfl rfl (fun _ => ⟨by omega, by omega⟩)) ?_
      refine TL_q rfl rfl (QT_assign rfl rfl rfl) ?_
      refine TL_nil ?_
      exact TX_round ⟨(i + 1, X1, Y1), hi', hX1, hY1⟩ (by show bs.length - (i + 1) < bs.length - i; omega) ⟨rfl, rfl, rfl, rfl, rfl, trivial⟩ (fun _ h => h.cnt fun p => by simp only [List.countP_append]; omega)
    ·
      refine TC_exit ?_
      refine TX_then_exit ?_
      refine TX_then_exit ?_
      refine TX_block_here ?_
      refine TX_then ?_
      refine TC_seq ?_
      obtain rfl : i = bs.length := by omega
      rw [List.take_length] at hX hY
      have hlb : (byB bs).length = 8 * bs.length := byB_len bs
      have hly : (bitsN k 0 ++ byB bs).length = k + 8 * bs.length := by rw [List.length_append, bitsN_len, hlb]
      refine TC_A (St w0 (Y ++ (X ++ η))) (fun _ h => h.cnt fun p => by simp only [List.countP_append]; omega) ?_
      refine TC_reg ?_
      refine TL_q rfl rfl (QT_move rfl rfl rfl) ?_
      refine TL_e rfl rfl rfl (rfl) (ET_call rfl YtkkdpbjfkncpbaaF.cal_21 rfl (RowAt.bytes (X ++ η) hY (by omega))) ?_
      rintro xv _ ⟨bs2, H2, hF2, ⟨hx1, hx2⟩, rfl⟩
      refine TL_q rfl rfl (QT_assign rfl rfl rfl) ?_
      refine TL_nil ?_
      refine TX_then ?_
      refine TC_seq ?_
      refine TC_seq ?_
      refine TC_reg ?_
      refine TL_q rfl rfl (QT_assign rfl rfl rfl) ?_
      refine TL_nil ?_
      refine TX_then ?_
      refine TC_block ?_
      have hxl : bs2.length ≤ 10000 := by
        have := congrArg List.length hx1
        rw [byB_len, List.length_append, List.length_replicate, hly] at this
        omega
      obtain ⟨pad, hx3⟩ : ∃ pad, byB bs2 = bitsN k 0 ++ byB bs ++ pad := ⟨_, hx1⟩
      have hB : ∀ {η' : Heap}, (∀ p : Blk → Bool, H2.countP p ≤ η'.countP p) → SlA (St w0 η') xv 1 bs2.length (byV bs2) := fun h => hF2.within h
      refine TC_loop (γ := { i : Nat // i ≤ bs.length }) (fun t => [(0, true, .slice ad bs.length cap), (5, true, .int .i64 (k : Int)), (6, true, .pointer (some ⟨rb, 0, none⟩)), (7, true, .pointer (some ⟨ob, 0, none⟩)), (9, true, xv), (10, true, .int .i64 (t.1 : Int))]) (fun t => St w0 (H2 ++ (Y ++ (X ++ η)))) (fun t => bs.length - t.1) ⟨0, Nat.zero_le _⟩ ⟨rfl, rfl, rfl, rfl, rfl, rfl, trivial⟩ (fun _ h => h) ?_
      rintro ⟨j, hj⟩
      dsimp only
      refine TC_seq ?_
      refine TC_seq ?_
      refine TC_reg ?_
      refine TL_q rfl rfl (QT_move rfl rfl rfl) ?_
      refine TL_q rfl rfl (QT_move rfl rfl rfl) ?_
      refine TL_q rfl rfl (QT_len rfl rfl Try.underlying22 rfl) ?_
      refine TL_q rfl rfl (QT_lss rfl rfl rfl rfl) ?_
      refine TL_nil ?_
      refine TX_then ?_
      first
        | refine TC_cond_dec rfl (fun h65 => ?_) (fun h65 => ?_)
        | refine TC_cond rfl (fun h65 => ?_) (fun h65 => ?_)
      ·
        have hj' : j < bs.length := by omega
        obtain rfl := had (by omega)
        obtain ⟨c, hc⟩ : ∃ c, bs[j]? = some c := ⟨_, List.getElem?_eq_getElem hj'⟩
        have hcb := hb c (List.mem_of_getElem? hc)
        have hat := byV_at hc
        have hw8 : IntKind.u32.wrap (c : Int) = (c : Int) := IntWalk.u32_in _ ⟨by omega, by omega⟩
        obtain ⟨q1, q2⟩ := got_mid (bs := bs2) (pre := bitsN k 0 ++ byB (bs.take j)) (m := 8) (v := c) (post := byB (bs.drop (j + 1)) ++ pad) (hx3.trans (by rw [byB_split hc]; simp only [List.append_assoc])) (by decide) hcb
        rw [show (bitsN k 0 ++ byB (bs.take j)).length = k + 8 * j by rw [List.length_append, bitsN_len, byB_tlen (by omega)]] at q1 q2
        refine TC_skip ?_
        refine TX_then ?_
        refine TC_seq ?_
        refine TC_block ?_
        refine TC_seq ?_
        refine TC_reg ?_
        refine TL_q rfl rfl (QT_move rfl rfl rfl) ?_
        refine TL_q rfl rfl (QT_move rfl rfl rfl) ?_
        refine TL_q rfl rfl (QT_move rfl rfl rfl) ?_
        refine TL_q rfl rfl (QT_to (QT_mul rfl rfl rfl rfl (fun _ => ⟨by omega, by omega⟩)) (show (8 : Int) * (j : Int) = ((8 * j : Nat) : Int) by simp)) ?_
        refine TL_q rfl rfl (QT_to (QT_add rfl rfl rfl rfl (fun _ => ⟨by omega, by omega⟩)) (show (k : Int) + ((8 * j : Nat) : Int) = ((k + 8 * j : Nat) : Int) by simp)) ?_
        refine TL_q rfl rfl (QT_move rfl rfl rfl) ?_
        refine TL_q rfl rfl (QT_move rfl rfl rfl) ?_
        refine TL_q rfl rfl (QT_indexSlice (j) rfl rfl Try.underlying22 YtkkdpbjfkncpbaaF.sz_5 rfl rfl (rfl) (fun _ => hj')) ?_
        refine TL_q rfl rfl (QT_loadRj j rfl rfl Try.underlying5 rfl (hrd.mono fun _ h => h.cnt fun p => by simp only [List.countP_append]; omega) rfl (fun _ => hat)) ?_
        refine TL_q rfl rfl (QT_convN rfl rfl Try.underlying5 Try.underlying25 rfl hw8) ?_
        refine TL_cq rfl rfl rfl rfl YtkkdpbjfkncpbaaF.cal_29 rfl (fun _ => got_ok (n := 8) (hB fun p => by simp only [List.countP_append]; omega) hx2 ⟨by omega, by omega⟩ (by decide) (by omega) q1 q2) ?_
        refine TL_q rfl rfl (QT_not rfl rfl rfl) ?_
        refine TL_nil ?_
        refine TX_then ?_
        refine TC_cond rfl (fun h => absurd (h.symm.trans ((show (_ : Bool) = false by rfl))) (by decide)) (fun _ => ?_)
        refine TC_skip ?_
        refine TX_block_normal ?_
        refine TX_then ?_
        refine TC_reg ?_
        refine TL_q rfl rfl (QT_move rfl rfl rfl) ?_
        refine TL_q rfl rfl (QT_add rfl rfl rfl rfl (fun _ => ⟨by omega, by omega⟩)) ?_
        refine TL_q rfl rfl (QT_assign rfl rfl rfl) ?_
        refine TL_nil ?_
        exact TX_round ⟨j + 1, hj'⟩ (by show bs.length - (j + 1) < bs.length - j; omega) ⟨rfl, rfl, rfl, rfl, rfl, rfl, trivial⟩ (fun _ h => h)
      ·
        refine TC_exit ?_
        refine TX_then_exit ?_
        refine TX_then_exit ?_
        refine TX_block_here ?_
        refine TX_then ?_
        refine TC_seq ?_
        refine TC_A (St w0 (X ++ (H2 ++ (Y ++ η)))) (fun _ h => h.cnt fun p => by simp only [List.countP_append]; omega) ?_
        obtain ⟨q1, q2⟩ := got_mid (bs := bs2) (pre := []) (m := k) (v := 0) (post := byB bs ++ pad) (hx3.trans (by rw [List.nil_append, List.append_assoc])) hk32 (h2 _)
        refine TC_reg ?_
        refine TL_q rfl rfl (QT_move rfl rfl rfl) ?_
        refine TL_e rfl rfl rfl (rfl) (ET_call rfl YtkkdpbjfkncpbaaF.cal_21 rfl (RowAt.bytes (H2 ++ (Y ++ η)) hX (by omega))) ?_
        rintro rv _ ⟨bs1, H3, hF3, ⟨hr1, hr2⟩, rfl⟩
        obtain rfl : bs1 = bs := byB_inj (hr1.trans (by rw [hlb, show 8 * ((8 * bs.length + 7) / 8) - 8 * bs.length = 0 by omega]; simp)) hr2 hb
        refine TL_q rfl rfl (QT_move rfl rfl rfl) ?_
        refine TL_cq rfl rfl rfl rfl YtkkdpbjfkncpbaaF.cal_24 rfl (fun _ => sameOk_Bytes w0 _ rv _ bs1.length (byV bs1) (hF3.within fun p => by simp only [List.countP_append]; omega) (hs0.mono fun _ h => h.cnt fun p => by simp only [List.countP_append]; omega) (byV_ints hb)) ?_
        refine TL_q rfl rfl (QT_move rfl rfl rfl) ?_
        refine TL_q rfl rfl (QT_move rfl rfl rfl) ?_
        refine TL_A (St w0 (Y ++ (H2 ++ (H3 ++ (X ++ η))))) (fun _ h => h.cnt fun p => by simp only [List.countP_append]; omega) ?_
        refine TL_cq rfl rfl rfl rfl YtkkdpbjfkncpbaaF.cal_22 rfl (fun _ => len_at (n := k + 8 * bs1.length) _ hY hly (by omega)) ?_
        refine TL_q rfl rfl (QT_move rfl rfl rfl) ?_
        refine TL_q rfl rfl (QT_move rfl rfl rfl) ?_
        refine TL_q rfl rfl (QT_len rfl rfl Try.underlying22 rfl) ?_
        refine TL_q rfl rfl (QT_to (QT_mul rfl rfl rfl rfl (fun _ => ⟨by omega, by omega⟩)) (show (8 : Int) * (bs1.length : Int) = ((8 * bs1.length : Nat) : Int) by simp)) ?_
        refine TL_q rfl rfl (QT_to (QT_add rfl rfl rfl rfl (fun _ => ⟨by omega, by omega⟩)) (show (k : Int) + ((8 * bs1.length : Nat) : Int) = ((k + 8 * bs1.length : Nat) : Int) by simp)) ?_
        refine TL_q rfl rfl (QT_eql rfl rfl rfl rfl) ?_
        refine TL_q rfl rfl (QT_and rfl rfl rfl rfl) ?_
        refine TL_q rfl rfl (QT_move rfl rfl rfl) ?_
        refine TL_q rfl rfl (QT_move rfl rfl rfl) ?_
        refine TL_q rfl rfl (QT_move rfl rfl rfl) ?_
        refine TL_cq (hc := (by intro h; simp only [h]; rfl)) rfl rfl rfl rfl YtkkdpbjfkncpbaaF.cal_29 rfl (fun _ => got_ok (p := 0) (want := 0) (hB fun p => by simp only [List.countP_append]; omega) hx2 (by decide) ⟨by omega, by omega⟩ (by omega) q1 q2) ?_
        refine TL_q rfl rfl (QT_and rfl rfl rfl rfl) ?_
        refine TL_q rfl rfl (QT_move rfl rfl rfl) ?_
        refine TL_cq rfl rfl rfl rfl YtkkdpbjfkncpbaaF.cal_10 rfl (fun _ => lives06 w0 _) ?_
        refine TL_q rfl rfl (QT_and rfl rfl rfl rfl) ?_
        refine TL_q rfl rfl (QT_assign rfl rfl rfl) ?_
        refine TL_nil ?_
        refine TX_then ?_
        refine TC_ret ?_
        exact TX_ret (.inl rfl) (res1 rfl rfl) ⟨_, ⟨by simp, rfl⟩, fun _ h => h.cnt fun p => by simp only [List.countP_append]; omega⟩
end Go.Proofs.Ytkkdpbjfkncpbaa

/- LAWS OF BITS: any number from any bit on; a row that is not there; a number of the first ones and the others; a full row. -/
import Derived.Test.YtkkdpbjfkncpbaaP06g
namespace Go.Proofs.Ytkkdpbjfkncpbaa
open Go Go.Gx Go.RowKit
set_option maxRecDepth 100000

theorem twinB_spec (w0 : World) (η : Heap) (va : Value) (bs : List Nat) (ha : SlA (St w0 η) va 1 bs.length (byV bs)) (hb : ∀ c ∈ bs, c < 256) (hn : bs.length ≤ 1000000) :
    CallsT Try.prog 11 [va] (St w0 η) fun v A' => ∃ b, v = .slice (some ⟨b, 0, none⟩) bs.length (bs.length + 3) ∧ A' = St w0 ((b, 5, byV bs ++ [.int .u8 171, .int .u8 171, .int .u8 171]) :: η) := by
  refine CallsT.body Try.func11 rfl rfl ?_
  simp only [Try.ntmps11, slotsOf, Nat.reduceAdd]
  refine TC_seq ?_
  refine TC_reg ?_
  refine TL_q rfl rfl (QT_assign rfl rfl rfl) ?_
  refine TL_nil ?_
  refine TX_then ?_
  refine TC_seq ?_
  refine TC_reg ?_
  refine TL_q rfl rfl (QT_move rfl rfl rfl) ?_
  refine TL_e rfl rfl rfl (rfl) (ET_call rfl YtkkdpbjfkncpbaaF.cal_31 rfl (twin_Byte w0 _ va bs.length (byV bs) 171 ha (byV_ints hb) (by decide) hn)) ?_
  rintro _ _ ⟨b5, rfl, rfl⟩
  refine TL_q rfl rfl (QT_assign rfl rfl rfl) ?_
  refine TL_nil ?_
  refine TX_then ?_
  refine TC_ret ?_
  exact TX_ret (.inl rfl) (res1 rfl rfl) ⟨_, ⟨_, rfl, rfl⟩, (fun _ h => by first | exact h | exact h.tail | exact h.tail.tail | exact h.tail.tail.tail | exact h.tail.tail.tail.tail | exact h.tail.tail.tail.tail.tail | exact h.tail.tail.tail.tail.tail.tail | exact h.tail.tail.tail.tail.tail.tail.tail | exact h.tail.tail.tail.tail.tail.tail.tail.tail | exact h.tail.tail.tail.tail.tail.tail.tail.tail.tail | exact h.tail.tail.tail.tail.tail.tail.tail.tail.tail.tail | exact h.tail.tail.tail.tail.tail.tail.tail.tail.tail.tail.tail | exact h.tail.tail.tail.tail.tail.tail.tail.tail.tail.tail.tail.tail | exact h.tail.tail.tail.tail.tail.tail.tail.tail.tail.tail.tail.tail.tail)⟩
theorem leftB_spec (w0 : World) (η : Heap) (va : Value) (b : Nat) (bs : List Nat) (ha : SlA (St w0 η) va 1 bs.length (byV bs)) (hm : (b, 5, byV bs ++ [.int .u8 171, .int .u8 171, .int .u8 171]) ∈ η) (hb : ∀ c ∈ bs, c < 256) (hn : bs.length ≤ 1000000) :
    CallsT Try.prog 14 [.slice (some ⟨b, 0, none⟩) bs.length (bs.length + 3), va] (St w0 η) fun v A' => v = .bool true ∧ A' = St w0 η := by
  refine CallsT.body Try.func14 rfl rfl ?_
  simp only [Try.ntmps14, slotsOf, Nat.reduceAdd]
  refine TC_seq ?_
  refine TC_reg ?_
  refine TL_q rfl rfl (QT_assign rfl rfl rfl) ?_
  refine TL_nil ?_
  refine TX_then ?_
  refine TC_seq ?_
  refine TC_reg ?_
  refine TL_q rfl rfl (QT_move rfl rfl rfl) ?_
  refine TL_q rfl rfl (QT_move rfl rfl rfl) ?_
  refine TL_cq rfl rfl rfl rfl YtkkdpbjfkncpbaaF.cal_32 rfl (fun _ => left_Byte w0 _ va b bs.length (byV bs) 171 ha hm (byV_ints hb) (by decide) hn) ?_
  refine TL_q rfl rfl (QT_assign rfl rfl rfl) ?_
  refine TL_nil ?_
  refine TX_then ?_
  refine TC_ret ?_
  exact TX_ret (.inl rfl) (res1 rfl rfl) ⟨_, ⟨rfl, rfl⟩, (fun _ h => by first | exact h | exact h.tail | exact h.tail.tail | exact h.tail.tail.tail | exact h.tail.tail.tail.tail | exact h.tail.tail.tail.tail.tail | exact h.tail.tail.tail.tail.tail.tail | exact h.tail.tail.tail.tail.tail.tail.tail | exact h.tail.tail.tail.tail.tail.tail.tail.tail | exact h.tail.tail.tail.tail.tail.tail.tail.tail.tail | exact h.tail.tail.tail.tail.tail.tail.tail.tail.tail.tail | exact h.tail.tail.tail.tail.tail.tail.tail.tail.tail.tail.tail | exact h.tail.tail.tail.tail.tail.tail.tail.tail.tail.tail.tail.tail | exact h.tail.tail.tail.tail.tail.tail.tail.tail.tail.tail.tail.tail.tail)⟩
theorem law_bitsGet (w0 : World) (η : Heap) (sv : Value) (bs : List Nat) (p n : Int) (hs : SlA (St w0 η) sv 1 bs.length (byV bs)) (hb : ∀ c ∈ bs, c < 256) (hp : I64 p) (hn : I64 n) :
    CallsT Try.prog 3 [sv, .int .i64 p, .int .i64 n] (St w0 η) fun v A' => v = .bool true ∧ A' = St w0 η := by
  have hs0 := hs
  obtain ⟨_, ad, cap, rfl, hcap, _⟩ := hs
  refine CallsT.body Try.func3 rfl rfl ?_
  simp only [Try.ntmps3, slotsOf, Nat.reduceAdd]
  refine TC_seq ?_
  refine TC_reg ?_
  refine TL_q rfl rfl (QT_assign rfl rfl rfl) ?_
  refine TL_nil ?_
  refine TX_then ?_
  refine TC_seq ?_
  refine TC_seq ?_
  refine TC_reg ?_
  refine TL_q rfl rfl (QT_move rfl rfl rfl) ?_
  refine TL_q rfl rfl (QT_len rfl rfl Try.underlying22 rfl) ?_
  refine TL_q rfl rfl (QT_gtr rfl rfl rfl rfl) ?_
  refine TL_nil ?_
  refine TX_then ?_
  first
    | refine TC_cond_dec rfl (fun h14 => ?_) (fun h14 => ?_)
    | refine TC_cond rfl (fun h14 => ?_) (fun h14 => ?_)
  ·
    refine TC_seq ?_
    refine TC_reg ?_
    refine TL_cq rfl rfl rfl rfl YtkkdpbjfkncpbaaF.cal_10 rfl (fun _ => lives06 w0 _) ?_
    refine TL_q rfl rfl (QT_assign rfl rfl rfl) ?_
    refine TL_nil ?_
    refine TX_then ?_
    refine TC_ret ?_
    refine TX_then_ret ?_
    exact TX_ret (.inl rfl) (res1 rfl rfl) ⟨_, ⟨rfl, rfl⟩, (fun _ h => by first | exact h | exact h.tail | exact h.tail.tail | exact h.tail.tail.tail | exact h.tail.tail.tail.tail | exact h.tail.tail.tail.tail.tail | exact h.tail.tail.tail.tail.tail.tail | exact h.tail.tail.tail.tail.tail.tail.tail | exact h.tail.tail.tail.tail.tail.tail.tail.tail | exact h.tail.tail.tail.tail.tail.tail.tail.tail.tail | exact h.tail.tail.tail.tail.tail.tail.tail.tail.tail.tail | exact h.tail.tail.tail.tail.tail.tail.tail.tail.tail.tail.tail | exact h.tail.tail.tail.tail.tail.tail.tail.tail.tail.tail.tail.tail | exact h.tail.tail.tail.tail.tail.tail.tail.tail.tail.tail.tail.tail.tail)⟩
  ·
    refine TC_skip ?_
    refine TX_then ?_
    refine TC_seq ?_
    have hl : bs.length ≤ 70000 := by omega
    refine TC_reg ?_
    refine TL_q rfl rfl (QT_move rfl rfl rfl) ?_
    refine TL_e rfl rfl rfl (rfl) (ET_call rfl YtkkdpbjfkncpbaaF.cal_11 rfl (twinB_spec w0 _ _ bs hs0 hb (by omega))) ?_
    rintro _ _ ⟨bt, rfl, rfl⟩
    refine TL_q rfl rfl (QT_assign rfl rfl rfl) ?_
    refine TL_nil ?_
    refine TX_then ?_
    refine TC_seq ?_
    refine TC_reg ?_
    refine TL_q rfl rfl (QT_move rfl rfl rfl) ?_
    refine TL_q rfl rfl (QT_move rfl rfl rfl) ?_
    refine TL_q rfl rfl (QT_move rfl rfl rfl) ?_
    refine TL_cq rfl rfl rfl rfl YtkkdpbjfkncpbaaF.cal_12 rfl (fun _ => get_spec w0 _ _ bs p n (SlA.own 0 rfl (by rw [List.drop_zero, Nat.mul_one, ← byV_len, List.take_left]) (by simp [byV_len]) (by omega)) hb hp hn (by omega)) ?_
    refine TL_q rfl rfl (QT_move rfl rfl rfl) ?_
    refine TL_q rfl rfl (QT_extract rfl rfl rfl rfl) ?_
    refine TL_q rfl rfl (QT_extract rfl rfl rfl rfl) ?_
    refine TL_q rfl rfl (QT_assign rfl rfl rfl) ?_
    refine TL_q rfl rfl (QT_assign rfl rfl rfl) ?_
    refine TL_nil ?_
    refine TX_then ?_
    refine TC_seq ?_
    refine TC_reg ?_
    refine TL_q rfl rfl (QT_move rfl rfl rfl) ?_
    refine TL_q rfl rfl (QT_move rfl rfl rfl) ?_
    refine TL_q rfl rfl (QT_move rfl rfl rfl) ?_
    refine TL_cq rfl rfl rfl rfl YtkkdpbjfkncpbaaF.cal_13 rfl (fun _ => rget_spec w0 _ _ bs p n hs0.tail hb hp hn (by omega)) ?_
    refine TL_q rfl rfl (QT_move rfl rfl rfl) ?_
    refine TL_q rfl rfl (QT_extract rfl rfl rfl rfl) ?_
    refine TL_q rfl rfl (QT_extract rfl rfl rfl rfl) ?_
    refine TL_q rfl rfl (QT_assign rfl rfl rfl) ?_
    refine TL_q rfl rfl (QT_assign rfl rfl rfl) ?_
    refine TL_nil ?_
    refine TX_then ?_
    refine TC_seq ?_
    refine TC_reg ?_
    refine TL_q rfl rfl (QT_move rfl rfl rfl) ?_
    refine TL_q rfl rfl (QT_move rfl rfl rfl) ?_
    refine TL_q rfl rfl (QT_eql rfl rfl rfl rfl) ?_
    refine TL_q rfl rfl (QT_move rfl rfl rfl) ?_
    refine TL_q rfl rfl (QT_move rfl rfl rfl) ?_
    refine TL_q rfl rfl (QT_move rfl rfl rfl) ?_
    refine TL_q rfl rfl (QT_eql rfl rfl rfl rfl) ?_
    refine TL_q rfl rfl (QT_and rfl rfl rfl rfl) ?_
    refine TL_q rfl rfl (QT_move rfl rfl rfl) ?_
    refine TL_q rfl rfl (QT_move rfl rfl rfl) ?_
    refine TL_q rfl rfl (QT_move rfl rfl rfl) ?_
    refine TL_cq rfl rfl rfl rfl YtkkdpbjfkncpbaaF.cal_14 rfl (fun _ => leftB_spec w0 _ _ bt bs hs0.tail (List.mem_cons_self ..) hb (by omega)) ?_
    refine TL_q rfl rfl (QT_and rfl rfl rfl rfl) ?_
    refine TL_q rfl rfl (QT_move rfl rfl rfl) ?_
    refine TL_cq rfl rfl rfl rfl YtkkdpbjfkncpbaaF.cal_10 rfl (fun _ => lives06 w0 _) ?_
    refine TL_q rfl rfl (QT_and rfl rfl rfl rfl) ?_
    refine TL_q rfl rfl (QT_assign rfl rfl rfl) ?_
    refine TL_nil ?_
    refine TX_then ?_
    refine TC_ret ?_
    exact TX_ret (.inl rfl) (res1 rfl rfl) ⟨_, ⟨by simp, rfl⟩, (fun _ h => by first | exact h | exact h.tail | exact h.tail.tail | exact h.tail.tail.tail | exact h.tail.tail.tail.tail | exact h.tail.tail.tail.tail.tail | exact h.tail.tail.tail.tail.tail.tail | exact h.tail.tail.tail.tail.tail.tail.tail | exact h.tail.tail.tail.tail.tail.tail.tail.tail | exact h.tail.tail.tail.tail.tail.tail.tail.tail.tail | exact h.tail.tail.tail.tail.tail.tail.tail.tail.tail.tail | exact h.tail.tail.tail.tail.tail.tail.tail.tail.tail.tail.tail | exact h.tail.tail.tail.tail.tail.tail.tail.tail.tail.tail.tail.tail | exact h.tail.tail.tail.tail.tail.tail.tail.tail.tail.tail.tail.tail.tail)⟩

theorem void_there (w0 : World) (η : Heap) (rb : Nat) (pv : Value) (hpv : pv = .pointer none ∨ pv = .pointer (some ⟨rb, 0, none⟩)) :
    CallsT Try.prog 33 [pv] (St w0 ((rb, 62, rowC (.slice none 0 0) 0 0) :: η)) fun v A' => v = .bool false ∧ A' = St w0 ((rb, 62, rowC (.slice none 0 0) 0 0) :: η) := by
  rcases hpv with rfl | rfl
  · exact thereNil_spec w0 _
  · exact there_spec w0 η rb _ 0 0
theorem void_put (w0 : World) (η : Heap) (rb : Nat) (pv : Value) (v n : Int) (hpv : pv = .pointer none ∨ pv = .pointer (some ⟨rb, 0, none⟩)) :
    CallsT Try.prog 19 [pv, .int .u32 v, .int .i64 n] (St w0 ((rb, 62, rowC (.slice none 0 0) 0 0) :: η)) fun v A' => v = .int .i64 2 ∧ A' = St w0 ((rb, 62, rowC (.slice none 0 0) 0 0) :: η) := by
  refine CallsT.body Try.func19 rfl rfl ?_
  simp only [Try.ntmps19, slotsOf, Nat.reduceAdd]
  refine TC_seq ?_
  refine TC_reg ?_
  refine TL_q rfl rfl (QT_assign rfl rfl rfl) ?_
  refine TL_nil ?_
  refine TX_then ?_
  refine TC_seq ?_
  refine TC_block ?_
  refine TC_seq ?_
  refine TC_reg ?_
  refine TL_q rfl rfl (QT_move rfl rfl rfl) ?_
  refine TL_cq rfl rfl rfl rfl YtkkdpbjfkncpbaaF.cal_33 rfl (fun _ => void_there w0 η rb pv hpv) ?_
  refine TL_q rfl rfl (QT_not rfl rfl rfl) ?_
  refine TL_q rfl rfl (QT_assign rfl rfl rfl) ?_
  refine TL_nil ?_
  refine TX_then ?_
  refine TC_cond rfl (fun _ => ?_) (fun h => absurd (h.symm.trans ((show (_ : Bool) = true by rfl))) (by decide))
  refine TC_seq ?_
  refine TC_reg ?_
  refine TL_q rfl rfl (QT_assign rfl rfl rfl) ?_
  refine TL_nil ?_
  refine TX_then ?_
  refine TC_ret ?_
  refine TX_block_ret ?_
  refine TX_then_ret ?_
  exact TX_ret (.inl rfl) (res1 rfl rfl) ⟨_, ⟨rfl, rfl⟩, fun _ h => h⟩
theorem void_pad (w0 : World) (η : Heap) (rb : Nat) (pv : Value) (hpv : pv = .pointer none ∨ pv = .pointer (some ⟨rb, 0, none⟩)) :
    CallsT Try.prog 17 [pv] (St w0 ((rb, 62, rowC (.slice none 0 0) 0 0) :: η)) fun v A' => v = .int .i64 2 ∧ A' = St w0 ((rb, 62, rowC (.slice none 0 0) 0 0) :: η) := by
  refine CallsT.body Try.func17 rfl rfl ?_
  simp only [Try.ntmps17, slotsOf, Nat.reduceAdd]
  refine TC_seq ?_
  refine TC_reg ?_
  refine TL_q rfl rfl (QT_assign rfl rfl rfl) ?_
  refine TL_nil ?_
  refine TX_then ?_
  refine TC_seq ?_
  refine TC_seq ?_
  refine TC_reg ?_
  refine TL_q rfl rfl (QT_move rfl rfl rfl) ?_
  refine TL_cq rfl rfl rfl rfl YtkkdpbjfkncpbaaF.cal_33 rfl (fun _ => void_there w0 η rb pv hpv) ?_
  refine TL_q rfl rfl (QT_not rfl rfl rfl) ?_
  refine TL_nil ?_
  refine TX_then ?_
  refine TC_cond rfl (fun _ => ?_) (fun h => absurd (h.symm.trans ((show (_ : Bool) = true by rfl))) (by decide))
  refine TC_seq ?_
  refine TC_reg ?_
  refine TL_q rfl rfl (QT_assign rfl rfl rfl) ?_
  refine TL_nil ?_
  refine TX_then ?_
  refine TC_ret ?_
  refine TX_then_ret ?_
  exact TX_ret (.inl rfl) (res1 rfl rfl) ⟨_, ⟨rfl, rfl⟩, fun _ h => h⟩
theorem void_bytes (w0 : World) (η : Heap) (rb : Nat) (pv : Value) (hpv : pv = .pointer none ∨ pv = .pointer (some ⟨rb, 0, none⟩)) :
    CallsT Try.prog 21 [pv] (St w0 ((rb, 62, rowC (.slice none 0 0) 0 0) :: η)) fun v A' => v = .slice none 0 0 ∧ A' = St w0 ((rb, 62, rowC (.slice none 0 0) 0 0) :: η) := by
  refine CallsT.body Try.func21 rfl rfl ?_
  simp only [Try.ntmps21, slotsOf, Nat.reduceAdd]
  refine TC_seq ?_
  refine TC_reg ?_
  refine TL_q rfl rfl (QT_assign rfl rfl rfl) ?_
  refine TL_nil ?_
  refine TX_then ?_
  refine TC_seq ?_
  refine TC_seq ?_
  refine TC_reg ?_
  refine TL_q rfl rfl (QT_move rfl rfl rfl) ?_
  refine TL_cq rfl rfl rfl rfl YtkkdpbjfkncpbaaF.cal_33 rfl (fun _ => void_there w0 η rb pv hpv) ?_
  refine TL_q rfl rfl (QT_not rfl rfl rfl) ?_
  refine TL_nil ?_
  refine TX_then ?_
  refine TC_cond rfl (fun _ => ?_) (fun h => absurd (h.symm.trans ((show (_ : Bool) = true by rfl))) (by decide))
  refine TC_seq ?_
  refine TC_reg ?_
  refine TL_q rfl rfl (QT_assign rfl rfl rfl) ?_
  refine TL_nil ?_
  refine TX_then ?_
  refine TC_ret ?_
  refine TX_then_ret ?_
  exact TX_ret (.inl rfl) (res1 rfl rfl) ⟨_, ⟨rfl, rfl⟩, fun _ h => h⟩
theorem void_len (w0 : World) (η : Heap) (rb : Nat) (pv : Value) (hpv : pv = .pointer none ∨ pv = .pointer (some ⟨rb, 0, none⟩)) :
    CallsT Try.prog 22 [pv] (St w0 ((rb, 62, rowC (.slice none 0 0) 0 0) :: η)) fun v A' => v = .int .i64 0 ∧ A' = St w0 ((rb, 62, rowC (.slice none 0 0) 0 0) :: η) := by
  refine CallsT.body Try.func22 rfl rfl ?_
  simp only [Try.ntmps22, slotsOf, Nat.reduceAdd]
  refine TC_seq ?_
  refine TC_reg ?_
  refine TL_q rfl rfl (QT_assign rfl rfl rfl) ?_
  refine TL_nil ?_
  refine TX_then ?_
  refine TC_seq ?_
  refine TC_seq ?_
  refine TC_reg ?_
  refine TL_q rfl rfl (QT_move rfl rfl rfl) ?_
  refine TL_cq rfl rfl rfl rfl YtkkdpbjfkncpbaaF.cal_33 rfl (fun _ => void_there w0 η rb pv hpv) ?_
  refine TL_q rfl rfl (QT_not rfl rfl rfl) ?_
  refine TL_nil ?_
  refine TX_then ?_
  refine TC_cond rfl (fun _ => ?_) (fun h => absurd (h.symm.trans ((show (_ : Bool) = true by rfl))) (by decide))
  refine TC_seq ?_
  refine TC_reg ?_
  refine TL_q rfl rfl (QT_assign rfl rfl rfl) ?_
  refine TL_nil ?_
  refine TX_then ?_
  refine TC_ret ?_
  refine TX_then_ret ?_
  exact TX_ret (.inl rfl) (res1 rfl rfl) ⟨_, ⟨rfl, rfl⟩, fun _ h => h⟩
theorem law_bitsVoid (w0 : World) (η : Heap) (v n : Int) :
    CallsT Try.prog 5 [.int .u32 v, .int .i64 n] (St w0 η) fun v A' => v = .bool true ∧ A' = St w0 η := by
  refine CallsT.body Try.func5 rfl rfl ?_
  simp only [Try.ntmps5, slotsOf, Nat.reduceAdd]
  refine TC_seq ?_
  refine TC_reg ?_
  refine TL_q rfl rfl (QT_assign rfl rfl rfl) ?_
  refine TL_nil ?_
  refine TX_then ?_
  refine TC_seq ?_
  refine TC_reg ?_
  refine TL_e rfl rfl rfl (rfl) (ET_alloc rfl YtkkdpbjfkncpbaaF.zero_62) ?_
  rintro _ _ ⟨b5, rfl, rfl⟩
  refine TL_nil ?_
  refine TX_then ?_
  refine TC_seq ?_
  refine TC_reg ?_
  refine TL_e rfl rfl rfl (rfl) (ET_buildSlice rfl Try.underlying63 YtkkdpbjfkncpbaaF.sz_32 YtkkdpbjfkncpbaaF.zero_32 rfl rfl rfl) ?_
  rintro _ _ ⟨b8, rfl, rfl⟩
  refine TL_q rfl rfl (QT_assign rfl rfl rfl) ?_
  refine TL_nil ?_
  refine TX_then ?_
  refine TC_seq ?_
  refine TC_seq ?_
  refine TC_reg ?_
  refine TL_q rfl rfl (QT_assign rfl rfl rfl) ?_
  refine TL_nil ?_
  refine TX_then ?_
  refine TC_block ?_
  refine TC_loop (γ := { i : Nat // i ≤ 2 }) (fun t => [(0, true, .int .u32 v), (1, true, .int .i64 n), (6, true, .slice (some ⟨b8, 0, none⟩) 2 2), (7, true, .int .i64 (t.1 : Int))]) (fun _ => St w0 ((b5, 62, rowC (.slice none 0 0) 0 0) :: (b8, 32, [.pointer none, .pointer (some ⟨b5, 0, none⟩)]) :: η)) (fun t => 2 - t.1) ⟨0, by omega⟩ ⟨rfl, rfl, rfl, rfl, trivial⟩ (fun _ h => St.swap h) ?_
  rintro ⟨i, hi⟩
  dsimp only
  refine TC_seq ?_
  refine TC_seq ?_
  refine TC_reg ?_
  refine TL_q rfl rfl (QT_move rfl rfl rfl) ?_
  refine TL_q rfl rfl (QT_lss rfl rfl rfl rfl) ?_
  refine TL_nil ?_
  refine TX_then ?_
  first
    | refine TC_cond_dec rfl (fun h10 => ?_) (fun h10 => ?_)
    | refine TC_cond rfl (fun h10 => ?_) (fun h10 => ?_)
  ·
    have hi' : i < 2 := by omega
    obtain ⟨pv, hat, hpv⟩ : ∃ pv, [Value.pointer none, .pointer (some ⟨b5, 0, none⟩)][0 + i * 1]? = some pv ∧ (pv = .pointer none ∨ pv = .pointer (some ⟨b5, 0, none⟩)) := by
      match i, hi' with
      | 0, _ => exact ⟨_, rfl, .inl rfl⟩
      | 1, _ => exact ⟨_, rfl, .inr rfl⟩
    refine TC_skip ?_
    refine TX_then ?_
    refine TC_seq ?_
    refine TC_block ?_
    refine TC_seq ?_
    refine TC_reg ?_
    refine TL_q rfl rfl (QT_move rfl rfl rfl) ?_
    refine TL_q rfl rfl (QT_move rfl rfl rfl) ?_
    refine TL_q rfl rfl (QT_indexSlice (i) rfl rfl Try.underlying63 YtkkdpbjfkncpbaaF.sz_32 rfl rfl (rfl) (fun _ => hi')) ?_
    refine TL_q rfl rfl (QT_load 1 rfl rfl Try.underlying32 rfl rfl rfl (fun _ => hat)) ?_
    refine TL_q rfl rfl (QT_move rfl rfl rfl) ?_
    refine TL_q rfl rfl (QT_move rfl rfl rfl) ?_
    refine TL_cq rfl rfl rfl rfl YtkkdpbjfkncpbaaF.cal_19 rfl (fun _ => void_put w0 _ b5 pv v n hpv) ?_
    refine TL_q rfl rfl (QT_neq rfl rfl rfl rfl) ?_
    refine TL_q rfl rfl (QT_move rfl rfl rfl) ?_
    refine TL_q rfl rfl (QT_move rfl rfl rfl) ?_
    refine TL_q rfl rfl (QT_move rfl rfl rfl) ?_
    refine TL_q rfl rfl (QT_indexSlice (i) rfl rfl Try.underlying63 YtkkdpbjfkncpbaaF.sz_32 rfl rfl (rfl) (fun _ => hi')) ?_
    refine TL_q rfl rfl (QT_load 1 rfl rfl Try.underlying32 rfl rfl rfl (fun _ => hat)) ?_
    refine TL_cq rfl rfl rfl rfl YtkkdpbjfkncpbaaF.cal_17 rfl (fun _ => void_pad w0 _ b5 pv hpv) ?_
    refine TL_q rfl rfl (QT_neq rfl rfl rfl rfl) ?_
    refine TL_q rfl rfl (QT_or rfl rfl rfl rfl) ?_
    refine TL_q rfl rfl (QT_move rfl rfl rfl) ?_
    refine TL_q rfl rfl (QT_move rfl rfl rfl) ?_
    refine TL_q rfl rfl (QT_move rfl rfl rfl) ?_
    refine TL_q rfl rfl (QT_indexSlice (i) rfl rfl Try.underlying63 YtkkdpbjfkncpbaaF.sz_32 rfl rfl (rfl) (fun _ => hi')) ?_
    refine TL_q rfl rfl (QT_load 1 rfl rfl Try.underlying32 rfl rfl rfl (fun _ => hat)) ?_
    refine TL_cq rfl rfl rfl rfl YtkkdpbjfkncpbaaF.cal_21 rfl (fun _ => void_bytes w0 _ b5 pv hpv) ?_
    refine TL_q rfl rfl (QT_len rfl rfl Try.underlying22 rfl) ?_
    refine TL_q rfl rfl (QT_neq rfl rfl rfl rfl) ?_
    refine TL_q rfl rfl (QT_or rfl rfl rfl rfl) ?_
    refine TL_q rfl rfl (QT_move rfl rfl rfl) ?_
    refine TL_q rfl rfl (QT_move rfl rfl rfl) ?_
    refine TL_q rfl rfl (QT_move rfl rfl rfl) ?_
    refine TL_q rfl rfl (QT_indexSlice (i) rfl rfl Try.underlying63 YtkkdpbjfkncpbaaF.sz_32 rfl rfl (rfl) (fun _ => hi')) ?_
    refine TL_q rfl rfl (QT_load 1 rfl rfl Try.underlying32 rfl rfl rfl (fun _ => hat)) ?_
    refine TL_cq rfl rfl rfl rfl YtkkdpbjfkncpbaaF.cal_22 rfl (fun _ => void_len w0 _ b5 pv hpv) ?_
    refine TL_q rfl rfl (QT_neq rfl rfl rfl rfl) ?_
    refine TL_q rfl rfl (QT_or rfl rfl rfl rfl) ?_
    refine TL_nil ?_
    refine TX_then ?_
    refine TC_cond rfl (fun h => absurd (h.symm.trans ((show (_ : Bool) = false by rfl))) (by decide)) (fun _ => ?_)
    refine TC_skip ?_
    refine TX_block_normal ?_
    refine TX_then ?_
    refine TC_reg ?_
    refine TL_q rfl rfl (QT_move rfl rfl rfl) ?_
    refine TL_q rfl rfl (QT_add rfl rfl rfl rfl (fun _ => ⟨by omega, by omega⟩)) ?_
    refine TL_q rfl rfl (QT_assign rfl rfl rfl) ?_
    refine TL_nil ?_
    exact TX_round ⟨i + 1, by omega⟩ (by show 2 - (i + 1) < 2 - i; omega) ⟨rfl, rfl, rfl, rfl, trivial⟩ (fun _ h => h)
  ·
    refine TC_exit ?_
    refine TX_then_exit ?_
    refine TX_then_exit ?_
    refine TX_block_here ?_
    refine TX_then ?_
    refine TC_seq ?_
    refine TC_reg ?_
    refine TL_cq rfl rfl rfl rfl YtkkdpbjfkncpbaaF.cal_10 rfl (fun _ => lives06 w0 _) ?_
    refine TL_q rfl rfl (QT_assign rfl rfl rfl) ?_
    refine TL_nil ?_
    refine TX_then ?_
    refine TC_ret ?_
    exact TX_ret (.inl rfl) (res1 rfl rfl) ⟨_, ⟨rfl, rfl⟩, (fun _ h => by first | exact h | exact h.tail | exact h.tail.tail | exact h.tail.tail.tail | exact h.tail.tail.tail.tail | exact h.tail.tail.tail.tail.tail | exact h.tail.tail.tail.tail.tail.tail | exact h.tail.tail.tail.tail.tail.tail.tail | exact h.tail.tail.tail.tail.tail.tail.tail.tail | exact h.tail.tail.tail.tail.tail.tail.tail.tail.tail | exact h.tail.tail.tail.tail.tail.tail.tail.tail.tail.tail | exact h.tail.tail.tail.tail.tail.tail.tail.tail.tail.tail.tail | exact h.tail.tail.tail.tail.tail.tail.tail.tail.tail.tail.tail.tail | exact h.tail.tail.tail.tail.tail.tail.tail.tail.tail.tail.tail.tail.tail)⟩

theorem getV_ok {bs : List Nat} {q m : Nat} (h : q + m ≤ 8 * bs.length) (hm : m ≤ 32) : getE bs.length (q : Int) (m : Int) = 0 ∧ getV bs (q : Int) (m : Int) = num (((byB bs).drop q).take m) := by
  have e0 : getE bs.length (q : Int) (m : Int) = 0 := by unfold getE; rw [if_neg (by omega), if_neg (by omega)]
  exact ⟨e0, by unfold getV; rw [if_pos e0, Int.toNat_natCast, Int.toNat_natCast]⟩
theorem getV_lt (bs : List Nat) (q m : Nat) (hm : m ≤ 32) : num (((byB bs).drop q).take m) < 2 ^ m ∧ 2 ^ m ≤ 4294967296 := by
  have h1 := num_lt (((byB bs).drop q).take m)
  have h2 : (((byB bs).drop q).take m).length ≤ m := by rw [List.length_take]; exact Nat.min_le_left ..
  exact ⟨Nat.lt_of_lt_of_le h1 (Nat.pow_le_pow_right (by decide) h2), (pow_b hm).2⟩
theorem parts_num (bs : List Nat) (q m k : Nat) (hk : k ≤ m) (h : q + m ≤ 8 * bs.length) : num (((byB bs).drop q).take m) = num (((byB bs).drop q).take k) * 2 ^ (m - k) + num (((byB bs).drop (q + k)).take (m - k)) := by
  have e : ((byB bs).drop q).take m = ((byB bs).drop q).take k ++ ((byB bs).drop (q + k)).take (m - k) := by
    conv => lhs; rw [show m = k + (m - k) by omega, List.take_add, List.drop_drop]
  have hl : (((byB bs).drop (q + k)).take (m - k)).length = m - k := by rw [List.length_take, List.length_drop, byB_len]; omega
  rw [e, num_append, hl]
theorem shl64 {X m : Nat} (hm : m ≤ 32) (hX : X * 2 ^ m < 4294967296) : IntKind.u64.wrap ((X : Int) * 2 ^ (min (m : Int).toNat IntKind.u64.bits)) = ((X * 2 ^ m : Nat) : Int) := by
  have e : (X : Int) * 2 ^ (min (m : Int).toNat IntKind.u64.bits) = ((X * 2 ^ m : Nat) : Int) := by
    rw [Int.toNat_natCast, Nat.min_eq_left (show m ≤ IntKind.u64.bits by show m ≤ 64; omega)]; simp
  rw [e]
  clear e
  generalize X * 2 ^ m = Y at hX
  exact IntWalk.u64_in (Y : Int) ⟨by omega, by omega⟩
theorem law_bitsParts (w0 : World) (η : Heap) (sv : Value) (bs : List Nat) (q z0 z1 : Nat) (hs : SlA (St w0 η) sv 1 bs.length (byV bs)) (hb : ∀ c ∈ bs, c < 256) (hq : q ≤ 65535) (h0 : z0 ≤ 255) (h1 : z1 ≤ 255) (hl : bs.length ≤ 140737488355328) :
    CallsT Try.prog 7 [sv, .int .u16 (q : Int), .agg #[.int .u8 (z0 : Int), .int .u8 (z1 : Int)]] (St w0 η) fun v A' => v = .bool true ∧ A' = St w0 η := by
  have hs0 := hs
  obtain ⟨_, ad, cap, rfl, hcap, _⟩ := hs
  obtain ⟨m, hm⟩ : ∃ m, m = z0 % 33 := ⟨_, rfl⟩
  obtain ⟨k, hk⟩ : ∃ k, k = z1 % (m + 1) := ⟨_, rfl⟩
  have hm32 : m ≤ 32 := by omega
  have hkm : k ≤ m := by rw [hk]; exact Nat.lt_succ_iff.1 (Nat.mod_lt _ (Nat.succ_pos _))
  have hw0 : IntKind.i64.wrap (z0 : Int) = (z0 : Int) := wrap_i64 ⟨by omega, by omega⟩
  have hw1 : IntKind.i64.wrap (z1 : Int) = (z1 : Int) := wrap_i64 ⟨by omega, by omega⟩
  have hwq : IntKind.i64.wrap (q : Int) = (q : Int) := wrap_i64 ⟨by omega, by omega⟩
  refine CallsT.body Try.func7 rfl rfl ?_
  simp only [Try.ntmps7, slotsOf, Nat.reduceAdd]
  refine TC_seq ?_
  refine TC_reg ?_
  refine TL_e rfl rfl rfl (rfl) (ET_box rfl rfl) ?_
  rintro _ _ ⟨b5, rfl, rfl⟩
  refine TL_q rfl rfl (QT_assign rfl rfl rfl) ?_
  refine TL_nil ?_
  refine TX_then ?_
  refine TC_seq ?_
  refine TC_reg ?_
  refine TL_q rfl rfl (QT_indexArr (0) rfl rfl Try.underlying69 YtkkdpbjfkncpbaaF.sz_5 rfl rfl (rfl) (fun _ => by decide)) ?_
  first
    | refine TL_q rfl rfl (QT_load 0 rfl rfl Try.underlying5 rfl rfl rfl (fun _ => rfl)) ?_
    | refine TL_q rfl rfl (QT_load 1 rfl rfl Try.underlying5 rfl rfl rfl (fun _ => rfl)) ?_
    | refine TL_q rfl rfl (QT_load 2 rfl rfl Try.underlying5 rfl rfl rfl (fun _ => rfl)) ?_
  refine TL_q rfl rfl (QT_convN rfl rfl Try.underlying5 Try.underlying3 rfl hw0) ?_
  refine TL_q rfl rfl (QT_to (QT_rem rfl rfl rfl rfl (fun _ => ⟨by omega, by omega⟩)) (show (z0 : Int) % 33 = (m : Int) by rw [hm]; simp)) ?_
  refine TL_q rfl rfl (QT_assign rfl rfl rfl) ?_
  refine TL_nil ?_
  refine TX_then ?_
  refine TC_seq ?_
  refine TC_reg ?_
  refine TL_q rfl rfl (QT_indexArr (1) rfl rfl Try.underlying69 YtkkdpbjfkncpbaaF.sz_5 rfl rfl (rfl) (fun _ => by decide)) ?_
  first
    | refine TL_q rfl rfl (QT_load 0 rfl rfl Try.underlying5 rfl rfl rfl (fun _ => rfl)) ?_
    | refine TL_q rfl rfl (QT_load 1 rfl rfl Try.underlying5 rfl rfl rfl (fun _ => rfl)) ?_
    | refine TL_q rfl rfl (QT_load 2 rfl rfl Try.underlying5 rfl rfl rfl (fun _ => rfl)) ?_
  refine TL_q rfl rfl (QT_convN rfl rfl Try.underlying5 Try.underlying3 rfl hw1) ?_
  refine TL_q rfl rfl (QT_move rfl rfl rfl) ?_
  refine TL_q rfl rfl (QT_add rfl rfl rfl rfl (fun _ => ⟨by omega, by omega⟩)) ?_
  refine TL_q rfl rfl (QT_to (QT_rem rfl rfl rfl rfl (fun _ => ⟨by omega, by omega⟩)) (show (z1 : Int) % ((m : Int) + 1) = (k : Int) by rw [hk]; simp)) ?_
  refine TL_q rfl rfl (QT_assign rfl rfl rfl) ?_
  refine TL_nil ?_
  refine TX_then ?_
  refine TC_seq ?_
  refine TC_reg ?_
  refine TL_q rfl rfl (QT_move rfl rfl rfl) ?_
  refine TL_q rfl rfl (QT_move rfl rfl rfl) ?_
  refine TL_q rfl rfl (QT_convN rfl rfl Try.underlying68 Try.underlying3 rfl hwq) ?_
  refine TL_q rfl rfl (QT_move rfl rfl rfl) ?_
  refine TL_cq rfl rfl rfl rfl YtkkdpbjfkncpbaaF.cal_12 rfl (fun _ => get_spec w0 _ _ bs (q : Int) (m : Int) hs0.tail hb ⟨by omega, by omega⟩ ⟨by omega, by omega⟩ hl) ?_
  refine TL_q rfl rfl (QT_move rfl rfl rfl) ?_
  refine TL_q rfl rfl (QT_extract rfl rfl rfl rfl) ?_
  refine TL_q rfl rfl (QT_extract rfl rfl rfl rfl) ?_
  refine TL_q rfl rfl (QT_assign rfl rfl rfl) ?_
  refine TL_q rfl rfl (QT_assign rfl rfl rfl) ?_
  refine TL_nil ?_
  refine TX_then ?_
  refine TC_seq ?_
  refine TC_seq ?_
  refine TC_reg ?_
  refine TL_q rfl rfl (QT_move rfl rfl rfl) ?_
  refine TL_q rfl rfl (QT_convN rfl rfl Try.underlying68 Try.underlying3 rfl hwq) ?_
  refine TL_q rfl rfl (QT_move rfl rfl rfl) ?_
  refine TL_q rfl rfl (QT_add rfl rfl rfl rfl (fun _ => ⟨by omega, by omega⟩)) ?_
  refine TL_q rfl rfl (QT_move rfl rfl rfl) ?_
  refine TL_q rfl rfl (QT_len rfl rfl Try.underlying22 rfl) ?_
  refine TL_q rfl rfl (QT_mul rfl rfl rfl rfl (fun _ => ⟨by omega, by omega⟩)) ?_
  refine TL_q rfl rfl (QT_gtr rfl rfl rfl rfl) ?_
  refine TL_nil ?_
  refine TX_then ?_
  first
    | refine TC_cond_dec rfl (fun h40 => ?_) (fun h40 => ?_)
    | refine TC_cond rfl (fun h40 => ?_) (fun h40 => ?_)
  ·
    have e5 : getE bs.length (q : Int) (m : Int) = 5 := by unfold getE; rw [if_neg (by omega), if_pos (by omega)]
    have v5 : getV bs (q : Int) (m : Int) = 0 := by unfold getV; rw [e5, if_neg (by decide)]
    rw [e5, v5]
    refine TC_seq ?_
    refine TC_reg ?_
    refine TL_q rfl rfl (QT_move rfl rfl rfl) ?_
    refine TL_q rfl rfl (QT_eql rfl rfl rfl rfl) ?_
    refine TL_q rfl rfl (QT_move rfl rfl rfl) ?_
    refine TL_q rfl rfl (QT_move rfl rfl rfl) ?_
    refine TL_q rfl rfl (QT_eql rfl rfl rfl rfl) ?_
    refine TL_q rfl rfl (QT_and rfl rfl rfl rfl) ?_
    refine TL_q rfl rfl (QT_move rfl rfl rfl) ?_
    refine TL_cq rfl rfl rfl rfl YtkkdpbjfkncpbaaF.cal_10 rfl (fun _ => lives06 w0 _) ?_
    refine TL_q rfl rfl (QT_and rfl rfl rfl rfl) ?_
    refine TL_q rfl rfl (QT_assign rfl rfl rfl) ?_
    refine TL_nil ?_
    refine TX_then ?_
    refine TC_ret ?_
    refine TX_then_ret ?_
    exact TX_ret (.inl rfl) (res1 rfl rfl) ⟨_, ⟨rfl, rfl⟩, (fun _ h => by first | exact h | exact h.tail | exact h.tail.tail | exact h.tail.tail.tail | exact h.tail.tail.tail.tail | exact h.tail.tail.tail.tail.tail | exact h.tail.tail.tail.tail.tail.tail | exact h.tail.tail.tail.tail.tail.tail.tail | exact h.tail.tail.tail.tail.tail.tail.tail.tail | exact h.tail.tail.tail.tail.tail.tail.tail.tail.tail | exact h.tail.tail.tail.tail.tail.tail.tail.tail.tail.tail | exact h.tail.tail.tail.tail.tail.tail.tail.tail.tail.tail.tail | exact h.tail.tail.tail.tail.tail.tail.tail.tail.tail.tail.tail.tail | exact h.tail.tail.tail.tail.tail.tail.tail.tail.tail.tail.tail.tail.tail)⟩
  ·
    refine TC_skip ?_
    refine TX_then ?_
    refine TC_seq ?_
    have hqm : q + m ≤ 8 * bs.length := by omega
    obtain ⟨a1, a2⟩ := getV_ok hqm hm32
    obtain ⟨b1, b2⟩ := getV_ok (show q + k ≤ 8 * bs.length by omega) (show k ≤ 32 by omega)
    obtain ⟨c1, c2⟩ := getV_ok (show (q + k) + (m - k) ≤ 8 * bs.length by omega) (show m - k ≤ 32 by omega)
    have hpn := parts_num bs q m k hkm hqm
    obtain ⟨g1, g2⟩ := getV_lt bs q m hm32
    obtain ⟨g3, g4⟩ := getV_lt bs (q + k) (m - k) (by omega)
    rw [a1, a2]
    refine TC_reg ?_
    refine TL_q rfl rfl (QT_move rfl rfl rfl) ?_
    refine TL_q rfl rfl (QT_move rfl rfl rfl) ?_
    refine TL_q rfl rfl (QT_convN rfl rfl Try.underlying68 Try.underlying3 rfl hwq) ?_
    refine TL_q rfl rfl (QT_move rfl rfl rfl) ?_
    refine TL_cq rfl rfl rfl rfl YtkkdpbjfkncpbaaF.cal_12 rfl (fun _ => get_spec w0 _ _ bs (q : Int) (k : Int) hs0.tail hb ⟨by omega, by omega⟩ ⟨by omega, by omega⟩ hl) ?_
    refine TL_q rfl rfl (QT_move rfl rfl rfl) ?_
    refine TL_q rfl rfl (QT_extract rfl rfl rfl rfl) ?_
    refine TL_q rfl rfl (QT_extract rfl rfl rfl rfl) ?_
    refine TL_q rfl rfl (QT_assign rfl rfl rfl) ?_
    refine TL_q rfl rfl (QT_assign rfl rfl rfl) ?_
    refine TL_nil ?_
    refine TX_then ?_
    refine TC_seq ?_
    refine TC_reg ?_
    refine TL_q rfl rfl (QT_move rfl rfl rfl) ?_
    refine TL_q rfl rfl (QT_move rfl rfl rfl) ?_
    refine TL_q rfl rfl (QT_convN rfl rfl Try.underlying68 Try.underlying3 rfl hwq) ?_
    refine TL_q rfl rfl (QT_move rfl rfl rfl) ?_
    refine TL_q rfl rfl (QT_to (QT_add rfl rfl rfl rfl (fun _ => ⟨by omega, by omega⟩)) (show (q : Int) + (k : Int) = ((q + k : Nat) : Int) by simp)) ?_
    refine TL_q rfl rfl (QT_move rfl rfl rfl) ?_
    refine TL_q rfl rfl (QT_move rfl rfl rfl) ?_
    refine TL_q rfl rfl (QT_to (QT_sub rfl rfl rfl rfl (fun _ => ⟨by omega, by omega⟩)) (show (m : Int) - (k : Int) = ((m - k : Nat) : Int) by omega)) ?_
    refine TL_cq rfl rfl rfl rfl YtkkdpbjfkncpbaaF.cal_12 rfl (fun _ => get_spec w0 _ _ bs ((q + k : Nat) : Int) ((m - k : Nat) : Int) hs0.tail hb ⟨by omega, by omega⟩ ⟨by omega, by omega⟩ hl) ?_
    refine TL_q rfl rfl (QT_move rfl rfl rfl) ?_
    refine TL_q rfl rfl (QT_extract rfl rfl rfl rfl) ?_
    refine TL_q rfl rfl (QT_extract rfl rfl rfl rfl) ?_
    refine TL_q rfl rfl (QT_assign rfl rfl rfl) ?_
    refine TL_q rfl rfl (QT_assign rfl rfl rfl) ?_
    refine TL_nil ?_
    refine TX_then ?_
    refine TC_seq ?_
    rw [b1, b2, c1, c2]
    generalize hX : num (((byB bs).drop q).take m) = X at hpn g1 ⊢
    generalize hY : num (((byB bs).drop q).take k) = Y at hpn ⊢
    generalize hZ : num (((byB bs).drop (q + k)).take (m - k)) = Z at hpn g3 ⊢
    have hYp : Y * 2 ^ (m - k) < 4294967296 := by omega
    have hX0 : X / 2 ^ m = 0 := Nat.div_eq_of_lt g1
    have hYle : Y ≤ Y * 2 ^ (m - k) := Nat.le_mul_of_pos_right _ (Nat.two_pow_pos _)
    refine TC_reg ?_
    refine TL_q rfl rfl (QT_move rfl rfl rfl) ?_
    refine TL_q rfl rfl (QT_eql rfl rfl rfl rfl) ?_
    refine TL_q rfl rfl (QT_move rfl rfl rfl) ?_
    refine TL_q rfl rfl (QT_move rfl rfl rfl) ?_
    refine TL_q rfl rfl (QT_eql rfl rfl rfl rfl) ?_
    refine TL_q rfl rfl (QT_and rfl rfl rfl rfl) ?_
    refine TL_q rfl rfl (QT_move rfl rfl rfl) ?_
    refine TL_q rfl rfl (QT_move rfl rfl rfl) ?_
    refine TL_q rfl rfl (QT_eql rfl rfl rfl rfl) ?_
    refine TL_q rfl rfl (QT_and rfl rfl rfl rfl) ?_
    refine TL_q rfl rfl (QT_move rfl rfl rfl) ?_
    refine TL_q rfl rfl (QT_move rfl rfl rfl) ?_
    refine TL_q rfl rfl (QT_convN rfl rfl Try.underlying25 Try.underlying70 rfl (IntWalk.u64_in _ ⟨by omega, by omega⟩)) ?_
    refine TL_q rfl rfl (QT_move rfl rfl rfl) ?_
    refine TL_q rfl rfl (QT_convN rfl rfl Try.underlying25 Try.underlying70 rfl (IntWalk.u64_in _ ⟨by omega, by omega⟩)) ?_
    refine TL_q rfl rfl (QT_move rfl rfl rfl) ?_
    refine TL_q rfl rfl (QT_move rfl rfl rfl) ?_
    refine TL_q rfl rfl (QT_to (QT_sub rfl rfl rfl rfl (fun _ => ⟨by omega, by omega⟩)) (show (m : Int) - (k : Int) = ((m - k : Nat) : Int) by omega)) ?_
    refine TL_q rfl rfl (QT_to (QT_shl rfl rfl rfl rfl (fun _ => by omega)) (shl64 (by omega) hYp)) ?_
    refine TL_q rfl rfl (QT_move rfl rfl rfl) ?_
    refine TL_q rfl rfl (QT_convN rfl rfl Try.underlying25 Try.underlying70 rfl (IntWalk.u64_in _ ⟨by omega, by omega⟩)) ?_
    refine TL_q rfl rfl (QT_to (QT_addw rfl rfl rfl rfl) (show IntKind.u64.wrap (((Y * 2 ^ (m - k) : Nat) : Int) + (Z : Int)) = (X : Int) by rw [IntWalk.u64_in _ ⟨by omega, by omega⟩]; omega)) ?_
    refine TL_q rfl rfl (QT_eql rfl rfl rfl rfl) ?_
    refine TL_q rfl rfl (QT_and rfl rfl rfl rfl) ?_
    refine TL_q rfl rfl (QT_move rfl rfl rfl) ?_
    refine TL_q rfl rfl (QT_move rfl rfl rfl) ?_
    refine TL_q rfl rfl (QT_convN rfl rfl Try.underlying25 Try.underlying70 rfl (IntWalk.u64_in _ ⟨by omega, by omega⟩)) ?_
    refine TL_q rfl rfl (QT_move rfl rfl rfl) ?_
    refine TL_q rfl rfl (QT_to (QT_shr rfl rfl rfl rfl (fun _ => by omega)) (show (X : Int).fdiv (2 ^ (min (m : Int).toNat IntKind.u64.bits)) = 0 by rw [shr_nat (k := .u64) (by show m ≤ 64; omega), hX0]; rfl)) ?_
    refine TL_q rfl rfl (QT_eql rfl rfl rfl rfl) ?_
    refine TL_q rfl rfl (QT_and rfl rfl rfl rfl) ?_
    refine TL_q rfl rfl (QT_move rfl rfl rfl) ?_
    refine TL_cq rfl rfl rfl rfl YtkkdpbjfkncpbaaF.cal_10 rfl (fun _ => lives06 w0 _) ?_
    refine TL_q rfl rfl (QT_and rfl rfl rfl rfl) ?_
    refine TL_q rfl rfl (QT_assign rfl rfl rfl) ?_
    refine TL_nil ?_
    refine TX_then ?_
    refine TC_ret ?_
    exact TX_ret (.inl rfl) (res1 rfl rfl) ⟨_, ⟨by simp, rfl⟩, (fun _ h => by first | exact h | exact h.tail | exact h.tail.tail | exact h.tail.tail.tail | exact h.tail.tail.tail.tail | exact h.tail.tail.tail.tail.tail | exact h.tail.tail.tail.tail.tail.tail | exact h.tail.tail.tail.tail.tail.tail.tail | exact h.tail.tail.tail.tail.tail.tail.tail.tail | exact h.tail.tail.tail.tail.tail.tail.tail.tail.tail | exact h.tail.tail.tail.tail.tail.tail.tail.tail.tail.tail | exact h.tail.tail.tail.tail.tail.tail.tail.tail.tail.tail.tail | exact h.tail.tail.tail.tail.tail.tail.tail.tail.tail.tail.tail.tail | exact h.tail.tail.tail.tail.tail.tail.tail.tail.tail.tail.tail.tail.tail)⟩
theorem put0 {len v m : Nat} (hm : m ≤ 32) (hv : v < 2 ^ m) (hl : len + m ≤ 524288) : putE len v (m : Int) = 0 := by
  unfold putE
  rw [if_neg, if_neg (by omega)]
  rw [Int.toNat_natCast, Nat.div_eq_of_lt hv]
  omega
theorem put3 {len v m : Nat} (hm : m ≤ 32) (hv : v < 2 ^ m) (hl : 524288 < len + m) : putE len v (m : Int) = 3 := by
  unfold putE
  rw [if_neg, if_pos (by omega)]
  rw [Int.toNat_natCast, Nat.div_eq_of_lt hv]
  omega
theorem putL_more {l : List Bool} {v m : Nat} (h : putE l.length v (m : Int) = 0) : (putL l v (m : Int)).length = l.length + m := by
  unfold putL; rw [if_pos h, List.length_append, bitsN_len, Int.toNat_natCast]
theorem putL_same {l : List Bool} {v : Nat} {n : Int} {e : Int} (h : putE l.length v n = e) (he : e ≠ 0) : putL l v n = l := by
  unfold putL; rw [if_neg (by rw [h]; exact he)]
theorem law_bitsFull (w0 : World) (η : Heap) (z v : Nat) (hz : z ≤ 255) (hv : v < 4294967296) :
    CallsT Try.prog 9 [.int .u8 (z : Int), .int .u32 (v : Int)] (St w0 η) fun v A' => v = .bool true ∧ A' = St w0 η := by
  obtain ⟨n, hn⟩ : ∃ n, n = z % 32 := ⟨_, rfl⟩
  have hn32 : n < 32 := by omega
  have hw0 : IntKind.i64.wrap (z : Int) = (z : Int) := wrap_i64 ⟨by omega, by omega⟩
  have h2 : ∀ m : Nat, 0 < 2 ^ m := fun m => Nat.two_pow_pos m
  refine CallsT.body Try.func9 rfl rfl ?_
  simp only [Try.ntmps9, slotsOf, Nat.reduceAdd]
  refine TC_seq ?_
  refine TC_reg ?_
  refine TL_q rfl rfl (QT_assign rfl rfl rfl) ?_
  refine TL_nil ?_
  refine TX_then ?_
  refine TC_seq ?_
  refine TC_reg ?_
  refine TL_e rfl rfl rfl (rfl) (ET_call rfl YtkkdpbjfkncpbaaF.cal_15 rfl (newRow_spec w0 η)) ?_
  rintro _ _ ⟨rb, K0, rfl, hK0, rfl⟩
  refine TL_q rfl rfl (QT_assign rfl rfl rfl) ?_
  refine TL_nil ?_
  refine TX_then ?_
  refine TC_seq ?_
  refine TC_reg ?_
  refine TL_q rfl rfl (QT_move rfl rfl rfl) ?_
  refine TL_q rfl rfl (QT_convN rfl rfl Try.underlying5 Try.underlying3 rfl hw0) ?_
  refine TL_q rfl rfl (QT_to (QT_rem rfl rfl rfl rfl (fun _ => ⟨by omega, by omega⟩)) (show (z : Int) % 32 = (n : Int) by rw [hn]; simp)) ?_
  refine TL_q rfl rfl (QT_assign rfl rfl rfl) ?_
  refine TL_nil ?_
  refine TX_then ?_
  refine TC_seq ?_
  refine TC_seq ?_
  refine TC_reg ?_
  refine TL_q rfl rfl (QT_assign rfl rfl rfl) ?_
  refine TL_nil ?_
  refine TX_then ?_
  refine TC_block ?_
  refine TC_loop (γ := { t : Nat × List Bool × Heap // t.1 ≤ 16383 ∧ RowAt rb t.2.1 t.2.2 ∧ t.2.1.length = 32 * t.1 }) (fun t => [(1, true, .int .u32 (v : Int)), (5, true, .pointer (some ⟨rb, 0, none⟩)), (6, true, .int .i64 (n : Int)), (7, true, .int .i64 (t.1.1 : Int))]) (fun t => St w0 (t.1.2.2 ++ η)) (fun t => 16383 - t.1.1) ⟨(0, [], K0), Nat.zero_le _, hK0, rfl⟩ ⟨rfl, rfl, rfl, rfl, trivial⟩ (fun _ h => h) ?_
  rintro ⟨⟨i, l, K⟩, hi, hK, hl⟩
  dsimp only at hi hK hl ⊢
  refine TC_seq ?_
  refine TC_seq ?_
  refine TC_reg ?_
  refine TL_q rfl rfl (QT_move rfl rfl rfl) ?_
  refine TL_q rfl rfl (QT_lss rfl rfl rfl rfl) ?_
  refine TL_nil ?_
  refine TX_then ?_
  first
    | refine TC_cond_dec rfl (fun h13 => ?_) (fun h13 => ?_)
    | refine TC_cond rfl (fun h13 => ?_) (fun h13 => ?_)
  ·
    have he : putE l.length v ((32 : Nat) : Int) = 0 := put0 (by decide) (by omega) (by omega)
    refine TC_skip ?_
    refine TX_then ?_
    refine TC_seq ?_
    refine TC_block ?_
    refine TC_seq ?_
    refine TC_reg ?_
    refine TL_q rfl rfl (QT_move rfl rfl rfl) ?_
    refine TL_q rfl rfl (QT_move rfl rfl rfl) ?_
    refine TL_e rfl rfl rfl (rfl) (ET_call rfl YtkkdpbjfkncpbaaF.cal_19 rfl (put_at (n := 32) hK hv (by decide) (by omega) he rfl)) ?_
    rintro _ _ ⟨K1, rfl, hK1, rfl⟩
    refine TL_q rfl rfl (QT_neq rfl rfl rfl rfl) ?_
    refine TL_nil ?_
    refine TX_then ?_
    refine TC_cond rfl (fun h => absurd (h.symm.trans ((show (_ : Bool) = false by rfl))) (by decide)) (fun _ => ?_)
    refine TC_skip ?_
    refine TX_block_normal ?_
    refine TX_then ?_
    refine TC_reg ?_
    refine TL_q rfl rfl (QT_move rfl rfl rfl) ?_
    refine TL_q rfl rfl (QT_add rfl rfl rfl rfl (fun _ => ⟨by omega, by omega⟩)) ?_
    refine TL_q rfl rfl (QT_assign rfl rfl rfl) ?_
    refine TL_nil ?_
    exact TX_round ⟨(i + 1, putL l v 32, K1), by omega, hK1, by show (putL l v 32).length = 32 * (i + 1); have e2 : (putL l v 32).length = l.length + 32 := putL_more he; omega⟩ (by show 16383 - (i + 1) < 16383 - i; omega) ⟨rfl, rfl, rfl, rfl, trivial⟩ (fun _ h => h)
  ·
    refine TC_exit ?_
    refine TX_then_exit ?_
    refine TX_then_exit ?_
    refine TX_block_here ?_
    refine TX_then ?_
    refine TC_seq ?_
    refine TC_seq ?_
    have hl0 : l.length = 524256 := by omega
    have e1 : putE l.length 0 ((32 - n : Nat) : Int) = 0 := put0 (by omega) (h2 _) (by omega)
    have l1 := putL_more e1
    generalize hL1 : putL l 0 ((32 - n : Nat) : Int) = L1 at l1
    have e2 : putE L1.length 0 ((n + 1 : Nat) : Int) = 3 := put3 (by omega) (h2 _) (by omega)
    have e3 : putE L1.length 0 (n : Int) = 0 := put0 (by omega) (h2 _) (by omega)
    have l3 := putL_more e3
    generalize hL3 : putL L1 0 (n : Int) = L3 at l3
    have e4 : putE L3.length 0 ((0 : Nat) : Int) = 0 := put0 (by omega) (h2 _) (by omega)
    have l4 := putL_more e4
    generalize hL4 : putL L3 0 ((0 : Nat) : Int) = L4 at l4
    have e5 : putE L4.length 1 ((1 : Nat) : Int) = 3 := put3 (by omega) (by decide) (by omega)
    refine TC_reg ?_
    refine TL_q rfl rfl (QT_move rfl rfl rfl) ?_
    refine TL_q rfl rfl (QT_move rfl rfl rfl) ?_
    refine TL_q rfl rfl (QT_to (QT_sub rfl rfl rfl rfl (fun _ => ⟨by omega, by omega⟩)) (show (32 : Int) - (n : Int) = ((32 - n : Nat) : Int) by omega)) ?_
    refine TL_e rfl rfl rfl (rfl) (ET_call rfl YtkkdpbjfkncpbaaF.cal_19 rfl (put_at (v := 0) (n := ((32 - n : Nat) : Int)) hK (by decide) ⟨by omega, by omega⟩ (by omega) e1 hL1)) ?_
    rintro _ _ ⟨K1, rfl, hK1, rfl⟩
    refine TL_q rfl rfl (QT_neq rfl rfl rfl rfl) ?_
    refine TL_q rfl rfl (QT_move rfl rfl rfl) ?_
    refine TL_q rfl rfl (QT_move rfl rfl rfl) ?_
    refine TL_q rfl rfl (QT_move rfl rfl rfl) ?_
    refine TL_q rfl rfl (QT_to (QT_add rfl rfl rfl rfl (fun _ => ⟨by omega, by omega⟩)) (show (n : Int) + 1 = ((n + 1 : Nat) : Int) by simp)) ?_
    refine TL_e rfl rfl rfl (rfl) (ET_call rfl YtkkdpbjfkncpbaaF.cal_19 rfl (put_at (v := 0) (n := ((n + 1 : Nat) : Int)) hK1 (by decide) ⟨by omega, by omega⟩ (by omega) e2 (putL_same e2 (by decide)))) ?_
    rintro _ _ ⟨K2, rfl, hK2, rfl⟩
    refine TL_q rfl rfl (QT_neq rfl rfl rfl rfl) ?_
    refine TL_q rfl rfl (QT_or rfl rfl rfl rfl) ?_
    refine TL_q rfl rfl (QT_move rfl rfl rfl) ?_
    refine TL_q rfl rfl (QT_move rfl rfl rfl) ?_
    refine TL_cq rfl rfl rfl rfl YtkkdpbjfkncpbaaF.cal_22 rfl (fun _ => len_at (n := 524288 - n) η hK2 (by omega) (by omega)) ?_
    refine TL_q rfl rfl (QT_move rfl rfl rfl) ?_
    refine TL_q rfl rfl (QT_to (QT_sub rfl rfl rfl rfl (fun _ => ⟨by omega, by omega⟩)) (show (524288 : Int) - (n : Int) = ((524288 - n : Nat) : Int) by omega)) ?_
    refine TL_q rfl rfl (QT_neq rfl rfl rfl rfl) ?_
    refine TL_q rfl rfl (QT_or rfl rfl rfl rfl) ?_
    refine TL_q rfl rfl (QT_move rfl rfl rfl) ?_
    refine TL_q rfl rfl (QT_move rfl rfl rfl) ?_
    refine TL_q rfl rfl (QT_move rfl rfl rfl) ?_
    refine TL_e rfl rfl rfl ((by simp)) (ET_call rfl YtkkdpbjfkncpbaaF.cal_19 rfl (put_at (v := 0) (n := (n : Int)) hK2 (by decide) ⟨by omega, by omega⟩ (by omega) e3 hL3)) ?_
    rintro _ _ ⟨K3, rfl, hK3, rfl⟩
    refine TL_q rfl rfl (QT_neq rfl rfl rfl rfl) ?_
    refine TL_q rfl rfl (QT_or rfl rfl rfl rfl) ?_
    refine TL_q rfl rfl (QT_move rfl rfl rfl) ?_
    refine TL_q rfl rfl (QT_move rfl rfl rfl) ?_
    refine TL_e rfl rfl rfl ((by simp)) (ET_call rfl YtkkdpbjfkncpbaaF.cal_19 rfl (put_at (v := 0) (n := 0) hK3 (by decide) (by decide) (by omega) e4 hL4)) ?_
    rintro _ _ ⟨K4, rfl, hK4, rfl⟩
    refine TL_q rfl rfl (QT_neq rfl rfl rfl rfl) ?_
    refine TL_q rfl rfl (QT_or rfl rfl rfl rfl) ?_
    refine TL_q rfl rfl (QT_move rfl rfl rfl) ?_
    refine TL_q rfl rfl (QT_move rfl rfl rfl) ?_
    refine TL_e rfl rfl rfl ((by simp)) (ET_call rfl YtkkdpbjfkncpbaaF.cal_19 rfl (put_at (v := 1) (n := 1) hK4 (by decide) (by decide) (by omega) e5 (putL_same e5 (by decide)))) ?_
    rintro _ _ ⟨K5, rfl, hK5, rfl⟩
    refine TL_q rfl rfl (QT_neq rfl rfl rfl rfl) ?_
    refine TL_q rfl rfl (QT_or rfl rfl rfl rfl) ?_
    refine TL_nil ?_
    refine TX_then ?_
    refine TC_cond rfl (fun h => absurd (h.symm.trans ((show (_ : Bool) = false by simp))) (by decide)) (fun _ => ?_)
    refine TC_skip ?_
    refine TX_then ?_
    refine TC_seq ?_
    refine TC_reg ?_
    refine TL_q rfl rfl (QT_move rfl rfl rfl) ?_
    refine TL_cq rfl rfl rfl rfl YtkkdpbjfkncpbaaF.cal_22 rfl (fun _ => len_at (n := 524288) η hK5 (by omega) (by omega)) ?_
    refine TL_q rfl rfl (QT_eql rfl rfl rfl rfl) ?_
    refine TL_q rfl rfl (QT_move rfl rfl rfl) ?_
    refine TL_q rfl rfl (QT_move rfl rfl rfl) ?_
    refine TL_e rfl rfl rfl (rfl) (ET_call rfl YtkkdpbjfkncpbaaF.cal_21 rfl (RowAt.bytes η hK5 (by omega))) ?_
    rintro sv _ ⟨bs, H2, hF2, hbs, rfl⟩
    obtain ⟨sad, scap, rfl, _, _⟩ := hF2.slice
    have hbl : bs.length = 65536 := by
      have := congrArg List.length hbs.1
      rw [byB_len, List.length_append, List.length_replicate] at this
      omega
    refine TL_q rfl rfl (QT_len rfl rfl Try.underlying22 rfl) ?_
    refine TL_q rfl rfl (QT_eql rfl rfl rfl rfl) ?_
    refine TL_q rfl rfl (QT_and rfl rfl rfl rfl) ?_
    refine TL_q rfl rfl (QT_move rfl rfl rfl) ?_
    refine TL_cq rfl rfl rfl rfl YtkkdpbjfkncpbaaF.cal_10 rfl (fun _ => lives06 w0 _) ?_
    refine TL_q rfl rfl (QT_and rfl rfl rfl rfl) ?_
    refine TL_q rfl rfl (QT_assign rfl rfl rfl) ?_
    refine TL_nil ?_
    refine TX_then ?_
    refine TC_ret ?_
    exact TX_ret (.inl rfl) (res1 rfl rfl) ⟨_, ⟨by rw [hbl]; rfl, rfl⟩, fun _ h => h.app_right.app_right⟩
end Go.Proofs.Ytkkdpbjfkncpbaa

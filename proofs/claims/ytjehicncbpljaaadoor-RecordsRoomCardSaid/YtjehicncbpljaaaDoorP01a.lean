/- LISTS OF BYTES: are two the same; a copy with marks behind it, and whether it is still as it was. -/
import Derived.Test.YtjehicncbpljaaaDoorF
import Derived.Test.YtjehicncbpljaaaDoorE
import Derived.Test.YtjehicncbpljaaaDoorI
namespace Go.Proofs.YtjehicncbpljaaaDoor
open Go Go.Gx Go.RowKit
set_option maxRecDepth 100000

def byteK : List IntKind := [.u8]
theorem el_Byte : ElemOk Tryd.prog 5 1 1 (.int .u8 0) := .of YtjehicncbpljaaaDoorF.sz_5 (by kernel_rfl) (by unfold ZeroOk; kernel_rfl) (by kernel_rfl) (by decide)
theorem byte_at {n i : Nat} {xs : List Value} (h : Ints (rep n byteK) xs) (hi : i < n) : ∃ z : Int, elem xs 1 i = [.int .u8 z] ∧ xs[i * 1]? = some (.int .u8 z) ∧ 0 ≤ z ∧ z ≤ 255 := by
  have he : Ints byteK (elem xs 1 i) := h.elem hi
  obtain ⟨z, cs', e, hw, h2⟩ := (show Ints (.u8 :: []) (elem xs 1 i) from he).inv
  obtain rfl := h2.inv_nil
  have hz := wf_u8 hw
  refine ⟨z, e, ?_, hz.1, hz.2⟩
  have h0 : (elem xs 1 i)[0]? = xs[i * 1]? := by
    unfold elem
    rw [List.getElem?_take_of_lt (by decide), List.getElem?_drop, Nat.add_zero]
  rw [← h0, e]; rfl
theorem same_Byte (w0 : Base) (η : Heap) (va vb : Value) (n m : Nat) (xs ys : List Value) (ha : SlA (St w0 η) va 1 n xs) (hb : SlA (St w0 η) vb 1 m ys) (hia : Ints (rep n byteK) xs) (hib : Ints (rep m byteK) ys) :
    CallsT Tryd.prog 86 [va, vb] (St w0 η) fun v A' => v = .bool (eqC xs ys) ∧ A' = St w0 η := by
  obtain ⟨hal, ada, ca, rfl, ⟨hca, hca2⟩, hra⟩ := ha
  obtain ⟨hbl, adb, cb, rfl, ⟨hcb, hcb2⟩, hrb⟩ := hb
  refine CallsT.body Tryd.func86 rfl rfl ?_
  simp only [Tryd.ntmps86, slotsOf, Nat.reduceAdd]
  refine TC_seq ?_
  refine TC_reg ?_
  refine TL_q rfl rfl (QT_assign rfl rfl rfl) ?_
  refine TL_nil ?_
  refine TX_then ?_
  refine TC_seq ?_
  refine TC_seq ?_
  refine TC_reg ?_
  refine TL_q rfl rfl (QT_move rfl rfl rfl) ?_
  refine TL_q rfl rfl (QT_len rfl rfl Tryd.underlying28 rfl) ?_
  refine TL_q rfl rfl (QT_move rfl rfl rfl) ?_
  refine TL_q rfl rfl (QT_len rfl rfl Tryd.underlying28 rfl) ?_
  refine TL_q rfl rfl (QT_neq rfl rfl rfl rfl) ?_
  refine TL_nil ?_
  refine TX_then ?_
  first
    | refine TC_cond_dec rfl (fun h10 => ?_) (fun h10 => ?_)
    | refine TC_cond rfl (fun h10 => ?_) (fun h10 => ?_)
  ·
    refine TC_seq ?_
    refine TC_reg ?_
    refine TL_q rfl rfl (QT_assign rfl rfl rfl) ?_
    refine TL_nil ?_
    refine TX_then ?_
    refine TC_ret ?_
    refine TX_then_ret ?_
    exact TX_ret (.inl rfl) (res1 rfl rfl) ⟨_, ⟨by rw [eqC_ne_len (by omega)], rfl⟩, (fun _ h => by first | exact h | exact h.tail | exact h.tail.tail | exact h.tail.tail.tail | exact h.tail.tail.tail.tail | exact h.tail.tail.tail.tail.tail | exact h.tail.tail.tail.tail.tail.tail | exact h.tail.tail.tail.tail.tail.tail.tail | exact h.tail.tail.tail.tail.tail.tail.tail.tail | exact h.tail.tail.tail.tail.tail.tail.tail.tail.tail | exact h.tail.tail.tail.tail.tail.tail.tail.tail.tail.tail | exact h.tail.tail.tail.tail.tail.tail.tail.tail.tail.tail.tail | exact h.tail.tail.tail.tail.tail.tail.tail.tail.tail.tail.tail.tail | exact h.tail.tail.tail.tail.tail.tail.tail.tail.tail.tail.tail.tail.tail)⟩
  ·
    obtain rfl : n = m := by omega
    refine TC_skip ?_
    refine TX_then ?_
    refine TC_seq ?_
    refine TC_seq ?_
    refine TC_reg ?_
    refine TL_q rfl rfl (QT_assign rfl rfl rfl) ?_
    refine TL_nil ?_
    refine TX_then ?_
    refine TC_block ?_
    refine TC_loop (γ := {i : Nat // i ≤ n ∧ xs.take (i * 1) = ys.take (i * 1)}) (fun t => [(0, true, .slice ada n ca), (1, true, .slice adb n cb), (5, true, .int .i64 (t.1 : Int))]) (fun _ => St w0 η) (fun t => n - t.1) ⟨0, by omega, by simp⟩ ⟨rfl, rfl, rfl, trivial⟩ (fun _ h => h) ?_
    rintro ⟨i, hi, he⟩
    dsimp only
    refine TC_seq ?_
    refine TC_seq ?_
    refine TC_reg ?_
    refine TL_q rfl rfl (QT_move rfl rfl rfl) ?_
    refine TL_q rfl rfl (QT_move rfl rfl rfl) ?_
    refine TL_q rfl rfl (QT_len rfl rfl Tryd.underlying28 rfl) ?_
    refine TL_q rfl rfl (QT_lss rfl rfl rfl rfl) ?_
    refine TL_nil ?_
    refine TX_then ?_
    first
      | refine TC_cond_dec rfl (fun h14 => ?_) (fun h14 => ?_)
      | refine TC_cond rfl (fun h14 => ?_) (fun h14 => ?_)
    ·
      refine TC_skip ?_
      refine TX_then ?_
      refine TC_seq ?_
      refine TC_block ?_
      refine TC_seq ?_
      have hin : i < n := by omega
      obtain ⟨ba, oa, rfl, hrA⟩ := hra.resolve_left (by omega)
      obtain ⟨bb, ob, rfl, hrB⟩ := hrb.resolve_left (by omega)
      obtain ⟨za, hea, hxa, _⟩ := byte_at hia hin
      obtain ⟨zb, heb, hxb, _⟩ := byte_at hib hin
      refine TC_draw [(0, 0), (1, 0), (2, 0), (3, 0), (4, 0), (5, 0), (6, 0), (7, 0), (8, 0)] YtjehicncbpljaaaDoorF.mixed (by kernel_rfl) (St.calm _ _) ?_
      refine TV_q rfl rfl rfl (fun _ => QT_move rfl rfl rfl) ?_
      refine TV_q rfl rfl rfl (fun _ => QT_move rfl rfl rfl) ?_
      refine TV_q rfl rfl rfl (fun _ => QT_indexSlice (i) rfl rfl Tryd.underlying28 YtjehicncbpljaaaDoorF.sz_5 rfl rfl (rfl) (fun _ => hin)) ?_
      refine TV_ql rfl rfl rfl (QT_loadRj (i * 1) rfl rfl Tryd.underlying5 rfl hrA rfl (fun _ => hxa)) ?_
      refine TV_q rfl rfl rfl (fun _ => QT_move rfl rfl rfl) ?_
      refine TV_q rfl rfl rfl (fun _ => QT_move rfl rfl rfl) ?_
      refine TV_q rfl rfl rfl (fun _ => QT_indexSlice (i) rfl rfl Tryd.underlying28 YtjehicncbpljaaaDoorF.sz_5 rfl rfl (rfl) (fun _ => hin)) ?_
      refine TV_ql rfl rfl rfl (QT_loadRj (i * 1) rfl rfl Tryd.underlying5 rfl hrB rfl (fun _ => hxb)) ?_
      refine TV_q rfl rfl rfl (fun _ => QT_neq rfl rfl rfl rfl) ?_
      refine TV_end ?_
      refine TX_then ?_
      first
        | refine TC_cond_dec rfl (fun h25 => ?_) (fun h25 => ?_)
        | refine TC_cond rfl (fun h25 => ?_) (fun h25 => ?_)
      ·
        refine TC_seq ?_
        refine TC_reg ?_
        refine TL_q rfl rfl (QT_assign rfl rfl rfl) ?_
        refine TL_nil ?_
        refine TX_then ?_
        refine TC_ret ?_
        refine TX_block_ret ?_
        refine TX_then_ret ?_
        refine TX_then_ret ?_
        refine TX_block_ret ?_
        refine TX_then_ret ?_
        exact TX_ret (.inl rfl) (res1 rfl rfl) ⟨_, ⟨(by
         rw [eqC_ne hia hib]
         intro e
         subst e
         rw [hea] at heb
         injection heb with h1 _
         injection h1 with _ h2
         exact h25 h2), rfl⟩, (fun _ h => by first | exact h | exact h.tail | exact h.tail.tail | exact h.tail.tail.tail | exact h.tail.tail.tail.tail | exact h.tail.tail.tail.tail.tail | exact h.tail.tail.tail.tail.tail.tail | exact h.tail.tail.tail.tail.tail.tail.tail | exact h.tail.tail.tail.tail.tail.tail.tail.tail | exact h.tail.tail.tail.tail.tail.tail.tail.tail.tail | exact h.tail.tail.tail.tail.tail.tail.tail.tail.tail.tail | exact h.tail.tail.tail.tail.tail.tail.tail.tail.tail.tail.tail | exact h.tail.tail.tail.tail.tail.tail.tail.tail.tail.tail.tail.tail | exact h.tail.tail.tail.tail.tail.tail.tail.tail.tail.tail.tail.tail.tail)⟩
      ·
        refine TC_skip ?_
        refine TX_block_normal ?_
        refine TX_then ?_
        refine TC_reg ?_
        refine TL_q rfl rfl (QT_move rfl rfl rfl) ?_
        refine TL_q rfl rfl (QT_add rfl rfl rfl rfl (fun _ => ⟨by omega, by omega⟩)) ?_
        refine TL_q rfl rfl (QT_assign rfl rfl rfl) ?_
        refine TL_nil ?_
        refine TX_round ⟨i + 1, by omega, ?_⟩ (by dsimp only; omega) ⟨rfl, rfl, slotI rfl (by dsimp only; omega), trivial⟩ (fun _ h => h)
        rw [take_succ_elem, take_succ_elem, he, hea, heb, Classical.not_not.1 h25]
    ·
      refine TC_exit ?_
      refine TX_then_exit ?_
      refine TX_then_exit ?_
      refine TX_block_here ?_
      refine TX_then ?_
      refine TC_seq ?_
      refine TC_reg ?_
      refine TL_q rfl rfl (QT_assign rfl rfl rfl) ?_
      refine TL_nil ?_
      refine TX_then ?_
      refine TC_ret ?_
      exact TX_ret (.inl rfl) (res1 rfl rfl) ⟨_, ⟨(by
       have hin : i = n := by omega
       subst hin
       rw [List.take_of_length_le (by omega), List.take_of_length_le (by omega)] at he
       subst he
       rw [eqC_refl hia]), rfl⟩, (fun _ h => by first | exact h | exact h.tail | exact h.tail.tail | exact h.tail.tail.tail | exact h.tail.tail.tail.tail | exact h.tail.tail.tail.tail.tail | exact h.tail.tail.tail.tail.tail.tail | exact h.tail.tail.tail.tail.tail.tail.tail | exact h.tail.tail.tail.tail.tail.tail.tail.tail | exact h.tail.tail.tail.tail.tail.tail.tail.tail.tail | exact h.tail.tail.tail.tail.tail.tail.tail.tail.tail.tail | exact h.tail.tail.tail.tail.tail.tail.tail.tail.tail.tail.tail | exact h.tail.tail.tail.tail.tail.tail.tail.tail.tail.tail.tail.tail | exact h.tail.tail.tail.tail.tail.tail.tail.tail.tail.tail.tail.tail.tail)⟩
theorem same_Bytes (w0 : Base) (η : Heap) (va vb : Value) (n m : Nat) (xs ys : List Value) (ha : SlA (St w0 η) va 1 n xs) (hb : SlA (St w0 η) vb 1 m ys) (hia : Ints (rep n byteK) xs) (hib : Ints (rep m byteK) ys) :
    CallsT Tryd.prog 21 [va, vb] (St w0 η) fun v A' => v = .bool (eqC xs ys) ∧ A' = St w0 η := by
  refine CallsT.body Tryd.func21 rfl rfl ?_
  simp only [Tryd.ntmps21, slotsOf, Nat.reduceAdd]
  refine TC_seq ?_
  refine TC_reg ?_
  refine TL_q rfl rfl (QT_assign rfl rfl rfl) ?_
  refine TL_nil ?_
  refine TX_then ?_
  refine TC_seq ?_
  refine TC_reg ?_
  refine TL_q rfl rfl (QT_move rfl rfl rfl) ?_
  refine TL_q rfl rfl (QT_move rfl rfl rfl) ?_
  refine TL_cq rfl rfl rfl rfl YtjehicncbpljaaaDoorF.cal_86 rfl (fun _ => same_Byte w0 _ va vb n m xs ys ha hb hia hib) ?_
  refine TL_q rfl rfl (QT_assign rfl rfl rfl) ?_
  refine TL_nil ?_
  refine TX_then ?_
  refine TC_ret ?_
  exact TX_ret (.inl rfl) (res1 rfl rfl) ⟨_, ⟨rfl, rfl⟩, (fun _ h => by first | exact h | exact h.tail | exact h.tail.tail | exact h.tail.tail.tail | exact h.tail.tail.tail.tail | exact h.tail.tail.tail.tail.tail | exact h.tail.tail.tail.tail.tail.tail | exact h.tail.tail.tail.tail.tail.tail.tail | exact h.tail.tail.tail.tail.tail.tail.tail.tail | exact h.tail.tail.tail.tail.tail.tail.tail.tail.tail | exact h.tail.tail.tail.tail.tail.tail.tail.tail.tail.tail | exact h.tail.tail.tail.tail.tail.tail.tail.tail.tail.tail.tail | exact h.tail.tail.tail.tail.tail.tail.tail.tail.tail.tail.tail.tail | exact h.tail.tail.tail.tail.tail.tail.tail.tail.tail.tail.tail.tail.tail)⟩
theorem sameOk_Bytes (w0 : Base) (η : Heap) (va vb : Value) (n : Nat) (xs : List Value) (ha : SlA (St w0 η) va 1 n xs) (hb : SlA (St w0 η) vb 1 n xs) (hi : Ints (rep n byteK) xs) :
    CallsT Tryd.prog 21 [va, vb] (St w0 η) fun v A' => v = .bool true ∧ A' = St w0 η := by
  have h := same_Bytes w0 η va vb n n xs xs ha hb hi hi
  rwa [eqC_refl hi] at h

theorem two_roomsB (rest xs mm : List Value) (n s : Nat) (h : xs.length = n * s) (hr : rest.length = (n + 3) * s) (hm : mm.length = 3 * s) :
    (rest.take (0 * s) ++ xs ++ rest.drop (0 * s + xs.length)).take ((0 + n) * s) ++ mm ++ (rest.take (0 * s) ++ xs ++ rest.drop (0 * s + xs.length)).drop ((0 + n) * s + mm.length) = xs ++ mm := by
  simp only [Nat.zero_mul, List.take_zero, List.nil_append, Nat.zero_add, ← h]
  rw [List.take_left, List.drop_append, List.drop_of_length_le (by omega), List.nil_append, List.drop_drop, List.drop_of_length_le (by rw [hr, h, hm, Nat.add_mul]; omega), List.append_nil]
theorem twin_Byte (w0 : Base) (η : Heap) (va : Value) (n : Nat) (xs : List Value) (c : Int) (ha : SlA (St w0 η) va 1 n xs) (hi : Ints (rep n byteK) xs) (hc : 0 ≤ c ∧ c ≤ 255) (hn : n ≤ 1000000) :
    CallsT Tryd.prog 26 [va, .int .u8 c] (St w0 η) fun v A' => ∃ b, v = .slice (some ⟨b, 0, none⟩) n (n + 3) ∧ A' = St w0 ((b, 5, xs ++ [.int .u8 c, .int .u8 c, .int .u8 c]) :: η) := by
  obtain ⟨hal, ada, ca, rfl, ⟨hca, hca2⟩, hra⟩ := ha
  have hsa : SlA (St w0 η) (.slice ada n ca) 1 n xs := ⟨hal, ada, ca, rfl, ⟨hca, hca2⟩, hra⟩
  refine CallsT.body Tryd.func26 rfl rfl ?_
  simp only [Tryd.ntmps26, slotsOf, Nat.reduceAdd]
  refine TC_seq ?_
  refine TC_reg ?_
  refine TL_q rfl rfl (QT_assign rfl rfl rfl) ?_
  refine TL_nil ?_
  refine TX_then ?_
  refine TC_seq ?_
  refine TC_reg ?_
  refine TL_q rfl rfl (QT_move rfl rfl rfl) ?_
  refine TL_q rfl rfl (QT_len rfl rfl Tryd.underlying28 rfl) ?_
  refine TL_q rfl rfl (QT_add rfl rfl rfl rfl (fun _ => ⟨by omega, by omega⟩)) ?_
  refine TL_e rfl rfl rfl (rfl) (ET_make (n + 3) rfl Tryd.underlying28 el_Byte rfl rfl rfl (by omega) (by omega) (by omega)) ?_
  rintro _ _ ⟨b9, rest, rfl, hrest, rfl⟩
  refine TL_q rfl rfl (QT_assign rfl rfl rfl) ?_
  refine TL_nil ?_
  refine TX_then ?_
  refine TC_seq ?_
  refine TC_reg ?_
  refine TL_q rfl rfl (QT_move rfl rfl rfl) ?_
  refine TL_q rfl rfl (QT_move rfl rfl rfl) ?_
  refine TL_e rfl rfl rfl (rfl) (ET_appendRoom 0 rfl Tryd.underlying28 YtjehicncbpljaaaDoorF.sz_5 rfl rfl rfl hsa.tail hi.oneCell (by omega) (by omega)) ?_
  rintro _ _ ⟨rfl, rfl⟩
  refine TL_q rfl rfl (QT_move rfl rfl rfl) ?_
  refine TL_q rfl rfl (QT_move rfl rfl rfl) ?_
  refine TL_q rfl rfl (QT_move rfl rfl rfl) ?_
  refine TL_e rfl rfl rfl (rfl) (ET_buildN [_, _, _] rfl Tryd.underlying28 YtjehicncbpljaaaDoorF.sz_5 YtjehicncbpljaaaDoorF.zero_5 rfl rfl rfl (fun v hv => by
   rcases List.mem_cons.1 hv with rfl | hv
   · rfl
   · rcases List.mem_cons.1 hv with rfl | hv
     · rfl
     · cases List.mem_singleton.1 hv; rfl)) ?_
  rintro _ _ ⟨b16, rfl, rfl⟩
  refine TL_e rfl rfl rfl (rfl) (ET_appendRoom 1 rfl Tryd.underlying28 YtjehicncbpljaaaDoorF.sz_5 rfl rfl rfl (SlA.own (n := 3) (xs := [.int .u8 c, .int .u8 c, .int .u8 c]) 0 rfl rfl (Nat.le_refl _) (by omega)) (fun u hu => by
   rcases List.mem_cons.1 hu with rfl | hu
   · rfl
   · rcases List.mem_cons.1 hu with rfl | hu
     · rfl
     · cases List.mem_singleton.1 hu; rfl) (by omega) (by simp; omega)) ?_
  rintro _ _ ⟨rfl, rfl⟩
  refine TL_q rfl rfl (QT_assign rfl rfl rfl) ?_
  refine TL_nil ?_
  refine TX_then ?_
  refine TC_seq ?_
  refine TC_reg ?_
  refine TL_q rfl rfl (QT_move rfl rfl rfl) ?_
  refine TL_q rfl rfl (QT_move rfl rfl rfl) ?_
  refine TL_q rfl rfl (QT_len rfl rfl Tryd.underlying28 rfl) ?_
  refine TL_q rfl rfl (QT_slcH _ rfl rfl rfl rfl Tryd.underlying28 YtjehicncbpljaaaDoorF.sz_5 rfl rfl rfl (fun _ => by omega)) ?_
  refine TL_q rfl rfl (QT_assign rfl rfl rfl) ?_
  refine TL_nil ?_
  refine TX_then ?_
  refine TC_ret ?_
  refine TX_ret (.inl rfl) (res1 rfl rfl) ⟨_, ⟨_, congrArg (fun m => Value.slice _ m _) (by omega), rfl⟩, fun w h => ?_⟩
  simp only [upd] at h
  rw [two_roomsB rest xs [.int .u8 c, .int .u8 c, .int .u8 c] n 1 hal hrest (by simp)] at h
  exact h.cnt (fun p => by simp only [List.countP_cons]; omega)
theorem left_Byte (w0 : Base) (η : Heap) (va : Value) (b n : Nat) (xs : List Value) (c : Int) (ha : SlA (St w0 η) va 1 n xs) (hb : (b, 5, xs ++ [.int .u8 c, .int .u8 c, .int .u8 c]) ∈ η) (hi : Ints (rep n byteK) xs) (hc : 0 ≤ c ∧ c ≤ 255) (hn : n ≤ 1000000) :
    CallsT Tryd.prog 37 [.slice (some ⟨b, 0, none⟩) n (n + 3), va, .int .u8 c] (St w0 η) fun v A' => v = .bool true ∧ A' = St w0 η := by
  obtain ⟨hal, ada, ca, rfl, ⟨hca, hca2⟩, hra⟩ := ha
  have hsa : SlA (St w0 η) (.slice ada n ca) 1 n xs := ⟨hal, ada, ca, rfl, ⟨hca, hca2⟩, hra⟩
  have ht : SlA (St w0 η) (.slice (some ⟨b, 0, none⟩) n (n + 3)) 1 n xs := SlA.mem hb (by rw [List.drop_zero, ← hal, List.take_left]) (by simp [hal]) (by omega)
  have hwf : (Lit.int .u8 c).wf = true := by
    have h1 : IntKind.u8.min = 0 := rfl
    have h2 : IntKind.u8.max = 255 := rfl
    simp only [Lit.wf, Bool.and_eq_true, decide_eq_true_eq]
    omega
  have hmm : Ints (rep 3 byteK) [.int .u8 c, .int .u8 c, .int .u8 c] := .cons hwf (.cons hwf (.cons hwf .nil))
  have hbk : SlA (St w0 η) (.slice (if n + 3 = n then some ⟨b, 0, none⟩ else (some ⟨b, 0, none⟩ : Option Addr).map (·.add (n * 1))) (n + 3 - n) (n + 3 - n)) 1 3 [.int .u8 c, .int .u8 c, .int .u8 c] := by
    rw [slc_addr (by omega), show n + 3 - n = 3 by omega]
    exact SlA.mem hb (by rw [Nat.zero_add, ← hal, List.drop_left]; rfl) (by simp [hal]) (by omega)
  refine CallsT.body Tryd.func37 rfl rfl ?_
  simp only [Tryd.ntmps37, slotsOf, Nat.reduceAdd]
  refine TC_seq ?_
  refine TC_reg ?_
  refine TL_q rfl rfl (QT_assign rfl rfl rfl) ?_
  refine TL_nil ?_
  refine TX_then ?_
  refine TC_seq ?_
  refine TC_seq ?_
  refine TC_reg ?_
  refine TL_q rfl rfl (QT_move rfl rfl rfl) ?_
  refine TL_q rfl rfl (QT_cap rfl rfl Tryd.underlying28 rfl) ?_
  refine TL_q rfl rfl (QT_move rfl rfl rfl) ?_
  refine TL_q rfl rfl (QT_len rfl rfl Tryd.underlying28 rfl) ?_
  refine TL_q rfl rfl (QT_add rfl rfl rfl rfl (fun _ => ⟨by omega, by omega⟩)) ?_
  refine TL_q rfl rfl (QT_neq rfl rfl rfl rfl) ?_
  refine TL_q rfl rfl (QT_move rfl rfl rfl) ?_
  refine TL_q rfl rfl (QT_move rfl rfl rfl) ?_
  refine TL_q rfl rfl (QT_move rfl rfl rfl) ?_
  refine TL_cq rfl rfl rfl rfl YtjehicncbpljaaaDoorF.cal_86 rfl (fun _ => same_Byte w0 _ _ _ n n xs xs ht hsa hi hi) ?_
  refine TL_q rfl rfl (QT_not rfl rfl rfl) ?_
  refine TL_q rfl rfl (QT_or rfl rfl rfl rfl) ?_
  refine TL_nil ?_
  refine TX_then ?_
  refine TC_cond rfl (fun h => absurd (h.symm.trans ((show (_ : Bool) = false by rw [eqC_refl hi]; simp))) (by decide)) (fun _ => ?_)
  refine TC_skip ?_
  refine TX_then ?_
  refine TC_seq ?_
  refine TC_reg ?_
  refine TL_q rfl rfl (QT_move rfl rfl rfl) ?_
  refine TL_q rfl rfl (QT_move rfl rfl rfl) ?_
  refine TL_q rfl rfl (QT_len rfl rfl Tryd.underlying28 rfl) ?_
  refine TL_q rfl rfl (QT_move rfl rfl rfl) ?_
  refine TL_q rfl rfl (QT_cap rfl rfl Tryd.underlying28 rfl) ?_
  refine TL_q rfl rfl (QT_slcLH (n) (n + 3) rfl rfl rfl Tryd.underlying28 YtjehicncbpljaaaDoorF.sz_5 rfl rfl rfl rfl rfl (fun _ => ⟨by omega, by omega⟩)) ?_
  refine TL_q rfl rfl (QT_move rfl rfl rfl) ?_
  refine TL_q rfl rfl (QT_move rfl rfl rfl) ?_
  refine TL_q rfl rfl (QT_move rfl rfl rfl) ?_
  refine TL_e rfl rfl rfl (rfl) (ET_buildN [_, _, _] rfl Tryd.underlying28 YtjehicncbpljaaaDoorF.sz_5 YtjehicncbpljaaaDoorF.zero_5 rfl rfl rfl (fun v hv => by
   rcases List.mem_cons.1 hv with rfl | hv
   · rfl
   · rcases List.mem_cons.1 hv with rfl | hv
     · rfl
     · cases List.mem_singleton.1 hv; rfl)) ?_
  rintro _ _ ⟨b16, rfl, rfl⟩
  refine TL_cq rfl rfl rfl rfl YtjehicncbpljaaaDoorF.cal_86 rfl (fun _ => same_Byte w0 _ _ _ 3 3 _ _ hbk.tail (SlA.own (n := 3) (xs := [.int .u8 c, .int .u8 c, .int .u8 c]) 0 rfl rfl (Nat.le_refl _) (by omega)) hmm hmm) ?_
  refine TL_q rfl rfl (QT_assign rfl rfl rfl) ?_
  refine TL_nil ?_
  refine TX_then ?_
  refine TC_ret ?_
  exact TX_ret (.inl rfl) (res1 rfl rfl) ⟨_, ⟨by rw [eqC_refl hmm], rfl⟩, (fun _ h => by first | exact h | exact h.tail | exact h.tail.tail | exact h.tail.tail.tail | exact h.tail.tail.tail.tail | exact h.tail.tail.tail.tail.tail | exact h.tail.tail.tail.tail.tail.tail | exact h.tail.tail.tail.tail.tail.tail.tail | exact h.tail.tail.tail.tail.tail.tail.tail.tail | exact h.tail.tail.tail.tail.tail.tail.tail.tail.tail | exact h.tail.tail.tail.tail.tail.tail.tail.tail.tail.tail | exact h.tail.tail.tail.tail.tail.tail.tail.tail.tail.tail.tail | exact h.tail.tail.tail.tail.tail.tail.tail.tail.tail.tail.tail.tail | exact h.tail.tail.tail.tail.tail.tail.tail.tail.tail.tail.tail.tail.tail)⟩
end Go.Proofs.YtjehicncbpljaaaDoor

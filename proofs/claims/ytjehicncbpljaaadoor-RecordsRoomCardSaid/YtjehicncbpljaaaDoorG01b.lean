/- A LIST's COPY WITH MARKS BEHIND IT, and whether it is still as it was. -/
import Derived.Test.YtjehicncbpljaaaDoorG01a
namespace Go.Proofs.YtjehicncbpljaaaDoor
open Go Go.Gx Go.RowKit
set_option maxRecDepth 100000

theorem two_rooms (rest xs mm : List Value) (n s : Nat) (h : xs.length = n * s) (hr : rest.length = (n + 3) * s) (hm : mm.length = 3 * s) :
    (rest.take (0 * s) ++ xs ++ rest.drop (0 * s + xs.length)).take ((0 + n) * s) ++ mm ++ (rest.take (0 * s) ++ xs ++ rest.drop (0 * s + xs.length)).drop ((0 + n) * s + mm.length) = xs ++ mm := by
  simp only [Nat.zero_mul, List.take_zero, List.nil_append, Nat.zero_add, ← h]
  rw [List.take_left, List.drop_append, List.drop_of_length_le (by omega), List.nil_append, List.drop_drop, List.drop_of_length_le (by rw [hr, h, hm, Nat.add_mul]; omega), List.append_nil]

theorem twin_Rec (w0 : Base) (η : Heap) (va : Value) (n : Nat) (xs mk : List Value) (ha : SlA (St w0 η) va 7 n xs) (hi : Ints (rep n recK) xs) (hmk : Ints recK mk) (hn : n ≤ 1000000) :
    CallsT Tryd.prog 77 [va, .agg mk.toArray] (St w0 η) fun v A' => ∃ b, v = .slice (some ⟨b, 0, none⟩) n (n + 3) ∧ A' = St w0 ((b, 67, xs ++ (mk ++ (mk ++ mk))) :: η) := by
  have hml : mk.length = 7 := hmk.length
  have hszm : Sz Tryd.prog 67 mk.length := by rw [hml]; exact YtjehicncbpljaaaDoorF.sz_67
  obtain ⟨hal, ada, ca, rfl, ⟨hca, hca2⟩, hra⟩ := ha
  have hsa : SlA (St w0 η) (.slice ada n ca) 7 n xs := ⟨hal, ada, ca, rfl, ⟨hca, hca2⟩, hra⟩
  refine CallsT.body Tryd.func77 rfl rfl ?_
  simp only [Tryd.ntmps77, slotsOf, Nat.reduceAdd]
  refine TC_seq ?_
  refine TC_reg ?_
  refine TL_e rfl rfl rfl (rfl) (ET_box rfl rfl) ?_
  rintro _ _ ⟨b3, rfl, rfl⟩
  refine TL_q rfl rfl (QT_assign rfl rfl rfl) ?_
  refine TL_nil ?_
  refine TX_then ?_
  refine TC_seq ?_
  refine TC_reg ?_
  refine TL_q rfl rfl (QT_move rfl rfl rfl) ?_
  refine TL_q rfl rfl (QT_len rfl rfl Tryd.underlying31 rfl) ?_
  refine TL_q rfl rfl (QT_add rfl rfl rfl rfl (fun _ => ⟨by omega, by omega⟩)) ?_
  refine TL_e rfl rfl rfl (rfl) (ET_make (n + 3) rfl Tryd.underlying31 el_Rec rfl rfl rfl (by omega) (by omega) (by omega)) ?_
  rintro _ _ ⟨b9, rest, rfl, hrest, rfl⟩
  refine TL_q rfl rfl (QT_assign rfl rfl rfl) ?_
  refine TL_nil ?_
  refine TX_then ?_
  refine TC_seq ?_
  refine TC_draw [(0, 0), (1, 0), (3, 0), (4, 0), (5, 0), (2, 2), (6, 1), (7, 1), (8, 1)] YtjehicncbpljaaaDoorF.mixed (by kernel_rfl) (St.calm _ _) ?_
  refine TV_q rfl rfl rfl (fun _ => QT_move rfl rfl rfl) ?_
  refine TV_q rfl rfl rfl (fun _ => QT_move rfl rfl rfl) ?_
  refine TV_ql rfl rfl rfl (QT_loadW 1 rfl rfl Tryd.underlying67 rfl rfl rfl hszm) ?_
  refine TV_ql rfl rfl rfl (QT_loadW 1 rfl rfl Tryd.underlying67 rfl rfl rfl hszm) ?_
  refine TV_ql rfl rfl rfl (QT_loadW 1 rfl rfl Tryd.underlying67 rfl rfl rfl hszm) ?_
  refine TV_two (i := 2) (j := 6) [(6, 1), (7, 1), (8, 0)] [(2, 1), (7, 1), (8, 0)] (by kernel_rfl) ?_ ?_
  ·
    refine TVB_e rfl rfl rfl rfl (rfl) (ET_appendRoom 0 rfl Tryd.underlying31 YtjehicncbpljaaaDoorF.sz_67 rfl rfl rfl hsa.tail.tail hi.oneCell (by omega) (by omega)) ?_
    rintro _ _ ⟨rfl, rfl⟩
    refine ⟨_, .keep (by kernel_rfl) rfl (by first | exact QT_loadW 1 rfl rfl Tryd.underlying67 rfl rfl rfl hszm) (.keep (by kernel_rfl) rfl (by first | exact QT_loadW 1 rfl rfl Tryd.underlying67 rfl rfl rfl hszm) (.keep (by kernel_rfl) rfl (by first | exact QT_loadW 1 rfl rfl Tryd.underlying67 rfl rfl rfl hszm) (.nil))), ?_⟩
    refine TV_e rfl rfl rfl rfl (rfl) (ET_buildN [_, _, _] rfl Tryd.underlying31 YtjehicncbpljaaaDoorF.sz_67 YtjehicncbpljaaaDoorF.zero_67 rfl rfl rfl (by simp [Value.cells, hml])) ?_
    rintro _ _ ⟨b16, rfl, rfl⟩
    refine ⟨_, .drop (by kernel_rfl) (.drop (by kernel_rfl) (.drop (by kernel_rfl) (.nil))), ?_⟩
    refine TV_e rfl rfl rfl rfl (rfl) (ET_appendRoom 1 rfl Tryd.underlying31 YtjehicncbpljaaaDoorF.sz_67 rfl rfl rfl (SlA.own (n := 3) (xs := mk ++ (mk ++ mk)) 0 rfl (by rw [List.drop_zero, List.take_of_length_le (by simp [Value.cells, hml])]; simp [Value.cells]) (by simp [Value.cells, hml]) (by omega)) (fun u hu => hmk.oneCell u (by simpa using hu)) (by omega) (by simp; omega)) ?_
    rintro _ _ ⟨rfl, rfl⟩
    refine ⟨_, .nil, ?_⟩
    refine TV_q rfl rfl rfl (fun _ => QT_assign rfl rfl rfl) ?_
    refine TV_end ?_
    refine TX_then ?_
    refine TC_seq ?_
    refine TC_reg ?_
    refine TL_q rfl rfl (QT_move rfl rfl rfl) ?_
    refine TL_q rfl rfl (QT_move rfl rfl rfl) ?_
    refine TL_q rfl rfl (QT_len rfl rfl Tryd.underlying31 rfl) ?_
    refine TL_q rfl rfl (QT_slcH _ rfl rfl rfl rfl Tryd.underlying31 YtjehicncbpljaaaDoorF.sz_67 rfl rfl rfl (fun _ => by omega)) ?_
    refine TL_q rfl rfl (QT_assign rfl rfl rfl) ?_
    refine TL_nil ?_
    refine TX_then ?_
    refine TC_ret ?_
    refine TX_ret (.inl rfl) (res1 rfl rfl) ⟨_, ⟨_, congrArg (fun m => Value.slice _ m _) (by omega), rfl⟩, fun w h => ?_⟩
    simp only [upd] at h
    rw [two_rooms rest xs (mk ++ (mk ++ mk)) n 7 hal hrest (by simp [hml])] at h
    exact h.cnt (fun p => by simp only [List.countP_cons]; omega)
  ·
    refine TVB_e rfl rfl rfl rfl (rfl) (ET_buildN [_, _, _] rfl Tryd.underlying31 YtjehicncbpljaaaDoorF.sz_67 YtjehicncbpljaaaDoorF.zero_67 rfl rfl rfl (by simp [Value.cells, hml])) ?_
    rintro _ _ ⟨b16, rfl, rfl⟩
    refine ⟨_, .drop (by kernel_rfl) (.drop (by kernel_rfl) (.drop (by kernel_rfl) (.nil))), ?_⟩
    refine TV_e rfl rfl rfl rfl (rfl) (ET_appendRoom 1 rfl Tryd.underlying31 YtjehicncbpljaaaDoorF.sz_67 rfl rfl rfl hsa.tail.tail.tail hi.oneCell (by omega) (by omega)) ?_
    rintro _ _ ⟨rfl, rfl⟩
    refine ⟨_, .nil, ?_⟩
    refine TV_e rfl rfl rfl rfl (rfl) (ET_appendRoom 1 rfl Tryd.underlying31 YtjehicncbpljaaaDoorF.sz_67 rfl rfl rfl (SlA.own (n := 3) (xs := mk ++ (mk ++ mk)) 0 rfl (by rw [List.drop_zero, List.take_of_length_le (by simp [Value.cells, hml])]; simp [Value.cells]) (by simp [Value.cells, hml]) (by omega)) (fun u hu => hmk.oneCell u (by simpa using hu)) (by omega) (by simp; omega)) ?_
    rintro _ _ ⟨rfl, rfl⟩
    refine ⟨_, .nil, ?_⟩
    refine TV_q rfl rfl rfl (fun _ => QT_assign rfl rfl rfl) ?_
    refine TV_end ?_
    refine TX_then ?_
    refine TC_seq ?_
    refine TC_reg ?_
    refine TL_q rfl rfl (QT_move rfl rfl rfl) ?_
    refine TL_q rfl rfl (QT_move rfl rfl rfl) ?_
    refine TL_q rfl rfl (QT_len rfl rfl Tryd.underlying31 rfl) ?_
    refine TL_q rfl rfl (QT_slcH _ rfl rfl rfl rfl Tryd.underlying31 YtjehicncbpljaaaDoorF.sz_67 rfl rfl rfl (fun _ => by omega)) ?_
    refine TL_q rfl rfl (QT_assign rfl rfl rfl) ?_
    refine TL_nil ?_
    refine TX_then ?_
    refine TC_ret ?_
    refine TX_ret (.inl rfl) (res1 rfl rfl) ⟨_, ⟨_, congrArg (fun m => Value.slice _ m _) (by omega), rfl⟩, fun w h => ?_⟩
    simp only [upd] at h
    rw [two_rooms rest xs (mk ++ (mk ++ mk)) n 7 hal hrest (by simp [hml])] at h
    exact h.cnt (fun p => by simp only [List.countP_cons]; omega)
theorem left_Rec (w0 : Base) (η : Heap) (va : Value) (b n : Nat) (xs mk : List Value) (ha : SlA (St w0 η) va 7 n xs) (hb : (b, 67, xs ++ (mk ++ (mk ++ mk))) ∈ η) (hi : Ints (rep n recK) xs) (hmk : Ints recK mk) (hn : n ≤ 1000000) :
    CallsT Tryd.prog 87 [.slice (some ⟨b, 0, none⟩) n (n + 3), va, .agg mk.toArray] (St w0 η) fun v A' => v = .bool true ∧ A' = St w0 η := by
  have hml : mk.length = 7 := hmk.length
  have hszm : Sz Tryd.prog 67 mk.length := by rw [hml]; exact YtjehicncbpljaaaDoorF.sz_67
  obtain ⟨hal, ada, ca, rfl, ⟨hca, hca2⟩, hra⟩ := ha
  have hsa : SlA (St w0 η) (.slice ada n ca) 7 n xs := ⟨hal, ada, ca, rfl, ⟨hca, hca2⟩, hra⟩
  have ht : SlA (St w0 η) (.slice (some ⟨b, 0, none⟩) n (n + 3)) 7 n xs := SlA.mem hb (by rw [List.drop_zero, ← hal, List.take_left]) (by simp [hal]) (by omega)
  have hmm : Ints (rep 3 recK) (mk ++ (mk ++ mk)) := by
    have e : rep 3 recK = recK ++ (recK ++ recK) := by decide
    rw [e]; exact hmk.append (hmk.append hmk)
  have hbk : SlA (St w0 η) (.slice (if n + 3 = n then some ⟨b, 0, none⟩ else (some ⟨b, 0, none⟩ : Option Addr).map (·.add (n * 7))) (n + 3 - n) (n + 3 - n)) 7 3 (mk ++ (mk ++ mk)) := by
    rw [slc_addr (by omega), show n + 3 - n = 3 by omega]
    exact SlA.mem hb (by rw [Nat.zero_add, ← hal, List.drop_left, List.take_of_length_le (by simp [hml])]) (by simp [hal, hml]) (by omega)
  refine CallsT.body Tryd.func87 rfl rfl ?_
  simp only [Tryd.ntmps87, slotsOf, Nat.reduceAdd]
  refine TC_seq ?_
  refine TC_reg ?_
  refine TL_e rfl rfl rfl (rfl) (ET_box rfl rfl) ?_
  rintro _ _ ⟨b5, rfl, rfl⟩
  refine TL_q rfl rfl (QT_assign rfl rfl rfl) ?_
  refine TL_nil ?_
  refine TX_then ?_
  refine TC_seq ?_
  refine TC_seq ?_
  refine TC_reg ?_
  refine TL_q rfl rfl (QT_move rfl rfl rfl) ?_
  refine TL_q rfl rfl (QT_cap rfl rfl Tryd.underlying31 rfl) ?_
  refine TL_q rfl rfl (QT_move rfl rfl rfl) ?_
  refine TL_q rfl rfl (QT_len rfl rfl Tryd.underlying31 rfl) ?_
  refine TL_q rfl rfl (QT_add rfl rfl rfl rfl (fun _ => ⟨by omega, by omega⟩)) ?_
  refine TL_q rfl rfl (QT_neq rfl rfl rfl rfl) ?_
  refine TL_q rfl rfl (QT_move rfl rfl rfl) ?_
  refine TL_q rfl rfl (QT_move rfl rfl rfl) ?_
  refine TL_q rfl rfl (QT_move rfl rfl rfl) ?_
  refine TL_cq rfl rfl rfl rfl YtjehicncbpljaaaDoorF.cal_36 rfl (fun _ => same_Rec w0 _ _ _ n n xs xs ht.tail hsa.tail hi hi) ?_
  refine TL_q rfl rfl (QT_not rfl rfl rfl) ?_
  refine TL_q rfl rfl (QT_or rfl rfl rfl rfl) ?_
  refine TL_nil ?_
  refine TX_then ?_
  refine TC_cond rfl (fun h => absurd (h.symm.trans ((show (_ : Bool) = false by rw [eqC_refl hi]; simp))) (by decide)) (fun _ => ?_)
  refine TC_skip ?_
  refine TX_then ?_
  refine TC_seq ?_
  refine TC_draw [(0, 0), (1, 0), (2, 0), (3, 0), (4, 0), (5, 0), (6, 0), (7, 0), (8, 0), (9, 1), (10, 1), (11, 0)] YtjehicncbpljaaaDoorF.mixed (by kernel_rfl) (St.calm _ _) ?_
  refine TV_q rfl rfl rfl (fun _ => QT_move rfl rfl rfl) ?_
  refine TV_q rfl rfl rfl (fun _ => QT_move rfl rfl rfl) ?_
  refine TV_q rfl rfl rfl (fun _ => QT_len rfl rfl Tryd.underlying31 rfl) ?_
  refine TV_q rfl rfl rfl (fun _ => QT_move rfl rfl rfl) ?_
  refine TV_q rfl rfl rfl (fun _ => QT_cap rfl rfl Tryd.underlying31 rfl) ?_
  refine TV_q rfl rfl rfl (fun _ => QT_slcLH (n) (n + 3) rfl rfl rfl Tryd.underlying31 YtjehicncbpljaaaDoorF.sz_67 rfl rfl rfl rfl rfl (fun _ => ⟨by omega, by omega⟩)) ?_
  refine TV_ql rfl rfl rfl (QT_loadW 0 rfl rfl Tryd.underlying67 rfl rfl rfl hszm) ?_
  refine TV_ql rfl rfl rfl (QT_loadW 0 rfl rfl Tryd.underlying67 rfl rfl rfl hszm) ?_
  refine TV_ql rfl rfl rfl (QT_loadW 0 rfl rfl Tryd.underlying67 rfl rfl rfl hszm) ?_
  refine TV_e rfl rfl rfl rfl (rfl) (ET_buildN [_, _, _] rfl Tryd.underlying31 YtjehicncbpljaaaDoorF.sz_67 YtjehicncbpljaaaDoorF.zero_67 rfl rfl rfl (by simp [Value.cells, hml])) ?_
  rintro _ _ ⟨b16, rfl, rfl⟩
  refine ⟨_, .drop (by kernel_rfl) (.drop (by kernel_rfl) (.drop (by kernel_rfl) (.nil))), ?_⟩
  refine TV_cq rfl rfl rfl rfl rfl YtjehicncbpljaaaDoorF.cal_36 rfl (fun _ => same_Rec w0 _ _ _ 3 3 _ _ hbk.tail.tail (SlA.own (n := 3) (xs := mk ++ (mk ++ mk)) 0 rfl (by rw [List.drop_zero, List.take_of_length_le (by simp [Value.cells, hml])]; simp [Value.cells]) (by simp [Value.cells, hml]) (by omega)) hmm hmm) (.nil) ?_
  refine TV_q rfl rfl rfl (fun _ => QT_assign rfl rfl rfl) ?_
  refine TV_end ?_
  refine TX_then ?_
  refine TC_ret ?_
  exact TX_ret (.inl rfl) (res1 rfl rfl) ⟨_, ⟨by rw [eqC_refl hmm], rfl⟩, (fun _ h => by first | exact h | exact h.tail | exact h.tail.tail | exact h.tail.tail.tail | exact h.tail.tail.tail.tail | exact h.tail.tail.tail.tail.tail | exact h.tail.tail.tail.tail.tail.tail | exact h.tail.tail.tail.tail.tail.tail.tail | exact h.tail.tail.tail.tail.tail.tail.tail.tail | exact h.tail.tail.tail.tail.tail.tail.tail.tail.tail | exact h.tail.tail.tail.tail.tail.tail.tail.tail.tail.tail | exact h.tail.tail.tail.tail.tail.tail.tail.tail.tail.tail.tail | exact h.tail.tail.tail.tail.tail.tail.tail.tail.tail.tail.tail.tail | exact h.tail.tail.tail.tail.tail.tail.tail.tail.tail.tail.tail.tail.tail)⟩
def zs (ks : List IntKind) : List Value := ks.map fun k => .int k 0
theorem zs_ints : ∀ ks : List IntKind, Ints ks (zs ks)
  | [] => .nil
  | k :: ks => .cons (by cases k <;> rfl) (zs_ints ks)
def mark_Rec : List Value := .int .u8 201 :: zs recK.tail
theorem mark_Rec_ints : Ints recK mark_Rec := .cons (by decide) (zs_ints _)
theorem twin_Recs (w0 : Base) (η : Heap) (va : Value) (n : Nat) (xs : List Value) (ha : SlA (St w0 η) va recK.length n xs) (hi : Ints (rep n recK) xs) (hn : n ≤ 1000000) :
    CallsT Tryd.prog 18 [va] (St w0 η) fun v A' => ∃ b, v = .slice (some ⟨b, 0, none⟩) n (n + 3) ∧ A' = St w0 ((b, 67, xs ++ (mark_Rec ++ (mark_Rec ++ mark_Rec))) :: η) := by
  refine CallsT.body Tryd.func18 rfl rfl ?_
  simp only [Tryd.ntmps18, slotsOf, Nat.reduceAdd]
  refine TC_seq ?_
  refine TC_reg ?_
  refine TL_q rfl rfl (QT_assign rfl rfl rfl) ?_
  refine TL_nil ?_
  refine TX_then ?_
  refine TC_seq ?_
  refine TC_reg ?_
  refine TL_q rfl rfl (QT_move rfl rfl rfl) ?_
  refine TL_q rfl rfl (QT_build rfl rfl YtjehicncbpljaaaDoorF.zero_67 YtjehicncbpljaaaDoorF.pl_67 rfl rfl rfl) ?_
  refine TL_e rfl rfl rfl (rfl) (ET_call rfl YtjehicncbpljaaaDoorF.cal_77 rfl (twin_Rec w0 _ va n xs mark_Rec ha hi mark_Rec_ints hn)) ?_
  rintro _ _ ⟨b5, rfl, rfl⟩
  refine TL_q rfl rfl (QT_assign rfl rfl rfl) ?_
  refine TL_nil ?_
  refine TX_then ?_
  refine TC_ret ?_
  exact TX_ret (.inl rfl) (res1 rfl rfl) ⟨_, ⟨_, rfl, rfl⟩, (fun _ h => by first | exact h | exact h.tail | exact h.tail.tail | exact h.tail.tail.tail | exact h.tail.tail.tail.tail | exact h.tail.tail.tail.tail.tail | exact h.tail.tail.tail.tail.tail.tail | exact h.tail.tail.tail.tail.tail.tail.tail | exact h.tail.tail.tail.tail.tail.tail.tail.tail | exact h.tail.tail.tail.tail.tail.tail.tail.tail.tail | exact h.tail.tail.tail.tail.tail.tail.tail.tail.tail.tail | exact h.tail.tail.tail.tail.tail.tail.tail.tail.tail.tail.tail | exact h.tail.tail.tail.tail.tail.tail.tail.tail.tail.tail.tail.tail | exact h.tail.tail.tail.tail.tail.tail.tail.tail.tail.tail.tail.tail.tail)⟩
theorem left_Recs (w0 : Base) (η : Heap) (va : Value) (b n : Nat) (xs : List Value) (ha : SlA (St w0 η) va recK.length n xs) (hb : (b, 67, xs ++ (mark_Rec ++ (mark_Rec ++ mark_Rec))) ∈ η) (hi : Ints (rep n recK) xs) (hn : n ≤ 1000000) :
    CallsT Tryd.prog 22 [.slice (some ⟨b, 0, none⟩) n (n + 3), va] (St w0 η) fun v A' => v = .bool true ∧ A' = St w0 η := by
  refine CallsT.body Tryd.func22 rfl rfl ?_
  simp only [Tryd.ntmps22, slotsOf, Nat.reduceAdd]
  refine TC_seq ?_
  refine TC_reg ?_
  refine TL_q rfl rfl (QT_assign rfl rfl rfl) ?_
  refine TL_nil ?_
  refine TX_then ?_
  refine TC_seq ?_
  refine TC_reg ?_
  refine TL_q rfl rfl (QT_move rfl rfl rfl) ?_
  refine TL_q rfl rfl (QT_move rfl rfl rfl) ?_
  refine TL_q rfl rfl (QT_build rfl rfl YtjehicncbpljaaaDoorF.zero_67 YtjehicncbpljaaaDoorF.pl_67 rfl rfl rfl) ?_
  refine TL_cq rfl rfl rfl rfl YtjehicncbpljaaaDoorF.cal_87 rfl (fun _ => left_Rec w0 _ va b n xs mark_Rec ha hb hi mark_Rec_ints hn) ?_
  refine TL_q rfl rfl (QT_assign rfl rfl rfl) ?_
  refine TL_nil ?_
  refine TX_then ?_
  refine TC_ret ?_
  exact TX_ret (.inl rfl) (res1 rfl rfl) ⟨_, ⟨rfl, rfl⟩, (fun _ h => by first | exact h | exact h.tail | exact h.tail.tail | exact h.tail.tail.tail | exact h.tail.tail.tail.tail | exact h.tail.tail.tail.tail.tail | exact h.tail.tail.tail.tail.tail.tail | exact h.tail.tail.tail.tail.tail.tail.tail | exact h.tail.tail.tail.tail.tail.tail.tail.tail | exact h.tail.tail.tail.tail.tail.tail.tail.tail.tail | exact h.tail.tail.tail.tail.tail.tail.tail.tail.tail.tail | exact h.tail.tail.tail.tail.tail.tail.tail.tail.tail.tail.tail | exact h.tail.tail.tail.tail.tail.tail.tail.tail.tail.tail.tail.tail | exact h.tail.tail.tail.tail.tail.tail.tail.tail.tail.tail.tail.tail.tail)⟩
theorem same_Recs (w0 : Base) (η : Heap) (va vb : Value) (n m : Nat) (xs ys : List Value) (ha : SlA (St w0 η) va recK.length n xs) (hb : SlA (St w0 η) vb recK.length m ys) (hia : Ints (rep n recK) xs) (hib : Ints (rep m recK) ys) :
    CallsT Tryd.prog 15 [va, vb] (St w0 η) fun v A' => v = .bool (eqC xs ys) ∧ A' = St w0 η := by
  refine CallsT.body Tryd.func15 rfl rfl ?_
  simp only [Tryd.ntmps15, slotsOf, Nat.reduceAdd]
  refine TC_seq ?_
  refine TC_reg ?_
  refine TL_q rfl rfl (QT_assign rfl rfl rfl) ?_
  refine TL_nil ?_
  refine TX_then ?_
  refine TC_seq ?_
  refine TC_reg ?_
  refine TL_q rfl rfl (QT_move rfl rfl rfl) ?_
  refine TL_q rfl rfl (QT_move rfl rfl rfl) ?_
  refine TL_cq rfl rfl rfl rfl YtjehicncbpljaaaDoorF.cal_36 rfl (fun _ => same_Rec w0 _ va vb n m xs ys ha hb hia hib) ?_
  refine TL_q rfl rfl (QT_assign rfl rfl rfl) ?_
  refine TL_nil ?_
  refine TX_then ?_
  refine TC_ret ?_
  exact TX_ret (.inl rfl) (res1 rfl rfl) ⟨_, ⟨rfl, rfl⟩, (fun _ h => by first | exact h | exact h.tail | exact h.tail.tail | exact h.tail.tail.tail | exact h.tail.tail.tail.tail | exact h.tail.tail.tail.tail.tail | exact h.tail.tail.tail.tail.tail.tail | exact h.tail.tail.tail.tail.tail.tail.tail | exact h.tail.tail.tail.tail.tail.tail.tail.tail | exact h.tail.tail.tail.tail.tail.tail.tail.tail.tail | exact h.tail.tail.tail.tail.tail.tail.tail.tail.tail.tail | exact h.tail.tail.tail.tail.tail.tail.tail.tail.tail.tail.tail | exact h.tail.tail.tail.tail.tail.tail.tail.tail.tail.tail.tail.tail | exact h.tail.tail.tail.tail.tail.tail.tail.tail.tail.tail.tail.tail.tail)⟩
end Go.Proofs.YtjehicncbpljaaaDoor

/- THE LAW OF LISTS BEHIND OTHERS: their patches are the patches of both; the first ones have the first ones. -/
import Derived.Test.YtjipbndjcefbbaaDoorT12e
import Derived.Test.YtjipbndjcefbbaaDoorT12f
namespace Go.Proofs.YtjipbndjcefbbaaDoor
open Go Go.Gx Go.RowKit
set_option maxRecDepth 100000

theorem elem_take (xs : List Value) {k i : Nat} (h : i < k) : elem (xs.take (k * 49)) 49 i = elem xs 49 i := by
  unfold elem
  have : (i + 1) * 49 ≤ k * 49 := Nat.mul_le_mul_right _ h
  rw [List.drop_take, List.take_take, Nat.min_eq_left (by omega)]
theorem flg_e (xs : List Value) (i : Nat) : flg xs i = (match (elem xs 49 i) with | (.int _ z) :: _ => z.toNat | _ => 0) := by
  have h0 : (elem xs 49 i)[0]? = xs[i * 49]? := by
    unfold elem
    rw [List.getElem?_take_of_lt (by decide), List.getElem?_drop, Nat.add_zero]
  unfold flg
  rw [← h0]
  cases elem xs 49 i with
  | nil => rfl
  | cons v r => cases v <;> rfl
theorem flg_same {xs ys : List Value} {i j : Nat} (h : elem xs 49 i = elem ys 49 j) : flg xs i = flg ys j := by rw [flg_e, flg_e, h]
theorem tileB_same {pts : Nat} {xs ys : List Value} {n : Nat} (h : ∀ i, i < n → elem xs 49 i = elem ys 49 i) : ∀ i, i ≤ n → tileB pts xs i = tileB pts ys i
  | 0, _ => rfl
  | i + 1, hi => by rw [tileB, tileB, h i hi, flg_same (h i hi), tileB_same h i (by omega)]
theorem tilesC_same {pts : Nat} {xs ys : List Value} {n : Nat} (h : ∀ i, i < n → elem xs 49 i = elem ys 49 i) : ∀ i, i ≤ n → tilesC pts xs i = tilesC pts ys i
  | 0, _ => rfl
  | i + 1, hi => by rw [tilesC, tilesC, tilesC_same h i (by omega), tileB_same h _ hi]
theorem ints_take {n k : Nat} {xs : List Value} (hi : Ints (rep n sheetK) xs) (hk : k ≤ n) : Ints (rep k sheetK) (xs.take (k * 49)) := by
  have e : n = k + (n - k) := by omega
  rw [e, rep_add] at hi
  have h2 := hi.split.1
  rwa [rep_len] at h2
theorem errT_mk {L : Lay} {n : Nat} {xs : List Value} (h1 : okB L = true) (h2 : L.ty = 6 ∨ L.ty = 7) (h3 : 0 < n → flg xs 0 = 0) (h4 : ∀ i, i < n → flg xs i ≤ 3) : errT L n xs = 0 := by
  unfold errT
  rw [if_pos ⟨h1, by omega⟩, if_neg (fun h => h.2 (h3 h.1)), if_neg (by rw [bigB_none h4]; decide)]
theorem err_take {L : Lay} {n k : Nat} {xs : List Value} (h : errT L n xs = 0) (hk : k ≤ n) : errT L k (xs.take (k * 49)) = 0 := by
  obtain ⟨h1, h2, h3, h4⟩ := errT_zero h
  exact errT_mk h1 h2 (fun h0 => by rw [flg_same (elem_take xs h0)]; exact h3 (by omega)) (fun i hi => by rw [flg_same (elem_take xs hi)]; exact h4 i (by omega))
theorem take_tiles {pts n : Nat} {xs : List Value} (hl : ∀ j, j ≤ n → (tileB pts xs j).length = 48) {k : Nat} (hk : k ≤ n) : (tilesC pts xs n).take (k * 48) = tilesC pts xs k := by
  induction n with
  | zero => obtain rfl : k = 0 := by omega
            rfl
  | succ n ih =>
    by_cases h : k = n + 1
    · subst h
      exact List.take_of_length_le (by rw [take_len hl (n + 1) (Nat.le_refl _)]; exact Nat.le_refl _)
    · have hlen := take_len hl n (by omega)
      have h1 : k * 48 ≤ n * 48 := Nat.mul_le_mul_right _ (by omega)
      rw [tilesC, List.take_append_of_le_length (by omega)]
      exact ih (fun j hj => hl j (by omega)) (by omega)
theorem elem_app1 {xs ys : List Value} {n i : Nat} (hl : xs.length = n * 49) (h : i < n) : elem (xs ++ ys) 49 i = elem xs 49 i := by
  unfold elem
  have : (i + 1) * 49 ≤ n * 49 := Nat.mul_le_mul_right _ h
  rw [List.drop_append_of_le_length (by omega), List.take_append_of_le_length (by rw [List.length_drop]; omega)]
theorem elem_app2 {xs ys : List Value} {n : Nat} (hl : xs.length = n * 49) (j : Nat) : elem (xs ++ ys) 49 (n + j) = elem ys 49 j := by
  unfold elem
  rw [Nat.add_mul, ← hl, List.drop_append, List.drop_of_length_le (by omega), List.nil_append, show xs.length + j * 49 - xs.length = j * 49 by omega]
theorem whole_ah {pts : Nat} {s ah ah' : List Value} : wholeC pts 0 s ah = wholeC pts 0 s ah' := by unfold wholeC; rw [if_pos rfl, if_pos rfl]
theorem tileB_app {pts n m : Nat} {xs ys : List Value} (hl : xs.length = n * 49) (h0 : 0 < m → flg ys 0 = 0) : ∀ j, j < m → tileB pts (xs ++ ys) (n + (j + 1)) = tileB pts ys (j + 1)
  | 0, h => by
    have he := elem_app2 (ys := ys) hl 0
    have hf := flg_same he
    rw [Nat.add_zero] at he hf
    show wholeC pts (flg (xs ++ ys) n) (elem (xs ++ ys) 49 n) (tileB pts (xs ++ ys) n) = wholeC pts (flg ys 0) (elem ys 49 0) zP
    rw [he, hf, h0 h]
    exact whole_ah
  | j + 1, h => by
    have he := elem_app2 (ys := ys) hl (j + 1)
    have hf := flg_same he
    have ih := tileB_app (pts := pts) hl h0 j (by omega)
    show wholeC pts (flg (xs ++ ys) (n + (j + 1))) (elem (xs ++ ys) 49 (n + (j + 1))) (tileB pts (xs ++ ys) (n + (j + 1))) = wholeC pts (flg ys (j + 1)) (elem ys 49 (j + 1)) (tileB pts ys (j + 1))
    rw [he, hf, ih]
theorem tilesC_app {pts n m : Nat} {xs ys : List Value} (hl : xs.length = n * 49) (h0 : 0 < m → flg ys 0 = 0) : ∀ j, j ≤ m → tilesC pts (xs ++ ys) (n + j) = tilesC pts xs n ++ tilesC pts ys j
  | 0, _ => by
    show tilesC pts (xs ++ ys) n = tilesC pts xs n ++ []
    rw [List.append_nil]
    exact tilesC_same (fun i hi => elem_app1 hl hi) n (Nat.le_refl _)
  | j + 1, h => by
    show tilesC pts (xs ++ ys) (n + j) ++ tileB pts (xs ++ ys) (n + (j + 1)) = tilesC pts xs n ++ (tilesC pts ys j ++ tileB pts ys (j + 1))
    rw [tilesC_app hl h0 j (by omega), tileB_app hl h0 j (by omega), List.append_assoc]
theorem err_app {L : Lay} {n m : Nat} {xs ys : List Value} (hl : xs.length = n * 49) (h1 : errT L n xs = 0) (h2 : errT L m ys = 0) : errT L (n + m) (xs ++ ys) = 0 := by
  obtain ⟨a1, a2, a3, a4⟩ := errT_zero h1
  obtain ⟨b1, b2, b3, b4⟩ := errT_zero h2
  have hf : ∀ i, i < n → flg (xs ++ ys) i = flg xs i := fun i hi => flg_same (elem_app1 hl hi)
  have hg : ∀ j, flg (xs ++ ys) (n + j) = flg ys j := fun j => flg_same (elem_app2 hl j)
  refine errT_mk a1 a2 (fun h => ?_) (fun i hi => ?_)
  · by_cases h0 : 0 < n
    · rw [hf 0 h0]; exact a3 h0
    · obtain rfl : n = 0 := by omega
      have := hg 0
      rw [Nat.add_zero] at this
      rw [this]; exact b3 (by omega)
  · by_cases h0 : i < n
    · rw [hf i h0]; exact a4 i h0
    · have := hg (i - n)
      rw [show n + (i - n) = i by omega] at this
      rw [this]; exact b4 _ (by omega)
theorem err4_same {L : Lay} {n m : Nat} {xs ys : List Value} (h : errT L n xs = 4) : errT L m ys = 4 := by
  unfold errT at h ⊢
  by_cases h1 : okB L = true ∧ 6 ≤ L.ty
  · rw [if_pos h1] at h
    split at h
    · cases h
    · split at h <;> cases h
  · rw [if_neg h1]

theorem law_tilesJoin (w0 : World) (η : Heap) (hG : Sets w0) (hE : Edges w0) (L : Lay) (sv tv : Value) (n m q : Nat) (xs ys : List Value) (hs : SlA (St w0 η) sv 49 n xs) (hi : Ints (rep n sheetK) xs) (ht : SlA (St w0 η) tv 49 m ys) (hj : Ints (rep m sheetK) ys) (hn1 : n * 160 ≤ 140737488355328) (hm1 : m * 160 ≤ 140737488355328) (hq : q ≤ 255) :
    CallsT Tryd.prog 5 [L.val, .agg #[sv, tv], .int .u8 (q : Int)] (St w0 η) fun v A' => v = .bool true ∧ A' = St w0 η := by
  have hs0 := hs
  have ht0 := ht
  have hl : xs.length = n * 49 := hs.1
  have hl2 : ys.length = m * 49 := ht.1
  obtain ⟨_, ad, cap, rfl, hcap, _⟩ := hs
  obtain ⟨_, ad2, cap2, rfl, hcap2, _⟩ := ht
  have hS : ∀ X : Heap, SlA (St w0 (X ++ η)) (.slice ad n cap) 49 n xs := fun X => hs0.mono fun _ h => h.app_right
  have hT : ∀ X : Heap, SlA (St w0 (X ++ η)) (.slice ad2 m cap2) 49 m ys := fun X => ht0.mono fun _ h => h.app_right
  refine CallsT.body Tryd.func5 rfl rfl ?_
  simp only [Tryd.ntmps5, slotsOf, Nat.reduceAdd]
  refine TC_seq ?_
  refine TC_reg ?_
  refine TL_e rfl rfl rfl (rfl) (ET_box rfl rfl) ?_
  rintro _ _ ⟨b3, rfl, rfl⟩
  refine TL_e rfl rfl rfl (rfl) (ET_box rfl rfl) ?_
  rintro _ _ ⟨b4, rfl, rfl⟩
  refine TL_q rfl rfl (QT_assign rfl rfl rfl) ?_
  refine TL_nil ?_
  refine TX_then ?_
  refine TC_seq ?_
  refine TC_seq ?_
  refine TC_reg ?_
  refine TL_q rfl rfl (QT_indexArr (0) rfl rfl Tryd.underlying67 YtjipbndjcefbbaaDoorF.sz_28 rfl rfl (rfl) (fun _ => by decide)) ?_
  first
    | refine TL_q rfl rfl (QT_load 0 rfl rfl Tryd.underlying28 rfl rfl rfl (fun _ => rfl)) ?_
    | refine TL_q rfl rfl (QT_load 1 rfl rfl Tryd.underlying28 rfl rfl rfl (fun _ => rfl)) ?_
    | refine TL_q rfl rfl (QT_load 2 rfl rfl Tryd.underlying28 rfl rfl rfl (fun _ => rfl)) ?_
  refine TL_q rfl rfl (QT_len rfl rfl Tryd.underlying28 rfl) ?_
  refine TL_q rfl rfl (QT_gtr rfl rfl rfl rfl) ?_
  refine TL_q rfl rfl (QT_move rfl rfl rfl) ?_
  refine TL_q rfl rfl (QT_indexArr (1) rfl rfl Tryd.underlying67 YtjipbndjcefbbaaDoorF.sz_28 rfl rfl (rfl) (fun _ => by decide)) ?_
  first
    | refine TL_q rfl rfl (QT_load 0 rfl rfl Tryd.underlying28 rfl rfl rfl (fun _ => rfl)) ?_
    | refine TL_q rfl rfl (QT_load 1 rfl rfl Tryd.underlying28 rfl rfl rfl (fun _ => rfl)) ?_
    | refine TL_q rfl rfl (QT_load 2 rfl rfl Tryd.underlying28 rfl rfl rfl (fun _ => rfl)) ?_
  refine TL_q rfl rfl (QT_len rfl rfl Tryd.underlying28 rfl) ?_
  refine TL_q rfl rfl (QT_gtr rfl rfl rfl rfl) ?_
  refine TL_q rfl rfl (QT_or rfl rfl rfl rfl) ?_
  refine TL_nil ?_
  refine TX_then ?_
  first
    | refine TC_cond_dec rfl (fun h25 => ?_) (fun h25 => ?_)
    | refine TC_cond rfl (fun h25 => ?_) (fun h25 => ?_)
  ·
    refine TC_seq ?_
    refine TC_reg ?_
    refine TL_cq rfl rfl rfl rfl YtjipbndjcefbbaaDoorF.cal_8 rfl (fun _ => lives12 w0 _ hG hE) ?_
    refine TL_q rfl rfl (QT_assign rfl rfl rfl) ?_
    refine TL_nil ?_
    refine TX_then ?_
    refine TC_ret ?_
    refine TX_then_ret ?_
    exact TX_ret (.inl rfl) (res1 rfl rfl) ⟨_, ⟨rfl, rfl⟩, (fun _ h => by first | exact h | exact h.tail | exact h.tail.tail | exact h.tail.tail.tail | exact h.tail.tail.tail.tail | exact h.tail.tail.tail.tail.tail | exact h.tail.tail.tail.tail.tail.tail | exact h.tail.tail.tail.tail.tail.tail.tail | exact h.tail.tail.tail.tail.tail.tail.tail.tail | exact h.tail.tail.tail.tail.tail.tail.tail.tail.tail | exact h.tail.tail.tail.tail.tail.tail.tail.tail.tail.tail | exact h.tail.tail.tail.tail.tail.tail.tail.tail.tail.tail.tail | exact h.tail.tail.tail.tail.tail.tail.tail.tail.tail.tail.tail.tail | exact h.tail.tail.tail.tail.tail.tail.tail.tail.tail.tail.tail.tail.tail)⟩
  ·
    refine TC_skip ?_
    refine TX_then ?_
    refine TC_seq ?_
    refine TC_reg ?_
    first
      | refine TL_q rfl rfl (QT_loadW 0 rfl rfl Tryd.underlying27 rfl rfl rfl YtjipbndjcefbbaaDoorF.sz_27) ?_
      | refine TL_q rfl rfl (QT_loadW 1 rfl rfl Tryd.underlying27 rfl rfl rfl YtjipbndjcefbbaaDoorF.sz_27) ?_
      | refine TL_q rfl rfl (QT_loadW 2 rfl rfl Tryd.underlying27 rfl rfl rfl YtjipbndjcefbbaaDoorF.sz_27) ?_
      | refine TL_q rfl rfl (QT_loadA 0 rfl rfl Tryd.underlying27 rfl rfl rfl YtjipbndjcefbbaaDoorF.sz_27 (fun _ => rfl)) ?_
      | refine TL_q rfl rfl (QT_loadA 1 rfl rfl Tryd.underlying27 rfl rfl rfl YtjipbndjcefbbaaDoorF.sz_27 (fun _ => rfl)) ?_
      | refine TL_q rfl rfl (QT_loadA 2 rfl rfl Tryd.underlying27 rfl rfl rfl YtjipbndjcefbbaaDoorF.sz_27 (fun _ => rfl)) ?_
    refine TL_q rfl rfl (QT_indexArr (0) rfl rfl Tryd.underlying67 YtjipbndjcefbbaaDoorF.sz_28 rfl rfl (rfl) (fun _ => by decide)) ?_
    first
      | refine TL_q rfl rfl (QT_load 0 rfl rfl Tryd.underlying28 rfl rfl rfl (fun _ => rfl)) ?_
      | refine TL_q rfl rfl (QT_load 1 rfl rfl Tryd.underlying28 rfl rfl rfl (fun _ => rfl)) ?_
      | refine TL_q rfl rfl (QT_load 2 rfl rfl Tryd.underlying28 rfl rfl rfl (fun _ => rfl)) ?_
    refine TL_e rfl rfl rfl (rfl) (ET_call rfl YtjipbndjcefbbaaDoorF.cal_10 rfl (of_spec w0 _ hG hE L _ n xs (hS [_, _]) hi hn1)) ?_
    rintro _ _ ⟨pv, H1, rfl, hF1, rfl⟩
    refine TL_q rfl rfl (QT_move rfl rfl rfl) ?_
    refine TL_q rfl rfl (QT_extract rfl rfl rfl rfl) ?_
    refine TL_q rfl rfl (QT_extract rfl rfl rfl rfl) ?_
    refine TL_q rfl rfl (QT_assign rfl rfl rfl) ?_
    refine TL_q rfl rfl (QT_assign rfl rfl rfl) ?_
    refine TL_nil ?_
    refine TX_then ?_
    refine TC_seq ?_
    refine TC_A (St w0 ((b4, 67, [.slice ad n cap, .slice ad2 m cap2]) :: (b3, 27, L.val.cells.toList) :: (H1 ++ η))) (fun w h => by
      have h2 : St w0 (H1 ++ ((b4, 67, [.slice ad n cap, .slice ad2 m cap2]) :: (b3, 27, L.val.cells.toList) :: η)) w := h
      exact h2.cnt fun p => by simp only [List.countP_append, List.countP_cons]; omega) ?_
    refine TC_reg ?_
    first
      | refine TL_q rfl rfl (QT_loadW 0 rfl rfl Tryd.underlying27 rfl rfl rfl YtjipbndjcefbbaaDoorF.sz_27) ?_
      | refine TL_q rfl rfl (QT_loadW 1 rfl rfl Tryd.underlying27 rfl rfl rfl YtjipbndjcefbbaaDoorF.sz_27) ?_
      | refine TL_q rfl rfl (QT_loadW 2 rfl rfl Tryd.underlying27 rfl rfl rfl YtjipbndjcefbbaaDoorF.sz_27) ?_
      | refine TL_q rfl rfl (QT_loadA 0 rfl rfl Tryd.underlying27 rfl rfl rfl YtjipbndjcefbbaaDoorF.sz_27 (fun _ => rfl)) ?_
      | refine TL_q rfl rfl (QT_loadA 1 rfl rfl Tryd.underlying27 rfl rfl rfl YtjipbndjcefbbaaDoorF.sz_27 (fun _ => rfl)) ?_
      | refine TL_q rfl rfl (QT_loadA 2 rfl rfl Tryd.underlying27 rfl rfl rfl YtjipbndjcefbbaaDoorF.sz_27 (fun _ => rfl)) ?_
    refine TL_q rfl rfl (QT_indexArr (1) rfl rfl Tryd.underlying67 YtjipbndjcefbbaaDoorF.sz_28 rfl rfl (rfl) (fun _ => by decide)) ?_
    first
      | refine TL_q rfl rfl (QT_load 0 rfl rfl Tryd.underlying28 rfl rfl rfl (fun _ => rfl)) ?_
      | refine TL_q rfl rfl (QT_load 1 rfl rfl Tryd.underlying28 rfl rfl rfl (fun _ => rfl)) ?_
      | refine TL_q rfl rfl (QT_load 2 rfl rfl Tryd.underlying28 rfl rfl rfl (fun _ => rfl)) ?_
    refine TL_e rfl rfl rfl (rfl) (ET_call rfl YtjipbndjcefbbaaDoorF.cal_10 rfl (of_spec w0 _ hG hE L _ m ys (hT (_ :: _ :: H1)) hj hm1)) ?_
    rintro _ _ ⟨qv, H2, rfl, hF2, rfl⟩
    refine TL_q rfl rfl (QT_move rfl rfl rfl) ?_
    refine TL_q rfl rfl (QT_extract rfl rfl rfl rfl) ?_
    refine TL_q rfl rfl (QT_extract rfl rfl rfl rfl) ?_
    refine TL_q rfl rfl (QT_assign rfl rfl rfl) ?_
    refine TL_q rfl rfl (QT_assign rfl rfl rfl) ?_
    refine TL_nil ?_
    refine TX_then ?_
    refine TC_seq ?_
    refine TC_A (St w0 ((b4, 67, [.slice ad n cap, .slice ad2 m cap2]) :: (b3, 27, L.val.cells.toList) :: ([] ++ (H2 ++ (H1 ++ η))))) (fun _ h => h.cnt fun p => by simp only [List.countP_append, List.countP_cons, List.countP_nil]; omega) ?_
    have hnm : n ≤ 100 ∧ m ≤ 100 := by simp only [Bool.or_eq_false_iff, decide_eq_false_iff_not] at h25; omega
    refine TC_draw [(0, 0), (1, 0), (2, 0), (4, 0), (5, 0), (3, 1), (6, 1), (7, 1), (8, 0), (9, 0), (10, 0), (11, 0), (12, 0)] YtjipbndjcefbbaaDoorF.mixed (by kernel_rfl) (St.calm _ _) ?_
    first
      | refine TV_ql rfl rfl rfl (QT_loadW 0 rfl rfl Tryd.underlying27 rfl rfl rfl YtjipbndjcefbbaaDoorF.sz_27) ?_
      | refine TV_ql rfl rfl rfl (QT_loadW 1 rfl rfl Tryd.underlying27 rfl rfl rfl YtjipbndjcefbbaaDoorF.sz_27) ?_
      | refine TV_ql rfl rfl rfl (QT_loadW 2 rfl rfl Tryd.underlying27 rfl rfl rfl YtjipbndjcefbbaaDoorF.sz_27) ?_
      | refine TV_ql rfl rfl rfl (QT_loadA 0 rfl rfl Tryd.underlying27 rfl rfl rfl YtjipbndjcefbbaaDoorF.sz_27 (fun _ => rfl)) ?_
      | refine TV_ql rfl rfl rfl (QT_loadA 1 rfl rfl Tryd.underlying27 rfl rfl rfl YtjipbndjcefbbaaDoorF.sz_27 (fun _ => rfl)) ?_
      | refine TV_ql rfl rfl rfl (QT_loadA 2 rfl rfl Tryd.underlying27 rfl rfl rfl YtjipbndjcefbbaaDoorF.sz_27 (fun _ => rfl)) ?_
    refine TV_q rfl rfl rfl (fun _ => QT_indexArr (0) rfl rfl Tryd.underlying67 YtjipbndjcefbbaaDoorF.sz_28 rfl rfl (rfl) (fun _ => by decide)) ?_
    first
      | refine TV_ql rfl rfl rfl (QT_load 0 rfl rfl Tryd.underlying28 rfl rfl rfl (fun _ => rfl)) ?_
      | refine TV_ql rfl rfl rfl (QT_load 1 rfl rfl Tryd.underlying28 rfl rfl rfl (fun _ => rfl)) ?_
      | refine TV_ql rfl rfl rfl (QT_load 2 rfl rfl Tryd.underlying28 rfl rfl rfl (fun _ => rfl)) ?_
    refine TV_q rfl rfl rfl (fun _ => QT_indexArr (1) rfl rfl Tryd.underlying67 YtjipbndjcefbbaaDoorF.sz_28 rfl rfl (rfl) (fun _ => by decide)) ?_
    first
      | refine TV_ql rfl rfl rfl (QT_load 0 rfl rfl Tryd.underlying28 rfl rfl rfl (fun _ => rfl)) ?_
      | refine TV_ql rfl rfl rfl (QT_load 1 rfl rfl Tryd.underlying28 rfl rfl rfl (fun _ => rfl)) ?_
      | refine TV_ql rfl rfl rfl (QT_load 2 rfl rfl Tryd.underlying28 rfl rfl rfl (fun _ => rfl)) ?_
    refine TV_e rfl rfl rfl rfl (rfl) (ET_appendL (η := H2 ++ (H1 ++ η)) (L := [_, _]) rfl Tryd.underlying28 el_Sheet rfl rfl (Frag.nil 64 49) (fun _ h => h) (hs0.mono fun _ h => h.cnt fun p => by simp only [List.countP_append, List.countP_cons, List.countP_nil]; omega) hi.oneCell (by omega) (by omega)) ?_
    rintro av _ ⟨HA, hFA, rfl⟩
    refine ⟨_, .keep (by kernel_rfl) rfl (by first | exact QT_load 0 rfl rfl Tryd.underlying28 rfl rfl rfl (fun _ => rfl) | exact QT_load 1 rfl rfl Tryd.underlying28 rfl rfl rfl (fun _ => rfl) | exact QT_load 2 rfl rfl Tryd.underlying28 rfl rfl rfl (fun _ => rfl)) (.drop (by kernel_rfl) (.keep (by kernel_rfl) rfl (by first | exact QT_loadW 0 rfl rfl Tryd.underlying27 rfl rfl rfl YtjipbndjcefbbaaDoorF.sz_27 | exact QT_loadW 1 rfl rfl Tryd.underlying27 rfl rfl rfl YtjipbndjcefbbaaDoorF.sz_27 | exact QT_loadW 2 rfl rfl Tryd.underlying27 rfl rfl rfl YtjipbndjcefbbaaDoorF.sz_27 | exact QT_loadA 0 rfl rfl Tryd.underlying27 rfl rfl rfl YtjipbndjcefbbaaDoorF.sz_27 (fun _ => rfl) | exact QT_loadA 1 rfl rfl Tryd.underlying27 rfl rfl rfl YtjipbndjcefbbaaDoorF.sz_27 (fun _ => rfl) | exact QT_loadA 2 rfl rfl Tryd.underlying27 rfl rfl rfl YtjipbndjcefbbaaDoorF.sz_27 (fun _ => rfl)) (.nil))), ?_⟩
    refine TV_e rfl rfl rfl rfl (rfl) (ET_appendL (η := H2 ++ (H1 ++ η)) (L := [_, _]) rfl Tryd.underlying28 el_Sheet rfl rfl hFA (fun _ h => h) (ht0.mono fun _ h => h.cnt fun p => by simp only [List.countP_append, List.countP_cons, List.countP_nil]; omega) hj.oneCell (by omega) (by omega)) ?_
    rintro cv _ ⟨HC, hFC, rfl⟩
    refine ⟨_, .drop (by kernel_rfl) (.keep (by kernel_rfl) rfl (by first | exact QT_loadW 0 rfl rfl Tryd.underlying27 rfl rfl rfl YtjipbndjcefbbaaDoorF.sz_27 | exact QT_loadW 1 rfl rfl Tryd.underlying27 rfl rfl rfl YtjipbndjcefbbaaDoorF.sz_27 | exact QT_loadW 2 rfl rfl Tryd.underlying27 rfl rfl rfl YtjipbndjcefbbaaDoorF.sz_27 | exact QT_loadA 0 rfl rfl Tryd.underlying27 rfl rfl rfl YtjipbndjcefbbaaDoorF.sz_27 (fun _ => rfl) | exact QT_loadA 1 rfl rfl Tryd.underlying27 rfl rfl rfl YtjipbndjcefbbaaDoorF.sz_27 (fun _ => rfl) | exact QT_loadA 2 rfl rfl Tryd.underlying27 rfl rfl rfl YtjipbndjcefbbaaDoorF.sz_27 (fun _ => rfl)) (.nil)), ?_⟩
    refine TV_e rfl rfl rfl rfl (rfl) (ET_call rfl YtjipbndjcefbbaaDoorF.cal_10 rfl (of_spec w0 _ hG hE L _ (0 + n + m) ([] ++ xs ++ ys) (hFC.within fun p => by simp only [List.countP_append, List.countP_cons, List.countP_nil]; omega) (by rw [Nat.zero_add, List.nil_append, rep_add]; exact hi.append hj) (by omega))) ?_
    rintro _ _ ⟨rv, H3, rfl, hF3, rfl⟩
    refine ⟨_, .drop (by kernel_rfl) (.nil), ?_⟩
    refine TV_q rfl rfl rfl (fun _ => QT_move rfl rfl rfl) ?_
    refine TV_q rfl rfl rfl (fun _ => QT_extract rfl rfl rfl rfl) ?_
    refine TV_q rfl rfl rfl (fun _ => QT_extract rfl rfl rfl rfl) ?_
    refine TV_q rfl rfl rfl (fun _ => QT_assign rfl rfl rfl) ?_
    refine TV_q rfl rfl rfl (fun _ => QT_assign rfl rfl rfl) ?_
    refine TV_end ?_
    refine TX_then ?_
    refine TC_seq ?_
    refine TC_seq ?_
    rw [Nat.zero_add, List.nil_append]
    rw [Nat.zero_add, List.nil_append] at hF3
    refine TC_A (St w0 ((b4, 67, [.slice ad n cap, .slice ad2 m cap2]) :: (b3, 27, L.val.cells.toList) :: (H1 ++ (H2 ++ (H3 ++ η))))) (fun _ h => h.cnt fun p => by simp only [List.countP_append, List.countP_cons, List.countP_nil]; omega) ?_
    refine TC_reg ?_
    refine TL_q rfl rfl (QT_move rfl rfl rfl) ?_
    refine TL_q rfl rfl (QT_neq rfl rfl rfl rfl) ?_
    refine TL_nil ?_
    refine TX_then ?_
    first
      | refine TC_cond_dec rfl (fun h53 => ?_) (fun h53 => ?_)
      | refine TC_cond rfl (fun h53 => ?_) (fun h53 => ?_)
    ·
      refine TC_seq ?_
      refine TC_reg ?_
      refine TL_q rfl rfl (QT_move rfl rfl rfl) ?_
      refine TL_q rfl rfl (QT_neq rfl rfl rfl rfl) ?_
      refine TL_q rfl rfl (QT_move rfl rfl rfl) ?_
      refine TL_q rfl rfl (QT_move rfl rfl rfl) ?_
      refine TL_q rfl rfl (QT_move rfl rfl rfl) ?_
      refine TL_q rfl rfl (QT_eql rfl rfl rfl rfl) ?_
      refine TL_q rfl rfl (QT_or rfl rfl rfl rfl) ?_
      refine TL_q rfl rfl (QT_move rfl rfl rfl) ?_
      refine TL_cq rfl rfl rfl rfl YtjipbndjcefbbaaDoorF.cal_8 rfl (fun _ => lives12 w0 _ hG hE) ?_
      refine TL_q rfl rfl (QT_and rfl rfl rfl rfl) ?_
      refine TL_q rfl rfl (QT_assign rfl rfl rfl) ?_
      refine TL_nil ?_
      refine TX_then ?_
      refine TC_ret ?_
      refine TX_then_ret ?_
      have h1 : (decide (errT L n xs ≠ 4) || decide (errT L m ys = errT L n xs)) = true := by
        by_cases h4 : errT L n xs = 4
        · rw [h4, err4_same (m := m) (ys := ys) h4]; rfl
        · simp [h4]
      exact TX_ret (.inl rfl) (res1 rfl rfl) ⟨_, ⟨by rw [h1]; rfl, rfl⟩, fun _ h => h.cnt fun p => by simp only [List.countP_append, List.countP_cons]; omega⟩
    ·
      refine TC_skip ?_
      refine TX_then ?_
      refine TC_seq ?_
      refine TC_reg ?_
      refine TL_q rfl rfl (QT_move rfl rfl rfl) ?_
      refine TL_q rfl rfl (QT_convN rfl rfl Tryd.underlying5 Tryd.underlying3 rfl (show IntKind.i64.wrap (q : Int) = (q : Int) from wrap_i64 ⟨by omega, by omega⟩)) ?_
      refine TL_q rfl rfl (QT_indexArr (0) rfl rfl Tryd.underlying67 YtjipbndjcefbbaaDoorF.sz_28 rfl rfl (rfl) (fun _ => by decide)) ?_
      first
        | refine TL_q rfl rfl (QT_load 0 rfl rfl Tryd.underlying28 rfl rfl rfl (fun _ => rfl)) ?_
        | refine TL_q rfl rfl (QT_load 1 rfl rfl Tryd.underlying28 rfl rfl rfl (fun _ => rfl)) ?_
        | refine TL_q rfl rfl (QT_load 2 rfl rfl Tryd.underlying28 rfl rfl rfl (fun _ => rfl)) ?_
      refine TL_q rfl rfl (QT_len rfl rfl Tryd.underlying28 rfl) ?_
      refine TL_q rfl rfl (QT_add rfl rfl rfl rfl (fun _ => ⟨by omega, by omega⟩)) ?_
      refine TL_q rfl rfl (QT_rem rfl rfl rfl rfl (fun _ => ⟨by omega, by omega⟩)) ?_
      refine TL_q rfl rfl (QT_assign rfl rfl rfl) ?_
      refine TL_nil ?_
      refine TX_then ?_
      refine TC_seq ?_
      have e0 : errT L n xs = 0 := Classical.byContradiction h53
      obtain ⟨k, hk, hkn⟩ : ∃ k : Nat, (q : Int) % ((n : Int) + 1) = (k : Int) ∧ k ≤ n := ⟨q % (n + 1), by simp, Nat.lt_succ_iff.1 (Nat.mod_lt _ (Nat.succ_pos _))⟩
      rw [hk]
      obtain ⟨hok, hty, hz, hbf⟩ := errT_zero e0
      have hcn : cntT L n xs = n := by unfold cntT; rw [if_pos e0]
      have hot : outT L n xs = tilesC (ptsT L) xs n := by unfold outT; rw [if_pos e0]
      rw [hcn, hot] at hF1
      obtain ⟨pad, pcap, rfl, hpc, _⟩ := hF1.slice
      have hti : ∀ j, j ≤ n → Ints patchK (tileB (ptsT L) xs j) := fun j hj => tileB_ints hi (ptsT_or L) hbf j hj
      have htl : ∀ j, j ≤ n → (tileB (ptsT L) xs j).length = 48 := fun j hj => (hti j hj).length
      have hek := err_take (k := k) e0 hkn
      have hki := tilesC_ints hi (ptsT_or L) hbf k hkn
      have hot2 : outT L k (xs.take (k * 49)) = tilesC (ptsT L) xs k := by
        unfold outT; rw [if_pos hek]
        exact tilesC_same (fun i hi => elem_take xs hi) k (Nat.le_refl _)
      have hcn2 : cntT L k (xs.take (k * 49)) = k := by unfold cntT; rw [if_pos hek]
      refine TC_draw [(0, 0), (1, 0), (2, 0), (3, 0), (4, 0), (5, 1), (6, 0), (7, 0), (8, 0), (9, 0), (10, 0)] YtjipbndjcefbbaaDoorF.mixed (by kernel_rfl) (St.calm _ _) ?_
      first
        | refine TV_ql rfl rfl rfl (QT_loadW 0 rfl rfl Tryd.underlying27 rfl rfl rfl YtjipbndjcefbbaaDoorF.sz_27) ?_
        | refine TV_ql rfl rfl rfl (QT_loadW 1 rfl rfl Tryd.underlying27 rfl rfl rfl YtjipbndjcefbbaaDoorF.sz_27) ?_
        | refine TV_ql rfl rfl rfl (QT_loadW 2 rfl rfl Tryd.underlying27 rfl rfl rfl YtjipbndjcefbbaaDoorF.sz_27) ?_
        | refine TV_ql rfl rfl rfl (QT_loadA 0 rfl rfl Tryd.underlying27 rfl rfl rfl YtjipbndjcefbbaaDoorF.sz_27 (fun _ => rfl)) ?_
        | refine TV_ql rfl rfl rfl (QT_loadA 1 rfl rfl Tryd.underlying27 rfl rfl rfl YtjipbndjcefbbaaDoorF.sz_27 (fun _ => rfl)) ?_
        | refine TV_ql rfl rfl rfl (QT_loadA 2 rfl rfl Tryd.underlying27 rfl rfl rfl YtjipbndjcefbbaaDoorF.sz_27 (fun _ => rfl)) ?_
      refine TV_q rfl rfl rfl (fun _ => QT_indexArr (0) rfl rfl Tryd.underlying67 YtjipbndjcefbbaaDoorF.sz_28 rfl rfl (rfl) (fun _ => by decide)) ?_
      refine TV_ql rfl rfl rfl (QT_loadRj (cs := [.slice ad n cap, .slice ad2 m cap2]) 0 rfl rfl Tryd.underlying28 rfl (Rd.ownA (T := 67) (cs := [.slice ad n cap, .slice ad2 m cap2]) (by simp) 0 (by simp)) rfl (fun _ => rfl)) ?_
      refine TV_q rfl rfl rfl (fun _ => QT_move rfl rfl rfl) ?_
      refine TV_q rfl rfl rfl (fun _ => QT_slcH (k) rfl rfl rfl rfl Tryd.underlying28 YtjipbndjcefbbaaDoorF.sz_64 rfl rfl rfl (fun _ => by omega)) ?_
      refine TV_e rfl rfl rfl rfl (rfl) (ET_call rfl YtjipbndjcefbbaaDoorF.cal_10 rfl (of_spec w0 _ hG hE L _ k (xs.take (k * 49)) ((hs0.mono fun _ h => h.cnt fun p => by simp only [List.countP_append, List.countP_cons]; omega).front hkn) (ints_take hi hkn) (by omega))) ?_
      rintro _ _ ⟨dv, H4, rfl, hF4, rfl⟩
      refine ⟨_, .keep (by kernel_rfl) rfl (by first | exact QT_loadRj (cs := [.slice ad n cap, .slice ad2 m cap2]) 0 rfl rfl Tryd.underlying28 rfl (Rd.ownA (T := 67) (cs := [.slice ad n cap, .slice ad2 m cap2]) (by simp) 0 (by simp)) rfl (fun _ => rfl)) (.drop (by kernel_rfl) (.nil)), ?_⟩
      refine TV_q rfl rfl rfl (fun _ => QT_move rfl rfl rfl) ?_
      refine TV_q rfl rfl rfl (fun _ => QT_extract rfl rfl rfl rfl) ?_
      refine TV_q rfl rfl rfl (fun _ => QT_extract rfl rfl rfl rfl) ?_
      refine TV_q rfl rfl rfl (fun _ => QT_assign rfl rfl rfl) ?_
      refine TV_q rfl rfl rfl (fun _ => QT_assign rfl rfl rfl) ?_
      refine TV_end ?_
      refine TX_then ?_
      refine TC_seq ?_
      refine TC_seq ?_
      rw [hek]
      rw [hot2, hcn2] at hF4
      refine TC_A (St w0 ((b4, 67, [.slice ad n cap, .slice ad2 m cap2]) :: (b3, 27, L.val.cells.toList) :: (H1 ++ (H2 ++ (H3 ++ (H4 ++ η)))))) (fun _ h => h.cnt fun p => by simp only [List.countP_append, List.countP_cons, List.countP_nil]; omega) ?_
      have hP : ∀ {η' : Heap}, (∀ p : Blk → Bool, H1.countP p ≤ η'.countP p) → SlA (St w0 η') (.slice pad n pcap) 48 n (tilesC (ptsT L) xs n) := fun h => hF1.within h
      have hPk : ∀ {η' : Heap}, (∀ p : Blk → Bool, H1.countP p ≤ η'.countP p) → SlA (St w0 η') (.slice pad k pcap) 48 k (tilesC (ptsT L) xs k) := fun h => by
        have := (hP h).front hkn
        rwa [take_tiles htl hkn] at this
      refine TC_reg ?_
      refine TL_q rfl rfl (QT_move rfl rfl rfl) ?_
      refine TL_q rfl rfl (QT_neq rfl rfl rfl rfl) ?_
      refine TL_q rfl rfl (QT_move rfl rfl rfl) ?_
      refine TL_q rfl rfl (QT_move rfl rfl rfl) ?_
      refine TL_q rfl rfl (QT_len rfl rfl Tryd.underlying31 rfl) ?_
      refine TL_q rfl rfl (QT_indexArr (0) rfl rfl Tryd.underlying67 YtjipbndjcefbbaaDoorF.sz_28 rfl rfl (rfl) (fun _ => by decide)) ?_
      first
        | refine TL_q rfl rfl (QT_load 0 rfl rfl Tryd.underlying28 rfl rfl rfl (fun _ => rfl)) ?_
        | refine TL_q rfl rfl (QT_load 1 rfl rfl Tryd.underlying28 rfl rfl rfl (fun _ => rfl)) ?_
        | refine TL_q rfl rfl (QT_load 2 rfl rfl Tryd.underlying28 rfl rfl rfl (fun _ => rfl)) ?_
      refine TL_q rfl rfl (QT_len rfl rfl Tryd.underlying28 rfl) ?_
      refine TL_q rfl rfl (QT_neq rfl rfl rfl rfl) ?_
      refine TL_q rfl rfl (QT_or rfl rfl rfl rfl) ?_
      refine TL_q rfl rfl (QT_move rfl rfl rfl) ?_
      refine TL_q rfl rfl (QT_move rfl rfl rfl) ?_
      refine TL_q rfl rfl (QT_move rfl rfl rfl) ?_
      refine TL_q rfl rfl (QT_move rfl rfl rfl) ?_
      refine TL_q rfl rfl (QT_slcH (k) rfl rfl rfl rfl Tryd.underlying31 YtjipbndjcefbbaaDoorF.sz_66 rfl rfl rfl (fun _ => by omega)) ?_
      refine TL_cq rfl rfl rfl rfl YtjipbndjcefbbaaDoorF.cal_14 rfl (fun _ => sameOk_Tiles w0 _ dv (.slice pad k pcap) k (tilesC (ptsT L) xs k) (hF4.within fun p => by simp only [List.countP_append, List.countP_cons]; omega) (hPk fun p => by simp only [List.countP_append, List.countP_cons]; omega) hki) ?_
      refine TL_q rfl rfl (QT_not rfl rfl rfl) ?_
      refine TL_q rfl rfl (QT_or rfl rfl rfl rfl) ?_
      refine TL_nil ?_
      refine TX_then ?_
      refine TC_cond rfl (fun h => absurd (h.symm.trans ((show (_ : Bool) = false by simp))) (by decide)) (fun _ => ?_)
      refine TC_skip ?_
      refine TX_then ?_
      refine TC_seq ?_
      refine TC_seq ?_
      refine TC_reg ?_
      refine TL_q rfl rfl (QT_move rfl rfl rfl) ?_
      refine TL_q rfl rfl (QT_neq rfl rfl rfl rfl) ?_
      refine TL_nil ?_
      refine TX_then ?_
      first
        | refine TC_cond_dec rfl (fun h99 => ?_) (fun h99 => ?_)
        | refine TC_cond rfl (fun h99 => ?_) (fun h99 => ?_)
      ·
        refine TC_seq ?_
        refine TC_reg ?_
        refine TL_cq rfl rfl rfl rfl YtjipbndjcefbbaaDoorF.cal_8 rfl (fun _ => lives12 w0 _ hG hE) ?_
        refine TL_q rfl rfl (QT_assign rfl rfl rfl) ?_
        refine TL_nil ?_
        refine TX_then ?_
        refine TC_ret ?_
        refine TX_then_ret ?_
        exact TX_ret (.inl rfl) (res1 rfl rfl) ⟨_, ⟨rfl, rfl⟩, fun _ h => h.cnt fun p => by simp only [List.countP_append, List.countP_cons]; omega⟩
      ·
        refine TC_skip ?_
        refine TX_then ?_
        refine TC_seq ?_
        have f0 : errT L m ys = 0 := Classical.byContradiction h99
        have g0 := err_app hl e0 f0
        obtain ⟨_, _, hz2, hbf2⟩ := errT_zero f0
        have hcm : cntT L m ys = m := by unfold cntT; rw [if_pos f0]
        have hom : outT L m ys = tilesC (ptsT L) ys m := by unfold outT; rw [if_pos f0]
        rw [hcm, hom] at hF2
        have hcc : cntT L (n + m) (xs ++ ys) = n + m := by unfold cntT; rw [if_pos g0]
        have hoc : outT L (n + m) (xs ++ ys) = tilesC (ptsT L) xs n ++ tilesC (ptsT L) ys m := by unfold outT; rw [if_pos g0]; exact tilesC_app hl hz2 m (Nat.le_refl _)
        rw [hcc, hoc] at hF3
        rw [g0]
        obtain ⟨qad, qcap, rfl, hqc, _⟩ := hF2.slice
        obtain ⟨rad, rcap, rfl, hrc, _⟩ := hF3.slice
        have hln : (tilesC (ptsT L) xs n).length = n * 48 := take_len htl n (Nat.le_refl _)
        have hni := tilesC_ints hi (ptsT_or L) hbf n (Nat.le_refl _)
        have hmi := tilesC_ints hj (ptsT_or L) hbf2 m (Nat.le_refl _)
        have hQ : ∀ {η' : Heap}, (∀ p : Blk → Bool, H3.countP p ≤ η'.countP p) → SlA (St w0 η') (.slice rad (n + m) rcap) 48 (n + m) (tilesC (ptsT L) xs n ++ tilesC (ptsT L) ys m) := fun h => hF3.within h
        have hQ1 : ∀ {η' : Heap}, (∀ p : Blk → Bool, H3.countP p ≤ η'.countP p) → SlA (St w0 η') (.slice rad n rcap) 48 n (tilesC (ptsT L) xs n) := fun h => by
          have := (hQ h).front (k := n) (by omega)
          rwa [← hln, List.take_left] at this
        have hQ2 : ∀ {η' : Heap}, (∀ p : Blk → Bool, H3.countP p ≤ η'.countP p) → SlA (St w0 η') (.slice (if rcap = n then rad else rad.map (·.add (n * 48))) (n + m - n) (rcap - n)) 48 m (tilesC (ptsT L) ys m) := fun h => by
          have := (hQ h).back (k := n) (by omega)
          rw [show n + m - n = m by omega] at this ⊢
          have e : (tilesC (ptsT L) xs n ++ tilesC (ptsT L) ys m).drop (n * 48) = tilesC (ptsT L) ys m := by rw [← hln, List.drop_left]
          rwa [e] at this
        refine TC_reg ?_
        refine TL_q rfl rfl (QT_move rfl rfl rfl) ?_
        refine TL_q rfl rfl (QT_eql rfl rfl rfl rfl) ?_
        refine TL_q rfl rfl (QT_move rfl rfl rfl) ?_
        refine TL_q rfl rfl (QT_move rfl rfl rfl) ?_
        refine TL_q rfl rfl (QT_len rfl rfl Tryd.underlying31 rfl) ?_
        refine TL_q rfl rfl (QT_move rfl rfl rfl) ?_
        refine TL_q rfl rfl (QT_len rfl rfl Tryd.underlying31 rfl) ?_
        refine TL_q rfl rfl (QT_move rfl rfl rfl) ?_
        refine TL_q rfl rfl (QT_len rfl rfl Tryd.underlying31 rfl) ?_
        refine TL_q rfl rfl (QT_add rfl rfl rfl rfl (fun _ => ⟨by omega, by omega⟩)) ?_
        refine TL_q rfl rfl (QT_eql rfl rfl rfl rfl) ?_
        refine TL_q rfl rfl (QT_and rfl rfl rfl rfl) ?_
        refine TL_q rfl rfl (QT_move rfl rfl rfl) ?_
        refine TL_q rfl rfl (QT_move rfl rfl rfl) ?_
        refine TL_q rfl rfl (QT_move rfl rfl rfl) ?_
        refine TL_q rfl rfl (QT_len rfl rfl Tryd.underlying31 rfl) ?_
        refine TL_q rfl rfl (QT_slcH (n) rfl rfl rfl rfl Tryd.underlying31 YtjipbndjcefbbaaDoorF.sz_66 rfl rfl rfl (fun _ => by omega)) ?_
        refine TL_q rfl rfl (QT_move rfl rfl rfl) ?_
        refine TL_cq rfl rfl rfl rfl YtjipbndjcefbbaaDoorF.cal_14 rfl (fun _ => sameOk_Tiles w0 _ (.slice rad n rcap) (.slice pad n pcap) n (tilesC (ptsT L) xs n) (hQ1 fun p => by simp only [List.countP_append, List.countP_cons]; omega) (hP fun p => by simp only [List.countP_append, List.countP_cons]; omega) hni) ?_
        refine TL_q rfl rfl (QT_and rfl rfl rfl rfl) ?_
        refine TL_q rfl rfl (QT_move rfl rfl rfl) ?_
        refine TL_q rfl rfl (QT_move rfl rfl rfl) ?_
        refine TL_q rfl rfl (QT_move rfl rfl rfl) ?_
        refine TL_q rfl rfl (QT_len rfl rfl Tryd.underlying31 rfl) ?_
        refine TL_q rfl rfl (QT_slcL (n) rfl rfl rfl rfl Tryd.underlying31 YtjipbndjcefbbaaDoorF.sz_66 rfl rfl rfl (fun _ => by omega)) ?_
        refine TL_q rfl rfl (QT_move rfl rfl rfl) ?_
        refine TL_cq rfl rfl rfl rfl YtjipbndjcefbbaaDoorF.cal_14 rfl (fun _ => sameOk_Tiles w0 _ (.slice (if rcap = n then rad else rad.map (·.add (n * 48))) (n + m - n) (rcap - n)) (.slice qad m qcap) m (tilesC (ptsT L) ys m) (hQ2 fun p => by simp only [List.countP_append, List.countP_cons]; omega) (hF2.within fun p => by simp only [List.countP_append, List.countP_cons]; omega) hmi) ?_
        refine TL_q rfl rfl (QT_and rfl rfl rfl rfl) ?_
        refine TL_q rfl rfl (QT_move rfl rfl rfl) ?_
        refine TL_cq rfl rfl rfl rfl YtjipbndjcefbbaaDoorF.cal_8 rfl (fun _ => lives12 w0 _ hG hE) ?_
        refine TL_q rfl rfl (QT_and rfl rfl rfl rfl) ?_
        refine TL_q rfl rfl (QT_assign rfl rfl rfl) ?_
        refine TL_nil ?_
        refine TX_then ?_
        refine TC_ret ?_
        exact TX_ret (.inl rfl) (res1 rfl rfl) ⟨_, ⟨by simp, rfl⟩, fun _ h => h.cnt fun p => by simp only [List.countP_append, List.countP_cons]; omega⟩
end Go.Proofs.YtjipbndjcefbbaaDoor

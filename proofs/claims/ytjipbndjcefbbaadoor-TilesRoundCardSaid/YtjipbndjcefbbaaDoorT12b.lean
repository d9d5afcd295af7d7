/- THE PATCHES OF SHEETS: what the program's own function answers. -/
import Derived.Test.YtjipbndjcefbbaaDoorT12a
namespace Go.Proofs.YtjipbndjcefbbaaDoor
open Go Go.Gx Go.RowKit
set_option maxRecDepth 100000

/-- the i-th sheet's flag -/
def flg (xs : List Value) (i : Nat) : Nat := match xs[i * 49]? with
  | some (.int _ z) => z.toNat
  | _ => 0
theorem flg_spec {n i : Nat} {xs : List Value} (h : Ints (rep n sheetK) xs) (hi : i < n) : xs[i * 49]? = some (.int .u8 (flg xs i : Int)) ∧ (elem xs 49 i)[0]? = some (.int .u8 (flg xs i : Int)) ∧ flg xs i ≤ 255 := by
  have he : Ints sheetK (elem xs 49 i) := h.elem hi
  obtain ⟨z, cs', e, hw, _⟩ := (show Ints (.u8 :: sheetK.tail) (elem xs 49 i) from he).inv
  have h0 : (elem xs 49 i)[0]? = xs[i * 49]? := by
    unfold elem
    rw [List.getElem?_take_of_lt (by decide), List.getElem?_drop, Nat.add_zero]
  have hz := wf_u8 hw
  have h1 : xs[i * 49]? = some (.int .u8 z) := by rw [← h0, e]; rfl
  have hf : flg xs i = z.toNat := by unfold flg; rw [h1]
  have hz2 : (flg xs i : Int) = z := by rw [hf]; omega
  rw [h0, h1, hz2]
  exact ⟨rfl, rfl, by omega⟩
def bigB (xs : List Value) (n : Nat) : Bool := (List.range n).any fun i => decide (4 ≤ flg xs i)
theorem bigB_false {xs : List Value} {n : Nat} (h : bigB xs n = false) : ∀ i, i < n → flg xs i ≤ 3 := by
  intro i hi
  simp only [bigB, List.any_eq_false, List.mem_range, decide_eq_true_eq] at h
  have := h i hi
  omega
theorem bigB_intro {xs : List Value} {n i : Nat} (hi : i < n) (h : 4 ≤ flg xs i) : bigB xs n = true := by
  simp only [bigB, List.any_eq_true, List.mem_range, decide_eq_true_eq]
  exact ⟨i, hi, h⟩
theorem bigB_none {xs : List Value} {n : Nat} (h : ∀ i, i < n → flg xs i ≤ 3) : bigB xs n = false := by
  simp only [bigB, List.any_eq_false, List.mem_range, decide_eq_true_eq]
  intro i hi
  have := h i hi
  omega
def ptsT (L : Lay) : Nat := if L.ty = 7 then 16 else 12
theorem ptsT_or (L : Lay) : ptsT L = 12 ∨ ptsT L = 16 := by unfold ptsT; split <;> simp
/-- the patch ahead of the i-th sheet -/
def tileB (pts : Nat) (xs : List Value) : Nat → List Value
  | 0 => zP
  | i + 1 => wholeC pts (flg xs i) (elem xs 49 i) (tileB pts xs i)
def tilesC (pts : Nat) (xs : List Value) : Nat → List Value
  | 0 => []
  | i + 1 => tilesC pts xs i ++ tileB pts xs (i + 1)
theorem tileB_ints {pts n : Nat} {xs : List Value} (hx : Ints (rep n sheetK) xs) (hp : pts = 12 ∨ pts = 16) (hb : ∀ i, i < n → flg xs i ≤ 3) : ∀ i, i ≤ n → Ints patchK (tileB pts xs i)
  | 0, _ => zP_ints
  | i + 1, h => whole_ints (hx.elem (by omega)) (tileB_ints hx hp hb i (by omega)) hp (hb i (by omega))
theorem rep_succR (n : Nat) (ks : List IntKind) : rep (n + 1) ks = rep n ks ++ ks := by rw [rep_add]; simp [rep]
theorem tilesC_ints {pts n : Nat} {xs : List Value} (hx : Ints (rep n sheetK) xs) (hp : pts = 12 ∨ pts = 16) (hb : ∀ i, i < n → flg xs i ≤ 3) : ∀ i, i ≤ n → Ints (rep i patchK) (tilesC pts xs i)
  | 0, _ => by show Ints (rep 0 patchK) []; simpa [rep] using Ints.nil
  | i + 1, h => by
    rw [rep_succR]
    exact (tilesC_ints hx hp hb i (by omega)).append (tileB_ints hx hp hb (i + 1) h)
def errT (L : Lay) (n : Nat) (xs : List Value) : Int :=
  if okB L = true ∧ 6 ≤ L.ty then (if 0 < n ∧ flg xs 0 ≠ 0 then 6 else if bigB xs n = true then 7 else 0) else 4
def cntT (L : Lay) (n : Nat) (xs : List Value) : Nat := if errT L n xs = 0 then n else 0
def outT (L : Lay) (n : Nat) (xs : List Value) : List Value := if errT L n xs = 0 then tilesC (ptsT L) xs n else []
theorem errT_zero {L : Lay} {n : Nat} {xs : List Value} (h : errT L n xs = 0) : okB L = true ∧ (L.ty = 6 ∨ L.ty = 7) ∧ (0 < n → flg xs 0 = 0) ∧ ∀ i, i < n → flg xs i ≤ 3 := by
  unfold errT at h
  split at h
  · rename_i h1
    split at h
    · cases h
    · rename_i h2
      split at h
      · cases h
      · rename_i h3
        obtain ⟨_, _, _, hty, _⟩ := okB_bounds h1.1
        exact ⟨h1.1, by omega, fun h0 => Classical.byContradiction fun hne => h2 ⟨h0, hne⟩, bigB_false (by simpa using h3)⟩
  · cases h
theorem outT_ints {L : Lay} {n : Nat} {xs : List Value} (hx : Ints (rep n sheetK) xs) : Ints (rep (cntT L n xs) patchK) (outT L n xs) := by
  unfold cntT outT
  by_cases h : errT L n xs = 0
  · rw [if_pos h, if_pos h]
    exact tilesC_ints hx (ptsT_or L) (errT_zero h).2.2.2 n (Nat.le_refl _)
  · rw [if_neg h, if_neg h]; simpa [rep] using Ints.nil

theorem big_spec (w0 : World) (η : Heap) (s : List Value) (f : Nat) (hf : s[0]? = some (.int .u8 (f : Int))) (h2 : f ≤ 255) :
    CallsT Tryd.prog 22 [.agg s.toArray] (St w0 η) fun v A' => v = .bool (decide (4 ≤ f)) ∧ A' = St w0 η := by
  have hw : IntKind.i64.wrap (f : Int) = (f : Int) := wrap_i64 ⟨by omega, by omega⟩
  refine CallsT.body Tryd.func22 rfl rfl ?_
  simp only [Tryd.ntmps22, slotsOf, Nat.reduceAdd]
  refine TC_seq ?_
  refine TC_reg ?_
  refine TL_e rfl rfl rfl (rfl) (ET_box rfl rfl) ?_
  rintro _ _ ⟨b1, rfl, rfl⟩
  refine TL_q rfl rfl (QT_assign rfl rfl rfl) ?_
  refine TL_nil ?_
  refine TX_then ?_
  refine TC_seq ?_
  refine TC_reg ?_
  refine TL_q rfl rfl (QT_field rfl rfl YtjipbndjcefbbaaDoorF.fld_64_0 rfl) ?_
  refine TL_q rfl rfl (QT_load 0 rfl rfl Tryd.underlying5 rfl rfl rfl (fun _ => hf)) ?_
  refine TL_q rfl rfl (QT_conv rfl rfl Tryd.underlying5 Tryd.underlying3 rfl) ?_
  refine TL_q rfl rfl (QT_geq rfl rfl rfl rfl) ?_
  refine TL_q rfl rfl (QT_assign rfl rfl rfl) ?_
  refine TL_nil ?_
  refine TX_then ?_
  refine TC_ret ?_
  exact TX_ret (.inl rfl) (res1 rfl rfl) ⟨_, ⟨by rw [hw]; congr 1; rw [Bool.eq_iff_iff]; simp; omega, rfl⟩, (fun _ h => by first | exact h | exact h.tail | exact h.tail.tail | exact h.tail.tail.tail | exact h.tail.tail.tail.tail | exact h.tail.tail.tail.tail.tail | exact h.tail.tail.tail.tail.tail.tail | exact h.tail.tail.tail.tail.tail.tail.tail | exact h.tail.tail.tail.tail.tail.tail.tail.tail | exact h.tail.tail.tail.tail.tail.tail.tail.tail.tail | exact h.tail.tail.tail.tail.tail.tail.tail.tail.tail.tail | exact h.tail.tail.tail.tail.tail.tail.tail.tail.tail.tail.tail | exact h.tail.tail.tail.tail.tail.tail.tail.tail.tail.tail.tail.tail | exact h.tail.tail.tail.tail.tail.tail.tail.tail.tail.tail.tail.tail.tail)⟩

theorem index_spec (w0 : World) (η : Heap) (sv : Value) (n : Nat) (xs : List Value) (hs : SlA (St w0 η) sv 49 n xs) (hi : Ints (rep n sheetK) xs) :
    CallsT Tryd.prog 70 [sv, .func (.func 22) #[] #[]] (St w0 η) fun v A' => (∃ r : Int, v = .int .i64 r ∧ decide (0 ≤ r) = bigB xs n) ∧ A' = St w0 η := by
  obtain ⟨hl, ad, cap, b, off, rfl, hcap, had, hrd⟩ := hs.some
  refine CallsT.body Tryd.func70 rfl rfl ?_
  simp only [Tryd.ntmps70, slotsOf, Nat.reduceAdd]
  refine TC_seq ?_
  refine TC_reg ?_
  refine TL_q rfl rfl (QT_assign rfl rfl rfl) ?_
  refine TL_nil ?_
  refine TX_then ?_
  refine TC_seq ?_
  refine TC_seq ?_
  refine TC_reg ?_
  refine TL_q rfl rfl (QT_move rfl rfl rfl) ?_
  refine TL_q rfl rfl (QT_len rfl rfl Tryd.underlying28 rfl) ?_
  refine TL_q rfl rfl (QT_move rfl rfl rfl) ?_
  refine TL_nil ?_
  refine TX_then ?_
  refine TC_block ?_
  refine TC_loop (γ := { i : Nat // i ≤ n ∧ ∀ j, j < i → flg xs j ≤ 3 }) (fun t => [(0, true, .slice ad n cap), (1, true, .func (.func 22) #[] #[]), (7, true, .int .i64 (n : Int)), (8, true, .int .i64 (t.1 : Int))]) (fun _ => St w0 η) (fun t => n - t.1) ⟨0, by omega, fun j h => by omega⟩ ⟨rfl, rfl, rfl, rfl, trivial⟩ (fun _ h => h) ?_
  rintro ⟨i, hin, hx⟩
  dsimp only
  refine TC_seq ?_
  refine TC_reg ?_
  refine TL_q rfl rfl (QT_lss rfl rfl rfl rfl) ?_
  refine TL_nil ?_
  refine TX_then ?_
  refine TC_seq ?_
  first
    | refine TC_cond_dec rfl (fun h9 => ?_) (fun h9 => ?_)
    | refine TC_cond rfl (fun h9 => ?_) (fun h9 => ?_)
  ·
    have hi' : i < n := by omega
    obtain ⟨hf1, hf2, hf3⟩ := flg_spec hi hi'
    obtain rfl := had (by omega)
    have hle : i * 49 + 49 ≤ xs.length := by rw [hl]; have : (i + 1) * 49 ≤ n * 49 := Nat.mul_le_mul_right _ hi'; omega
    refine TC_skip ?_
    refine TX_then ?_
    refine TC_seq ?_
    refine TC_block ?_
    refine TC_seq ?_
    refine TC_reg ?_
    refine TL_q rfl rfl (QT_move rfl rfl rfl) ?_
    refine TL_q rfl rfl (QT_assign rfl rfl rfl) ?_
    refine TL_nil ?_
    refine TX_then ?_
    refine TC_seq ?_
    refine TC_reg ?_
    refine TL_q rfl rfl (QT_move rfl rfl rfl) ?_
    refine TL_q rfl rfl (QT_move rfl rfl rfl) ?_
    refine TL_q rfl rfl (QT_move rfl rfl rfl) ?_
    refine TL_q rfl rfl (QT_indexSlice (i) rfl rfl Tryd.underlying28 YtjipbndjcefbbaaDoorF.sz_64 rfl rfl (rfl) (fun _ => hi')) ?_
    refine TL_q rfl rfl (QT_loadRAj (i * 49) rfl rfl Tryd.underlying64 rfl YtjipbndjcefbbaaDoorF.sz_64 hrd rfl (fun _ => hle) (fun _ => rfl)) ?_
    refine TL_e rfl rfl rfl (rfl) (ET_callV rfl rfl YtjipbndjcefbbaaDoorF.cal_22 rfl (big_spec w0 _ (elem xs 49 i) (flg xs i) hf2 hf3)) ?_
    rintro _ _ ⟨rfl, rfl⟩
    refine TL_nil ?_
    refine TX_then ?_
    first
      | refine TC_cond_dec rfl (fun h16 => ?_) (fun h16 => ?_)
      | refine TC_cond rfl (fun h16 => ?_) (fun h16 => ?_)
    ·
      refine TC_seq ?_
      refine TC_reg ?_
      refine TL_q rfl rfl (QT_move rfl rfl rfl) ?_
      refine TL_q rfl rfl (QT_assign rfl rfl rfl) ?_
      refine TL_nil ?_
      refine TX_then ?_
      refine TC_ret ?_
      refine TX_block_ret ?_
      refine TX_then_ret ?_
      refine TX_then_ret ?_
      refine TX_block_ret ?_
      refine TX_then_ret ?_
      exact TX_ret (.inl rfl) (res1 rfl rfl) ⟨_, ⟨⟨(i : Int), rfl, by rw [bigB_intro hi' h16]; simp⟩, rfl⟩, fun _ h => h⟩
    ·
      refine TC_skip ?_
      refine TX_block_normal ?_
      refine TX_then ?_
      refine TC_reg ?_
      refine TL_q rfl rfl (QT_add rfl rfl rfl rfl (fun _ => ⟨by omega, by omega⟩)) ?_
      refine TL_q rfl rfl (QT_move rfl rfl rfl) ?_
      refine TL_nil ?_
      exact TX_round ⟨i + 1, by omega, fun j hj => by
        by_cases h : j < i
        · exact hx j h
        · obtain rfl : j = i := by omega
          omega⟩ (by show n - (i + 1) < n - i; omega) ⟨rfl, rfl, rfl, rfl, trivial⟩ (fun _ h => h)
  ·
    refine TC_exit ?_
    refine TX_then_exit ?_
    refine TX_then_exit ?_
    refine TX_block_here ?_
    refine TX_then ?_
    refine TC_seq ?_
    refine TC_reg ?_
    refine TL_q rfl rfl (QT_assign rfl rfl rfl) ?_
    refine TL_nil ?_
    refine TX_then ?_
    refine TC_ret ?_
    exact TX_ret (.inl rfl) (res1 rfl rfl) ⟨_, ⟨⟨-1, rfl, by rw [bigB_none (fun j hj => hx j (by omega))]; rfl⟩, rfl⟩, fun _ h => h⟩
theorem contains_spec (w0 : World) (η : Heap) (sv : Value) (n : Nat) (xs : List Value) (hs : SlA (St w0 η) sv 49 n xs) (hi : Ints (rep n sheetK) xs) :
    CallsT Tryd.prog 21 [sv, .func (.func 22) #[] #[]] (St w0 η) fun v A' => v = .bool (bigB xs n) ∧ A' = St w0 η := by
  refine CallsT.body Tryd.func21 rfl rfl ?_
  simp only [Tryd.ntmps21, slotsOf, Nat.reduceAdd]
  refine TC_seq ?_
  refine TC_reg ?_
  refine TL_q rfl rfl (QT_assign rfl rfl rfl) ?_
  refine TL_nil ?_
  refine TX_then ?_
  refine TC_seq ?_
  refine TC_reg ?_
  refine TL_q rfl rfl (QT_move rfl rfl rfl) ?_
  refine TL_q rfl rfl (QT_move rfl rfl rfl) ?_
  refine TL_e rfl rfl rfl (rfl) (ET_call rfl YtjipbndjcefbbaaDoorF.cal_70 rfl (index_spec w0 _ sv n xs hs hi)) ?_
  rintro _ _ ⟨⟨r, rfl, hr⟩, rfl⟩
  refine TL_q rfl rfl (QT_geq rfl rfl rfl rfl) ?_
  refine TL_q rfl rfl (QT_assign rfl rfl rfl) ?_
  refine TL_nil ?_
  refine TX_then ?_
  refine TC_ret ?_
  exact TX_ret (.inl rfl) (res1 rfl rfl) ⟨_, ⟨by rw [← hr], rfl⟩, fun _ h => h⟩

theorem clip_spec (w0 : World) (η H : Heap) (v : Value) (n : Nat) (xs : List Value) (hF : Frag 66 48 v n xs H) :
    CallsT Tryd.prog 24 [v] (St w0 (H ++ η)) fun v A' => Frag 66 48 v n xs H ∧ A' = St w0 (H ++ η) := by
  obtain ⟨hl, hF⟩ := hF
  rcases hF with ⟨rfl, rfl, rfl⟩ | ⟨b, cap, rest, rfl, hc, hlen, rfl⟩
  · refine CallsT.body Tryd.func24 rfl rfl ?_
    simp only [Tryd.ntmps24, slotsOf, Nat.reduceAdd]
    refine TC_seq ?_
    refine TC_reg ?_
    refine TL_q rfl rfl (QT_assign rfl rfl rfl) ?_
    refine TL_nil ?_
    refine TX_then ?_
    refine TC_seq ?_
    refine TC_reg ?_
    refine TL_q rfl rfl (QT_move rfl rfl rfl) ?_
    refine TL_q rfl rfl (QT_move rfl rfl rfl) ?_
    refine TL_q rfl rfl (QT_len rfl rfl Tryd.underlying31 rfl) ?_
    refine TL_q rfl rfl (QT_move rfl rfl rfl) ?_
    refine TL_q rfl rfl (QT_len rfl rfl Tryd.underlying31 rfl) ?_
    refine TL_q rfl rfl (QT_slcHM (0) (0) rfl rfl rfl Tryd.underlying31 YtjipbndjcefbbaaDoorF.sz_66 rfl rfl rfl rfl rfl (fun _ => ⟨by omega, by omega⟩)) ?_
    refine TL_q rfl rfl (QT_assign rfl rfl rfl) ?_
    refine TL_nil ?_
    refine TX_then ?_
    refine TC_ret ?_
    exact TX_ret (.inl rfl) (res1 rfl rfl) ⟨_, ⟨⟨hl, .inl ⟨rfl, rfl, rfl⟩⟩, rfl⟩, fun _ h => h⟩
  · refine CallsT.body Tryd.func24 rfl rfl ?_
    simp only [Tryd.ntmps24, slotsOf, Nat.reduceAdd]
    refine TC_seq ?_
    refine TC_reg ?_
    refine TL_q rfl rfl (QT_assign rfl rfl rfl) ?_
    refine TL_nil ?_
    refine TX_then ?_
    refine TC_seq ?_
    refine TC_reg ?_
    refine TL_q rfl rfl (QT_move rfl rfl rfl) ?_
    refine TL_q rfl rfl (QT_move rfl rfl rfl) ?_
    refine TL_q rfl rfl (QT_len rfl rfl Tryd.underlying31 rfl) ?_
    refine TL_q rfl rfl (QT_move rfl rfl rfl) ?_
    refine TL_q rfl rfl (QT_len rfl rfl Tryd.underlying31 rfl) ?_
    refine TL_q rfl rfl (QT_slcHM (n) (n) rfl rfl rfl Tryd.underlying31 YtjipbndjcefbbaaDoorF.sz_66 rfl rfl rfl rfl rfl (fun _ => ⟨by omega, by omega⟩)) ?_
    refine TL_q rfl rfl (QT_assign rfl rfl rfl) ?_
    refine TL_nil ?_
    refine TX_then ?_
    refine TC_ret ?_
    exact TX_ret (.inl rfl) (res1 rfl rfl) ⟨_, ⟨⟨hl, .inr ⟨b, n, rest, rfl, ⟨Nat.le_refl _, by omega⟩, Nat.le_trans (Nat.mul_le_mul_right _ hc.1) hlen, rfl⟩⟩, rfl⟩, fun _ h => h⟩
theorem e4 {L : Lay} {n : Nat} {xs : List Value} (h : (decide (errOf L ≠ 0) || decide (L.ty < 6)) = true) : errT L n xs = 4 := by
  unfold errT
  rw [if_neg]
  rintro ⟨h1, h2⟩
  simp only [errOf, h1, if_true, ne_eq, not_true, decide_false, Bool.false_or, decide_eq_true_eq] at h
  omega
theorem e4' {L : Lay} (h : (decide (errOf L ≠ 0) || decide (L.ty < 6)) = false) : okB L = true ∧ 6 ≤ L.ty := by
  simp only [Bool.or_eq_false_iff, decide_eq_false_iff_not] at h
  refine ⟨Classical.byContradiction fun hn => h.1 ?_, by omega⟩
  unfold errOf; rw [if_neg hn]; decide
theorem e6 {L : Lay} {n : Nat} {xs : List Value} (h1 : okB L = true ∧ 6 ≤ L.ty) (h : (decide ((0 : Int) < (n : Int)) && decide ((flg xs 0 : Int) ≠ 0)) = true) : errT L n xs = 6 := by
  simp only [Bool.and_eq_true, decide_eq_true_eq] at h
  unfold errT
  rw [if_pos h1, if_pos ⟨by omega, by omega⟩]
theorem e6' {n : Nat} {xs : List Value} (h : (decide ((0 : Int) < (n : Int)) && decide ((flg xs 0 : Int) ≠ 0)) = false) : ¬ (0 < n ∧ flg xs 0 ≠ 0) := by
  rintro ⟨a, b⟩
  simp only [Bool.and_eq_false_iff, decide_eq_false_iff_not] at h
  omega
theorem fragErr {L : Lay} {n : Nat} {xs : List Value} {e : Int} (h : errT L n xs = e) (h0 : e ≠ 0) : Frag 66 48 (.slice none 0 0) (cntT L n xs) (outT L n xs) [] := by
  unfold cntT outT
  rw [if_neg (by rw [h]; exact h0), if_neg (by rw [h]; exact h0)]
  exact Frag.nil _ _

theorem of_spec (w0 : World) (η : Heap) (hG : Sets w0) (hE : Edges w0) (L : Lay) (sv : Value) (n : Nat) (xs : List Value) (hs : SlA (St w0 η) sv 49 n xs) (hi : Ints (rep n sheetK) xs) (hn : n * 160 ≤ 140737488355328) :
    CallsT Tryd.prog 10 [L.val, sv] (St w0 η) fun v A' => ∃ pv H, v = .tuple #[pv, .int .i64 (errT L n xs)] ∧ Frag 66 48 pv (cntT L n xs) (outT L n xs) H ∧ A' = St w0 (H ++ η) := by
  obtain ⟨hl, ad, cap, b, off, rfl, hcap, had, hrd⟩ := hs.some
  refine CallsT.body Tryd.func10 rfl rfl ?_
  simp only [Tryd.ntmps10, slotsOf, Nat.reduceAdd]
  refine TC_seq ?_
  refine TC_reg ?_
  refine TL_e rfl rfl rfl (rfl) (ET_box rfl rfl) ?_
  rintro _ _ ⟨b2, rfl, rfl⟩
  refine TL_q rfl rfl (QT_assign rfl rfl rfl) ?_
  refine TL_q rfl rfl (QT_assign rfl rfl rfl) ?_
  refine TL_nil ?_
  refine TX_then ?_
  refine TC_seq ?_
  refine TC_block ?_
  refine TC_seq ?_
  refine TC_reg ?_
  first
    | refine TL_q rfl rfl (QT_loadW 0 rfl rfl Tryd.underlying27 rfl rfl rfl YtjipbndjcefbbaaDoorF.sz_27) ?_
    | refine TL_q rfl rfl (QT_loadW 1 rfl rfl Tryd.underlying27 rfl rfl rfl YtjipbndjcefbbaaDoorF.sz_27) ?_
    | refine TL_q rfl rfl (QT_loadW 2 rfl rfl Tryd.underlying27 rfl rfl rfl YtjipbndjcefbbaaDoorF.sz_27) ?_
    | refine TL_q rfl rfl (QT_loadA 0 rfl rfl Tryd.underlying27 rfl rfl rfl YtjipbndjcefbbaaDoorF.sz_27 (fun _ => rfl)) ?_
    | refine TL_q rfl rfl (QT_loadA 1 rfl rfl Tryd.underlying27 rfl rfl rfl YtjipbndjcefbbaaDoorF.sz_27 (fun _ => rfl)) ?_
    | refine TL_q rfl rfl (QT_loadA 2 rfl rfl Tryd.underlying27 rfl rfl rfl YtjipbndjcefbbaaDoorF.sz_27 (fun _ => rfl)) ?_
  refine TL_cq rfl rfl rfl rfl YtjipbndjcefbbaaDoorF.cal_20 rfl (fun _ => check_spec w0 _ hG L) ?_
  refine TL_q rfl rfl (QT_neq rfl rfl rfl rfl) ?_
  refine TL_q rfl rfl (QT_move rfl rfl rfl) ?_
  refine TL_q rfl rfl (QT_field rfl rfl YtjipbndjcefbbaaDoorF.fld_27_0 rfl) ?_
  first
    | refine TL_q rfl rfl (QT_load 0 rfl rfl Tryd.underlying3 rfl rfl rfl (fun _ => rfl)) ?_
    | refine TL_q rfl rfl (QT_load 1 rfl rfl Tryd.underlying3 rfl rfl rfl (fun _ => rfl)) ?_
    | refine TL_q rfl rfl (QT_load 2 rfl rfl Tryd.underlying3 rfl rfl rfl (fun _ => rfl)) ?_
  refine TL_q rfl rfl (QT_lss rfl rfl rfl rfl) ?_
  refine TL_q rfl rfl (QT_or rfl rfl rfl rfl) ?_
  refine TL_q rfl rfl (QT_assign rfl rfl rfl) ?_
  refine TL_nil ?_
  refine TX_then ?_
  first
    | refine TC_cond_dec rfl (fun h11 => ?_) (fun h11 => ?_)
    | refine TC_cond rfl (fun h11 => ?_) (fun h11 => ?_)
  ·
    refine TC_seq ?_
    refine TC_reg ?_
    refine TL_q rfl rfl (QT_assign rfl rfl rfl) ?_
    refine TL_q rfl rfl (QT_assign rfl rfl rfl) ?_
    refine TL_nil ?_
    refine TX_then ?_
    refine TC_ret ?_
    refine TX_block_ret ?_
    refine TX_then_ret ?_
    exact TX_ret (.inl rfl) (res2 rfl rfl rfl) ⟨_, ⟨_, [], by rw [e4 h11], fragErr (e4 h11) (by decide), rfl⟩, (fun _ h => by first | exact h | exact h.tail | exact h.tail.tail | exact h.tail.tail.tail | exact h.tail.tail.tail.tail | exact h.tail.tail.tail.tail.tail | exact h.tail.tail.tail.tail.tail.tail | exact h.tail.tail.tail.tail.tail.tail.tail | exact h.tail.tail.tail.tail.tail.tail.tail.tail | exact h.tail.tail.tail.tail.tail.tail.tail.tail.tail | exact h.tail.tail.tail.tail.tail.tail.tail.tail.tail.tail | exact h.tail.tail.tail.tail.tail.tail.tail.tail.tail.tail.tail | exact h.tail.tail.tail.tail.tail.tail.tail.tail.tail.tail.tail.tail | exact h.tail.tail.tail.tail.tail.tail.tail.tail.tail.tail.tail.tail.tail)⟩
  ·
    refine TC_seq ?_
    refine TC_reg ?_
    refine TL_q rfl rfl (QT_move rfl rfl rfl) ?_
    refine TL_q rfl rfl (QT_len rfl rfl Tryd.underlying28 rfl) ?_
    refine TL_q rfl rfl (QT_gtr rfl rfl rfl rfl) ?_
    refine TL_q rfl rfl (QT_move rfl rfl rfl) ?_
    refine TL_q rfl rfl (QT_move rfl rfl rfl) ?_
    refine TL_q rfl rfl (QT_indexG 0 rfl rfl Tryd.underlying28 YtjipbndjcefbbaaDoorF.sz_64 rfl rfl rfl (fun h => by simpa using h) (fun h => had (by simpa using h))) ?_
    refine TL_q rfl rfl (QT_field rfl rfl YtjipbndjcefbbaaDoorF.fld_64_0 rfl) ?_
    refine TL_q rfl rfl (QT_loadRj (0 * 49) rfl rfl Tryd.underlying5 rfl (hrd.mono fun _ h => h.tail) rfl (fun h => (flg_spec hi (by simpa using h)).1)) ?_
    refine TL_q rfl rfl (QT_neq rfl rfl rfl rfl) ?_
    refine TL_q rfl rfl (QT_and rfl rfl rfl rfl) ?_
    refine TL_q rfl rfl (QT_assign rfl rfl rfl) ?_
    refine TL_nil ?_
    refine TX_then ?_
    first
      | refine TC_cond_dec rfl (fun h20 => ?_) (fun h20 => ?_)
      | refine TC_cond rfl (fun h20 => ?_) (fun h20 => ?_)
    ·
      refine TC_seq ?_
      refine TC_reg ?_
      refine TL_q rfl rfl (QT_assign rfl rfl rfl) ?_
      refine TL_q rfl rfl (QT_assign rfl rfl rfl) ?_
      refine TL_nil ?_
      refine TX_then ?_
      refine TC_ret ?_
      refine TX_block_ret ?_
      refine TX_then_ret ?_
      exact TX_ret (.inl rfl) (res2 rfl rfl rfl) ⟨_, ⟨_, [], by rw [e6 (e4' h11) h20], fragErr (e6 (e4' h11) h20) (by decide), rfl⟩, (fun _ h => by first | exact h | exact h.tail | exact h.tail.tail | exact h.tail.tail.tail | exact h.tail.tail.tail.tail | exact h.tail.tail.tail.tail.tail | exact h.tail.tail.tail.tail.tail.tail | exact h.tail.tail.tail.tail.tail.tail.tail | exact h.tail.tail.tail.tail.tail.tail.tail.tail | exact h.tail.tail.tail.tail.tail.tail.tail.tail.tail | exact h.tail.tail.tail.tail.tail.tail.tail.tail.tail.tail | exact h.tail.tail.tail.tail.tail.tail.tail.tail.tail.tail.tail | exact h.tail.tail.tail.tail.tail.tail.tail.tail.tail.tail.tail.tail | exact h.tail.tail.tail.tail.tail.tail.tail.tail.tail.tail.tail.tail.tail)⟩
    ·
      refine TC_seq ?_
      refine TC_reg ?_
      refine TL_q rfl rfl (QT_move rfl rfl rfl) ?_
      refine TL_cq rfl rfl rfl rfl YtjipbndjcefbbaaDoorF.cal_21 rfl (fun _ => contains_spec w0 _ _ n xs hs.tail hi) ?_
      refine TL_q rfl rfl (QT_assign rfl rfl rfl) ?_
      refine TL_nil ?_
      refine TX_then ?_
      first
        | refine TC_cond_dec rfl (fun h31 => ?_) (fun h31 => ?_)
        | refine TC_cond rfl (fun h31 => ?_) (fun h31 => ?_)
      ·
        refine TC_seq ?_
        refine TC_reg ?_
        refine TL_q rfl rfl (QT_assign rfl rfl rfl) ?_
        refine TL_q rfl rfl (QT_assign rfl rfl rfl) ?_
        refine TL_nil ?_
        refine TX_then ?_
        refine TC_ret ?_
        refine TX_block_ret ?_
        refine TX_then_ret ?_
        have e7 : errT L n xs = 7 := by unfold errT; rw [if_pos (e4' h11), if_neg (e6' h20), if_pos h31]
        exact TX_ret (.inl rfl) (res2 rfl rfl rfl) ⟨_, ⟨_, [], by rw [e7], fragErr e7 (by decide), rfl⟩, (fun _ h => by first | exact h | exact h.tail | exact h.tail.tail | exact h.tail.tail.tail | exact h.tail.tail.tail.tail | exact h.tail.tail.tail.tail.tail | exact h.tail.tail.tail.tail.tail.tail | exact h.tail.tail.tail.tail.tail.tail.tail | exact h.tail.tail.tail.tail.tail.tail.tail.tail | exact h.tail.tail.tail.tail.tail.tail.tail.tail.tail | exact h.tail.tail.tail.tail.tail.tail.tail.tail.tail.tail | exact h.tail.tail.tail.tail.tail.tail.tail.tail.tail.tail.tail | exact h.tail.tail.tail.tail.tail.tail.tail.tail.tail.tail.tail.tail | exact h.tail.tail.tail.tail.tail.tail.tail.tail.tail.tail.tail.tail.tail)⟩
      ·
        refine TC_skip ?_
        refine TX_block_normal ?_
        refine TX_then ?_
        refine TC_seq ?_
        have e0 : errT L n xs = 0 := by unfold errT; rw [if_pos (e4' h11), if_neg (e6' h20), if_neg (by rw [h31]; decide)]
        refine TC_reg ?_
        refine TL_q rfl rfl (QT_assign rfl rfl rfl) ?_
        refine TL_nil ?_
        refine TX_then ?_
        refine TC_cut (γ := Unit) (fun _ => [(1, true, .slice ad n cap), (6, true, .int .i64 ((ptsT L : Nat) : Int))]) (fun _ => St w0 ((b2, 27, L.cells) :: η)) ?_ ?_
        ·
          refine TC_seq ?_
          refine TC_reg ?_
          refine TL_q rfl rfl (QT_field rfl rfl YtjipbndjcefbbaaDoorF.fld_27_0 rfl) ?_
          first
            | refine TL_q rfl rfl (QT_load 0 rfl rfl Tryd.underlying3 rfl rfl rfl (fun _ => rfl)) ?_
            | refine TL_q rfl rfl (QT_load 1 rfl rfl Tryd.underlying3 rfl rfl rfl (fun _ => rfl)) ?_
            | refine TL_q rfl rfl (QT_load 2 rfl rfl Tryd.underlying3 rfl rfl rfl (fun _ => rfl)) ?_
          refine TL_q rfl rfl (QT_eql rfl rfl rfl rfl) ?_
          refine TL_nil ?_
          refine TX_then ?_
          first
            | refine TC_cond_dec rfl (fun h36 => ?_) (fun h36 => ?_)
            | refine TC_cond rfl (fun h36 => ?_) (fun h36 => ?_)
          ·
            refine TC_reg ?_
            refine TL_q rfl rfl (QT_assign rfl rfl rfl) ?_
            refine TL_nil ?_
            exact TX_cut () ⟨rfl, slotI rfl (by unfold ptsT; rw [if_pos h36]; rfl), trivial⟩ (fun _ h => h)
          ·
            refine TC_skip ?_
            exact TX_cut () ⟨rfl, slotI rfl (by unfold ptsT; rw [if_neg h36]; rfl), trivial⟩ (fun _ h => h)
        rintro ⟨⟩
        have hbf := (errT_zero e0).2.2.2
        refine TC_seq ?_
        refine TC_reg ?_
        refine TL_q rfl rfl (QT_assign rfl rfl rfl) ?_
        refine TL_nil ?_
        refine TX_then ?_
        refine TC_seq ?_
        refine TC_reg ?_
        refine TL_e rfl rfl rfl (rfl) (ET_alloc rfl YtjipbndjcefbbaaDoorF.zero_66) ?_
        rintro _ _ ⟨b8, rfl, rfl⟩
        refine TL_nil ?_
        refine TX_then ?_
        refine TC_seq ?_
        refine TC_seq ?_
        refine TC_reg ?_
        refine TL_q rfl rfl (QT_move rfl rfl rfl) ?_
        refine TL_q rfl rfl (QT_len rfl rfl Tryd.underlying28 rfl) ?_
        refine TL_q rfl rfl (QT_move rfl rfl rfl) ?_
        refine TL_nil ?_
        refine TX_then ?_
        refine TC_block ?_
        refine TC_loop (γ := { t : Nat × Value × Heap // t.1 ≤ n ∧ Frag 66 48 t.2.1 t.1 (tilesC (ptsT L) xs t.1) t.2.2 }) (fun t => [(6, true, .int .i64 ((ptsT L : Nat) : Int)), (7, true, t.1.2.1), (8, true, .pointer (some ⟨b8, 0, none⟩)), (37, true, .slice ad n cap), (38, true, .int .i64 (n : Int)), (39, true, .int .i64 (t.1.1 : Int))]) (fun t => St w0 ((b8, 66, tileB (ptsT L) xs t.1.1) :: (t.1.2.2 ++ η))) (fun t => n - t.1.1) ⟨(0, .slice none 0 0, []), Nat.zero_le _, Frag.nil _ _⟩ ⟨rfl, rfl, rfl, rfl, rfl, rfl, trivial⟩ (fun _ h => (St.swap h).tail) ?_
        rintro ⟨⟨i, fv, H⟩, hin, hF⟩
        dsimp only at hin hF ⊢
        refine TC_seq ?_
        refine TC_reg ?_
        refine TL_q rfl rfl (QT_lss rfl rfl rfl rfl) ?_
        refine TL_nil ?_
        refine TX_then ?_
        refine TC_seq ?_
        first
          | refine TC_cond_dec rfl (fun h40 => ?_) (fun h40 => ?_)
          | refine TC_cond rfl (fun h40 => ?_) (fun h40 => ?_)
        ·
          have hi' : i < n := by omega
          obtain ⟨hf1, hf2, hf3⟩ := flg_spec hi hi'
          obtain rfl := had (by omega)
          have hle : i * 49 + 49 ≤ xs.length := by rw [hl]; have : (i + 1) * 49 ≤ n * 49 := Nat.mul_le_mul_right _ hi'; omega
          have hei : Ints sheetK (elem xs 49 i) := hi.elem hi'
          have hti := tileB_ints hi (ptsT_or L) hbf i hin
          have hwi : Ints patchK (wholeC (ptsT L) (flg xs i) (elem xs 49 i) (tileB (ptsT L) xs i)) := tileB_ints hi (ptsT_or L) hbf (i + 1) hi'
          have hels : (elem xs 49 i).length = 49 := hei.length
          have htls : (tileB (ptsT L) xs i).length = 48 := hti.length
          have hwls : (wholeC (ptsT L) (flg xs i) (elem xs 49 i) (tileB (ptsT L) xs i)).length = 48 := hwi.length
          have hzs : Sz Tryd.prog 64 (elem xs 49 i).length := by rw [hels]; exact YtjipbndjcefbbaaDoorF.sz_64
          have hzt : Sz Tryd.prog 66 (tileB (ptsT L) xs i).length := by rw [htls]; exact YtjipbndjcefbbaaDoorF.sz_66
          have hzw : Sz Tryd.prog 66 (wholeC (ptsT L) (flg xs i) (elem xs 49 i) (tileB (ptsT L) xs i)).length := by rw [hwls]; exact YtjipbndjcefbbaaDoorF.sz_66
          refine TC_skip ?_
          refine TX_then ?_
          refine TC_seq ?_
          refine TC_block ?_
          refine TC_seq ?_
          refine TC_reg ?_
          refine TL_q rfl rfl (QT_indexSlice (i) rfl rfl Tryd.underlying28 YtjipbndjcefbbaaDoorF.sz_64 rfl rfl (rfl) (fun _ => hi')) ?_
          refine TL_q rfl rfl (QT_loadRAj (out := elem xs 49 i) (i * 49) rfl rfl Tryd.underlying64 rfl YtjipbndjcefbbaaDoorF.sz_64 (hrd.mono fun _ h => h.tail.app_right) rfl (fun _ => hle) (fun _ => rfl)) ?_
          refine TL_e rfl rfl rfl (rfl) (ET_alloc rfl YtjipbndjcefbbaaDoorF.zero_64) ?_
          rintro _ _ ⟨b10, rfl, rfl⟩
          refine TL_e0 rfl rfl (rfl) (ET_storeW (vs := elem xs 49 i) 0 rfl rfl rfl hzs rfl (List.all_eq_true.2 hei.oneCell) (by rw [hels]; rfl)) ?_
          rintro _ _ ⟨rfl, rfl⟩
          refine TL_nil ?_
          refine TX_then ?_
          refine TC_seq ?_
          refine TC_reg ?_
          refine TL_q rfl rfl (QT_loadW (cs := elem xs 49 i) 0 rfl rfl Tryd.underlying64 rfl rfl rfl hzs) ?_
          refine TL_q rfl rfl (QT_loadW 1 rfl rfl Tryd.underlying66 rfl rfl rfl hzt) ?_
          refine TL_q rfl rfl (QT_move rfl rfl rfl) ?_
          refine TL_e rfl rfl rfl (rfl) (ET_call rfl YtjipbndjcefbbaaDoorF.cal_23 rfl (whole_spec w0 _ hE (elem xs 49 i) (tileB (ptsT L) xs i) (ptsT L) (flg xs i) hei hti (ptsT_or L) hf2 (hbf i hi'))) ?_
          rintro _ _ ⟨rfl, rfl⟩
          refine TL_e0 rfl rfl (rfl) (ET_storeW (vs := wholeC (ptsT L) (flg xs i) (elem xs 49 i) (tileB (ptsT L) xs i)) 1 rfl rfl rfl hzw rfl (List.all_eq_true.2 hwi.oneCell) (by rw [hwls, htls]; rfl)) ?_
          rintro _ _ ⟨rfl, rfl⟩
          refine TL_nil ?_
          refine TX_then ?_
          refine TC_reg ?_
          refine TL_q rfl rfl (QT_move rfl rfl rfl) ?_
          refine TL_q rfl rfl (QT_loadW (cs := wholeC (ptsT L) (flg xs i) (elem xs 49 i) (tileB (ptsT L) xs i)) 1 rfl rfl Tryd.underlying66 rfl rfl rfl hzw) ?_
          refine TL_e rfl rfl rfl (rfl) (ET_buildN [_] rfl Tryd.underlying31 YtjipbndjcefbbaaDoorF.sz_66 YtjipbndjcefbbaaDoorF.zero_66 rfl rfl rfl (fun v hv => by cases List.mem_singleton.1 hv; exact hwls)) ?_
          rintro _ _ ⟨b49, rfl, rfl⟩
          refine TL_e rfl rfl rfl (rfl) (ET_appendL (L := [_, _, _]) rfl Tryd.underlying31 el_Patch rfl rfl hF (fun _ h => h) (SlA.own (n := 1) (xs := wholeC (ptsT L) (flg xs i) (elem xs 49 i) (tileB (ptsT L) xs i)) 0 rfl (by rw [List.drop_zero, List.take_of_length_le (by simp [Value.cells, hwls])]; simp [Value.cells]) (by simp [Value.cells, hwls]) (by omega)) hwi.oneCell (by omega) (by omega)) ?_
          rintro fv2 _ ⟨H', hF', rfl⟩
          refine TL_q rfl rfl (QT_assign rfl rfl rfl) ?_
          refine TL_nil ?_
          refine TX_block_normal ?_
          refine TX_then ?_
          refine TC_reg ?_
          refine TL_q rfl rfl (QT_add rfl rfl rfl rfl (fun _ => ⟨by omega, by omega⟩)) ?_
          refine TL_q rfl rfl (QT_move rfl rfl rfl) ?_
          refine TL_nil ?_
          exact TX_round ⟨(i + 1, fv2, H'), hi', hF'⟩ (by show n - (i + 1) < n - i; omega) ⟨rfl, rfl, rfl, rfl, rfl, rfl, trivial⟩ (fun _ h => h.tail.tail)
        ·
          refine TC_exit ?_
          refine TX_then_exit ?_
          refine TX_then_exit ?_
          refine TX_block_here ?_
          refine TX_then ?_
          refine TC_seq ?_
          refine TC_reg ?_
          refine TL_q rfl rfl (QT_move rfl rfl rfl) ?_
          refine TL_A (St w0 (H ++ η)) (fun _ h => h.tail) ?_
          refine TL_e rfl rfl rfl (rfl) (ET_call rfl YtjipbndjcefbbaaDoorF.cal_24 rfl (clip_spec w0 η H fv i _ hF)) ?_
          rintro cv _ ⟨hF2, rfl⟩
          refine TL_q rfl rfl (QT_assign rfl rfl rfl) ?_
          refine TL_q rfl rfl (QT_assign rfl rfl rfl) ?_
          refine TL_nil ?_
          refine TX_then ?_
          refine TC_ret ?_
          obtain rfl : i = n := by omega
          exact TX_ret (.inl rfl) (res2 rfl rfl rfl) ⟨_, ⟨cv, H, by rw [e0], by unfold cntT outT; rw [if_pos e0, if_pos e0]; exact hF2, rfl⟩, fun _ h => h⟩
end Go.Proofs.YtjipbndjcefbbaaDoor

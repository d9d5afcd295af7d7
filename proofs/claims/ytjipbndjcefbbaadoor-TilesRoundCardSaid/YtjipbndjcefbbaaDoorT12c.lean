/- THE PATCHES OF SHEETS, by the document's answer: the same. -/
import Derived.Test.YtjipbndjcefbbaaDoorT12b
namespace Go.Proofs.YtjipbndjcefbbaaDoor
open Go Go.Gx Go.RowKit
set_option maxRecDepth 100000

def startP (ah : List Value) (f : Nat) : List Value := if f = 0 then zP else colTo ah f 2
def atN (f : Nat) : Nat := if f = 0 then 0 else 4
def hvN (f : Nat) : Nat := if f = 0 then 0 else 2
def npN (pts f : Nat) : Nat := if f = 0 then pts else pts - 4
def ncN (f : Nat) : Nat := if f = 0 then 4 else 2
def rP (s p0 : List Value) (a : Nat) : Nat → List Value
  | 0 => p0
  | k + 1 => setAt (rP s p0 a k) (0 + 0 + (a + k) * 2) ((s.drop (1 + k * 2)).take 2)
def rC (s p0 : List Value) (a : Nat) : Nat → List Value
  | 0 => p0
  | k + 1 => setAt (rC s p0 a k) (0 + 32 + (a + k) * 4) ((s.drop (33 + k * 4)).take 4)
theorem rP_len (s p0 : List Value) (a : Nat) : ∀ k, (rP s p0 a k).length = p0.length
  | 0 => rfl
  | k + 1 => by rw [rP, setAt_length, rP_len s p0 a k]
theorem rC_len (s p0 : List Value) (a : Nat) : ∀ k, (rC s p0 a k).length = p0.length
  | 0 => rfl
  | k + 1 => by rw [rC, setAt_length, rC_len s p0 a k]
theorem startP_len (ah : List Value) (f : Nat) : (startP ah f).length = 48 := by unfold startP; split; rfl; exact colTo_len ah f 2
theorem ref_eq {pts f : Nat} {s ah : List Value} (hs : s.length = 49) (ha : ah.length = 48) (hp : pts = 12 ∨ pts = 16) (hf : f = 0 ∨ f = 1 ∨ f = 2 ∨ f = 3) :
    rC s (rP s (startP ah f) (atN f) (npN pts f)) (hvN f) (ncN f) = wholeC pts f s ah := by
  obtain ⟨g, rfl⟩ := tab' (.bool false) s hs
  obtain ⟨h, rfl⟩ := tab' (.bool false) ah ha
  rcases hp with rfl | rfl <;> rcases hf with rfl | rfl | rfl | rfl <;> kernel_rfl
theorem pts_eq {L : Lay} {f : Nat} (h : L.ty = 6 ∨ L.ty = 7) : ptsZ L (f : Int) = ((npN (ptsT L) f : Nat) : Int) := by
  unfold ptsZ npN ptsT
  rcases h with h | h <;> rw [h] <;> by_cases hf : f = 0 <;> simp [hf]
theorem col_eq {L : Lay} {f : Nat} (h : L.ty = 6 ∨ L.ty = 7) : colZ L (f : Int) = ((ncN f : Nat) : Int) := by
  unfold colZ ncN
  rcases h with h | h <;> rw [h] <;> by_cases hf : f = 0 <;> simp [hf]
theorem npN_bd {pts f : Nat} (h : pts = 12 ∨ pts = 16) : atN f + npN pts f = pts := by unfold atN npN; split <;> omega
theorem ncN_bd (f : Nat) : hvN f + ncN f = 4 := by unfold hvN ncN; split <;> omega
theorem npN_le {pts f : Nat} (h : pts = 12 ∨ pts = 16) : npN pts f ≤ 16 := by unfold npN; split <;> omega
theorem elem_part (xs : List Value) (i o m : Nat) (h : o + m ≤ 49) : (xs.drop (i * 49 + o)).take m = ((elem xs 49 i).drop o).take m := by
  unfold elem
  rw [List.drop_take, List.drop_drop, List.take_take, Nat.min_eq_left (by omega)]
theorem tilesC_len {pts n : Nat} {xs : List Value} (hx : Ints (rep n sheetK) xs) (hp : pts = 12 ∨ pts = 16) (hb : ∀ i, i < n → flg xs i ≤ 3) {i : Nat} (h : i ≤ n) : (tilesC pts xs i).length = i * 48 := by
  rw [(tilesC_ints hx hp hb i h).length, rep_len]; rfl
theorem tilesC_last {pts n : Nat} {xs : List Value} (hx : Ints (rep n sheetK) xs) (hp : pts = 12 ∨ pts = 16) (hb : ∀ i, i < n → flg xs i ≤ 3) {i : Nat} (h : i ≤ n) (h0 : 0 < i) : ((tilesC pts xs i).drop ((i - 1) * 48)).take 48 = tileB pts xs i := by
  cases i with
  | zero => omega
  | succ j =>
    have h1 := tilesC_len hx hp hb (i := j) (by omega)
    have h2 : (tileB pts xs (j + 1)).length = 48 := (tileB_ints hx hp hb (j + 1) h).length
    show ((tilesC pts xs j ++ tileB pts xs (j + 1)).drop (j * 48)).take 48 = _
    rw [← h1, List.drop_left, List.take_of_length_le (by omega)]
theorem e4r {L : Lay} {n : Nat} {xs : List Value} (h : (decide (errOf L ≠ 0) || (decide (L.ty ≠ 6) && decide (L.ty ≠ 7))) = true) : errT L n xs = 4 := by
  refine e4 ?_
  by_cases h0 : okB L = true
  · obtain ⟨_, _, _, hty, _⟩ := okB_bounds h0
    simp only [errOf, h0, if_true, ne_eq, not_true, decide_false, Bool.false_or, Bool.and_eq_true, decide_eq_true_eq] at h ⊢
    omega
  · simp [errOf, h0]
theorem e4r' {L : Lay} (h : (decide (errOf L ≠ 0) || (decide (L.ty ≠ 6) && decide (L.ty ≠ 7))) = false) : okB L = true ∧ 6 ≤ L.ty ∧ (L.ty = 6 ∨ L.ty = 7) := by
  simp only [Bool.or_eq_false_iff, Bool.and_eq_false_iff, decide_eq_false_iff_not, ne_eq, Classical.not_not] at h
  refine ⟨Classical.byContradiction fun hn => ?_, by omega, by omega⟩
  have := h.1
  unfold errOf at this
  rw [if_neg hn] at this
  exact absurd this (by decide)

theorem rof_spec (w0 : World) (η : Heap) (L : Lay) (sv : Value) (n : Nat) (xs : List Value) (hs : SlA (St w0 η) sv 49 n xs) (hi : Ints (rep n sheetK) xs) (hn : n * 160 ≤ 140737488355328) :
    CallsT Tryd.prog 11 [L.val, sv] (St w0 η) fun v A' => ∃ pv H, v = .tuple #[pv, .int .i64 (errT L n xs)] ∧ Frag 66 48 pv (cntT L n xs) (outT L n xs) H ∧ A' = St w0 (H ++ η) := by
  obtain ⟨hl, ad, cap, b, off, rfl, hcap, had, hrd⟩ := hs.some
  refine CallsT.body Tryd.func11 rfl rfl ?_
  simp only [Tryd.ntmps11, slotsOf, Nat.reduceAdd]
  refine TC_seq ?_
  refine TC_reg ?_
  refine TL_e rfl rfl rfl (rfl) (ET_box rfl rfl) ?_
  rintro _ _ ⟨b2, rfl, rfl⟩
  refine TL_q rfl rfl (QT_assign rfl rfl rfl) ?_
  refine TL_q rfl rfl (QT_assign rfl rfl rfl) ?_
  refine TL_nil ?_
  refine TX_then ?_
  refine TC_seq ?_
  refine TC_seq ?_
  refine TC_reg ?_
  first
    | refine TL_q rfl rfl (QT_loadW 0 rfl rfl Tryd.underlying27 rfl rfl rfl YtjipbndjcefbbaaDoorF.sz_27) ?_
    | refine TL_q rfl rfl (QT_loadW 1 rfl rfl Tryd.underlying27 rfl rfl rfl YtjipbndjcefbbaaDoorF.sz_27) ?_
    | refine TL_q rfl rfl (QT_loadW 2 rfl rfl Tryd.underlying27 rfl rfl rfl YtjipbndjcefbbaaDoorF.sz_27) ?_
    | refine TL_q rfl rfl (QT_loadA 0 rfl rfl Tryd.underlying27 rfl rfl rfl YtjipbndjcefbbaaDoorF.sz_27 (fun _ => rfl)) ?_
    | refine TL_q rfl rfl (QT_loadA 1 rfl rfl Tryd.underlying27 rfl rfl rfl YtjipbndjcefbbaaDoorF.sz_27 (fun _ => rfl)) ?_
    | refine TL_q rfl rfl (QT_loadA 2 rfl rfl Tryd.underlying27 rfl rfl rfl YtjipbndjcefbbaaDoorF.sz_27 (fun _ => rfl)) ?_
  refine TL_cq rfl rfl rfl rfl YtjipbndjcefbbaaDoorF.cal_25 rfl (fun _ => rcheck_spec w0 _ L) ?_
  refine TL_q rfl rfl (QT_neq rfl rfl rfl rfl) ?_
  refine TL_q rfl rfl (QT_move rfl rfl rfl) ?_
  refine TL_q rfl rfl (QT_field rfl rfl YtjipbndjcefbbaaDoorF.fld_27_0 rfl) ?_
  first
    | refine TL_q rfl rfl (QT_load 0 rfl rfl Tryd.underlying3 rfl rfl rfl (fun _ => rfl)) ?_
    | refine TL_q rfl rfl (QT_load 1 rfl rfl Tryd.underlying3 rfl rfl rfl (fun _ => rfl)) ?_
    | refine TL_q rfl rfl (QT_load 2 rfl rfl Tryd.underlying3 rfl rfl rfl (fun _ => rfl)) ?_
  refine TL_q rfl rfl (QT_neq rfl rfl rfl rfl) ?_
  refine TL_q rfl rfl (QT_move rfl rfl rfl) ?_
  refine TL_q rfl rfl (QT_field rfl rfl YtjipbndjcefbbaaDoorF.fld_27_0 rfl) ?_
  first
    | refine TL_q rfl rfl (QT_load 0 rfl rfl Tryd.underlying3 rfl rfl rfl (fun _ => rfl)) ?_
    | refine TL_q rfl rfl (QT_load 1 rfl rfl Tryd.underlying3 rfl rfl rfl (fun _ => rfl)) ?_
    | refine TL_q rfl rfl (QT_load 2 rfl rfl Tryd.underlying3 rfl rfl rfl (fun _ => rfl)) ?_
  refine TL_q rfl rfl (QT_neq rfl rfl rfl rfl) ?_
  refine TL_q rfl rfl (QT_and rfl rfl rfl rfl) ?_
  refine TL_q rfl rfl (QT_or rfl rfl rfl rfl) ?_
  refine TL_nil ?_
  refine TX_then ?_
  first
    | refine TC_cond_dec rfl (fun h30 => ?_) (fun h30 => ?_)
    | refine TC_cond rfl (fun h30 => ?_) (fun h30 => ?_)
  ·
    refine TC_seq ?_
    refine TC_reg ?_
    refine TL_q rfl rfl (QT_assign rfl rfl rfl) ?_
    refine TL_q rfl rfl (QT_assign rfl rfl rfl) ?_
    refine TL_nil ?_
    refine TX_then ?_
    refine TC_ret ?_
    refine TX_then_ret ?_
    exact TX_ret (.inl rfl) (res2 rfl rfl rfl) ⟨_, ⟨_, [], by rw [e4r h30], fragErr (e4r h30) (by decide), rfl⟩, (fun _ h => by first | exact h | exact h.tail | exact h.tail.tail | exact h.tail.tail.tail | exact h.tail.tail.tail.tail | exact h.tail.tail.tail.tail.tail | exact h.tail.tail.tail.tail.tail.tail | exact h.tail.tail.tail.tail.tail.tail.tail | exact h.tail.tail.tail.tail.tail.tail.tail.tail | exact h.tail.tail.tail.tail.tail.tail.tail.tail.tail | exact h.tail.tail.tail.tail.tail.tail.tail.tail.tail.tail | exact h.tail.tail.tail.tail.tail.tail.tail.tail.tail.tail.tail | exact h.tail.tail.tail.tail.tail.tail.tail.tail.tail.tail.tail.tail | exact h.tail.tail.tail.tail.tail.tail.tail.tail.tail.tail.tail.tail.tail)⟩
  ·
    refine TC_skip ?_
    refine TX_then ?_
    refine TC_seq ?_
    obtain ⟨hok, h6, hty⟩ := e4r' h30
    refine TC_reg ?_
    refine TL_q rfl rfl (QT_assign rfl rfl rfl) ?_
    refine TL_nil ?_
    refine TX_then ?_
    refine TC_seq ?_
    refine TC_seq ?_
    refine TC_reg ?_
    refine TL_q rfl rfl (QT_assign rfl rfl rfl) ?_
    refine TL_nil ?_
    refine TX_then ?_
    refine TC_block ?_
    refine TC_loop (γ := { t : Nat × Value × Heap // t.1 ≤ n ∧ (∀ j, j < t.1 → flg xs j ≤ 3) ∧ (0 < t.1 → flg xs 0 = 0) ∧ Frag 66 48 t.2.1 t.1 (tilesC (ptsT L) xs t.1) t.2.2 }) (fun t => [(1, true, .slice ad n cap), (2, true, .pointer (some ⟨b2, 0, none⟩)), (6, true, t.1.2.1), (7, true, .int .i64 (t.1.1 : Int))]) (fun t => St w0 ((b2, 27, L.cells) :: (t.1.2.2 ++ η))) (fun t => n - t.1.1) ⟨(0, .slice none 0 0, []), Nat.zero_le _, fun j h => absurd h (Nat.not_lt_zero j), fun h => absurd h (Nat.lt_irrefl 0), Frag.nil _ _⟩ ⟨rfl, rfl, rfl, rfl, trivial⟩ (fun _ h => h) ?_
    rintro ⟨⟨i, fv, H⟩, hin, hbf, hz, hF⟩
    dsimp only at hin hbf hz hF ⊢
    refine TC_seq ?_
    refine TC_seq ?_
    refine TC_reg ?_
    refine TL_q rfl rfl (QT_move rfl rfl rfl) ?_
    refine TL_q rfl rfl (QT_move rfl rfl rfl) ?_
    refine TL_q rfl rfl (QT_len rfl rfl Tryd.underlying28 rfl) ?_
    refine TL_q rfl rfl (QT_lss rfl rfl rfl rfl) ?_
    refine TL_nil ?_
    refine TX_then ?_
    first
      | refine TC_cond_dec rfl (fun h34 => ?_) (fun h34 => ?_)
      | refine TC_cond rfl (fun h34 => ?_) (fun h34 => ?_)
    ·
      have hi' : i < n := by omega
      obtain ⟨hf1, hf2, hf3⟩ := flg_spec hi hi'
      obtain rfl := had (by omega)
      have hle : i * 49 + 49 ≤ xs.length := by rw [hl]; have : (i + 1) * 49 ≤ n * 49 := Nat.mul_le_mul_right _ hi'; omega
      have hR : ∀ X : Heap, Rd (St w0 (X ++ η)) b off xs := fun X => hrd.mono fun _ h => h.app_right
      refine TC_skip ?_
      refine TX_then ?_
      refine TC_seq ?_
      refine TC_block ?_
      refine TC_seq ?_
      refine TC_seq ?_
      refine TC_reg ?_
      refine TL_q rfl rfl (QT_move rfl rfl rfl) ?_
      refine TL_q rfl rfl (QT_eql rfl rfl rfl rfl) ?_
      refine TL_q rfl rfl (QT_move rfl rfl rfl) ?_
      refine TL_q rfl rfl (QT_move rfl rfl rfl) ?_
      refine TL_q rfl rfl (QT_move rfl rfl rfl) ?_
      refine TL_q rfl rfl (QT_indexSlice (i) rfl rfl Tryd.underlying28 YtjipbndjcefbbaaDoorF.sz_64 rfl rfl (rfl) (fun _ => hi')) ?_
      refine TL_q rfl rfl (QT_field rfl rfl YtjipbndjcefbbaaDoorF.fld_64_0 rfl) ?_
      refine TL_q rfl rfl (QT_loadRj (i * 49) rfl rfl Tryd.underlying5 rfl (hR (_ :: H)) rfl (fun _ => hf1)) ?_
      refine TL_q rfl rfl (QT_neq rfl rfl rfl rfl) ?_
      refine TL_q rfl rfl (QT_and rfl rfl rfl rfl) ?_
      refine TL_nil ?_
      refine TX_then ?_
      first
        | refine TC_cond_dec rfl (fun h46 => ?_) (fun h46 => ?_)
        | refine TC_cond rfl (fun h46 => ?_) (fun h46 => ?_)
      ·
        refine TC_seq ?_
        refine TC_reg ?_
        refine TL_q rfl rfl (QT_assign rfl rfl rfl) ?_
        refine TL_q rfl rfl (QT_assign rfl rfl rfl) ?_
        refine TL_nil ?_
        refine TX_then ?_
        refine TC_ret ?_
        refine TX_then_ret ?_
        refine TX_block_ret ?_
        refine TX_then_ret ?_
        refine TX_then_ret ?_
        refine TX_block_ret ?_
        refine TX_then_ret ?_
        have h46' : i = 0 ∧ flg xs 0 ≠ 0 := by
          have hh := h46
          simp only [Bool.and_eq_true, decide_eq_true_eq] at hh
          have h0 : i = 0 := by omega
          refine ⟨h0, ?_⟩
          subst h0; omega
        have e6 : errT L n xs = 6 := by unfold errT; rw [if_pos ⟨hok, h6⟩, if_pos ⟨by omega, h46'.2⟩]
        exact TX_ret (.inl rfl) (res2 rfl rfl rfl) ⟨_, ⟨_, [], by rw [e6], fragErr e6 (by decide), rfl⟩, fun _ h => h.tail.app_right⟩
      ·
        refine TC_skip ?_
        refine TX_then ?_
        refine TC_seq ?_
        refine TC_seq ?_
        have hz0 : ¬ (0 < n ∧ flg xs 0 ≠ 0) := by
          rintro ⟨_, hne⟩
          by_cases h0 : i = 0
          · subst h0
            simp only [Bool.and_eq_false_iff, decide_eq_false_iff_not] at h46
            omega
          · exact hne (hz (by omega))
        refine TC_reg ?_
        refine TL_q rfl rfl (QT_move rfl rfl rfl) ?_
        refine TL_q rfl rfl (QT_move rfl rfl rfl) ?_
        refine TL_q rfl rfl (QT_indexSlice (i) rfl rfl Tryd.underlying28 YtjipbndjcefbbaaDoorF.sz_64 rfl rfl (rfl) (fun _ => hi')) ?_
        refine TL_q rfl rfl (QT_field rfl rfl YtjipbndjcefbbaaDoorF.fld_64_0 rfl) ?_
        refine TL_q rfl rfl (QT_loadRj (i * 49) rfl rfl Tryd.underlying5 rfl (hR (_ :: H)) rfl (fun _ => hf1)) ?_
        refine TL_q rfl rfl (QT_gtr rfl rfl rfl rfl) ?_
        refine TL_nil ?_
        refine TX_then ?_
        first
          | refine TC_cond_dec rfl (fun h52 => ?_) (fun h52 => ?_)
          | refine TC_cond rfl (fun h52 => ?_) (fun h52 => ?_)
        ·
          refine TC_seq ?_
          refine TC_reg ?_
          refine TL_q rfl rfl (QT_assign rfl rfl rfl) ?_
          refine TL_q rfl rfl (QT_assign rfl rfl rfl) ?_
          refine TL_nil ?_
          refine TX_then ?_
          refine TC_ret ?_
          refine TX_then_ret ?_
          refine TX_block_ret ?_
          refine TX_then_ret ?_
          refine TX_then_ret ?_
          refine TX_block_ret ?_
          refine TX_then_ret ?_
          have e7 : errT L n xs = 7 := by unfold errT; rw [if_pos ⟨hok, h6⟩, if_neg hz0, if_pos (bigB_intro hi' (by omega))]
          exact TX_ret (.inl rfl) (res2 rfl rfl rfl) ⟨_, ⟨_, [], by rw [e7], fragErr e7 (by decide), rfl⟩, fun _ h => h.tail.app_right⟩
        ·
          refine TC_skip ?_
          refine TX_then ?_
          refine TC_seq ?_
          have hf3' : flg xs i ≤ 3 := by omega
          have hbf2 : ∀ j, j < i + 1 → flg xs j ≤ 3 := fun j hj => by
            by_cases h : j < i
            · exact hbf j h
            · obtain rfl : j = i := by omega
              exact hf3'
          have hei : Ints sheetK (elem xs 49 i) := hi.elem hi'
          have hels : (elem xs 49 i).length = 49 := hei.length
          have hip : Ints (rep (i + 1) sheetK) (xs.take ((i + 1) * 49)) := by
            have e : n = (i + 1) + (n - (i + 1)) := by omega
            have h1 := hi
            rw [e, rep_add] at h1
            have h2 := h1.split.1
            rwa [rep_len] at h2
          have hti : Ints patchK (tileB (ptsT L) xs i) := by
            have : ∀ j, j ≤ i → Ints patchK (tileB (ptsT L) xs j) := by
              intro j
              induction j with
              | zero => intro _; exact zP_ints
              | succ j ih => intro hj; exact whole_ints (hi.elem (by omega)) (ih (by omega)) (ptsT_or L) (hbf j (by omega))
            exact this i (Nat.le_refl _)
          have htls : (tileB (ptsT L) xs i).length = 48 := hti.length
          have hzt : Sz Tryd.prog 66 (tileB (ptsT L) xs i).length := by rw [htls]; exact YtjipbndjcefbbaaDoorF.sz_66
          refine TC_draw [(0, 0), (1, 0), (2, 0), (3, 0), (4, 0), (5, 0), (6, 1), (7, 0), (8, 0), (9, 0), (10, 0), (11, 0)] YtjipbndjcefbbaaDoorF.mixed (by kernel_rfl) (St.calm _ _) ?_
          first
            | refine TV_ql rfl rfl rfl (QT_loadW 0 rfl rfl Tryd.underlying27 rfl rfl rfl YtjipbndjcefbbaaDoorF.sz_27) ?_
            | refine TV_ql rfl rfl rfl (QT_loadW 1 rfl rfl Tryd.underlying27 rfl rfl rfl YtjipbndjcefbbaaDoorF.sz_27) ?_
            | refine TV_ql rfl rfl rfl (QT_loadW 2 rfl rfl Tryd.underlying27 rfl rfl rfl YtjipbndjcefbbaaDoorF.sz_27) ?_
            | refine TV_ql rfl rfl rfl (QT_loadA 0 rfl rfl Tryd.underlying27 rfl rfl rfl YtjipbndjcefbbaaDoorF.sz_27 (fun _ => rfl)) ?_
            | refine TV_ql rfl rfl rfl (QT_loadA 1 rfl rfl Tryd.underlying27 rfl rfl rfl YtjipbndjcefbbaaDoorF.sz_27 (fun _ => rfl)) ?_
            | refine TV_ql rfl rfl rfl (QT_loadA 2 rfl rfl Tryd.underlying27 rfl rfl rfl YtjipbndjcefbbaaDoorF.sz_27 (fun _ => rfl)) ?_
          refine TV_q rfl rfl rfl (fun _ => QT_move rfl rfl rfl) ?_
          refine TV_q rfl rfl rfl (fun _ => QT_move rfl rfl rfl) ?_
          refine TV_q rfl rfl rfl (fun _ => QT_indexSlice (i) rfl rfl Tryd.underlying28 YtjipbndjcefbbaaDoorF.sz_64 rfl rfl (rfl) (fun _ => hi')) ?_
          refine TV_q rfl rfl rfl (fun _ => QT_field rfl rfl YtjipbndjcefbbaaDoorF.fld_64_0 rfl) ?_
          refine TV_ql rfl rfl rfl (QT_loadRj (i * 49) rfl rfl Tryd.underlying5 rfl (hR (_ :: H)) rfl (fun _ => hf1)) ?_
          refine TV_cq rfl rfl rfl rfl rfl YtjipbndjcefbbaaDoorF.cal_26 rfl (fun _ => parts_spec w0 _ L (flg xs i : Int) (by omega)) (.drop (by kernel_rfl) (.drop (by kernel_rfl) (.nil))) ?_
          refine TV_q rfl rfl rfl (fun _ => QT_move rfl rfl rfl) ?_
          refine TV_q rfl rfl rfl (fun _ => QT_extract rfl rfl rfl rfl) ?_
          refine TV_q rfl rfl rfl (fun _ => QT_extract rfl rfl rfl rfl) ?_
          refine TV_q rfl rfl rfl (fun _ => QT_assign rfl rfl rfl) ?_
          refine TV_q rfl rfl rfl (fun _ => QT_assign rfl rfl rfl) ?_
          refine TV_end ?_
          refine TX_then ?_
          refine TC_seq ?_
          refine TC_reg ?_
          refine TL_q rfl rfl (QT_build rfl rfl YtjipbndjcefbbaaDoorF.zero_66 YtjipbndjcefbbaaDoorF.pl_66 rfl rfl rfl) ?_
          refine TL_e rfl rfl rfl (rfl) (ET_alloc rfl YtjipbndjcefbbaaDoorF.zero_66) ?_
          rintro _ _ ⟨b10, rfl, rfl⟩
          first
            | refine TL_e0 rfl rfl (rfl) (ET_storeW 0 rfl rfl rfl YtjipbndjcefbbaaDoorF.sz_66 rfl rfl rfl) ?_
            | refine TL_e0 rfl rfl (rfl) (ET_storeW 1 rfl rfl rfl YtjipbndjcefbbaaDoorF.sz_66 rfl rfl rfl) ?_
            | refine TL_e0 rfl rfl (rfl) (ET_storeW 2 rfl rfl rfl YtjipbndjcefbbaaDoorF.sz_66 rfl rfl rfl) ?_
            | refine TL_e0 rfl rfl (rfl) (ET_store 0 rfl rfl rfl rfl YtjipbndjcefbbaaDoorF.sz_66 rfl rfl rfl) ?_
            | refine TL_e0 rfl rfl (rfl) (ET_store 1 rfl rfl rfl rfl YtjipbndjcefbbaaDoorF.sz_66 rfl rfl rfl) ?_
            | refine TL_e0 rfl rfl (rfl) (ET_store 2 rfl rfl rfl rfl YtjipbndjcefbbaaDoorF.sz_66 rfl rfl rfl) ?_
          rintro _ _ ⟨rfl, rfl⟩
          refine TL_nil ?_
          refine TX_then ?_
          refine TC_cut (γ := Unit) (fun _ => [(1, true, .slice (some ⟨b, off, none⟩) n cap), (2, true, .pointer (some ⟨b2, 0, none⟩)), (6, true, fv), (7, true, .int .i64 (i : Int)), (8, true, .int .i64 ((npN (ptsT L) (flg xs i) : Nat) : Int)), (9, true, .int .i64 ((ncN (flg xs i) : Nat) : Int)), (10, true, .pointer (some ⟨b10, 0, none⟩))]) (fun _ => St w0 ((b10, 66, startP (tileB (ptsT L) xs i) (flg xs i)) :: (b2, 27, L.cells) :: (H ++ η))) ?_ ?_
          ·
            refine TC_seq ?_
            refine TC_reg ?_
            refine TL_q rfl rfl (QT_move rfl rfl rfl) ?_
            refine TL_q rfl rfl (QT_move rfl rfl rfl) ?_
            refine TL_q rfl rfl (QT_indexSlice (i) rfl rfl Tryd.underlying28 YtjipbndjcefbbaaDoorF.sz_64 rfl rfl (rfl) (fun _ => hi')) ?_
            refine TL_q rfl rfl (QT_field rfl rfl YtjipbndjcefbbaaDoorF.fld_64_0 rfl) ?_
            refine TL_q rfl rfl (QT_loadRj (i * 49) rfl rfl Tryd.underlying5 rfl (hR (_ :: _ :: H)) rfl (fun _ => hf1)) ?_
            refine TL_q rfl rfl (QT_gtr rfl rfl rfl rfl) ?_
            refine TL_nil ?_
            refine TX_then ?_
            first
              | refine TC_cond_dec rfl (fun h69 => ?_) (fun h69 => ?_)
              | refine TC_cond rfl (fun h69 => ?_) (fun h69 => ?_)
            ·
              have hne : flg xs i ≠ 0 := by omega
              have hi0 : 0 < i := by
                refine Nat.pos_of_ne_zero fun h0 => ?_
                subst h0
                simp only [Bool.and_eq_false_iff, decide_eq_false_iff_not] at h46
                omega
              have hTl : (tilesC (ptsT L) xs i).length = i * 48 := hF.1
              have hlast : ((tilesC (ptsT L) xs i).drop ((i - 1) * 48)).take 48 = tileB (ptsT L) xs i := by
                obtain ⟨j, rfl⟩ : ∃ j, i = j + 1 := ⟨i - 1, by omega⟩
                have h0 : tilesC (ptsT L) xs (j + 1) = tilesC (ptsT L) xs j ++ tileB (ptsT L) xs (j + 1) := rfl
                have h1 : (tilesC (ptsT L) xs j).length = j * 48 := by
                  have := hTl; rw [h0, List.length_append, htls] at this; omega
                rw [h0, show j + 1 - 1 = j by omega, ← h1, List.drop_left, List.take_of_length_le (by omega)]
              obtain ⟨_, fad, fcap, fb, foff, rfl, hfc, hfad, hfr⟩ := (hF.sla (w0 := w0) (η := [])).some
              obtain rfl := hfad hi0
              have hfr' : ∀ X : Heap, Rd (St w0 (X ++ (H ++ η))) fb foff (tilesC (ptsT L) xs i) := fun X => hfr.mono fun _ h => h.cnt fun p => by simp only [List.countP_append, List.countP_nil]; omega
              have hw : IntKind.i64.wrap (flg xs i : Int) = (flg xs i : Int) := wrap_i64 ⟨by omega, by omega⟩
              refine TC_seq ?_
              refine TC_reg ?_
              refine TL_q rfl rfl (QT_move rfl rfl rfl) ?_
              refine TL_q rfl rfl (QT_move rfl rfl rfl) ?_
              refine TL_q rfl rfl (QT_sub rfl rfl rfl rfl (fun _ => ⟨by omega, by omega⟩)) ?_
              refine TL_q rfl rfl (QT_indexG (i - 1) rfl rfl Tryd.underlying31 YtjipbndjcefbbaaDoorF.sz_66 rfl rfl (by omega) (fun _ => by omega) (fun _ => rfl)) ?_
              refine TL_q rfl rfl (QT_loadRAj ((i - 1) * 48) rfl rfl Tryd.underlying66 rfl YtjipbndjcefbbaaDoorF.sz_66 (hfr' [_, _]) rfl (fun _ => by rw [hTl]; omega) (fun _ => hlast)) ?_
              refine TL_e rfl rfl rfl (rfl) (ET_alloc rfl YtjipbndjcefbbaaDoorF.zero_66) ?_
              rintro _ _ ⟨b11, rfl, rfl⟩
              refine TL_e0 rfl rfl (rfl) (ET_storeW (vs := tileB (ptsT L) xs i) 0 rfl rfl rfl hzt rfl (List.all_eq_true.2 hti.oneCell) (by rw [htls]; rfl)) ?_
              rintro _ _ ⟨rfl, rfl⟩
              refine TL_nil ?_
              refine TX_then ?_
              refine TC_seq ?_
              refine TC_reg ?_
              refine TL_q rfl rfl (QT_move rfl rfl rfl) ?_
              refine TL_q rfl rfl (QT_move rfl rfl rfl) ?_
              refine TL_q rfl rfl (QT_indexSlice (i) rfl rfl Tryd.underlying28 YtjipbndjcefbbaaDoorF.sz_64 rfl rfl (rfl) (fun _ => hi')) ?_
              refine TL_q rfl rfl (QT_field rfl rfl YtjipbndjcefbbaaDoorF.fld_64_0 rfl) ?_
              refine TL_q rfl rfl (QT_loadRj (i * 49) rfl rfl Tryd.underlying5 rfl (hR (_ :: _ :: _ :: H)) rfl (fun _ => hf1)) ?_
              refine TL_q rfl rfl (QT_conv rfl rfl Tryd.underlying5 Tryd.underlying3 rfl) ?_
              refine TL_q rfl rfl (QT_assign rfl rfl rfl) ?_
              refine TL_nil ?_
              refine TX_then ?_
              refine TC_seq ?_
              refine TC_seq ?_
              refine TC_reg ?_
              refine TL_q rfl rfl (QT_assign rfl rfl rfl) ?_
              refine TL_nil ?_
              refine TX_then ?_
              refine TC_block ?_
              refine TC_loop (γ := { k : Nat // k ≤ 4 }) (fun t => [(1, true, .slice (some ⟨b, off, none⟩) n cap), (2, true, .pointer (some ⟨b2, 0, none⟩)), (6, true, .slice (some ⟨fb, foff, none⟩) i fcap), (7, true, .int .i64 (i : Int)), (8, true, .int .i64 ((npN (ptsT L) (flg xs i) : Nat) : Int)), (9, true, .int .i64 ((ncN (flg xs i) : Nat) : Int)), (10, true, .pointer (some ⟨b10, 0, none⟩)), (11, true, .pointer (some ⟨b11, 0, none⟩)), (12, true, .int .i64 (flg xs i : Int)), (13, true, .int .i64 (t.1 : Int))]) (fun t => St w0 ((b11, 66, tileB (ptsT L) xs i) :: (b10, 66, ptsTo (tileB (ptsT L) xs i) (flg xs i) t.1) :: (b2, 27, L.cells) :: (H ++ η))) (fun t => 4 - t.1) ⟨0, by omega⟩ ⟨rfl, rfl, rfl, rfl, slotI rfl (pts_eq hty), slotI rfl (col_eq hty), rfl, rfl, slotI rfl hw, rfl, trivial⟩ (fun _ h => h) ?_
              rintro ⟨k, hk⟩
              dsimp only
              refine TC_seq ?_
              refine TC_seq ?_
              refine TC_reg ?_
              refine TL_q rfl rfl (QT_move rfl rfl rfl) ?_
              refine TL_q rfl rfl (QT_lss rfl rfl rfl rfl) ?_
              refine TL_nil ?_
              refine TX_then ?_
              first
                | refine TC_cond_dec rfl (fun h82 => ?_) (fun h82 => ?_)
                | refine TC_cond rfl (fun h82 => ?_) (fun h82 => ?_)
              ·
                have hk' : k < 4 := by omega
                have hel := eP_lt (flg xs i) k
                have hpl := part_len (tileB (ptsT L) xs i) (0 + 0 + eP (flg xs i) k * 2) 2 (by omega)
                have hql := ptsTo_len (tileB (ptsT L) xs i) (flg xs i) k
                refine TC_skip ?_
                refine TX_then ?_
                refine TC_seq ?_
                refine TC_block ?_
                refine TC_reg ?_
                refine TL_q rfl rfl (QT_move rfl rfl rfl) ?_
                refine TL_q rfl rfl (QT_move rfl rfl rfl) ?_
                refine TL_q rfl rfl (QT_mul rfl rfl rfl rfl (fun _ => ⟨by omega, by omega⟩)) ?_
                refine TL_q rfl rfl (QT_move rfl rfl rfl) ?_
                refine TL_q rfl rfl (QT_add rfl rfl rfl rfl (fun _ => ⟨by omega, by omega⟩)) ?_
                refine TL_q rfl rfl (QT_rem rfl rfl rfl rfl (fun _ => ⟨by omega, by omega⟩)) ?_
                refine TL_q rfl rfl (QT_field rfl rfl YtjipbndjcefbbaaDoorF.fld_66_0 rfl) ?_
                refine TL_q rfl rfl (QT_indexArr (eP (flg xs i) k) rfl rfl Tryd.underlying58 YtjipbndjcefbbaaDoorF.sz_57 rfl rfl ((by unfold eP; omega)) (fun _ => by omega)) ?_
                refine TL_q rfl rfl (QT_loadA 0 rfl rfl Tryd.underlying57 rfl rfl rfl YtjipbndjcefbbaaDoorF.sz_57 (fun _ => Nat.ble_eq_true_of_le (show 0 + 0 + eP (flg xs i) k * 2 + 2 ≤ (tileB (ptsT L) xs i).length by omega))) ?_
                refine TL_q rfl rfl (QT_field rfl rfl YtjipbndjcefbbaaDoorF.fld_66_0 rfl) ?_
                refine TL_q rfl rfl (QT_indexArr (k) rfl rfl Tryd.underlying58 YtjipbndjcefbbaaDoorF.sz_57 rfl rfl (rfl) (fun _ => by omega)) ?_
                refine TL_e0 rfl rfl (rfl) (ET_store (vs := ((tileB (ptsT L) xs i).drop (0 + 0 + eP (flg xs i) k * 2)).take 2) 1 rfl rfl rfl rfl (by rw [hpl]; exact YtjipbndjcefbbaaDoorF.sz_57) rfl (all_part hti _ _) (Nat.ble_eq_true_of_le (by rw [hpl, hql]; omega))) ?_
                rintro _ _ ⟨rfl, rfl⟩
                refine TL_nil ?_
                refine TX_block_normal ?_
                refine TX_then ?_
                refine TC_reg ?_
                refine TL_q rfl rfl (QT_move rfl rfl rfl) ?_
                refine TL_q rfl rfl (QT_add rfl rfl rfl rfl (fun _ => ⟨by omega, by omega⟩)) ?_
                refine TL_q rfl rfl (QT_assign rfl rfl rfl) ?_
                refine TL_nil ?_
                exact TX_round ⟨k + 1, by omega⟩ (by show 4 - (k + 1) < 4 - k; omega) ⟨rfl, rfl, rfl, rfl, rfl, rfl, rfl, rfl, rfl, rfl, trivial⟩ (fun _ h => h)
              ·
                refine TC_exit ?_
                refine TX_then_exit ?_
                refine TX_then_exit ?_
                refine TX_block_here ?_
                refine TX_then ?_
                refine TC_seq ?_
                obtain rfl : k = 4 := by omega
                have hel0 := eC_lt (flg xs i) 0
                have hel1 := eC_lt (flg xs i) 1
                have hql := ptsTo_len (tileB (ptsT L) xs i) (flg xs i) 4
                have hpl0 := part_len (tileB (ptsT L) xs i) (0 + 32 + eC (flg xs i) 0 * 4) 4 (by omega)
                have hpl1 := part_len (tileB (ptsT L) xs i) (0 + 32 + eC (flg xs i) 1 * 4) 4 (by omega)
                refine TC_reg ?_
                refine TL_q rfl rfl (QT_move rfl rfl rfl) ?_
                refine TL_q rfl rfl (QT_field rfl rfl YtjipbndjcefbbaaDoorF.fld_66_1 rfl) ?_
                refine TL_q rfl rfl (QT_indexArr (eC (flg xs i) 0) rfl rfl Tryd.underlying62 YtjipbndjcefbbaaDoorF.sz_61 rfl rfl ((by unfold eC; omega)) (fun _ => by omega)) ?_
                refine TL_q rfl rfl (QT_loadA 0 rfl rfl Tryd.underlying61 rfl rfl rfl YtjipbndjcefbbaaDoorF.sz_61 (fun _ => Nat.ble_eq_true_of_le (show 0 + 32 + eC (flg xs i) 0 * 4 + 4 ≤ (tileB (ptsT L) xs i).length by omega))) ?_
                refine TL_q rfl rfl (QT_field rfl rfl YtjipbndjcefbbaaDoorF.fld_66_1 rfl) ?_
                refine TL_q rfl rfl (QT_indexArr (0) rfl rfl Tryd.underlying62 YtjipbndjcefbbaaDoorF.sz_61 rfl rfl (rfl) (fun _ => by decide)) ?_
                refine TL_e0 rfl rfl (rfl) (ET_store (vs := ((tileB (ptsT L) xs i).drop (0 + 32 + eC (flg xs i) 0 * 4)).take 4) 1 rfl rfl rfl rfl (by rw [hpl0]; exact YtjipbndjcefbbaaDoorF.sz_61) rfl (all_part hti _ _) (Nat.ble_eq_true_of_le (by rw [hpl0, hql]; decide))) ?_
                rintro _ _ ⟨rfl, rfl⟩
                refine TL_nil ?_
                refine TX_then ?_
                refine TC_reg ?_
                refine TL_q rfl rfl (QT_move rfl rfl rfl) ?_
                refine TL_q rfl rfl (QT_add rfl rfl rfl rfl (fun _ => ⟨by omega, by omega⟩)) ?_
                refine TL_q rfl rfl (QT_rem rfl rfl rfl rfl (fun _ => ⟨by omega, by omega⟩)) ?_
                refine TL_q rfl rfl (QT_field rfl rfl YtjipbndjcefbbaaDoorF.fld_66_1 rfl) ?_
                refine TL_q rfl rfl (QT_indexArr (eC (flg xs i) 1) rfl rfl Tryd.underlying62 YtjipbndjcefbbaaDoorF.sz_61 rfl rfl ((by unfold eC; omega)) (fun _ => by omega)) ?_
                refine TL_q rfl rfl (QT_loadA 0 rfl rfl Tryd.underlying61 rfl rfl rfl YtjipbndjcefbbaaDoorF.sz_61 (fun _ => Nat.ble_eq_true_of_le (show 0 + 32 + eC (flg xs i) 1 * 4 + 4 ≤ (tileB (ptsT L) xs i).length by omega))) ?_
                refine TL_q rfl rfl (QT_field rfl rfl YtjipbndjcefbbaaDoorF.fld_66_1 rfl) ?_
                refine TL_q rfl rfl (QT_indexArr (1) rfl rfl Tryd.underlying62 YtjipbndjcefbbaaDoorF.sz_61 rfl rfl (rfl) (fun _ => by decide)) ?_
                refine TL_e0 rfl rfl (rfl) (ET_store (vs := ((tileB (ptsT L) xs i).drop (0 + 32 + eC (flg xs i) 1 * 4)).take 4) 1 rfl rfl rfl rfl (by rw [hpl1]; exact YtjipbndjcefbbaaDoorF.sz_61) rfl (all_part hti _ _) (Nat.ble_eq_true_of_le (by rw [hpl1, setAt_length, hql]; decide))) ?_
                rintro _ _ ⟨rfl, rfl⟩
                refine TL_nil ?_
                exact TX_cut () ⟨rfl, rfl, rfl, rfl, rfl, rfl, rfl, trivial⟩ (fun w h => by
                  unfold startP; rw [if_neg hne]; exact h.tail)
            ·
              refine TC_skip ?_
              exact TX_cut () ⟨rfl, rfl, rfl, rfl, slotI rfl (pts_eq hty), slotI rfl (col_eq hty), rfl, trivial⟩ (fun w h => by
                have h0 : flg xs i = 0 := by omega
                unfold startP; rw [if_pos h0]; exact h)
          rintro ⟨⟩
          refine TC_seq ?_
          refine TC_reg ?_
          refine TL_q rfl rfl (QT_assign rfl rfl rfl) ?_
          refine TL_nil ?_
          refine TX_then ?_
          refine TC_seq ?_
          refine TC_reg ?_
          refine TL_q rfl rfl (QT_assign rfl rfl rfl) ?_
          refine TL_nil ?_
          refine TX_then ?_
          refine TC_cut (γ := Unit) (fun _ => [(1, true, .slice (some ⟨b, off, none⟩) n cap), (2, true, .pointer (some ⟨b2, 0, none⟩)), (6, true, fv), (7, true, .int .i64 (i : Int)), (8, true, .int .i64 ((npN (ptsT L) (flg xs i) : Nat) : Int)), (9, true, .int .i64 ((ncN (flg xs i) : Nat) : Int)), (10, true, .pointer (some ⟨b10, 0, none⟩)), (14, true, .int .i64 ((atN (flg xs i) : Nat) : Int)), (15, true, .int .i64 ((hvN (flg xs i) : Nat) : Int))]) (fun _ => St w0 ((b10, 66, startP (tileB (ptsT L) xs i) (flg xs i)) :: (b2, 27, L.cells) :: (H ++ η))) ?_ ?_
          ·
            refine TC_seq ?_
            refine TC_reg ?_
            refine TL_q rfl rfl (QT_move rfl rfl rfl) ?_
            refine TL_q rfl rfl (QT_move rfl rfl rfl) ?_
            refine TL_q rfl rfl (QT_indexSlice (i) rfl rfl Tryd.underlying28 YtjipbndjcefbbaaDoorF.sz_64 rfl rfl (rfl) (fun _ => hi')) ?_
            refine TL_q rfl rfl (QT_field rfl rfl YtjipbndjcefbbaaDoorF.fld_64_0 rfl) ?_
            refine TL_q rfl rfl (QT_loadRj (i * 49) rfl rfl Tryd.underlying5 rfl (hR (_ :: _ :: H)) rfl (fun _ => hf1)) ?_
            refine TL_q rfl rfl (QT_gtr rfl rfl rfl rfl) ?_
            refine TL_nil ?_
            refine TX_then ?_
            first
              | refine TC_cond_dec rfl (fun h115 => ?_) (fun h115 => ?_)
              | refine TC_cond rfl (fun h115 => ?_) (fun h115 => ?_)
            ·
              refine TC_seq ?_
              refine TC_reg ?_
              refine TL_q rfl rfl (QT_assign rfl rfl rfl) ?_
              refine TL_nil ?_
              refine TX_then ?_
              refine TC_reg ?_
              refine TL_q rfl rfl (QT_assign rfl rfl rfl) ?_
              refine TL_nil ?_
              exact TX_cut () ⟨rfl, rfl, rfl, rfl, rfl, rfl, rfl, slotI rfl (by unfold atN; rw [if_neg (by omega)]; rfl), slotI rfl (by unfold hvN; rw [if_neg (by omega)]; rfl), trivial⟩ (fun _ h => h)
            ·
              refine TC_skip ?_
              exact TX_cut () ⟨rfl, rfl, rfl, rfl, rfl, rfl, rfl, slotI rfl (by unfold atN; rw [if_pos (by omega)]; rfl), slotI rfl (by unfold hvN; rw [if_pos (by omega)]; rfl), trivial⟩ (fun _ h => h)
          rintro ⟨⟩
          have hb1 := npN_bd (f := flg xs i) (ptsT_or L)
          have hb2 := ncN_bd (flg xs i)
          have hp12 := ptsT_or L
          have hsl := startP_len (tileB (ptsT L) xs i) (flg xs i)
          refine TC_seq ?_
          refine TC_seq ?_
          refine TC_reg ?_
          refine TL_q rfl rfl (QT_assign rfl rfl rfl) ?_
          refine TL_nil ?_
          refine TX_then ?_
          refine TC_block ?_
          refine TC_loop (γ := { k : Nat // k ≤ npN (ptsT L) (flg xs i) }) (fun t => [(1, true, .slice (some ⟨b, off, none⟩) n cap), (2, true, .pointer (some ⟨b2, 0, none⟩)), (6, true, fv), (7, true, .int .i64 (i : Int)), (8, true, .int .i64 ((npN (ptsT L) (flg xs i) : Nat) : Int)), (9, true, .int .i64 ((ncN (flg xs i) : Nat) : Int)), (10, true, .pointer (some ⟨b10, 0, none⟩)), (14, true, .int .i64 ((atN (flg xs i) : Nat) : Int)), (15, true, .int .i64 ((hvN (flg xs i) : Nat) : Int)), (16, true, .int .i64 (t.1 : Int))]) (fun t => St w0 ((b10, 66, rP (elem xs 49 i) (startP (tileB (ptsT L) xs i) (flg xs i)) (atN (flg xs i)) t.1) :: (b2, 27, L.cells) :: (H ++ η))) (fun t => npN (ptsT L) (flg xs i) - t.1) ⟨0, by omega⟩ ⟨rfl, rfl, rfl, rfl, rfl, rfl, rfl, rfl, rfl, rfl, trivial⟩ (fun _ h => h) ?_
          rintro ⟨k, hk⟩
          dsimp only
          refine TC_seq ?_
          refine TC_seq ?_
          refine TC_reg ?_
          refine TL_q rfl rfl (QT_move rfl rfl rfl) ?_
          refine TL_q rfl rfl (QT_move rfl rfl rfl) ?_
          refine TL_q rfl rfl (QT_lss rfl rfl rfl rfl) ?_
          refine TL_nil ?_
          refine TX_then ?_
          first
            | refine TC_cond_dec rfl (fun h118 => ?_) (fun h118 => ?_)
            | refine TC_cond rfl (fun h118 => ?_) (fun h118 => ?_)
          ·
            have hk' : k < npN (ptsT L) (flg xs i) := by omega
            have hpl := part_len (elem xs 49 i) (1 + k * 2) 2 (by omega)
            have hql := rP_len (elem xs 49 i) (startP (tileB (ptsT L) xs i) (flg xs i)) (atN (flg xs i)) k
            refine TC_skip ?_
            refine TX_then ?_
            refine TC_seq ?_
            refine TC_block ?_
            refine TC_reg ?_
            refine TL_q rfl rfl (QT_move rfl rfl rfl) ?_
            refine TL_q rfl rfl (QT_move rfl rfl rfl) ?_
            refine TL_q rfl rfl (QT_add rfl rfl rfl rfl (fun _ => ⟨by omega, by omega⟩)) ?_
            refine TL_q rfl rfl (QT_move rfl rfl rfl) ?_
            refine TL_q rfl rfl (QT_move rfl rfl rfl) ?_
            refine TL_q rfl rfl (QT_move rfl rfl rfl) ?_
            refine TL_q rfl rfl (QT_indexSlice (i) rfl rfl Tryd.underlying28 YtjipbndjcefbbaaDoorF.sz_64 rfl rfl (rfl) (fun _ => hi')) ?_
            refine TL_q rfl rfl (QT_field rfl rfl YtjipbndjcefbbaaDoorF.fld_64_1 rfl) ?_
            refine TL_q rfl rfl (QT_indexArr (k) rfl rfl Tryd.underlying58 YtjipbndjcefbbaaDoorF.sz_57 rfl rfl (rfl) (fun _ => by omega)) ?_
            refine TL_q rfl rfl (QT_loadRAj (i * 49 + (1 + k * 2)) rfl rfl Tryd.underlying57 rfl YtjipbndjcefbbaaDoorF.sz_57 (hR (_ :: _ :: H)) rfl (fun _ => by omega) (fun _ => elem_part xs i (1 + k * 2) 2 (by omega))) ?_
            refine TL_q rfl rfl (QT_field rfl rfl YtjipbndjcefbbaaDoorF.fld_66_0 rfl) ?_
            refine TL_q rfl rfl (QT_indexArr (atN (flg xs i) + k) rfl rfl Tryd.underlying58 YtjipbndjcefbbaaDoorF.sz_57 rfl rfl (rfl) (fun _ => by omega)) ?_
            refine TL_e0 rfl rfl (rfl) (ET_store (vs := ((elem xs 49 i).drop (1 + k * 2)).take 2) 0 rfl rfl rfl rfl (by rw [hpl]; exact YtjipbndjcefbbaaDoorF.sz_57) rfl (all_part hei _ _) (Nat.ble_eq_true_of_le (by rw [hpl, hql, hsl]; omega))) ?_
            rintro _ _ ⟨rfl, rfl⟩
            refine TL_nil ?_
            refine TX_block_normal ?_
            refine TX_then ?_
            refine TC_reg ?_
            refine TL_q rfl rfl (QT_move rfl rfl rfl) ?_
            refine TL_q rfl rfl (QT_add rfl rfl rfl rfl (fun _ => ⟨by omega, by omega⟩)) ?_
            refine TL_q rfl rfl (QT_assign rfl rfl rfl) ?_
            refine TL_nil ?_
            exact TX_round ⟨k + 1, by omega⟩ (by show npN (ptsT L) (flg xs i) - (k + 1) < npN (ptsT L) (flg xs i) - k; omega) ⟨rfl, rfl, rfl, rfl, rfl, rfl, rfl, rfl, rfl, rfl, trivial⟩ (fun _ h => h)
          ·
            refine TC_exit ?_
            refine TX_then_exit ?_
            refine TX_then_exit ?_
            refine TX_block_here ?_
            refine TX_then ?_
            refine TC_seq ?_
            refine TC_seq ?_
            refine TC_reg ?_
            refine TL_q rfl rfl (QT_assign rfl rfl rfl) ?_
            refine TL_nil ?_
            refine TX_then ?_
            refine TC_block ?_
            obtain rfl : k = npN (ptsT L) (flg xs i) := by omega
            refine TC_loop (γ := { k : Nat // k ≤ ncN (flg xs i) }) (fun t => [(1, true, .slice (some ⟨b, off, none⟩) n cap), (2, true, .pointer (some ⟨b2, 0, none⟩)), (6, true, fv), (7, true, .int .i64 (i : Int)), (9, true, .int .i64 ((ncN (flg xs i) : Nat) : Int)), (10, true, .pointer (some ⟨b10, 0, none⟩)), (15, true, .int .i64 ((hvN (flg xs i) : Nat) : Int)), (17, true, .int .i64 (t.1 : Int))]) (fun t => St w0 ((b10, 66, rC (elem xs 49 i) (rP (elem xs 49 i) (startP (tileB (ptsT L) xs i) (flg xs i)) (atN (flg xs i)) (npN (ptsT L) (flg xs i))) (hvN (flg xs i)) t.1) :: (b2, 27, L.cells) :: (H ++ η))) (fun t => ncN (flg xs i) - t.1) ⟨0, by omega⟩ ⟨rfl, rfl, rfl, rfl, rfl, rfl, rfl, rfl, trivial⟩ (fun _ h => h) ?_
            rintro ⟨m, hm⟩
            dsimp only
            refine TC_seq ?_
            refine TC_seq ?_
            refine TC_reg ?_
            refine TL_q rfl rfl (QT_move rfl rfl rfl) ?_
            refine TL_q rfl rfl (QT_move rfl rfl rfl) ?_
            refine TL_q rfl rfl (QT_lss rfl rfl rfl rfl) ?_
            refine TL_nil ?_
            refine TX_then ?_
            first
              | refine TC_cond_dec rfl (fun h135 => ?_) (fun h135 => ?_)
              | refine TC_cond rfl (fun h135 => ?_) (fun h135 => ?_)
            ·
              have hm' : m < ncN (flg xs i) := by omega
              have hpl := part_len (elem xs 49 i) (33 + m * 4) 4 (by omega)
              have hql := rC_len (elem xs 49 i) (rP (elem xs 49 i) (startP (tileB (ptsT L) xs i) (flg xs i)) (atN (flg xs i)) (npN (ptsT L) (flg xs i))) (hvN (flg xs i)) m
              have hrl := rP_len (elem xs 49 i) (startP (tileB (ptsT L) xs i) (flg xs i)) (atN (flg xs i)) (npN (ptsT L) (flg xs i))
              refine TC_skip ?_
              refine TX_then ?_
              refine TC_seq ?_
              refine TC_block ?_
              refine TC_reg ?_
              refine TL_q rfl rfl (QT_move rfl rfl rfl) ?_
              refine TL_q rfl rfl (QT_move rfl rfl rfl) ?_
              refine TL_q rfl rfl (QT_add rfl rfl rfl rfl (fun _ => ⟨by omega, by omega⟩)) ?_
              refine TL_q rfl rfl (QT_move rfl rfl rfl) ?_
              refine TL_q rfl rfl (QT_move rfl rfl rfl) ?_
              refine TL_q rfl rfl (QT_move rfl rfl rfl) ?_
              refine TL_q rfl rfl (QT_indexSlice (i) rfl rfl Tryd.underlying28 YtjipbndjcefbbaaDoorF.sz_64 rfl rfl (rfl) (fun _ => hi')) ?_
              refine TL_q rfl rfl (QT_field rfl rfl YtjipbndjcefbbaaDoorF.fld_64_2 rfl) ?_
              refine TL_q rfl rfl (QT_indexArr (m) rfl rfl Tryd.underlying62 YtjipbndjcefbbaaDoorF.sz_61 rfl rfl (rfl) (fun _ => by omega)) ?_
              refine TL_q rfl rfl (QT_loadRAj (i * 49 + (33 + m * 4)) rfl rfl Tryd.underlying61 rfl YtjipbndjcefbbaaDoorF.sz_61 (hR (_ :: _ :: H)) rfl (fun _ => by omega) (fun _ => elem_part xs i (33 + m * 4) 4 (by omega))) ?_
              refine TL_q rfl rfl (QT_field rfl rfl YtjipbndjcefbbaaDoorF.fld_66_1 rfl) ?_
              refine TL_q rfl rfl (QT_indexArr (hvN (flg xs i) + m) rfl rfl Tryd.underlying62 YtjipbndjcefbbaaDoorF.sz_61 rfl rfl (rfl) (fun _ => by omega)) ?_
              refine TL_e0 rfl rfl (rfl) (ET_store (vs := ((elem xs 49 i).drop (33 + m * 4)).take 4) 0 rfl rfl rfl rfl (by rw [hpl]; exact YtjipbndjcefbbaaDoorF.sz_61) rfl (all_part hei _ _) (Nat.ble_eq_true_of_le (by rw [hpl, hql, hrl, hsl]; omega))) ?_
              rintro _ _ ⟨rfl, rfl⟩
              refine TL_nil ?_
              refine TX_block_normal ?_
              refine TX_then ?_
              refine TC_reg ?_
              refine TL_q rfl rfl (QT_move rfl rfl rfl) ?_
              refine TL_q rfl rfl (QT_add rfl rfl rfl rfl (fun _ => ⟨by omega, by omega⟩)) ?_
              refine TL_q rfl rfl (QT_assign rfl rfl rfl) ?_
              refine TL_nil ?_
              exact TX_round ⟨m + 1, by omega⟩ (by show ncN (flg xs i) - (m + 1) < ncN (flg xs i) - m; omega) ⟨rfl, rfl, rfl, rfl, rfl, rfl, rfl, rfl, trivial⟩ (fun _ h => h)
            ·
              refine TC_exit ?_
              refine TX_then_exit ?_
              refine TX_then_exit ?_
              refine TX_block_here ?_
              refine TX_then ?_
              obtain rfl : m = ncN (flg xs i) := by omega
              refine TC_A (St w0 ((b10, 66, wholeC (ptsT L) (flg xs i) (elem xs 49 i) (tileB (ptsT L) xs i)) :: (b2, 27, L.cells) :: (H ++ η))) (fun w h => by rw [← ref_eq hels htls (ptsT_or L) (show flg xs i = 0 ∨ flg xs i = 1 ∨ flg xs i = 2 ∨ flg xs i = 3 by omega)]; exact h) ?_
              have hwi : Ints patchK (wholeC (ptsT L) (flg xs i) (elem xs 49 i) (tileB (ptsT L) xs i)) := whole_ints hei hti (ptsT_or L) hf3'
              have hwls : (wholeC (ptsT L) (flg xs i) (elem xs 49 i) (tileB (ptsT L) xs i)).length = 48 := hwi.length
              have hzw : Sz Tryd.prog 66 (wholeC (ptsT L) (flg xs i) (elem xs 49 i) (tileB (ptsT L) xs i)).length := by rw [hwls]; exact YtjipbndjcefbbaaDoorF.sz_66
              refine TC_reg ?_
              refine TL_q rfl rfl (QT_move rfl rfl rfl) ?_
              refine TL_q rfl rfl (QT_loadW (cs := wholeC (ptsT L) (flg xs i) (elem xs 49 i) (tileB (ptsT L) xs i)) 0 rfl rfl Tryd.underlying66 rfl rfl rfl hzw) ?_
              refine TL_e rfl rfl rfl (rfl) (ET_buildN [_] rfl Tryd.underlying31 YtjipbndjcefbbaaDoorF.sz_66 YtjipbndjcefbbaaDoorF.zero_66 rfl rfl rfl (fun v hv => by cases List.mem_singleton.1 hv; exact hwls)) ?_
              rintro _ _ ⟨b152, rfl, rfl⟩
              refine TL_e rfl rfl rfl (rfl) (ET_appendL (L := [_, _, _]) rfl Tryd.underlying31 el_Patch rfl rfl hF (fun _ h => h) (SlA.own (n := 1) (xs := wholeC (ptsT L) (flg xs i) (elem xs 49 i) (tileB (ptsT L) xs i)) 0 rfl (by rw [List.drop_zero, List.take_of_length_le (by simp [Value.cells, hwls])]; simp [Value.cells]) (by simp [Value.cells, hwls]) (by omega)) hwi.oneCell (by omega) (by omega)) ?_
              rintro fv2 _ ⟨H', hF', rfl⟩
              refine TL_q rfl rfl (QT_assign rfl rfl rfl) ?_
              refine TL_nil ?_
              refine TX_block_normal ?_
              refine TX_then ?_
              refine TC_reg ?_
              refine TL_q rfl rfl (QT_move rfl rfl rfl) ?_
              refine TL_q rfl rfl (QT_add rfl rfl rfl rfl (fun _ => ⟨by omega, by omega⟩)) ?_
              refine TL_q rfl rfl (QT_assign rfl rfl rfl) ?_
              refine TL_nil ?_
              exact TX_round ⟨(i + 1, fv2, H'), hi', hbf2, fun _ => Classical.byContradiction fun hne => hz0 ⟨by omega, hne⟩, hF'⟩ (by show n - (i + 1) < n - i; omega) ⟨rfl, rfl, rfl, rfl, trivial⟩ (fun _ h => h.tail.tail)
    ·
      refine TC_exit ?_
      refine TX_then_exit ?_
      refine TX_then_exit ?_
      refine TX_block_here ?_
      refine TX_then ?_
      refine TC_seq ?_
      refine TC_reg ?_
      refine TL_q rfl rfl (QT_move rfl rfl rfl) ?_
      refine TL_q rfl rfl (QT_assign rfl rfl rfl) ?_
      refine TL_q rfl rfl (QT_assign rfl rfl rfl) ?_
      refine TL_nil ?_
      refine TX_then ?_
      refine TC_ret ?_
      obtain rfl : i = n := by omega
      have e0 : errT L i xs = 0 := by unfold errT; rw [if_pos ⟨hok, h6⟩, if_neg (fun h => h.2 (hz h.1)), if_neg (by rw [bigB_none hbf]; decide)]
      exact TX_ret (.inl rfl) (res2 rfl rfl rfl) ⟨_, ⟨fv, H, by rw [e0], by unfold cntT outT; rw [if_pos e0, if_pos e0]; exact hF, rfl⟩, fun _ h => h.tail⟩
end Go.Proofs.YtjipbndjcefbbaaDoor

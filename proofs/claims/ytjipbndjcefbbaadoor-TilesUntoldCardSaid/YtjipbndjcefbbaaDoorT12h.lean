/- THE LAW OF WHAT IS NOT TOLD: points and colours beyond a sheet's own make no difference. -/
import Derived.Test.YtjipbndjcefbbaaDoorT12e
import Derived.Test.YtjipbndjcefbbaaDoorT12f
namespace Go.Proofs.YtjipbndjcefbbaaDoor
open Go Go.Gx Go.RowKit
set_option maxRecDepth 100000

def yP (s x : List Value) (a : Nat) : Nat → List Value
  | 0 => s
  | k + 1 => setAt (yP s x a k) (0 + 1 + (a + k) * 2) ((x.drop (0 + 1 + (a + k) * 2)).take 2)
def yC (s x : List Value) (a : Nat) : Nat → List Value
  | 0 => s
  | k + 1 => setAt (yC s x a k) (0 + 33 + (a + k) * 4) ((x.drop (0 + 33 + (a + k) * 4)).take 4)
theorem yP_len (s x : List Value) (a : Nat) : ∀ k, (yP s x a k).length = s.length
  | 0 => rfl
  | k + 1 => by rw [yP, setAt_length, yP_len s x a k]
theorem yC_len (s x : List Value) (a : Nat) : ∀ k, (yC s x a k).length = s.length
  | 0 => rfl
  | k + 1 => by rw [yC, setAt_length, yC_len s x a k]
def yS (pts f : Nat) (s x : List Value) : List Value := yC (yP s x (npN pts f) (16 - npN pts f)) x (ncN f) (4 - ncN f)
theorem yS_eq {pts f : Nat} {s x ah : List Value} (hs : s.length = 49) (hx : x.length = 49) (ha : ah.length = 48) (hp : pts = 12 ∨ pts = 16) (hf : f = 0 ∨ f = 1 ∨ f = 2 ∨ f = 3) : wholeC pts f (yS pts f s x) ah = wholeC pts f s ah := by
  obtain ⟨g, rfl⟩ := tab' (.bool false) s hs
  obtain ⟨h, rfl⟩ := tab' (.bool false) ah ha
  obtain ⟨y, rfl⟩ := tab' (.bool false) x hx
  rcases hp with rfl | rfl <;> rcases hf with rfl | rfl | rfl | rfl <;> kernel_rfl
theorem setAt_split : ∀ (pre cs vs : List Value), setAt (pre ++ cs) pre.length vs = pre ++ setAt cs 0 vs := by
  have key : ∀ (vs pre cs : List Value) (o : Nat), setAt (pre ++ cs) (pre.length + o) vs = pre ++ setAt cs o vs := by
    intro vs
    induction vs with
    | nil => intro pre cs o; rfl
    | cons v vs ih =>
      intro pre cs o
      simp only [setAt]
      rw [List.set_append_right _ _ (by omega), show pre.length + o - pre.length = o by omega]
      exact ih pre _ (o + 1)
  exact fun pre cs vs => key vs pre cs 0
/-- what is put in place of integers of the same kinds -/
theorem setAt_ints {ks : List IntKind} {cs vs : List Value} (h : Ints ks cs) (o m : Nat) (hv : Ints ((ks.drop o).take m) vs) (hom : o + m ≤ ks.length) : Ints ks (setAt cs o vs) := by
  have hl : cs.length = ks.length := h.length
  have hvl : vs.length = m := by rw [hv.length, List.length_take, List.length_drop]; omega
  have e : cs = cs.take o ++ (cs.drop o).take m ++ cs.drop (o + m) := by rw [List.append_assoc, ← List.drop_drop, List.take_append_drop, List.take_append_drop]
  have ek : ks = ks.take o ++ (ks.drop o).take m ++ ks.drop (o + m) := by rw [List.append_assoc, ← List.drop_drop, List.take_append_drop, List.take_append_drop]
  have hto : (cs.take o).length = o := by rw [List.length_take]; omega
  have h2 : setAt cs o vs = cs.take o ++ vs ++ cs.drop (o + m) := by
    conv => lhs; rw [e, ← hto]
    rw [hto]
    have := setAt_mid vs (cs.take o) ((cs.drop o).take m) (cs.drop (o + m)) (by rw [hvl, List.length_take, List.length_drop]; omega)
    rw [hto] at this
    exact this
  rw [h2, ek]
  exact ((h.take o).append hv).append (h.drop (o + m))
theorem yP_ints {s x : List Value} (hs : Ints sheetK s) (hx : Ints sheetK x) (a : Nat) : ∀ k, a + k ≤ 16 → Ints sheetK (yP s x a k)
  | 0, _ => hs
  | k + 1, h => setAt_ints (yP_ints hs hx a k (by omega)) _ 2 ((hx.drop _).take 2) (by show 0 + 1 + (a + k) * 2 + 2 ≤ 49; omega)
theorem yC_ints {s x : List Value} (hs : Ints sheetK s) (hx : Ints sheetK x) (a : Nat) : ∀ k, a + k ≤ 4 → Ints sheetK (yC s x a k)
  | 0, _ => hs
  | k + 1, h => setAt_ints (yC_ints hs hx a k (by omega)) _ 4 ((hx.drop _).take 4) (by show 0 + 33 + (a + k) * 4 + 4 ≤ 49; omega)
theorem setAt_0 : ∀ (vs cs : List Value) (o : Nat), 0 < o → (setAt cs o vs)[0]? = cs[0]?
  | [], _, _, _ => rfl
  | v :: r, cs, o, h => by
    simp only [setAt]
    rw [setAt_0 r _ (o + 1) (by omega), List.getElem?_set_ne (by omega)]
theorem yP_0 (s x : List Value) (a : Nat) : ∀ k, (yP s x a k)[0]? = s[0]?
  | 0 => rfl
  | k + 1 => by rw [yP, setAt_0 _ _ _ (by omega), yP_0 s x a k]
theorem yC_0 (s x : List Value) (a : Nat) : ∀ k, (yC s x a k)[0]? = s[0]?
  | 0 => rfl
  | k + 1 => by rw [yC, setAt_0 _ _ _ (by omega), yC_0 s x a k]
theorem npN_bd2 {pts f : Nat} (h : pts = 12 ∨ pts = 16) : npN pts f ≤ 16 ∧ ncN f ≤ 4 := by unfold npN ncN; split <;> omega
theorem yS_ints {pts f : Nat} {s x : List Value} (hs : Ints sheetK s) (hx : Ints sheetK x) (hp : pts = 12 ∨ pts = 16) : Ints sheetK (yS pts f s x) := by
  have := npN_bd2 (f := f) hp
  exact yC_ints (yP_ints hs hx _ _ (by omega)) hx _ _ (by omega)
theorem yS_0 (pts f : Nat) (s x : List Value) : (yS pts f s x)[0]? = s[0]? := by unfold yS; rw [yC_0, yP_0]
def ysC (pts : Nat) (xs x : List Value) : Nat → List Value
  | 0 => []
  | i + 1 => ysC pts xs x i ++ yS pts (flg xs i) (elem xs 49 i) x
theorem ysC_ints {pts n : Nat} {xs x : List Value} (hi : Ints (rep n sheetK) xs) (hx : Ints sheetK x) (hp : pts = 12 ∨ pts = 16) : ∀ i, i ≤ n → Ints (rep i sheetK) (ysC pts xs x i)
  | 0, _ => by show Ints (rep 0 sheetK) []; simpa [rep] using Ints.nil
  | i + 1, h => by
    rw [rep_succR]
    exact (ysC_ints hi hx hp i (by omega)).append (yS_ints (hi.elem (by omega)) hx hp)
theorem ysC_elem {pts n : Nat} {xs x : List Value} (hi : Ints (rep n sheetK) xs) (hx : Ints sheetK x) (hp : pts = 12 ∨ pts = 16) : ∀ m i, m ≤ n → i < m → elem (ysC pts xs x m) 49 i = yS pts (flg xs i) (elem xs 49 i) x
  | 0, i, _, h => absurd h (Nat.not_lt_zero i)
  | m + 1, i, hm, h => by
    have hlen : (ysC pts xs x m).length = m * 49 := by rw [(ysC_ints hi hx hp m (by omega)).length, rep_len]; rfl
    unfold elem ysC
    by_cases h2 : i < m
    · have h1 : (i + 1) * 49 ≤ m * 49 := Nat.mul_le_mul_right _ h2
      rw [List.drop_append_of_le_length (by omega), List.take_append_of_le_length (by rw [List.length_drop]; omega)]
      exact ysC_elem hi hx hp m i (by omega) h2
    · obtain rfl : i = m := by omega
      have hyl : (yS pts (flg xs i) (elem xs 49 i) x).length = 49 := (yS_ints (pts := pts) (f := flg xs i) (hi.elem hm) hx hp).length
      rw [← hlen, List.drop_left, List.take_of_length_le (by omega), hlen]
      rfl
def f0 : Option Value → Nat
  | some (.int _ z) => z.toNat
  | _ => 0
theorem flg_of {xs : List Value} {i : Nat} : flg xs i = f0 (elem xs 49 i)[0]? := by
  have h0 : (elem xs 49 i)[0]? = xs[i * 49]? := by
    unfold elem
    rw [List.getElem?_take_of_lt (by decide), List.getElem?_drop, Nat.add_zero]
  rw [h0]; unfold flg f0; rfl
theorem ysC_flg {pts n : Nat} {xs x : List Value} (hi : Ints (rep n sheetK) xs) (hx : Ints sheetK x) (hp : pts = 12 ∨ pts = 16) {i : Nat} (h : i < n) : flg (ysC pts xs x n) i = flg xs i := by
  rw [flg_of, ysC_elem hi hx hp n i (Nat.le_refl _) h, yS_0, ← flg_of]
theorem bigB_congr {xs ys : List Value} {n : Nat} (h : ∀ i, i < n → flg xs i = flg ys i) : bigB xs n = bigB ys n := by
  cases hb : bigB ys n with
  | false => exact bigB_none fun i hi => by rw [h i hi]; exact bigB_false hb i hi
  | true =>
    simp only [bigB, List.any_eq_true, List.mem_range, decide_eq_true_eq] at hb
    obtain ⟨i, h1, h2⟩ := hb
    exact bigB_intro h1 (by rw [h i h1]; exact h2)
theorem errT_congr {L : Lay} {xs ys : List Value} {n : Nat} (h : ∀ i, i < n → flg xs i = flg ys i) : errT L n xs = errT L n ys := by
  unfold errT
  rw [bigB_congr h]
  by_cases h0 : 0 < n
  · rw [h 0 h0]
  · have : n = 0 := by omega
    subst this
    simp
theorem tileB_congr {pts n : Nat} {xs x : List Value} (hi : Ints (rep n sheetK) xs) (hx : Ints sheetK x) (hp : pts = 12 ∨ pts = 16) (hb : ∀ i, i < n → flg xs i ≤ 3) : ∀ i, i ≤ n → tileB pts (ysC pts xs x n) i = tileB pts xs i
  | 0, _ => rfl
  | i + 1, h => by
    have hf := hb i h
    rw [tileB, tileB, ysC_flg hi hx hp h, ysC_elem hi hx hp n i (Nat.le_refl _) h, tileB_congr hi hx hp hb i (by omega)]
    exact yS_eq (hi.elem h).length hx.length (tileB_ints hi hp hb i (by omega)).length hp (by omega)
theorem tilesC_congr {pts n : Nat} {xs ys : List Value} (h : ∀ i, i ≤ n → tileB pts ys i = tileB pts xs i) : ∀ i, i ≤ n → tilesC pts ys i = tilesC pts xs i
  | 0, _ => rfl
  | i + 1, hi => by rw [tilesC, tilesC, tilesC_congr h i (by omega), h _ hi]
theorem outT_untold {L : Lay} {n : Nat} {xs x : List Value} (hi : Ints (rep n sheetK) xs) (hx : Ints sheetK x) : errT L n (ysC (ptsT L) xs x n) = errT L n xs ∧ cntT L n (ysC (ptsT L) xs x n) = cntT L n xs ∧ outT L n (ysC (ptsT L) xs x n) = outT L n xs := by
  have he : errT L n (ysC (ptsT L) xs x n) = errT L n xs := errT_congr fun i h => ysC_flg hi hx (ptsT_or L) h
  refine ⟨he, by unfold cntT; rw [he], ?_⟩
  unfold outT
  rw [he]
  by_cases h0 : errT L n xs = 0
  · rw [if_pos h0, if_pos h0]
    exact tilesC_congr (tileB_congr hi hx (ptsT_or L) (errT_zero h0).2.2.2) n (Nat.le_refl _)
  · rw [if_neg h0, if_neg h0]

theorem law_tilesUntold (w0 : World) (η : Heap) (hG : Sets w0) (hE : Edges w0) (L : Lay) (sv : Value) (n : Nat) (xs x : List Value) (hs : SlA (St w0 η) sv 49 n xs) (hi : Ints (rep n sheetK) xs) (hx : Ints sheetK x) :
    CallsT Tryd.prog 6 [L.val, sv, .agg x.toArray] (St w0 η) fun v A' => v = .bool true ∧ A' = St w0 η := by
  have hs0 := hs
  obtain ⟨hl, ad, cap, b, off, rfl, hcap, had, hrd⟩ := hs.some
  have hxl : x.length = 49 := hx.length
  refine CallsT.body Tryd.func6 rfl rfl ?_
  simp only [Tryd.ntmps6, slotsOf, Nat.reduceAdd]
  refine TC_seq ?_
  refine TC_reg ?_
  refine TL_e rfl rfl rfl (rfl) (ET_box rfl rfl) ?_
  rintro _ _ ⟨b3, rfl, rfl⟩
  refine TL_e rfl rfl rfl (rfl) (ET_box rfl rfl) ?_
  rintro _ _ ⟨b5, rfl, rfl⟩
  refine TL_q rfl rfl (QT_assign rfl rfl rfl) ?_
  refine TL_nil ?_
  refine TX_then ?_
  refine TC_seq ?_
  refine TC_seq ?_
  refine TC_reg ?_
  refine TL_q rfl rfl (QT_move rfl rfl rfl) ?_
  refine TL_q rfl rfl (QT_len rfl rfl Tryd.underlying28 rfl) ?_
  refine TL_q rfl rfl (QT_gtr rfl rfl rfl rfl) ?_
  refine TL_nil ?_
  refine TX_then ?_
  first
    | refine TC_cond_dec rfl (fun h20 => ?_) (fun h20 => ?_)
    | refine TC_cond rfl (fun h20 => ?_) (fun h20 => ?_)
  ·
    refine TC_seq ?_
    refine TC_reg ?_
    refine TL_cq rfl rfl rfl rfl YtjipbndjcefbbaaDoorF.cal_8 rfl (fun _ => lives12 w0 _ hG hE) ?_
    refine TL_q rfl rfl (QT_assign rfl rfl rfl) ?_
    refine TL_nil ?_
    refine TX_then ?_
    refine TC_ret ?_
    refine TX_then_ret ?_
    exact TX_ret (.inl rfl) (res1 rfl rfl) ⟨_, ⟨rfl, rfl⟩, (fun _ h => by first | exact h | exact h.tail | exact h.tail.tail | exact h.tail.tail.tail | exact h.tail.tail.tail.tail | exact h.tail.tail.tail.tail.tail | exact h.tail.tail.tail.tail.tail.tail | exact h.tail.tail.tail.tail.tail.tail.tail | exact h.tail.tail.tail.tail.tail.tail.tail.tail | exact h.tail.tail.tail.tail.tail.tail.tail.tail.tail | exact h.tail.tail.tail.tail.tail.tail.tail.tail.tail.tail | exact h.tail.tail.tail.tail.tail.tail.tail.tail.tail.tail.tail | exact h.tail.tail.tail.tail.tail.tail.tail.tail.tail.tail.tail.tail | exact h.tail.tail.tail.tail.tail.tail.tail.tail.tail.tail.tail.tail.tail)⟩
  ·
    refine TC_skip ?_
    refine TX_then ?_
    refine TC_seq ?_
    refine TC_reg ?_
    refine TL_q rfl rfl (QT_assign rfl rfl rfl) ?_
    refine TL_nil ?_
    refine TX_then ?_
    refine TC_seq ?_
    refine TC_seq ?_
    refine TC_reg ?_
    refine TL_q rfl rfl (QT_assign rfl rfl rfl) ?_
    refine TL_nil ?_
    refine TX_then ?_
    refine TC_block ?_
    refine TC_loop (γ := { t : Nat × Value × Heap // t.1 ≤ n ∧ Frag 64 49 t.2.1 t.1 (ysC (ptsT L) xs x t.1) t.2.2 }) (fun t => [(1, true, .slice ad n cap), (3, true, .pointer (some ⟨b3, 0, none⟩)), (5, true, .pointer (some ⟨b5, 0, none⟩)), (7, true, t.1.2.1), (8, true, .int .i64 (t.1.1 : Int))]) (fun t => St w0 ((b5, 64, x) :: (b3, 27, L.val.cells.toList) :: (t.1.2.2 ++ η))) (fun t => n - t.1.1) ⟨(0, .slice none 0 0, []), Nat.zero_le _, Frag.nil _ _⟩ ⟨rfl, rfl, rfl, rfl, rfl, trivial⟩ (fun _ h => h) ?_
    rintro ⟨⟨i, fv, H⟩, hin, hF⟩
    dsimp only at hin hF ⊢
    refine TC_seq ?_
    refine TC_seq ?_
    refine TC_reg ?_
    refine TL_q rfl rfl (QT_move rfl rfl rfl) ?_
    refine TL_q rfl rfl (QT_move rfl rfl rfl) ?_
    refine TL_q rfl rfl (QT_len rfl rfl Tryd.underlying28 rfl) ?_
    refine TL_q rfl rfl (QT_lss rfl rfl rfl rfl) ?_
    refine TL_nil ?_
    refine TX_then ?_
    first
      | refine TC_cond_dec rfl (fun h25 => ?_) (fun h25 => ?_)
      | refine TC_cond rfl (fun h25 => ?_) (fun h25 => ?_)
    ·
      have hn : n ≤ 100 := by omega
      have hi' : i < n := by omega
      obtain ⟨hf1, hf2, hf3⟩ := flg_spec hi hi'
      obtain rfl := had (by omega)
      have hle : i * 49 + 49 ≤ xs.length := by rw [hl]; have : (i + 1) * 49 ≤ n * 49 := Nat.mul_le_mul_right _ hi'; omega
      have hR : ∀ X : Heap, Rd (St w0 (X ++ η)) b off xs := fun X => hrd.mono fun _ h => h.app_right
      have hei : Ints sheetK (elem xs 49 i) := hi.elem hi'
      have hels : (elem xs 49 i).length = 49 := hei.length
      have hzs : Sz Tryd.prog 64 (elem xs 49 i).length := by rw [hels]; exact YtjipbndjcefbbaaDoorF.sz_64
      have hbd := npN_bd2 (f := flg xs i) (ptsT_or L)
      refine TC_skip ?_
      refine TX_then ?_
      refine TC_seq ?_
      refine TC_block ?_
      refine TC_seq ?_
      refine TC_reg ?_
      refine TL_q rfl rfl (QT_move rfl rfl rfl) ?_
      refine TL_q rfl rfl (QT_move rfl rfl rfl) ?_
      refine TL_q rfl rfl (QT_indexSlice (i) rfl rfl Tryd.underlying28 YtjipbndjcefbbaaDoorF.sz_64 rfl rfl (rfl) (fun _ => hi')) ?_
      refine TL_q rfl rfl (QT_loadRAj (out := elem xs 49 i) (i * 49) rfl rfl Tryd.underlying64 rfl YtjipbndjcefbbaaDoorF.sz_64 (hR (_ :: _ :: H)) rfl (fun _ => hle) (fun _ => rfl)) ?_
      refine TL_e rfl rfl rfl (rfl) (ET_alloc rfl YtjipbndjcefbbaaDoorF.zero_64) ?_
      rintro _ _ ⟨b9, rfl, rfl⟩
      refine TL_e0 rfl rfl (rfl) (ET_storeW (vs := elem xs 49 i) 0 rfl rfl rfl hzs rfl (List.all_eq_true.2 hei.oneCell) (by rw [hels]; rfl)) ?_
      rintro _ _ ⟨rfl, rfl⟩
      refine TL_nil ?_
      refine TX_then ?_
      refine TC_seq ?_
      refine TC_reg ?_
      refine TL_q rfl rfl (QT_assign rfl rfl rfl) ?_
      refine TL_nil ?_
      refine TX_then ?_
      refine TC_seq ?_
      refine TC_reg ?_
      refine TL_q rfl rfl (QT_assign rfl rfl rfl) ?_
      refine TL_nil ?_
      refine TX_then ?_
      refine TC_cut (γ := Unit) (fun _ => [(1, true, .slice (some ⟨b, off, none⟩) n cap), (3, true, .pointer (some ⟨b3, 0, none⟩)), (5, true, .pointer (some ⟨b5, 0, none⟩)), (7, true, fv), (8, true, .int .i64 (i : Int)), (9, true, .pointer (some ⟨b9, 0, none⟩)), (10, true, .int .i64 ((npN 12 (flg xs i) : Nat) : Int)), (11, true, .int .i64 ((ncN (flg xs i) : Nat) : Int))]) (fun _ => St w0 ((b9, 64, elem xs 49 i) :: (b5, 64, x) :: (b3, 27, L.val.cells.toList) :: (H ++ η))) ?_ ?_
      ·
        refine TC_seq ?_
        refine TC_reg ?_
        refine TL_q rfl rfl (QT_field rfl rfl YtjipbndjcefbbaaDoorF.fld_64_0 rfl) ?_
        refine TL_q rfl rfl (QT_load 0 rfl rfl Tryd.underlying5 rfl rfl rfl (fun _ => hf2)) ?_
        refine TL_q rfl rfl (QT_eql rfl rfl rfl rfl) ?_
        refine TL_nil ?_
        refine TX_then ?_
        first
          | refine TC_cond_dec rfl (fun h34 => ?_) (fun h34 => ?_)
          | refine TC_cond rfl (fun h34 => ?_) (fun h34 => ?_)
        ·
          refine TC_seq ?_
          refine TC_reg ?_
          refine TL_q rfl rfl (QT_assign rfl rfl rfl) ?_
          refine TL_nil ?_
          refine TX_then ?_
          refine TC_reg ?_
          refine TL_q rfl rfl (QT_assign rfl rfl rfl) ?_
          refine TL_nil ?_
          exact TX_cut () ⟨rfl, rfl, rfl, rfl, rfl, rfl, slotI rfl (by unfold npN; rw [if_pos (by omega)]; rfl), slotI rfl (by unfold ncN; rw [if_pos (by omega)]; rfl), trivial⟩ (fun _ h => h)
        ·
          refine TC_skip ?_
          exact TX_cut () ⟨rfl, rfl, rfl, rfl, rfl, rfl, slotI rfl (by unfold npN; rw [if_neg (by omega)]; rfl), slotI rfl (by unfold ncN; rw [if_neg (by omega)]; rfl), trivial⟩ (fun _ h => h)
      rintro ⟨⟩
      have hn12 : npN 12 (flg xs i) ≤ 12 := by unfold npN; split <;> omega
      refine TC_cut (γ := Unit) (fun _ => [(1, true, .slice (some ⟨b, off, none⟩) n cap), (3, true, .pointer (some ⟨b3, 0, none⟩)), (5, true, .pointer (some ⟨b5, 0, none⟩)), (7, true, fv), (8, true, .int .i64 (i : Int)), (9, true, .pointer (some ⟨b9, 0, none⟩)), (10, true, .int .i64 ((npN (ptsT L) (flg xs i) : Nat) : Int)), (11, true, .int .i64 ((ncN (flg xs i) : Nat) : Int))]) (fun _ => St w0 ((b9, 64, elem xs 49 i) :: (b5, 64, x) :: (b3, 27, L.val.cells.toList) :: (H ++ η))) ?_ ?_
      ·
        refine TC_seq ?_
        refine TC_reg ?_
        refine TL_q rfl rfl (QT_field rfl rfl YtjipbndjcefbbaaDoorF.fld_27_0 rfl) ?_
        first
          | refine TL_q rfl rfl (QT_load 0 rfl rfl Tryd.underlying3 rfl rfl rfl (fun _ => rfl)) ?_
          | refine TL_q rfl rfl (QT_load 1 rfl rfl Tryd.underlying3 rfl rfl rfl (fun _ => rfl)) ?_
          | refine TL_q rfl rfl (QT_load 2 rfl rfl Tryd.underlying3 rfl rfl rfl (fun _ => rfl)) ?_
        refine TL_q rfl rfl (QT_eql rfl rfl rfl rfl) ?_
        refine TL_nil ?_
        refine TX_then ?_
        first
          | refine TC_cond_dec rfl (fun h37 => ?_) (fun h37 => ?_)
          | refine TC_cond rfl (fun h37 => ?_) (fun h37 => ?_)
        ·
          refine TC_reg ?_
          refine TL_q rfl rfl (QT_move rfl rfl rfl) ?_
          refine TL_q rfl rfl (QT_add rfl rfl rfl rfl (fun _ => ⟨by omega, by omega⟩)) ?_
          refine TL_q rfl rfl (QT_assign rfl rfl rfl) ?_
          refine TL_nil ?_
          exact TX_cut () ⟨rfl, rfl, rfl, rfl, rfl, rfl, slotI rfl (by unfold npN ptsT; rw [if_pos h37]; split <;> rfl), rfl, trivial⟩ (fun _ h => h)
        ·
          refine TC_skip ?_
          exact TX_cut () ⟨rfl, rfl, rfl, rfl, rfl, rfl, slotI rfl (by unfold npN ptsT; rw [if_neg h37]), rfl, trivial⟩ (fun _ h => h)
      rintro ⟨⟩
      refine TC_seq ?_
      refine TC_seq ?_
      refine TC_reg ?_
      refine TL_q rfl rfl (QT_move rfl rfl rfl) ?_
      refine TL_q rfl rfl (QT_assign rfl rfl rfl) ?_
      refine TL_nil ?_
      refine TX_then ?_
      refine TC_block ?_
      refine TC_loop (γ := { k : Nat // npN (ptsT L) (flg xs i) + k ≤ 16 }) (fun t => [(1, true, .slice (some ⟨b, off, none⟩) n cap), (3, true, .pointer (some ⟨b3, 0, none⟩)), (5, true, .pointer (some ⟨b5, 0, none⟩)), (7, true, fv), (8, true, .int .i64 (i : Int)), (9, true, .pointer (some ⟨b9, 0, none⟩)), (11, true, .int .i64 ((ncN (flg xs i) : Nat) : Int)), (12, true, .int .i64 ((npN (ptsT L) (flg xs i) + t.1 : Nat) : Int))]) (fun t => St w0 ((b9, 64, yP (elem xs 49 i) x (npN (ptsT L) (flg xs i)) t.1) :: (b5, 64, x) :: (b3, 27, L.val.cells.toList) :: (H ++ η))) (fun t => 16 - t.1) ⟨0, by omega⟩ ⟨rfl, rfl, rfl, rfl, rfl, rfl, rfl, rfl, trivial⟩ (fun _ h => h) ?_
      rintro ⟨k, hk⟩
      dsimp only
      refine TC_seq ?_
      refine TC_seq ?_
      refine TC_reg ?_
      refine TL_q rfl rfl (QT_move rfl rfl rfl) ?_
      refine TL_q rfl rfl (QT_lss rfl rfl rfl rfl) ?_
      refine TL_nil ?_
      refine TX_then ?_
      first
        | refine TC_cond_dec rfl (fun h42 => ?_) (fun h42 => ?_)
        | refine TC_cond rfl (fun h42 => ?_) (fun h42 => ?_)
      ·
        have hk' : npN (ptsT L) (flg xs i) + k < 16 := by omega
        have hpl := part_len x (0 + 1 + (npN (ptsT L) (flg xs i) + k) * 2) 2 (by omega)
        have hql := yP_len (elem xs 49 i) x (npN (ptsT L) (flg xs i)) k
        refine TC_skip ?_
        refine TX_then ?_
        refine TC_seq ?_
        refine TC_block ?_
        refine TC_reg ?_
        refine TL_q rfl rfl (QT_move rfl rfl rfl) ?_
        refine TL_q rfl rfl (QT_move rfl rfl rfl) ?_
        refine TL_q rfl rfl (QT_field rfl rfl YtjipbndjcefbbaaDoorF.fld_64_1 rfl) ?_
        refine TL_q rfl rfl (QT_indexArr (npN (ptsT L) (flg xs i) + k) rfl rfl Tryd.underlying58 YtjipbndjcefbbaaDoorF.sz_57 rfl rfl (rfl) (fun _ => by omega)) ?_
        refine TL_q rfl rfl (QT_loadA 1 rfl rfl Tryd.underlying57 rfl rfl rfl YtjipbndjcefbbaaDoorF.sz_57 (fun _ => Nat.ble_eq_true_of_le (show 0 + 1 + (npN (ptsT L) (flg xs i) + k) * 2 + 2 ≤ x.length by omega))) ?_
        refine TL_q rfl rfl (QT_field rfl rfl YtjipbndjcefbbaaDoorF.fld_64_1 rfl) ?_
        refine TL_q rfl rfl (QT_indexArr (npN (ptsT L) (flg xs i) + k) rfl rfl Tryd.underlying58 YtjipbndjcefbbaaDoorF.sz_57 rfl rfl (rfl) (fun _ => by omega)) ?_
        refine TL_e0 rfl rfl (rfl) (ET_store (vs := (x.drop (0 + 1 + (npN (ptsT L) (flg xs i) + k) * 2)).take 2) 0 rfl rfl rfl rfl (by rw [hpl]; exact YtjipbndjcefbbaaDoorF.sz_57) rfl (all_part hx _ _) (Nat.ble_eq_true_of_le (by rw [hpl, hql]; omega))) ?_
        rintro _ _ ⟨rfl, rfl⟩
        refine TL_nil ?_
        refine TX_block_normal ?_
        refine TX_then ?_
        refine TC_reg ?_
        refine TL_q rfl rfl (QT_move rfl rfl rfl) ?_
        refine TL_q rfl rfl (QT_add rfl rfl rfl rfl (fun _ => ⟨by omega, by omega⟩)) ?_
        refine TL_q rfl rfl (QT_assign rfl rfl rfl) ?_
        refine TL_nil ?_
        exact TX_round ⟨k + 1, by omega⟩ (by show 16 - (k + 1) < 16 - k; omega) ⟨rfl, rfl, rfl, rfl, rfl, rfl, rfl, slotI rfl (by dsimp only; omega), trivial⟩ (fun _ h => h)
      ·
        refine TC_exit ?_
        refine TX_then_exit ?_
        refine TX_then_exit ?_
        refine TX_block_here ?_
        refine TX_then ?_
        refine TC_seq ?_
        refine TC_seq ?_
        refine TC_reg ?_
        refine TL_q rfl rfl (QT_move rfl rfl rfl) ?_
        refine TL_q rfl rfl (QT_assign rfl rfl rfl) ?_
        refine TL_nil ?_
        refine TX_then ?_
        refine TC_block ?_
        obtain rfl : k = 16 - npN (ptsT L) (flg xs i) := by omega
        refine TC_loop (γ := { k : Nat // ncN (flg xs i) + k ≤ 4 }) (fun t => [(1, true, .slice (some ⟨b, off, none⟩) n cap), (3, true, .pointer (some ⟨b3, 0, none⟩)), (5, true, .pointer (some ⟨b5, 0, none⟩)), (7, true, fv), (8, true, .int .i64 (i : Int)), (9, true, .pointer (some ⟨b9, 0, none⟩)), (13, true, .int .i64 ((ncN (flg xs i) + t.1 : Nat) : Int))]) (fun t => St w0 ((b9, 64, yC (yP (elem xs 49 i) x (npN (ptsT L) (flg xs i)) (16 - npN (ptsT L) (flg xs i))) x (ncN (flg xs i)) t.1) :: (b5, 64, x) :: (b3, 27, L.val.cells.toList) :: (H ++ η))) (fun t => 4 - t.1) ⟨0, by omega⟩ ⟨rfl, rfl, rfl, rfl, rfl, rfl, rfl, trivial⟩ (fun _ h => h) ?_
        rintro ⟨m, hm⟩
        dsimp only
        refine TC_seq ?_
        refine TC_seq ?_
        refine TC_reg ?_
        refine TL_q rfl rfl (QT_move rfl rfl rfl) ?_
        refine TL_q rfl rfl (QT_lss rfl rfl rfl rfl) ?_
        refine TL_nil ?_
        refine TX_then ?_
        first
          | refine TC_cond_dec rfl (fun h54 => ?_) (fun h54 => ?_)
          | refine TC_cond rfl (fun h54 => ?_) (fun h54 => ?_)
        ·
          have hm' : ncN (flg xs i) + m < 4 := by omega
          have hpl := part_len x (0 + 33 + (ncN (flg xs i) + m) * 4) 4 (by omega)
          have hql := yC_len (yP (elem xs 49 i) x (npN (ptsT L) (flg xs i)) (16 - npN (ptsT L) (flg xs i))) x (ncN (flg xs i)) m
          have hrl := yP_len (elem xs 49 i) x (npN (ptsT L) (flg xs i)) (16 - npN (ptsT L) (flg xs i))
          refine TC_skip ?_
          refine TX_then ?_
          refine TC_seq ?_
          refine TC_block ?_
          refine TC_reg ?_
          refine TL_q rfl rfl (QT_move rfl rfl rfl) ?_
          refine TL_q rfl rfl (QT_move rfl rfl rfl) ?_
          refine TL_q rfl rfl (QT_field rfl rfl YtjipbndjcefbbaaDoorF.fld_64_2 rfl) ?_
          refine TL_q rfl rfl (QT_indexArr (ncN (flg xs i) + m) rfl rfl Tryd.underlying62 YtjipbndjcefbbaaDoorF.sz_61 rfl rfl (rfl) (fun _ => by omega)) ?_
          refine TL_q rfl rfl (QT_loadA 1 rfl rfl Tryd.underlying61 rfl rfl rfl YtjipbndjcefbbaaDoorF.sz_61 (fun _ => Nat.ble_eq_true_of_le (show 0 + 33 + (ncN (flg xs i) + m) * 4 + 4 ≤ x.length by omega))) ?_
          refine TL_q rfl rfl (QT_field rfl rfl YtjipbndjcefbbaaDoorF.fld_64_2 rfl) ?_
          refine TL_q rfl rfl (QT_indexArr (ncN (flg xs i) + m) rfl rfl Tryd.underlying62 YtjipbndjcefbbaaDoorF.sz_61 rfl rfl (rfl) (fun _ => by omega)) ?_
          refine TL_e0 rfl rfl (rfl) (ET_store (vs := (x.drop (0 + 33 + (ncN (flg xs i) + m) * 4)).take 4) 0 rfl rfl rfl rfl (by rw [hpl]; exact YtjipbndjcefbbaaDoorF.sz_61) rfl (all_part hx _ _) (Nat.ble_eq_true_of_le (by rw [hpl, hql, hrl]; omega))) ?_
          rintro _ _ ⟨rfl, rfl⟩
          refine TL_nil ?_
          refine TX_block_normal ?_
          refine TX_then ?_
          refine TC_reg ?_
          refine TL_q rfl rfl (QT_move rfl rfl rfl) ?_
          refine TL_q rfl rfl (QT_add rfl rfl rfl rfl (fun _ => ⟨by omega, by omega⟩)) ?_
          refine TL_q rfl rfl (QT_assign rfl rfl rfl) ?_
          refine TL_nil ?_
          exact TX_round ⟨m + 1, by omega⟩ (by show 4 - (m + 1) < 4 - m; omega) ⟨rfl, rfl, rfl, rfl, rfl, rfl, slotI rfl (by dsimp only; omega), trivial⟩ (fun _ h => h)
        ·
          refine TC_exit ?_
          refine TX_then_exit ?_
          refine TX_then_exit ?_
          refine TX_block_here ?_
          refine TX_then ?_
          obtain rfl : m = 4 - ncN (flg xs i) := by omega
          refine TC_A (St w0 ((b9, 64, yS (ptsT L) (flg xs i) (elem xs 49 i) x) :: (b5, 64, x) :: (b3, 27, L.val.cells.toList) :: (H ++ η))) (fun w h => h) ?_
          have hwi : Ints sheetK (yS (ptsT L) (flg xs i) (elem xs 49 i) x) := yS_ints hei hx (ptsT_or L)
          have hwls : (yS (ptsT L) (flg xs i) (elem xs 49 i) x).length = 49 := hwi.length
          have hzw : Sz Tryd.prog 64 (yS (ptsT L) (flg xs i) (elem xs 49 i) x).length := by rw [hwls]; exact YtjipbndjcefbbaaDoorF.sz_64
          refine TC_reg ?_
          refine TL_q rfl rfl (QT_move rfl rfl rfl) ?_
          refine TL_q rfl rfl (QT_loadW (cs := yS (ptsT L) (flg xs i) (elem xs 49 i) x) 0 rfl rfl Tryd.underlying64 rfl rfl rfl hzw) ?_
          refine TL_e rfl rfl rfl (rfl) (ET_buildN [_] rfl Tryd.underlying28 YtjipbndjcefbbaaDoorF.sz_64 YtjipbndjcefbbaaDoorF.zero_64 rfl rfl rfl (fun v hv => by cases List.mem_singleton.1 hv; exact hwls)) ?_
          rintro _ _ ⟨b66, rfl, rfl⟩
          refine TL_e rfl rfl rfl (rfl) (ET_appendL (L := [_, _, _, _]) rfl Tryd.underlying28 el_Sheet rfl rfl hF (fun _ h => h) (SlA.own (n := 1) (xs := yS (ptsT L) (flg xs i) (elem xs 49 i) x) 0 rfl (by rw [List.drop_zero, List.take_of_length_le (by simp [Value.cells, hwls])]; simp [Value.cells]) (by simp [Value.cells, hwls]) (by omega)) hwi.oneCell (by omega) (by omega)) ?_
          rintro fv2 _ ⟨H', hF', rfl⟩
          refine TL_q rfl rfl (QT_assign rfl rfl rfl) ?_
          refine TL_nil ?_
          refine TX_block_normal ?_
          refine TX_then ?_
          refine TC_reg ?_
          refine TL_q rfl rfl (QT_move rfl rfl rfl) ?_
          refine TL_q rfl rfl (QT_add rfl rfl rfl rfl (fun _ => ⟨by omega, by omega⟩)) ?_
          refine TL_q rfl rfl (QT_assign rfl rfl rfl) ?_
          refine TL_nil ?_
          exact TX_round ⟨(i + 1, fv2, H'), hi', hF'⟩ (by show n - (i + 1) < n - i; omega) ⟨rfl, rfl, rfl, rfl, rfl, trivial⟩ (fun _ h => h.tail.tail)
    ·
      refine TC_exit ?_
      refine TX_then_exit ?_
      refine TX_then_exit ?_
      refine TX_block_here ?_
      refine TX_then ?_
      refine TC_seq ?_
      obtain rfl : i = n := by omega
      have hn : i ≤ 100 := by omega
      obtain ⟨hu1, hu2, hu3⟩ := outT_untold (L := L) hi hx
      have hoi : Ints (rep (cntT L i xs) patchK) (outT L i xs) := outT_ints hi
      have hysi := ysC_ints hi hx (ptsT_or L) i (Nat.le_refl _)
      refine TC_reg ?_
      first
        | refine TL_q rfl rfl (QT_loadW 0 rfl rfl Tryd.underlying27 rfl rfl rfl YtjipbndjcefbbaaDoorF.sz_27) ?_
        | refine TL_q rfl rfl (QT_loadW 1 rfl rfl Tryd.underlying27 rfl rfl rfl YtjipbndjcefbbaaDoorF.sz_27) ?_
        | refine TL_q rfl rfl (QT_loadW 2 rfl rfl Tryd.underlying27 rfl rfl rfl YtjipbndjcefbbaaDoorF.sz_27) ?_
        | refine TL_q rfl rfl (QT_loadA 0 rfl rfl Tryd.underlying27 rfl rfl rfl YtjipbndjcefbbaaDoorF.sz_27 (fun _ => rfl)) ?_
        | refine TL_q rfl rfl (QT_loadA 1 rfl rfl Tryd.underlying27 rfl rfl rfl YtjipbndjcefbbaaDoorF.sz_27 (fun _ => rfl)) ?_
        | refine TL_q rfl rfl (QT_loadA 2 rfl rfl Tryd.underlying27 rfl rfl rfl YtjipbndjcefbbaaDoorF.sz_27 (fun _ => rfl)) ?_
      refine TL_q rfl rfl (QT_move rfl rfl rfl) ?_
      refine TL_e rfl rfl rfl (rfl) (ET_call rfl YtjipbndjcefbbaaDoorF.cal_10 rfl (of_spec w0 _ hG hE L _ i xs (hs0.mono fun _ h => h.tail.tail.app_right) hi (by omega))) ?_
      rintro _ _ ⟨pv, H1, rfl, hF1, rfl⟩
      refine TL_q rfl rfl (QT_move rfl rfl rfl) ?_
      refine TL_q rfl rfl (QT_extract rfl rfl rfl rfl) ?_
      refine TL_q rfl rfl (QT_extract rfl rfl rfl rfl) ?_
      refine TL_q rfl rfl (QT_assign rfl rfl rfl) ?_
      refine TL_q rfl rfl (QT_assign rfl rfl rfl) ?_
      refine TL_nil ?_
      refine TX_then ?_
      refine TC_seq ?_
      refine TC_A (St w0 ((b3, 27, L.val.cells.toList) :: (H1 ++ (H ++ η)))) (fun _ h => h.cnt fun p => by simp only [List.countP_append, List.countP_cons]; omega) ?_
      refine TC_reg ?_
      first
        | refine TL_q rfl rfl (QT_loadW 0 rfl rfl Tryd.underlying27 rfl rfl rfl YtjipbndjcefbbaaDoorF.sz_27) ?_
        | refine TL_q rfl rfl (QT_loadW 1 rfl rfl Tryd.underlying27 rfl rfl rfl YtjipbndjcefbbaaDoorF.sz_27) ?_
        | refine TL_q rfl rfl (QT_loadW 2 rfl rfl Tryd.underlying27 rfl rfl rfl YtjipbndjcefbbaaDoorF.sz_27) ?_
        | refine TL_q rfl rfl (QT_loadA 0 rfl rfl Tryd.underlying27 rfl rfl rfl YtjipbndjcefbbaaDoorF.sz_27 (fun _ => rfl)) ?_
        | refine TL_q rfl rfl (QT_loadA 1 rfl rfl Tryd.underlying27 rfl rfl rfl YtjipbndjcefbbaaDoorF.sz_27 (fun _ => rfl)) ?_
        | refine TL_q rfl rfl (QT_loadA 2 rfl rfl Tryd.underlying27 rfl rfl rfl YtjipbndjcefbbaaDoorF.sz_27 (fun _ => rfl)) ?_
      refine TL_q rfl rfl (QT_move rfl rfl rfl) ?_
      refine TL_e rfl rfl rfl (rfl) (ET_call rfl YtjipbndjcefbbaaDoorF.cal_10 rfl (of_spec w0 _ hG hE L _ i (ysC (ptsT L) xs x i) (hF.within fun p => by simp only [List.countP_append, List.countP_cons]; omega) hysi (by omega))) ?_
      rintro _ _ ⟨qv, H2, rfl, hF2, rfl⟩
      refine TL_q rfl rfl (QT_move rfl rfl rfl) ?_
      refine TL_q rfl rfl (QT_extract rfl rfl rfl rfl) ?_
      refine TL_q rfl rfl (QT_extract rfl rfl rfl rfl) ?_
      refine TL_q rfl rfl (QT_assign rfl rfl rfl) ?_
      refine TL_q rfl rfl (QT_assign rfl rfl rfl) ?_
      refine TL_nil ?_
      refine TX_then ?_
      refine TC_seq ?_
      rw [hu1]
      rw [hu2, hu3] at hF2
      refine TC_reg ?_
      refine TL_q rfl rfl (QT_move rfl rfl rfl) ?_
      refine TL_q rfl rfl (QT_move rfl rfl rfl) ?_
      refine TL_q rfl rfl (QT_eql rfl rfl rfl rfl) ?_
      refine TL_q rfl rfl (QT_move rfl rfl rfl) ?_
      refine TL_q rfl rfl (QT_move rfl rfl rfl) ?_
      refine TL_q rfl rfl (QT_move rfl rfl rfl) ?_
      refine TL_cq rfl rfl rfl rfl YtjipbndjcefbbaaDoorF.cal_14 rfl (fun _ => sameOk_Tiles w0 _ pv qv (cntT L i xs) (outT L i xs) (hF1.within fun p => by simp only [List.countP_append, List.countP_cons]; omega) (hF2.within fun p => by simp only [List.countP_append, List.countP_cons]; omega) hoi) ?_
      refine TL_q rfl rfl (QT_and rfl rfl rfl rfl) ?_
      refine TL_q rfl rfl (QT_move rfl rfl rfl) ?_
      refine TL_cq rfl rfl rfl rfl YtjipbndjcefbbaaDoorF.cal_8 rfl (fun _ => lives12 w0 _ hG hE) ?_
      refine TL_q rfl rfl (QT_and rfl rfl rfl rfl) ?_
      refine TL_q rfl rfl (QT_assign rfl rfl rfl) ?_
      refine TL_nil ?_
      refine TX_then ?_
      refine TC_ret ?_
      exact TX_ret (.inl rfl) (res1 rfl rfl) ⟨_, ⟨by simp, rfl⟩, fun _ h => h.cnt fun p => by simp only [List.countP_append, List.countP_cons]; omega⟩
end Go.Proofs.YtjipbndjcefbbaaDoor

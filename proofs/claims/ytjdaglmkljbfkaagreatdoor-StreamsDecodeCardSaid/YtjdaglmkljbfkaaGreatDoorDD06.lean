/- THE PATCHES OF SHEETS, by the document's answer: the same. WHAT THE ROWS OF THE PATCHES LIST: the sets of numbers of bits, the edges; a parameter of sheets. WHAT THE ROWS OF THE RECORDS ARE OPENED BY: the sets of numbers of bits; a parameter of bytes, of records. THREE EFFECTS OF A DRAWN REGION, in any order; one way on behind all orders. Program-independent. THE BOOK: are all its lists apart? Laid by a program of this work. STREAMS: which functions are for which type; what may be encoded. STREAMS: what may be encoded. STREAMS: records of bytes, refused where their faces are. STREAMS: sheets of bytes, refused where their faces are. STREAMS: bytes of records, of sheets, refused where their faces are. STREAMS: bytes of sheets, refused where their faces are. STREAMS: a mesh of bytes, by type. STREAMS: a mesh of bytes of sheets. STREAMS: bytes of a mesh, by type. STREAMS: Decode. STREAMS: Decode, of patches; what it gives in all cases. STREAMS: Encode. STREAMS: Encode in all cases; Faces. STREAMS: meshes compared; slices of zeros; the chapter's examples. STREAMS: the chapter's examples. STREAMS: what is encoded is decoded as it was, and the other way round: plain facts. THE LAW: what may be encoded is decoded as it was. THE LAW: whoever reads vertices, or sheets, and asks for their faces, is told what Decode and Faces tell. THE LAW: what is decoded is encoded as bytes that are decoded as the same. WHAT THE ROWS OF THE STREAMS LIST: the sets of numbers of bits, the edges; a parameter of bytes, of a mesh by value. -/
import Derived.Test.YtjdaglmkljbfkaaGreatDoorDD05
namespace Go.Proofs.YtjdaglmkljbfkaaGreatDoor.T12
open Go Go.Gx Go.RowKit
set_option maxRecDepth 100000

def startP (ah : List Value) (f : Nat) : List Value := if f = 0 then zP else colTo ah f 2
def atN (f : Nat) : Nat := if f = 0 then 0 else 4
def hvN (f : Nat) : Nat := if f = 0 then 0 else 2
def npN (pts f : Nat) : Nat := if f = 0 then pts else pts - 4
def ncN (f : Nat) : Nat := if f = 0 then 4 else 2
def rP (s p0 : List Value) (a : Nat) : Nat → List Value
  | 0 => p0
  | k + 1 => setAt (rP s p0 a k) (0 + 0 + (a + k) * 2) ((s.drop (1 + k * 2)).take 2)
def rC (s p0 : List Value) (a : Nat) : Nat → List Value
  | 0 => p0
  | k + 1 => setAt (rC s p0 a k) (0 + 32 + (a + k) * 4) ((s.drop (33 + k * 4)).take 4)
theorem rP_len (s p0 : List Value) (a : Nat) : ∀ k, (rP s p0 a k).length = p0.length
  | 0 => rfl
  | k + 1 => by rw [rP, setAt_length, rP_len s p0 a k]
theorem rC_len (s p0 : List Value) (a : Nat) : ∀ k, (rC s p0 a k).length = p0.length
  | 0 => rfl
  | k + 1 => by rw [rC, setAt_length, rC_len s p0 a k]
theorem startP_len (ah : List Value) (f : Nat) : (startP ah f).length = 48 := by unfold startP; split; rfl; exact colTo_len ah f 2
theorem ref_eq {pts f : Nat} {s ah : List Value} (hs : s.length = 49) (ha : ah.length = 48) (hp : pts = 12 ∨ pts = 16) (hf : f = 0 ∨ f = 1 ∨ f = 2 ∨ f = 3) :
    rC s (rP s (startP ah f) (atN f) (npN pts f)) (hvN f) (ncN f) = wholeC pts f s ah := by
  obtain ⟨g, rfl⟩ := tab' (.bool false) s hs
  obtain ⟨h, rfl⟩ := tab' (.bool false) ah ha
  rcases hp with rfl | rfl <;> rcases hf with rfl | rfl | rfl | rfl <;> kernel_rfl
theorem pts_eq {L : Lay} {f : Nat} (h : L.ty = 6 ∨ L.ty = 7) : ptsZ L (f : Int) = ((npN (ptsT L) f : Nat) : Int) := by
  unfold ptsZ npN ptsT
  rcases h with h | h <;> rw [h] <;> by_cases hf : f = 0 <;> simp [hf]
theorem col_eq {L : Lay} {f : Nat} (h : L.ty = 6 ∨ L.ty = 7) : colZ L (f : Int) = ((ncN f : Nat) : Int) := by
  unfold colZ ncN
  rcases h with h | h <;> rw [h] <;> by_cases hf : f = 0 <;> simp [hf]
theorem npN_bd {pts f : Nat} (h : pts = 12 ∨ pts = 16) : atN f + npN pts f = pts := by unfold atN npN; split <;> omega
theorem ncN_bd (f : Nat) : hvN f + ncN f = 4 := by unfold hvN ncN; split <;> omega
theorem elem_part (xs : List Value) (i o m : Nat) (h : o + m ≤ 49) : (xs.drop (i * 49 + o)).take m = ((elem xs 49 i).drop o).take m := by
  unfold elem
  rw [List.drop_take, List.drop_drop, List.take_take, Nat.min_eq_left (by omega)]
theorem e4r {L : Lay} {n : Nat} {xs : List Value} (h : (decide (errOf L ≠ 0) || (decide (L.ty ≠ 6) && decide (L.ty ≠ 7))) = true) : errT L n xs = 4 := by
  refine e4 ?_
  by_cases h0 : okB L = true
  · obtain ⟨_, _, _, hty, _⟩ := okB_bounds h0
    simp only [errOf, h0, if_true, ne_eq, not_true, decide_false, Bool.false_or, Bool.and_eq_true, decide_eq_true_eq] at h ⊢
    omega
  · simp [errOf, h0]
theorem e4r' {L : Lay} (h : (decide (errOf L ≠ 0) || (decide (L.ty ≠ 6) && decide (L.ty ≠ 7))) = false) : okB L = true ∧ 6 ≤ L.ty ∧ (L.ty = 6 ∨ L.ty = 7) := by
  simp only [Bool.or_eq_false_iff, Bool.and_eq_false_iff, decide_eq_false_iff_not, ne_eq, Classical.not_not] at h
  refine ⟨Classical.byContradiction fun hn => ?_, by omega, by omega⟩
  have := h.1
  unfold errOf at this
  rw [if_neg hn] at this
  exact absurd this (by decide)

theorem rof_spec (w0 : Base) (η : Heap) (L : Lay) (sv : Value) (n : Nat) (xs : List Value) (hs : SlA (St w0 η) sv 49 n xs) (hi : Ints (rep n sheetK) xs) (hn : n * 160 ≤ 140737488355328) :
    CallsT Tryz.prog 84 [L.val, sv] (St w0 η) fun v A' => ∃ pv H, v = .tuple #[pv, .int .i64 (errT L n xs)] ∧ Frag 112 48 pv (cntT L n xs) (outT L n xs) H ∧ A' = St w0 (H ++ η) := by
  obtain ⟨hl, ad, cap, b, off, rfl, hcap, had, hrd⟩ := hs.some
  refine CallsT.body Tryz.func84 rfl rfl ?_
  simp only [Tryz.ntmps84, slotsOf, Nat.reduceAdd]
  refine TC_seq ?_
  refine TC_reg ?_
  refine TL_e rfl rfl rfl (rfl) (ET_box rfl rfl) ?_
  rintro _ _ ⟨b2, rfl, rfl⟩
  refine TL_q rfl rfl (QT_assign rfl rfl rfl) ?_
  refine TL_q rfl rfl (QT_assign rfl rfl rfl) ?_
  refine TL_nil ?_
  refine TX_then ?_
  refine TC_seq ?_
  refine TC_seq ?_
  refine TC_reg ?_
  refine TL_q rfl rfl (QT_loadW 0 rfl rfl Tryz.underlying27 rfl rfl rfl YtjdaglmkljbfkaaGreatDoorF.sz_27) ?_
  refine TL_cq rfl rfl rfl rfl YtjdaglmkljbfkaaGreatDoorF.cal_28 rfl (fun _ => rcheck_spec w0 _ L) ?_
  refine TL_q rfl rfl (QT_neq rfl rfl rfl rfl) ?_
  refine TL_q rfl rfl (QT_move rfl rfl rfl) ?_
  refine TL_q rfl rfl (QT_field rfl rfl YtjdaglmkljbfkaaGreatDoorF.fld_27_0 rfl) ?_
  refine TL_q rfl rfl (QT_load 0 rfl rfl Tryz.underlying3 rfl rfl rfl (fun _ => rfl)) ?_
  refine TL_q rfl rfl (QT_neq rfl rfl rfl rfl) ?_
  refine TL_q rfl rfl (QT_move rfl rfl rfl) ?_
  refine TL_q rfl rfl (QT_field rfl rfl YtjdaglmkljbfkaaGreatDoorF.fld_27_0 rfl) ?_
  refine TL_q rfl rfl (QT_load 0 rfl rfl Tryz.underlying3 rfl rfl rfl (fun _ => rfl)) ?_
  refine TL_q rfl rfl (QT_neq rfl rfl rfl rfl) ?_
  refine TL_q rfl rfl (QT_and rfl rfl rfl rfl) ?_
  refine TL_q rfl rfl (QT_or rfl rfl rfl rfl) ?_
  refine TL_nil ?_
  refine TX_then ?_
  refine TC_cond rfl (fun h30 => ?_) (fun h30 => ?_)
  ·
    refine TC_seq ?_
    refine TC_reg ?_
    refine TL_q rfl rfl (QT_assign rfl rfl rfl) ?_
    refine TL_q rfl rfl (QT_assign rfl rfl rfl) ?_
    refine TL_nil ?_
    refine TX_then ?_
    refine TC_ret ?_
    refine TX_then_ret ?_
    exact TX_ret (.inl rfl) (res2 rfl rfl rfl) ⟨_, ⟨_, [], by rw [e4r h30], fragErr (e4r h30) (by decide), rfl⟩, (fun _ h => by first | exact h | exact h.tail | exact h.tail.tail | exact h.tail.tail.tail | exact h.tail.tail.tail.tail | exact h.tail.tail.tail.tail.tail | exact h.tail.tail.tail.tail.tail.tail | exact h.tail.tail.tail.tail.tail.tail.tail | exact h.tail.tail.tail.tail.tail.tail.tail.tail | exact h.tail.tail.tail.tail.tail.tail.tail.tail.tail | exact h.tail.tail.tail.tail.tail.tail.tail.tail.tail.tail | exact h.tail.tail.tail.tail.tail.tail.tail.tail.tail.tail.tail | exact h.tail.tail.tail.tail.tail.tail.tail.tail.tail.tail.tail.tail | exact h.tail.tail.tail.tail.tail.tail.tail.tail.tail.tail.tail.tail.tail)⟩
  ·
    refine TC_skip ?_
    refine TX_then ?_
    refine TC_seq ?_
    obtain ⟨hok, h6, hty⟩ := e4r' h30
    refine TC_reg ?_
    refine TL_q rfl rfl (QT_assign rfl rfl rfl) ?_
    refine TL_nil ?_
    refine TX_then ?_
    refine TC_seq ?_
    refine TC_seq ?_
    refine TC_reg ?_
    refine TL_q rfl rfl (QT_assign rfl rfl rfl) ?_
    refine TL_nil ?_
    refine TX_then ?_
    refine TC_block ?_
    refine TC_loop (γ := { t : Nat × Value × Heap // t.1 ≤ n ∧ (∀ j, j < t.1 → flg xs j ≤ 3) ∧ (0 < t.1 → flg xs 0 = 0) ∧ Frag 112 48 t.2.1 t.1 (tilesC (ptsT L) xs t.1) t.2.2 }) (fun t => [(1, true, .slice ad n cap), (2, true, .pointer (some ⟨b2, 0, none⟩)), (6, true, t.1.2.1), (7, true, .int .i64 (t.1.1 : Int))]) (fun t => St w0 ((b2, 27, L.cells) :: (t.1.2.2 ++ η))) (fun t => n - t.1.1) ⟨(0, .slice none 0 0, []), Nat.zero_le _, fun j h => absurd h (Nat.not_lt_zero j), fun h => absurd h (Nat.lt_irrefl 0), Frag.nil _ _⟩ ⟨rfl, rfl, rfl, rfl, trivial⟩ (fun _ h => h) ?_
    rintro ⟨⟨i, fv, H⟩, hin, hbf, hz, hF⟩
    dsimp only at hin hbf hz hF ⊢
    refine TC_seq ?_
    refine TC_seq ?_
    refine TC_reg ?_
    refine TL_q rfl rfl (QT_move rfl rfl rfl) ?_
    refine TL_q rfl rfl (QT_move rfl rfl rfl) ?_
    refine TL_q rfl rfl (QT_len rfl rfl Tryz.underlying32 rfl) ?_
    refine TL_q rfl rfl (QT_lss rfl rfl rfl rfl) ?_
    refine TL_nil ?_
    refine TX_then ?_
    refine TC_cond_dec rfl (fun h34 => ?_) (fun h34 => ?_)
    ·
      have hi' : i < n := by omega
      obtain ⟨hf1, hf2, hf3⟩ := flg_spec hi hi'
      obtain rfl := had (by omega)
      have hle : i * 49 + 49 ≤ xs.length := by rw [hl]; have : (i + 1) * 49 ≤ n * 49 := Nat.mul_le_mul_right _ hi'; omega
      have hR : ∀ X : Heap, Rd (St w0 (X ++ η)) b off xs := fun X => hrd.mono fun _ h => h.app_right
      refine TC_skip ?_
      refine TX_then ?_
      refine TC_seq ?_
      refine TC_block ?_
      refine TC_seq ?_
      refine TC_seq ?_
      refine TC_reg ?_
      refine TL_q rfl rfl (QT_move rfl rfl rfl) ?_
      refine TL_q rfl rfl (QT_eql rfl rfl rfl rfl) ?_
      refine TL_q rfl rfl (QT_move rfl rfl rfl) ?_
      refine TL_q rfl rfl (QT_move rfl rfl rfl) ?_
      refine TL_q rfl rfl (QT_move rfl rfl rfl) ?_
      refine TL_q rfl rfl (QT_indexSlice (i) rfl rfl Tryz.underlying32 YtjdaglmkljbfkaaGreatDoorF.sz_102 rfl rfl (rfl) (fun _ => hi')) ?_
      refine TL_q rfl rfl (QT_field rfl rfl YtjdaglmkljbfkaaGreatDoorF.fld_102_0 rfl) ?_
      refine TL_q rfl rfl (QT_loadRj (i * 49) rfl rfl Tryz.underlying5 rfl (hR (_ :: H)) rfl (fun _ => hf1)) ?_
      refine TL_q rfl rfl (QT_neq rfl rfl rfl rfl) ?_
      refine TL_q rfl rfl (QT_and rfl rfl rfl rfl) ?_
      refine TL_nil ?_
      refine TX_then ?_
      refine TC_cond rfl (fun h46 => ?_) (fun h46 => ?_)
      ·
        refine TC_seq ?_
        refine TC_reg ?_
        refine TL_q rfl rfl (QT_assign rfl rfl rfl) ?_
        refine TL_q rfl rfl (QT_assign rfl rfl rfl) ?_
        refine TL_nil ?_
        refine TX_then ?_
        refine TC_ret ?_
        refine TX_then_ret ?_
        refine TX_block_ret ?_
        refine TX_then_ret ?_
        refine TX_then_ret ?_
        refine TX_block_ret ?_
        refine TX_then_ret ?_
        have h46' : i = 0 ∧ flg xs 0 ≠ 0 := by
          have hh := h46
          simp only [Bool.and_eq_true, decide_eq_true_eq] at hh
          have h0 : i = 0 := by omega
          refine ⟨h0, ?_⟩
          subst h0; omega
        have e6 : errT L n xs = 6 := by unfold errT; rw [if_pos ⟨hok, h6⟩, if_pos ⟨by omega, h46'.2⟩]
        exact TX_ret (.inl rfl) (res2 rfl rfl rfl) ⟨_, ⟨_, [], by rw [e6], fragErr e6 (by decide), rfl⟩, fun _ h => h.tail.app_right⟩
      ·
        refine TC_skip ?_
        refine TX_then ?_
        refine TC_seq ?_
        refine TC_seq ?_
        have hz0 : ¬ (0 < n ∧ flg xs 0 ≠ 0) := by
          rintro ⟨_, hne⟩
          by_cases h0 : i = 0
          · subst h0
            simp only [Bool.and_eq_false_iff, decide_eq_false_iff_not] at h46
            omega
          · exact hne (hz (by omega))
        refine TC_reg ?_
        refine TL_q rfl rfl (QT_move rfl rfl rfl) ?_
        refine TL_q rfl rfl (QT_move rfl rfl rfl) ?_
        refine TL_q rfl rfl (QT_indexSlice (i) rfl rfl Tryz.underlying32 YtjdaglmkljbfkaaGreatDoorF.sz_102 rfl rfl (rfl) (fun _ => hi')) ?_
        refine TL_q rfl rfl (QT_field rfl rfl YtjdaglmkljbfkaaGreatDoorF.fld_102_0 rfl) ?_
        refine TL_q rfl rfl (QT_loadRj (i * 49) rfl rfl Tryz.underlying5 rfl (hR (_ :: H)) rfl (fun _ => hf1)) ?_
        refine TL_q rfl rfl (QT_gtr rfl rfl rfl rfl) ?_
        refine TL_nil ?_
        refine TX_then ?_
        refine TC_cond_dec rfl (fun h52 => ?_) (fun h52 => ?_)
        ·
          refine TC_seq ?_
          refine TC_reg ?_
          refine TL_q rfl rfl (QT_assign rfl rfl rfl) ?_
          refine TL_q rfl rfl (QT_assign rfl rfl rfl) ?_
          refine TL_nil ?_
          refine TX_then ?_
          refine TC_ret ?_
          refine TX_then_ret ?_
          refine TX_block_ret ?_
          refine TX_then_ret ?_
          refine TX_then_ret ?_
          refine TX_block_ret ?_
          refine TX_then_ret ?_
          have e7 : errT L n xs = 7 := by unfold errT; rw [if_pos ⟨hok, h6⟩, if_neg hz0, if_pos (bigB_intro hi' (by omega))]
          exact TX_ret (.inl rfl) (res2 rfl rfl rfl) ⟨_, ⟨_, [], by rw [e7], fragErr e7 (by decide), rfl⟩, fun _ h => h.tail.app_right⟩
        ·
          refine TC_skip ?_
          refine TX_then ?_
          refine TC_seq ?_
          have hf3' : flg xs i ≤ 3 := by omega
          have hbf2 : ∀ j, j < i + 1 → flg xs j ≤ 3 := fun j hj => by
            by_cases h : j < i
            · exact hbf j h
            · obtain rfl : j = i := by omega
              exact hf3'
          have hei : Ints sheetK (elem xs 49 i) := hi.elem hi'
          have hels : (elem xs 49 i).length = 49 := hei.length
          have hip : Ints (rep (i + 1) sheetK) (xs.take ((i + 1) * 49)) := by
            have e : n = (i + 1) + (n - (i + 1)) := by omega
            have h1 := hi
            rw [e, rep_add] at h1
            have h2 := h1.split.1
            rwa [rep_len] at h2
          have hti : Ints patchK (tileB (ptsT L) xs i) := by
            have : ∀ j, j ≤ i → Ints patchK (tileB (ptsT L) xs j) := by
              intro j
              induction j with
              | zero => intro _; exact zP_ints
              | succ j ih => intro hj; exact whole_ints (hi.elem (by omega)) (ih (by omega)) (ptsT_or L) (hbf j (by omega))
            exact this i (Nat.le_refl _)
          have htls : (tileB (ptsT L) xs i).length = 48 := hti.length
          have hzt : Sz Tryz.prog 112 (tileB (ptsT L) xs i).length := by rw [htls]; exact YtjdaglmkljbfkaaGreatDoorF.sz_112
          refine TC_draw [(0, 0), (1, 0), (2, 0), (3, 0), (4, 0), (5, 0), (6, 1), (7, 0), (8, 0), (9, 0), (10, 0), (11, 0)] YtjdaglmkljbfkaaGreatDoorF.mixed (by kernel_rfl) (St.calm _ _) ?_
          refine TV_ql rfl rfl rfl (QT_loadW 0 rfl rfl Tryz.underlying27 rfl rfl rfl YtjdaglmkljbfkaaGreatDoorF.sz_27) ?_
          refine TV_q rfl rfl rfl (fun _ => QT_move rfl rfl rfl) ?_
          refine TV_q rfl rfl rfl (fun _ => QT_move rfl rfl rfl) ?_
          refine TV_q rfl rfl rfl (fun _ => QT_indexSlice (i) rfl rfl Tryz.underlying32 YtjdaglmkljbfkaaGreatDoorF.sz_102 rfl rfl (rfl) (fun _ => hi')) ?_
          refine TV_q rfl rfl rfl (fun _ => QT_field rfl rfl YtjdaglmkljbfkaaGreatDoorF.fld_102_0 rfl) ?_
          refine TV_ql rfl rfl rfl (QT_loadRj (i * 49) rfl rfl Tryz.underlying5 rfl (hR (_ :: H)) rfl (fun _ => hf1)) ?_
          refine TV_cq rfl rfl rfl rfl rfl YtjdaglmkljbfkaaGreatDoorF.cal_110 rfl (fun _ => parts_spec w0 _ L (flg xs i : Int) (by omega)) (.drop (by kernel_rfl) (.drop (by kernel_rfl) (.nil))) ?_
          refine TV_q rfl rfl rfl (fun _ => QT_move rfl rfl rfl) ?_
          refine TV_q rfl rfl rfl (fun _ => QT_extract rfl rfl rfl rfl) ?_
          refine TV_q rfl rfl rfl (fun _ => QT_extract rfl rfl rfl rfl) ?_
          refine TV_q rfl rfl rfl (fun _ => QT_assign rfl rfl rfl) ?_
          refine TV_q rfl rfl rfl (fun _ => QT_assign rfl rfl rfl) ?_
          refine TV_end ?_
          refine TX_then ?_
          refine TC_seq ?_
          refine TC_reg ?_
          refine TL_q rfl rfl (QT_build rfl rfl YtjdaglmkljbfkaaGreatDoorF.zero_112 YtjdaglmkljbfkaaGreatDoorF.pl_112 rfl rfl rfl) ?_
          refine TL_e rfl rfl rfl (rfl) (ET_alloc rfl YtjdaglmkljbfkaaGreatDoorF.zero_112) ?_
          rintro _ _ ⟨b10, rfl, rfl⟩
          refine TL_e0 rfl rfl (rfl) (ET_storeW 0 rfl rfl rfl YtjdaglmkljbfkaaGreatDoorF.sz_112 rfl rfl rfl) ?_
          rintro _ _ ⟨rfl, rfl⟩
          refine TL_nil ?_
          refine TX_then ?_
          refine TC_cut (γ := Unit) (fun _ => [(1, true, .slice (some ⟨b, off, none⟩) n cap), (2, true, .pointer (some ⟨b2, 0, none⟩)), (6, true, fv), (7, true, .int .i64 (i : Int)), (8, true, .int .i64 ((npN (ptsT L) (flg xs i) : Nat) : Int)), (9, true, .int .i64 ((ncN (flg xs i) : Nat) : Int)), (10, true, .pointer (some ⟨b10, 0, none⟩))]) (fun _ => St w0 ((b10, 112, startP (tileB (ptsT L) xs i) (flg xs i)) :: (b2, 27, L.cells) :: (H ++ η))) ?_ ?_
          ·
            refine TC_seq ?_
            refine TC_reg ?_
            refine TL_q rfl rfl (QT_move rfl rfl rfl) ?_
            refine TL_q rfl rfl (QT_move rfl rfl rfl) ?_
            refine TL_q rfl rfl (QT_indexSlice (i) rfl rfl Tryz.underlying32 YtjdaglmkljbfkaaGreatDoorF.sz_102 rfl rfl (rfl) (fun _ => hi')) ?_
            refine TL_q rfl rfl (QT_field rfl rfl YtjdaglmkljbfkaaGreatDoorF.fld_102_0 rfl) ?_
            refine TL_q rfl rfl (QT_loadRj (i * 49) rfl rfl Tryz.underlying5 rfl (hR (_ :: _ :: H)) rfl (fun _ => hf1)) ?_
            refine TL_q rfl rfl (QT_gtr rfl rfl rfl rfl) ?_
            refine TL_nil ?_
            refine TX_then ?_
            refine TC_cond_dec rfl (fun h69 => ?_) (fun h69 => ?_)
            ·
              have hne : flg xs i ≠ 0 := by omega
              have hi0 : 0 < i := by
                refine Nat.pos_of_ne_zero fun h0 => ?_
                subst h0
                simp only [Bool.and_eq_false_iff, decide_eq_false_iff_not] at h46
                omega
              have hTl : (tilesC (ptsT L) xs i).length = i * 48 := hF.1
              have hlast : ((tilesC (ptsT L) xs i).drop ((i - 1) * 48)).take 48 = tileB (ptsT L) xs i := by
                obtain ⟨j, rfl⟩ : ∃ j, i = j + 1 := ⟨i - 1, by omega⟩
                have h0 : tilesC (ptsT L) xs (j + 1) = tilesC (ptsT L) xs j ++ tileB (ptsT L) xs (j + 1) := rfl
                have h1 : (tilesC (ptsT L) xs j).length = j * 48 := by
                  have := hTl; rw [h0, List.length_append, htls] at this; omega
                rw [h0, show j + 1 - 1 = j by omega, ← h1, List.drop_left, List.take_of_length_le (by omega)]
              obtain ⟨_, fad, fcap, fb, foff, rfl, hfc, hfad, hfr⟩ := (hF.sla (w0 := w0) (η := [])).some
              obtain rfl := hfad hi0
              have hfr' : ∀ X : Heap, Rd (St w0 (X ++ (H ++ η))) fb foff (tilesC (ptsT L) xs i) := fun X => hfr.mono fun _ h => h.cnt fun p => by simp only [List.countP_append, List.countP_nil]; omega
              have hw : IntKind.i64.wrap (flg xs i : Int) = (flg xs i : Int) := wrap_i64 ⟨by omega, by omega⟩
              refine TC_seq ?_
              refine TC_reg ?_
              refine TL_q rfl rfl (QT_move rfl rfl rfl) ?_
              refine TL_q rfl rfl (QT_move rfl rfl rfl) ?_
              refine TL_q rfl rfl (QT_sub rfl rfl rfl rfl (fun _ => ⟨by omega, by omega⟩)) ?_
              refine TL_q rfl rfl (QT_indexG (i - 1) rfl rfl Tryz.underlying62 YtjdaglmkljbfkaaGreatDoorF.sz_112 rfl rfl (by omega) (fun _ => by omega) (fun _ => rfl)) ?_
              refine TL_q rfl rfl (QT_loadRAj ((i - 1) * 48) rfl rfl Tryz.underlying112 rfl YtjdaglmkljbfkaaGreatDoorF.sz_112 (hfr' [_, _]) rfl (fun _ => by rw [hTl]; omega) (fun _ => hlast)) ?_
              refine TL_e rfl rfl rfl (rfl) (ET_alloc rfl YtjdaglmkljbfkaaGreatDoorF.zero_112) ?_
              rintro _ _ ⟨b11, rfl, rfl⟩
              refine TL_e0 rfl rfl (rfl) (ET_storeW (vs := tileB (ptsT L) xs i) 0 rfl rfl rfl hzt rfl (List.all_eq_true.2 hti.oneCell) (by rw [htls]; rfl)) ?_
              rintro _ _ ⟨rfl, rfl⟩
              refine TL_nil ?_
              refine TX_then ?_
              refine TC_seq ?_
              refine TC_reg ?_
              refine TL_q rfl rfl (QT_move rfl rfl rfl) ?_
              refine TL_q rfl rfl (QT_move rfl rfl rfl) ?_
              refine TL_q rfl rfl (QT_indexSlice (i) rfl rfl Tryz.underlying32 YtjdaglmkljbfkaaGreatDoorF.sz_102 rfl rfl (rfl) (fun _ => hi')) ?_
              refine TL_q rfl rfl (QT_field rfl rfl YtjdaglmkljbfkaaGreatDoorF.fld_102_0 rfl) ?_
              refine TL_q rfl rfl (QT_loadRj (i * 49) rfl rfl Tryz.underlying5 rfl (hR (_ :: _ :: _ :: H)) rfl (fun _ => hf1)) ?_
              refine TL_q rfl rfl (QT_conv rfl rfl Tryz.underlying5 Tryz.underlying3 rfl) ?_
              refine TL_q rfl rfl (QT_assign rfl rfl rfl) ?_
              refine TL_nil ?_
              refine TX_then ?_
              refine TC_seq ?_
              refine TC_seq ?_
              refine TC_reg ?_
              refine TL_q rfl rfl (QT_assign rfl rfl rfl) ?_
              refine TL_nil ?_
              refine TX_then ?_
              refine TC_block ?_
              refine TC_loop (γ := { k : Nat // k ≤ 4 }) (fun t => [(1, true, .slice (some ⟨b, off, none⟩) n cap), (2, true, .pointer (some ⟨b2, 0, none⟩)), (6, true, .slice (some ⟨fb, foff, none⟩) i fcap), (7, true, .int .i64 (i : Int)), (8, true, .int .i64 ((npN (ptsT L) (flg xs i) : Nat) : Int)), (9, true, .int .i64 ((ncN (flg xs i) : Nat) : Int)), (10, true, .pointer (some ⟨b10, 0, none⟩)), (11, true, .pointer (some ⟨b11, 0, none⟩)), (12, true, .int .i64 (flg xs i : Int)), (13, true, .int .i64 (t.1 : Int))]) (fun t => St w0 ((b11, 112, tileB (ptsT L) xs i) :: (b10, 112, ptsTo (tileB (ptsT L) xs i) (flg xs i) t.1) :: (b2, 27, L.cells) :: (H ++ η))) (fun t => 4 - t.1) ⟨0, by omega⟩ ⟨rfl, rfl, rfl, rfl, slotI rfl (pts_eq hty), slotI rfl (col_eq hty), rfl, rfl, slotI rfl hw, rfl, trivial⟩ (fun _ h => h) ?_
              rintro ⟨k, hk⟩
              dsimp only
              refine TC_seq ?_
              refine TC_seq ?_
              refine TC_reg ?_
              refine TL_q rfl rfl (QT_move rfl rfl rfl) ?_
              refine TL_q rfl rfl (QT_lss rfl rfl rfl rfl) ?_
              refine TL_nil ?_
              refine TX_then ?_
              refine TC_cond_dec rfl (fun h82 => ?_) (fun h82 => ?_)
              ·
                have hk' : k < 4 := by omega
                have hel := eP_lt (flg xs i) k
                have hpl := part_len (tileB (ptsT L) xs i) (0 + 0 + eP (flg xs i) k * 2) 2 (by omega)
                have hql := ptsTo_len (tileB (ptsT L) xs i) (flg xs i) k
                refine TC_skip ?_
                refine TX_then ?_
                refine TC_seq ?_
                refine TC_block ?_
                refine TC_reg ?_
                refine TL_q rfl rfl (QT_move rfl rfl rfl) ?_
                refine TL_q rfl rfl (QT_move rfl rfl rfl) ?_
                refine TL_q rfl rfl (QT_mul rfl rfl rfl rfl (fun _ => ⟨by omega, by omega⟩)) ?_
                refine TL_q rfl rfl (QT_move rfl rfl rfl) ?_
                refine TL_q rfl rfl (QT_add rfl rfl rfl rfl (fun _ => ⟨by omega, by omega⟩)) ?_
                refine TL_q rfl rfl (QT_rem rfl rfl rfl rfl (fun _ => ⟨by omega, by omega⟩)) ?_
                refine TL_q rfl rfl (QT_field rfl rfl YtjdaglmkljbfkaaGreatDoorF.fld_112_0 rfl) ?_
                refine TL_q rfl rfl (QT_indexArr (eP (flg xs i) k) rfl rfl Tryz.underlying99 YtjdaglmkljbfkaaGreatDoorF.sz_72 rfl rfl ((by unfold eP; omega)) (fun _ => by omega)) ?_
                refine TL_q rfl rfl (QT_loadA 0 rfl rfl Tryz.underlying72 rfl rfl rfl YtjdaglmkljbfkaaGreatDoorF.sz_72 (fun _ => Nat.ble_eq_true_of_le (show 0 + 0 + eP (flg xs i) k * 2 + 2 ≤ (tileB (ptsT L) xs i).length by omega))) ?_
                refine TL_q rfl rfl (QT_field rfl rfl YtjdaglmkljbfkaaGreatDoorF.fld_112_0 rfl) ?_
                refine TL_q rfl rfl (QT_indexArr (k) rfl rfl Tryz.underlying99 YtjdaglmkljbfkaaGreatDoorF.sz_72 rfl rfl (rfl) (fun _ => by omega)) ?_
                refine TL_e0 rfl rfl (rfl) (ET_store (vs := ((tileB (ptsT L) xs i).drop (0 + 0 + eP (flg xs i) k * 2)).take 2) 1 rfl rfl rfl rfl (by rw [hpl]; exact YtjdaglmkljbfkaaGreatDoorF.sz_72) rfl (all_part hti _ _) (Nat.ble_eq_true_of_le (by rw [hpl, hql]; omega))) ?_
                rintro _ _ ⟨rfl, rfl⟩
                refine TL_nil ?_
                refine TX_block_normal ?_
                refine TX_then ?_
                refine TC_reg ?_
                refine TL_q rfl rfl (QT_move rfl rfl rfl) ?_
                refine TL_q rfl rfl (QT_add rfl rfl rfl rfl (fun _ => ⟨by omega, by omega⟩)) ?_
                refine TL_q rfl rfl (QT_assign rfl rfl rfl) ?_
                refine TL_nil ?_
                exact TX_round ⟨k + 1, by omega⟩ (by show 4 - (k + 1) < 4 - k; omega) ⟨rfl, rfl, rfl, rfl, rfl, rfl, rfl, rfl, rfl, rfl, trivial⟩ (fun _ h => h)
              ·
                refine TC_exit ?_
                refine TX_then_exit ?_
                refine TX_then_exit ?_
                refine TX_block_here ?_
                refine TX_then ?_
                refine TC_seq ?_
                obtain rfl : k = 4 := by omega
                have hel0 := eC_lt (flg xs i) 0
                have hel1 := eC_lt (flg xs i) 1
                have hql := ptsTo_len (tileB (ptsT L) xs i) (flg xs i) 4
                have hpl0 := part_len (tileB (ptsT L) xs i) (0 + 32 + eC (flg xs i) 0 * 4) 4 (by omega)
                have hpl1 := part_len (tileB (ptsT L) xs i) (0 + 32 + eC (flg xs i) 1 * 4) 4 (by omega)
                refine TC_reg ?_
                refine TL_q rfl rfl (QT_move rfl rfl rfl) ?_
                refine TL_q rfl rfl (QT_field rfl rfl YtjdaglmkljbfkaaGreatDoorF.fld_112_1 rfl) ?_
                refine TL_q rfl rfl (QT_indexArr (eC (flg xs i) 0) rfl rfl Tryz.underlying100 YtjdaglmkljbfkaaGreatDoorF.sz_75 rfl rfl ((by unfold eC; omega)) (fun _ => by omega)) ?_
                refine TL_q rfl rfl (QT_loadA 0 rfl rfl Tryz.underlying75 rfl rfl rfl YtjdaglmkljbfkaaGreatDoorF.sz_75 (fun _ => Nat.ble_eq_true_of_le (show 0 + 32 + eC (flg xs i) 0 * 4 + 4 ≤ (tileB (ptsT L) xs i).length by omega))) ?_
                refine TL_q rfl rfl (QT_field rfl rfl YtjdaglmkljbfkaaGreatDoorF.fld_112_1 rfl) ?_
                refine TL_q rfl rfl (QT_indexArr (0) rfl rfl Tryz.underlying100 YtjdaglmkljbfkaaGreatDoorF.sz_75 rfl rfl (rfl) (fun _ => by decide)) ?_
                refine TL_e0 rfl rfl (rfl) (ET_store (vs := ((tileB (ptsT L) xs i).drop (0 + 32 + eC (flg xs i) 0 * 4)).take 4) 1 rfl rfl rfl rfl (by rw [hpl0]; exact YtjdaglmkljbfkaaGreatDoorF.sz_75) rfl (all_part hti _ _) (Nat.ble_eq_true_of_le (by rw [hpl0, hql]; decide))) ?_
                rintro _ _ ⟨rfl, rfl⟩
                refine TL_nil ?_
                refine TX_then ?_
                refine TC_reg ?_
                refine TL_q rfl rfl (QT_move rfl rfl rfl) ?_
                refine TL_q rfl rfl (QT_add rfl rfl rfl rfl (fun _ => ⟨by omega, by omega⟩)) ?_
                refine TL_q rfl rfl (QT_rem rfl rfl rfl rfl (fun _ => ⟨by omega, by omega⟩)) ?_
                refine TL_q rfl rfl (QT_field rfl rfl YtjdaglmkljbfkaaGreatDoorF.fld_112_1 rfl) ?_
                refine TL_q rfl rfl (QT_indexArr (eC (flg xs i) 1) rfl rfl Tryz.underlying100 YtjdaglmkljbfkaaGreatDoorF.sz_75 rfl rfl ((by unfold eC; omega)) (fun _ => by omega)) ?_
                refine TL_q rfl rfl (QT_loadA 0 rfl rfl Tryz.underlying75 rfl rfl rfl YtjdaglmkljbfkaaGreatDoorF.sz_75 (fun _ => Nat.ble_eq_true_of_le (show 0 + 32 + eC (flg xs i) 1 * 4 + 4 ≤ (tileB (ptsT L) xs i).length by omega))) ?_
                refine TL_q rfl rfl (QT_field rfl rfl YtjdaglmkljbfkaaGreatDoorF.fld_112_1 rfl) ?_
                refine TL_q rfl rfl (QT_indexArr (1) rfl rfl Tryz.underlying100 YtjdaglmkljbfkaaGreatDoorF.sz_75 rfl rfl (rfl) (fun _ => by decide)) ?_
                refine TL_e0 rfl rfl (rfl) (ET_store (vs := ((tileB (ptsT L) xs i).drop (0 + 32 + eC (flg xs i) 1 * 4)).take 4) 1 rfl rfl rfl rfl (by rw [hpl1]; exact YtjdaglmkljbfkaaGreatDoorF.sz_75) rfl (all_part hti _ _) (Nat.ble_eq_true_of_le (by rw [hpl1, setAt_length, hql]; decide))) ?_
                rintro _ _ ⟨rfl, rfl⟩
                refine TL_nil ?_
                exact TX_cut () ⟨rfl, rfl, rfl, rfl, rfl, rfl, rfl, trivial⟩ (fun w h => by
                  unfold startP; rw [if_neg hne]; exact h.tail)
            ·
              refine TC_skip ?_
              exact TX_cut () ⟨rfl, rfl, rfl, rfl, slotI rfl (pts_eq hty), slotI rfl (col_eq hty), rfl, trivial⟩ (fun w h => by
                have h0 : flg xs i = 0 := by omega
                unfold startP; rw [if_pos h0]; exact h)
          rintro ⟨⟩
          refine TC_seq ?_
          refine TC_reg ?_
          refine TL_q rfl rfl (QT_assign rfl rfl rfl) ?_
          refine TL_nil ?_
          refine TX_then ?_
          refine TC_seq ?_
          refine TC_reg ?_
          refine TL_q rfl rfl (QT_assign rfl rfl rfl) ?_
          refine TL_nil ?_
          refine TX_then ?_
          refine TC_cut (γ := Unit) (fun _ => [(1, true, .slice (some ⟨b, off, none⟩) n cap), (2, true, .pointer (some ⟨b2, 0, none⟩)), (6, true, fv), (7, true, .int .i64 (i : Int)), (8, true, .int .i64 ((npN (ptsT L) (flg xs i) : Nat) : Int)), (9, true, .int .i64 ((ncN (flg xs i) : Nat) : Int)), (10, true, .pointer (some ⟨b10, 0, none⟩)), (14, true, .int .i64 ((atN (flg xs i) : Nat) : Int)), (15, true, .int .i64 ((hvN (flg xs i) : Nat) : Int))]) (fun _ => St w0 ((b10, 112, startP (tileB (ptsT L) xs i) (flg xs i)) :: (b2, 27, L.cells) :: (H ++ η))) ?_ ?_
          ·
            refine TC_seq ?_
            refine TC_reg ?_
            refine TL_q rfl rfl (QT_move rfl rfl rfl) ?_
            refine TL_q rfl rfl (QT_move rfl rfl rfl) ?_
            refine TL_q rfl rfl (QT_indexSlice (i) rfl rfl Tryz.underlying32 YtjdaglmkljbfkaaGreatDoorF.sz_102 rfl rfl (rfl) (fun _ => hi')) ?_
            refine TL_q rfl rfl (QT_field rfl rfl YtjdaglmkljbfkaaGreatDoorF.fld_102_0 rfl) ?_
            refine TL_q rfl rfl (QT_loadRj (i * 49) rfl rfl Tryz.underlying5 rfl (hR (_ :: _ :: H)) rfl (fun _ => hf1)) ?_
            refine TL_q rfl rfl (QT_gtr rfl rfl rfl rfl) ?_
            refine TL_nil ?_
            refine TX_then ?_
            refine TC_cond_dec rfl (fun h115 => ?_) (fun h115 => ?_)
            ·
              refine TC_seq ?_
              refine TC_reg ?_
              refine TL_q rfl rfl (QT_assign rfl rfl rfl) ?_
              refine TL_nil ?_
              refine TX_then ?_
              refine TC_reg ?_
              refine TL_q rfl rfl (QT_assign rfl rfl rfl) ?_
              refine TL_nil ?_
              exact TX_cut () ⟨rfl, rfl, rfl, rfl, rfl, rfl, rfl, slotI rfl (by unfold atN; rw [if_neg (by omega)]; rfl), slotI rfl (by unfold hvN; rw [if_neg (by omega)]; rfl), trivial⟩ (fun _ h => h)
            ·
              refine TC_skip ?_
              exact TX_cut () ⟨rfl, rfl, rfl, rfl, rfl, rfl, rfl, slotI rfl (by unfold atN; rw [if_pos (by omega)]; rfl), slotI rfl (by unfold hvN; rw [if_pos (by omega)]; rfl), trivial⟩ (fun _ h => h)
          rintro ⟨⟩
          have hb1 := npN_bd (f := flg xs i) (ptsT_or L)
          have hb2 := ncN_bd (flg xs i)
          have hp12 := ptsT_or L
          have hsl := startP_len (tileB (ptsT L) xs i) (flg xs i)
          refine TC_seq ?_
          refine TC_seq ?_
          refine TC_reg ?_
          refine TL_q rfl rfl (QT_assign rfl rfl rfl) ?_
          refine TL_nil ?_
          refine TX_then ?_
          refine TC_block ?_
          refine TC_loop (γ := { k : Nat // k ≤ npN (ptsT L) (flg xs i) }) (fun t => [(1, true, .slice (some ⟨b, off, none⟩) n cap), (2, true, .pointer (some ⟨b2, 0, none⟩)), (6, true, fv), (7, true, .int .i64 (i : Int)), (8, true, .int .i64 ((npN (ptsT L) (flg xs i) : Nat) : Int)), (9, true, .int .i64 ((ncN (flg xs i) : Nat) : Int)), (10, true, .pointer (some ⟨b10, 0, none⟩)), (14, true, .int .i64 ((atN (flg xs i) : Nat) : Int)), (15, true, .int .i64 ((hvN (flg xs i) : Nat) : Int)), (16, true, .int .i64 (t.1 : Int))]) (fun t => St w0 ((b10, 112, rP (elem xs 49 i) (startP (tileB (ptsT L) xs i) (flg xs i)) (atN (flg xs i)) t.1) :: (b2, 27, L.cells) :: (H ++ η))) (fun t => npN (ptsT L) (flg xs i) - t.1) ⟨0, by omega⟩ ⟨rfl, rfl, rfl, rfl, rfl, rfl, rfl, rfl, rfl, rfl, trivial⟩ (fun _ h => h) ?_
          rintro ⟨k, hk⟩
          dsimp only
          refine TC_seq ?_
          refine TC_seq ?_
          refine TC_reg ?_
          refine TL_q rfl rfl (QT_move rfl rfl rfl) ?_
          refine TL_q rfl rfl (QT_move rfl rfl rfl) ?_
          refine TL_q rfl rfl (QT_lss rfl rfl rfl rfl) ?_
          refine TL_nil ?_
          refine TX_then ?_
          refine TC_cond_dec rfl (fun h118 => ?_) (fun h118 => ?_)
          ·
            have hk' : k < npN (ptsT L) (flg xs i) := by omega
            have hpl := part_len (elem xs 49 i) (1 + k * 2) 2 (by omega)
            have hql := rP_len (elem xs 49 i) (startP (tileB (ptsT L) xs i) (flg xs i)) (atN (flg xs i)) k
            refine TC_skip ?_
            refine TX_then ?_
            refine TC_seq ?_
            refine TC_block ?_
            refine TC_reg ?_
            refine TL_q rfl rfl (QT_move rfl rfl rfl) ?_
            refine TL_q rfl rfl (QT_move rfl rfl rfl) ?_
            refine TL_q rfl rfl (QT_add rfl rfl rfl rfl (fun _ => ⟨by omega, by omega⟩)) ?_
            refine TL_q rfl rfl (QT_move rfl rfl rfl) ?_
            refine TL_q rfl rfl (QT_move rfl rfl rfl) ?_
            refine TL_q rfl rfl (QT_move rfl rfl rfl) ?_
            refine TL_q rfl rfl (QT_indexSlice (i) rfl rfl Tryz.underlying32 YtjdaglmkljbfkaaGreatDoorF.sz_102 rfl rfl (rfl) (fun _ => hi')) ?_
            refine TL_q rfl rfl (QT_field rfl rfl YtjdaglmkljbfkaaGreatDoorF.fld_102_1 rfl) ?_
            refine TL_q rfl rfl (QT_indexArr (k) rfl rfl Tryz.underlying99 YtjdaglmkljbfkaaGreatDoorF.sz_72 rfl rfl (rfl) (fun _ => by omega)) ?_
            refine TL_q rfl rfl (QT_loadRAj (i * 49 + (1 + k * 2)) rfl rfl Tryz.underlying72 rfl YtjdaglmkljbfkaaGreatDoorF.sz_72 (hR (_ :: _ :: H)) rfl (fun _ => by omega) (fun _ => elem_part xs i (1 + k * 2) 2 (by omega))) ?_
            refine TL_q rfl rfl (QT_field rfl rfl YtjdaglmkljbfkaaGreatDoorF.fld_112_0 rfl) ?_
            refine TL_q rfl rfl (QT_indexArr (atN (flg xs i) + k) rfl rfl Tryz.underlying99 YtjdaglmkljbfkaaGreatDoorF.sz_72 rfl rfl (rfl) (fun _ => by omega)) ?_
            refine TL_e0 rfl rfl (rfl) (ET_store (vs := ((elem xs 49 i).drop (1 + k * 2)).take 2) 0 rfl rfl rfl rfl (by rw [hpl]; exact YtjdaglmkljbfkaaGreatDoorF.sz_72) rfl (all_part hei _ _) (Nat.ble_eq_true_of_le (by rw [hpl, hql, hsl]; omega))) ?_
            rintro _ _ ⟨rfl, rfl⟩
            refine TL_nil ?_
            refine TX_block_normal ?_
            refine TX_then ?_
            refine TC_reg ?_
            refine TL_q rfl rfl (QT_move rfl rfl rfl) ?_
            refine TL_q rfl rfl (QT_add rfl rfl rfl rfl (fun _ => ⟨by omega, by omega⟩)) ?_
            refine TL_q rfl rfl (QT_assign rfl rfl rfl) ?_
            refine TL_nil ?_
            exact TX_round ⟨k + 1, by omega⟩ (by show npN (ptsT L) (flg xs i) - (k + 1) < npN (ptsT L) (flg xs i) - k; omega) ⟨rfl, rfl, rfl, rfl, rfl, rfl, rfl, rfl, rfl, rfl, trivial⟩ (fun _ h => h)
          ·
            refine TC_exit ?_
            refine TX_then_exit ?_
            refine TX_then_exit ?_
            refine TX_block_here ?_
            refine TX_then ?_
            refine TC_seq ?_
            refine TC_seq ?_
            refine TC_reg ?_
            refine TL_q rfl rfl (QT_assign rfl rfl rfl) ?_
            refine TL_nil ?_
            refine TX_then ?_
            refine TC_block ?_
            obtain rfl : k = npN (ptsT L) (flg xs i) := by omega
            refine TC_loop (γ := { k : Nat // k ≤ ncN (flg xs i) }) (fun t => [(1, true, .slice (some ⟨b, off, none⟩) n cap), (2, true, .pointer (some ⟨b2, 0, none⟩)), (6, true, fv), (7, true, .int .i64 (i : Int)), (9, true, .int .i64 ((ncN (flg xs i) : Nat) : Int)), (10, true, .pointer (some ⟨b10, 0, none⟩)), (15, true, .int .i64 ((hvN (flg xs i) : Nat) : Int)), (17, true, .int .i64 (t.1 : Int))]) (fun t => St w0 ((b10, 112, rC (elem xs 49 i) (rP (elem xs 49 i) (startP (tileB (ptsT L) xs i) (flg xs i)) (atN (flg xs i)) (npN (ptsT L) (flg xs i))) (hvN (flg xs i)) t.1) :: (b2, 27, L.cells) :: (H ++ η))) (fun t => ncN (flg xs i) - t.1) ⟨0, by omega⟩ ⟨rfl, rfl, rfl, rfl, rfl, rfl, rfl, rfl, trivial⟩ (fun _ h => h) ?_
            rintro ⟨m, hm⟩
            dsimp only
            refine TC_seq ?_
            refine TC_seq ?_
            refine TC_reg ?_
            refine TL_q rfl rfl (QT_move rfl rfl rfl) ?_
            refine TL_q rfl rfl (QT_move rfl rfl rfl) ?_
            refine TL_q rfl rfl (QT_lss rfl rfl rfl rfl) ?_
            refine TL_nil ?_
            refine TX_then ?_
            refine TC_cond_dec rfl (fun h135 => ?_) (fun h135 => ?_)
            ·
              have hm' : m < ncN (flg xs i) := by omega
              have hpl := part_len (elem xs 49 i) (33 + m * 4) 4 (by omega)
              have hql := rC_len (elem xs 49 i) (rP (elem xs 49 i) (startP (tileB (ptsT L) xs i) (flg xs i)) (atN (flg xs i)) (npN (ptsT L) (flg xs i))) (hvN (flg xs i)) m
              have hrl := rP_len (elem xs 49 i) (startP (tileB (ptsT L) xs i) (flg xs i)) (atN (flg xs i)) (npN (ptsT L) (flg xs i))
              refine TC_skip ?_
              refine TX_then ?_
              refine TC_seq ?_
              refine TC_block ?_
              refine TC_reg ?_
              refine TL_q rfl rfl (QT_move rfl rfl rfl) ?_
              refine TL_q rfl rfl (QT_move rfl rfl rfl) ?_
              refine TL_q rfl rfl (QT_add rfl rfl rfl rfl (fun _ => ⟨by omega, by omega⟩)) ?_
              refine TL_q rfl rfl (QT_move rfl rfl rfl) ?_
              refine TL_q rfl rfl (QT_move rfl rfl rfl) ?_
              refine TL_q rfl rfl (QT_move rfl rfl rfl) ?_
              refine TL_q rfl rfl (QT_indexSlice (i) rfl rfl Tryz.underlying32 YtjdaglmkljbfkaaGreatDoorF.sz_102 rfl rfl (rfl) (fun _ => hi')) ?_
              refine TL_q rfl rfl (QT_field rfl rfl YtjdaglmkljbfkaaGreatDoorF.fld_102_2 rfl) ?_
              refine TL_q rfl rfl (QT_indexArr (m) rfl rfl Tryz.underlying100 YtjdaglmkljbfkaaGreatDoorF.sz_75 rfl rfl (rfl) (fun _ => by omega)) ?_
              refine TL_q rfl rfl (QT_loadRAj (i * 49 + (33 + m * 4)) rfl rfl Tryz.underlying75 rfl YtjdaglmkljbfkaaGreatDoorF.sz_75 (hR (_ :: _ :: H)) rfl (fun _ => by omega) (fun _ => elem_part xs i (33 + m * 4) 4 (by omega))) ?_
              refine TL_q rfl rfl (QT_field rfl rfl YtjdaglmkljbfkaaGreatDoorF.fld_112_1 rfl) ?_
              refine TL_q rfl rfl (QT_indexArr (hvN (flg xs i) + m) rfl rfl Tryz.underlying100 YtjdaglmkljbfkaaGreatDoorF.sz_75 rfl rfl (rfl) (fun _ => by omega)) ?_
              refine TL_e0 rfl rfl (rfl) (ET_store (vs := ((elem xs 49 i).drop (33 + m * 4)).take 4) 0 rfl rfl rfl rfl (by rw [hpl]; exact YtjdaglmkljbfkaaGreatDoorF.sz_75) rfl (all_part hei _ _) (Nat.ble_eq_true_of_le (by rw [hpl, hql, hrl, hsl]; omega))) ?_
              rintro _ _ ⟨rfl, rfl⟩
              refine TL_nil ?_
              refine TX_block_normal ?_
              refine TX_then ?_
              refine TC_reg ?_
              refine TL_q rfl rfl (QT_move rfl rfl rfl) ?_
              refine TL_q rfl rfl (QT_add rfl rfl rfl rfl (fun _ => ⟨by omega, by omega⟩)) ?_
              refine TL_q rfl rfl (QT_assign rfl rfl rfl) ?_
              refine TL_nil ?_
              exact TX_round ⟨m + 1, by omega⟩ (by show ncN (flg xs i) - (m + 1) < ncN (flg xs i) - m; omega) ⟨rfl, rfl, rfl, rfl, rfl, rfl, rfl, rfl, trivial⟩ (fun _ h => h)
            ·
              refine TC_exit ?_
              refine TX_then_exit ?_
              refine TX_then_exit ?_
              refine TX_block_here ?_
              refine TX_then ?_
              obtain rfl : m = ncN (flg xs i) := by omega
              refine TC_A (St w0 ((b10, 112, wholeC (ptsT L) (flg xs i) (elem xs 49 i) (tileB (ptsT L) xs i)) :: (b2, 27, L.cells) :: (H ++ η))) (fun w h => by rw [← ref_eq hels htls (ptsT_or L) (show flg xs i = 0 ∨ flg xs i = 1 ∨ flg xs i = 2 ∨ flg xs i = 3 by omega)]; exact h) ?_
              have hwi : Ints patchK (wholeC (ptsT L) (flg xs i) (elem xs 49 i) (tileB (ptsT L) xs i)) := whole_ints hei hti (ptsT_or L) hf3'
              have hwls : (wholeC (ptsT L) (flg xs i) (elem xs 49 i) (tileB (ptsT L) xs i)).length = 48 := hwi.length
              have hzw : Sz Tryz.prog 112 (wholeC (ptsT L) (flg xs i) (elem xs 49 i) (tileB (ptsT L) xs i)).length := by rw [hwls]; exact YtjdaglmkljbfkaaGreatDoorF.sz_112
              refine TC_reg ?_
              refine TL_q rfl rfl (QT_move rfl rfl rfl) ?_
              refine TL_q rfl rfl (QT_loadW (cs := wholeC (ptsT L) (flg xs i) (elem xs 49 i) (tileB (ptsT L) xs i)) 0 rfl rfl Tryz.underlying112 rfl rfl rfl hzw) ?_
              refine TL_e rfl rfl rfl (rfl) (ET_buildN [_] rfl Tryz.underlying62 YtjdaglmkljbfkaaGreatDoorF.sz_112 YtjdaglmkljbfkaaGreatDoorF.zero_112 rfl rfl rfl (fun v hv => by cases List.mem_singleton.1 hv; exact hwls)) ?_
              rintro _ _ ⟨b152, rfl, rfl⟩
              refine TL_e rfl rfl rfl (rfl) (ET_appendL (L := [_, _, _]) rfl Tryz.underlying62 el_Patch rfl rfl hF (fun _ h => h) (SlA.own (n := 1) (xs := wholeC (ptsT L) (flg xs i) (elem xs 49 i) (tileB (ptsT L) xs i)) 0 rfl (by rw [List.drop_zero, List.take_of_length_le (by simp [Value.cells, hwls])]; simp [Value.cells]) (by simp [Value.cells, hwls]) (by omega)) hwi.oneCell (by omega) (by omega)) ?_
              rintro fv2 _ ⟨H', hF', rfl⟩
              refine TL_q rfl rfl (QT_assign rfl rfl rfl) ?_
              refine TL_nil ?_
              refine TX_block_normal ?_
              refine TX_then ?_
              refine TC_reg ?_
              refine TL_q rfl rfl (QT_move rfl rfl rfl) ?_
              refine TL_q rfl rfl (QT_add rfl rfl rfl rfl (fun _ => ⟨by omega, by omega⟩)) ?_
              refine TL_q rfl rfl (QT_assign rfl rfl rfl) ?_
              refine TL_nil ?_
              exact TX_round ⟨(i + 1, fv2, H'), hi', hbf2, fun _ => Classical.byContradiction fun hne => hz0 ⟨by omega, hne⟩, hF'⟩ (by show n - (i + 1) < n - i; omega) ⟨rfl, rfl, rfl, rfl, trivial⟩ (fun _ h => h.tail.tail)
    ·
      refine TC_exit ?_
      refine TX_then_exit ?_
      refine TX_then_exit ?_
      refine TX_block_here ?_
      refine TX_then ?_
      refine TC_seq ?_
      refine TC_reg ?_
      refine TL_q rfl rfl (QT_move rfl rfl rfl) ?_
      refine TL_q rfl rfl (QT_assign rfl rfl rfl) ?_
      refine TL_q rfl rfl (QT_assign rfl rfl rfl) ?_
      refine TL_nil ?_
      refine TX_then ?_
      refine TC_ret ?_
      obtain rfl : i = n := by omega
      have e0 : errT L i xs = 0 := by unfold errT; rw [if_pos ⟨hok, h6⟩, if_neg (fun h => h.2 (hz h.1)), if_neg (by rw [bigB_none hbf]; decide)]
      exact TX_ret (.inl rfl) (res2 rfl rfl rfl) ⟨_, ⟨fv, H, by rw [e0], by unfold cntT outT; rw [if_pos e0, if_pos e0]; exact hF, rfl⟩, fun _ h => h.tail⟩
end Go.Proofs.YtjdaglmkljbfkaaGreatDoor.T12
namespace Go.Proofs.YtjdaglmkljbfkaaGreatDoor.T12
open Go Go.Gx Go.RowKit Go.ChangeShapes Go.WideShapes Go.ChangeAt
set_option maxRecDepth 100000

def laid12 : List (String × DataW Unit) := [("gouache/layouts.sets", Rows.laid_gouache_layouts_sets), ("gouache/tiles.edges", Rows.laid_gouache_tiles_edges)]
theorem laid12_met {W : World} (h : laidMetH Tryz.prog laid12 W) : laidMet Tryz.prog laid12 W := by
  rw [MakeChecks.laidMetH_plain _ _ _ (by kernel_rfl)] at h
  exact h
theorem door12 (os : Os) (args : Array Value) : laidMetH Tryz.prog laid12 ((World.doorLaid Tryz.prog 400 os).forCall (fun _ _ => 0) ⟨#[], args, []⟩).memory :=
  laidMetH_of_parts3 (fuel := 8) (laidMet_of_run' 8 (by kernel_rfl) (by kernel_rfl)) (by kernel_rfl) (by kernel_rfl)
theorem sets12 {W : World} (h : laidMetH Tryz.prog laid12 W) : Sets W := sets_of (laid12_met h) (List.mem_cons_self ..)
def edgesK : List IntKind := List.replicate 24 .i64
theorem gEdges : Tryz.prog.globalNamed "gouache/tiles.edges" = some 1 := by kernel_rfl
theorem edges12 {W : World} (h : laidMetH Tryz.prog laid12 W) : Edges W :=
  laid_flat (name := "gouache/tiles.edges") (d := Rows.laid_gouache_tiles_edges) (ks := edgesK) (laid12_met h) (List.mem_cons_of_mem _ (List.mem_cons_self ..)) gEdges (by kernel_rfl) (show flat Tryz.prog 8 243 = some edgesK by kernel_rfl) (intsB_ok _ _ (by kernel_rfl)) (by kernel_rfl)
end Go.Proofs.YtjdaglmkljbfkaaGreatDoor.T12
namespace Go.Proofs.YtjdaglmkljbfkaaGreatDoor
open Go Go.Gx Go.RowKit Go.ChangeShapes Go.WideShapes Go.ChangeAt
set_option maxRecDepth 100000

end Go.Proofs.YtjdaglmkljbfkaaGreatDoor
namespace Go.Gx
open Go Go.RowKit
variable {P : Program} {n : Nat} {ops : Array Oper} {Q : Exit → Act → World → Prop} {σ : Slots} {A : World → Prop}
end Go.Gx
namespace Go.Proofs.YtjdaglmkljbfkaaGreatDoor
open Go Go.Gx Go.RowKit
set_option maxRecDepth 100000

theorem fill_nil_bits (w0 : Base) (η : Heap) : CallsT Tryz.prog 38 [nilS] (St w0 η) fun v A' => v = .tuple #[] ∧ A' = St w0 η := by
  refine CallsT.body Tryz.func38 rfl rfl ?_
  simp only [Tryz.ntmps38, slotsOf, Nat.reduceAdd]
  refine TC_seq ?_
  refine TC_reg ?_
  refine TL_q rfl rfl (QT_assign rfl rfl rfl) ?_
  refine TL_nil ?_
  refine TX_then ?_
  refine TC_block ?_
  refine TC_loop (γ := Unit) (fun _ => [(0, true, nilS), (2, true, .int .i64 0)]) (fun _ => St w0 η) (fun _ => 0) () ⟨rfl, rfl, trivial⟩ (fun _ h => h) ?_
  rintro ⟨⟩
  dsimp only [nilS]
  refine TC_seq ?_
  refine TC_seq ?_
  refine TC_reg ?_
  refine TL_q rfl rfl (QT_move rfl rfl rfl) ?_
  refine TL_q rfl rfl (QT_move rfl rfl rfl) ?_
  refine TL_q rfl rfl (QT_len rfl rfl Tryz.underlying39 rfl) ?_
  refine TL_q rfl rfl (QT_lss rfl rfl rfl rfl) ?_
  refine TL_nil ?_
  refine TX_then ?_
  refine TC_cond rfl (fun h => absurd (h.symm.trans ((show (_ : Bool) = false by rfl))) (by decide)) (fun _ => ?_)
  refine TC_exit ?_
  refine TX_then_exit ?_
  refine TX_then_exit ?_
  refine TX_block_here ?_
  exact TX_ret (.inr rfl) (res0 rfl) ⟨_, ⟨rfl, rfl⟩, fun _ h => h⟩
theorem grow_nil_bits (w0 : Base) (η : Heap) : CallsT Tryz.prog 51 [nilS] (St w0 η) fun v A' => v = .tuple #[] ∧ A' = St w0 η := by
  refine CallsT.body Tryz.func51 rfl rfl ?_
  simp only [Tryz.ntmps51, slotsOf, Nat.reduceAdd]
  refine TC_seq ?_
  refine TC_reg ?_
  refine TL_q rfl rfl (QT_assign rfl rfl rfl) ?_
  refine TL_nil ?_
  refine TX_then ?_
  refine TC_block ?_
  refine TC_loop (γ := Unit) (fun _ => [(0, true, nilS), (2, true, .int .i64 0)]) (fun _ => St w0 η) (fun _ => 0) () ⟨rfl, rfl, trivial⟩ (fun _ h => h) ?_
  rintro ⟨⟩
  dsimp only [nilS]
  refine TC_seq ?_
  refine TC_seq ?_
  refine TC_reg ?_
  refine TL_q rfl rfl (QT_move rfl rfl rfl) ?_
  refine TL_q rfl rfl (QT_move rfl rfl rfl) ?_
  refine TL_q rfl rfl (QT_len rfl rfl Tryz.underlying39 rfl) ?_
  refine TL_q rfl rfl (QT_lss rfl rfl rfl rfl) ?_
  refine TL_nil ?_
  refine TX_then ?_
  refine TC_cond rfl (fun h => absurd (h.symm.trans ((show (_ : Bool) = false by rfl))) (by decide)) (fun _ => ?_)
  refine TC_exit ?_
  refine TX_then_exit ?_
  refine TX_then_exit ?_
  refine TX_block_here ?_
  exact TX_ret (.inr rfl) (res0 rfl) ⟨_, ⟨rfl, rfl⟩, fun _ h => h⟩
theorem marked_nil_bits (w0 : Base) (η : Heap) : CallsT Tryz.prog 64 [nilS] (St w0 η) fun v A' => v = .bool true ∧ A' = St w0 η := by
  refine CallsT.body Tryz.func64 rfl rfl ?_
  simp only [Tryz.ntmps64, slotsOf, Nat.reduceAdd]
  refine TC_seq ?_
  refine TC_reg ?_
  refine TL_q rfl rfl (QT_assign rfl rfl rfl) ?_
  refine TL_nil ?_
  refine TX_then ?_
  refine TC_seq ?_
  refine TC_seq ?_
  refine TC_reg ?_
  refine TL_q rfl rfl (QT_assign rfl rfl rfl) ?_
  refine TL_nil ?_
  refine TX_then ?_
  refine TC_block ?_
  refine TC_loop (γ := Unit) (fun _ => [(0, true, nilS), (3, true, .int .i64 0)]) (fun _ => St w0 η) (fun _ => 0) () ⟨rfl, rfl, trivial⟩ (fun _ h => h) ?_
  rintro ⟨⟩
  dsimp only [nilS]
  refine TC_seq ?_
  refine TC_seq ?_
  refine TC_reg ?_
  refine TL_q rfl rfl (QT_move rfl rfl rfl) ?_
  refine TL_q rfl rfl (QT_move rfl rfl rfl) ?_
  refine TL_q rfl rfl (QT_len rfl rfl Tryz.underlying39 rfl) ?_
  refine TL_q rfl rfl (QT_lss rfl rfl rfl rfl) ?_
  refine TL_nil ?_
  refine TX_then ?_
  refine TC_cond rfl (fun h => absurd (h.symm.trans ((show (_ : Bool) = false by rfl))) (by decide)) (fun _ => ?_)
  refine TC_exit ?_
  refine TX_then_exit ?_
  refine TX_then_exit ?_
  refine TX_block_here ?_
  refine TX_then ?_
  refine TC_seq ?_
  refine TC_reg ?_
  refine TL_q rfl rfl (QT_assign rfl rfl rfl) ?_
  refine TL_nil ?_
  refine TX_then ?_
  refine TC_ret ?_
  exact TX_ret (.inl rfl) (res1 rfl rfl) ⟨_, ⟨rfl, rfl⟩, fun _ h => h⟩
theorem fill_nil_fixes (w0 : Base) (η : Heap) : CallsT Tryz.prog 39 [nilS] (St w0 η) fun v A' => v = .tuple #[] ∧ A' = St w0 η := by
  refine CallsT.body Tryz.func39 rfl rfl ?_
  simp only [Tryz.ntmps39, slotsOf, Nat.reduceAdd]
  refine TC_seq ?_
  refine TC_reg ?_
  refine TL_q rfl rfl (QT_assign rfl rfl rfl) ?_
  refine TL_nil ?_
  refine TX_then ?_
  refine TC_block ?_
  refine TC_loop (γ := Unit) (fun _ => [(0, true, nilS), (2, true, .int .i64 0)]) (fun _ => St w0 η) (fun _ => 0) () ⟨rfl, rfl, trivial⟩ (fun _ h => h) ?_
  rintro ⟨⟩
  dsimp only [nilS]
  refine TC_seq ?_
  refine TC_seq ?_
  refine TC_reg ?_
  refine TL_q rfl rfl (QT_move rfl rfl rfl) ?_
  refine TL_q rfl rfl (QT_move rfl rfl rfl) ?_
  refine TL_q rfl rfl (QT_len rfl rfl Tryz.underlying40 rfl) ?_
  refine TL_q rfl rfl (QT_lss rfl rfl rfl rfl) ?_
  refine TL_nil ?_
  refine TX_then ?_
  refine TC_cond rfl (fun h => absurd (h.symm.trans ((show (_ : Bool) = false by rfl))) (by decide)) (fun _ => ?_)
  refine TC_exit ?_
  refine TX_then_exit ?_
  refine TX_then_exit ?_
  refine TX_block_here ?_
  exact TX_ret (.inr rfl) (res0 rfl) ⟨_, ⟨rfl, rfl⟩, fun _ h => h⟩
theorem grow_nil_fixes (w0 : Base) (η : Heap) : CallsT Tryz.prog 52 [nilS] (St w0 η) fun v A' => v = .tuple #[] ∧ A' = St w0 η := by
  refine CallsT.body Tryz.func52 rfl rfl ?_
  simp only [Tryz.ntmps52, slotsOf, Nat.reduceAdd]
  refine TC_seq ?_
  refine TC_reg ?_
  refine TL_q rfl rfl (QT_assign rfl rfl rfl) ?_
  refine TL_nil ?_
  refine TX_then ?_
  refine TC_block ?_
  refine TC_loop (γ := Unit) (fun _ => [(0, true, nilS), (2, true, .int .i64 0)]) (fun _ => St w0 η) (fun _ => 0) () ⟨rfl, rfl, trivial⟩ (fun _ h => h) ?_
  rintro ⟨⟩
  dsimp only [nilS]
  refine TC_seq ?_
  refine TC_seq ?_
  refine TC_reg ?_
  refine TL_q rfl rfl (QT_move rfl rfl rfl) ?_
  refine TL_q rfl rfl (QT_move rfl rfl rfl) ?_
  refine TL_q rfl rfl (QT_len rfl rfl Tryz.underlying40 rfl) ?_
  refine TL_q rfl rfl (QT_lss rfl rfl rfl rfl) ?_
  refine TL_nil ?_
  refine TX_then ?_
  refine TC_cond rfl (fun h => absurd (h.symm.trans ((show (_ : Bool) = false by rfl))) (by decide)) (fun _ => ?_)
  refine TC_exit ?_
  refine TX_then_exit ?_
  refine TX_then_exit ?_
  refine TX_block_here ?_
  exact TX_ret (.inr rfl) (res0 rfl) ⟨_, ⟨rfl, rfl⟩, fun _ h => h⟩
theorem marked_nil_fixes (w0 : Base) (η : Heap) : CallsT Tryz.prog 65 [nilS] (St w0 η) fun v A' => v = .bool true ∧ A' = St w0 η := by
  refine CallsT.body Tryz.func65 rfl rfl ?_
  simp only [Tryz.ntmps65, slotsOf, Nat.reduceAdd]
  refine TC_seq ?_
  refine TC_reg ?_
  refine TL_q rfl rfl (QT_assign rfl rfl rfl) ?_
  refine TL_nil ?_
  refine TX_then ?_
  refine TC_seq ?_
  refine TC_seq ?_
  refine TC_reg ?_
  refine TL_q rfl rfl (QT_assign rfl rfl rfl) ?_
  refine TL_nil ?_
  refine TX_then ?_
  refine TC_block ?_
  refine TC_loop (γ := Unit) (fun _ => [(0, true, nilS), (3, true, .int .i64 0)]) (fun _ => St w0 η) (fun _ => 0) () ⟨rfl, rfl, trivial⟩ (fun _ h => h) ?_
  rintro ⟨⟩
  dsimp only [nilS]
  refine TC_seq ?_
  refine TC_seq ?_
  refine TC_reg ?_
  refine TL_q rfl rfl (QT_move rfl rfl rfl) ?_
  refine TL_q rfl rfl (QT_move rfl rfl rfl) ?_
  refine TL_q rfl rfl (QT_len rfl rfl Tryz.underlying40 rfl) ?_
  refine TL_q rfl rfl (QT_lss rfl rfl rfl rfl) ?_
  refine TL_nil ?_
  refine TX_then ?_
  refine TC_cond rfl (fun h => absurd (h.symm.trans ((show (_ : Bool) = false by rfl))) (by decide)) (fun _ => ?_)
  refine TC_exit ?_
  refine TX_then_exit ?_
  refine TX_then_exit ?_
  refine TX_block_here ?_
  refine TX_then ?_
  refine TC_seq ?_
  refine TC_reg ?_
  refine TL_q rfl rfl (QT_assign rfl rfl rfl) ?_
  refine TL_nil ?_
  refine TX_then ?_
  refine TC_ret ?_
  exact TX_ret (.inl rfl) (res1 rfl rfl) ⟨_, ⟨rfl, rfl⟩, fun _ h => h⟩
theorem fill_nil_dots (w0 : Base) (η : Heap) : CallsT Tryz.prog 44 [nilS] (St w0 η) fun v A' => v = .tuple #[] ∧ A' = St w0 η := by
  refine CallsT.body Tryz.func44 rfl rfl ?_
  simp only [Tryz.ntmps44, slotsOf, Nat.reduceAdd]
  refine TC_seq ?_
  refine TC_reg ?_
  refine TL_q rfl rfl (QT_assign rfl rfl rfl) ?_
  refine TL_nil ?_
  refine TX_then ?_
  refine TC_block ?_
  refine TC_loop (γ := Unit) (fun _ => [(0, true, nilS), (2, true, .int .i64 0)]) (fun _ => St w0 η) (fun _ => 0) () ⟨rfl, rfl, trivial⟩ (fun _ h => h) ?_
  rintro ⟨⟩
  dsimp only [nilS]
  refine TC_seq ?_
  refine TC_seq ?_
  refine TC_reg ?_
  refine TL_q rfl rfl (QT_move rfl rfl rfl) ?_
  refine TL_q rfl rfl (QT_move rfl rfl rfl) ?_
  refine TL_q rfl rfl (QT_len rfl rfl Tryz.underlying45 rfl) ?_
  refine TL_q rfl rfl (QT_lss rfl rfl rfl rfl) ?_
  refine TL_nil ?_
  refine TX_then ?_
  refine TC_cond rfl (fun h => absurd (h.symm.trans ((show (_ : Bool) = false by rfl))) (by decide)) (fun _ => ?_)
  refine TC_exit ?_
  refine TX_then_exit ?_
  refine TX_then_exit ?_
  refine TX_block_here ?_
  exact TX_ret (.inr rfl) (res0 rfl) ⟨_, ⟨rfl, rfl⟩, fun _ h => h⟩
theorem grow_nil_dots (w0 : Base) (η : Heap) : CallsT Tryz.prog 57 [nilS] (St w0 η) fun v A' => v = .tuple #[] ∧ A' = St w0 η := by
  refine CallsT.body Tryz.func57 rfl rfl ?_
  simp only [Tryz.ntmps57, slotsOf, Nat.reduceAdd]
  refine TC_seq ?_
  refine TC_reg ?_
  refine TL_q rfl rfl (QT_assign rfl rfl rfl) ?_
  refine TL_nil ?_
  refine TX_then ?_
  refine TC_block ?_
  refine TC_loop (γ := Unit) (fun _ => [(0, true, nilS), (2, true, .int .i64 0)]) (fun _ => St w0 η) (fun _ => 0) () ⟨rfl, rfl, trivial⟩ (fun _ h => h) ?_
  rintro ⟨⟩
  dsimp only [nilS]
  refine TC_seq ?_
  refine TC_seq ?_
  refine TC_reg ?_
  refine TL_q rfl rfl (QT_move rfl rfl rfl) ?_
  refine TL_q rfl rfl (QT_move rfl rfl rfl) ?_
  refine TL_q rfl rfl (QT_len rfl rfl Tryz.underlying45 rfl) ?_
  refine TL_q rfl rfl (QT_lss rfl rfl rfl rfl) ?_
  refine TL_nil ?_
  refine TX_then ?_
  refine TC_cond rfl (fun h => absurd (h.symm.trans ((show (_ : Bool) = false by rfl))) (by decide)) (fun _ => ?_)
  refine TC_exit ?_
  refine TX_then_exit ?_
  refine TX_then_exit ?_
  refine TX_block_here ?_
  exact TX_ret (.inr rfl) (res0 rfl) ⟨_, ⟨rfl, rfl⟩, fun _ h => h⟩
theorem marked_nil_dots (w0 : Base) (η : Heap) : CallsT Tryz.prog 70 [nilS] (St w0 η) fun v A' => v = .bool true ∧ A' = St w0 η := by
  refine CallsT.body Tryz.func70 rfl rfl ?_
  simp only [Tryz.ntmps70, slotsOf, Nat.reduceAdd]
  refine TC_seq ?_
  refine TC_reg ?_
  refine TL_q rfl rfl (QT_assign rfl rfl rfl) ?_
  refine TL_nil ?_
  refine TX_then ?_
  refine TC_seq ?_
  refine TC_seq ?_
  refine TC_reg ?_
  refine TL_q rfl rfl (QT_assign rfl rfl rfl) ?_
  refine TL_nil ?_
  refine TX_then ?_
  refine TC_block ?_
  refine TC_loop (γ := Unit) (fun _ => [(0, true, nilS), (3, true, .int .i64 0)]) (fun _ => St w0 η) (fun _ => 0) () ⟨rfl, rfl, trivial⟩ (fun _ h => h) ?_
  rintro ⟨⟩
  dsimp only [nilS]
  refine TC_seq ?_
  refine TC_seq ?_
  refine TC_reg ?_
  refine TL_q rfl rfl (QT_move rfl rfl rfl) ?_
  refine TL_q rfl rfl (QT_move rfl rfl rfl) ?_
  refine TL_q rfl rfl (QT_len rfl rfl Tryz.underlying45 rfl) ?_
  refine TL_q rfl rfl (QT_lss rfl rfl rfl rfl) ?_
  refine TL_nil ?_
  refine TX_then ?_
  refine TC_cond rfl (fun h => absurd (h.symm.trans ((show (_ : Bool) = false by rfl))) (by decide)) (fun _ => ?_)
  refine TC_exit ?_
  refine TX_then_exit ?_
  refine TX_then_exit ?_
  refine TX_block_here ?_
  refine TX_then ?_
  refine TC_seq ?_
  refine TC_reg ?_
  refine TL_q rfl rfl (QT_assign rfl rfl rfl) ?_
  refine TL_nil ?_
  refine TX_then ?_
  refine TC_ret ?_
  exact TX_ret (.inl rfl) (res1 rfl rfl) ⟨_, ⟨rfl, rfl⟩, fun _ h => h⟩
theorem fill_nil_facets (w0 : Base) (η : Heap) : CallsT Tryz.prog 45 [nilS] (St w0 η) fun v A' => v = .tuple #[] ∧ A' = St w0 η := by
  refine CallsT.body Tryz.func45 rfl rfl ?_
  simp only [Tryz.ntmps45, slotsOf, Nat.reduceAdd]
  refine TC_seq ?_
  refine TC_reg ?_
  refine TL_q rfl rfl (QT_assign rfl rfl rfl) ?_
  refine TL_nil ?_
  refine TX_then ?_
  refine TC_block ?_
  refine TC_loop (γ := Unit) (fun _ => [(0, true, nilS), (2, true, .int .i64 0)]) (fun _ => St w0 η) (fun _ => 0) () ⟨rfl, rfl, trivial⟩ (fun _ h => h) ?_
  rintro ⟨⟩
  dsimp only [nilS]
  refine TC_seq ?_
  refine TC_seq ?_
  refine TC_reg ?_
  refine TL_q rfl rfl (QT_move rfl rfl rfl) ?_
  refine TL_q rfl rfl (QT_move rfl rfl rfl) ?_
  refine TL_q rfl rfl (QT_len rfl rfl Tryz.underlying46 rfl) ?_
  refine TL_q rfl rfl (QT_lss rfl rfl rfl rfl) ?_
  refine TL_nil ?_
  refine TX_then ?_
  refine TC_cond rfl (fun h => absurd (h.symm.trans ((show (_ : Bool) = false by rfl))) (by decide)) (fun _ => ?_)
  refine TC_exit ?_
  refine TX_then_exit ?_
  refine TX_then_exit ?_
  refine TX_block_here ?_
  exact TX_ret (.inr rfl) (res0 rfl) ⟨_, ⟨rfl, rfl⟩, fun _ h => h⟩
theorem grow_nil_facets (w0 : Base) (η : Heap) : CallsT Tryz.prog 58 [nilS] (St w0 η) fun v A' => v = .tuple #[] ∧ A' = St w0 η := by
  refine CallsT.body Tryz.func58 rfl rfl ?_
  simp only [Tryz.ntmps58, slotsOf, Nat.reduceAdd]
  refine TC_seq ?_
  refine TC_reg ?_
  refine TL_q rfl rfl (QT_assign rfl rfl rfl) ?_
  refine TL_nil ?_
  refine TX_then ?_
  refine TC_block ?_
  refine TC_loop (γ := Unit) (fun _ => [(0, true, nilS), (2, true, .int .i64 0)]) (fun _ => St w0 η) (fun _ => 0) () ⟨rfl, rfl, trivial⟩ (fun _ h => h) ?_
  rintro ⟨⟩
  dsimp only [nilS]
  refine TC_seq ?_
  refine TC_seq ?_
  refine TC_reg ?_
  refine TL_q rfl rfl (QT_move rfl rfl rfl) ?_
  refine TL_q rfl rfl (QT_move rfl rfl rfl) ?_
  refine TL_q rfl rfl (QT_len rfl rfl Tryz.underlying46 rfl) ?_
  refine TL_q rfl rfl (QT_lss rfl rfl rfl rfl) ?_
  refine TL_nil ?_
  refine TX_then ?_
  refine TC_cond rfl (fun h => absurd (h.symm.trans ((show (_ : Bool) = false by rfl))) (by decide)) (fun _ => ?_)
  refine TC_exit ?_
  refine TX_then_exit ?_
  refine TX_then_exit ?_
  refine TX_block_here ?_
  exact TX_ret (.inr rfl) (res0 rfl) ⟨_, ⟨rfl, rfl⟩, fun _ h => h⟩
theorem marked_nil_facets (w0 : Base) (η : Heap) : CallsT Tryz.prog 71 [nilS] (St w0 η) fun v A' => v = .bool true ∧ A' = St w0 η := by
  refine CallsT.body Tryz.func71 rfl rfl ?_
  simp only [Tryz.ntmps71, slotsOf, Nat.reduceAdd]
  refine TC_seq ?_
  refine TC_reg ?_
  refine TL_q rfl rfl (QT_assign rfl rfl rfl) ?_
  refine TL_nil ?_
  refine TX_then ?_
  refine TC_seq ?_
  refine TC_seq ?_
  refine TC_reg ?_
  refine TL_q rfl rfl (QT_assign rfl rfl rfl) ?_
  refine TL_nil ?_
  refine TX_then ?_
  refine TC_block ?_
  refine TC_loop (γ := Unit) (fun _ => [(0, true, nilS), (3, true, .int .i64 0)]) (fun _ => St w0 η) (fun _ => 0) () ⟨rfl, rfl, trivial⟩ (fun _ h => h) ?_
  rintro ⟨⟩
  dsimp only [nilS]
  refine TC_seq ?_
  refine TC_seq ?_
  refine TC_reg ?_
  refine TL_q rfl rfl (QT_move rfl rfl rfl) ?_
  refine TL_q rfl rfl (QT_move rfl rfl rfl) ?_
  refine TL_q rfl rfl (QT_len rfl rfl Tryz.underlying46 rfl) ?_
  refine TL_q rfl rfl (QT_lss rfl rfl rfl rfl) ?_
  refine TL_nil ?_
  refine TX_then ?_
  refine TC_cond rfl (fun h => absurd (h.symm.trans ((show (_ : Bool) = false by rfl))) (by decide)) (fun _ => ?_)
  refine TC_exit ?_
  refine TX_then_exit ?_
  refine TX_then_exit ?_
  refine TX_block_here ?_
  refine TX_then ?_
  refine TC_seq ?_
  refine TC_reg ?_
  refine TL_q rfl rfl (QT_assign rfl rfl rfl) ?_
  refine TL_nil ?_
  refine TX_then ?_
  refine TC_ret ?_
  exact TX_ret (.inl rfl) (res1 rfl rfl) ⟨_, ⟨rfl, rfl⟩, fun _ h => h⟩
theorem fill_nil_tokens (w0 : Base) (η : Heap) : CallsT Tryz.prog 46 [nilS] (St w0 η) fun v A' => v = .tuple #[] ∧ A' = St w0 η := by
  refine CallsT.body Tryz.func46 rfl rfl ?_
  simp only [Tryz.ntmps46, slotsOf, Nat.reduceAdd]
  refine TC_seq ?_
  refine TC_reg ?_
  refine TL_q rfl rfl (QT_assign rfl rfl rfl) ?_
  refine TL_nil ?_
  refine TX_then ?_
  refine TC_block ?_
  refine TC_loop (γ := Unit) (fun _ => [(0, true, nilS), (2, true, .int .i64 0)]) (fun _ => St w0 η) (fun _ => 0) () ⟨rfl, rfl, trivial⟩ (fun _ h => h) ?_
  rintro ⟨⟩
  dsimp only [nilS]
  refine TC_seq ?_
  refine TC_seq ?_
  refine TC_reg ?_
  refine TL_q rfl rfl (QT_move rfl rfl rfl) ?_
  refine TL_q rfl rfl (QT_move rfl rfl rfl) ?_
  refine TL_q rfl rfl (QT_len rfl rfl Tryz.underlying47 rfl) ?_
  refine TL_q rfl rfl (QT_lss rfl rfl rfl rfl) ?_
  refine TL_nil ?_
  refine TX_then ?_
  refine TC_cond rfl (fun h => absurd (h.symm.trans ((show (_ : Bool) = false by rfl))) (by decide)) (fun _ => ?_)
  refine TC_exit ?_
  refine TX_then_exit ?_
  refine TX_then_exit ?_
  refine TX_block_here ?_
  exact TX_ret (.inr rfl) (res0 rfl) ⟨_, ⟨rfl, rfl⟩, fun _ h => h⟩
theorem grow_nil_tokens (w0 : Base) (η : Heap) : CallsT Tryz.prog 59 [nilS] (St w0 η) fun v A' => v = .tuple #[] ∧ A' = St w0 η := by
  refine CallsT.body Tryz.func59 rfl rfl ?_
  simp only [Tryz.ntmps59, slotsOf, Nat.reduceAdd]
  refine TC_seq ?_
  refine TC_reg ?_
  refine TL_q rfl rfl (QT_assign rfl rfl rfl) ?_
  refine TL_nil ?_
  refine TX_then ?_
  refine TC_block ?_
  refine TC_loop (γ := Unit) (fun _ => [(0, true, nilS), (2, true, .int .i64 0)]) (fun _ => St w0 η) (fun _ => 0) () ⟨rfl, rfl, trivial⟩ (fun _ h => h) ?_
  rintro ⟨⟩
  dsimp only [nilS]
  refine TC_seq ?_
  refine TC_seq ?_
  refine TC_reg ?_
  refine TL_q rfl rfl (QT_move rfl rfl rfl) ?_
  refine TL_q rfl rfl (QT_move rfl rfl rfl) ?_
  refine TL_q rfl rfl (QT_len rfl rfl Tryz.underlying47 rfl) ?_
  refine TL_q rfl rfl (QT_lss rfl rfl rfl rfl) ?_
  refine TL_nil ?_
  refine TX_then ?_
  refine TC_cond rfl (fun h => absurd (h.symm.trans ((show (_ : Bool) = false by rfl))) (by decide)) (fun _ => ?_)
  refine TC_exit ?_
  refine TX_then_exit ?_
  refine TX_then_exit ?_
  refine TX_block_here ?_
  exact TX_ret (.inr rfl) (res0 rfl) ⟨_, ⟨rfl, rfl⟩, fun _ h => h⟩
theorem marked_nil_tokens (w0 : Base) (η : Heap) : CallsT Tryz.prog 72 [nilS] (St w0 η) fun v A' => v = .bool true ∧ A' = St w0 η := by
  refine CallsT.body Tryz.func72 rfl rfl ?_
  simp only [Tryz.ntmps72, slotsOf, Nat.reduceAdd]
  refine TC_seq ?_
  refine TC_reg ?_
  refine TL_q rfl rfl (QT_assign rfl rfl rfl) ?_
  refine TL_nil ?_
  refine TX_then ?_
  refine TC_seq ?_
  refine TC_seq ?_
  refine TC_reg ?_
  refine TL_q rfl rfl (QT_assign rfl rfl rfl) ?_
  refine TL_nil ?_
  refine TX_then ?_
  refine TC_block ?_
  refine TC_loop (γ := Unit) (fun _ => [(0, true, nilS), (3, true, .int .i64 0)]) (fun _ => St w0 η) (fun _ => 0) () ⟨rfl, rfl, trivial⟩ (fun _ h => h) ?_
  rintro ⟨⟩
  dsimp only [nilS]
  refine TC_seq ?_
  refine TC_seq ?_
  refine TC_reg ?_
  refine TL_q rfl rfl (QT_move rfl rfl rfl) ?_
  refine TL_q rfl rfl (QT_move rfl rfl rfl) ?_
  refine TL_q rfl rfl (QT_len rfl rfl Tryz.underlying47 rfl) ?_
  refine TL_q rfl rfl (QT_lss rfl rfl rfl rfl) ?_
  refine TL_nil ?_
  refine TX_then ?_
  refine TC_cond rfl (fun h => absurd (h.symm.trans ((show (_ : Bool) = false by rfl))) (by decide)) (fun _ => ?_)
  refine TC_exit ?_
  refine TX_then_exit ?_
  refine TX_then_exit ?_
  refine TX_block_here ?_
  refine TX_then ?_
  refine TC_seq ?_
  refine TC_reg ?_
  refine TL_q rfl rfl (QT_assign rfl rfl rfl) ?_
  refine TL_nil ?_
  refine TX_then ?_
  refine TC_ret ?_
  exact TX_ret (.inl rfl) (res1 rfl rfl) ⟨_, ⟨rfl, rfl⟩, fun _ h => h⟩
theorem fill_nil_codes (w0 : Base) (η : Heap) : CallsT Tryz.prog 47 [nilS] (St w0 η) fun v A' => v = .tuple #[] ∧ A' = St w0 η := by
  refine CallsT.body Tryz.func47 rfl rfl ?_
  simp only [Tryz.ntmps47, slotsOf, Nat.reduceAdd]
  refine TC_seq ?_
  refine TC_reg ?_
  refine TL_q rfl rfl (QT_assign rfl rfl rfl) ?_
  refine TL_nil ?_
  refine TX_then ?_
  refine TC_block ?_
  refine TC_loop (γ := Unit) (fun _ => [(0, true, nilS), (2, true, .int .i64 0)]) (fun _ => St w0 η) (fun _ => 0) () ⟨rfl, rfl, trivial⟩ (fun _ h => h) ?_
  rintro ⟨⟩
  dsimp only [nilS]
  refine TC_seq ?_
  refine TC_seq ?_
  refine TC_reg ?_
  refine TL_q rfl rfl (QT_move rfl rfl rfl) ?_
  refine TL_q rfl rfl (QT_move rfl rfl rfl) ?_
  refine TL_q rfl rfl (QT_len rfl rfl Tryz.underlying48 rfl) ?_
  refine TL_q rfl rfl (QT_lss rfl rfl rfl rfl) ?_
  refine TL_nil ?_
  refine TX_then ?_
  refine TC_cond rfl (fun h => absurd (h.symm.trans ((show (_ : Bool) = false by rfl))) (by decide)) (fun _ => ?_)
  refine TC_exit ?_
  refine TX_then_exit ?_
  refine TX_then_exit ?_
  refine TX_block_here ?_
  exact TX_ret (.inr rfl) (res0 rfl) ⟨_, ⟨rfl, rfl⟩, fun _ h => h⟩
theorem grow_nil_codes (w0 : Base) (η : Heap) : CallsT Tryz.prog 60 [nilS] (St w0 η) fun v A' => v = .tuple #[] ∧ A' = St w0 η := by
  refine CallsT.body Tryz.func60 rfl rfl ?_
  simp only [Tryz.ntmps60, slotsOf, Nat.reduceAdd]
  refine TC_seq ?_
  refine TC_reg ?_
  refine TL_q rfl rfl (QT_assign rfl rfl rfl) ?_
  refine TL_nil ?_
  refine TX_then ?_
  refine TC_block ?_
  refine TC_loop (γ := Unit) (fun _ => [(0, true, nilS), (2, true, .int .i64 0)]) (fun _ => St w0 η) (fun _ => 0) () ⟨rfl, rfl, trivial⟩ (fun _ h => h) ?_
  rintro ⟨⟩
  dsimp only [nilS]
  refine TC_seq ?_
  refine TC_seq ?_
  refine TC_reg ?_
  refine TL_q rfl rfl (QT_move rfl rfl rfl) ?_
  refine TL_q rfl rfl (QT_move rfl rfl rfl) ?_
  refine TL_q rfl rfl (QT_len rfl rfl Tryz.underlying48 rfl) ?_
  refine TL_q rfl rfl (QT_lss rfl rfl rfl rfl) ?_
  refine TL_nil ?_
  refine TX_then ?_
  refine TC_cond rfl (fun h => absurd (h.symm.trans ((show (_ : Bool) = false by rfl))) (by decide)) (fun _ => ?_)
  refine TC_exit ?_
  refine TX_then_exit ?_
  refine TX_then_exit ?_
  refine TX_block_here ?_
  exact TX_ret (.inr rfl) (res0 rfl) ⟨_, ⟨rfl, rfl⟩, fun _ h => h⟩
theorem marked_nil_codes (w0 : Base) (η : Heap) : CallsT Tryz.prog 73 [nilS] (St w0 η) fun v A' => v = .bool true ∧ A' = St w0 η := by
  refine CallsT.body Tryz.func73 rfl rfl ?_
  simp only [Tryz.ntmps73, slotsOf, Nat.reduceAdd]
  refine TC_seq ?_
  refine TC_reg ?_
  refine TL_q rfl rfl (QT_assign rfl rfl rfl) ?_
  refine TL_nil ?_
  refine TX_then ?_
  refine TC_seq ?_
  refine TC_seq ?_
  refine TC_reg ?_
  refine TL_q rfl rfl (QT_assign rfl rfl rfl) ?_
  refine TL_nil ?_
  refine TX_then ?_
  refine TC_block ?_
  refine TC_loop (γ := Unit) (fun _ => [(0, true, nilS), (3, true, .int .i64 0)]) (fun _ => St w0 η) (fun _ => 0) () ⟨rfl, rfl, trivial⟩ (fun _ h => h) ?_
  rintro ⟨⟩
  dsimp only [nilS]
  refine TC_seq ?_
  refine TC_seq ?_
  refine TC_reg ?_
  refine TL_q rfl rfl (QT_move rfl rfl rfl) ?_
  refine TL_q rfl rfl (QT_move rfl rfl rfl) ?_
  refine TL_q rfl rfl (QT_len rfl rfl Tryz.underlying48 rfl) ?_
  refine TL_q rfl rfl (QT_lss rfl rfl rfl rfl) ?_
  refine TL_nil ?_
  refine TX_then ?_
  refine TC_cond rfl (fun h => absurd (h.symm.trans ((show (_ : Bool) = false by rfl))) (by decide)) (fun _ => ?_)
  refine TC_exit ?_
  refine TX_then_exit ?_
  refine TX_then_exit ?_
  refine TX_block_here ?_
  refine TX_then ?_
  refine TC_seq ?_
  refine TC_reg ?_
  refine TL_q rfl rfl (QT_assign rfl rfl rfl) ?_
  refine TL_nil ?_
  refine TX_then ?_
  refine TC_ret ?_
  exact TX_ret (.inl rfl) (res1 rfl rfl) ⟨_, ⟨rfl, rfl⟩, fun _ h => h⟩
theorem fill_nil_vals (w0 : Base) (η : Heap) : CallsT Tryz.prog 48 [nilS] (St w0 η) fun v A' => v = .tuple #[] ∧ A' = St w0 η := by
  refine CallsT.body Tryz.func48 rfl rfl ?_
  simp only [Tryz.ntmps48, slotsOf, Nat.reduceAdd]
  refine TC_seq ?_
  refine TC_reg ?_
  refine TL_q rfl rfl (QT_assign rfl rfl rfl) ?_
  refine TL_nil ?_
  refine TX_then ?_
  refine TC_block ?_
  refine TC_loop (γ := Unit) (fun _ => [(0, true, nilS), (2, true, .int .i64 0)]) (fun _ => St w0 η) (fun _ => 0) () ⟨rfl, rfl, trivial⟩ (fun _ h => h) ?_
  rintro ⟨⟩
  dsimp only [nilS]
  refine TC_seq ?_
  refine TC_seq ?_
  refine TC_reg ?_
  refine TL_q rfl rfl (QT_move rfl rfl rfl) ?_
  refine TL_q rfl rfl (QT_move rfl rfl rfl) ?_
  refine TL_q rfl rfl (QT_len rfl rfl Tryz.underlying49 rfl) ?_
  refine TL_q rfl rfl (QT_lss rfl rfl rfl rfl) ?_
  refine TL_nil ?_
  refine TX_then ?_
  refine TC_cond rfl (fun h => absurd (h.symm.trans ((show (_ : Bool) = false by rfl))) (by decide)) (fun _ => ?_)
  refine TC_exit ?_
  refine TX_then_exit ?_
  refine TX_then_exit ?_
  refine TX_block_here ?_
  exact TX_ret (.inr rfl) (res0 rfl) ⟨_, ⟨rfl, rfl⟩, fun _ h => h⟩
theorem grow_nil_vals (w0 : Base) (η : Heap) : CallsT Tryz.prog 61 [nilS] (St w0 η) fun v A' => v = .tuple #[] ∧ A' = St w0 η := by
  refine CallsT.body Tryz.func61 rfl rfl ?_
  simp only [Tryz.ntmps61, slotsOf, Nat.reduceAdd]
  refine TC_seq ?_
  refine TC_reg ?_
  refine TL_q rfl rfl (QT_assign rfl rfl rfl) ?_
  refine TL_nil ?_
  refine TX_then ?_
  refine TC_block ?_
  refine TC_loop (γ := Unit) (fun _ => [(0, true, nilS), (2, true, .int .i64 0)]) (fun _ => St w0 η) (fun _ => 0) () ⟨rfl, rfl, trivial⟩ (fun _ h => h) ?_
  rintro ⟨⟩
  dsimp only [nilS]
  refine TC_seq ?_
  refine TC_seq ?_
  refine TC_reg ?_
  refine TL_q rfl rfl (QT_move rfl rfl rfl) ?_
  refine TL_q rfl rfl (QT_move rfl rfl rfl) ?_
  refine TL_q rfl rfl (QT_len rfl rfl Tryz.underlying49 rfl) ?_
  refine TL_q rfl rfl (QT_lss rfl rfl rfl rfl) ?_
  refine TL_nil ?_
  refine TX_then ?_
  refine TC_cond rfl (fun h => absurd (h.symm.trans ((show (_ : Bool) = false by rfl))) (by decide)) (fun _ => ?_)
  refine TC_exit ?_
  refine TX_then_exit ?_
  refine TX_then_exit ?_
  refine TX_block_here ?_
  exact TX_ret (.inr rfl) (res0 rfl) ⟨_, ⟨rfl, rfl⟩, fun _ h => h⟩
theorem marked_nil_vals (w0 : Base) (η : Heap) : CallsT Tryz.prog 74 [nilS] (St w0 η) fun v A' => v = .bool true ∧ A' = St w0 η := by
  refine CallsT.body Tryz.func74 rfl rfl ?_
  simp only [Tryz.ntmps74, slotsOf, Nat.reduceAdd]
  refine TC_seq ?_
  refine TC_reg ?_
  refine TL_q rfl rfl (QT_assign rfl rfl rfl) ?_
  refine TL_nil ?_
  refine TX_then ?_
  refine TC_seq ?_
  refine TC_seq ?_
  refine TC_reg ?_
  refine TL_q rfl rfl (QT_assign rfl rfl rfl) ?_
  refine TL_nil ?_
  refine TX_then ?_
  refine TC_block ?_
  refine TC_loop (γ := Unit) (fun _ => [(0, true, nilS), (3, true, .int .i64 0)]) (fun _ => St w0 η) (fun _ => 0) () ⟨rfl, rfl, trivial⟩ (fun _ h => h) ?_
  rintro ⟨⟩
  dsimp only [nilS]
  refine TC_seq ?_
  refine TC_seq ?_
  refine TC_reg ?_
  refine TL_q rfl rfl (QT_move rfl rfl rfl) ?_
  refine TL_q rfl rfl (QT_move rfl rfl rfl) ?_
  refine TL_q rfl rfl (QT_len rfl rfl Tryz.underlying49 rfl) ?_
  refine TL_q rfl rfl (QT_lss rfl rfl rfl rfl) ?_
  refine TL_nil ?_
  refine TX_then ?_
  refine TC_cond rfl (fun h => absurd (h.symm.trans ((show (_ : Bool) = false by rfl))) (by decide)) (fun _ => ?_)
  refine TC_exit ?_
  refine TX_then_exit ?_
  refine TX_then_exit ?_
  refine TX_block_here ?_
  refine TX_then ?_
  refine TC_seq ?_
  refine TC_reg ?_
  refine TL_q rfl rfl (QT_assign rfl rfl rfl) ?_
  refine TL_nil ?_
  refine TX_then ?_
  refine TC_ret ?_
  exact TX_ret (.inl rfl) (res1 rfl rfl) ⟨_, ⟨rfl, rfl⟩, fun _ h => h⟩
theorem fill_nil_spots (w0 : Base) (η : Heap) : CallsT Tryz.prog 49 [nilS] (St w0 η) fun v A' => v = .tuple #[] ∧ A' = St w0 η := by
  refine CallsT.body Tryz.func49 rfl rfl ?_
  simp only [Tryz.ntmps49, slotsOf, Nat.reduceAdd]
  refine TC_seq ?_
  refine TC_reg ?_
  refine TL_q rfl rfl (QT_assign rfl rfl rfl) ?_
  refine TL_nil ?_
  refine TX_then ?_
  refine TC_block ?_
  refine TC_loop (γ := Unit) (fun _ => [(0, true, nilS), (2, true, .int .i64 0)]) (fun _ => St w0 η) (fun _ => 0) () ⟨rfl, rfl, trivial⟩ (fun _ h => h) ?_
  rintro ⟨⟩
  dsimp only [nilS]
  refine TC_seq ?_
  refine TC_seq ?_
  refine TC_reg ?_
  refine TL_q rfl rfl (QT_move rfl rfl rfl) ?_
  refine TL_q rfl rfl (QT_move rfl rfl rfl) ?_
  refine TL_q rfl rfl (QT_len rfl rfl Tryz.underlying50 rfl) ?_
  refine TL_q rfl rfl (QT_lss rfl rfl rfl rfl) ?_
  refine TL_nil ?_
  refine TX_then ?_
  refine TC_cond rfl (fun h => absurd (h.symm.trans ((show (_ : Bool) = false by rfl))) (by decide)) (fun _ => ?_)
  refine TC_exit ?_
  refine TX_then_exit ?_
  refine TX_then_exit ?_
  refine TX_block_here ?_
  exact TX_ret (.inr rfl) (res0 rfl) ⟨_, ⟨rfl, rfl⟩, fun _ h => h⟩
theorem grow_nil_spots (w0 : Base) (η : Heap) : CallsT Tryz.prog 62 [nilS] (St w0 η) fun v A' => v = .tuple #[] ∧ A' = St w0 η := by
  refine CallsT.body Tryz.func62 rfl rfl ?_
  simp only [Tryz.ntmps62, slotsOf, Nat.reduceAdd]
  refine TC_seq ?_
  refine TC_reg ?_
  refine TL_q rfl rfl (QT_assign rfl rfl rfl) ?_
  refine TL_nil ?_
  refine TX_then ?_
  refine TC_block ?_
  refine TC_loop (γ := Unit) (fun _ => [(0, true, nilS), (2, true, .int .i64 0)]) (fun _ => St w0 η) (fun _ => 0) () ⟨rfl, rfl, trivial⟩ (fun _ h => h) ?_
  rintro ⟨⟩
  dsimp only [nilS]
  refine TC_seq ?_
  refine TC_seq ?_
  refine TC_reg ?_
  refine TL_q rfl rfl (QT_move rfl rfl rfl) ?_
  refine TL_q rfl rfl (QT_move rfl rfl rfl) ?_
  refine TL_q rfl rfl (QT_len rfl rfl Tryz.underlying50 rfl) ?_
  refine TL_q rfl rfl (QT_lss rfl rfl rfl rfl) ?_
  refine TL_nil ?_
  refine TX_then ?_
  refine TC_cond rfl (fun h => absurd (h.symm.trans ((show (_ : Bool) = false by rfl))) (by decide)) (fun _ => ?_)
  refine TC_exit ?_
  refine TX_then_exit ?_
  refine TX_then_exit ?_
  refine TX_block_here ?_
  exact TX_ret (.inr rfl) (res0 rfl) ⟨_, ⟨rfl, rfl⟩, fun _ h => h⟩
theorem marked_nil_spots (w0 : Base) (η : Heap) : CallsT Tryz.prog 75 [nilS] (St w0 η) fun v A' => v = .bool true ∧ A' = St w0 η := by
  refine CallsT.body Tryz.func75 rfl rfl ?_
  simp only [Tryz.ntmps75, slotsOf, Nat.reduceAdd]
  refine TC_seq ?_
  refine TC_reg ?_
  refine TL_q rfl rfl (QT_assign rfl rfl rfl) ?_
  refine TL_nil ?_
  refine TX_then ?_
  refine TC_seq ?_
  refine TC_seq ?_
  refine TC_reg ?_
  refine TL_q rfl rfl (QT_assign rfl rfl rfl) ?_
  refine TL_nil ?_
  refine TX_then ?_
  refine TC_block ?_
  refine TC_loop (γ := Unit) (fun _ => [(0, true, nilS), (3, true, .int .i64 0)]) (fun _ => St w0 η) (fun _ => 0) () ⟨rfl, rfl, trivial⟩ (fun _ h => h) ?_
  rintro ⟨⟩
  dsimp only [nilS]
  refine TC_seq ?_
  refine TC_seq ?_
  refine TC_reg ?_
  refine TL_q rfl rfl (QT_move rfl rfl rfl) ?_
  refine TL_q rfl rfl (QT_move rfl rfl rfl) ?_
  refine TL_q rfl rfl (QT_len rfl rfl Tryz.underlying50 rfl) ?_
  refine TL_q rfl rfl (QT_lss rfl rfl rfl rfl) ?_
  refine TL_nil ?_
  refine TX_then ?_
  refine TC_cond rfl (fun h => absurd (h.symm.trans ((show (_ : Bool) = false by rfl))) (by decide)) (fun _ => ?_)
  refine TC_exit ?_
  refine TX_then_exit ?_
  refine TX_then_exit ?_
  refine TX_block_here ?_
  refine TX_then ?_
  refine TC_seq ?_
  refine TC_reg ?_
  refine TL_q rfl rfl (QT_assign rfl rfl rfl) ?_
  refine TL_nil ?_
  refine TX_then ?_
  refine TC_ret ?_
  exact TX_ret (.inl rfl) (res1 rfl rfl) ⟨_, ⟨rfl, rfl⟩, fun _ h => h⟩
theorem apart_spec (w0 : Base) (η : Heap) (kb : Nat) (k : Bk) (h0 : 0 ≤ k.many ∧ k.many ≤ 250) (ss_bytes : List Strip) (H_bytes : Heap) (hF_bytes : Frag 94 3 k.bytes ss_bytes.length (arrOf ss_bytes) H_bytes) (hs_bytes : ∀ s ∈ ss_bytes, s.ok 5 1 byteK) (ss_recs : List Strip) (H_recs : Heap) (hF_recs : Frag 186 9 k.recs ss_recs.length (arrOf ss_recs) H_recs) (hs_recs : ∀ s ∈ ss_recs, s.ok 77 7 recK) (ss_tris : List Strip) (H_tris : Heap) (hF_tris : Frag 160 23 k.tris ss_tris.length (arrOf ss_tris) H_tris) (hs_tris : ∀ s ∈ ss_tris, s.ok 79 21 triK) (ss_sheets : List Strip) (H_sheets : Heap) (hF_sheets : Frag 188 51 k.sheets ss_sheets.length (arrOf ss_sheets) H_sheets) (hs_sheets : ∀ s ∈ ss_sheets, s.ok 102 49 sheetK) (ss_tiles : List Strip) (H_tiles : Heap) (hF_tiles : Frag 162 50 k.tiles ss_tiles.length (arrOf ss_tiles) H_tiles) (hs_tiles : ∀ s ∈ ss_tiles, s.ok 112 48 patchK) (hn_bits : k.bits = nilS) (hn_fixes : k.fixes = nilS) (hn_dots : k.dots = nilS) (hn_facets : k.facets = nilS) (hn_tokens : k.tokens = nilS) (hn_codes : k.codes = nilS) (hn_vals : k.vals = nilS) (hn_spots : k.spots = nilS) :
    CallsT Tryz.prog 13 [.pointer (some ⟨kb, 0, none⟩)] (St w0 ((kb, 52, k.cells) :: (H_bytes ++ (H_recs ++ (H_tris ++ (H_sheets ++ (H_tiles ++ (heapOf ss_bytes ++ (heapOf ss_recs ++ (heapOf ss_tris ++ (heapOf ss_sheets ++ (heapOf ss_tiles ++ (η))))))))))))) fun v A' => v = .bool true ∧ A' = St w0 η := by
  obtain ⟨many, kbytes, kbits, kfixes, krecs, ktris, ksheets, ktiles, kdots, kfacets, ktokens, kcodes, kvals, kspots⟩ := k
  dsimp only at h0 hF_bytes hF_recs hF_tris hF_sheets hF_tiles hn_bits hn_fixes hn_dots hn_facets hn_tokens hn_codes hn_vals hn_spots
  subst hn_bits hn_fixes hn_dots hn_facets hn_tokens hn_codes hn_vals hn_spots
  have hFf_bytes : Frag 94 3 kbytes (ss_bytes.map (fillS 1)).length (arrOf (ss_bytes.map (fillS 1))) H_bytes := by rw [List.length_map, arrOf_fill]; exact hF_bytes
  have hsf_bytes : ∀ s ∈ ss_bytes.map (fillS 1), s.ok 5 1 byteK ∧ s.xs = marks s.n s.mark := fun s h => by
    obtain ⟨s', h1, rfl⟩ := List.mem_map.1 h
    exact ⟨fillS_ok (hs_bytes s' h1) rfl, rfl⟩
  have hFf_recs : Frag 186 9 krecs (ss_recs.map (fillS 7)).length (arrOf (ss_recs.map (fillS 7))) H_recs := by rw [List.length_map, arrOf_fill]; exact hF_recs
  have hsf_recs : ∀ s ∈ ss_recs.map (fillS 7), s.ok 77 7 recK ∧ s.xs = marks s.n s.mark := fun s h => by
    obtain ⟨s', h1, rfl⟩ := List.mem_map.1 h
    exact ⟨fillS_ok (hs_recs s' h1) rfl, rfl⟩
  have hFf_tris : Frag 160 23 ktris (ss_tris.map (fillS 21)).length (arrOf (ss_tris.map (fillS 21))) H_tris := by rw [List.length_map, arrOf_fill]; exact hF_tris
  have hsf_tris : ∀ s ∈ ss_tris.map (fillS 21), s.ok 79 21 triK ∧ s.xs = marks s.n s.mark := fun s h => by
    obtain ⟨s', h1, rfl⟩ := List.mem_map.1 h
    exact ⟨fillS_ok (hs_tris s' h1) rfl, rfl⟩
  have hFf_sheets : Frag 188 51 ksheets (ss_sheets.map (fillS 49)).length (arrOf (ss_sheets.map (fillS 49))) H_sheets := by rw [List.length_map, arrOf_fill]; exact hF_sheets
  have hsf_sheets : ∀ s ∈ ss_sheets.map (fillS 49), s.ok 102 49 sheetK ∧ s.xs = marks s.n s.mark := fun s h => by
    obtain ⟨s', h1, rfl⟩ := List.mem_map.1 h
    exact ⟨fillS_ok (hs_sheets s' h1) rfl, rfl⟩
  have hFf_tiles : Frag 162 50 ktiles (ss_tiles.map (fillS 48)).length (arrOf (ss_tiles.map (fillS 48))) H_tiles := by rw [List.length_map, arrOf_fill]; exact hF_tiles
  have hsf_tiles : ∀ s ∈ ss_tiles.map (fillS 48), s.ok 112 48 patchK ∧ s.xs = marks s.n s.mark := fun s h => by
    obtain ⟨s', h1, rfl⟩ := List.mem_map.1 h
    exact ⟨fillS_ok (hs_tiles s' h1) rfl, rfl⟩
  refine CallsT.body Tryz.func13 rfl rfl ?_
  simp only [Tryz.ntmps13, slotsOf, Nat.reduceAdd]
  refine TC_seq ?_
  refine TC_reg ?_
  refine TL_q rfl rfl (QT_assign rfl rfl rfl) ?_
  refine TL_nil ?_
  refine TX_then ?_
  refine TC_seq ?_
  refine TC_seq ?_
  refine TC_reg ?_
  refine TL_q rfl rfl (QT_move rfl rfl rfl) ?_
  refine TL_q rfl rfl (QT_nilCheck rfl rfl rfl) ?_
  refine TL_q rfl rfl (QT_field rfl rfl YtjdaglmkljbfkaaGreatDoorF.fld_52_0 rfl) ?_
  refine TL_q rfl rfl (QT_load 0 rfl rfl Tryz.underlying3 rfl rfl rfl (fun _ => rfl)) ?_
  refine TL_q rfl rfl (QT_gtr rfl rfl rfl rfl) ?_
  refine TL_nil ?_
  refine TX_then ?_
  refine TC_cond rfl (fun h => absurd (h.symm.trans ((show decide _ = false by simp; omega))) (by decide)) (fun _ => ?_)
  refine TC_skip ?_
  refine TX_then ?_
  refine TC_seq ?_
  refine TC_reg ?_
  refine TL_q rfl rfl (QT_move rfl rfl rfl) ?_
  refine TL_q rfl rfl (QT_nilCheck rfl rfl rfl) ?_
  refine TL_q rfl rfl (QT_field rfl rfl YtjdaglmkljbfkaaGreatDoorF.fld_52_1 rfl) ?_
  refine TL_q rfl rfl (QT_load 0 rfl rfl Tryz.underlying38 rfl rfl rfl (fun _ => rfl)) ?_
  refine TL_A (St w0 (heapOf (ss_bytes) ++ ((kb, 52, Bk.cells ⟨many, kbytes, nilS, nilS, krecs, ktris, ksheets, ktiles, nilS, nilS, nilS, nilS, nilS, nilS⟩) :: (H_bytes ++ (H_recs ++ (H_tris ++ (H_sheets ++ (H_tiles ++ (heapOf (ss_recs) ++ (heapOf (ss_tris) ++ (heapOf (ss_sheets) ++ (heapOf (ss_tiles) ++ (η))))))))))))) (fun _ h => h.cnt fun p => by simp only [List.countP_append, List.countP_cons, List.countP_nil]; omega) ?_
  refine TL_e rfl rfl rfl (rfl) (ET_call rfl YtjdaglmkljbfkaaGreatDoorF.cal_37 rfl (fill_Byte w0 _ _ ss_bytes hs_bytes ((hF_bytes.sla (η := [])).mono (fun _ h => h.cnt fun p => by simp only [List.countP_append, List.countP_cons, List.countP_nil]; omega)))) ?_
  rintro _ _ rfl
  refine TL_nil ?_
  refine TX_then ?_
  refine TC_seq ?_
  refine TC_A (St w0 ((kb, 52, Bk.cells ⟨many, kbytes, nilS, nilS, krecs, ktris, ksheets, ktiles, nilS, nilS, nilS, nilS, nilS, nilS⟩) :: (H_bytes ++ (H_recs ++ (H_tris ++ (H_sheets ++ (H_tiles ++ (heapOf (ss_bytes.map (fillS 1)) ++ (heapOf (ss_recs) ++ (heapOf (ss_tris) ++ (heapOf (ss_sheets) ++ (heapOf (ss_tiles) ++ (η))))))))))))) (fun _ h => h.cnt fun p => by simp only [List.countP_append, List.countP_cons, List.countP_nil]; omega) ?_
  refine TC_reg ?_
  refine TL_q rfl rfl (QT_move rfl rfl rfl) ?_
  refine TL_q rfl rfl (QT_nilCheck rfl rfl rfl) ?_
  refine TL_q rfl rfl (QT_field rfl rfl YtjdaglmkljbfkaaGreatDoorF.fld_52_2 rfl) ?_
  refine TL_q rfl rfl (QT_load 0 rfl rfl Tryz.underlying39 rfl rfl rfl (fun _ => rfl)) ?_
  refine TL_cq rfl rfl rfl rfl YtjdaglmkljbfkaaGreatDoorF.cal_38 rfl (fun _ => fill_nil_bits w0 _) ?_
  refine TL_nil ?_
  refine TX_then ?_
  refine TC_seq ?_
  refine TC_reg ?_
  refine TL_q rfl rfl (QT_move rfl rfl rfl) ?_
  refine TL_q rfl rfl (QT_nilCheck rfl rfl rfl) ?_
  refine TL_q rfl rfl (QT_field rfl rfl YtjdaglmkljbfkaaGreatDoorF.fld_52_3 rfl) ?_
  refine TL_q rfl rfl (QT_load 0 rfl rfl Tryz.underlying40 rfl rfl rfl (fun _ => rfl)) ?_
  refine TL_cq rfl rfl rfl rfl YtjdaglmkljbfkaaGreatDoorF.cal_39 rfl (fun _ => fill_nil_fixes w0 _) ?_
  refine TL_nil ?_
  refine TX_then ?_
  refine TC_seq ?_
  refine TC_reg ?_
  refine TL_q rfl rfl (QT_move rfl rfl rfl) ?_
  refine TL_q rfl rfl (QT_nilCheck rfl rfl rfl) ?_
  refine TL_q rfl rfl (QT_field rfl rfl YtjdaglmkljbfkaaGreatDoorF.fld_52_4 rfl) ?_
  refine TL_q rfl rfl (QT_load 0 rfl rfl Tryz.underlying41 rfl rfl rfl (fun _ => rfl)) ?_
  refine TL_A (St w0 (heapOf (ss_recs) ++ ((kb, 52, Bk.cells ⟨many, kbytes, nilS, nilS, krecs, ktris, ksheets, ktiles, nilS, nilS, nilS, nilS, nilS, nilS⟩) :: (H_bytes ++ (H_recs ++ (H_tris ++ (H_sheets ++ (H_tiles ++ (heapOf (ss_bytes.map (fillS 1)) ++ (heapOf (ss_tris) ++ (heapOf (ss_sheets) ++ (heapOf (ss_tiles) ++ (η))))))))))))) (fun _ h => h.cnt fun p => by simp only [List.countP_append, List.countP_cons, List.countP_nil]; omega) ?_
  refine TL_e rfl rfl rfl (rfl) (ET_call rfl YtjdaglmkljbfkaaGreatDoorF.cal_40 rfl (fill_Rec w0 _ _ ss_recs hs_recs ((hF_recs.sla (η := [])).mono (fun _ h => h.cnt fun p => by simp only [List.countP_append, List.countP_cons, List.countP_nil]; omega)))) ?_
  rintro _ _ rfl
  refine TL_nil ?_
  refine TX_then ?_
  refine TC_seq ?_
  refine TC_A (St w0 ((kb, 52, Bk.cells ⟨many, kbytes, nilS, nilS, krecs, ktris, ksheets, ktiles, nilS, nilS, nilS, nilS, nilS, nilS⟩) :: (H_bytes ++ (H_recs ++ (H_tris ++ (H_sheets ++ (H_tiles ++ (heapOf (ss_bytes.map (fillS 1)) ++ (heapOf (ss_recs.map (fillS 7)) ++ (heapOf (ss_tris) ++ (heapOf (ss_sheets) ++ (heapOf (ss_tiles) ++ (η))))))))))))) (fun _ h => h.cnt fun p => by simp only [List.countP_append, List.countP_cons, List.countP_nil]; omega) ?_
  refine TC_reg ?_
  refine TL_q rfl rfl (QT_move rfl rfl rfl) ?_
  refine TL_q rfl rfl (QT_nilCheck rfl rfl rfl) ?_
  refine TL_q rfl rfl (QT_field rfl rfl YtjdaglmkljbfkaaGreatDoorF.fld_52_5 rfl) ?_
  refine TL_q rfl rfl (QT_load 0 rfl rfl Tryz.underlying42 rfl rfl rfl (fun _ => rfl)) ?_
  refine TL_A (St w0 (heapOf (ss_tris) ++ ((kb, 52, Bk.cells ⟨many, kbytes, nilS, nilS, krecs, ktris, ksheets, ktiles, nilS, nilS, nilS, nilS, nilS, nilS⟩) :: (H_bytes ++ (H_recs ++ (H_tris ++ (H_sheets ++ (H_tiles ++ (heapOf (ss_bytes.map (fillS 1)) ++ (heapOf (ss_recs.map (fillS 7)) ++ (heapOf (ss_sheets) ++ (heapOf (ss_tiles) ++ (η))))))))))))) (fun _ h => h.cnt fun p => by simp only [List.countP_append, List.countP_cons, List.countP_nil]; omega) ?_
  refine TL_e rfl rfl rfl (rfl) (ET_call rfl YtjdaglmkljbfkaaGreatDoorF.cal_41 rfl (fill_Tri w0 _ _ ss_tris hs_tris ((hF_tris.sla (η := [])).mono (fun _ h => h.cnt fun p => by simp only [List.countP_append, List.countP_cons, List.countP_nil]; omega)))) ?_
  rintro _ _ rfl
  refine TL_nil ?_
  refine TX_then ?_
  refine TC_seq ?_
  refine TC_A (St w0 ((kb, 52, Bk.cells ⟨many, kbytes, nilS, nilS, krecs, ktris, ksheets, ktiles, nilS, nilS, nilS, nilS, nilS, nilS⟩) :: (H_bytes ++ (H_recs ++ (H_tris ++ (H_sheets ++ (H_tiles ++ (heapOf (ss_bytes.map (fillS 1)) ++ (heapOf (ss_recs.map (fillS 7)) ++ (heapOf (ss_tris.map (fillS 21)) ++ (heapOf (ss_sheets) ++ (heapOf (ss_tiles) ++ (η))))))))))))) (fun _ h => h.cnt fun p => by simp only [List.countP_append, List.countP_cons, List.countP_nil]; omega) ?_
  refine TC_reg ?_
  refine TL_q rfl rfl (QT_move rfl rfl rfl) ?_
  refine TL_q rfl rfl (QT_nilCheck rfl rfl rfl) ?_
  refine TL_q rfl rfl (QT_field rfl rfl YtjdaglmkljbfkaaGreatDoorF.fld_52_6 rfl) ?_
  refine TL_q rfl rfl (QT_load 0 rfl rfl Tryz.underlying43 rfl rfl rfl (fun _ => rfl)) ?_
  refine TL_A (St w0 (heapOf (ss_sheets) ++ ((kb, 52, Bk.cells ⟨many, kbytes, nilS, nilS, krecs, ktris, ksheets, ktiles, nilS, nilS, nilS, nilS, nilS, nilS⟩) :: (H_bytes ++ (H_recs ++ (H_tris ++ (H_sheets ++ (H_tiles ++ (heapOf (ss_bytes.map (fillS 1)) ++ (heapOf (ss_recs.map (fillS 7)) ++ (heapOf (ss_tris.map (fillS 21)) ++ (heapOf (ss_tiles) ++ (η))))))))))))) (fun _ h => h.cnt fun p => by simp only [List.countP_append, List.countP_cons, List.countP_nil]; omega) ?_
  refine TL_e rfl rfl rfl (rfl) (ET_call rfl YtjdaglmkljbfkaaGreatDoorF.cal_42 rfl (fill_Sheet w0 _ _ ss_sheets hs_sheets ((hF_sheets.sla (η := [])).mono (fun _ h => h.cnt fun p => by simp only [List.countP_append, List.countP_cons, List.countP_nil]; omega)))) ?_
  rintro _ _ rfl
  refine TL_nil ?_
  refine TX_then ?_
  refine TC_seq ?_
  refine TC_A (St w0 ((kb, 52, Bk.cells ⟨many, kbytes, nilS, nilS, krecs, ktris, ksheets, ktiles, nilS, nilS, nilS, nilS, nilS, nilS⟩) :: (H_bytes ++ (H_recs ++ (H_tris ++ (H_sheets ++ (H_tiles ++ (heapOf (ss_bytes.map (fillS 1)) ++ (heapOf (ss_recs.map (fillS 7)) ++ (heapOf (ss_tris.map (fillS 21)) ++ (heapOf (ss_sheets.map (fillS 49)) ++ (heapOf (ss_tiles) ++ (η))))))))))))) (fun _ h => h.cnt fun p => by simp only [List.countP_append, List.countP_cons, List.countP_nil]; omega) ?_
  refine TC_reg ?_
  refine TL_q rfl rfl (QT_move rfl rfl rfl) ?_
  refine TL_q rfl rfl (QT_nilCheck rfl rfl rfl) ?_
  refine TL_q rfl rfl (QT_field rfl rfl YtjdaglmkljbfkaaGreatDoorF.fld_52_7 rfl) ?_
  refine TL_q rfl rfl (QT_load 0 rfl rfl Tryz.underlying44 rfl rfl rfl (fun _ => rfl)) ?_
  refine TL_A (St w0 (heapOf (ss_tiles) ++ ((kb, 52, Bk.cells ⟨many, kbytes, nilS, nilS, krecs, ktris, ksheets, ktiles, nilS, nilS, nilS, nilS, nilS, nilS⟩) :: (H_bytes ++ (H_recs ++ (H_tris ++ (H_sheets ++ (H_tiles ++ (heapOf (ss_bytes.map (fillS 1)) ++ (heapOf (ss_recs.map (fillS 7)) ++ (heapOf (ss_tris.map (fillS 21)) ++ (heapOf (ss_sheets.map (fillS 49)) ++ (η))))))))))))) (fun _ h => h.cnt fun p => by simp only [List.countP_append, List.countP_cons, List.countP_nil]; omega) ?_
  refine TL_e rfl rfl rfl (rfl) (ET_call rfl YtjdaglmkljbfkaaGreatDoorF.cal_43 rfl (fill_Patch w0 _ _ ss_tiles hs_tiles ((hF_tiles.sla (η := [])).mono (fun _ h => h.cnt fun p => by simp only [List.countP_append, List.countP_cons, List.countP_nil]; omega)))) ?_
  rintro _ _ rfl
  refine TL_nil ?_
  refine TX_then ?_
  refine TC_seq ?_
  refine TC_A (St w0 ((kb, 52, Bk.cells ⟨many, kbytes, nilS, nilS, krecs, ktris, ksheets, ktiles, nilS, nilS, nilS, nilS, nilS, nilS⟩) :: (H_bytes ++ (H_recs ++ (H_tris ++ (H_sheets ++ (H_tiles ++ (heapOf (ss_bytes.map (fillS 1)) ++ (heapOf (ss_recs.map (fillS 7)) ++ (heapOf (ss_tris.map (fillS 21)) ++ (heapOf (ss_sheets.map (fillS 49)) ++ (heapOf (ss_tiles.map (fillS 48)) ++ (η))))))))))))) (fun _ h => h.cnt fun p => by simp only [List.countP_append, List.countP_cons, List.countP_nil]; omega) ?_
  refine TC_reg ?_
  refine TL_q rfl rfl (QT_move rfl rfl rfl) ?_
  refine TL_q rfl rfl (QT_nilCheck rfl rfl rfl) ?_
  refine TL_q rfl rfl (QT_field rfl rfl YtjdaglmkljbfkaaGreatDoorF.fld_52_8 rfl) ?_
  refine TL_q rfl rfl (QT_load 0 rfl rfl Tryz.underlying45 rfl rfl rfl (fun _ => rfl)) ?_
  refine TL_cq rfl rfl rfl rfl YtjdaglmkljbfkaaGreatDoorF.cal_44 rfl (fun _ => fill_nil_dots w0 _) ?_
  refine TL_nil ?_
  refine TX_then ?_
  refine TC_seq ?_
  refine TC_reg ?_
  refine TL_q rfl rfl (QT_move rfl rfl rfl) ?_
  refine TL_q rfl rfl (QT_nilCheck rfl rfl rfl) ?_
  refine TL_q rfl rfl (QT_field rfl rfl YtjdaglmkljbfkaaGreatDoorF.fld_52_9 rfl) ?_
  refine TL_q rfl rfl (QT_load 0 rfl rfl Tryz.underlying46 rfl rfl rfl (fun _ => rfl)) ?_
  refine TL_cq rfl rfl rfl rfl YtjdaglmkljbfkaaGreatDoorF.cal_45 rfl (fun _ => fill_nil_facets w0 _) ?_
  refine TL_nil ?_
  refine TX_then ?_
  refine TC_seq ?_
  refine TC_reg ?_
  refine TL_q rfl rfl (QT_move rfl rfl rfl) ?_
  refine TL_q rfl rfl (QT_nilCheck rfl rfl rfl) ?_
  refine TL_q rfl rfl (QT_field rfl rfl YtjdaglmkljbfkaaGreatDoorF.fld_52_10 rfl) ?_
  refine TL_q rfl rfl (QT_load 0 rfl rfl Tryz.underlying47 rfl rfl rfl (fun _ => rfl)) ?_
  refine TL_cq rfl rfl rfl rfl YtjdaglmkljbfkaaGreatDoorF.cal_46 rfl (fun _ => fill_nil_tokens w0 _) ?_
  refine TL_nil ?_
  refine TX_then ?_
  refine TC_seq ?_
  refine TC_reg ?_
  refine TL_q rfl rfl (QT_move rfl rfl rfl) ?_
  refine TL_q rfl rfl (QT_nilCheck rfl rfl rfl) ?_
  refine TL_q rfl rfl (QT_field rfl rfl YtjdaglmkljbfkaaGreatDoorF.fld_52_11 rfl) ?_
  refine TL_q rfl rfl (QT_load 0 rfl rfl Tryz.underlying48 rfl rfl rfl (fun _ => rfl)) ?_
  refine TL_cq rfl rfl rfl rfl YtjdaglmkljbfkaaGreatDoorF.cal_47 rfl (fun _ => fill_nil_codes w0 _) ?_
  refine TL_nil ?_
  refine TX_then ?_
  refine TC_seq ?_
  refine TC_reg ?_
  refine TL_q rfl rfl (QT_move rfl rfl rfl) ?_
  refine TL_q rfl rfl (QT_nilCheck rfl rfl rfl) ?_
  refine TL_q rfl rfl (QT_field rfl rfl YtjdaglmkljbfkaaGreatDoorF.fld_52_12 rfl) ?_
  refine TL_q rfl rfl (QT_load 0 rfl rfl Tryz.underlying49 rfl rfl rfl (fun _ => rfl)) ?_
  refine TL_cq rfl rfl rfl rfl YtjdaglmkljbfkaaGreatDoorF.cal_48 rfl (fun _ => fill_nil_vals w0 _) ?_
  refine TL_nil ?_
  refine TX_then ?_
  refine TC_seq ?_
  refine TC_reg ?_
  refine TL_q rfl rfl (QT_move rfl rfl rfl) ?_
  refine TL_q rfl rfl (QT_nilCheck rfl rfl rfl) ?_
  refine TL_q rfl rfl (QT_field rfl rfl YtjdaglmkljbfkaaGreatDoorF.fld_52_13 rfl) ?_
  refine TL_q rfl rfl (QT_load 0 rfl rfl Tryz.underlying50 rfl rfl rfl (fun _ => rfl)) ?_
  refine TL_cq rfl rfl rfl rfl YtjdaglmkljbfkaaGreatDoorF.cal_49 rfl (fun _ => fill_nil_spots w0 _) ?_
  refine TL_nil ?_
  refine TX_then ?_
  refine TC_seq ?_
  refine TC_reg ?_
  refine TL_q rfl rfl (QT_move rfl rfl rfl) ?_
  refine TL_q rfl rfl (QT_nilCheck rfl rfl rfl) ?_
  refine TL_q rfl rfl (QT_field rfl rfl YtjdaglmkljbfkaaGreatDoorF.fld_52_1 rfl) ?_
  refine TL_q rfl rfl (QT_load 0 rfl rfl Tryz.underlying38 rfl rfl rfl (fun _ => rfl)) ?_
  refine TL_A (St w0 (H_bytes ++ (heapOf (ss_bytes.map (fillS 1)) ++ ((kb, 52, Bk.cells ⟨many, kbytes, nilS, nilS, krecs, ktris, ksheets, ktiles, nilS, nilS, nilS, nilS, nilS, nilS⟩) :: (H_recs ++ (H_tris ++ (H_sheets ++ (H_tiles ++ (heapOf (ss_recs.map (fillS 7)) ++ (heapOf (ss_tris.map (fillS 21)) ++ (heapOf (ss_sheets.map (fillS 49)) ++ (heapOf (ss_tiles.map (fillS 48)) ++ (η))))))))))))) (fun _ h => h.cnt fun p => by simp only [List.countP_append, List.countP_cons, List.countP_nil]; omega) ?_
  refine TL_e rfl rfl rfl (rfl) (ET_call rfl YtjdaglmkljbfkaaGreatDoorF.cal_50 rfl (grow_Byte w0 _ _ _ _ hsf_bytes hFf_bytes)) ?_
  rintro _ _ ⟨g_bytes, G_bytes, hl_bytes, hg_bytes, hG_bytes, rfl⟩
  refine TL_nil ?_
  refine TX_then ?_
  refine TC_seq ?_
  refine TC_A (St w0 ((kb, 52, Bk.cells ⟨many, kbytes, nilS, nilS, krecs, ktris, ksheets, ktiles, nilS, nilS, nilS, nilS, nilS, nilS⟩) :: (G_bytes ++ (H_recs ++ (H_tris ++ (H_sheets ++ (H_tiles ++ (heapOf (g_bytes) ++ (heapOf (ss_recs.map (fillS 7)) ++ (heapOf (ss_tris.map (fillS 21)) ++ (heapOf (ss_sheets.map (fillS 49)) ++ (heapOf (ss_tiles.map (fillS 48)) ++ (η))))))))))))) (fun _ h => h.cnt fun p => by simp only [List.countP_append, List.countP_cons, List.countP_nil]; omega) ?_
  refine TC_reg ?_
  refine TL_q rfl rfl (QT_move rfl rfl rfl) ?_
  refine TL_q rfl rfl (QT_nilCheck rfl rfl rfl) ?_
  refine TL_q rfl rfl (QT_field rfl rfl YtjdaglmkljbfkaaGreatDoorF.fld_52_2 rfl) ?_
  refine TL_q rfl rfl (QT_load 0 rfl rfl Tryz.underlying39 rfl rfl rfl (fun _ => rfl)) ?_
  refine TL_cq rfl rfl rfl rfl YtjdaglmkljbfkaaGreatDoorF.cal_51 rfl (fun _ => grow_nil_bits w0 _) ?_
  refine TL_nil ?_
  refine TX_then ?_
  refine TC_seq ?_
  refine TC_reg ?_
  refine TL_q rfl rfl (QT_move rfl rfl rfl) ?_
  refine TL_q rfl rfl (QT_nilCheck rfl rfl rfl) ?_
  refine TL_q rfl rfl (QT_field rfl rfl YtjdaglmkljbfkaaGreatDoorF.fld_52_3 rfl) ?_
  refine TL_q rfl rfl (QT_load 0 rfl rfl Tryz.underlying40 rfl rfl rfl (fun _ => rfl)) ?_
  refine TL_cq rfl rfl rfl rfl YtjdaglmkljbfkaaGreatDoorF.cal_52 rfl (fun _ => grow_nil_fixes w0 _) ?_
  refine TL_nil ?_
  refine TX_then ?_
  refine TC_seq ?_
  refine TC_reg ?_
  refine TL_q rfl rfl (QT_move rfl rfl rfl) ?_
  refine TL_q rfl rfl (QT_nilCheck rfl rfl rfl) ?_
  refine TL_q rfl rfl (QT_field rfl rfl YtjdaglmkljbfkaaGreatDoorF.fld_52_4 rfl) ?_
  refine TL_q rfl rfl (QT_load 0 rfl rfl Tryz.underlying41 rfl rfl rfl (fun _ => rfl)) ?_
  refine TL_A (St w0 (H_recs ++ (heapOf (ss_recs.map (fillS 7)) ++ ((kb, 52, Bk.cells ⟨many, kbytes, nilS, nilS, krecs, ktris, ksheets, ktiles, nilS, nilS, nilS, nilS, nilS, nilS⟩) :: (G_bytes ++ (H_tris ++ (H_sheets ++ (H_tiles ++ (heapOf (g_bytes) ++ (heapOf (ss_tris.map (fillS 21)) ++ (heapOf (ss_sheets.map (fillS 49)) ++ (heapOf (ss_tiles.map (fillS 48)) ++ (η))))))))))))) (fun _ h => h.cnt fun p => by simp only [List.countP_append, List.countP_cons, List.countP_nil]; omega) ?_
  refine TL_e rfl rfl rfl (rfl) (ET_call rfl YtjdaglmkljbfkaaGreatDoorF.cal_53 rfl (grow_Rec w0 _ _ _ _ hsf_recs hFf_recs)) ?_
  rintro _ _ ⟨g_recs, G_recs, hl_recs, hg_recs, hG_recs, rfl⟩
  refine TL_nil ?_
  refine TX_then ?_
  refine TC_seq ?_
  refine TC_A (St w0 ((kb, 52, Bk.cells ⟨many, kbytes, nilS, nilS, krecs, ktris, ksheets, ktiles, nilS, nilS, nilS, nilS, nilS, nilS⟩) :: (G_bytes ++ (G_recs ++ (H_tris ++ (H_sheets ++ (H_tiles ++ (heapOf (g_bytes) ++ (heapOf (g_recs) ++ (heapOf (ss_tris.map (fillS 21)) ++ (heapOf (ss_sheets.map (fillS 49)) ++ (heapOf (ss_tiles.map (fillS 48)) ++ (η))))))))))))) (fun _ h => h.cnt fun p => by simp only [List.countP_append, List.countP_cons, List.countP_nil]; omega) ?_
  refine TC_reg ?_
  refine TL_q rfl rfl (QT_move rfl rfl rfl) ?_
  refine TL_q rfl rfl (QT_nilCheck rfl rfl rfl) ?_
  refine TL_q rfl rfl (QT_field rfl rfl YtjdaglmkljbfkaaGreatDoorF.fld_52_5 rfl) ?_
  refine TL_q rfl rfl (QT_load 0 rfl rfl Tryz.underlying42 rfl rfl rfl (fun _ => rfl)) ?_
  refine TL_A (St w0 (H_tris ++ (heapOf (ss_tris.map (fillS 21)) ++ ((kb, 52, Bk.cells ⟨many, kbytes, nilS, nilS, krecs, ktris, ksheets, ktiles, nilS, nilS, nilS, nilS, nilS, nilS⟩) :: (G_bytes ++ (G_recs ++ (H_sheets ++ (H_tiles ++ (heapOf (g_bytes) ++ (heapOf (g_recs) ++ (heapOf (ss_sheets.map (fillS 49)) ++ (heapOf (ss_tiles.map (fillS 48)) ++ (η))))))))))))) (fun _ h => h.cnt fun p => by simp only [List.countP_append, List.countP_cons, List.countP_nil]; omega) ?_
  refine TL_e rfl rfl rfl (rfl) (ET_call rfl YtjdaglmkljbfkaaGreatDoorF.cal_54 rfl (grow_Tri w0 _ _ _ _ hsf_tris hFf_tris)) ?_
  rintro _ _ ⟨g_tris, G_tris, hl_tris, hg_tris, hG_tris, rfl⟩
  refine TL_nil ?_
  refine TX_then ?_
  refine TC_seq ?_
  refine TC_A (St w0 ((kb, 52, Bk.cells ⟨many, kbytes, nilS, nilS, krecs, ktris, ksheets, ktiles, nilS, nilS, nilS, nilS, nilS, nilS⟩) :: (G_bytes ++ (G_recs ++ (G_tris ++ (H_sheets ++ (H_tiles ++ (heapOf (g_bytes) ++ (heapOf (g_recs) ++ (heapOf (g_tris) ++ (heapOf (ss_sheets.map (fillS 49)) ++ (heapOf (ss_tiles.map (fillS 48)) ++ (η))))))))))))) (fun _ h => h.cnt fun p => by simp only [List.countP_append, List.countP_cons, List.countP_nil]; omega) ?_
  refine TC_reg ?_
  refine TL_q rfl rfl (QT_move rfl rfl rfl) ?_
  refine TL_q rfl rfl (QT_nilCheck rfl rfl rfl) ?_
  refine TL_q rfl rfl (QT_field rfl rfl YtjdaglmkljbfkaaGreatDoorF.fld_52_6 rfl) ?_
  refine TL_q rfl rfl (QT_load 0 rfl rfl Tryz.underlying43 rfl rfl rfl (fun _ => rfl)) ?_
  refine TL_A (St w0 (H_sheets ++ (heapOf (ss_sheets.map (fillS 49)) ++ ((kb, 52, Bk.cells ⟨many, kbytes, nilS, nilS, krecs, ktris, ksheets, ktiles, nilS, nilS, nilS, nilS, nilS, nilS⟩) :: (G_bytes ++ (G_recs ++ (G_tris ++ (H_tiles ++ (heapOf (g_bytes) ++ (heapOf (g_recs) ++ (heapOf (g_tris) ++ (heapOf (ss_tiles.map (fillS 48)) ++ (η))))))))))))) (fun _ h => h.cnt fun p => by simp only [List.countP_append, List.countP_cons, List.countP_nil]; omega) ?_
  refine TL_e rfl rfl rfl (rfl) (ET_call rfl YtjdaglmkljbfkaaGreatDoorF.cal_55 rfl (grow_Sheet w0 _ _ _ _ hsf_sheets hFf_sheets)) ?_
  rintro _ _ ⟨g_sheets, G_sheets, hl_sheets, hg_sheets, hG_sheets, rfl⟩
  refine TL_nil ?_
  refine TX_then ?_
  refine TC_seq ?_
  refine TC_A (St w0 ((kb, 52, Bk.cells ⟨many, kbytes, nilS, nilS, krecs, ktris, ksheets, ktiles, nilS, nilS, nilS, nilS, nilS, nilS⟩) :: (G_bytes ++ (G_recs ++ (G_tris ++ (G_sheets ++ (H_tiles ++ (heapOf (g_bytes) ++ (heapOf (g_recs) ++ (heapOf (g_tris) ++ (heapOf (g_sheets) ++ (heapOf (ss_tiles.map (fillS 48)) ++ (η))))))))))))) (fun _ h => h.cnt fun p => by simp only [List.countP_append, List.countP_cons, List.countP_nil]; omega) ?_
  refine TC_reg ?_
  refine TL_q rfl rfl (QT_move rfl rfl rfl) ?_
  refine TL_q rfl rfl (QT_nilCheck rfl rfl rfl) ?_
  refine TL_q rfl rfl (QT_field rfl rfl YtjdaglmkljbfkaaGreatDoorF.fld_52_7 rfl) ?_
  refine TL_q rfl rfl (QT_load 0 rfl rfl Tryz.underlying44 rfl rfl rfl (fun _ => rfl)) ?_
  refine TL_A (St w0 (H_tiles ++ (heapOf (ss_tiles.map (fillS 48)) ++ ((kb, 52, Bk.cells ⟨many, kbytes, nilS, nilS, krecs, ktris, ksheets, ktiles, nilS, nilS, nilS, nilS, nilS, nilS⟩) :: (G_bytes ++ (G_recs ++ (G_tris ++ (G_sheets ++ (heapOf (g_bytes) ++ (heapOf (g_recs) ++ (heapOf (g_tris) ++ (heapOf (g_sheets) ++ (η))))))))))))) (fun _ h => h.cnt fun p => by simp only [List.countP_append, List.countP_cons, List.countP_nil]; omega) ?_
  refine TL_e rfl rfl rfl (rfl) (ET_call rfl YtjdaglmkljbfkaaGreatDoorF.cal_56 rfl (grow_Patch w0 _ _ _ _ hsf_tiles hFf_tiles)) ?_
  rintro _ _ ⟨g_tiles, G_tiles, hl_tiles, hg_tiles, hG_tiles, rfl⟩
  refine TL_nil ?_
  refine TX_then ?_
  refine TC_seq ?_
  refine TC_A (St w0 ((kb, 52, Bk.cells ⟨many, kbytes, nilS, nilS, krecs, ktris, ksheets, ktiles, nilS, nilS, nilS, nilS, nilS, nilS⟩) :: (G_bytes ++ (G_recs ++ (G_tris ++ (G_sheets ++ (G_tiles ++ (heapOf (g_bytes) ++ (heapOf (g_recs) ++ (heapOf (g_tris) ++ (heapOf (g_sheets) ++ (heapOf (g_tiles) ++ (η))))))))))))) (fun _ h => h.cnt fun p => by simp only [List.countP_append, List.countP_cons, List.countP_nil]; omega) ?_
  refine TC_reg ?_
  refine TL_q rfl rfl (QT_move rfl rfl rfl) ?_
  refine TL_q rfl rfl (QT_nilCheck rfl rfl rfl) ?_
  refine TL_q rfl rfl (QT_field rfl rfl YtjdaglmkljbfkaaGreatDoorF.fld_52_8 rfl) ?_
  refine TL_q rfl rfl (QT_load 0 rfl rfl Tryz.underlying45 rfl rfl rfl (fun _ => rfl)) ?_
  refine TL_cq rfl rfl rfl rfl YtjdaglmkljbfkaaGreatDoorF.cal_57 rfl (fun _ => grow_nil_dots w0 _) ?_
  refine TL_nil ?_
  refine TX_then ?_
  refine TC_seq ?_
  refine TC_reg ?_
  refine TL_q rfl rfl (QT_move rfl rfl rfl) ?_
  refine TL_q rfl rfl (QT_nilCheck rfl rfl rfl) ?_
  refine TL_q rfl rfl (QT_field rfl rfl YtjdaglmkljbfkaaGreatDoorF.fld_52_9 rfl) ?_
  refine TL_q rfl rfl (QT_load 0 rfl rfl Tryz.underlying46 rfl rfl rfl (fun _ => rfl)) ?_
  refine TL_cq rfl rfl rfl rfl YtjdaglmkljbfkaaGreatDoorF.cal_58 rfl (fun _ => grow_nil_facets w0 _) ?_
  refine TL_nil ?_
  refine TX_then ?_
  refine TC_seq ?_
  refine TC_reg ?_
  refine TL_q rfl rfl (QT_move rfl rfl rfl) ?_
  refine TL_q rfl rfl (QT_nilCheck rfl rfl rfl) ?_
  refine TL_q rfl rfl (QT_field rfl rfl YtjdaglmkljbfkaaGreatDoorF.fld_52_10 rfl) ?_
  refine TL_q rfl rfl (QT_load 0 rfl rfl Tryz.underlying47 rfl rfl rfl (fun _ => rfl)) ?_
  refine TL_cq rfl rfl rfl rfl YtjdaglmkljbfkaaGreatDoorF.cal_59 rfl (fun _ => grow_nil_tokens w0 _) ?_
  refine TL_nil ?_
  refine TX_then ?_
  refine TC_seq ?_
  refine TC_reg ?_
  refine TL_q rfl rfl (QT_move rfl rfl rfl) ?_
  refine TL_q rfl rfl (QT_nilCheck rfl rfl rfl) ?_
  refine TL_q rfl rfl (QT_field rfl rfl YtjdaglmkljbfkaaGreatDoorF.fld_52_11 rfl) ?_
  refine TL_q rfl rfl (QT_load 0 rfl rfl Tryz.underlying48 rfl rfl rfl (fun _ => rfl)) ?_
  refine TL_cq rfl rfl rfl rfl YtjdaglmkljbfkaaGreatDoorF.cal_60 rfl (fun _ => grow_nil_codes w0 _) ?_
  refine TL_nil ?_
  refine TX_then ?_
  refine TC_seq ?_
  refine TC_reg ?_
  refine TL_q rfl rfl (QT_move rfl rfl rfl) ?_
  refine TL_q rfl rfl (QT_nilCheck rfl rfl rfl) ?_
  refine TL_q rfl rfl (QT_field rfl rfl YtjdaglmkljbfkaaGreatDoorF.fld_52_12 rfl) ?_
  refine TL_q rfl rfl (QT_load 0 rfl rfl Tryz.underlying49 rfl rfl rfl (fun _ => rfl)) ?_
  refine TL_cq rfl rfl rfl rfl YtjdaglmkljbfkaaGreatDoorF.cal_61 rfl (fun _ => grow_nil_vals w0 _) ?_
  refine TL_nil ?_
  refine TX_then ?_
  refine TC_seq ?_
  refine TC_reg ?_
  refine TL_q rfl rfl (QT_move rfl rfl rfl) ?_
  refine TL_q rfl rfl (QT_nilCheck rfl rfl rfl) ?_
  refine TL_q rfl rfl (QT_field rfl rfl YtjdaglmkljbfkaaGreatDoorF.fld_52_13 rfl) ?_
  refine TL_q rfl rfl (QT_load 0 rfl rfl Tryz.underlying50 rfl rfl rfl (fun _ => rfl)) ?_
  refine TL_cq rfl rfl rfl rfl YtjdaglmkljbfkaaGreatDoorF.cal_62 rfl (fun _ => grow_nil_spots w0 _) ?_
  refine TL_nil ?_
  refine TX_then ?_
  refine TC_seq ?_
  refine TC_reg ?_
  refine TL_q rfl rfl (QT_move rfl rfl rfl) ?_
  refine TL_q rfl rfl (QT_nilCheck rfl rfl rfl) ?_
  refine TL_q rfl rfl (QT_field rfl rfl YtjdaglmkljbfkaaGreatDoorF.fld_52_1 rfl) ?_
  refine TL_q rfl rfl (QT_load 0 rfl rfl Tryz.underlying38 rfl rfl rfl (fun _ => rfl)) ?_
  refine TL_cq rfl rfl rfl rfl YtjdaglmkljbfkaaGreatDoorF.cal_63 rfl (fun _ => marked_Byte w0 _ _ g_bytes (fun s h => (hg_bytes s h).mono (fun _ h => h.cnt fun p => by simp only [List.countP_append, List.countP_cons, List.countP_nil]; omega)) ((hG_bytes.sla (η := [])).mono (fun _ h => h.cnt fun p => by simp only [List.countP_append, List.countP_cons, List.countP_nil]; omega))) ?_
  refine TL_q rfl rfl (QT_move rfl rfl rfl) ?_
  refine TL_q rfl rfl (QT_move rfl rfl rfl) ?_
  refine TL_q rfl rfl (QT_nilCheck rfl rfl rfl) ?_
  refine TL_q rfl rfl (QT_field rfl rfl YtjdaglmkljbfkaaGreatDoorF.fld_52_2 rfl) ?_
  refine TL_q rfl rfl (QT_load 0 rfl rfl Tryz.underlying39 rfl rfl rfl (fun _ => rfl)) ?_
  refine TL_cq rfl rfl rfl rfl YtjdaglmkljbfkaaGreatDoorF.cal_64 rfl (fun _ => marked_nil_bits w0 _) ?_
  refine TL_q rfl rfl (QT_and rfl rfl rfl rfl) ?_
  refine TL_q rfl rfl (QT_move rfl rfl rfl) ?_
  refine TL_q rfl rfl (QT_move rfl rfl rfl) ?_
  refine TL_q rfl rfl (QT_nilCheck rfl rfl rfl) ?_
  refine TL_q rfl rfl (QT_field rfl rfl YtjdaglmkljbfkaaGreatDoorF.fld_52_3 rfl) ?_
  refine TL_q rfl rfl (QT_load 0 rfl rfl Tryz.underlying40 rfl rfl rfl (fun _ => rfl)) ?_
  refine TL_cq rfl rfl rfl rfl YtjdaglmkljbfkaaGreatDoorF.cal_65 rfl (fun _ => marked_nil_fixes w0 _) ?_
  refine TL_q rfl rfl (QT_and rfl rfl rfl rfl) ?_
  refine TL_q rfl rfl (QT_move rfl rfl rfl) ?_
  refine TL_q rfl rfl (QT_move rfl rfl rfl) ?_
  refine TL_q rfl rfl (QT_nilCheck rfl rfl rfl) ?_
  refine TL_q rfl rfl (QT_field rfl rfl YtjdaglmkljbfkaaGreatDoorF.fld_52_4 rfl) ?_
  refine TL_q rfl rfl (QT_load 0 rfl rfl Tryz.underlying41 rfl rfl rfl (fun _ => rfl)) ?_
  refine TL_cq rfl rfl rfl rfl YtjdaglmkljbfkaaGreatDoorF.cal_66 rfl (fun _ => marked_Rec w0 _ _ g_recs (fun s h => (hg_recs s h).mono (fun _ h => h.cnt fun p => by simp only [List.countP_append, List.countP_cons, List.countP_nil]; omega)) ((hG_recs.sla (η := [])).mono (fun _ h => h.cnt fun p => by simp only [List.countP_append, List.countP_cons, List.countP_nil]; omega))) ?_
  refine TL_q rfl rfl (QT_and rfl rfl rfl rfl) ?_
  refine TL_q rfl rfl (QT_move rfl rfl rfl) ?_
  refine TL_q rfl rfl (QT_move rfl rfl rfl) ?_
  refine TL_q rfl rfl (QT_nilCheck rfl rfl rfl) ?_
  refine TL_q rfl rfl (QT_field rfl rfl YtjdaglmkljbfkaaGreatDoorF.fld_52_5 rfl) ?_
  refine TL_q rfl rfl (QT_load 0 rfl rfl Tryz.underlying42 rfl rfl rfl (fun _ => rfl)) ?_
  refine TL_cq rfl rfl rfl rfl YtjdaglmkljbfkaaGreatDoorF.cal_67 rfl (fun _ => marked_Tri w0 _ _ g_tris (fun s h => (hg_tris s h).mono (fun _ h => h.cnt fun p => by simp only [List.countP_append, List.countP_cons, List.countP_nil]; omega)) ((hG_tris.sla (η := [])).mono (fun _ h => h.cnt fun p => by simp only [List.countP_append, List.countP_cons, List.countP_nil]; omega))) ?_
  refine TL_q rfl rfl (QT_and rfl rfl rfl rfl) ?_
  refine TL_q rfl rfl (QT_move rfl rfl rfl) ?_
  refine TL_q rfl rfl (QT_move rfl rfl rfl) ?_
  refine TL_q rfl rfl (QT_nilCheck rfl rfl rfl) ?_
  refine TL_q rfl rfl (QT_field rfl rfl YtjdaglmkljbfkaaGreatDoorF.fld_52_6 rfl) ?_
  refine TL_q rfl rfl (QT_load 0 rfl rfl Tryz.underlying43 rfl rfl rfl (fun _ => rfl)) ?_
  refine TL_cq rfl rfl rfl rfl YtjdaglmkljbfkaaGreatDoorF.cal_68 rfl (fun _ => marked_Sheet w0 _ _ g_sheets (fun s h => (hg_sheets s h).mono (fun _ h => h.cnt fun p => by simp only [List.countP_append, List.countP_cons, List.countP_nil]; omega)) ((hG_sheets.sla (η := [])).mono (fun _ h => h.cnt fun p => by simp only [List.countP_append, List.countP_cons, List.countP_nil]; omega))) ?_
  refine TL_q rfl rfl (QT_and rfl rfl rfl rfl) ?_
  refine TL_q rfl rfl (QT_move rfl rfl rfl) ?_
  refine TL_q rfl rfl (QT_move rfl rfl rfl) ?_
  refine TL_q rfl rfl (QT_nilCheck rfl rfl rfl) ?_
  refine TL_q rfl rfl (QT_field rfl rfl YtjdaglmkljbfkaaGreatDoorF.fld_52_7 rfl) ?_
  refine TL_q rfl rfl (QT_load 0 rfl rfl Tryz.underlying44 rfl rfl rfl (fun _ => rfl)) ?_
  refine TL_cq rfl rfl rfl rfl YtjdaglmkljbfkaaGreatDoorF.cal_69 rfl (fun _ => marked_Patch w0 _ _ g_tiles (fun s h => (hg_tiles s h).mono (fun _ h => h.cnt fun p => by simp only [List.countP_append, List.countP_cons, List.countP_nil]; omega)) ((hG_tiles.sla (η := [])).mono (fun _ h => h.cnt fun p => by simp only [List.countP_append, List.countP_cons, List.countP_nil]; omega))) ?_
  refine TL_q rfl rfl (QT_and rfl rfl rfl rfl) ?_
  refine TL_q rfl rfl (QT_move rfl rfl rfl) ?_
  refine TL_q rfl rfl (QT_move rfl rfl rfl) ?_
  refine TL_q rfl rfl (QT_nilCheck rfl rfl rfl) ?_
  refine TL_q rfl rfl (QT_field rfl rfl YtjdaglmkljbfkaaGreatDoorF.fld_52_8 rfl) ?_
  refine TL_q rfl rfl (QT_load 0 rfl rfl Tryz.underlying45 rfl rfl rfl (fun _ => rfl)) ?_
  refine TL_cq rfl rfl rfl rfl YtjdaglmkljbfkaaGreatDoorF.cal_70 rfl (fun _ => marked_nil_dots w0 _) ?_
  refine TL_q rfl rfl (QT_and rfl rfl rfl rfl) ?_
  refine TL_q rfl rfl (QT_move rfl rfl rfl) ?_
  refine TL_q rfl rfl (QT_move rfl rfl rfl) ?_
  refine TL_q rfl rfl (QT_nilCheck rfl rfl rfl) ?_
  refine TL_q rfl rfl (QT_field rfl rfl YtjdaglmkljbfkaaGreatDoorF.fld_52_9 rfl) ?_
  refine TL_q rfl rfl (QT_load 0 rfl rfl Tryz.underlying46 rfl rfl rfl (fun _ => rfl)) ?_
  refine TL_cq rfl rfl rfl rfl YtjdaglmkljbfkaaGreatDoorF.cal_71 rfl (fun _ => marked_nil_facets w0 _) ?_
  refine TL_q rfl rfl (QT_and rfl rfl rfl rfl) ?_
  refine TL_q rfl rfl (QT_move rfl rfl rfl) ?_
  refine TL_q rfl rfl (QT_move rfl rfl rfl) ?_
  refine TL_q rfl rfl (QT_nilCheck rfl rfl rfl) ?_
  refine TL_q rfl rfl (QT_field rfl rfl YtjdaglmkljbfkaaGreatDoorF.fld_52_10 rfl) ?_
  refine TL_q rfl rfl (QT_load 0 rfl rfl Tryz.underlying47 rfl rfl rfl (fun _ => rfl)) ?_
  refine TL_cq rfl rfl rfl rfl YtjdaglmkljbfkaaGreatDoorF.cal_72 rfl (fun _ => marked_nil_tokens w0 _) ?_
  refine TL_q rfl rfl (QT_and rfl rfl rfl rfl) ?_
  refine TL_q rfl rfl (QT_move rfl rfl rfl) ?_
  refine TL_q rfl rfl (QT_move rfl rfl rfl) ?_
  refine TL_q rfl rfl (QT_nilCheck rfl rfl rfl) ?_
  refine TL_q rfl rfl (QT_field rfl rfl YtjdaglmkljbfkaaGreatDoorF.fld_52_11 rfl) ?_
  refine TL_q rfl rfl (QT_load 0 rfl rfl Tryz.underlying48 rfl rfl rfl (fun _ => rfl)) ?_
  refine TL_cq rfl rfl rfl rfl YtjdaglmkljbfkaaGreatDoorF.cal_73 rfl (fun _ => marked_nil_codes w0 _) ?_
  refine TL_q rfl rfl (QT_and rfl rfl rfl rfl) ?_
  refine TL_q rfl rfl (QT_move rfl rfl rfl) ?_
  refine TL_q rfl rfl (QT_move rfl rfl rfl) ?_
  refine TL_q rfl rfl (QT_nilCheck rfl rfl rfl) ?_
  refine TL_q rfl rfl (QT_field rfl rfl YtjdaglmkljbfkaaGreatDoorF.fld_52_12 rfl) ?_
  refine TL_q rfl rfl (QT_load 0 rfl rfl Tryz.underlying49 rfl rfl rfl (fun _ => rfl)) ?_
  refine TL_cq rfl rfl rfl rfl YtjdaglmkljbfkaaGreatDoorF.cal_74 rfl (fun _ => marked_nil_vals w0 _) ?_
  refine TL_q rfl rfl (QT_and rfl rfl rfl rfl) ?_
  refine TL_q rfl rfl (QT_move rfl rfl rfl) ?_
  refine TL_q rfl rfl (QT_move rfl rfl rfl) ?_
  refine TL_q rfl rfl (QT_nilCheck rfl rfl rfl) ?_
  refine TL_q rfl rfl (QT_field rfl rfl YtjdaglmkljbfkaaGreatDoorF.fld_52_13 rfl) ?_
  refine TL_q rfl rfl (QT_load 0 rfl rfl Tryz.underlying50 rfl rfl rfl (fun _ => rfl)) ?_
  refine TL_cq rfl rfl rfl rfl YtjdaglmkljbfkaaGreatDoorF.cal_75 rfl (fun _ => marked_nil_spots w0 _) ?_
  refine TL_q rfl rfl (QT_and rfl rfl rfl rfl) ?_
  refine TL_q rfl rfl (QT_assign rfl rfl rfl) ?_
  refine TL_nil ?_
  refine TX_then ?_
  refine TC_ret ?_
  exact TX_ret (.inl rfl) (res1 rfl rfl) ⟨_, ⟨rfl, rfl⟩, (fun _ h => h.cnt fun p => by simp only [List.countP_append, List.countP_cons, List.countP_nil]; omega)⟩
end Go.Proofs.YtjdaglmkljbfkaaGreatDoor
namespace Go.Proofs.YtjdaglmkljbfkaaGreatDoor
open Go Go.Gx Go.RowKit
set_option maxRecDepth 100000
def rowA : Value := .agg #[.func (.func 91) #[] #[], .func (.func 92) #[] #[], .func (.func 95) #[] #[]]
def rowB : Value := .agg #[.func (.func 97) #[] #[], .func (.func 98) #[] #[], .func (.func 101) #[] #[]]
def waysM : List MapEntry := [{ key := .int .i64 4, val := rowA, born := 0 }, { key := .int .i64 5, val := rowA, born := 1 }, { key := .int .i64 6, val := rowB, born := 2 }, { key := .int .i64 7, val := rowB, born := 3 }]
theorem byType_spec (w0 : Base) (η : Heap) : CallsT Tryz.prog 27 [] (St w0 η) fun v A' => ∃ m, v = .map (some m) ∧ A' = StM w0 η m waysM 4 := by
  refine CallsT.body Tryz.func27 rfl rfl ?_
  simp only [Tryz.ntmps27, slotsOf, Nat.reduceAdd]
  refine TC_seq ?_
  refine TC_reg ?_
  refine TL_q rfl rfl (QT_assign rfl rfl rfl) ?_
  refine TL_nil ?_
  refine TX_then ?_
  refine TC_seq ?_
  refine TC_reg ?_
  refine TL_q rfl rfl (QT_build rfl rfl YtjdaglmkljbfkaaGreatDoorF.zero_84 YtjdaglmkljbfkaaGreatDoorF.pl_84 rfl rfl rfl) ?_
  refine TL_e rfl rfl rfl (rfl) (ET_alloc rfl YtjdaglmkljbfkaaGreatDoorF.zero_84) ?_
  rintro _ _ ⟨b1, rfl, rfl⟩
  refine TL_e0 rfl rfl (rfl) (ET_storeW 0 rfl rfl rfl YtjdaglmkljbfkaaGreatDoorF.sz_84 rfl rfl rfl) ?_
  rintro _ _ ⟨rfl, rfl⟩
  refine TL_nil ?_
  refine TX_then ?_
  refine TC_seq ?_
  refine TC_reg ?_
  refine TL_q rfl rfl (QT_build rfl rfl YtjdaglmkljbfkaaGreatDoorF.zero_84 YtjdaglmkljbfkaaGreatDoorF.pl_84 rfl rfl rfl) ?_
  refine TL_e rfl rfl rfl (rfl) (ET_alloc rfl YtjdaglmkljbfkaaGreatDoorF.zero_84) ?_
  rintro _ _ ⟨b2, rfl, rfl⟩
  refine TL_e0 rfl rfl (rfl) (ET_storeW 0 rfl rfl rfl YtjdaglmkljbfkaaGreatDoorF.sz_84 rfl rfl rfl) ?_
  rintro _ _ ⟨rfl, rfl⟩
  refine TL_nil ?_
  refine TX_then ?_
  refine TC_seq ?_
  refine TC_A (St w0 ((b2, 84, rowB.cells.toList) :: (b1, 84, rowA.cells.toList) :: η)) (fun _ h => h) ?_
  refine TC_reg ?_
  refine TL_e rfl rfl rfl (rfl) (ET_makeMap rfl) ?_
  rintro _ _ ⟨m5, rfl, rfl⟩
  refine TL_q rfl rfl (QT_under (QT_loadW (cs := rowA.cells.toList) 1 rfl rfl Tryz.underlying84 rfl rfl rfl YtjdaglmkljbfkaaGreatDoorF.sz_84) (fun w h => h.1)) ?_
  refine TL_e0 rfl rfl (rfl) (ET_insert rfl rfl rfl rfl Tryz.underlying85 Tryz.underlying3 rfl rfl) ?_
  rintro _ _ ⟨rfl, rfl⟩
  refine TL_q rfl rfl (QT_under (QT_loadW (cs := rowA.cells.toList) 1 rfl rfl Tryz.underlying84 rfl rfl rfl YtjdaglmkljbfkaaGreatDoorF.sz_84) (fun w h => h.1)) ?_
  refine TL_e0 rfl rfl (rfl) (ET_insert rfl rfl rfl rfl Tryz.underlying85 Tryz.underlying3 rfl rfl) ?_
  rintro _ _ ⟨rfl, rfl⟩
  refine TL_q rfl rfl (QT_under (QT_loadW (cs := rowB.cells.toList) 0 rfl rfl Tryz.underlying84 rfl rfl rfl YtjdaglmkljbfkaaGreatDoorF.sz_84) (fun w h => h.1)) ?_
  refine TL_e0 rfl rfl (rfl) (ET_insert rfl rfl rfl rfl Tryz.underlying85 Tryz.underlying3 rfl rfl) ?_
  rintro _ _ ⟨rfl, rfl⟩
  refine TL_q rfl rfl (QT_under (QT_loadW (cs := rowB.cells.toList) 0 rfl rfl Tryz.underlying84 rfl rfl rfl YtjdaglmkljbfkaaGreatDoorF.sz_84) (fun w h => h.1)) ?_
  refine TL_e0 rfl rfl (rfl) (ET_insert rfl rfl rfl rfl Tryz.underlying85 Tryz.underlying3 rfl rfl) ?_
  rintro _ _ ⟨rfl, rfl⟩
  refine TL_q rfl rfl (QT_move rfl rfl rfl) ?_
  refine TL_q rfl rfl (QT_assign rfl rfl rfl) ?_
  refine TL_nil ?_
  refine TX_then ?_
  refine TC_ret ?_
  exact TX_ret (.inl rfl) (res1 rfl rfl) ⟨_, ⟨m5, rfl, rfl⟩, fun w h => ⟨h.1.tail.tail, h.2.1, h.2.2⟩⟩
end Go.Proofs.YtjdaglmkljbfkaaGreatDoor
namespace Go.Proofs.YtjdaglmkljbfkaaGreatDoor
open Go Go.Gx Go.RowKit
set_option maxRecDepth 100000
theorem noSheets_spec (w0 : Base) (η : Heap) (ra sa : Option Addr) (nr ns rc sc : Nat) :
    CallsT Tryz.prog 91 [.agg #[.slice ra nr rc, .slice sa ns sc]] (St w0 η) fun v A' => v = .bool (decide ((ns : Int) = 0)) ∧ A' = St w0 η := by
  refine CallsT.body Tryz.func91 rfl rfl ?_
  simp only [Tryz.ntmps91, slotsOf, Nat.reduceAdd]
  refine TC_seq ?_
  refine TC_reg ?_
  refine TL_e rfl rfl rfl (rfl) (ET_box rfl rfl) ?_
  rintro _ _ ⟨b1, rfl, rfl⟩
  refine TL_q rfl rfl (QT_assign rfl rfl rfl) ?_
  refine TL_nil ?_
  refine TX_then ?_
  refine TC_seq ?_
  refine TC_reg ?_
  refine TL_q rfl rfl (QT_field rfl rfl YtjdaglmkljbfkaaGreatDoorF.fld_34_1 rfl) ?_
  refine TL_q rfl rfl (QT_load (v := .slice sa ns sc) 0 rfl rfl Tryz.underlying32 rfl rfl rfl (fun _ => rfl)) ?_
  refine TL_q rfl rfl (QT_len rfl rfl Tryz.underlying32 rfl) ?_
  refine TL_q rfl rfl (QT_eql rfl rfl rfl rfl) ?_
  refine TL_q rfl rfl (QT_assign rfl rfl rfl) ?_
  refine TL_nil ?_
  refine TX_then ?_
  refine TC_ret ?_
  exact TX_ret (.inl rfl) (res1 rfl rfl) ⟨_, ⟨rfl, rfl⟩, fun _ h => h.tail⟩
theorem noRecs_spec (w0 : Base) (η : Heap) (ra sa : Option Addr) (nr ns rc sc : Nat) :
    CallsT Tryz.prog 97 [.agg #[.slice ra nr rc, .slice sa ns sc]] (St w0 η) fun v A' => v = .bool (decide ((nr : Int) = 0)) ∧ A' = St w0 η := by
  refine CallsT.body Tryz.func97 rfl rfl ?_
  simp only [Tryz.ntmps97, slotsOf, Nat.reduceAdd]
  refine TC_seq ?_
  refine TC_reg ?_
  refine TL_e rfl rfl rfl (rfl) (ET_box rfl rfl) ?_
  rintro _ _ ⟨b1, rfl, rfl⟩
  refine TL_q rfl rfl (QT_assign rfl rfl rfl) ?_
  refine TL_nil ?_
  refine TX_then ?_
  refine TC_seq ?_
  refine TC_reg ?_
  refine TL_q rfl rfl (QT_field rfl rfl YtjdaglmkljbfkaaGreatDoorF.fld_34_0 rfl) ?_
  refine TL_q rfl rfl (QT_load (v := .slice ra nr rc) 0 rfl rfl Tryz.underlying31 rfl rfl rfl (fun _ => rfl)) ?_
  refine TL_q rfl rfl (QT_len rfl rfl Tryz.underlying31 rfl) ?_
  refine TL_q rfl rfl (QT_eql rfl rfl rfl rfl) ?_
  refine TL_q rfl rfl (QT_assign rfl rfl rfl) ?_
  refine TL_nil ?_
  refine TX_then ?_
  refine TC_ret ?_
  exact TX_ret (.inl rfl) (res1 rfl rfl) ⟨_, ⟨rfl, rfl⟩, fun _ h => h.tail⟩
theorem may_bad (w0 : Base) (η : Heap) (hG : Sets w0) (L : Lay) (hk : okB L = false) (ra sa : Option Addr) (nr ns rc sc : Nat) :
    CallsT Tryz.prog 78 [L.val, .agg #[.slice ra nr rc, .slice sa ns sc]] (St w0 η) fun v A' => v = .int .i64 4 ∧ A' = St w0 η := by
  have he : errOf L = 4 := by unfold errOf; rw [hk]; rfl
  refine CallsT.body Tryz.func78 rfl rfl ?_
  simp only [Tryz.ntmps78, slotsOf, Nat.reduceAdd]
  refine TC_seq ?_
  refine TC_reg ?_
  refine TL_e rfl rfl rfl (rfl) (ET_box rfl rfl) ?_
  rintro _ _ ⟨b2, rfl, rfl⟩
  refine TL_e rfl rfl rfl (rfl) (ET_box rfl rfl) ?_
  rintro _ _ ⟨b3, rfl, rfl⟩
  refine TL_q rfl rfl (QT_assign rfl rfl rfl) ?_
  refine TL_nil ?_
  refine TX_then ?_
  refine TC_seq ?_
  refine TC_block ?_
  refine TC_seq ?_
  refine TC_A (St w0 ((b3, 34, [.slice ra nr rc, .slice sa ns sc]) :: (b2, 27, L.cells) :: η)) (fun _ h => h) ?_
  refine TC_reg ?_
  refine TL_q rfl rfl (QT_loadW 1 rfl rfl Tryz.underlying27 rfl rfl rfl YtjdaglmkljbfkaaGreatDoorF.sz_27) ?_
  refine TL_cq rfl rfl rfl rfl YtjdaglmkljbfkaaGreatDoorF.cal_26 rfl (fun _ => check_spec w0 _ hG L) ?_
  refine TL_q rfl rfl (QT_neq rfl rfl rfl rfl) ?_
  refine TL_q rfl rfl (QT_assign rfl rfl rfl) ?_
  refine TL_nil ?_
  refine TX_then ?_
  refine TC_cond rfl (fun _ => ?_) (fun h => absurd (h.symm.trans ((show decide (errOf L ≠ 0) = true by rw [he]; decide))) (by decide))
  refine TC_seq ?_
  refine TC_reg ?_
  refine TL_q rfl rfl (QT_assign rfl rfl rfl) ?_
  refine TL_nil ?_
  refine TX_then ?_
  refine TC_ret ?_
  refine TX_block_ret ?_
  refine TX_then_ret ?_
  exact TX_ret (.inl rfl) (res1 rfl rfl) ⟨_, ⟨rfl, rfl⟩, fun _ h => h.tail.tail⟩
theorem ways_A {L : Lay} (h : (L.ty = 4 ∨ L.ty = 5)) : ∃ j, Instr.findNow (.int .i64) (.int .i64 L.ty) waysM 0 = some (some (j, rowA)) := by
  rcases h with h | h <;> rw [h] <;> exact ⟨_, rfl⟩
theorem may_A (w0 : Base) (η : Heap) (hG : Sets w0) (L : Lay) (hk : okB L = true) (hty : (L.ty = 4 ∨ L.ty = 5)) (ra sa : Option Addr) (nr ns rc sc : Nat) :
    CallsT Tryz.prog 78 [L.val, .agg #[.slice ra nr rc, .slice sa ns sc]] (St w0 η) fun v A' => v = .int .i64 (if ns = 0 then 0 else 1) ∧ A' = St w0 η := by
  have he : errOf L = 0 := by unfold errOf; rw [if_pos hk]
  obtain ⟨j, hj⟩ := ways_A hty
  refine CallsT.body Tryz.func78 rfl rfl ?_
  simp only [Tryz.ntmps78, slotsOf, Nat.reduceAdd]
  refine TC_seq ?_
  refine TC_reg ?_
  refine TL_e rfl rfl rfl (rfl) (ET_box rfl rfl) ?_
  rintro _ _ ⟨b2, rfl, rfl⟩
  refine TL_e rfl rfl rfl (rfl) (ET_box rfl rfl) ?_
  rintro _ _ ⟨b3, rfl, rfl⟩
  refine TL_q rfl rfl (QT_assign rfl rfl rfl) ?_
  refine TL_nil ?_
  refine TX_then ?_
  refine TC_seq ?_
  refine TC_block ?_
  refine TC_seq ?_
  refine TC_A (St w0 ((b3, 34, [.slice ra nr rc, .slice sa ns sc]) :: (b2, 27, L.cells) :: η)) (fun _ h => h) ?_
  refine TC_reg ?_
  refine TL_q rfl rfl (QT_loadW 1 rfl rfl Tryz.underlying27 rfl rfl rfl YtjdaglmkljbfkaaGreatDoorF.sz_27) ?_
  refine TL_cq rfl rfl rfl rfl YtjdaglmkljbfkaaGreatDoorF.cal_26 rfl (fun _ => check_spec w0 _ hG L) ?_
  refine TL_q rfl rfl (QT_neq rfl rfl rfl rfl) ?_
  refine TL_q rfl rfl (QT_assign rfl rfl rfl) ?_
  refine TL_nil ?_
  refine TX_then ?_
  refine TC_cond rfl (fun h => absurd (h.symm.trans ((show decide (errOf L ≠ 0) = false by rw [he]; decide))) (by decide)) (fun _ => ?_)
  refine TC_seq ?_
  refine TC_draw [(1, 0), (2, 0), (5, 0), (0, 1), (3, 0), (4, 0), (6, 1), (7, 0), (8, 0)] YtjdaglmkljbfkaaGreatDoorF.mixed (by kernel_rfl) (St.calm _ _) ?_
  refine TV_q rfl rfl rfl (fun _ => QT_field rfl rfl YtjdaglmkljbfkaaGreatDoorF.fld_27_0 rfl) ?_
  refine TV_ql rfl rfl rfl (QT_load (v := .int .i64 L.ty) 1 rfl rfl Tryz.underlying3 rfl rfl rfl (fun _ => rfl)) ?_
  refine TV_ql rfl rfl rfl (QT_loadW (cs := [.slice ra nr rc, .slice sa ns sc]) 0 rfl rfl Tryz.underlying34 rfl rfl rfl YtjdaglmkljbfkaaGreatDoorF.sz_34) ?_
  refine TV_e rfl rfl rfl rfl (rfl) (ET_call rfl YtjdaglmkljbfkaaGreatDoorF.cal_27 rfl (byType_spec w0 _)) ?_
  rintro _ _ ⟨m10, rfl, rfl⟩
  refine ⟨_, .keep (by kernel_rfl) rfl (by first | exact QT_loadW (cs := [.slice ra nr rc, .slice sa ns sc]) 0 rfl rfl Tryz.underlying34 rfl rfl rfl YtjdaglmkljbfkaaGreatDoorF.sz_34 | exact QT_under (QT_loadW (w0 := w0) (η := (b3, 34, [.slice ra nr rc, .slice sa ns sc]) :: (b2, 27, L.cells) :: η) (cs := [.slice ra nr rc, .slice sa ns sc]) 0 rfl rfl Tryz.underlying34 rfl rfl rfl YtjdaglmkljbfkaaGreatDoorF.sz_34) (fun w h => h.1)) (.keep (by kernel_rfl) rfl (by first | exact QT_load (v := .int .i64 L.ty) 1 rfl rfl Tryz.underlying3 rfl rfl rfl (fun _ => rfl) | exact QT_under (QT_load (w0 := w0) (η := (b3, 34, [.slice ra nr rc, .slice sa ns sc]) :: (b2, 27, L.cells) :: η) (v := .int .i64 L.ty) 1 rfl rfl Tryz.underlying3 rfl rfl rfl (fun _ => rfl)) (fun w h => h.1)) (.nil)), ?_⟩
  refine TV_ql rfl rfl rfl ((by exact QT_lookup rfl rfl rfl rfl Tryz.underlying85 Tryz.underlying3 (show MapKept.IsKey (.int .i64) (.int .i64 L.ty) from rfl) hj)) ?_
  refine TV_q rfl rfl rfl (fun _ => QT_fieldv rfl rfl Tryz.underlying84 rfl Tryz.underlying82 rfl rfl (fun _ => rfl)) ?_
  refine TV_e rfl rfl rfl rfl (rfl) (ET_goes (Goes.value rfl rfl YtjdaglmkljbfkaaGreatDoorF.cal_91 rfl) (callsT_map fun B => noSheets_spec B ((b3, 34, [.slice ra nr rc, .slice sa ns sc]) :: (b2, 27, L.cells) :: η) ra sa nr ns rc sc)) ?_
  rintro _ _ ⟨rfl, rfl⟩
  refine ⟨_, .keep (by kernel_rfl) rfl (by first | exact (by exact QT_lookup rfl rfl rfl rfl Tryz.underlying85 Tryz.underlying3 (show MapKept.IsKey (.int .i64) (.int .i64 L.ty) from rfl) hj)) (.drop (by kernel_rfl) (.keep (by kernel_rfl) rfl (by first | exact QT_load (v := .int .i64 L.ty) 1 rfl rfl Tryz.underlying3 rfl rfl rfl (fun _ => rfl) | exact QT_under (QT_load (w0 := w0) (η := (b3, 34, [.slice ra nr rc, .slice sa ns sc]) :: (b2, 27, L.cells) :: η) (v := .int .i64 L.ty) 1 rfl rfl Tryz.underlying3 rfl rfl rfl (fun _ => rfl)) (fun w h => h.1)) (.nil))), ?_⟩
  refine TV_q rfl rfl rfl (fun _ => QT_not rfl rfl rfl) ?_
  refine TV_q rfl rfl rfl (fun _ => QT_assign rfl rfl rfl) ?_
  refine TV_end ?_
  refine TX_then ?_
  refine TC_cond rfl (fun h9 => ?_) (fun h9 => ?_)
  ·
    refine TC_seq ?_
    refine TC_reg ?_
    refine TL_q rfl rfl (QT_assign rfl rfl rfl) ?_
    refine TL_nil ?_
    refine TX_then ?_
    refine TC_ret ?_
    refine TX_block_ret ?_
    refine TX_then_ret ?_
    exact TX_ret (.inl rfl) (res1 rfl rfl) ⟨_, ⟨by rw [if_neg (by simp at h9; omega)], rfl⟩, fun _ h => h.1.tail.tail⟩
  ·
    refine TC_skip ?_
    refine TX_block_normal ?_
    refine TX_then ?_
    refine TC_seq ?_
    refine TC_reg ?_
    refine TL_q rfl rfl (QT_assign rfl rfl rfl) ?_
    refine TL_nil ?_
    refine TX_then ?_
    refine TC_ret ?_
    exact TX_ret (.inl rfl) (res1 rfl rfl) ⟨_, ⟨by rw [if_pos (by simp at h9; omega)], rfl⟩, fun _ h => h.1.tail.tail⟩
theorem ways_B {L : Lay} (h : (L.ty = 6 ∨ L.ty = 7)) : ∃ j, Instr.findNow (.int .i64) (.int .i64 L.ty) waysM 0 = some (some (j, rowB)) := by
  rcases h with h | h <;> rw [h] <;> exact ⟨_, rfl⟩
theorem may_B (w0 : Base) (η : Heap) (hG : Sets w0) (L : Lay) (hk : okB L = true) (hty : (L.ty = 6 ∨ L.ty = 7)) (ra sa : Option Addr) (nr ns rc sc : Nat) :
    CallsT Tryz.prog 78 [L.val, .agg #[.slice ra nr rc, .slice sa ns sc]] (St w0 η) fun v A' => v = .int .i64 (if nr = 0 then 0 else 1) ∧ A' = St w0 η := by
  have he : errOf L = 0 := by unfold errOf; rw [if_pos hk]
  obtain ⟨j, hj⟩ := ways_B hty
  refine CallsT.body Tryz.func78 rfl rfl ?_
  simp only [Tryz.ntmps78, slotsOf, Nat.reduceAdd]
  refine TC_seq ?_
  refine TC_reg ?_
  refine TL_e rfl rfl rfl (rfl) (ET_box rfl rfl) ?_
  rintro _ _ ⟨b2, rfl, rfl⟩
  refine TL_e rfl rfl rfl (rfl) (ET_box rfl rfl) ?_
  rintro _ _ ⟨b3, rfl, rfl⟩
  refine TL_q rfl rfl (QT_assign rfl rfl rfl) ?_
  refine TL_nil ?_
  refine TX_then ?_
  refine TC_seq ?_
  refine TC_block ?_
  refine TC_seq ?_
  refine TC_A (St w0 ((b3, 34, [.slice ra nr rc, .slice sa ns sc]) :: (b2, 27, L.cells) :: η)) (fun _ h => h) ?_
  refine TC_reg ?_
  refine TL_q rfl rfl (QT_loadW 1 rfl rfl Tryz.underlying27 rfl rfl rfl YtjdaglmkljbfkaaGreatDoorF.sz_27) ?_
  refine TL_cq rfl rfl rfl rfl YtjdaglmkljbfkaaGreatDoorF.cal_26 rfl (fun _ => check_spec w0 _ hG L) ?_
  refine TL_q rfl rfl (QT_neq rfl rfl rfl rfl) ?_
  refine TL_q rfl rfl (QT_assign rfl rfl rfl) ?_
  refine TL_nil ?_
  refine TX_then ?_
  refine TC_cond rfl (fun h => absurd (h.symm.trans ((show decide (errOf L ≠ 0) = false by rw [he]; decide))) (by decide)) (fun _ => ?_)
  refine TC_seq ?_
  refine TC_draw [(1, 0), (2, 0), (5, 0), (0, 1), (3, 0), (4, 0), (6, 1), (7, 0), (8, 0)] YtjdaglmkljbfkaaGreatDoorF.mixed (by kernel_rfl) (St.calm _ _) ?_
  refine TV_q rfl rfl rfl (fun _ => QT_field rfl rfl YtjdaglmkljbfkaaGreatDoorF.fld_27_0 rfl) ?_
  refine TV_ql rfl rfl rfl (QT_load (v := .int .i64 L.ty) 1 rfl rfl Tryz.underlying3 rfl rfl rfl (fun _ => rfl)) ?_
  refine TV_ql rfl rfl rfl (QT_loadW (cs := [.slice ra nr rc, .slice sa ns sc]) 0 rfl rfl Tryz.underlying34 rfl rfl rfl YtjdaglmkljbfkaaGreatDoorF.sz_34) ?_
  refine TV_e rfl rfl rfl rfl (rfl) (ET_call rfl YtjdaglmkljbfkaaGreatDoorF.cal_27 rfl (byType_spec w0 _)) ?_
  rintro _ _ ⟨m10, rfl, rfl⟩
  refine ⟨_, .keep (by kernel_rfl) rfl (by first | exact QT_loadW (cs := [.slice ra nr rc, .slice sa ns sc]) 0 rfl rfl Tryz.underlying34 rfl rfl rfl YtjdaglmkljbfkaaGreatDoorF.sz_34 | exact QT_under (QT_loadW (w0 := w0) (η := (b3, 34, [.slice ra nr rc, .slice sa ns sc]) :: (b2, 27, L.cells) :: η) (cs := [.slice ra nr rc, .slice sa ns sc]) 0 rfl rfl Tryz.underlying34 rfl rfl rfl YtjdaglmkljbfkaaGreatDoorF.sz_34) (fun w h => h.1)) (.keep (by kernel_rfl) rfl (by first | exact QT_load (v := .int .i64 L.ty) 1 rfl rfl Tryz.underlying3 rfl rfl rfl (fun _ => rfl) | exact QT_under (QT_load (w0 := w0) (η := (b3, 34, [.slice ra nr rc, .slice sa ns sc]) :: (b2, 27, L.cells) :: η) (v := .int .i64 L.ty) 1 rfl rfl Tryz.underlying3 rfl rfl rfl (fun _ => rfl)) (fun w h => h.1)) (.nil)), ?_⟩
  refine TV_ql rfl rfl rfl ((by exact QT_lookup rfl rfl rfl rfl Tryz.underlying85 Tryz.underlying3 (show MapKept.IsKey (.int .i64) (.int .i64 L.ty) from rfl) hj)) ?_
  refine TV_q rfl rfl rfl (fun _ => QT_fieldv rfl rfl Tryz.underlying84 rfl Tryz.underlying82 rfl rfl (fun _ => rfl)) ?_
  refine TV_e rfl rfl rfl rfl (rfl) (ET_goes (Goes.value rfl rfl YtjdaglmkljbfkaaGreatDoorF.cal_97 rfl) (callsT_map fun B => noRecs_spec B ((b3, 34, [.slice ra nr rc, .slice sa ns sc]) :: (b2, 27, L.cells) :: η) ra sa nr ns rc sc)) ?_
  rintro _ _ ⟨rfl, rfl⟩
  refine ⟨_, .keep (by kernel_rfl) rfl (by first | exact (by exact QT_lookup rfl rfl rfl rfl Tryz.underlying85 Tryz.underlying3 (show MapKept.IsKey (.int .i64) (.int .i64 L.ty) from rfl) hj)) (.drop (by kernel_rfl) (.keep (by kernel_rfl) rfl (by first | exact QT_load (v := .int .i64 L.ty) 1 rfl rfl Tryz.underlying3 rfl rfl rfl (fun _ => rfl) | exact QT_under (QT_load (w0 := w0) (η := (b3, 34, [.slice ra nr rc, .slice sa ns sc]) :: (b2, 27, L.cells) :: η) (v := .int .i64 L.ty) 1 rfl rfl Tryz.underlying3 rfl rfl rfl (fun _ => rfl)) (fun w h => h.1)) (.nil))), ?_⟩
  refine TV_q rfl rfl rfl (fun _ => QT_not rfl rfl rfl) ?_
  refine TV_q rfl rfl rfl (fun _ => QT_assign rfl rfl rfl) ?_
  refine TV_end ?_
  refine TX_then ?_
  refine TC_cond rfl (fun h9 => ?_) (fun h9 => ?_)
  ·
    refine TC_seq ?_
    refine TC_reg ?_
    refine TL_q rfl rfl (QT_assign rfl rfl rfl) ?_
    refine TL_nil ?_
    refine TX_then ?_
    refine TC_ret ?_
    refine TX_block_ret ?_
    refine TX_then_ret ?_
    exact TX_ret (.inl rfl) (res1 rfl rfl) ⟨_, ⟨by rw [if_neg (by simp at h9; omega)], rfl⟩, fun _ h => h.1.tail.tail⟩
  ·
    refine TC_skip ?_
    refine TX_block_normal ?_
    refine TX_then ?_
    refine TC_seq ?_
    refine TC_reg ?_
    refine TL_q rfl rfl (QT_assign rfl rfl rfl) ?_
    refine TL_nil ?_
    refine TX_then ?_
    refine TC_ret ?_
    exact TX_ret (.inl rfl) (res1 rfl rfl) ⟨_, ⟨by rw [if_pos (by simp at h9; omega)], rfl⟩, fun _ h => h.1.tail.tail⟩
end Go.Proofs.YtjdaglmkljbfkaaGreatDoor
namespace Go.Proofs.YtjdaglmkljbfkaaGreatDoor
open Go Go.Gx Go.RowKit
set_option maxRecDepth 100000
def kindA : List Value := [.func (.func 129) #[] #[], .func (.func 130) #[] #[], .func (.func 81) #[] #[]]
theorem vertices_spec (w0 : Base) (η : Heap) : CallsT Tryz.prog 94 [] (St w0 η) fun v A' => v = .agg kindA.toArray ∧ A' = St w0 η := by
  refine CallsT.body Tryz.func94 rfl rfl ?_
  simp only [Tryz.ntmps94, slotsOf, Nat.reduceAdd]
  refine TC_seq ?_
  refine TC_reg ?_
  refine TL_e rfl rfl rfl (rfl) (ET_alloc rfl YtjdaglmkljbfkaaGreatDoorF.zero_166) ?_
  rintro _ _ ⟨b0, rfl, rfl⟩
  refine TL_nil ?_
  refine TX_then ?_
  refine TC_seq ?_
  refine TC_reg ?_
  refine TL_q rfl rfl (QT_build rfl rfl YtjdaglmkljbfkaaGreatDoorF.zero_166 YtjdaglmkljbfkaaGreatDoorF.pl_166 rfl rfl rfl) ?_
  refine TL_e0 rfl rfl (rfl) (ET_storeW 0 rfl rfl rfl YtjdaglmkljbfkaaGreatDoorF.sz_166 rfl rfl rfl) ?_
  rintro _ _ ⟨rfl, rfl⟩
  refine TL_nil ?_
  refine TX_then ?_
  refine TC_ret ?_
  exact TX_ret (.inl rfl) (resC 0 rfl rfl Tryz.underlying166 rfl rfl YtjdaglmkljbfkaaGreatDoorF.sz_166) ⟨_, ⟨rfl, rfl⟩, fun _ h => h.tail⟩
theorem all7R {rs : List (List Nat)} (h : ∀ r ∈ rs, RcF r) : All7 (rs.map rvV) := by
  intro r hr
  obtain ⟨x, hx, rfl⟩ := List.mem_map.1 hr
  exact rvV_ints (h x hx)
/-- the records of bytes, and the refusal -/
def dcE (L : Lay) (bs : List Nat) : Int := if errRG L bs = 0 then (trioF L ((outRG L bs).map rvV)).2 else errRG L bs
def dcO (L : Lay) (bs : List Nat) : List (List Nat) := if dcE L bs = 0 then outRG L bs else []
set_option maxHeartbeats 1000000 in
theorem decodeR_spec (w0 : Base) (η : Heap) (hG : Sets w0) (L : Lay) (sv : Value) (bs : List Nat) (hs : SlA (St w0 η) sv 1 bs.length (byV bs)) (hb : ∀ c ∈ bs, c < 256) :
    CallsT Tryz.prog 93 [.agg kindA.toArray, L.val, sv] (St w0 η) fun v A' => ∃ rv H, v = .tuple #[rv, .int .i64 (dcE L bs)] ∧ Frag 77 7 rv (dcO L bs).length (flatR (dcO L bs)) H ∧ A' = St w0 (H ++ η) := by
  refine CallsT.body Tryz.func93 rfl rfl ?_
  simp only [Tryz.ntmps93, slotsOf, Nat.reduceAdd]
  refine TC_seq ?_
  refine TC_reg ?_
  refine TL_e rfl rfl rfl (rfl) (ET_box rfl rfl) ?_
  rintro _ _ ⟨b3, rfl, rfl⟩
  refine TL_e rfl rfl rfl (rfl) (ET_box rfl rfl) ?_
  rintro _ _ ⟨b4, rfl, rfl⟩
  refine TL_q rfl rfl (QT_assign rfl rfl rfl) ?_
  refine TL_q rfl rfl (QT_assign rfl rfl rfl) ?_
  refine TL_nil ?_
  refine TX_then ?_
  refine TC_seq ?_
  refine TC_A (St w0 ((b4, 27, L.cells) :: (b3, 166, kindA) :: η)) (fun _ h => h) ?_
  refine TC_reg ?_
  refine TL_q rfl rfl (QT_field rfl rfl YtjdaglmkljbfkaaGreatDoorF.fld_166_0 rfl) ?_
  refine TL_q rfl rfl (QT_load (v := .func (.func 129) #[] #[]) 1 rfl rfl Tryz.underlying88 rfl rfl rfl (fun _ => rfl)) ?_
  refine TL_q rfl rfl (QT_loadW 0 rfl rfl Tryz.underlying27 rfl rfl rfl YtjdaglmkljbfkaaGreatDoorF.sz_27) ?_
  refine TL_q rfl rfl (QT_move rfl rfl rfl) ?_
  refine TL_e rfl rfl rfl (rfl) (ET_goes (Goes.value rfl rfl YtjdaglmkljbfkaaGreatDoorF.cal_129 rfl) (rget0_any w0 _ hG L _ bs (hs.mono fun _ h => h.tail.tail) hb)) ?_
  rintro _ _ ⟨rv, H1, rfl, hF1, rfl⟩
  refine TL_q rfl rfl (QT_move rfl rfl rfl) ?_
  refine TL_q rfl rfl (QT_extract rfl rfl rfl rfl) ?_
  refine TL_q rfl rfl (QT_extract rfl rfl rfl rfl) ?_
  refine TL_q rfl rfl (QT_assign rfl rfl rfl) ?_
  refine TL_q rfl rfl (QT_assign rfl rfl rfl) ?_
  refine TL_nil ?_
  refine TX_then ?_
  refine TC_seq ?_
  refine TC_seq ?_
  refine TC_reg ?_
  refine TL_q rfl rfl (QT_move rfl rfl rfl) ?_
  refine TL_q rfl rfl (QT_neq rfl rfl rfl rfl) ?_
  refine TL_nil ?_
  refine TX_then ?_
  refine TC_cond_dec rfl (fun h19 => ?_) (fun h19 => ?_)
  ·
    refine TC_seq ?_
    refine TC_reg ?_
    refine TL_q rfl rfl (QT_move rfl rfl rfl) ?_
    refine TL_q rfl rfl (QT_assign rfl rfl rfl) ?_
    refine TL_q rfl rfl (QT_assign rfl rfl rfl) ?_
    refine TL_nil ?_
    refine TX_then ?_
    refine TC_ret ?_
    refine TX_then_ret ?_
    have e : dcE L bs = errRG L bs := by unfold dcE; rw [if_neg h19]
    have eo : dcO L bs = [] := by unfold dcO; rw [e, if_neg h19]
    exact TX_ret (.inl rfl) (res2 rfl rfl rfl) ⟨_, ⟨_, [], by rw [e]; rfl, by rw [eo]; exact Frag.nil _ _, rfl⟩, fun w h => h.app_right.tail.tail⟩
  ·
    refine TC_skip ?_
    refine TX_then ?_
    refine TC_seq ?_
    refine TC_seq ?_
    have e0 := Classical.not_not.1 h19
    have hol := outRG_len L bs
    have hsh : ∀ r ∈ outRG L bs, RcF r := outRG_rcf
    have hl := (errRG_zero e0).2.1
    have e1 : dcE L bs = (trioF L ((outRG L bs).map rvV)).2 := by unfold dcE; rw [if_pos e0]
    have hF2 : Frag 77 7 rv ((outRG L bs).map rvV).length ((outRG L bs).map rvV).flatten H1 := by rw [List.length_map]; exact hF1
    refine TC_A (St w0 ((b4, 27, L.cells) :: (b3, 166, kindA) :: (H1 ++ η))) (fun w h => h.cnt fun p => by simp only [List.countP_append, List.countP_cons, List.countP_nil]; omega) ?_
    refine TC_reg ?_
    refine TL_q rfl rfl (QT_field rfl rfl YtjdaglmkljbfkaaGreatDoorF.fld_166_2 rfl) ?_
    refine TL_q rfl rfl (QT_load (v := .func (.func 81) #[] #[]) 1 rfl rfl Tryz.underlying156 rfl rfl rfl (fun _ => rfl)) ?_
    refine TL_q rfl rfl (QT_loadW 0 rfl rfl Tryz.underlying27 rfl rfl rfl YtjdaglmkljbfkaaGreatDoorF.sz_27) ?_
    refine TL_q rfl rfl (QT_move rfl rfl rfl) ?_
    refine TL_e rfl rfl rfl (rfl) (ET_goes (Goes.value rfl rfl YtjdaglmkljbfkaaGreatDoorF.cal_81 rfl) (of_spec w0 _ hG L _ ((outRG L bs).map rvV) (hF2.within fun p => by simp only [List.countP_append, List.countP_cons]; omega) (all7R hsh) (by rw [List.length_map]; omega))) ?_
    rintro _ _ ⟨pv, H2, rfl, hF3, X, rfl⟩
    refine TL_q rfl rfl (QT_move rfl rfl rfl) ?_
    refine TL_q rfl rfl (QT_extract rfl rfl rfl rfl) ?_
    refine TL_q rfl rfl (QT_extract rfl rfl rfl rfl) ?_
    refine TL_q rfl rfl (QT_assign rfl rfl rfl) ?_
    refine TL_nil ?_
    refine TX_then ?_
    refine TC_seq ?_
    refine TC_reg ?_
    refine TL_q rfl rfl (QT_move rfl rfl rfl) ?_
    refine TL_q rfl rfl (QT_neq rfl rfl rfl rfl) ?_
    refine TL_nil ?_
    refine TX_then ?_
    refine TC_cond_dec rfl (fun h30 => ?_) (fun h30 => ?_)
    ·
      refine TC_seq ?_
      refine TC_reg ?_
      refine TL_q rfl rfl (QT_move rfl rfl rfl) ?_
      refine TL_q rfl rfl (QT_assign rfl rfl rfl) ?_
      refine TL_q rfl rfl (QT_assign rfl rfl rfl) ?_
      refine TL_nil ?_
      refine TX_then ?_
      refine TC_ret ?_
      refine TX_then_ret ?_
      have eo : dcO L bs = [] := by unfold dcO; rw [e1, if_neg h30]
      exact TX_ret (.inl rfl) (res2 rfl rfl rfl) ⟨_, ⟨_, [], by rw [e1]; rfl, by rw [eo]; exact Frag.nil _ _, rfl⟩, fun w h => h.cnt fun p => by simp only [List.countP_append, List.countP_cons, List.countP_nil]; omega⟩
    ·
      refine TC_skip ?_
      refine TX_then ?_
      refine TC_seq ?_
      refine TC_reg ?_
      refine TL_q rfl rfl (QT_move rfl rfl rfl) ?_
      refine TL_q rfl rfl (QT_assign rfl rfl rfl) ?_
      refine TL_q rfl rfl (QT_assign rfl rfl rfl) ?_
      refine TL_nil ?_
      refine TX_then ?_
      refine TC_ret ?_
      have e2 := Classical.not_not.1 h30
      have eo : dcO L bs = outRG L bs := by unfold dcO; rw [e1, if_pos e2]
      exact TX_ret (.inl rfl) (res2 rfl rfl rfl) ⟨_, ⟨rv, H1, by rw [e1, e2]; rfl, by rw [eo]; exact hF1, rfl⟩, fun w h => h.cnt fun p => by simp only [List.countP_append, List.countP_cons, List.countP_nil]; omega⟩
end Go.Proofs.YtjdaglmkljbfkaaGreatDoor
namespace Go.Proofs.YtjdaglmkljbfkaaGreatDoor
open Go Go.Gx Go.RowKit
set_option maxRecDepth 100000
def kindB : List Value := [.func (.func 131) #[] #[], .func (.func 132) #[] #[], .func (.func 82) #[] #[]]
theorem patches_spec (w0 : Base) (η : Heap) : CallsT Tryz.prog 100 [] (St w0 η) fun v A' => v = .agg kindB.toArray ∧ A' = St w0 η := by
  refine CallsT.body Tryz.func100 rfl rfl ?_
  simp only [Tryz.ntmps100, slotsOf, Nat.reduceAdd]
  refine TC_seq ?_
  refine TC_reg ?_
  refine TL_e rfl rfl rfl (rfl) (ET_alloc rfl YtjdaglmkljbfkaaGreatDoorF.zero_171) ?_
  rintro _ _ ⟨b0, rfl, rfl⟩
  refine TL_nil ?_
  refine TX_then ?_
  refine TC_seq ?_
  refine TC_reg ?_
  refine TL_q rfl rfl (QT_build rfl rfl YtjdaglmkljbfkaaGreatDoorF.zero_171 YtjdaglmkljbfkaaGreatDoorF.pl_171 rfl rfl rfl) ?_
  refine TL_e0 rfl rfl (rfl) (ET_storeW 0 rfl rfl rfl YtjdaglmkljbfkaaGreatDoorF.sz_171 rfl rfl rfl) ?_
  rintro _ _ ⟨rfl, rfl⟩
  refine TL_nil ?_
  refine TX_then ?_
  refine TC_ret ?_
  exact TX_ret (.inl rfl) (resC 0 rfl rfl Tryz.underlying171 rfl rfl YtjdaglmkljbfkaaGreatDoorF.sz_171) ⟨_, ⟨rfl, rfl⟩, fun _ h => h.tail⟩
/-- the records of bytes, and the refusal -/
def dsE (L : Lay) (bs : List Nat) : Int := if errG L bs = 0 then T12.errT L (outG L bs).length (flatS (outG L bs)) else errG L bs
def dsO (L : Lay) (bs : List Nat) : List (List Nat) := if dsE L bs = 0 then outG L bs else []
set_option maxHeartbeats 1000000 in
theorem decodeS_spec (w0 : Base) (η : Heap) (hG : Sets w0) (hE : T12.Edges w0) (L : Lay) (sv : Value) (bs : List Nat) (hs : SlA (St w0 η) sv 1 bs.length (byV bs)) (hb : ∀ c ∈ bs, c < 256) (hl0 : bs.length ≤ 140737488355328) :
    CallsT Tryz.prog 99 [.agg kindB.toArray, L.val, sv] (St w0 η) fun v A' => ∃ rv H, v = .tuple #[rv, .int .i64 (dsE L bs)] ∧ Frag 102 49 rv (dsO L bs).length (flatS (dsO L bs)) H ∧ A' = St w0 (H ++ η) := by
  refine CallsT.body Tryz.func99 rfl rfl ?_
  simp only [Tryz.ntmps99, slotsOf, Nat.reduceAdd]
  refine TC_seq ?_
  refine TC_reg ?_
  refine TL_e rfl rfl rfl (rfl) (ET_box rfl rfl) ?_
  rintro _ _ ⟨b3, rfl, rfl⟩
  refine TL_e rfl rfl rfl (rfl) (ET_box rfl rfl) ?_
  rintro _ _ ⟨b4, rfl, rfl⟩
  refine TL_q rfl rfl (QT_assign rfl rfl rfl) ?_
  refine TL_q rfl rfl (QT_assign rfl rfl rfl) ?_
  refine TL_nil ?_
  refine TX_then ?_
  refine TC_seq ?_
  refine TC_A (St w0 ((b4, 27, L.cells) :: (b3, 171, kindB) :: η)) (fun _ h => h) ?_
  refine TC_reg ?_
  refine TL_q rfl rfl (QT_field rfl rfl YtjdaglmkljbfkaaGreatDoorF.fld_171_0 rfl) ?_
  refine TL_q rfl rfl (QT_load (v := .func (.func 131) #[] #[]) 1 rfl rfl Tryz.underlying90 rfl rfl rfl (fun _ => rfl)) ?_
  refine TL_q rfl rfl (QT_loadW 0 rfl rfl Tryz.underlying27 rfl rfl rfl YtjdaglmkljbfkaaGreatDoorF.sz_27) ?_
  refine TL_q rfl rfl (QT_move rfl rfl rfl) ?_
  refine TL_e rfl rfl rfl (rfl) (ET_goes (Goes.value rfl rfl YtjdaglmkljbfkaaGreatDoorF.cal_131 rfl) (sget_spec w0 _ hG L _ bs (hs.mono fun _ h => h.tail.tail) hb hl0)) ?_
  rintro _ _ ⟨rv, H1, rfl, hF1, rfl⟩
  refine TL_q rfl rfl (QT_move rfl rfl rfl) ?_
  refine TL_q rfl rfl (QT_extract rfl rfl rfl rfl) ?_
  refine TL_q rfl rfl (QT_extract rfl rfl rfl rfl) ?_
  refine TL_q rfl rfl (QT_assign rfl rfl rfl) ?_
  refine TL_q rfl rfl (QT_assign rfl rfl rfl) ?_
  refine TL_nil ?_
  refine TX_then ?_
  refine TC_seq ?_
  refine TC_seq ?_
  refine TC_reg ?_
  refine TL_q rfl rfl (QT_move rfl rfl rfl) ?_
  refine TL_q rfl rfl (QT_neq rfl rfl rfl rfl) ?_
  refine TL_nil ?_
  refine TX_then ?_
  refine TC_cond_dec rfl (fun h19 => ?_) (fun h19 => ?_)
  ·
    refine TC_seq ?_
    refine TC_reg ?_
    refine TL_q rfl rfl (QT_move rfl rfl rfl) ?_
    refine TL_q rfl rfl (QT_assign rfl rfl rfl) ?_
    refine TL_q rfl rfl (QT_assign rfl rfl rfl) ?_
    refine TL_nil ?_
    refine TX_then ?_
    refine TC_ret ?_
    refine TX_then_ret ?_
    have e : dsE L bs = errG L bs := by unfold dsE; rw [if_neg h19]
    have eo : dsO L bs = [] := by unfold dsO; rw [e, if_neg h19]
    exact TX_ret (.inl rfl) (res2 rfl rfl rfl) ⟨_, ⟨_, [], by rw [e]; rfl, by rw [eo]; exact Frag.nil _ _, rfl⟩, fun w h => h.app_right.tail.tail⟩
  ·
    refine TC_skip ?_
    refine TX_then ?_
    refine TC_seq ?_
    refine TC_seq ?_
    have e0 := Classical.not_not.1 h19
    have hol := outG_len L bs
    have hsh : ∀ r ∈ outG L bs, ShF r := outG_shf
    have hl := (errG_zero e0).2.1
    have e1 : dsE L bs = T12.errT L (outG L bs).length (flatS (outG L bs)) := by unfold dsE; rw [if_pos e0]
    refine TC_A (St w0 ((b4, 27, L.cells) :: (b3, 171, kindB) :: (H1 ++ η))) (fun w h => h.cnt fun p => by simp only [List.countP_append, List.countP_cons, List.countP_nil]; omega) ?_
    refine TC_reg ?_
    refine TL_q rfl rfl (QT_field rfl rfl YtjdaglmkljbfkaaGreatDoorF.fld_171_2 rfl) ?_
    refine TL_q rfl rfl (QT_load (v := .func (.func 82) #[] #[]) 1 rfl rfl Tryz.underlying158 rfl rfl rfl (fun _ => rfl)) ?_
    refine TL_q rfl rfl (QT_loadW 0 rfl rfl Tryz.underlying27 rfl rfl rfl YtjdaglmkljbfkaaGreatDoorF.sz_27) ?_
    refine TL_q rfl rfl (QT_move rfl rfl rfl) ?_
    refine TL_e rfl rfl rfl (rfl) (ET_goes (Goes.value rfl rfl YtjdaglmkljbfkaaGreatDoorF.cal_82 rfl) (T12.of_spec w0 _ hG hE L _ _ (flatS (outG L bs)) (hF1.within fun p => by simp only [List.countP_append, List.countP_cons]; omega) (flatS_ints hsh) (by omega))) ?_
    rintro _ _ ⟨pv, H2, rfl, hF3, rfl⟩
    refine TL_q rfl rfl (QT_move rfl rfl rfl) ?_
    refine TL_q rfl rfl (QT_extract rfl rfl rfl rfl) ?_
    refine TL_q rfl rfl (QT_extract rfl rfl rfl rfl) ?_
    refine TL_q rfl rfl (QT_assign rfl rfl rfl) ?_
    refine TL_nil ?_
    refine TX_then ?_
    refine TC_seq ?_
    refine TC_reg ?_
    refine TL_q rfl rfl (QT_move rfl rfl rfl) ?_
    refine TL_q rfl rfl (QT_neq rfl rfl rfl rfl) ?_
    refine TL_nil ?_
    refine TX_then ?_
    refine TC_cond_dec rfl (fun h30 => ?_) (fun h30 => ?_)
    ·
      refine TC_seq ?_
      refine TC_reg ?_
      refine TL_q rfl rfl (QT_move rfl rfl rfl) ?_
      refine TL_q rfl rfl (QT_assign rfl rfl rfl) ?_
      refine TL_q rfl rfl (QT_assign rfl rfl rfl) ?_
      refine TL_nil ?_
      refine TX_then ?_
      refine TC_ret ?_
      refine TX_then_ret ?_
      have eo : dsO L bs = [] := by unfold dsO; rw [e1, if_neg h30]
      exact TX_ret (.inl rfl) (res2 rfl rfl rfl) ⟨_, ⟨_, [], by rw [e1]; rfl, by rw [eo]; exact Frag.nil _ _, rfl⟩, fun w h => h.cnt fun p => by simp only [List.countP_append, List.countP_cons, List.countP_nil]; omega⟩
    ·
      refine TC_skip ?_
      refine TX_then ?_
      refine TC_seq ?_
      refine TC_reg ?_
      refine TL_q rfl rfl (QT_move rfl rfl rfl) ?_
      refine TL_q rfl rfl (QT_assign rfl rfl rfl) ?_
      refine TL_q rfl rfl (QT_assign rfl rfl rfl) ?_
      refine TL_nil ?_
      refine TX_then ?_
      refine TC_ret ?_
      have e2 := Classical.not_not.1 h30
      have eo : dsO L bs = outG L bs := by unfold dsO; rw [e1, if_pos e2]
      exact TX_ret (.inl rfl) (res2 rfl rfl rfl) ⟨_, ⟨rv, H1, by rw [e1, e2]; rfl, by rw [eo]; exact hF1, rfl⟩, fun w h => h.cnt fun p => by simp only [List.countP_append, List.countP_cons, List.countP_nil]; omega⟩
end Go.Proofs.YtjdaglmkljbfkaaGreatDoor
namespace Go.Proofs.YtjdaglmkljbfkaaGreatDoor
open Go Go.Gx Go.RowKit
set_option maxRecDepth 100000
end Go.Proofs.YtjdaglmkljbfkaaGreatDoor
namespace Go.Proofs.YtjdaglmkljbfkaaGreatDoor
open Go Go.Gx Go.RowKit
set_option maxRecDepth 100000
end Go.Proofs.YtjdaglmkljbfkaaGreatDoor
namespace Go.Gx
open Go Go.RowKit
/-- two results: one that lies in memory, one that does not -/
theorem resCT {P : Program} {n : Nat} {σ : Slots} {t : TypeId} {w0 : Base} {η : Heap} {fn : Func} {r u b T : Nat} {cs : List Value} {d : TypeDesc} {x : Value} (i : Nat) (hr : fn.results = #[.cell r t, .tmp u]) (hp : look σ r = some (true, .pointer (some ⟨b, 0, none⟩))) (hx : look σ u = some (true, x)) (hu : P.underlying t = some d) (hd : isAggD d = true)
    (hi : nth η i = some (b, T, cs)) (hm : Sz P t cs.length) : ∀ a w, Fr n σ a → St w0 η w → (results fn a.tmps).run P w = .ok (.tuple #[.agg cs.toArray, x]) w := by
  intro a w hf hA
  have hk := hf.known r true _ hp
  have hk2 := hf.known u true _ hx
  simp only [cond_true] at hk hk2
  have h1 := hA.loadCells (P := P) (off := 0) (m := cs.length) hi (by omega)
  simp only [List.drop_zero, List.take_length] at h1
  have hk' : a.tmps[r]?.getD undef = .pointer (some ⟨b, 0, none⟩) := by simpa using hk
  have hk2' : a.tmps[u]?.getD undef = x := by simpa using hk2
  simp [results, hr, hk', hk2', asAddr, loadVar, run_isAgg hu, hd, run_sizeOf hm, h1]
theorem ET_under {P : Program} {n : Nat} {o : Oper} {σ : Slots} {A A' : World → Prop} {R : Value → (World → Prop) → Prop} (h : ET P n o σ A' R) (hs : ∀ w, A w → A' w) : ET P n o σ A R := fun a w hf hA => h a w hf (hs w hA)
end Go.Gx
namespace Go.Proofs.YtjdaglmkljbfkaaGreatDoor
open Go Go.Gx Go.RowKit
set_option maxRecDepth 100000
theorem decA_spec (w0 : Base) (η : Heap) (hG : Sets w0) (L : Lay) (sv : Value) (bs : List Nat) (hs : SlA (St w0 η) sv 1 bs.length (byV bs)) (hb : ∀ c ∈ bs, c < 256) :
    CallsT Tryz.prog 92 [L.val, sv] (St w0 η) fun v A' => ∃ rv H, v = .tuple #[.agg #[rv, nilS], .int .i64 (dcE L bs)] ∧ Frag 77 7 rv (dcO L bs).length (flatR (dcO L bs)) H ∧ A' = St w0 (H ++ η) := by
  refine CallsT.body Tryz.func92 rfl rfl ?_
  simp only [Tryz.ntmps92, slotsOf, Nat.reduceAdd]
  refine TC_seq ?_
  refine TC_reg ?_
  refine TL_e rfl rfl rfl (rfl) (ET_box rfl rfl) ?_
  rintro _ _ ⟨b2, rfl, rfl⟩
  refine TL_e rfl rfl rfl (rfl) (ET_alloc rfl YtjdaglmkljbfkaaGreatDoorF.zero_34) ?_
  rintro _ _ ⟨b4, rfl, rfl⟩
  refine TL_q rfl rfl (QT_assign rfl rfl rfl) ?_
  refine TL_nil ?_
  refine TX_then ?_
  refine TC_seq ?_
  refine TC_A (St w0 ((b4, 34, [nilS, nilS]) :: (b2, 27, L.cells) :: η)) (fun _ h => h) ?_
  refine TC_draw [(1, 0), (2, 0), (0, 1), (3, 1), (4, 0), (5, 0), (6, 0), (7, 0), (8, 1), (9, 0)] YtjdaglmkljbfkaaGreatDoorF.mixed (by kernel_rfl) (St.calm _ _) ?_
  refine TV_ql rfl rfl rfl (QT_loadW 1 rfl rfl Tryz.underlying27 rfl rfl rfl YtjdaglmkljbfkaaGreatDoorF.sz_27) ?_
  refine TV_q rfl rfl rfl (fun _ => QT_move rfl rfl rfl) ?_
  refine TV_cq rfl rfl rfl rfl rfl YtjdaglmkljbfkaaGreatDoorF.cal_94 rfl (fun _ => vertices_spec w0 _) (.keep (by kernel_rfl) rfl (by first | exact QT_loadW 0 rfl rfl Tryz.underlying27 rfl rfl rfl YtjdaglmkljbfkaaGreatDoorF.sz_27 | exact QT_loadW 1 rfl rfl Tryz.underlying27 rfl rfl rfl YtjdaglmkljbfkaaGreatDoorF.sz_27 | exact QT_loadW 2 rfl rfl Tryz.underlying27 rfl rfl rfl YtjdaglmkljbfkaaGreatDoorF.sz_27 | exact QT_loadA 0 rfl rfl Tryz.underlying27 rfl rfl rfl YtjdaglmkljbfkaaGreatDoorF.sz_27 (fun _ => rfl) | exact QT_loadA 1 rfl rfl Tryz.underlying27 rfl rfl rfl YtjdaglmkljbfkaaGreatDoorF.sz_27 (fun _ => rfl) | exact QT_loadA 2 rfl rfl Tryz.underlying27 rfl rfl rfl YtjdaglmkljbfkaaGreatDoorF.sz_27 (fun _ => rfl)) (.nil)) ?_
  refine TV_e rfl rfl rfl rfl (rfl) (ET_call rfl YtjdaglmkljbfkaaGreatDoorF.cal_93 rfl (decodeR_spec w0 _ hG L _ bs (hs.mono fun _ h => h.tail.tail) hb)) ?_
  rintro _ _ ⟨rv, H1, rfl, hF1, rfl⟩
  refine ⟨_, .drop (by kernel_rfl) (.nil), ?_⟩
  refine TV_q rfl rfl rfl (fun _ => QT_move rfl rfl rfl) ?_
  refine TV_q rfl rfl rfl (fun _ => QT_extract rfl rfl rfl rfl) ?_
  refine TV_q rfl rfl rfl (fun _ => QT_extract rfl rfl rfl rfl) ?_
  refine TV_q rfl rfl rfl (fun _ => QT_field rfl rfl YtjdaglmkljbfkaaGreatDoorF.fld_34_0 rfl) ?_
  obtain ⟨rad, rcap, rfl, _, _⟩ := hF1.slice
  refine TV_e0 rfl rfl rfl (rfl) (ET_under (ET_store (w0 := w0) (η := (b4, 34, [nilS, nilS]) :: (H1 ++ ((b2, 27, L.cells) :: η))) (vs := [.slice rad (dcO L bs).length rcap]) 0 rfl rfl rfl rfl YtjdaglmkljbfkaaGreatDoorF.sz_31 rfl rfl rfl) (fun w h => h.cnt fun p => by simp only [List.countP_append, List.countP_cons, List.countP_nil]; omega)) ?_
  rintro _ _ ⟨rfl, rfl⟩
  refine ⟨_, .nil, ?_⟩
  refine TV_q rfl rfl rfl (fun _ => QT_assign rfl rfl rfl) ?_
  refine TV_end ?_
  refine TX_then ?_
  refine TC_seq ?_
  refine TC_A (St w0 ((b4, 34, [.slice rad (dcO L bs).length rcap, nilS]) :: (H1 ++ ((b2, 27, L.cells) :: η)))) (fun _ h => h) ?_
  refine TC_reg ?_
  refine TL_q rfl rfl (QT_loadW 0 rfl rfl Tryz.underlying34 rfl rfl rfl YtjdaglmkljbfkaaGreatDoorF.sz_34) ?_
  refine TL_q rfl rfl (QT_move rfl rfl rfl) ?_
  refine TL_e0 rfl rfl (rfl) (ET_storeW 0 rfl rfl rfl YtjdaglmkljbfkaaGreatDoorF.sz_34 rfl rfl rfl) ?_
  rintro _ _ ⟨rfl, rfl⟩
  refine TL_q rfl rfl (QT_assign rfl rfl rfl) ?_
  refine TL_nil ?_
  refine TX_then ?_
  refine TC_ret ?_
  exact TX_ret (.inl rfl) (resCT 0 rfl rfl rfl Tryz.underlying34 rfl rfl YtjdaglmkljbfkaaGreatDoorF.sz_34) ⟨_, ⟨_, H1, rfl, hF1, rfl⟩, fun w h => h.cnt fun p => by simp only [upd, List.countP_append, List.countP_cons, List.countP_nil]; omega⟩
end Go.Proofs.YtjdaglmkljbfkaaGreatDoor
namespace Go.Proofs.YtjdaglmkljbfkaaGreatDoor
open Go Go.Gx Go.RowKit
set_option maxRecDepth 100000
theorem decB_spec (w0 : Base) (η : Heap) (hG : Sets w0) (hE : T12.Edges w0) (L : Lay) (sv : Value) (bs : List Nat) (hs : SlA (St w0 η) sv 1 bs.length (byV bs)) (hb : ∀ c ∈ bs, c < 256) (hl0 : bs.length ≤ 140737488355328) :
    CallsT Tryz.prog 98 [L.val, sv] (St w0 η) fun v A' => ∃ rv H, v = .tuple #[.agg #[nilS, rv], .int .i64 (dsE L bs)] ∧ Frag 102 49 rv (dsO L bs).length (flatS (dsO L bs)) H ∧ A' = St w0 (H ++ η) := by
  refine CallsT.body Tryz.func98 rfl rfl ?_
  simp only [Tryz.ntmps98, slotsOf, Nat.reduceAdd]
  refine TC_seq ?_
  refine TC_reg ?_
  refine TL_e rfl rfl rfl (rfl) (ET_box rfl rfl) ?_
  rintro _ _ ⟨b2, rfl, rfl⟩
  refine TL_e rfl rfl rfl (rfl) (ET_alloc rfl YtjdaglmkljbfkaaGreatDoorF.zero_34) ?_
  rintro _ _ ⟨b4, rfl, rfl⟩
  refine TL_q rfl rfl (QT_assign rfl rfl rfl) ?_
  refine TL_nil ?_
  refine TX_then ?_
  refine TC_seq ?_
  refine TC_A (St w0 ((b4, 34, [nilS, nilS]) :: (b2, 27, L.cells) :: η)) (fun _ h => h) ?_
  refine TC_draw [(1, 0), (2, 0), (0, 1), (3, 1), (4, 0), (5, 0), (6, 0), (7, 0), (8, 1), (9, 0)] YtjdaglmkljbfkaaGreatDoorF.mixed (by kernel_rfl) (St.calm _ _) ?_
  refine TV_ql rfl rfl rfl (QT_loadW 1 rfl rfl Tryz.underlying27 rfl rfl rfl YtjdaglmkljbfkaaGreatDoorF.sz_27) ?_
  refine TV_q rfl rfl rfl (fun _ => QT_move rfl rfl rfl) ?_
  refine TV_cq rfl rfl rfl rfl rfl YtjdaglmkljbfkaaGreatDoorF.cal_100 rfl (fun _ => patches_spec w0 _) (.keep (by kernel_rfl) rfl (by first | exact QT_loadW 0 rfl rfl Tryz.underlying27 rfl rfl rfl YtjdaglmkljbfkaaGreatDoorF.sz_27 | exact QT_loadW 1 rfl rfl Tryz.underlying27 rfl rfl rfl YtjdaglmkljbfkaaGreatDoorF.sz_27 | exact QT_loadW 2 rfl rfl Tryz.underlying27 rfl rfl rfl YtjdaglmkljbfkaaGreatDoorF.sz_27 | exact QT_loadA 0 rfl rfl Tryz.underlying27 rfl rfl rfl YtjdaglmkljbfkaaGreatDoorF.sz_27 (fun _ => rfl) | exact QT_loadA 1 rfl rfl Tryz.underlying27 rfl rfl rfl YtjdaglmkljbfkaaGreatDoorF.sz_27 (fun _ => rfl) | exact QT_loadA 2 rfl rfl Tryz.underlying27 rfl rfl rfl YtjdaglmkljbfkaaGreatDoorF.sz_27 (fun _ => rfl)) (.nil)) ?_
  refine TV_e rfl rfl rfl rfl (rfl) (ET_call rfl YtjdaglmkljbfkaaGreatDoorF.cal_99 rfl (decodeS_spec w0 _ hG hE L _ bs (hs.mono fun _ h => h.tail.tail) hb hl0)) ?_
  rintro _ _ ⟨rv, H1, rfl, hF1, rfl⟩
  refine ⟨_, .drop (by kernel_rfl) (.nil), ?_⟩
  refine TV_q rfl rfl rfl (fun _ => QT_move rfl rfl rfl) ?_
  refine TV_q rfl rfl rfl (fun _ => QT_extract rfl rfl rfl rfl) ?_
  refine TV_q rfl rfl rfl (fun _ => QT_extract rfl rfl rfl rfl) ?_
  refine TV_q rfl rfl rfl (fun _ => QT_field rfl rfl YtjdaglmkljbfkaaGreatDoorF.fld_34_1 rfl) ?_
  obtain ⟨rad, rcap, rfl, _, _⟩ := hF1.slice
  refine TV_e0 rfl rfl rfl (rfl) (ET_under (ET_store (w0 := w0) (η := (b4, 34, [nilS, nilS]) :: (H1 ++ ((b2, 27, L.cells) :: η))) (vs := [.slice rad (dsO L bs).length rcap]) 0 rfl rfl rfl rfl YtjdaglmkljbfkaaGreatDoorF.sz_32 rfl rfl rfl) (fun w h => h.cnt fun p => by simp only [List.countP_append, List.countP_cons, List.countP_nil]; omega)) ?_
  rintro _ _ ⟨rfl, rfl⟩
  refine ⟨_, .nil, ?_⟩
  refine TV_q rfl rfl rfl (fun _ => QT_assign rfl rfl rfl) ?_
  refine TV_end ?_
  refine TX_then ?_
  refine TC_seq ?_
  refine TC_A (St w0 ((b4, 34, [nilS, .slice rad (dsO L bs).length rcap]) :: (H1 ++ ((b2, 27, L.cells) :: η)))) (fun _ h => h) ?_
  refine TC_reg ?_
  refine TL_q rfl rfl (QT_loadW 0 rfl rfl Tryz.underlying34 rfl rfl rfl YtjdaglmkljbfkaaGreatDoorF.sz_34) ?_
  refine TL_q rfl rfl (QT_move rfl rfl rfl) ?_
  refine TL_e0 rfl rfl (rfl) (ET_storeW 0 rfl rfl rfl YtjdaglmkljbfkaaGreatDoorF.sz_34 rfl rfl rfl) ?_
  rintro _ _ ⟨rfl, rfl⟩
  refine TL_q rfl rfl (QT_assign rfl rfl rfl) ?_
  refine TL_nil ?_
  refine TX_then ?_
  refine TC_ret ?_
  exact TX_ret (.inl rfl) (resCT 0 rfl rfl rfl Tryz.underlying34 rfl rfl YtjdaglmkljbfkaaGreatDoorF.sz_34) ⟨_, ⟨_, H1, rfl, hF1, rfl⟩, fun w h => h.cnt fun p => by simp only [upd, List.countP_append, List.countP_cons, List.countP_nil]; omega⟩
end Go.Proofs.YtjdaglmkljbfkaaGreatDoor
namespace Go.Proofs.YtjdaglmkljbfkaaGreatDoor
open Go Go.Gx Go.RowKit
set_option maxRecDepth 100000
end Go.Proofs.YtjdaglmkljbfkaaGreatDoor
namespace Go.Gx
open Go Go.RowKit
/-- a call that gives memory of its own and keeps the rest, while a map stands beside -/
theorem callsT_mapH {P : Program} {f : FuncId} {vs : List Value} {w0 : Base} {η : Heap} {m clock : Nat} {es : List MapEntry} {R : Value → Heap → Prop}
    (h : ∀ B : Base, (∀ w, St B η w → St w0 η w) → (∀ p v, w0.cell? p = some v → B.cell? p = some v) → CallsT P f vs (St B η) fun v A' => ∃ H, R v H ∧ A' = St B (H ++ η)) :
    CallsT P f vs (StM w0 η m es clock) fun v A' => ∃ H, R v H ∧ A' = StM w0 (H ++ η) m es clock := by
  rintro w ⟨hS, hm, h0⟩
  obtain ⟨B, hB⟩ : ∃ B : Base, B = ⟨w, fun k => !(k == m) && (w0.hole k || decide (w0.w.heap.size ≤ k))⟩ := ⟨_, rfl⟩
  have hBw : B.w = w := by rw [hB]
  have hBh : ∀ k, B.hole k = (!(k == m) && (w0.hole k || decide (w0.w.heap.size ≤ k))) := fun k => by rw [hB]
  have hsz := hS.below.size
  have hs : St B η w := by
    refine ⟨⟨by rw [hBw], by rw [hBw], by rw [hBw], by rw [hBw]; exact Nat.le_refl _, fun k _ _ => by rw [hBw]⟩, hS.blk, fun x hx => .inr ?_, hS.nodup⟩
    have ho := hS.own x hx
    have hne : x.1 ≠ m := fun e => by
      have := hS.blk x hx
      rw [e, hm] at this
      exact absurd this (by simp)
    rw [hBh]
    simp only [Bool.and_eq_true, Bool.not_eq_true', beq_eq_false_iff_ne, Bool.or_eq_true, decide_eq_true_eq]
    exact ⟨hne, ho.symm⟩
  have back : ∀ (X : Heap) w', St B X w' → St w0 X w' := by
    intro X w' hS'
    refine ⟨⟨?_, ?_, ?_, ?_, ?_⟩, hS'.blk, fun x hx => ?_, hS'.nodup⟩
    · rw [hS'.below.os, hBw]; exact hS.below.os
    · rw [hS'.below.tape, hBw]; exact hS.below.tape
    · rw [hS'.below.output, hBw]; exact hS.below.output
    · have h1 := hS'.below.size
      rw [hBw] at h1
      omega
    · intro k hk hh
      rw [hS'.below.block k (by rw [hBw]; omega) (by rw [hBh, hh]; simp; omega), hBw]
      exact hS.below.block k hk hh
    · rcases hS'.own x hx with h1 | h1
      · rw [hBw] at h1
        exact .inl (by omega)
      · rw [hBh] at h1
        simp only [Bool.and_eq_true, Bool.or_eq_true, decide_eq_true_eq] at h1
        exact h1.2.symm
  refine (h B (back η) ?_ w hs).mono ?_
  · intro p v hp
    unfold Base.cell? at hp ⊢
    cases hh : w0.hole p.block with
    | true => simp [hh] at hp
    | false =>
      simp only [hh, cond_false] at hp
      have hlt : p.block < w0.w.heap.size := block_lt_of_cell hp
      have e : B.hole p.block = false := by rw [hBh, hh]; simp; omega
      rw [e, cond_false, hBw, hS.below.cell hlt hh]
      exact hp
  · rintro e w' ⟨v, A', rfl, ⟨H, hR, rfl⟩, hS'⟩
    refine ⟨_, _, rfl, ⟨H, hR, rfl⟩, back _ w' hS', ?_, h0⟩
    rw [hS'.below.block m (by rw [hBw]; exact lt_of_heap hm) (by rw [hBh]; simp), hBw]
    exact hm
end Go.Gx
namespace Go.Proofs.YtjdaglmkljbfkaaGreatDoor
open Go Go.Gx Go.RowKit
set_option maxRecDepth 100000
theorem callsT_H2 {P : Program} {f : FuncId} {vs : List Value} {B : Base} {η : Heap} {A : World → Prop} {R S : Value → Value → Heap → Prop} (h : CallsT P f vs A fun v A' => ∃ rv H, R v rv H ∧ S v rv H ∧ A' = St B (H ++ η)) :
    CallsT P f vs A fun v A' => ∃ H, (∃ rv, R v rv H ∧ S v rv H) ∧ A' = St B (H ++ η) := h.mono fun _ _ ⟨rv, H, hR, hS, he⟩ => ⟨_, ⟨H, ⟨rv, hR, hS⟩, he⟩, fun _ h => h⟩
theorem Sets.up {w0 B : Base} (h : Sets w0) (hB : ∀ p v, w0.cell? p = some v → B.cell? p = some v) : Sets B := fun j v hv => hB _ _ (h j v hv)
theorem edgesUp {w0 B : Base} (h : T12.Edges w0) (hB : ∀ p v, w0.cell? p = some v → B.cell? p = some v) : T12.Edges B := fun j v hv => hB _ _ (h j v hv)
theorem Decode_bad (w0 : Base) (η : Heap) (hG : Sets w0) (L : Lay) (hk : okB L = false) (sv : Value) :
    CallsT Tryz.prog 7 [L.val, sv] (St w0 η) fun v A' => v = .tuple #[.agg #[nilS, nilS], .int .i64 4] ∧ A' = St w0 η := by
  have he : errOf L = 4 := by unfold errOf; rw [hk]; rfl
  refine CallsT.body Tryz.func7 rfl rfl ?_
  simp only [Tryz.ntmps7, slotsOf, Nat.reduceAdd]
  refine TC_seq ?_
  refine TC_reg ?_
  refine TL_e rfl rfl rfl (rfl) (ET_box rfl rfl) ?_
  rintro _ _ ⟨b2, rfl, rfl⟩
  refine TL_e rfl rfl rfl (rfl) (ET_alloc rfl YtjdaglmkljbfkaaGreatDoorF.zero_34) ?_
  rintro _ _ ⟨b4, rfl, rfl⟩
  refine TL_q rfl rfl (QT_assign rfl rfl rfl) ?_
  refine TL_nil ?_
  refine TX_then ?_
  refine TC_seq ?_
  refine TC_seq ?_
  refine TC_A (St w0 ((b4, 34, [nilS, nilS]) :: (b2, 27, L.cells) :: η)) (fun _ h => h) ?_
  refine TC_reg ?_
  refine TL_q rfl rfl (QT_loadW 1 rfl rfl Tryz.underlying27 rfl rfl rfl YtjdaglmkljbfkaaGreatDoorF.sz_27) ?_
  refine TL_cq rfl rfl rfl rfl YtjdaglmkljbfkaaGreatDoorF.cal_26 rfl (fun _ => check_spec w0 _ hG L) ?_
  refine TL_q rfl rfl (QT_neq rfl rfl rfl rfl) ?_
  refine TL_nil ?_
  refine TX_then ?_
  refine TC_cond rfl (fun _ => ?_) (fun h => absurd (h.symm.trans ((show decide (errOf L ≠ 0) = true by rw [he]; decide))) (by decide))
  refine TC_seq ?_
  refine TC_reg ?_
  refine TL_q rfl rfl (QT_build rfl rfl YtjdaglmkljbfkaaGreatDoorF.zero_34 YtjdaglmkljbfkaaGreatDoorF.pl_34 rfl rfl rfl) ?_
  refine TL_e0 rfl rfl (rfl) (ET_storeW 0 rfl rfl rfl YtjdaglmkljbfkaaGreatDoorF.sz_34 rfl rfl rfl) ?_
  rintro _ _ ⟨rfl, rfl⟩
  refine TL_q rfl rfl (QT_assign rfl rfl rfl) ?_
  refine TL_nil ?_
  refine TX_then ?_
  refine TC_ret ?_
  refine TX_then_ret ?_
  exact TX_ret (.inl rfl) (resCT 0 rfl rfl rfl Tryz.underlying34 rfl rfl YtjdaglmkljbfkaaGreatDoorF.sz_34) ⟨_, ⟨rfl, rfl⟩, fun w h => h.cnt fun p => by simp only [upd, List.countP_append, List.countP_cons, List.countP_nil]; omega⟩
set_option maxHeartbeats 1000000 in
theorem Decode_A (w0 : Base) (η : Heap) (hG : Sets w0) (L : Lay) (hk : okB L = true) (hty : L.ty = 4 ∨ L.ty = 5) (sv : Value) (bs : List Nat) (hs : SlA (St w0 η) sv 1 bs.length (byV bs)) (hb : ∀ c ∈ bs, c < 256) :
    CallsT Tryz.prog 7 [L.val, sv] (St w0 η) fun v A' => ∃ rv H, v = .tuple #[.agg #[rv, nilS], .int .i64 (dcE L bs)] ∧ Frag 77 7 rv (dcO L bs).length (flatR (dcO L bs)) H ∧ A' = St w0 (H ++ η) := by
  have he : errOf L = 0 := by unfold errOf; rw [if_pos hk]
  obtain ⟨j, hj⟩ := ways_A hty
  refine CallsT.body Tryz.func7 rfl rfl ?_
  simp only [Tryz.ntmps7, slotsOf, Nat.reduceAdd]
  refine TC_seq ?_
  refine TC_reg ?_
  refine TL_e rfl rfl rfl (rfl) (ET_box rfl rfl) ?_
  rintro _ _ ⟨b2, rfl, rfl⟩
  refine TL_e rfl rfl rfl (rfl) (ET_alloc rfl YtjdaglmkljbfkaaGreatDoorF.zero_34) ?_
  rintro _ _ ⟨b4, rfl, rfl⟩
  refine TL_q rfl rfl (QT_assign rfl rfl rfl) ?_
  refine TL_nil ?_
  refine TX_then ?_
  refine TC_seq ?_
  refine TC_seq ?_
  refine TC_A (St w0 ((b4, 34, [nilS, nilS]) :: (b2, 27, L.cells) :: η)) (fun _ h => h) ?_
  refine TC_reg ?_
  refine TL_q rfl rfl (QT_loadW 1 rfl rfl Tryz.underlying27 rfl rfl rfl YtjdaglmkljbfkaaGreatDoorF.sz_27) ?_
  refine TL_cq rfl rfl rfl rfl YtjdaglmkljbfkaaGreatDoorF.cal_26 rfl (fun _ => check_spec w0 _ hG L) ?_
  refine TL_q rfl rfl (QT_neq rfl rfl rfl rfl) ?_
  refine TL_nil ?_
  refine TX_then ?_
  refine TC_cond rfl (fun h => absurd (h.symm.trans ((show decide (errOf L ≠ 0) = false by rw [he]; decide))) (by decide)) (fun _ => ?_)
  refine TC_skip ?_
  refine TX_then ?_
  refine TC_seq ?_
  refine TC_draw [(1, 0), (2, 0), (5, 0), (6, 0), (0, 1), (3, 0), (4, 0), (7, 1), (8, 0), (9, 0), (10, 1), (11, 0)] YtjdaglmkljbfkaaGreatDoorF.mixed (by kernel_rfl) (St.calm _ _) ?_
  refine TV_q rfl rfl rfl (fun _ => QT_field rfl rfl YtjdaglmkljbfkaaGreatDoorF.fld_27_0 rfl) ?_
  refine TV_ql rfl rfl rfl (QT_load (v := .int .i64 L.ty) 1 rfl rfl Tryz.underlying3 rfl rfl rfl (fun _ => rfl)) ?_
  refine TV_ql rfl rfl rfl (QT_loadW (cs := L.cells) 1 rfl rfl Tryz.underlying27 rfl rfl rfl YtjdaglmkljbfkaaGreatDoorF.sz_27) ?_
  refine TV_q rfl rfl rfl (fun _ => QT_move rfl rfl rfl) ?_
  refine TV_e rfl rfl rfl rfl (rfl) (ET_call rfl YtjdaglmkljbfkaaGreatDoorF.cal_27 rfl (byType_spec w0 _)) ?_
  rintro _ _ ⟨m10, rfl, rfl⟩
  refine ⟨_, .keep (by kernel_rfl) rfl (by first | exact QT_loadW (cs := L.cells) 1 rfl rfl Tryz.underlying27 rfl rfl rfl YtjdaglmkljbfkaaGreatDoorF.sz_27 | exact QT_under (QT_loadW (w0 := w0) (η := (b4, 34, [nilS, nilS]) :: (b2, 27, L.cells) :: η) (cs := L.cells) 1 rfl rfl Tryz.underlying27 rfl rfl rfl YtjdaglmkljbfkaaGreatDoorF.sz_27) (fun w h => h.1)) (.keep (by kernel_rfl) rfl (by first | exact QT_load (v := .int .i64 L.ty) 1 rfl rfl Tryz.underlying3 rfl rfl rfl (fun _ => rfl) | exact QT_under (QT_load (w0 := w0) (η := (b4, 34, [nilS, nilS]) :: (b2, 27, L.cells) :: η) (v := .int .i64 L.ty) 1 rfl rfl Tryz.underlying3 rfl rfl rfl (fun _ => rfl)) (fun w h => h.1) | exact QT_under (QT_load (w0 := w0) (η := (b4, 34, [nilS, nilS]) :: (b2, 27, L.cells) :: η) (v := .int .i64 L.ty) 1 rfl rfl Tryz.underlying3 rfl rfl rfl (fun _ => rfl)) (fun w h => h.1.app_right)) (.nil)), ?_⟩
  refine TV_ql rfl rfl rfl ((by exact QT_lookup rfl rfl rfl rfl Tryz.underlying85 Tryz.underlying3 (show MapKept.IsKey (.int .i64) (.int .i64 L.ty) from rfl) hj)) ?_
  refine TV_q rfl rfl rfl (fun _ => QT_fieldv rfl rfl Tryz.underlying84 rfl Tryz.underlying37 rfl rfl (fun _ => rfl)) ?_
  refine TV_e rfl rfl rfl rfl (rfl) (ET_goes (Goes.value rfl rfl YtjdaglmkljbfkaaGreatDoorF.cal_92 rfl) (callsT_mapH fun B h1 h2 => callsT_H2 (decA_spec B ((b4, 34, [nilS, nilS]) :: (b2, 27, L.cells) :: η) (hG.up h2) L _ bs (hs.mono fun w h => (h1 w h).tail.tail) hb))) ?_
  rintro _ _ ⟨H1, ⟨rv, rfl, hF1⟩, rfl⟩
  refine ⟨_, .keep (by kernel_rfl) rfl (by first | exact (by exact QT_lookup rfl rfl rfl rfl Tryz.underlying85 Tryz.underlying3 (show MapKept.IsKey (.int .i64) (.int .i64 L.ty) from rfl) hj)) (.drop (by kernel_rfl) (.keep (by kernel_rfl) rfl (by first | exact QT_load (v := .int .i64 L.ty) 1 rfl rfl Tryz.underlying3 rfl rfl rfl (fun _ => rfl) | exact QT_under (QT_load (w0 := w0) (η := (b4, 34, [nilS, nilS]) :: (b2, 27, L.cells) :: η) (v := .int .i64 L.ty) 1 rfl rfl Tryz.underlying3 rfl rfl rfl (fun _ => rfl)) (fun w h => h.1) | exact QT_under (QT_load (w0 := w0) (η := (b4, 34, [nilS, nilS]) :: (b2, 27, L.cells) :: η) (v := .int .i64 L.ty) 1 rfl rfl Tryz.underlying3 rfl rfl rfl (fun _ => rfl)) (fun w h => h.1.app_right)) (.nil))), ?_⟩
  refine TV_q rfl rfl rfl (fun _ => QT_extract rfl rfl rfl rfl) ?_
  refine TV_q rfl rfl rfl (fun _ => QT_extract rfl rfl rfl rfl) ?_
  obtain ⟨rad, rcap, rfl, _, _⟩ := hF1.slice
  refine TV_e0 rfl rfl rfl (rfl) (ET_under (ET_storeW (w0 := w0) (η := (b4, 34, [nilS, nilS]) :: (H1 ++ ((b2, 27, L.cells) :: η))) (vs := [.slice rad (dcO L bs).length rcap, nilS]) 0 rfl rfl rfl YtjdaglmkljbfkaaGreatDoorF.sz_34 rfl rfl rfl) (fun w h => h.1.cnt fun p => by simp only [List.countP_append, List.countP_cons, List.countP_nil]; omega)) ?_
  rintro _ _ ⟨rfl, rfl⟩
  refine ⟨_, .drop (by kernel_rfl) (.drop (by kernel_rfl) (.nil)), ?_⟩
  refine TV_q rfl rfl rfl (fun _ => QT_assign rfl rfl rfl) ?_
  refine TV_end ?_
  refine TX_then ?_
  refine TC_ret ?_
  exact TX_ret (.inl rfl) (resCT 0 rfl rfl rfl Tryz.underlying34 rfl rfl YtjdaglmkljbfkaaGreatDoorF.sz_34) ⟨_, ⟨_, H1, rfl, hF1, rfl⟩, fun w h => h.cnt fun p => by simp only [upd, List.countP_append, List.countP_cons, List.countP_nil]; omega⟩
end Go.Proofs.YtjdaglmkljbfkaaGreatDoor
namespace Go.Proofs.YtjdaglmkljbfkaaGreatDoor
open Go Go.Gx Go.RowKit
set_option maxRecDepth 100000
set_option maxHeartbeats 1000000 in
theorem Decode_B (w0 : Base) (η : Heap) (hG : Sets w0) (hE : T12.Edges w0) (L : Lay) (hk : okB L = true) (hty : L.ty = 6 ∨ L.ty = 7) (sv : Value) (bs : List Nat) (hs : SlA (St w0 η) sv 1 bs.length (byV bs)) (hb : ∀ c ∈ bs, c < 256) (hl0 : bs.length ≤ 140737488355328) :
    CallsT Tryz.prog 7 [L.val, sv] (St w0 η) fun v A' => ∃ rv H, v = .tuple #[.agg #[nilS, rv], .int .i64 (dsE L bs)] ∧ Frag 102 49 rv (dsO L bs).length (flatS (dsO L bs)) H ∧ A' = St w0 (H ++ η) := by
  have he : errOf L = 0 := by unfold errOf; rw [if_pos hk]
  obtain ⟨j, hj⟩ := ways_B hty
  refine CallsT.body Tryz.func7 rfl rfl ?_
  simp only [Tryz.ntmps7, slotsOf, Nat.reduceAdd]
  refine TC_seq ?_
  refine TC_reg ?_
  refine TL_e rfl rfl rfl (rfl) (ET_box rfl rfl) ?_
  rintro _ _ ⟨b2, rfl, rfl⟩
  refine TL_e rfl rfl rfl (rfl) (ET_alloc rfl YtjdaglmkljbfkaaGreatDoorF.zero_34) ?_
  rintro _ _ ⟨b4, rfl, rfl⟩
  refine TL_q rfl rfl (QT_assign rfl rfl rfl) ?_
  refine TL_nil ?_
  refine TX_then ?_
  refine TC_seq ?_
  refine TC_seq ?_
  refine TC_A (St w0 ((b4, 34, [nilS, nilS]) :: (b2, 27, L.cells) :: η)) (fun _ h => h) ?_
  refine TC_reg ?_
  refine TL_q rfl rfl (QT_loadW 1 rfl rfl Tryz.underlying27 rfl rfl rfl YtjdaglmkljbfkaaGreatDoorF.sz_27) ?_
  refine TL_cq rfl rfl rfl rfl YtjdaglmkljbfkaaGreatDoorF.cal_26 rfl (fun _ => check_spec w0 _ hG L) ?_
  refine TL_q rfl rfl (QT_neq rfl rfl rfl rfl) ?_
  refine TL_nil ?_
  refine TX_then ?_
  refine TC_cond rfl (fun h => absurd (h.symm.trans ((show decide (errOf L ≠ 0) = false by rw [he]; decide))) (by decide)) (fun _ => ?_)
  refine TC_skip ?_
  refine TX_then ?_
  refine TC_seq ?_
  refine TC_draw [(1, 0), (2, 0), (5, 0), (6, 0), (0, 1), (3, 0), (4, 0), (7, 1), (8, 0), (9, 0), (10, 1), (11, 0)] YtjdaglmkljbfkaaGreatDoorF.mixed (by kernel_rfl) (St.calm _ _) ?_
  refine TV_q rfl rfl rfl (fun _ => QT_field rfl rfl YtjdaglmkljbfkaaGreatDoorF.fld_27_0 rfl) ?_
  refine TV_ql rfl rfl rfl (QT_load (v := .int .i64 L.ty) 1 rfl rfl Tryz.underlying3 rfl rfl rfl (fun _ => rfl)) ?_
  refine TV_ql rfl rfl rfl (QT_loadW (cs := L.cells) 1 rfl rfl Tryz.underlying27 rfl rfl rfl YtjdaglmkljbfkaaGreatDoorF.sz_27) ?_
  refine TV_q rfl rfl rfl (fun _ => QT_move rfl rfl rfl) ?_
  refine TV_e rfl rfl rfl rfl (rfl) (ET_call rfl YtjdaglmkljbfkaaGreatDoorF.cal_27 rfl (byType_spec w0 _)) ?_
  rintro _ _ ⟨m10, rfl, rfl⟩
  refine ⟨_, .keep (by kernel_rfl) rfl (by first | exact QT_loadW (cs := L.cells) 1 rfl rfl Tryz.underlying27 rfl rfl rfl YtjdaglmkljbfkaaGreatDoorF.sz_27 | exact QT_under (QT_loadW (w0 := w0) (η := (b4, 34, [nilS, nilS]) :: (b2, 27, L.cells) :: η) (cs := L.cells) 1 rfl rfl Tryz.underlying27 rfl rfl rfl YtjdaglmkljbfkaaGreatDoorF.sz_27) (fun w h => h.1)) (.keep (by kernel_rfl) rfl (by first | exact QT_load (v := .int .i64 L.ty) 1 rfl rfl Tryz.underlying3 rfl rfl rfl (fun _ => rfl) | exact QT_under (QT_load (w0 := w0) (η := (b4, 34, [nilS, nilS]) :: (b2, 27, L.cells) :: η) (v := .int .i64 L.ty) 1 rfl rfl Tryz.underlying3 rfl rfl rfl (fun _ => rfl)) (fun w h => h.1) | exact QT_under (QT_load (w0 := w0) (η := (b4, 34, [nilS, nilS]) :: (b2, 27, L.cells) :: η) (v := .int .i64 L.ty) 1 rfl rfl Tryz.underlying3 rfl rfl rfl (fun _ => rfl)) (fun w h => h.1.app_right)) (.nil)), ?_⟩
  refine TV_ql rfl rfl rfl ((by exact QT_lookup rfl rfl rfl rfl Tryz.underlying85 Tryz.underlying3 (show MapKept.IsKey (.int .i64) (.int .i64 L.ty) from rfl) hj)) ?_
  refine TV_q rfl rfl rfl (fun _ => QT_fieldv rfl rfl Tryz.underlying84 rfl Tryz.underlying37 rfl rfl (fun _ => rfl)) ?_
  refine TV_e rfl rfl rfl rfl (rfl) (ET_goes (Goes.value rfl rfl YtjdaglmkljbfkaaGreatDoorF.cal_98 rfl) (callsT_mapH fun B h1 h2 => callsT_H2 (decB_spec B ((b4, 34, [nilS, nilS]) :: (b2, 27, L.cells) :: η) (hG.up h2) (edgesUp hE h2) L _ bs (hs.mono fun w h => (h1 w h).tail.tail) hb hl0))) ?_
  rintro _ _ ⟨H1, ⟨rv, rfl, hF1⟩, rfl⟩
  refine ⟨_, .keep (by kernel_rfl) rfl (by first | exact (by exact QT_lookup rfl rfl rfl rfl Tryz.underlying85 Tryz.underlying3 (show MapKept.IsKey (.int .i64) (.int .i64 L.ty) from rfl) hj)) (.drop (by kernel_rfl) (.keep (by kernel_rfl) rfl (by first | exact QT_load (v := .int .i64 L.ty) 1 rfl rfl Tryz.underlying3 rfl rfl rfl (fun _ => rfl) | exact QT_under (QT_load (w0 := w0) (η := (b4, 34, [nilS, nilS]) :: (b2, 27, L.cells) :: η) (v := .int .i64 L.ty) 1 rfl rfl Tryz.underlying3 rfl rfl rfl (fun _ => rfl)) (fun w h => h.1) | exact QT_under (QT_load (w0 := w0) (η := (b4, 34, [nilS, nilS]) :: (b2, 27, L.cells) :: η) (v := .int .i64 L.ty) 1 rfl rfl Tryz.underlying3 rfl rfl rfl (fun _ => rfl)) (fun w h => h.1.app_right)) (.nil))), ?_⟩
  refine TV_q rfl rfl rfl (fun _ => QT_extract rfl rfl rfl rfl) ?_
  refine TV_q rfl rfl rfl (fun _ => QT_extract rfl rfl rfl rfl) ?_
  obtain ⟨rad, rcap, rfl, _, _⟩ := hF1.slice
  refine TV_e0 rfl rfl rfl (rfl) (ET_under (ET_storeW (w0 := w0) (η := (b4, 34, [nilS, nilS]) :: (H1 ++ ((b2, 27, L.cells) :: η))) (vs := [nilS, .slice rad (dsO L bs).length rcap]) 0 rfl rfl rfl YtjdaglmkljbfkaaGreatDoorF.sz_34 rfl rfl rfl) (fun w h => h.1.cnt fun p => by simp only [List.countP_append, List.countP_cons, List.countP_nil]; omega)) ?_
  rintro _ _ ⟨rfl, rfl⟩
  refine ⟨_, .drop (by kernel_rfl) (.drop (by kernel_rfl) (.nil)), ?_⟩
  refine TV_q rfl rfl rfl (fun _ => QT_assign rfl rfl rfl) ?_
  refine TV_end ?_
  refine TX_then ?_
  refine TC_ret ?_
  exact TX_ret (.inl rfl) (resCT 0 rfl rfl rfl Tryz.underlying34 rfl rfl YtjdaglmkljbfkaaGreatDoorF.sz_34) ⟨_, ⟨_, H1, rfl, hF1, rfl⟩, fun w h => h.cnt fun p => by simp only [upd, List.countP_append, List.countP_cons, List.countP_nil]; omega⟩
/-- what bytes tell -/
def dmE (L : Lay) (bs : List Nat) : Int := if okB L = true then (if L.ty ≤ 5 then dcE L bs else dsE L bs) else 4
def dmR (L : Lay) (bs : List Nat) : List (List Nat) := if okB L = true ∧ L.ty ≤ 5 then dcO L bs else []
def dmS (L : Lay) (bs : List Nat) : List (List Nat) := if okB L = true ∧ ¬L.ty ≤ 5 then dsO L bs else []
theorem Decode_spec (w0 : Base) (η : Heap) (hG : Sets w0) (hE : T12.Edges w0) (L : Lay) (sv : Value) (bs : List Nat) (hs : SlA (St w0 η) sv 1 bs.length (byV bs)) (hb : ∀ c ∈ bs, c < 256) (hl0 : bs.length ≤ 140737488355328) :
    CallsT Tryz.prog 7 [L.val, sv] (St w0 η) fun v A' => ∃ rv H tv H', v = .tuple #[.agg #[rv, tv], .int .i64 (dmE L bs)] ∧ Frag 77 7 rv (dmR L bs).length (flatR (dmR L bs)) H ∧ Frag 102 49 tv (dmS L bs).length (flatS (dmS L bs)) H' ∧ A' = St w0 (H ++ (H' ++ η)) := by
  by_cases hk : okB L = true
  · have h4 := (okB_bounds hk).2.2.2.1
    by_cases h5 : L.ty ≤ 5
    · have e1 : dmE L bs = dcE L bs := by unfold dmE; rw [if_pos hk, if_pos h5]
      have e2 : dmR L bs = dcO L bs := by unfold dmR; rw [if_pos ⟨hk, h5⟩]
      have e3 : dmS L bs = [] := by unfold dmS; rw [if_neg fun h => h.2 h5]
      refine (Decode_A w0 η hG L hk (by omega) sv bs hs hb).mono ?_
      rintro _ _ ⟨rv, H, rfl, hF, rfl⟩
      exact ⟨_, ⟨rv, H, nilS, [], by rw [e1], by rw [e2]; exact hF, by rw [e3]; exact Frag.nil _ _, rfl⟩, fun _ h => h⟩
    · have e1 : dmE L bs = dsE L bs := by unfold dmE; rw [if_pos hk, if_neg h5]
      have e2 : dmR L bs = [] := by unfold dmR; rw [if_neg fun h => h5 h.2]
      have e3 : dmS L bs = dsO L bs := by unfold dmS; rw [if_pos ⟨hk, h5⟩]
      refine (Decode_B w0 η hG hE L hk (by omega) sv bs hs hb hl0).mono ?_
      rintro _ _ ⟨rv, H, rfl, hF, rfl⟩
      exact ⟨_, ⟨nilS, [], rv, H, by rw [e1], by rw [e2]; exact Frag.nil _ _, by rw [e3]; exact hF, rfl⟩, fun _ h => h⟩
  · have e1 : dmE L bs = 4 := by unfold dmE; rw [if_neg hk]
    have e2 : dmR L bs = [] := by unfold dmR; rw [if_neg fun h => hk h.1]
    have e3 : dmS L bs = [] := by unfold dmS; rw [if_neg fun h => hk h.1]
    refine (Decode_bad w0 η hG L (by simpa using hk) sv).mono ?_
    rintro _ _ ⟨rfl, rfl⟩
    exact ⟨_, ⟨nilS, [], nilS, [], by rw [e1], by rw [e2]; exact Frag.nil _ _, by rw [e3]; exact Frag.nil _ _, rfl⟩, fun _ h => h⟩
end Go.Proofs.YtjdaglmkljbfkaaGreatDoor
namespace Go.Proofs.YtjdaglmkljbfkaaGreatDoor
open Go Go.Gx Go.RowKit
set_option maxRecDepth 100000
theorem Encode_no (w0 : Base) (η : Heap) (L : Lay) (ra sa : Option Addr) (nr ns rc sc : Nat) (E : Int) (hE0 : E ≠ 0)
    (hmay : ∀ X : Heap, CallsT Tryz.prog 78 [L.val, .agg #[.slice ra nr rc, .slice sa ns sc]] (St w0 X) fun v A' => v = .int .i64 E ∧ A' = St w0 X) :
    CallsT Tryz.prog 15 [L.val, .agg #[.slice ra nr rc, .slice sa ns sc]] (St w0 η) fun v A' => v = .tuple #[nilS, .int .i64 E] ∧ A' = St w0 η := by
  refine CallsT.body Tryz.func15 rfl rfl ?_
  simp only [Tryz.ntmps15, slotsOf, Nat.reduceAdd]
  refine TC_seq ?_
  refine TC_reg ?_
  refine TL_e rfl rfl rfl (rfl) (ET_box rfl rfl) ?_
  rintro _ _ ⟨b2, rfl, rfl⟩
  refine TL_e rfl rfl rfl (rfl) (ET_box rfl rfl) ?_
  rintro _ _ ⟨b3, rfl, rfl⟩
  refine TL_q rfl rfl (QT_assign rfl rfl rfl) ?_
  refine TL_q rfl rfl (QT_assign rfl rfl rfl) ?_
  refine TL_nil ?_
  refine TX_then ?_
  refine TC_seq ?_
  refine TC_seq ?_
  refine TC_A (St w0 ((b3, 34, [.slice ra nr rc, .slice sa ns sc]) :: (b2, 27, L.cells) :: η)) (fun _ h => h) ?_
  refine TC_reg ?_
  refine TL_q rfl rfl (QT_loadW 1 rfl rfl Tryz.underlying27 rfl rfl rfl YtjdaglmkljbfkaaGreatDoorF.sz_27) ?_
  refine TL_q rfl rfl (QT_loadW 0 rfl rfl Tryz.underlying34 rfl rfl rfl YtjdaglmkljbfkaaGreatDoorF.sz_34) ?_
  refine TL_cq rfl rfl rfl rfl YtjdaglmkljbfkaaGreatDoorF.cal_78 rfl (fun _ => hmay _) ?_
  refine TL_q rfl rfl (QT_assign rfl rfl rfl) ?_
  refine TL_nil ?_
  refine TX_then ?_
  refine TC_seq ?_
  refine TC_reg ?_
  refine TL_q rfl rfl (QT_move rfl rfl rfl) ?_
  refine TL_q rfl rfl (QT_neq rfl rfl rfl rfl) ?_
  refine TL_nil ?_
  refine TX_then ?_
  refine TC_cond rfl (fun _ => ?_) (fun h => absurd (h.symm.trans ((show decide (E ≠ 0) = true from decide_eq_true hE0))) (by decide))
  refine TC_seq ?_
  refine TC_reg ?_
  refine TL_q rfl rfl (QT_move rfl rfl rfl) ?_
  refine TL_q rfl rfl (QT_assign rfl rfl rfl) ?_
  refine TL_q rfl rfl (QT_assign rfl rfl rfl) ?_
  refine TL_nil ?_
  refine TX_then ?_
  refine TC_ret ?_
  refine TX_then_ret ?_
  exact TX_ret (.inl rfl) (res2 rfl rfl rfl) ⟨_, ⟨rfl, rfl⟩, fun _ h => h.tail.tail⟩
end Go.Proofs.YtjdaglmkljbfkaaGreatDoor
namespace Go.Gx
open Go Go.RowKit
variable {P : Program} {n : Nat} {σ : Slots} {A : World → Prop} {v : Value}
theorem res3 {fn : Func} {t u s : Nat} {x y : Value} (hr : fn.results = #[.tmp t, .tmp u, .tmp s]) (hv : look σ t = some (true, v)) (hx : look σ u = some (true, x)) (hy : look σ s = some (true, y)) : ∀ a w, Fr n σ a → A w → (results fn a.tmps).run P w = .ok (.tuple #[v, x, y]) w := by
  intro a w hf hA
  have h1 := hf.known t true _ hv
  have h2 := hf.known u true _ hx
  have h3 := hf.known s true _ hy
  simp only [cond_true] at h1 h2 h3
  have h1' : a.tmps[t]?.getD undef = v := by simpa using h1
  have h2' : a.tmps[u]?.getD undef = x := by simpa using h2
  have h3' : a.tmps[s]?.getD undef = y := by simpa using h3
  simp [results, hr, h1', h2', h3']
end Go.Gx
namespace Go.Proofs.YtjdaglmkljbfkaaGreatDoor
open Go Go.Gx Go.RowKit
set_option maxRecDepth 100000
/-- is a mesh of a layout's kind? -/
def kiE (L : Lay) (nr ns : Nat) : Int := if okB L = true then (if L.ty ≤ 5 then (if ns = 0 then 0 else 1) else if nr = 0 then 0 else 1) else 4
theorem may_all (w0 : Base) (hG : Sets w0) (L : Lay) (ra sa : Option Addr) (nr ns rc sc : Nat) (η : Heap) :
    CallsT Tryz.prog 78 [L.val, .agg #[.slice ra nr rc, .slice sa ns sc]] (St w0 η) fun v A' => v = .int .i64 (kiE L nr ns) ∧ A' = St w0 η := by
  unfold kiE
  by_cases hk : okB L = true
  · have h4 := (okB_bounds hk).2.2.2.1
    rw [if_pos hk]
    by_cases h5 : L.ty ≤ 5
    · rw [if_pos h5]
      exact may_A w0 η hG L hk (by omega) ra sa nr ns rc sc
    · rw [if_neg h5]
      exact may_B w0 η hG L hk (by omega) ra sa nr ns rc sc
  · rw [if_neg hk]
    exact may_bad w0 η hG L (by simpa using hk) ra sa nr ns rc sc
theorem kiE_A {L : Lay} {nr ns : Nat} (h : kiE L nr ns = 0) (h5 : L.ty ≤ 5) : okB L = true ∧ ns = 0 := by
  unfold kiE at h
  by_cases hk : okB L = true
  · rw [if_pos hk, if_pos h5] at h
    exact ⟨hk, by by_cases h1 : ns = 0; exact h1; rw [if_neg h1] at h; cases h⟩
  · rw [if_neg hk] at h
    cases h
theorem kiE_B {L : Lay} {nr ns : Nat} (h : kiE L nr ns = 0) (h5 : ¬L.ty ≤ 5) : okB L = true ∧ nr = 0 := by
  unfold kiE at h
  by_cases hk : okB L = true
  · rw [if_pos hk, if_neg h5] at h
    exact ⟨hk, by by_cases h1 : nr = 0; exact h1; rw [if_neg h1] at h; cases h⟩
  · rw [if_neg hk] at h
    cases h
theorem slval {A : World → Prop} {v : Value} {s n : Nat} {xs : List Value} (h : SlA A v s n xs) : ∃ ad cap, v = .slice ad n cap := by
  obtain ⟨_, ad, cap, rfl, _⟩ := h
  exact ⟨ad, cap, rfl⟩
set_option maxHeartbeats 1000000 in
theorem Faces_A (w0 : Base) (η : Heap) (hG : Sets w0) (L : Lay) (h5 : L.ty ≤ 5) (ra sa : Option Addr) (n rc sc : Nat) (rs : List (List Nat)) (hs : SlA (St w0 η) (.slice ra rs.length rc) 7 rs.length (flatR rs)) (hr : ∀ r ∈ rs, RcF r) (hn : rs.length ≤ 1000000) (h0 : kiE L rs.length n = 0) :
    CallsT Tryz.prog 17 [L.val, .agg #[.slice ra rs.length rc, .slice sa n sc]] (St w0 η) fun v A' => ∃ pv H, v = .tuple #[pv, nilS, .int .i64 (trioF L (rs.map rvV)).2] ∧ Frag 79 21 pv (trioF L (rs.map rvV)).1.length (trioF L (rs.map rvV)).1.flatten H ∧ ∃ X, A' = St w0 (H ++ (X ++ η)) := by
  have hs2 : SlA (St w0 η) (.slice ra rs.length rc) 7 (rs.map rvV).length (rs.map rvV).flatten := by rw [List.length_map]; exact hs
  refine CallsT.body Tryz.func17 rfl rfl ?_
  simp only [Tryz.ntmps17, slotsOf, Nat.reduceAdd]
  refine TC_seq ?_
  refine TC_reg ?_
  refine TL_e rfl rfl rfl (rfl) (ET_box rfl rfl) ?_
  rintro _ _ ⟨b2, rfl, rfl⟩
  refine TL_e rfl rfl rfl (rfl) (ET_box rfl rfl) ?_
  rintro _ _ ⟨b3, rfl, rfl⟩
  refine TL_q rfl rfl (QT_assign rfl rfl rfl) ?_
  refine TL_q rfl rfl (QT_assign rfl rfl rfl) ?_
  refine TL_q rfl rfl (QT_assign rfl rfl rfl) ?_
  refine TL_nil ?_
  refine TX_then ?_
  refine TC_seq ?_
  refine TC_seq ?_
  refine TC_A (St w0 ((b3, 34, [.slice ra rs.length rc, .slice sa n sc]) :: (b2, 27, L.cells) :: η)) (fun _ h => h) ?_
  refine TC_reg ?_
  refine TL_q rfl rfl (QT_loadW 1 rfl rfl Tryz.underlying27 rfl rfl rfl YtjdaglmkljbfkaaGreatDoorF.sz_27) ?_
  refine TL_q rfl rfl (QT_loadW 0 rfl rfl Tryz.underlying34 rfl rfl rfl YtjdaglmkljbfkaaGreatDoorF.sz_34) ?_
  refine TL_cq rfl rfl rfl rfl YtjdaglmkljbfkaaGreatDoorF.cal_78 rfl (fun _ => may_all w0 hG L ra sa _ _ rc sc _) ?_
  refine TL_q rfl rfl (QT_assign rfl rfl rfl) ?_
  refine TL_nil ?_
  refine TX_then ?_
  refine TC_seq ?_
  refine TC_reg ?_
  refine TL_q rfl rfl (QT_move rfl rfl rfl) ?_
  refine TL_q rfl rfl (QT_neq rfl rfl rfl rfl) ?_
  refine TL_nil ?_
  refine TX_then ?_
  refine TC_cond rfl (fun h => absurd (h.symm.trans ((show decide (kiE L rs.length n ≠ 0) = false by rw [h0]; decide))) (by decide)) (fun _ => ?_)
  refine TC_skip ?_
  refine TX_then ?_
  refine TC_seq ?_
  refine TC_seq ?_
  refine TC_reg ?_
  refine TL_q rfl rfl (QT_field rfl rfl YtjdaglmkljbfkaaGreatDoorF.fld_27_0 rfl) ?_
  refine TL_q rfl rfl (QT_load 1 rfl rfl Tryz.underlying3 rfl rfl rfl (fun _ => rfl)) ?_
  refine TL_q rfl rfl (QT_lss rfl rfl rfl rfl) ?_
  refine TL_nil ?_
  refine TX_then ?_
  refine TC_cond rfl (fun _ => ?_) (fun h => absurd (h.symm.trans ((show decide (L.ty < 6) = true from decide_eq_true (by omega)))) (by decide))
  refine TC_seq ?_
  refine TC_reg ?_
  refine TL_q rfl rfl (QT_loadW 1 rfl rfl Tryz.underlying27 rfl rfl rfl YtjdaglmkljbfkaaGreatDoorF.sz_27) ?_
  refine TL_q rfl rfl (QT_field rfl rfl YtjdaglmkljbfkaaGreatDoorF.fld_34_0 rfl) ?_
  refine TL_q rfl rfl (QT_load 0 rfl rfl Tryz.underlying31 rfl rfl rfl (fun _ => rfl)) ?_
  refine TL_e rfl rfl rfl (rfl) (ET_call rfl YtjdaglmkljbfkaaGreatDoorF.cal_81 rfl (of_spec w0 _ hG L _ (rs.map rvV) (hs2.mono fun _ h => h.tail.tail) (all7R hr) (by rw [List.length_map]; omega))) ?_
  rintro _ _ ⟨pv, H1, rfl, hF1, X, rfl⟩
  refine TL_q rfl rfl (QT_move rfl rfl rfl) ?_
  refine TL_q rfl rfl (QT_extract rfl rfl rfl rfl) ?_
  refine TL_q rfl rfl (QT_extract rfl rfl rfl rfl) ?_
  refine TL_q rfl rfl (QT_assign rfl rfl rfl) ?_
  refine TL_q rfl rfl (QT_assign rfl rfl rfl) ?_
  refine TL_nil ?_
  refine TX_then ?_
  refine TC_seq ?_
  refine TC_reg ?_
  refine TL_q rfl rfl (QT_move rfl rfl rfl) ?_
  refine TL_q rfl rfl (QT_move rfl rfl rfl) ?_
  refine TL_q rfl rfl (QT_assign rfl rfl rfl) ?_
  refine TL_q rfl rfl (QT_assign rfl rfl rfl) ?_
  refine TL_q rfl rfl (QT_assign rfl rfl rfl) ?_
  refine TL_nil ?_
  refine TX_then ?_
  refine TC_ret ?_
  refine TX_then_ret ?_
  exact TX_ret (.inl rfl) (res3 rfl rfl rfl rfl) ⟨_, ⟨pv, H1, rfl, hF1, X, rfl⟩, fun w h => h.cnt fun p => by simp only [List.countP_append, List.countP_cons, List.countP_nil]; omega⟩
/-- the faces of a mesh: the refusal, the triangles, the patches -/
def faE (L : Lay) (rs ss : List (List Nat)) : Int := if kiE L rs.length ss.length = 0 then (if L.ty ≤ 5 then (trioF L (rs.map rvV)).2 else T12.errT L ss.length (flatS ss)) else kiE L rs.length ss.length
def faT (L : Lay) (rs ss : List (List Nat)) : List (List Value) := if kiE L rs.length ss.length = 0 ∧ L.ty ≤ 5 then (trioF L (rs.map rvV)).1 else []
def faN (L : Lay) (rs ss : List (List Nat)) : Nat := if kiE L rs.length ss.length = 0 ∧ ¬L.ty ≤ 5 then T12.cntT L ss.length (flatS ss) else 0
def faP (L : Lay) (rs ss : List (List Nat)) : List Value := if kiE L rs.length ss.length = 0 ∧ ¬L.ty ≤ 5 then T12.outT L ss.length (flatS ss) else []
end Go.Proofs.YtjdaglmkljbfkaaGreatDoor
namespace Go.Gx
open Go Go.RowKit
section
variable {P : Program} {n : Nat} {σ : Slots} {o : Oper} {x y : Operand} {t : TypeId}
/-- make, of zeros -/
theorem ET_makeN {w0 : Base} {η : Heap} {e size bytes : Nat} {zv : Value} {kl kc : IntKind} {p q : Int} (l cp : Nat) (zl : List Value) (hop : o.op = .makeSlice t x y) (ht : P.underlying t = some (.slice e)) (he : ElemOk P e size bytes zv)
    (hx : ev σ x = some (true, .int kl p)) (hy : ev σ y = some (true, .int kc q)) (hp : p = (l : Int)) (hq : q = (cp : Int)) (hlc : l ≤ cp) (hb : bytes * cp ≤ 281474976710656) (h63 : cp ≤ 9223372036854775807) (hzl : (madeCells zv.cells (cp * size)).toList = zl) :
    ET P n o σ (St w0 η) fun r A' => ∃ b, r = .slice (some ⟨b, 0, none⟩) l cp ∧ A' = St w0 ((b, e, zl) :: η) := by
  intro a w hf hw K Q hK
  subst hp hq
  obtain ⟨⟨i, hi, hs, hbt, hz⟩, hzs, hpos⟩ := he
  subst hs; subst hbt
  have hr := run_make (P := P) w t e i zv ht hi hz kl kc (l : Int) (cp : Int) (by omega) (by omega) (by rw [← Int.natCast_mul]; omega) (by omega)
  unfold Oper.wp
  have : (execOp a.eval o).run P w = .ok (.value (.slice (some ⟨w.heap.size, 0, none⟩) l cp)) (w.alloc (.cells (madeCells zv.cells (cp * i.size)) e)) := by
    simp [execOp, hop, hf.eval hx rfl, hf.eval hy rfl, hr]
  rw [this, Oper.upon_value]
  refine hK _ _ _ ⟨_, rfl, ?_⟩ (St.alloc hw e _)
  rw [← hzl]
end
end Go.Gx
namespace Go.Proofs.YtjdaglmkljbfkaaGreatDoor
open Go Go.Gx Go.RowKit
set_option maxRecDepth 100000
theorem sameOk_Mesh (w0 : Base) (η : Heap) (va ta vb tb : Value) (rs ss : List (List Nat)) (ha : SlA (St w0 η) va 7 rs.length (flatR rs)) (hb : SlA (St w0 η) vb 7 rs.length (flatR rs)) (hta : SlA (St w0 η) ta 49 ss.length (flatS ss)) (htb : SlA (St w0 η) tb 49 ss.length (flatS ss)) (hr : ∀ r ∈ rs, RcF r) (hq : ∀ r ∈ ss, ShF r) :
    CallsT Tryz.prog 11 [.agg #[va, ta], .agg #[vb, tb]] (St w0 η) fun v A' => v = .bool true ∧ A' = St w0 η := by
  obtain ⟨ada, ca, rfl⟩ := slval ha
  obtain ⟨adb, cb, rfl⟩ := slval hb
  obtain ⟨tda, da, rfl⟩ := slval hta
  obtain ⟨tdb, db, rfl⟩ := slval htb
  have h1 : ∀ X : Heap, (∀ w, St w0 X w → St w0 η w) → CallsT Tryz.prog 34 [.slice ada rs.length ca, .slice adb rs.length cb] (St w0 X) fun v A' => v = .bool true ∧ A' = St w0 X := fun X hX => by
    have h := same_Rec w0 X _ _ rs.length rs.length (flatR rs) (flatR rs) (ha.mono hX) (hb.mono hX) (flatR_ints hr) (flatR_ints hr)
    rwa [eqC_refl (flatR_ints hr)] at h
  have h2 : ∀ X : Heap, (∀ w, St w0 X w → St w0 η w) → CallsT Tryz.prog 35 [.slice tda ss.length da, .slice tdb ss.length db] (St w0 X) fun v A' => v = .bool true ∧ A' = St w0 X := fun X hX => by
    have h := same_Sheet w0 X _ _ ss.length ss.length (flatS ss) (flatS ss) (hta.mono hX) (htb.mono hX) (flatS_ints hq) (flatS_ints hq)
    rwa [eqC_refl (flatS_ints hq)] at h
  refine CallsT.body Tryz.func11 rfl rfl ?_
  simp only [Tryz.ntmps11, slotsOf, Nat.reduceAdd]
  refine TC_seq ?_
  refine TC_reg ?_
  refine TL_e rfl rfl rfl (rfl) (ET_box rfl rfl) ?_
  rintro _ _ ⟨b2, rfl, rfl⟩
  refine TL_e rfl rfl rfl (rfl) (ET_box rfl rfl) ?_
  rintro _ _ ⟨b3, rfl, rfl⟩
  refine TL_q rfl rfl (QT_assign rfl rfl rfl) ?_
  refine TL_nil ?_
  refine TX_then ?_
  refine TC_seq ?_
  refine TC_A (St w0 ((b3, 34, [.slice adb rs.length cb, .slice tdb ss.length db]) :: (b2, 34, [.slice ada rs.length ca, .slice tda ss.length da]) :: η)) (fun _ h => h) ?_
  refine TC_reg ?_
  refine TL_q rfl rfl (QT_field rfl rfl YtjdaglmkljbfkaaGreatDoorF.fld_34_0 rfl) ?_
  refine TL_q rfl rfl (QT_load 1 rfl rfl Tryz.underlying31 rfl rfl rfl (fun _ => rfl)) ?_
  refine TL_q rfl rfl (QT_field rfl rfl YtjdaglmkljbfkaaGreatDoorF.fld_34_0 rfl) ?_
  refine TL_q rfl rfl (QT_load 0 rfl rfl Tryz.underlying31 rfl rfl rfl (fun _ => rfl)) ?_
  refine TL_cq rfl rfl rfl rfl YtjdaglmkljbfkaaGreatDoorF.cal_34 rfl (fun _ => h1 _ fun _ h => h.tail.tail) ?_
  refine TL_q rfl rfl (QT_move rfl rfl rfl) ?_
  refine TL_q rfl rfl (QT_field rfl rfl YtjdaglmkljbfkaaGreatDoorF.fld_34_1 rfl) ?_
  refine TL_q rfl rfl (QT_load 1 rfl rfl Tryz.underlying32 rfl rfl rfl (fun _ => rfl)) ?_
  refine TL_q rfl rfl (QT_field rfl rfl YtjdaglmkljbfkaaGreatDoorF.fld_34_1 rfl) ?_
  refine TL_q rfl rfl (QT_load 0 rfl rfl Tryz.underlying32 rfl rfl rfl (fun _ => rfl)) ?_
  refine TL_cq rfl rfl rfl rfl YtjdaglmkljbfkaaGreatDoorF.cal_35 rfl (fun _ => h2 _ fun _ h => h.tail.tail) ?_
  refine TL_q rfl rfl (QT_and rfl rfl rfl rfl) ?_
  refine TL_q rfl rfl (QT_assign rfl rfl rfl) ?_
  refine TL_nil ?_
  refine TX_then ?_
  refine TC_ret ?_
  exact TX_ret (.inl rfl) (res1 rfl rfl) ⟨_, ⟨rfl, rfl⟩, fun _ h => h.tail.tail⟩
def L13 : Lay := ⟨4, 8, 8, 8, 1, 0, fun _ => 0⟩
def b13 : List Nat := [0, 1, 2, 3, 0, 4, 5, 6, 0, 7, 8, 9]
def r13 : List (List Nat) := [[0, 1, 2, 3, 0, 0, 0], [0, 4, 5, 6, 0, 0, 0], [0, 7, 8, 9, 0, 0, 0]]
def z7 : List Nat := [0, 0, 0, 0, 0, 0, 0]
def z49 : List Nat := List.replicate 49 0
theorem rcf_z7 : RcF z7 := rcf_chk rfl (by decide)
end Go.Proofs.YtjdaglmkljbfkaaGreatDoor
namespace Go.Proofs.YtjdaglmkljbfkaaGreatDoor
open Go Go.Gx Go.RowKit
set_option maxRecDepth 100000
theorem eq_SpotM : EqOk Tryz.prog 72 spotK := ⟨by kernel_rfl, by kernel_rfl, by kernel_rfl, by kernel_rfl⟩
theorem spot78 : Ints spotK [.int .u32 7, .int .u32 8] := by
  exact .cons (by decide) (.cons (by decide) .nil)
theorem callsT_N {P : Program} {f : FuncId} {vs : List Value} {B : Base} {η : Heap} {A : World → Prop} {x : Value} (h : CallsT P f vs A fun v A' => v = x ∧ A' = St B η) :
    CallsT P f vs A fun v A' => ∃ H, (v = x ∧ H = []) ∧ A' = St B (H ++ η) := h.mono fun _ _ ⟨hv, he⟩ => ⟨_, ⟨[], ⟨hv, rfl⟩, he⟩, fun _ h => h⟩
set_option maxHeartbeats 1000000 in
theorem encodeR_err (w0 : Base) (η : Heap) (hG : Sets w0) (L : Lay) (sv : Value) (rs : List (List Nat)) (hs : SlA (St w0 η) sv 7 rs.length (flatR rs)) (hr : ∀ r ∈ rs, RcF r) (hn : rs.length ≤ 100000000) (E : Int) (hE : (trioF L (rs.map rvV)).2 = E) (h0 : E ≠ 0) :
    CallsT Tryz.prog 96 [.agg kindA.toArray, L.val, sv] (St w0 η) fun v A' => v = .tuple #[nilS, .int .i64 E] ∧ A' = St w0 η := by
  have hs2 : SlA (St w0 η) sv 7 (rs.map rvV).length (rs.map rvV).flatten := by rw [List.length_map]; exact hs
  refine CallsT.body Tryz.func96 rfl rfl ?_
  simp only [Tryz.ntmps96, slotsOf, Nat.reduceAdd]
  refine TC_seq ?_
  refine TC_reg ?_
  refine TL_e rfl rfl rfl (rfl) (ET_box rfl rfl) ?_
  rintro _ _ ⟨b3, rfl, rfl⟩
  refine TL_e rfl rfl rfl (rfl) (ET_box rfl rfl) ?_
  rintro _ _ ⟨b4, rfl, rfl⟩
  refine TL_q rfl rfl (QT_assign rfl rfl rfl) ?_
  refine TL_q rfl rfl (QT_assign rfl rfl rfl) ?_
  refine TL_nil ?_
  refine TX_then ?_
  refine TC_seq ?_
  refine TC_seq ?_
  refine TC_A (St w0 ((b4, 27, L.cells) :: (b3, 166, kindA) :: η)) (fun _ h => h) ?_
  refine TC_reg ?_
  refine TL_q rfl rfl (QT_field rfl rfl YtjdaglmkljbfkaaGreatDoorF.fld_166_2 rfl) ?_
  refine TL_q rfl rfl (QT_load (v := .func (.func 81) #[] #[]) 1 rfl rfl Tryz.underlying156 rfl rfl rfl (fun _ => rfl)) ?_
  refine TL_q rfl rfl (QT_loadW 0 rfl rfl Tryz.underlying27 rfl rfl rfl YtjdaglmkljbfkaaGreatDoorF.sz_27) ?_
  refine TL_q rfl rfl (QT_move rfl rfl rfl) ?_
  refine TL_e rfl rfl rfl (rfl) (ET_goes (Goes.value rfl rfl YtjdaglmkljbfkaaGreatDoorF.cal_81 rfl) (of_spec w0 _ hG L _ (rs.map rvV) (hs2.mono fun _ h => h.tail.tail) (all7R hr) (by rw [List.length_map]; omega))) ?_
  rintro _ _ ⟨pv, H2, rfl, hF3, X, rfl⟩
  refine TL_q rfl rfl (QT_move rfl rfl rfl) ?_
  refine TL_q rfl rfl (QT_extract rfl rfl rfl rfl) ?_
  refine TL_q rfl rfl (QT_extract rfl rfl rfl rfl) ?_
  refine TL_q rfl rfl (QT_assign rfl rfl rfl) ?_
  refine TL_q rfl rfl (QT_assign rfl rfl rfl) ?_
  refine TL_nil ?_
  refine TX_then ?_
  refine TC_seq ?_
  refine TC_reg ?_
  refine TL_q rfl rfl (QT_move rfl rfl rfl) ?_
  refine TL_q rfl rfl (QT_neq rfl rfl rfl rfl) ?_
  refine TL_nil ?_
  refine TX_then ?_
  refine TC_cond rfl (fun _ => ?_) (fun h => absurd (h.symm.trans ((show decide ((trioF L (rs.map rvV)).2 ≠ 0) = true by rw [hE]; exact decide_eq_true h0))) (by decide))
  refine TC_seq ?_
  refine TC_reg ?_
  refine TL_q rfl rfl (QT_move rfl rfl rfl) ?_
  refine TL_q rfl rfl (QT_assign rfl rfl rfl) ?_
  refine TL_q rfl rfl (QT_assign rfl rfl rfl) ?_
  refine TL_nil ?_
  refine TX_then ?_
  refine TC_ret ?_
  refine TX_then_ret ?_
  exact TX_ret (.inl rfl) (res2 rfl rfl rfl) ⟨_, ⟨by rw [hE]; rfl, rfl⟩, fun w h => h.cnt fun p => by simp only [List.countP_append, List.countP_cons, List.countP_nil]; omega⟩
theorem encA_err (w0 : Base) (η : Heap) (hG : Sets w0) (L : Lay) (ra sa : Option Addr) (ns rc sc : Nat) (rs : List (List Nat)) (hs : SlA (St w0 η) (.slice ra rs.length rc) 7 rs.length (flatR rs)) (hr : ∀ r ∈ rs, RcF r) (hn : rs.length ≤ 100000000) (E : Int) (hE : (trioF L (rs.map rvV)).2 = E) (h0 : E ≠ 0) :
    CallsT Tryz.prog 95 [L.val, .agg #[.slice ra rs.length rc, .slice sa ns sc]] (St w0 η) fun v A' => v = .tuple #[nilS, .int .i64 E] ∧ A' = St w0 η := by
  refine CallsT.body Tryz.func95 rfl rfl ?_
  simp only [Tryz.ntmps95, slotsOf, Nat.reduceAdd]
  refine TC_seq ?_
  refine TC_reg ?_
  refine TL_e rfl rfl rfl (rfl) (ET_box rfl rfl) ?_
  rintro _ _ ⟨b2, rfl, rfl⟩
  refine TL_e rfl rfl rfl (rfl) (ET_box rfl rfl) ?_
  rintro _ _ ⟨b3, rfl, rfl⟩
  refine TL_q rfl rfl (QT_assign rfl rfl rfl) ?_
  refine TL_q rfl rfl (QT_assign rfl rfl rfl) ?_
  refine TL_nil ?_
  refine TX_then ?_
  refine TC_seq ?_
  refine TC_A (St w0 ((b3, 34, [.slice ra rs.length rc, .slice sa ns sc]) :: (b2, 27, L.cells) :: η)) (fun _ h => h) ?_
  refine TC_draw [(1, 0), (2, 0), (3, 0), (0, 1), (4, 1), (5, 0), (6, 0), (7, 0), (8, 0)] YtjdaglmkljbfkaaGreatDoorF.mixed (by kernel_rfl) (St.calm _ _) ?_
  refine TV_ql rfl rfl rfl (QT_loadW 1 rfl rfl Tryz.underlying27 rfl rfl rfl YtjdaglmkljbfkaaGreatDoorF.sz_27) ?_
  refine TV_q rfl rfl rfl (fun _ => QT_field rfl rfl YtjdaglmkljbfkaaGreatDoorF.fld_34_0 rfl) ?_
  refine TV_ql rfl rfl rfl (QT_load 0 rfl rfl Tryz.underlying31 rfl rfl rfl (fun _ => rfl)) ?_
  refine TV_cq rfl rfl rfl rfl rfl YtjdaglmkljbfkaaGreatDoorF.cal_94 rfl (fun _ => vertices_spec w0 _) (.keep (by kernel_rfl) rfl (by first | exact QT_load 0 rfl rfl Tryz.underlying31 rfl rfl rfl (fun _ => rfl) | exact QT_load 1 rfl rfl Tryz.underlying31 rfl rfl rfl (fun _ => rfl) | exact QT_load 2 rfl rfl Tryz.underlying31 rfl rfl rfl (fun _ => rfl)) (.keep (by kernel_rfl) rfl (by first | exact QT_loadW 0 rfl rfl Tryz.underlying27 rfl rfl rfl YtjdaglmkljbfkaaGreatDoorF.sz_27 | exact QT_loadW 1 rfl rfl Tryz.underlying27 rfl rfl rfl YtjdaglmkljbfkaaGreatDoorF.sz_27 | exact QT_loadW 2 rfl rfl Tryz.underlying27 rfl rfl rfl YtjdaglmkljbfkaaGreatDoorF.sz_27 | exact QT_loadA 0 rfl rfl Tryz.underlying27 rfl rfl rfl YtjdaglmkljbfkaaGreatDoorF.sz_27 (fun _ => rfl) | exact QT_loadA 1 rfl rfl Tryz.underlying27 rfl rfl rfl YtjdaglmkljbfkaaGreatDoorF.sz_27 (fun _ => rfl) | exact QT_loadA 2 rfl rfl Tryz.underlying27 rfl rfl rfl YtjdaglmkljbfkaaGreatDoorF.sz_27 (fun _ => rfl)) (.nil))) ?_
  refine TV_e rfl rfl rfl rfl (rfl) (ET_call rfl YtjdaglmkljbfkaaGreatDoorF.cal_96 rfl (encodeR_err w0 _ hG L _ rs (hs.mono fun _ h => h.tail.tail) hr hn E hE h0)) ?_
  rintro _ _ ⟨rfl, rfl⟩
  refine ⟨_, .drop (by kernel_rfl) (.drop (by kernel_rfl) (.nil)), ?_⟩
  refine TV_q rfl rfl rfl (fun _ => QT_extract rfl rfl rfl rfl) ?_
  refine TV_q rfl rfl rfl (fun _ => QT_extract rfl rfl rfl rfl) ?_
  refine TV_q rfl rfl rfl (fun _ => QT_assign rfl rfl rfl) ?_
  refine TV_q rfl rfl rfl (fun _ => QT_assign rfl rfl rfl) ?_
  refine TV_end ?_
  refine TX_then ?_
  refine TC_ret ?_
  exact TX_ret (.inl rfl) (res2 rfl rfl rfl) ⟨_, ⟨rfl, rfl⟩, fun w h => h.tail.tail⟩
set_option maxHeartbeats 1000000 in
theorem Encode_err (w0 : Base) (η : Heap) (hG : Sets w0) (L : Lay) (hk : okB L = true) (hty : (L.ty = 4 ∨ L.ty = 5)) (ra sa : Option Addr) (n rc sc : Nat) (rs : List (List Nat)) (hs : SlA (St w0 η) (.slice ra rs.length rc) 7 rs.length (flatR rs)) (hr : ∀ r ∈ rs, RcF r) (hn : rs.length ≤ 100000000) (h0 : n = 0) (E : Int) (hE : (trioF L (rs.map rvV)).2 = E) (hE0 : E ≠ 0) :
    CallsT Tryz.prog 15 [L.val, .agg #[.slice ra rs.length rc, .slice sa n sc]] (St w0 η) fun v A' => v = .tuple #[nilS, .int .i64 E] ∧ A' = St w0 η := by
  obtain ⟨j, hj⟩ := ways_A hty
  have he : (if n = 0 then (0 : Int) else 1) = 0 := if_pos h0
  refine CallsT.body Tryz.func15 rfl rfl ?_
  simp only [Tryz.ntmps15, slotsOf, Nat.reduceAdd]
  refine TC_seq ?_
  refine TC_reg ?_
  refine TL_e rfl rfl rfl (rfl) (ET_box rfl rfl) ?_
  rintro _ _ ⟨b2, rfl, rfl⟩
  refine TL_e rfl rfl rfl (rfl) (ET_box rfl rfl) ?_
  rintro _ _ ⟨b3, rfl, rfl⟩
  refine TL_q rfl rfl (QT_assign rfl rfl rfl) ?_
  refine TL_q rfl rfl (QT_assign rfl rfl rfl) ?_
  refine TL_nil ?_
  refine TX_then ?_
  refine TC_seq ?_
  refine TC_seq ?_
  refine TC_A (St w0 ((b3, 34, [.slice ra rs.length rc, .slice sa n sc]) :: (b2, 27, L.cells) :: η)) (fun _ h => h) ?_
  refine TC_reg ?_
  refine TL_q rfl rfl (QT_loadW 1 rfl rfl Tryz.underlying27 rfl rfl rfl YtjdaglmkljbfkaaGreatDoorF.sz_27) ?_
  refine TL_q rfl rfl (QT_loadW 0 rfl rfl Tryz.underlying34 rfl rfl rfl YtjdaglmkljbfkaaGreatDoorF.sz_34) ?_
  refine TL_cq rfl rfl rfl rfl YtjdaglmkljbfkaaGreatDoorF.cal_78 rfl (fun _ => may_A w0 _ hG L hk hty _ _ _ _ _ _) ?_
  refine TL_q rfl rfl (QT_assign rfl rfl rfl) ?_
  refine TL_nil ?_
  refine TX_then ?_
  refine TC_seq ?_
  refine TC_reg ?_
  refine TL_q rfl rfl (QT_move rfl rfl rfl) ?_
  refine TL_q rfl rfl (QT_neq rfl rfl rfl rfl) ?_
  refine TL_nil ?_
  refine TX_then ?_
  refine TC_cond rfl (fun h => absurd (h.symm.trans ((show decide ((if n = 0 then (0 : Int) else 1) ≠ 0) = false by rw [he]; decide))) (by decide)) (fun _ => ?_)
  refine TC_skip ?_
  refine TX_then ?_
  refine TC_seq ?_
  refine TC_draw [(1, 0), (2, 0), (5, 0), (6, 0), (0, 1), (3, 0), (4, 0), (7, 1), (8, 0), (9, 0), (10, 0), (11, 0)] YtjdaglmkljbfkaaGreatDoorF.mixed (by kernel_rfl) (St.calm _ _) ?_
  refine TV_q rfl rfl rfl (fun _ => QT_field rfl rfl YtjdaglmkljbfkaaGreatDoorF.fld_27_0 rfl) ?_
  refine TV_ql rfl rfl rfl (QT_load (v := .int .i64 L.ty) 1 rfl rfl Tryz.underlying3 rfl rfl rfl (fun _ => rfl)) ?_
  refine TV_ql rfl rfl rfl (QT_loadW (cs := L.cells) 1 rfl rfl Tryz.underlying27 rfl rfl rfl YtjdaglmkljbfkaaGreatDoorF.sz_27) ?_
  refine TV_ql rfl rfl rfl (QT_loadW (cs := [.slice ra rs.length rc, .slice sa n sc]) 0 rfl rfl Tryz.underlying34 rfl rfl rfl YtjdaglmkljbfkaaGreatDoorF.sz_34) ?_
  refine TV_e rfl rfl rfl rfl (rfl) (ET_call rfl YtjdaglmkljbfkaaGreatDoorF.cal_27 rfl (byType_spec w0 _)) ?_
  rintro _ _ ⟨m13, rfl, rfl⟩
  refine ⟨_, .keep (by kernel_rfl) rfl (by first | exact QT_loadW (cs := [.slice ra rs.length rc, .slice sa n sc]) 0 rfl rfl Tryz.underlying34 rfl rfl rfl YtjdaglmkljbfkaaGreatDoorF.sz_34 | exact QT_under (QT_loadW (w0 := w0) (η := (b3, 34, [.slice ra rs.length rc, .slice sa n sc]) :: (b2, 27, L.cells) :: η) (cs := [.slice ra rs.length rc, .slice sa n sc]) 0 rfl rfl Tryz.underlying34 rfl rfl rfl YtjdaglmkljbfkaaGreatDoorF.sz_34) (fun w h => h.1)) (.keep (by kernel_rfl) rfl (by first | exact QT_loadW (cs := L.cells) 1 rfl rfl Tryz.underlying27 rfl rfl rfl YtjdaglmkljbfkaaGreatDoorF.sz_27 | exact QT_under (QT_loadW (w0 := w0) (η := (b3, 34, [.slice ra rs.length rc, .slice sa n sc]) :: (b2, 27, L.cells) :: η) (cs := L.cells) 1 rfl rfl Tryz.underlying27 rfl rfl rfl YtjdaglmkljbfkaaGreatDoorF.sz_27) (fun w h => h.1)) (.keep (by kernel_rfl) rfl (by first | exact QT_load (v := .int .i64 L.ty) 1 rfl rfl Tryz.underlying3 rfl rfl rfl (fun _ => rfl) | exact QT_under (QT_load (w0 := w0) (η := (b3, 34, [.slice ra rs.length rc, .slice sa n sc]) :: (b2, 27, L.cells) :: η) (v := .int .i64 L.ty) 1 rfl rfl Tryz.underlying3 rfl rfl rfl (fun _ => rfl)) (fun w h => h.1) | exact QT_under (QT_load (w0 := w0) (η := (b3, 34, [.slice ra rs.length rc, .slice sa n sc]) :: (b2, 27, L.cells) :: η) (v := .int .i64 L.ty) 1 rfl rfl Tryz.underlying3 rfl rfl rfl (fun _ => rfl)) (fun w h => h.1.app_right)) (.nil))), ?_⟩
  refine TV_ql rfl rfl rfl ((by exact QT_lookup rfl rfl rfl rfl Tryz.underlying85 Tryz.underlying3 (show MapKept.IsKey (.int .i64) (.int .i64 L.ty) from rfl) hj)) ?_
  refine TV_q rfl rfl rfl (fun _ => QT_fieldv rfl rfl Tryz.underlying84 rfl Tryz.underlying60 rfl rfl (fun _ => rfl)) ?_
  refine TV_e rfl rfl rfl rfl (rfl) (ET_goes (Goes.value rfl rfl YtjdaglmkljbfkaaGreatDoorF.cal_95 rfl) (callsT_mapH fun B h1 h2 => callsT_N (encA_err B ((b3, 34, [.slice ra rs.length rc, .slice sa n sc]) :: (b2, 27, L.cells) :: η) (hG.up h2) L _ _ _ _ _ rs (hs.mono fun w h => (h1 w h).tail.tail) hr hn E hE hE0))) ?_
  rintro _ _ ⟨H1, ⟨rfl, rfl⟩, rfl⟩
  refine ⟨_, .keep (by kernel_rfl) rfl (by first | exact (by exact QT_lookup rfl rfl rfl rfl Tryz.underlying85 Tryz.underlying3 (show MapKept.IsKey (.int .i64) (.int .i64 L.ty) from rfl) hj)) (.drop (by kernel_rfl) (.drop (by kernel_rfl) (.keep (by kernel_rfl) rfl (by first | exact QT_load (v := .int .i64 L.ty) 1 rfl rfl Tryz.underlying3 rfl rfl rfl (fun _ => rfl) | exact QT_under (QT_load (w0 := w0) (η := (b3, 34, [.slice ra rs.length rc, .slice sa n sc]) :: (b2, 27, L.cells) :: η) (v := .int .i64 L.ty) 1 rfl rfl Tryz.underlying3 rfl rfl rfl (fun _ => rfl)) (fun w h => h.1) | exact QT_under (QT_load (w0 := w0) (η := (b3, 34, [.slice ra rs.length rc, .slice sa n sc]) :: (b2, 27, L.cells) :: η) (v := .int .i64 L.ty) 1 rfl rfl Tryz.underlying3 rfl rfl rfl (fun _ => rfl)) (fun w h => h.1.app_right)) (.nil)))), ?_⟩
  refine TV_q rfl rfl rfl (fun _ => QT_extract rfl rfl rfl rfl) ?_
  refine TV_q rfl rfl rfl (fun _ => QT_extract rfl rfl rfl rfl) ?_
  refine TV_q rfl rfl rfl (fun _ => QT_assign rfl rfl rfl) ?_
  refine TV_q rfl rfl rfl (fun _ => QT_assign rfl rfl rfl) ?_
  refine TV_end ?_
  refine TX_then ?_
  refine TC_ret ?_
  exact TX_ret (.inl rfl) (res2 rfl rfl rfl) ⟨_, ⟨rfl, rfl⟩, fun w h => h.1.tail.tail⟩
theorem m13_1 : dcE L13 b13 = 0 ∧ dcO L13 b13 = r13 := by decide +kernel
theorem m13_2 : (trioF L13 (r13.map rvV)).2 = 0 ∧ (trioF L13 (r13.map rvV)).1.length = 1 := by decide +kernel
theorem m13_3 : dcE L13 [1, 2, 3, 4] = 6 := by decide +kernel
theorem m13_4 : dcE L13 [0, 1, 2] = 5 := by decide +kernel
theorem m13_7 : ((trioF L13 (r13.map rvV)).1.flatten.drop 15).take 2 = [.int .u32 7, .int .u32 8] := by kernel_rfl
theorem m13_may (w0 : Base) (hG : Sets w0) {ra sa : Option Addr} {rc sc : Nat} (X : Heap) : CallsT Tryz.prog 78 [L13.val, .agg #[.slice ra 0 rc, .slice sa 1 sc]] (St w0 X) fun v A' => v = .int .i64 1 ∧ A' = St w0 X :=
  may_A w0 X hG L13 (by decide +kernel) (.inl rfl) ra sa 0 1 rc sc
set_option maxHeartbeats 4000000 in
theorem lives13 (w0 : Base) (η : Heap) (hG : Sets w0) (hE : T12.Edges w0) :
    CallsT Tryz.prog 5 [] (St w0 η) fun v A' => v = .bool true ∧ A' = St w0 η := by
  refine CallsT.body Tryz.func5 rfl rfl ?_
  simp only [Tryz.ntmps5, slotsOf, Nat.reduceAdd]
  refine TC_seq ?_
  refine TC_reg ?_
  refine TL_q rfl rfl (QT_assign rfl rfl rfl) ?_
  refine TL_nil ?_
  refine TX_then ?_
  refine TC_seq ?_
  refine TC_reg ?_
  refine TL_q rfl rfl (QT_build rfl rfl YtjdaglmkljbfkaaGreatDoorF.zero_27 YtjdaglmkljbfkaaGreatDoorF.pl_27 rfl rfl rfl) ?_
  refine TL_e rfl rfl rfl (rfl) (ET_alloc rfl YtjdaglmkljbfkaaGreatDoorF.zero_27) ?_
  rintro _ _ ⟨b1, rfl, rfl⟩
  refine TL_e0 rfl rfl (rfl) (ET_storeW 0 rfl rfl rfl YtjdaglmkljbfkaaGreatDoorF.sz_27 rfl rfl rfl) ?_
  rintro _ _ ⟨rfl, rfl⟩
  refine TL_nil ?_
  refine TX_then ?_
  refine TC_seq ?_
  refine TC_A (St w0 ((b1, 27, L13.cells) :: η)) (fun _ h => h) ?_
  refine TC_reg ?_
  refine TL_q rfl rfl (QT_loadW 0 rfl rfl Tryz.underlying27 rfl rfl rfl YtjdaglmkljbfkaaGreatDoorF.sz_27) ?_
  refine TL_e rfl rfl rfl (rfl) (ET_buildN [_, _, _, _, _, _, _, _, _, _, _, _] rfl Tryz.underlying28 YtjdaglmkljbfkaaGreatDoorF.sz_5 YtjdaglmkljbfkaaGreatDoorF.zero_5 rfl rfl rfl (fun v hv => by simp only [List.mem_cons, List.not_mem_nil, or_false] at hv; rcases hv with rfl | rfl | rfl | rfl | rfl | rfl | rfl | rfl | rfl | rfl | rfl | rfl <;> rfl)) ?_
  rintro _ _ ⟨b18, rfl, rfl⟩
  refine TL_e rfl rfl rfl (rfl) (ET_call rfl YtjdaglmkljbfkaaGreatDoorF.cal_7 rfl (Decode_A w0 _ hG L13 (by decide +kernel) (.inl rfl) _ b13 (SlA.own (n := 12) (xs := byV b13) 0 rfl rfl (by decide) (by decide)) (by decide))) ?_
  rintro _ _ ⟨rv2, H2, rfl, hF2, rfl⟩
  refine TL_q rfl rfl (QT_move rfl rfl rfl) ?_
  refine TL_q rfl rfl (QT_extract rfl rfl rfl rfl) ?_
  refine TL_q rfl rfl (QT_extract rfl rfl rfl rfl) ?_
  refine TL_e rfl rfl rfl (rfl) (ET_alloc rfl YtjdaglmkljbfkaaGreatDoorF.zero_34) ?_
  rintro _ _ ⟨b2, rfl, rfl⟩
  rw [m13_1.2] at hF2
  obtain ⟨ad2, cap2, rfl, _, _⟩ := hF2.slice
  refine TL_e0 rfl rfl (rfl) (ET_storeW 0 rfl rfl rfl YtjdaglmkljbfkaaGreatDoorF.sz_34 rfl rfl rfl) ?_
  rintro _ _ ⟨rfl, rfl⟩
  refine TL_q rfl rfl (QT_assign rfl rfl rfl) ?_
  refine TL_nil ?_
  refine TX_then ?_
  refine TC_seq ?_
  simp only [m13_1.1]
  refine TC_A (St w0 ((b2, 34, [.slice ad2 r13.length cap2, nilS]) :: (b1, 27, L13.cells) :: (H2 ++ η))) (fun w h => h.cnt fun p => by simp only [upd, List.countP_append, List.countP_cons, List.countP_nil]; omega) ?_
  refine TC_reg ?_
  refine TL_q rfl rfl (QT_loadW 1 rfl rfl Tryz.underlying27 rfl rfl rfl YtjdaglmkljbfkaaGreatDoorF.sz_27) ?_
  refine TL_q rfl rfl (QT_loadW 0 rfl rfl Tryz.underlying34 rfl rfl rfl YtjdaglmkljbfkaaGreatDoorF.sz_34) ?_
  refine TL_e rfl rfl rfl (rfl) (ET_call rfl YtjdaglmkljbfkaaGreatDoorF.cal_17 rfl (Faces_A w0 _ hG L13 (by decide) _ _ _ _ _ r13 (hF2.within fun p => by simp only [List.countP_append, List.countP_cons]; omega) (fun r hr => by simp only [r13, List.mem_cons, List.not_mem_nil, or_false] at hr; rcases hr with rfl | rfl | rfl <;> exact rcf_chk rfl (by decide)) (by decide) (by decide +kernel))) ?_
  rintro _ _ ⟨pv, H4, rfl, hF4, X4, rfl⟩
  refine TL_q rfl rfl (QT_move rfl rfl rfl) ?_
  refine TL_q rfl rfl (QT_extract rfl rfl rfl rfl) ?_
  refine TL_q rfl rfl (QT_extract rfl rfl rfl rfl) ?_
  refine TL_q rfl rfl (QT_extract rfl rfl rfl rfl) ?_
  refine TL_q rfl rfl (QT_assign rfl rfl rfl) ?_
  refine TL_q rfl rfl (QT_assign rfl rfl rfl) ?_
  refine TL_q rfl rfl (QT_assign rfl rfl rfl) ?_
  refine TL_nil ?_
  refine TX_then ?_
  refine TC_seq ?_
  rw [m13_2.2] at hF4
  simp only [m13_2.1]
  obtain ⟨ad4, cap4, rfl, _, h4⟩ := hF4.slice
  obtain ⟨b40, rest4, rfl, hH4⟩ := h4 (by decide)
  refine TC_A (St w0 ((b2, 34, [.slice ad2 r13.length cap2, nilS]) :: (b1, 27, L13.cells) :: (H4 ++ η))) (fun w h => h.cnt fun p => by simp only [List.countP_append, List.countP_cons, List.countP_nil]; omega) ?_
  refine TC_reg ?_
  refine TL_q rfl rfl (QT_loadW 1 rfl rfl Tryz.underlying27 rfl rfl rfl YtjdaglmkljbfkaaGreatDoorF.sz_27) ?_
  refine TL_e rfl rfl rfl (rfl) (ET_buildN [_, _, _, _] rfl Tryz.underlying28 YtjdaglmkljbfkaaGreatDoorF.sz_5 YtjdaglmkljbfkaaGreatDoorF.zero_5 rfl rfl rfl (fun v hv => by simp only [List.mem_cons, List.not_mem_nil, or_false] at hv; rcases hv with rfl | rfl | rfl | rfl <;> rfl)) ?_
  rintro _ _ ⟨b31, rfl, rfl⟩
  refine TL_e rfl rfl rfl (rfl) (ET_call rfl YtjdaglmkljbfkaaGreatDoorF.cal_7 rfl (Decode_A w0 _ hG L13 (by decide +kernel) (.inl rfl) _ [1, 2, 3, 4] (SlA.own (n := 4) (xs := byV [1, 2, 3, 4]) 0 rfl rfl (by decide) (by decide)) (by decide))) ?_
  rintro _ _ ⟨rv7, H7, rfl, hF7, rfl⟩
  refine TL_q rfl rfl (QT_move rfl rfl rfl) ?_
  refine TL_q rfl rfl (QT_extract rfl rfl rfl rfl) ?_
  refine TL_q rfl rfl (QT_extract rfl rfl rfl rfl) ?_
  refine TL_e rfl rfl rfl (rfl) (ET_alloc rfl YtjdaglmkljbfkaaGreatDoorF.zero_34) ?_
  rintro _ _ ⟨b7, rfl, rfl⟩
  obtain ⟨ad7, cap7, rfl, _, _⟩ := hF7.slice
  refine TL_e0 rfl rfl (rfl) (ET_storeW 0 rfl rfl rfl YtjdaglmkljbfkaaGreatDoorF.sz_34 rfl rfl rfl) ?_
  rintro _ _ ⟨rfl, rfl⟩
  refine TL_q rfl rfl (QT_assign rfl rfl rfl) ?_
  refine TL_nil ?_
  refine TX_then ?_
  refine TC_seq ?_
  simp only [m13_3]
  refine TC_A (St w0 ((b2, 34, [.slice ad2 r13.length cap2, nilS]) :: (b1, 27, L13.cells) :: (H4 ++ η))) (fun w h => h.cnt fun p => by simp only [upd, List.countP_append, List.countP_cons, List.countP_nil]; omega) ?_
  refine TC_reg ?_
  refine TL_q rfl rfl (QT_loadW 1 rfl rfl Tryz.underlying27 rfl rfl rfl YtjdaglmkljbfkaaGreatDoorF.sz_27) ?_
  refine TL_e rfl rfl rfl (rfl) (ET_buildN [_, _, _] rfl Tryz.underlying28 YtjdaglmkljbfkaaGreatDoorF.sz_5 YtjdaglmkljbfkaaGreatDoorF.zero_5 rfl rfl rfl (fun v hv => by simp only [List.mem_cons, List.not_mem_nil, or_false] at hv; rcases hv with rfl | rfl | rfl <;> rfl)) ?_
  rintro _ _ ⟨b37, rfl, rfl⟩
  refine TL_e rfl rfl rfl (rfl) (ET_call rfl YtjdaglmkljbfkaaGreatDoorF.cal_7 rfl (Decode_A w0 _ hG L13 (by decide +kernel) (.inl rfl) _ [0, 1, 2] (SlA.own (n := 3) (xs := byV [0, 1, 2]) 0 rfl rfl (by decide) (by decide)) (by decide))) ?_
  rintro _ _ ⟨rv9, H9, rfl, hF9, rfl⟩
  refine TL_q rfl rfl (QT_move rfl rfl rfl) ?_
  refine TL_q rfl rfl (QT_extract rfl rfl rfl rfl) ?_
  refine TL_q rfl rfl (QT_extract rfl rfl rfl rfl) ?_
  refine TL_e rfl rfl rfl (rfl) (ET_alloc rfl YtjdaglmkljbfkaaGreatDoorF.zero_34) ?_
  rintro _ _ ⟨b9, rfl, rfl⟩
  obtain ⟨ad9, cap9, rfl, _, _⟩ := hF9.slice
  refine TL_e0 rfl rfl (rfl) (ET_storeW 0 rfl rfl rfl YtjdaglmkljbfkaaGreatDoorF.sz_34 rfl rfl rfl) ?_
  rintro _ _ ⟨rfl, rfl⟩
  refine TL_q rfl rfl (QT_assign rfl rfl rfl) ?_
  refine TL_nil ?_
  refine TX_then ?_
  refine TC_seq ?_
  simp only [m13_4]
  refine TC_A (St w0 ((b2, 34, [.slice ad2 r13.length cap2, nilS]) :: (b1, 27, L13.cells) :: (H4 ++ η))) (fun w h => h.cnt fun p => by simp only [upd, List.countP_append, List.countP_cons, List.countP_nil]; omega) ?_
  refine TC_draw [(0, 0), (1, 1), (2, 0), (3, 1), (4, 0), (5, 0), (6, 0), (7, 0), (8, 0)] YtjdaglmkljbfkaaGreatDoorF.mixed (by kernel_rfl) (St.calm _ _) ?_
  refine TV_ql rfl rfl rfl (QT_loadW 1 rfl rfl Tryz.underlying27 rfl rfl rfl YtjdaglmkljbfkaaGreatDoorF.sz_27) ?_
  refine TV_e rfl rfl rfl rfl (rfl) (ET_makeN 1 1 (flatS [z49]) rfl Tryz.underlying32 el_Sheet rfl rfl rfl rfl (by decide) (by decide) (by decide) (by kernel_rfl)) ?_
  rintro _ _ ⟨b43, rfl, rfl⟩
  refine ⟨_, .keep (by kernel_rfl) rfl (by first | exact QT_loadW 0 rfl rfl Tryz.underlying27 rfl rfl rfl YtjdaglmkljbfkaaGreatDoorF.sz_27 | exact QT_loadW 1 rfl rfl Tryz.underlying27 rfl rfl rfl YtjdaglmkljbfkaaGreatDoorF.sz_27 | exact QT_loadW 2 rfl rfl Tryz.underlying27 rfl rfl rfl YtjdaglmkljbfkaaGreatDoorF.sz_27 | exact QT_loadA 0 rfl rfl Tryz.underlying27 rfl rfl rfl YtjdaglmkljbfkaaGreatDoorF.sz_27 (fun _ => rfl) | exact QT_loadA 1 rfl rfl Tryz.underlying27 rfl rfl rfl YtjdaglmkljbfkaaGreatDoorF.sz_27 (fun _ => rfl) | exact QT_loadA 2 rfl rfl Tryz.underlying27 rfl rfl rfl YtjdaglmkljbfkaaGreatDoorF.sz_27 (fun _ => rfl)) (.nil), ?_⟩
  refine TV_q rfl rfl rfl (fun _ => QT_build rfl rfl YtjdaglmkljbfkaaGreatDoorF.zero_34 YtjdaglmkljbfkaaGreatDoorF.pl_34 rfl rfl rfl) ?_
  refine TV_e rfl rfl rfl rfl (rfl) (ET_call rfl YtjdaglmkljbfkaaGreatDoorF.cal_15 rfl (Encode_no w0 _ L13 _ _ _ _ _ _ 1 (by decide) (m13_may w0 hG))) ?_
  rintro _ _ ⟨rfl, rfl⟩
  refine ⟨_, .drop (by kernel_rfl) (.nil), ?_⟩
  refine TV_q rfl rfl rfl (fun _ => QT_move rfl rfl rfl) ?_
  refine TV_q rfl rfl rfl (fun _ => QT_extract rfl rfl rfl rfl) ?_
  refine TV_q rfl rfl rfl (fun _ => QT_extract rfl rfl rfl rfl) ?_
  refine TV_q rfl rfl rfl (fun _ => QT_assign rfl rfl rfl) ?_
  refine TV_q rfl rfl rfl (fun _ => QT_assign rfl rfl rfl) ?_
  refine TV_end ?_
  refine TX_then ?_
  refine TC_seq ?_
  refine TC_A (St w0 ((b2, 34, [.slice ad2 r13.length cap2, nilS]) :: (b1, 27, L13.cells) :: (H4 ++ η))) (fun w h => h.cnt fun p => by simp only [upd, List.countP_append, List.countP_cons, List.countP_nil]; omega) ?_
  refine TC_draw [(0, 0), (1, 1), (2, 0), (3, 1), (4, 0), (5, 0), (6, 0), (7, 0), (8, 0)] YtjdaglmkljbfkaaGreatDoorF.mixed (by kernel_rfl) (St.calm _ _) ?_
  refine TV_ql rfl rfl rfl (QT_loadW 1 rfl rfl Tryz.underlying27 rfl rfl rfl YtjdaglmkljbfkaaGreatDoorF.sz_27) ?_
  refine TV_e rfl rfl rfl rfl (rfl) (ET_makeN 2 2 (flatR [z7, z7]) rfl Tryz.underlying31 el_Rec rfl rfl rfl rfl (by decide) (by decide) (by decide) (by kernel_rfl)) ?_
  rintro _ _ ⟨b50, rfl, rfl⟩
  refine ⟨_, .keep (by kernel_rfl) rfl (by first | exact QT_loadW 0 rfl rfl Tryz.underlying27 rfl rfl rfl YtjdaglmkljbfkaaGreatDoorF.sz_27 | exact QT_loadW 1 rfl rfl Tryz.underlying27 rfl rfl rfl YtjdaglmkljbfkaaGreatDoorF.sz_27 | exact QT_loadW 2 rfl rfl Tryz.underlying27 rfl rfl rfl YtjdaglmkljbfkaaGreatDoorF.sz_27 | exact QT_loadA 0 rfl rfl Tryz.underlying27 rfl rfl rfl YtjdaglmkljbfkaaGreatDoorF.sz_27 (fun _ => rfl) | exact QT_loadA 1 rfl rfl Tryz.underlying27 rfl rfl rfl YtjdaglmkljbfkaaGreatDoorF.sz_27 (fun _ => rfl) | exact QT_loadA 2 rfl rfl Tryz.underlying27 rfl rfl rfl YtjdaglmkljbfkaaGreatDoorF.sz_27 (fun _ => rfl)) (.nil), ?_⟩
  refine TV_q rfl rfl rfl (fun _ => QT_build rfl rfl YtjdaglmkljbfkaaGreatDoorF.zero_34 YtjdaglmkljbfkaaGreatDoorF.pl_34 rfl rfl rfl) ?_
  refine TV_e rfl rfl rfl rfl (rfl) (ET_call rfl YtjdaglmkljbfkaaGreatDoorF.cal_15 rfl (Encode_err w0 _ hG L13 (by decide +kernel) (.inl rfl) _ _ _ _ _ [z7, z7] (SlA.own (n := 2) (off := 0) (xs := flatR [z7, z7]) 0 rfl rfl (by decide) (by decide)) (fun r hr => by simp only [List.mem_cons, List.not_mem_nil, or_false, or_self] at hr; subst hr; exact rcf_z7) (by decide) rfl 5 (by decide +kernel) (by decide))) ?_
  rintro _ _ ⟨rfl, rfl⟩
  refine ⟨_, .drop (by kernel_rfl) (.nil), ?_⟩
  refine TV_q rfl rfl rfl (fun _ => QT_move rfl rfl rfl) ?_
  refine TV_q rfl rfl rfl (fun _ => QT_extract rfl rfl rfl rfl) ?_
  refine TV_q rfl rfl rfl (fun _ => QT_extract rfl rfl rfl rfl) ?_
  refine TV_q rfl rfl rfl (fun _ => QT_assign rfl rfl rfl) ?_
  refine TV_q rfl rfl rfl (fun _ => QT_assign rfl rfl rfl) ?_
  refine TV_end ?_
  refine TX_then ?_
  refine TC_seq ?_
  refine TC_A (St w0 ((b2, 34, [.slice ad2 r13.length cap2, nilS]) :: (b1, 27, L13.cells) :: (H4 ++ η))) (fun w h => h.cnt fun p => by simp only [upd, List.countP_append, List.countP_cons, List.countP_nil]; omega) ?_
  have hrd4 : Rd (St w0 ((b2, 34, [.slice ad2 r13.length cap2, nilS]) :: (b1, 27, L13.cells) :: (H4 ++ η))) b40 0 (trioF L13 (r13.map rvV)).1.flatten := Rd.ownA (T := 79) (cs := (trioF L13 (r13.map rvV)).1.flatten ++ rest4) (by rw [hH4]; simp) 0 (by simp)
  refine TC_reg ?_
  refine TL_q rfl rfl (QT_field rfl rfl YtjdaglmkljbfkaaGreatDoorF.fld_34_0 rfl) ?_
  refine TL_q rfl rfl (QT_load 0 rfl rfl Tryz.underlying31 rfl rfl rfl (fun _ => rfl)) ?_
  refine TL_q rfl rfl (QT_len rfl rfl Tryz.underlying31 rfl) ?_
  refine TL_q rfl rfl (QT_eql rfl rfl rfl rfl) ?_
  refine TL_q rfl rfl (QT_move rfl rfl rfl) ?_
  refine TL_q rfl rfl (QT_move rfl rfl rfl) ?_
  refine TL_q rfl rfl (QT_eql rfl rfl rfl rfl) ?_
  refine TL_q rfl rfl (QT_and rfl rfl rfl rfl) ?_
  refine TL_q rfl rfl (QT_move rfl rfl rfl) ?_
  refine TL_q rfl rfl (QT_move rfl rfl rfl) ?_
  refine TL_q rfl rfl (QT_len rfl rfl Tryz.underlying61 rfl) ?_
  refine TL_q rfl rfl (QT_eql rfl rfl rfl rfl) ?_
  refine TL_q rfl rfl (QT_and rfl rfl rfl rfl) ?_
  refine TL_q rfl rfl (QT_move rfl rfl rfl) ?_
  refine TL_q rfl rfl (QT_move rfl rfl rfl) ?_
  refine TL_q rfl rfl (QT_len rfl rfl Tryz.underlying62 rfl) ?_
  refine TL_q rfl rfl (QT_eql rfl rfl rfl rfl) ?_
  refine TL_q rfl rfl (QT_and rfl rfl rfl rfl) ?_
  refine TL_q rfl rfl (QT_move rfl rfl rfl) ?_
  refine TL_q rfl rfl (QT_move rfl rfl rfl) ?_
  refine TL_q rfl rfl (QT_eql rfl rfl rfl rfl) ?_
  refine TL_q rfl rfl (QT_and rfl rfl rfl rfl) ?_
  refine TL_q rfl rfl (QT_move rfl rfl rfl) ?_
  refine TL_q rfl rfl (QT_move rfl rfl rfl) ?_
  refine TL_q rfl rfl (QT_indexSlice (0) rfl rfl Tryz.underlying61 YtjdaglmkljbfkaaGreatDoorF.sz_79 rfl rfl (rfl) (fun _ => by omega)) ?_
  refine TL_q rfl rfl (QT_indexArr (2) rfl rfl Tryz.underlying79 YtjdaglmkljbfkaaGreatDoorF.sz_77 rfl rfl (rfl) (fun _ => by decide)) ?_
  refine TL_q rfl rfl (QT_field rfl rfl YtjdaglmkljbfkaaGreatDoorF.fld_77_1 rfl) ?_
  refine TL_q rfl rfl (QT_loadRAj (out := [.int .u32 7, .int .u32 8]) 15 rfl rfl Tryz.underlying72 rfl YtjdaglmkljbfkaaGreatDoorF.sz_72 hrd4 rfl (fun _ => by have := hF4.1; rw [this]; decide) (fun _ => m13_7) (by decide)) ?_
  refine TL_q rfl rfl (QT_build rfl rfl YtjdaglmkljbfkaaGreatDoorF.zero_72 YtjdaglmkljbfkaaGreatDoorF.pl_72 rfl rfl rfl) ?_
  refine TL_q rfl rfl (QT_eqA rfl rfl eq_SpotM rfl rfl (fun _ => spot78) (fun _ => spot78)) ?_
  refine TL_q rfl rfl (QT_and rfl rfl rfl rfl) ?_
  refine TL_q rfl rfl (QT_move rfl rfl rfl) ?_
  refine TL_q rfl rfl (QT_move rfl rfl rfl) ?_
  refine TL_q rfl rfl (QT_eql rfl rfl rfl rfl) ?_
  refine TL_q rfl rfl (QT_and rfl rfl rfl rfl) ?_
  refine TL_q rfl rfl (QT_move rfl rfl rfl) ?_
  refine TL_q rfl rfl (QT_move rfl rfl rfl) ?_
  refine TL_q rfl rfl (QT_eql rfl rfl rfl rfl) ?_
  refine TL_q rfl rfl (QT_and rfl rfl rfl rfl) ?_
  refine TL_q rfl rfl (QT_move rfl rfl rfl) ?_
  refine TL_q rfl rfl (QT_move rfl rfl rfl) ?_
  refine TL_q rfl rfl (QT_eql rfl rfl rfl rfl) ?_
  refine TL_q rfl rfl (QT_and rfl rfl rfl rfl) ?_
  refine TL_q rfl rfl (QT_move rfl rfl rfl) ?_
  refine TL_q rfl rfl (QT_move rfl rfl rfl) ?_
  refine TL_q rfl rfl (QT_eql rfl rfl rfl rfl) ?_
  refine TL_q rfl rfl (QT_and rfl rfl rfl rfl) ?_
  refine TL_q rfl rfl (QT_assign rfl rfl rfl) ?_
  refine TL_nil ?_
  refine TX_then ?_
  refine TC_ret ?_
  exact TX_ret (.inl rfl) (res1 rfl rfl) ⟨_, ⟨rfl, rfl⟩, fun _ h => h.tail.tail.app_right⟩
end Go.Proofs.YtjdaglmkljbfkaaGreatDoor
namespace Go.Proofs.YtjdaglmkljbfkaaGreatDoor
open Go Go.Gx Go.RowKit
set_option maxRecDepth 100000
theorem dmR_rcf {L : Lay} {bs : List Nat} : ∀ r ∈ dmR L bs, RcF r := by
  intro r hr
  unfold dmR at hr
  split at hr
  · unfold dcO at hr
    split at hr
    · exact outRG_rcf r hr
    · exact absurd hr List.not_mem_nil
  · exact absurd hr List.not_mem_nil
theorem dmS_shf {L : Lay} {bs : List Nat} : ∀ r ∈ dmS L bs, ShF r := by
  intro r hr
  unfold dmS at hr
  split at hr
  · unfold dsO at hr
    split at hr
    · exact outG_shf r hr
    · exact absurd hr List.not_mem_nil
  · exact absurd hr List.not_mem_nil
theorem dmR_len (L : Lay) (bs : List Nat) : (dmR L bs).length ≤ bs.length := by
  unfold dmR
  split
  · unfold dcO
    split
    · exact outRG_len L bs
    · exact Nat.zero_le _
  · exact Nat.zero_le _
theorem dmS_len (L : Lay) (bs : List Nat) : (dmS L bs).length ≤ bs.length := by
  unfold dmS
  split
  · unfold dsO
    split
    · exact outG_len L bs
    · exact Nat.zero_le _
  · exact Nat.zero_le _
end Go.Proofs.YtjdaglmkljbfkaaGreatDoor
namespace Go.Proofs.YtjdaglmkljbfkaaGreatDoor
open Go Go.Gx Go.RowKit
set_option maxRecDepth 100000
end Go.Proofs.YtjdaglmkljbfkaaGreatDoor
namespace Go.Proofs.YtjdaglmkljbfkaaGreatDoor
open Go Go.Gx Go.RowKit
set_option maxRecDepth 100000
theorem dmE_A {L : Lay} (hk : okB L = true) (h5 : L.ty ≤ 5) (bs : List Nat) : dmE L bs = dcE L bs ∧ dmR L bs = dcO L bs ∧ dmS L bs = [] := by
  refine ⟨?_, ?_, ?_⟩
  · unfold dmE; rw [if_pos hk, if_pos h5]
  · unfold dmR; rw [if_pos ⟨hk, h5⟩]
  · unfold dmS; rw [if_neg fun h => h.2 h5]
theorem dmE_B {L : Lay} (hk : okB L = true) (h5 : ¬L.ty ≤ 5) (bs : List Nat) : dmE L bs = dsE L bs ∧ dmR L bs = [] ∧ dmS L bs = dsO L bs := by
  refine ⟨?_, ?_, ?_⟩
  · unfold dmE; rw [if_pos hk, if_neg h5]
  · unfold dmR; rw [if_neg fun h => h5 h.2]
  · unfold dmS; rw [if_pos ⟨hk, h5⟩]
theorem fa_A {L : Lay} (hk : okB L = true) (h5 : L.ty ≤ 5) (rs : List (List Nat)) : faE L rs [] = (trioF L (rs.map rvV)).2 ∧ faT L rs [] = (trioF L (rs.map rvV)).1 ∧ faN L rs [] = 0 ∧ faP L rs [] = [] := by
  have k0 : kiE L rs.length ([] : List (List Nat)).length = 0 := by unfold kiE; rw [if_pos hk, if_pos h5]; rfl
  refine ⟨?_, ?_, ?_, ?_⟩
  · unfold faE; rw [if_pos k0, if_pos h5]
  · unfold faT; rw [if_pos ⟨k0, h5⟩]
  · unfold faN; rw [if_neg fun h => h.2 h5]
  · unfold faP; rw [if_neg fun h => h.2 h5]
theorem fa_B {L : Lay} (hk : okB L = true) (h5 : ¬L.ty ≤ 5) (ss : List (List Nat)) : faE L [] ss = T12.errT L ss.length (flatS ss) ∧ faT L [] ss = [] ∧ faN L [] ss = T12.cntT L ss.length (flatS ss) ∧ faP L [] ss = T12.outT L ss.length (flatS ss) := by
  have k0 : kiE L ([] : List (List Nat)).length ss.length = 0 := by unfold kiE; rw [if_pos hk, if_neg h5]; rfl
  refine ⟨?_, ?_, ?_, ?_⟩
  · unfold faE; rw [if_pos k0, if_neg h5]
  · unfold faT; rw [if_neg fun h => h5 h.2]
  · unfold faN; rw [if_pos ⟨k0, h5⟩]
  · unfold faP; rw [if_pos ⟨k0, h5⟩]
end Go.Proofs.YtjdaglmkljbfkaaGreatDoor
namespace Go.Proofs.YtjdaglmkljbfkaaGreatDoor
open Go Go.Gx Go.RowKit
set_option maxRecDepth 100000
end Go.Proofs.YtjdaglmkljbfkaaGreatDoor
namespace Go.Gx
open Go Go.RowKit Go.ChangeShapes Go.WideShapes
section
variable {H : Type} {enc : TypeId × Value → H} {P : Program} {w : World} {base : Nat} {spare : Nat → Bool} {held : Bool}
end
end Go.Gx
namespace Go.Proofs.YtjdaglmkljbfkaaGreatDoor
open Go Go.Gx Go.RowKit Go.ChangeShapes Go.WideShapes Go.ChangeAt
set_option maxRecDepth 100000
end Go.Proofs.YtjdaglmkljbfkaaGreatDoor

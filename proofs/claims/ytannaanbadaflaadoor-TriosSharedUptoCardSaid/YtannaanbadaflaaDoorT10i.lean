/- Are a text's triangles these? The chapter's answers. -/
import Derived.Test.YtannaanbadaflaaDoorT10h
namespace Go.Proofs.YtannaanbadaflaaDoor
open Go Go.Gx Go.RowKit
set_option maxRecDepth 100000

theorem trio_ints {L : Lay} {rs : List R} (ha : All7 rs) : (∀ t ∈ (trioF L rs).1, Ints triK t) ∧ (trioF L rs).1.length ≤ 2 * rs.length := by
  have strip : ∀ (f : Nat) (rem : List R) (a b c : R) (out : List R), All7 rem → Ints recK a → Ints recK b → Ints recK c → (∀ t ∈ out, Ints triK t) → (∀ t ∈ (stripF f rem a b c out).1, Ints triK t) ∧ (stripF f rem a b c out).1.length ≤ out.length + rem.length := by
    intro f
    induction f with
    | zero => intro rem a b c out _ _ _ _ ho; exact ⟨ho, by simp [stripF]⟩
    | succ f ih =>
      intro rem a b c out hr hia hib hic ho
      cases rem with
      | nil => exact ⟨ho, by simp [stripF]⟩
      | cons x v =>
        have hx := hr x (List.mem_cons_self ..)
        have hv : All7 v := fun r h => hr r (List.mem_cons_of_mem _ h)
        have hsnoc : ∀ {t : R}, Ints triK t → ∀ u ∈ out ++ [t], Ints triK u := fun ht u hu => by
          rcases List.mem_append.1 hu with hu | hu
          · exact ho u hu
          · cases List.mem_singleton.1 hu; exact ht
        by_cases h0 : flagR x = 0
        · match v, hv with
          | [], _ => rw [strip_short h0 (by simp)]; exact ⟨fun t h => absurd h List.not_mem_nil, Nat.zero_le _⟩
          | [_], _ => rw [strip_short h0 (by simp)]; exact ⟨fun t h => absurd h List.not_mem_nil, Nat.zero_le _⟩
          | y :: z :: w, hv =>
            have hy := hv y (by simp)
            have hz := hv z (by simp)
            rw [strip_long h0]
            obtain ⟨h1, h2⟩ := ih w x y z (out ++ [B3 x y z]) (fun r h => hv r (by simp [h])) hx hy hz (hsnoc (B3_ints hx hy hz))
            exact ⟨h1, by simp only [List.length_append, List.length_cons, List.length_nil] at h2 ⊢; omega⟩
        · by_cases h1 : flagR x = 1
          · rw [strip_one h1]
            obtain ⟨h1, h2⟩ := ih v b c x (out ++ [B3 b c x]) hv hib hic hx (hsnoc (B3_ints hib hic hx))
            exact ⟨h1, by simp only [List.length_append, List.length_cons, List.length_nil] at h2 ⊢; omega⟩
          · by_cases h2 : flagR x = 2
            · rw [strip_two h2]
              obtain ⟨h1, h2⟩ := ih v a c x (out ++ [B3 a c x]) hv hia hic hx (hsnoc (B3_ints hia hic hx))
              exact ⟨h1, by simp only [List.length_append, List.length_cons, List.length_nil] at h2 ⊢; omega⟩
            · rw [strip_bad h0 h1 h2]; exact ⟨fun t h => absurd h List.not_mem_nil, Nat.zero_le _⟩
  have hnil : (∀ t ∈ ([] : List R), Ints triK t) := fun t h => absurd h List.not_mem_nil
  unfold trioF
  split
  · split
    · rename_i h5
      unfold rowsF
      split
      · rename_i hr
        refine ⟨fun t ht => ?_, Nat.le_trans (outT_len _ _ _) (by omega)⟩
        obtain ⟨i, hi, ht⟩ := List.mem_flatMap.1 ht
        have hi' := List.mem_range.1 hi
        by_cases hro : L.ro.toNat = 0
        · rw [hro] at hr; simp at hr
        obtain ⟨h2r, _⟩ := two_rows hr.1 hr.2
        unfold cellF at ht
        split at ht
        · exact absurd ht List.not_mem_nil
        · rename_i hne
          have hk : ∀ j, j < rs.length → Ints recK (at7 rs j) := fun j hj => at7_ints ha hj
          have hz : ∀ j, Ints recK (at7 rs j) := fun j => by
            by_cases hj : j < rs.length
            · exact hk j hj
            · rw [at7, List.getD_eq_getElem?_getD, List.getElem?_eq_none (by omega)]; exact zR_ints
          rcases List.mem_cons.1 ht with rfl | ht
          · exact B3_ints (hz _) (hz _) (hz _)
          · cases List.mem_singleton.1 ht
            exact B3_ints (hz _) (hz _) (hz _)
      · exact ⟨hnil, Nat.zero_le _⟩
    · split
      · exact ⟨hnil, Nat.zero_le _⟩
      · obtain ⟨h1, h2⟩ := strip (rs.length + 1) rs zR zR zR [] ha zR_ints zR_ints zR_ints hnil
        exact ⟨h1, by simp only [List.length_nil] at h2; show (stripF (rs.length + 1) rs zR zR zR []).1.length ≤ _; omega⟩
  · exact ⟨hnil, Nat.zero_le _⟩
theorem lay_len (L : Lay) : L.cells.length = 18 := rfl
theorem does_spec (w0 : World) (η : Heap) (hG : Sets w0) (L : Lay) (s want : List UInt8) (e : Int) (hn : s.length ≤ 400) :
    CallsT Tryd.prog 18 [L.val, .string ⟨s.toArray⟩, .string ⟨want.toArray⟩, .int .i64 e] (St w0 η) fun v A' => v = .bool (lettersF (trioF L (toldF s)).1 == want && decide ((trioF L (toldF s)).2 = e)) ∧ A' = St w0 η := by
  obtain ⟨hall, hfew⟩ := toldF_all s s.length (Nat.le_refl _)
  rw [List.take_length] at hall hfew
  obtain ⟨hti, htl⟩ := trio_ints (L := L) hall
  refine CallsT.body Tryd.func18 rfl rfl ?_
  simp only [Tryd.ntmps18, slotsOf, Nat.reduceAdd]
  refine TC_seq ?_
  refine TC_reg ?_
  refine TL_e rfl rfl rfl (rfl) (ET_box rfl rfl) ?_
  rintro _ _ ⟨b4, rfl, rfl⟩
  refine TL_q rfl rfl (QT_assign rfl rfl rfl) ?_
  refine TL_nil ?_
  refine TX_then ?_
  refine TC_seq ?_
  refine TC_draw [(0, 0), (1, 0), (2, 1), (3, 1), (4, 0), (5, 0), (6, 0), (7, 0), (8, 0)] YtannaanbadaflaaDoorF.mixed (by kernel_rfl) (St.calm _ _) ?_
  refine TV_ql rfl rfl rfl (QT_loadRAj (out := L.cells) 0 rfl rfl Tryd.underlying27 rfl YtannaanbadaflaaDoorF.sz_27 ((show Rd (St w0 ((b4, 27, L.cells) :: η)) b4 0 L.cells from Rd.own 0 rfl).deep (by intro _ hw; first | exact hw | exact hw.app_right | exact hw.app_right.app_right | exact hw.tail | exact hw.tail.app_right | exact hw.tail.tail | exact hw.tail.tail.app_right | exact hw.tail.tail.tail | exact hw.tail.tail.tail.app_right | exact hw.tail.tail.tail.tail | exact hw.tail.tail.tail.tail.app_right | exact hw.tail.tail.tail.tail.tail | exact hw.tail.tail.tail.tail.tail.app_right | exact hw.tail.tail.tail.tail.tail.tail | exact hw.tail.tail.tail.tail.tail.tail.app_right)) rfl (fun _ => by rw [lay_len]; decide) (fun _ => rfl)) ?_
  refine TV_q rfl rfl rfl (fun _ => QT_move rfl rfl rfl) ?_
  refine TV_e rfl rfl rfl rfl (rfl) (ET_call rfl YtannaanbadaflaaDoorF.cal_69 rfl (told_spec w0 _ s (by omega))) ?_
  rintro _ _ ⟨H, hF, rfl⟩
  refine ⟨_, .keep (by kernel_rfl) rfl (by first | exact QT_loadRAj (out := L.cells) 0 rfl rfl Tryd.underlying27 rfl YtannaanbadaflaaDoorF.sz_27 ((show Rd (St w0 ((b4, 27, L.cells) :: η)) b4 0 L.cells from Rd.own 0 rfl).deep (by intro _ hw; first | exact hw | exact hw.app_right | exact hw.app_right.app_right | exact hw.tail | exact hw.tail.app_right | exact hw.tail.tail | exact hw.tail.tail.app_right | exact hw.tail.tail.tail | exact hw.tail.tail.tail.app_right | exact hw.tail.tail.tail.tail | exact hw.tail.tail.tail.tail.app_right | exact hw.tail.tail.tail.tail.tail | exact hw.tail.tail.tail.tail.tail.app_right | exact hw.tail.tail.tail.tail.tail.tail | exact hw.tail.tail.tail.tail.tail.tail.app_right)) rfl (fun _ => by rw [lay_len]; decide) (fun _ => rfl)) (.nil), ?_⟩
  refine TV_e rfl rfl rfl rfl (rfl) (ET_call rfl YtannaanbadaflaaDoorF.cal_10 rfl (of_spec w0 _ hG L _ (toldF s) hF.sla hall (by omega))) ?_
  rintro _ _ ⟨pv, H2, rfl, hF2, X, rfl⟩
  refine ⟨_, .drop (by kernel_rfl) (.nil), ?_⟩
  refine TV_q rfl rfl rfl (fun _ => QT_move rfl rfl rfl) ?_
  refine TV_q rfl rfl rfl (fun _ => QT_extract rfl rfl rfl rfl) ?_
  refine TV_q rfl rfl rfl (fun _ => QT_extract rfl rfl rfl rfl) ?_
  refine TV_q rfl rfl rfl (fun _ => QT_assign rfl rfl rfl) ?_
  refine TV_q rfl rfl rfl (fun _ => QT_assign rfl rfl rfl) ?_
  refine TV_end ?_
  refine TX_then ?_
  refine TC_seq ?_
  refine TC_reg ?_
  refine TL_q rfl rfl (QT_move rfl rfl rfl) ?_
  refine TL_cq rfl rfl rfl rfl YtannaanbadaflaaDoorF.cal_70 rfl (fun _ => letters_spec w0 _ pv (trioF L (toldF s)).1 hF2.sla hti (by omega)) ?_
  refine TL_q rfl rfl (QT_move rfl rfl rfl) ?_
  refine TL_q rfl rfl (QT_eqStr rfl rfl rfl rfl) ?_
  refine TL_q rfl rfl (QT_move rfl rfl rfl) ?_
  refine TL_q rfl rfl (QT_move rfl rfl rfl) ?_
  refine TL_q rfl rfl (QT_move rfl rfl rfl) ?_
  refine TL_q rfl rfl (QT_eql rfl rfl rfl rfl) ?_
  refine TL_q rfl rfl (QT_and rfl rfl rfl rfl) ?_
  refine TL_q rfl rfl (QT_assign rfl rfl rfl) ?_
  refine TL_nil ?_
  refine TX_then ?_
  refine TC_ret ?_
  exact TX_ret (.inl rfl) (res1 rfl rfl) ⟨_, ⟨rfl, rfl⟩, fun _ h => h.app_right.app_right.app_right.tail⟩
def fourL : Lay := ⟨4, 8, 8, 8, 1, 0, fun _ => 0⟩
def fiveL : Lay := ⟨5, 8, 8, 0, 1, 2, fun _ => 0⟩
theorem live1 : (lettersF (trioF fourL (toldF [97, 48, 98, 99, 100, 49, 101, 50, 102, 48, 103, 104])).1 == [97, 98, 99, 32, 98, 99, 100, 32, 98, 100, 101, 32, 102, 103, 104, 32] && decide ((trioF fourL (toldF [97, 48, 98, 99, 100, 49, 101, 50, 102, 48, 103, 104])).2 = 0)) = true := by kernel_rfl
theorem live2 : (lettersF (trioF fourL (toldF [97, 49, 98, 99])).1 == [] && decide ((trioF fourL (toldF [97, 49, 98, 99])).2 = 6)) = true := by kernel_rfl
theorem live3 : (lettersF (trioF fourL (toldF [97, 48, 98, 99, 100, 51])).1 == [] && decide ((trioF fourL (toldF [97, 48, 98, 99, 100, 51])).2 = 7)) = true := by kernel_rfl
theorem live4 : (lettersF (trioF fourL (toldF [97, 48, 98])).1 == [] && decide ((trioF fourL (toldF [97, 48, 98])).2 = 5)) = true := by kernel_rfl
theorem live5 : (lettersF (trioF fiveL (toldF [97, 98, 99, 100, 101, 102])).1 == [97, 98, 99, 32, 98, 100, 99, 32, 99, 100, 101, 32, 100, 102, 101, 32] && decide ((trioF fiveL (toldF [97, 98, 99, 100, 101, 102])).2 = 0)) = true := by kernel_rfl
theorem live6 : (lettersF (trioF fiveL (toldF [97, 98, 99, 100, 101])).1 == [] && decide ((trioF fiveL (toldF [97, 98, 99, 100, 101])).2 = 5)) = true := by kernel_rfl
theorem live7 : (lettersF (trioF fiveL (toldF [97, 98])).1 == [] && decide ((trioF fiveL (toldF [97, 98])).2 = 5)) = true := by kernel_rfl
theorem does_true (w0 : World) (η : Heap) (hG : Sets w0) (L : Lay) (s want : List UInt8) (e : Int) (hn : s.length ≤ 400) (h : (lettersF (trioF L (toldF s)).1 == want && decide ((trioF L (toldF s)).2 = e)) = true) :
    CallsT Tryd.prog 18 [L.val, .string ⟨s.toArray⟩, .string ⟨want.toArray⟩, .int .i64 e] (St w0 η) fun v A' => v = .bool true ∧ A' = St w0 η := by
  have h1 := does_spec w0 η hG L s want e hn
  rwa [h] at h1
theorem lives10 (w0 : World) (η : Heap) (hG : Sets w0) :
    CallsT Tryd.prog 8 [] (St w0 η) fun v A' => v = .bool true ∧ A' = St w0 η := by
  refine CallsT.body Tryd.func8 rfl rfl ?_
  simp only [Tryd.ntmps8, slotsOf, Nat.reduceAdd]
  refine TC_seq ?_
  refine TC_reg ?_
  refine TL_q rfl rfl (QT_assign rfl rfl rfl) ?_
  refine TL_nil ?_
  refine TX_then ?_
  refine TC_seq ?_
  refine TC_reg ?_
  refine TL_q rfl rfl (QT_build rfl rfl YtannaanbadaflaaDoorF.zero_27 YtannaanbadaflaaDoorF.pl_27 rfl rfl rfl) ?_
  refine TL_e rfl rfl rfl (rfl) (ET_alloc rfl YtannaanbadaflaaDoorF.zero_27) ?_
  rintro _ _ ⟨b1, rfl, rfl⟩
  first
    | refine TL_e0 rfl rfl (rfl) (ET_storeW 0 rfl rfl rfl YtannaanbadaflaaDoorF.sz_27 rfl rfl rfl) ?_
    | refine TL_e0 rfl rfl (rfl) (ET_storeW 1 rfl rfl rfl YtannaanbadaflaaDoorF.sz_27 rfl rfl rfl) ?_
    | refine TL_e0 rfl rfl (rfl) (ET_storeW 2 rfl rfl rfl YtannaanbadaflaaDoorF.sz_27 rfl rfl rfl) ?_
    | refine TL_e0 rfl rfl (rfl) (ET_store 0 rfl rfl rfl rfl YtannaanbadaflaaDoorF.sz_27 rfl rfl rfl) ?_
    | refine TL_e0 rfl rfl (rfl) (ET_store 1 rfl rfl rfl rfl YtannaanbadaflaaDoorF.sz_27 rfl rfl rfl) ?_
    | refine TL_e0 rfl rfl (rfl) (ET_store 2 rfl rfl rfl rfl YtannaanbadaflaaDoorF.sz_27 rfl rfl rfl) ?_
  rintro _ _ ⟨rfl, rfl⟩
  refine TL_nil ?_
  refine TX_then ?_
  refine TC_seq ?_
  refine TC_reg ?_
  refine TL_q rfl rfl (QT_build rfl rfl YtannaanbadaflaaDoorF.zero_27 YtannaanbadaflaaDoorF.pl_27 rfl rfl rfl) ?_
  refine TL_e rfl rfl rfl (rfl) (ET_alloc rfl YtannaanbadaflaaDoorF.zero_27) ?_
  rintro _ _ ⟨b2, rfl, rfl⟩
  first
    | refine TL_e0 rfl rfl (rfl) (ET_storeW 0 rfl rfl rfl YtannaanbadaflaaDoorF.sz_27 rfl rfl rfl) ?_
    | refine TL_e0 rfl rfl (rfl) (ET_storeW 1 rfl rfl rfl YtannaanbadaflaaDoorF.sz_27 rfl rfl rfl) ?_
    | refine TL_e0 rfl rfl (rfl) (ET_storeW 2 rfl rfl rfl YtannaanbadaflaaDoorF.sz_27 rfl rfl rfl) ?_
    | refine TL_e0 rfl rfl (rfl) (ET_store 0 rfl rfl rfl rfl YtannaanbadaflaaDoorF.sz_27 rfl rfl rfl) ?_
    | refine TL_e0 rfl rfl (rfl) (ET_store 1 rfl rfl rfl rfl YtannaanbadaflaaDoorF.sz_27 rfl rfl rfl) ?_
    | refine TL_e0 rfl rfl (rfl) (ET_store 2 rfl rfl rfl rfl YtannaanbadaflaaDoorF.sz_27 rfl rfl rfl) ?_
  rintro _ _ ⟨rfl, rfl⟩
  refine TL_nil ?_
  refine TX_then ?_
  refine TC_seq ?_
  refine TC_seq ?_
  refine TC_reg ?_
  first
    | refine TL_q rfl rfl (QT_loadW 0 rfl rfl Tryd.underlying27 rfl rfl rfl YtannaanbadaflaaDoorF.sz_27) ?_
    | refine TL_q rfl rfl (QT_loadW 1 rfl rfl Tryd.underlying27 rfl rfl rfl YtannaanbadaflaaDoorF.sz_27) ?_
    | refine TL_q rfl rfl (QT_loadW 2 rfl rfl Tryd.underlying27 rfl rfl rfl YtannaanbadaflaaDoorF.sz_27) ?_
    | refine TL_q rfl rfl (QT_loadA 0 rfl rfl Tryd.underlying27 rfl rfl rfl YtannaanbadaflaaDoorF.sz_27 (fun _ => rfl)) ?_
    | refine TL_q rfl rfl (QT_loadA 1 rfl rfl Tryd.underlying27 rfl rfl rfl YtannaanbadaflaaDoorF.sz_27 (fun _ => rfl)) ?_
    | refine TL_q rfl rfl (QT_loadA 2 rfl rfl Tryd.underlying27 rfl rfl rfl YtannaanbadaflaaDoorF.sz_27 (fun _ => rfl)) ?_
  refine TL_cq rfl rfl rfl rfl YtannaanbadaflaaDoorF.cal_18 rfl (fun _ => does_true w0 _ hG fourL _ _ _ (by decide) live1) ?_
  refine TL_q rfl rfl (QT_not rfl rfl rfl) ?_
  refine TL_q rfl rfl (QT_move rfl rfl rfl) ?_
  first
    | refine TL_q rfl rfl (QT_loadW 0 rfl rfl Tryd.underlying27 rfl rfl rfl YtannaanbadaflaaDoorF.sz_27) ?_
    | refine TL_q rfl rfl (QT_loadW 1 rfl rfl Tryd.underlying27 rfl rfl rfl YtannaanbadaflaaDoorF.sz_27) ?_
    | refine TL_q rfl rfl (QT_loadW 2 rfl rfl Tryd.underlying27 rfl rfl rfl YtannaanbadaflaaDoorF.sz_27) ?_
    | refine TL_q rfl rfl (QT_loadA 0 rfl rfl Tryd.underlying27 rfl rfl rfl YtannaanbadaflaaDoorF.sz_27 (fun _ => rfl)) ?_
    | refine TL_q rfl rfl (QT_loadA 1 rfl rfl Tryd.underlying27 rfl rfl rfl YtannaanbadaflaaDoorF.sz_27 (fun _ => rfl)) ?_
    | refine TL_q rfl rfl (QT_loadA 2 rfl rfl Tryd.underlying27 rfl rfl rfl YtannaanbadaflaaDoorF.sz_27 (fun _ => rfl)) ?_
  refine TL_cq rfl rfl rfl rfl YtannaanbadaflaaDoorF.cal_18 rfl (fun _ => does_true w0 _ hG fourL _ _ _ (by decide) live2) ?_
  refine TL_q rfl rfl (QT_not rfl rfl rfl) ?_
  refine TL_q rfl rfl (QT_or rfl rfl rfl rfl) ?_
  refine TL_q rfl rfl (QT_move rfl rfl rfl) ?_
  first
    | refine TL_q rfl rfl (QT_loadW 0 rfl rfl Tryd.underlying27 rfl rfl rfl YtannaanbadaflaaDoorF.sz_27) ?_
    | refine TL_q rfl rfl (QT_loadW 1 rfl rfl Tryd.underlying27 rfl rfl rfl YtannaanbadaflaaDoorF.sz_27) ?_
    | refine TL_q rfl rfl (QT_loadW 2 rfl rfl Tryd.underlying27 rfl rfl rfl YtannaanbadaflaaDoorF.sz_27) ?_
    | refine TL_q rfl rfl (QT_loadA 0 rfl rfl Tryd.underlying27 rfl rfl rfl YtannaanbadaflaaDoorF.sz_27 (fun _ => rfl)) ?_
    | refine TL_q rfl rfl (QT_loadA 1 rfl rfl Tryd.underlying27 rfl rfl rfl YtannaanbadaflaaDoorF.sz_27 (fun _ => rfl)) ?_
    | refine TL_q rfl rfl (QT_loadA 2 rfl rfl Tryd.underlying27 rfl rfl rfl YtannaanbadaflaaDoorF.sz_27 (fun _ => rfl)) ?_
  refine TL_cq rfl rfl rfl rfl YtannaanbadaflaaDoorF.cal_18 rfl (fun _ => does_true w0 _ hG fourL _ [] _ (by decide) live3) ?_
  refine TL_q rfl rfl (QT_not rfl rfl rfl) ?_
  refine TL_q rfl rfl (QT_or rfl rfl rfl rfl) ?_
  refine TL_q rfl rfl (QT_move rfl rfl rfl) ?_
  first
    | refine TL_q rfl rfl (QT_loadW 0 rfl rfl Tryd.underlying27 rfl rfl rfl YtannaanbadaflaaDoorF.sz_27) ?_
    | refine TL_q rfl rfl (QT_loadW 1 rfl rfl Tryd.underlying27 rfl rfl rfl YtannaanbadaflaaDoorF.sz_27) ?_
    | refine TL_q rfl rfl (QT_loadW 2 rfl rfl Tryd.underlying27 rfl rfl rfl YtannaanbadaflaaDoorF.sz_27) ?_
    | refine TL_q rfl rfl (QT_loadA 0 rfl rfl Tryd.underlying27 rfl rfl rfl YtannaanbadaflaaDoorF.sz_27 (fun _ => rfl)) ?_
    | refine TL_q rfl rfl (QT_loadA 1 rfl rfl Tryd.underlying27 rfl rfl rfl YtannaanbadaflaaDoorF.sz_27 (fun _ => rfl)) ?_
    | refine TL_q rfl rfl (QT_loadA 2 rfl rfl Tryd.underlying27 rfl rfl rfl YtannaanbadaflaaDoorF.sz_27 (fun _ => rfl)) ?_
  refine TL_cq rfl rfl rfl rfl YtannaanbadaflaaDoorF.cal_18 rfl (fun _ => does_true w0 _ hG fourL _ [] _ (by decide) live4) ?_
  refine TL_q rfl rfl (QT_not rfl rfl rfl) ?_
  refine TL_q rfl rfl (QT_or rfl rfl rfl rfl) ?_
  refine TL_nil ?_
  refine TX_then ?_
  refine TC_cond rfl (fun h => absurd (h.symm.trans ((show (_ : Bool) = false by rfl))) (by decide)) (fun _ => ?_)
  refine TC_skip ?_
  refine TX_then ?_
  refine TC_seq ?_
  refine TC_reg ?_
  first
    | refine TL_q rfl rfl (QT_loadW 0 rfl rfl Tryd.underlying27 rfl rfl rfl YtannaanbadaflaaDoorF.sz_27) ?_
    | refine TL_q rfl rfl (QT_loadW 1 rfl rfl Tryd.underlying27 rfl rfl rfl YtannaanbadaflaaDoorF.sz_27) ?_
    | refine TL_q rfl rfl (QT_loadW 2 rfl rfl Tryd.underlying27 rfl rfl rfl YtannaanbadaflaaDoorF.sz_27) ?_
    | refine TL_q rfl rfl (QT_loadA 0 rfl rfl Tryd.underlying27 rfl rfl rfl YtannaanbadaflaaDoorF.sz_27 (fun _ => rfl)) ?_
    | refine TL_q rfl rfl (QT_loadA 1 rfl rfl Tryd.underlying27 rfl rfl rfl YtannaanbadaflaaDoorF.sz_27 (fun _ => rfl)) ?_
    | refine TL_q rfl rfl (QT_loadA 2 rfl rfl Tryd.underlying27 rfl rfl rfl YtannaanbadaflaaDoorF.sz_27 (fun _ => rfl)) ?_
  refine TL_cq rfl rfl rfl rfl YtannaanbadaflaaDoorF.cal_18 rfl (fun _ => does_true w0 _ hG fiveL _ _ _ (by decide) live5) ?_
  refine TL_q rfl rfl (QT_move rfl rfl rfl) ?_
  first
    | refine TL_q rfl rfl (QT_loadW 0 rfl rfl Tryd.underlying27 rfl rfl rfl YtannaanbadaflaaDoorF.sz_27) ?_
    | refine TL_q rfl rfl (QT_loadW 1 rfl rfl Tryd.underlying27 rfl rfl rfl YtannaanbadaflaaDoorF.sz_27) ?_
    | refine TL_q rfl rfl (QT_loadW 2 rfl rfl Tryd.underlying27 rfl rfl rfl YtannaanbadaflaaDoorF.sz_27) ?_
    | refine TL_q rfl rfl (QT_loadA 0 rfl rfl Tryd.underlying27 rfl rfl rfl YtannaanbadaflaaDoorF.sz_27 (fun _ => rfl)) ?_
    | refine TL_q rfl rfl (QT_loadA 1 rfl rfl Tryd.underlying27 rfl rfl rfl YtannaanbadaflaaDoorF.sz_27 (fun _ => rfl)) ?_
    | refine TL_q rfl rfl (QT_loadA 2 rfl rfl Tryd.underlying27 rfl rfl rfl YtannaanbadaflaaDoorF.sz_27 (fun _ => rfl)) ?_
  refine TL_cq rfl rfl rfl rfl YtannaanbadaflaaDoorF.cal_18 rfl (fun _ => does_true w0 _ hG fiveL _ [] _ (by decide) live6) ?_
  refine TL_q rfl rfl (QT_and rfl rfl rfl rfl) ?_
  refine TL_q rfl rfl (QT_move rfl rfl rfl) ?_
  first
    | refine TL_q rfl rfl (QT_loadW 0 rfl rfl Tryd.underlying27 rfl rfl rfl YtannaanbadaflaaDoorF.sz_27) ?_
    | refine TL_q rfl rfl (QT_loadW 1 rfl rfl Tryd.underlying27 rfl rfl rfl YtannaanbadaflaaDoorF.sz_27) ?_
    | refine TL_q rfl rfl (QT_loadW 2 rfl rfl Tryd.underlying27 rfl rfl rfl YtannaanbadaflaaDoorF.sz_27) ?_
    | refine TL_q rfl rfl (QT_loadA 0 rfl rfl Tryd.underlying27 rfl rfl rfl YtannaanbadaflaaDoorF.sz_27 (fun _ => rfl)) ?_
    | refine TL_q rfl rfl (QT_loadA 1 rfl rfl Tryd.underlying27 rfl rfl rfl YtannaanbadaflaaDoorF.sz_27 (fun _ => rfl)) ?_
    | refine TL_q rfl rfl (QT_loadA 2 rfl rfl Tryd.underlying27 rfl rfl rfl YtannaanbadaflaaDoorF.sz_27 (fun _ => rfl)) ?_
  refine TL_cq rfl rfl rfl rfl YtannaanbadaflaaDoorF.cal_18 rfl (fun _ => does_true w0 _ hG fiveL _ [] _ (by decide) live7) ?_
  refine TL_q rfl rfl (QT_and rfl rfl rfl rfl) ?_
  refine TL_q rfl rfl (QT_assign rfl rfl rfl) ?_
  refine TL_nil ?_
  refine TX_then ?_
  refine TC_ret ?_
  exact TX_ret (.inl rfl) (res1 rfl rfl) ⟨_, ⟨rfl, rfl⟩, fun _ h => h.tail.tail⟩
end Go.Proofs.YtannaanbadaflaaDoor

/- THE LAW OF VERTICES BEHIND OTHERS. -/
import Derived.Test.YtannaanbadaflaaDoorT10j
import Derived.Test.YtannaanbadaflaaDoorT10k
namespace Go.Proofs.YtannaanbadaflaaDoor
open Go Go.Gx Go.RowKit
set_option maxRecDepth 100000

theorem trio_ok {L : Lay} {rs : List R} (h : (trioF L rs).2 = 0) : okB L = true ∧ (L.ty = 4 ∨ L.ty = 5) := Classical.byContradiction fun hn => by rw [trio4 hn] at h; cases h
theorem joinAll {L : Lay} {rs qs : List R} (he : (trioF L rs).2 = 0) (hf : (trioF L qs).2 = 0) (hn : rs.length ≤ 250) : ∃ mid, trioF L (rs ++ qs) = ((trioF L rs).1 ++ (mid ++ (trioF L qs).1), 0) ∧ ((L.ty = 4 ∧ mid = []) ∨ (L.ty = 5 ∧ (mid.length : Int) = 2 * (L.ro - 1) ∧ 2 ≤ L.ro ∧ L.ro ≤ 250)) := by
  obtain ⟨hk, h4 | h5⟩ := trio_ok he
  · exact ⟨[], by rw [join4 hk h4 he hf]; rfl, .inl ⟨h4, rfl⟩⟩
  · obtain ⟨mid, h1, h2, h3⟩ := join5 hk h5 he hf
    have hro := (okB_bounds hk).2.2.2.2.1 h5
    exact ⟨mid, h1, .inr ⟨h5, by omega, hro, by omega⟩⟩
theorem flat_take {s : Nat} {us bs : List R} (h : ∀ t ∈ us, t.length = s) : ((us ++ bs).flatten).take (us.length * s) = us.flatten := by
  rw [List.flatten_append, ← flat_len h, List.take_left]
theorem flat_drop2 {s : Nat} {us ms bs : List R} (h : ∀ t ∈ us, t.length = s) (h2 : ∀ t ∈ ms, t.length = s) : ((us ++ (ms ++ bs)).flatten).drop ((us.length + ms.length) * s) = bs.flatten := by
  rw [← List.append_assoc, List.flatten_append]
  have : ∀ t ∈ us ++ ms, t.length = s := fun t ht => by
    rcases List.mem_append.1 ht with ht | ht
    · exact h t ht
    · exact h2 t ht
  have e := flat_len this
  rw [List.length_append] at e
  rw [← e, List.drop_left]
theorem sameOk_at {k n : Nat} (hk : k = n) (w0 : World) (η : Heap) (ad : Option Addr) (cap : Nat) (vb : Value) (n' : Nat) (xs : List Value) (ha : SlA (St w0 η) (.slice ad n cap) 21 n' xs) (hb : SlA (St w0 η) vb 21 n' xs) (hi : Ints (rep n' triK) xs) :
    CallsT Tryd.prog 14 [.slice ad k cap, vb] (St w0 η) fun v A' => v = .bool true ∧ A' = St w0 η := by
  subst hk; exact sameOk_Tris w0 η _ vb n' xs ha hb hi
set_option maxHeartbeats 1000000 in
theorem law_triosJoin (w0 : World) (η : Heap) (hG : Sets w0) (L : Lay) (sv tv : Value) (rs qs : List R) (hs : SlA (St w0 η) sv 7 rs.length rs.flatten) (ha : All7 rs) (ht : SlA (St w0 η) tv 7 qs.length qs.flatten) (hb : All7 qs) :
    CallsT Tryd.prog 4 [L.val, sv, tv] (St w0 η) fun v A' => v = .bool true ∧ A' = St w0 η := by
  have hs0 := hs
  have ht0 := ht
  obtain ⟨_, ad, cap, rfl, hcap, hsr⟩ := hs
  obtain ⟨_, ad', cap', rfl, hcap', htr⟩ := ht
  have hab : All7 (rs ++ qs) := fun r hr => by
    rcases List.mem_append.1 hr with hr | hr
    · exact ha r hr
    · exact hb r hr
  obtain ⟨A, hA⟩ : ∃ A, A = trioF L rs := ⟨_, rfl⟩
  obtain ⟨B, hB⟩ : ∃ B, B = trioF L qs := ⟨_, rfl⟩
  obtain ⟨C, hC⟩ : ∃ C, C = trioF L (rs ++ qs) := ⟨_, rfl⟩
  have hA2 := trio_ints (L := L) ha
  have hB2 := trio_ints (L := L) hb
  have hC2 := trio_ints (L := L) hab
  have hof1 := fun (X : Heap) (v : Value) (h : SlA (St w0 X) v 7 rs.length rs.flatten) (hn : rs.length * 120 ≤ 140737488355328) => of_spec w0 X hG L v rs h ha hn
  have hof2 := fun (X : Heap) (v : Value) (h : SlA (St w0 X) v 7 qs.length qs.flatten) (hn : qs.length * 120 ≤ 140737488355328) => of_spec w0 X hG L v qs h hb hn
  have hof3 := fun (X : Heap) (v : Value) (h : SlA (St w0 X) v 7 (rs ++ qs).length (rs ++ qs).flatten) (hn : (rs ++ qs).length * 120 ≤ 140737488355328) => of_spec w0 X hG L v (rs ++ qs) h hab hn
  have hErr := joinErr (L := L) (rs := rs) qs
  have hAll := joinAll (L := L) (rs := rs) (qs := qs)
  have hi1 : Ints (rep rs.length recK) rs.flatten := flat_ints (s := 7) ha
  have hi2 : Ints (rep qs.length recK) qs.flatten := flat_ints (s := 7) hb
  rw [← hA] at hA2 hof1 hErr hAll
  rw [← hB] at hB2 hof2 hAll
  rw [← hC] at hC2 hof3 hErr hAll
  refine CallsT.body Tryd.func4 rfl rfl ?_
  simp only [Tryd.ntmps4, slotsOf, Nat.reduceAdd]
  refine TC_seq ?_
  refine TC_reg ?_
  refine TL_e rfl rfl rfl (rfl) (ET_box rfl rfl) ?_
  rintro _ _ ⟨b3, rfl, rfl⟩
  refine TL_q rfl rfl (QT_assign rfl rfl rfl) ?_
  refine TL_nil ?_
  refine TX_then ?_
  refine TC_seq ?_
  refine TC_seq ?_
  refine TC_reg ?_
  refine TL_q rfl rfl (QT_move rfl rfl rfl) ?_
  refine TL_q rfl rfl (QT_len rfl rfl Tryd.underlying28 rfl) ?_
  refine TL_q rfl rfl (QT_gtr rfl rfl rfl rfl) ?_
  refine TL_q rfl rfl (QT_move rfl rfl rfl) ?_
  refine TL_q rfl rfl (QT_move rfl rfl rfl) ?_
  refine TL_q rfl rfl (QT_len rfl rfl Tryd.underlying28 rfl) ?_
  refine TL_q rfl rfl (QT_gtr rfl rfl rfl rfl) ?_
  refine TL_q rfl rfl (QT_or rfl rfl rfl rfl) ?_
  refine TL_nil ?_
  refine TX_then ?_
  first
    | refine TC_cond_dec rfl (fun h21 => ?_) (fun h21 => ?_)
    | refine TC_cond rfl (fun h21 => ?_) (fun h21 => ?_)
  ·
    refine TC_seq ?_
    refine TC_reg ?_
    refine TL_cq rfl rfl rfl rfl YtannaanbadaflaaDoorF.cal_8 rfl (fun _ => lives10 w0 _ hG) ?_
    refine TL_q rfl rfl (QT_assign rfl rfl rfl) ?_
    refine TL_nil ?_
    refine TX_then ?_
    refine TC_ret ?_
    refine TX_then_ret ?_
    exact TX_ret (.inl rfl) (res1 rfl rfl) ⟨_, ⟨rfl, rfl⟩, (fun _ h => by first | exact h | exact h.tail | exact h.tail.tail | exact h.tail.tail.tail | exact h.tail.tail.tail.tail | exact h.tail.tail.tail.tail.tail | exact h.tail.tail.tail.tail.tail.tail | exact h.tail.tail.tail.tail.tail.tail.tail | exact h.tail.tail.tail.tail.tail.tail.tail.tail | exact h.tail.tail.tail.tail.tail.tail.tail.tail.tail | exact h.tail.tail.tail.tail.tail.tail.tail.tail.tail.tail | exact h.tail.tail.tail.tail.tail.tail.tail.tail.tail.tail.tail | exact h.tail.tail.tail.tail.tail.tail.tail.tail.tail.tail.tail.tail | exact h.tail.tail.tail.tail.tail.tail.tail.tail.tail.tail.tail.tail.tail)⟩
  ·
    refine TC_skip ?_
    refine TX_then ?_
    refine TC_seq ?_
    simp only [Bool.or_eq_false_iff, decide_eq_false_iff_not] at h21
    have hn : rs.length ≤ 250 := by omega
    have hm : qs.length ≤ 250 := by omega
    refine TC_reg ?_
    first
      | refine TL_q rfl rfl (QT_loadW 0 rfl rfl Tryd.underlying27 rfl rfl rfl YtannaanbadaflaaDoorF.sz_27) ?_
      | refine TL_q rfl rfl (QT_loadW 1 rfl rfl Tryd.underlying27 rfl rfl rfl YtannaanbadaflaaDoorF.sz_27) ?_
      | refine TL_q rfl rfl (QT_loadW 2 rfl rfl Tryd.underlying27 rfl rfl rfl YtannaanbadaflaaDoorF.sz_27) ?_
      | refine TL_q rfl rfl (QT_loadA 0 rfl rfl Tryd.underlying27 rfl rfl rfl YtannaanbadaflaaDoorF.sz_27 (fun _ => rfl)) ?_
      | refine TL_q rfl rfl (QT_loadA 1 rfl rfl Tryd.underlying27 rfl rfl rfl YtannaanbadaflaaDoorF.sz_27 (fun _ => rfl)) ?_
      | refine TL_q rfl rfl (QT_loadA 2 rfl rfl Tryd.underlying27 rfl rfl rfl YtannaanbadaflaaDoorF.sz_27 (fun _ => rfl)) ?_
    refine TL_q rfl rfl (QT_move rfl rfl rfl) ?_
    refine TL_e rfl rfl rfl (rfl) (ET_call rfl YtannaanbadaflaaDoorF.cal_10 rfl (hof1 _ _ hs0.tail (by omega))) ?_
    rintro _ _ ⟨pv, H1, rfl, hF1, X1, rfl⟩
    refine TL_q rfl rfl (QT_move rfl rfl rfl) ?_
    refine TL_q rfl rfl (QT_extract rfl rfl rfl rfl) ?_
    refine TL_q rfl rfl (QT_extract rfl rfl rfl rfl) ?_
    refine TL_q rfl rfl (QT_assign rfl rfl rfl) ?_
    refine TL_q rfl rfl (QT_assign rfl rfl rfl) ?_
    refine TL_nil ?_
    refine TX_then ?_
    refine TC_seq ?_
    refine TC_A (St w0 ((b3, 27, L.cells) :: (H1 ++ η))) (fun w h => (show St w0 (H1 ++ (X1 ++ ((b3, 27, L.cells) :: η))) w from h).cnt fun p => by simp only [List.countP_append, List.countP_cons]; omega) ?_
    refine TC_reg ?_
    first
      | refine TL_q rfl rfl (QT_loadW 0 rfl rfl Tryd.underlying27 rfl rfl rfl YtannaanbadaflaaDoorF.sz_27) ?_
      | refine TL_q rfl rfl (QT_loadW 1 rfl rfl Tryd.underlying27 rfl rfl rfl YtannaanbadaflaaDoorF.sz_27) ?_
      | refine TL_q rfl rfl (QT_loadW 2 rfl rfl Tryd.underlying27 rfl rfl rfl YtannaanbadaflaaDoorF.sz_27) ?_
      | refine TL_q rfl rfl (QT_loadA 0 rfl rfl Tryd.underlying27 rfl rfl rfl YtannaanbadaflaaDoorF.sz_27 (fun _ => rfl)) ?_
      | refine TL_q rfl rfl (QT_loadA 1 rfl rfl Tryd.underlying27 rfl rfl rfl YtannaanbadaflaaDoorF.sz_27 (fun _ => rfl)) ?_
      | refine TL_q rfl rfl (QT_loadA 2 rfl rfl Tryd.underlying27 rfl rfl rfl YtannaanbadaflaaDoorF.sz_27 (fun _ => rfl)) ?_
    refine TL_q rfl rfl (QT_move rfl rfl rfl) ?_
    refine TL_e rfl rfl rfl (rfl) (ET_call rfl YtannaanbadaflaaDoorF.cal_10 rfl (hof2 _ _ (ht0.mono fun _ h => h.tail.app_right) (by omega))) ?_
    rintro _ _ ⟨qv, H2, rfl, hF2, X2, rfl⟩
    refine TL_q rfl rfl (QT_move rfl rfl rfl) ?_
    refine TL_q rfl rfl (QT_extract rfl rfl rfl rfl) ?_
    refine TL_q rfl rfl (QT_extract rfl rfl rfl rfl) ?_
    refine TL_q rfl rfl (QT_assign rfl rfl rfl) ?_
    refine TL_q rfl rfl (QT_assign rfl rfl rfl) ?_
    refine TL_nil ?_
    refine TX_then ?_
    refine TC_seq ?_
    refine TC_A (St w0 ((b3, 27, L.cells) :: (H1 ++ (H2 ++ η)))) (fun _ h => h.cnt fun p => by simp only [List.countP_append, List.countP_cons]; omega) ?_
    refine TC_draw [(0, 0), (1, 0), (3, 0), (2, 1), (4, 1), (5, 1), (6, 0), (7, 0), (8, 0), (9, 0), (10, 0)] YtannaanbadaflaaDoorF.mixed (by kernel_rfl) (St.calm _ _) ?_
    refine TV_ql rfl rfl rfl (QT_loadRAj (out := L.cells) 0 rfl rfl Tryd.underlying27 rfl YtannaanbadaflaaDoorF.sz_27 ((show Rd (St w0 ((b3, 27, L.cells) :: (H1 ++ (H2 ++ η)))) b3 0 L.cells from Rd.own 0 rfl).deep (by intro _ hw; first | exact hw | exact hw.app_right | exact hw.app_right.app_right | exact hw.tail | exact hw.tail.app_right | exact hw.tail.tail | exact hw.tail.tail.app_right | exact hw.tail.tail.tail | exact hw.tail.tail.tail.app_right | exact hw.tail.tail.tail.tail | exact hw.tail.tail.tail.tail.app_right | exact hw.tail.tail.tail.tail.tail | exact hw.tail.tail.tail.tail.tail.app_right | exact hw.tail.tail.tail.tail.tail.tail | exact hw.tail.tail.tail.tail.tail.tail.app_right)) rfl (fun _ => by rw [lay_len]; decide) (fun _ => rfl)) ?_
    refine TV_q rfl rfl rfl (fun _ => QT_move rfl rfl rfl) ?_
    refine TV_q rfl rfl rfl (fun _ => QT_move rfl rfl rfl) ?_
    refine TV_e rfl rfl rfl rfl (rfl) (ET_appendL (L := []) (H := []) rfl Tryd.underlying28 el_Rec rfl rfl (Frag.nil _ _) (fun _ h => h) (hs0.mono fun _ h => h.tail.app_right.app_right) hi1.oneCell (by omega) (by omega)) ?_
    rintro v38 _ ⟨H38, hF38, rfl⟩
    refine ⟨_, .keep (by kernel_rfl) rfl (by first | exact QT_loadRAj (out := L.cells) 0 rfl rfl Tryd.underlying27 rfl YtannaanbadaflaaDoorF.sz_27 ((show Rd (St w0 ((b3, 27, L.cells) :: (H1 ++ (H2 ++ η)))) b3 0 L.cells from Rd.own 0 rfl).deep (by intro _ hw; first | exact hw | exact hw.app_right | exact hw.app_right.app_right | exact hw.tail | exact hw.tail.app_right | exact hw.tail.tail | exact hw.tail.tail.app_right | exact hw.tail.tail.tail | exact hw.tail.tail.tail.app_right | exact hw.tail.tail.tail.tail | exact hw.tail.tail.tail.tail.app_right | exact hw.tail.tail.tail.tail.tail | exact hw.tail.tail.tail.tail.tail.app_right | exact hw.tail.tail.tail.tail.tail.tail | exact hw.tail.tail.tail.tail.tail.tail.app_right)) rfl (fun _ => by rw [lay_len]; decide) (fun _ => rfl)) (.nil), ?_⟩
    refine TV_e rfl rfl rfl rfl (rfl) (ET_appendL (L := []) rfl Tryd.underlying28 el_Rec rfl rfl hF38 (fun _ h => h) (ht0.mono fun w h => (show St w0 (H38 ++ ((b3, 27, L.cells) :: (H1 ++ (H2 ++ η)))) w from h).app_right.tail.app_right.app_right) hi2.oneCell (by omega) (by omega)) ?_
    rintro v40 _ ⟨H40, hF40, rfl⟩
    refine ⟨_, .keep (by kernel_rfl) rfl (by first | exact QT_loadRAj (out := L.cells) 0 rfl rfl Tryd.underlying27 rfl YtannaanbadaflaaDoorF.sz_27 ((show Rd (St w0 ((b3, 27, L.cells) :: (H1 ++ (H2 ++ η)))) b3 0 L.cells from Rd.own 0 rfl).deep (by intro _ hw; first | exact hw | exact hw.app_right | exact hw.app_right.app_right | exact hw.tail | exact hw.tail.app_right | exact hw.tail.tail | exact hw.tail.tail.app_right | exact hw.tail.tail.tail | exact hw.tail.tail.tail.app_right | exact hw.tail.tail.tail.tail | exact hw.tail.tail.tail.tail.app_right | exact hw.tail.tail.tail.tail.tail | exact hw.tail.tail.tail.tail.tail.app_right | exact hw.tail.tail.tail.tail.tail.tail | exact hw.tail.tail.tail.tail.tail.tail.app_right)) rfl (fun _ => by rw [lay_len]; decide) (fun _ => rfl)) (.nil), ?_⟩
    refine TV_e rfl rfl rfl rfl (rfl) (ET_call rfl YtannaanbadaflaaDoorF.cal_10 rfl (hof3 _ _ (show SlA _ _ 7 (rs ++ qs).length (rs ++ qs).flatten by have := hF40.sla (w0 := w0) (η := (b3, 27, L.cells) :: (H1 ++ (H2 ++ η))); simpa using this) (by rw [List.length_append]; omega))) ?_
    rintro _ _ ⟨rv, H3, rfl, hF3, X3, rfl⟩
    refine ⟨_, .drop (by kernel_rfl) (.nil), ?_⟩
    refine TV_q rfl rfl rfl (fun _ => QT_move rfl rfl rfl) ?_
    refine TV_q rfl rfl rfl (fun _ => QT_extract rfl rfl rfl rfl) ?_
    refine TV_q rfl rfl rfl (fun _ => QT_extract rfl rfl rfl rfl) ?_
    refine TV_q rfl rfl rfl (fun _ => QT_assign rfl rfl rfl) ?_
    refine TV_q rfl rfl rfl (fun _ => QT_assign rfl rfl rfl) ?_
    refine TV_end ?_
    refine TX_then ?_
    refine TC_seq ?_
    refine TC_seq ?_
    refine TC_A (St w0 ((b3, 27, L.cells) :: (H1 ++ (H2 ++ (H3 ++ η))))) (fun _ h => h.cnt fun p => by simp only [List.countP_append, List.countP_cons, List.countP_nil]; omega) ?_
    obtain ⟨pad, pcap, rfl, hpc, _⟩ := hF1.slice
    obtain ⟨qad, qcap, rfl, hqc, _⟩ := hF2.slice
    obtain ⟨rad, rcap, rfl, hrc, _⟩ := hF3.slice
    refine TC_reg ?_
    refine TL_q rfl rfl (QT_move rfl rfl rfl) ?_
    refine TL_q rfl rfl (QT_neq rfl rfl rfl rfl) ?_
    refine TL_q rfl rfl (QT_move rfl rfl rfl) ?_
    refine TL_q rfl rfl (QT_move rfl rfl rfl) ?_
    refine TL_q rfl rfl (QT_neq rfl rfl rfl rfl) ?_
    refine TL_q rfl rfl (QT_or rfl rfl rfl rfl) ?_
    refine TL_nil ?_
    refine TX_then ?_
    first
      | refine TC_cond_dec rfl (fun h49 => ?_) (fun h49 => ?_)
      | refine TC_cond rfl (fun h49 => ?_) (fun h49 => ?_)
    ·
      refine TC_seq ?_
      refine TC_reg ?_
      refine TL_q rfl rfl (QT_field rfl rfl YtannaanbadaflaaDoorF.fld_27_0 rfl) ?_
      first
        | refine TL_q rfl rfl (QT_load 0 rfl rfl Tryd.underlying3 rfl rfl rfl (fun _ => rfl)) ?_
        | refine TL_q rfl rfl (QT_load 1 rfl rfl Tryd.underlying3 rfl rfl rfl (fun _ => rfl)) ?_
        | refine TL_q rfl rfl (QT_load 2 rfl rfl Tryd.underlying3 rfl rfl rfl (fun _ => rfl)) ?_
      refine TL_q rfl rfl (QT_neq rfl rfl rfl rfl) ?_
      refine TL_q rfl rfl (QT_move rfl rfl rfl) ?_
      refine TL_q rfl rfl (QT_move rfl rfl rfl) ?_
      refine TL_q rfl rfl (QT_eql rfl rfl rfl rfl) ?_
      refine TL_q rfl rfl (QT_or rfl rfl rfl rfl) ?_
      refine TL_q rfl rfl (QT_move rfl rfl rfl) ?_
      refine TL_q rfl rfl (QT_move rfl rfl rfl) ?_
      refine TL_q rfl rfl (QT_eql rfl rfl rfl rfl) ?_
      refine TL_q rfl rfl (QT_or rfl rfl rfl rfl) ?_
      refine TL_q rfl rfl (QT_move rfl rfl rfl) ?_
      refine TL_q rfl rfl (QT_move rfl rfl rfl) ?_
      refine TL_q rfl rfl (QT_move rfl rfl rfl) ?_
      refine TL_q rfl rfl (QT_eql rfl rfl rfl rfl) ?_
      refine TL_q rfl rfl (QT_or rfl rfl rfl rfl) ?_
      refine TL_q rfl rfl (QT_move rfl rfl rfl) ?_
      refine TL_cq rfl rfl rfl rfl YtannaanbadaflaaDoorF.cal_8 rfl (fun _ => lives10 w0 _ hG) ?_
      refine TL_q rfl rfl (QT_and rfl rfl rfl rfl) ?_
      refine TL_q rfl rfl (QT_assign rfl rfl rfl) ?_
      refine TL_nil ?_
      refine TX_then ?_
      refine TC_ret ?_
      refine TX_then_ret ?_
      have hJ : ¬L.ty ≠ 4 → A.2 ≠ 0 → A.2 ≠ 5 → C.2 = A.2 := fun h1 h2 h3 => hErr (by omega) h2 h3
      exact TX_ret (.inl rfl) (res1 rfl rfl) ⟨_, ⟨congrArg Value.bool (by grind), rfl⟩, fun _ h => h.tail.app_right.app_right.app_right⟩
    ·
      refine TC_skip ?_
      refine TX_then ?_
      refine TC_seq ?_
      refine TC_seq ?_
      simp only [Bool.or_eq_false_iff, decide_eq_false_iff_not, ne_eq, Classical.not_not] at h49
      obtain ⟨mid, hCe, hty⟩ := hAll h49.1 h49.2 hn
      subst hCe
      have hml : (mid.length : Int) ≤ 600 := by rcases hty with ⟨_, h⟩ | ⟨_, h1, h2, h3⟩; (subst h; decide); omega
      have hlc : (A.1 ++ (mid ++ B.1)).length = A.1.length + (mid.length + B.1.length) := by simp only [List.length_append]
      have hAl := hA2.2
      have hBl := hB2.2
      clear hErr hAll
      refine TC_reg ?_
      refine TL_q rfl rfl (QT_move rfl rfl rfl) ?_
      refine TL_q rfl rfl (QT_neq rfl rfl rfl rfl) ?_
      refine TL_q rfl rfl (QT_move rfl rfl rfl) ?_
      refine TL_q rfl rfl (QT_move rfl rfl rfl) ?_
      refine TL_q rfl rfl (QT_len rfl rfl Tryd.underlying31 rfl) ?_
      refine TL_q rfl rfl (QT_move rfl rfl rfl) ?_
      refine TL_q rfl rfl (QT_len rfl rfl Tryd.underlying31 rfl) ?_
      refine TL_q rfl rfl (QT_move rfl rfl rfl) ?_
      refine TL_q rfl rfl (QT_len rfl rfl Tryd.underlying31 rfl) ?_
      refine TL_q rfl rfl (QT_add rfl rfl rfl rfl (fun _ => ⟨by omega, by omega⟩)) ?_
      refine TL_q rfl rfl (QT_lss rfl rfl rfl rfl) ?_
      refine TL_q rfl rfl (QT_or rfl rfl rfl rfl) ?_
      refine TL_nil ?_
      refine TX_then ?_
      first
        | refine TC_cond_dec rfl (fun h80 => ?_) (fun h80 => ?_)
        | refine TC_cond rfl (fun h80 => ?_) (fun h80 => ?_)
      ·
        refine TC_seq ?_
        refine TC_reg ?_
        refine TL_q rfl rfl (QT_assign rfl rfl rfl) ?_
        refine TL_nil ?_
        refine TX_then ?_
        refine TC_ret ?_
        refine TX_then_ret ?_
        exfalso
        simp only [Bool.or_eq_true, decide_eq_true_eq, hlc] at h80
        omega
      ·
        refine TC_skip ?_
        refine TX_then ?_
        refine TC_seq ?_
        refine TC_reg ?_
        refine TL_q rfl rfl (QT_move rfl rfl rfl) ?_
        refine TL_q rfl rfl (QT_len rfl rfl Tryd.underlying31 rfl) ?_
        refine TL_q rfl rfl (QT_move rfl rfl rfl) ?_
        refine TL_q rfl rfl (QT_len rfl rfl Tryd.underlying31 rfl) ?_
        refine TL_q rfl rfl (QT_sub rfl rfl rfl rfl (fun _ => ⟨by omega, by omega⟩)) ?_
        refine TL_q rfl rfl (QT_move rfl rfl rfl) ?_
        refine TL_q rfl rfl (QT_len rfl rfl Tryd.underlying31 rfl) ?_
        refine TL_q rfl rfl (QT_sub rfl rfl rfl rfl (fun _ => ⟨by omega, by omega⟩)) ?_
        refine TL_q rfl rfl (QT_assign rfl rfl rfl) ?_
        refine TL_nil ?_
        refine TX_then ?_
        refine TC_seq ?_
        refine TC_seq ?_
        refine TC_reg ?_
        refine TL_q rfl rfl (QT_field rfl rfl YtannaanbadaflaaDoorF.fld_27_0 rfl) ?_
        first
          | refine TL_q rfl rfl (QT_load 0 rfl rfl Tryd.underlying3 rfl rfl rfl (fun _ => rfl)) ?_
          | refine TL_q rfl rfl (QT_load 1 rfl rfl Tryd.underlying3 rfl rfl rfl (fun _ => rfl)) ?_
          | refine TL_q rfl rfl (QT_load 2 rfl rfl Tryd.underlying3 rfl rfl rfl (fun _ => rfl)) ?_
        refine TL_q rfl rfl (QT_eql rfl rfl rfl rfl) ?_
        refine TL_q rfl rfl (QT_move rfl rfl rfl) ?_
        refine TL_q rfl rfl (QT_move rfl rfl rfl) ?_
        refine TL_q rfl rfl (QT_neq rfl rfl rfl rfl) ?_
        refine TL_q rfl rfl (QT_and rfl rfl rfl rfl) ?_
        refine TL_q rfl rfl (QT_move rfl rfl rfl) ?_
        refine TL_q rfl rfl (QT_field rfl rfl YtannaanbadaflaaDoorF.fld_27_0 rfl) ?_
        first
          | refine TL_q rfl rfl (QT_load 0 rfl rfl Tryd.underlying3 rfl rfl rfl (fun _ => rfl)) ?_
          | refine TL_q rfl rfl (QT_load 1 rfl rfl Tryd.underlying3 rfl rfl rfl (fun _ => rfl)) ?_
          | refine TL_q rfl rfl (QT_load 2 rfl rfl Tryd.underlying3 rfl rfl rfl (fun _ => rfl)) ?_
        refine TL_q rfl rfl (QT_eql rfl rfl rfl rfl) ?_
        refine TL_q rfl rfl (QT_move rfl rfl rfl) ?_
        refine TL_q rfl rfl (QT_move rfl rfl rfl) ?_
        refine TL_q rfl rfl (QT_field rfl rfl YtannaanbadaflaaDoorF.fld_27_5 rfl) ?_
        first
          | refine TL_q rfl rfl (QT_load 0 rfl rfl Tryd.underlying3 rfl rfl rfl (fun _ => rfl)) ?_
          | refine TL_q rfl rfl (QT_load 1 rfl rfl Tryd.underlying3 rfl rfl rfl (fun _ => rfl)) ?_
          | refine TL_q rfl rfl (QT_load 2 rfl rfl Tryd.underlying3 rfl rfl rfl (fun _ => rfl)) ?_
        refine TL_q rfl rfl (QT_sub rfl rfl rfl rfl (fun h => by (have h5 : L.ty = 5 := by (first | (simp at h; exact h) | (simp at h; exact h.2) | (simp at h; trace_state; omega))); omega)) ?_
        refine TL_q rfl rfl (QT_mul rfl rfl rfl rfl (fun h => by (have h5 : L.ty = 5 := by (first | (simp at h; exact h) | (simp at h; exact h.2) | (simp at h; trace_state; omega))); omega)) ?_
        refine TL_q rfl rfl (QT_neq rfl rfl rfl rfl) ?_
        refine TL_q rfl rfl (QT_and rfl rfl rfl rfl) ?_
        refine TL_q rfl rfl (QT_or rfl rfl rfl rfl) ?_
        refine TL_nil ?_
        refine TX_then ?_
        first
          | refine TC_cond_dec rfl (fun h108 => ?_) (fun h108 => ?_)
          | refine TC_cond rfl (fun h108 => ?_) (fun h108 => ?_)
        ·
          refine TC_seq ?_
          refine TC_reg ?_
          refine TL_q rfl rfl (QT_assign rfl rfl rfl) ?_
          refine TL_nil ?_
          refine TX_then ?_
          refine TC_ret ?_
          refine TX_then_ret ?_
          exfalso
          rw [hlc] at h108
          have : (((A.1.length + (mid.length + B.1.length) : Nat) : Int) - (A.1.length : Int) - (B.1.length : Int)) = (mid.length : Int) := by omega
          rw [this] at h108
          rcases hty with ⟨h4, rfl⟩ | ⟨h5, h1, _⟩
          · grind
          · grind
        ·
          refine TC_skip ?_
          refine TX_then ?_
          refine TC_seq ?_
          have hl21 : ∀ {D : List R}, (∀ t ∈ D, Ints triK t) → ∀ t ∈ D, t.length = 21 := fun h t ht => (h t ht).length
          have hmi : ∀ t ∈ mid, Ints triK t := fun t ht => hC2.1 t (List.mem_append_right _ (List.mem_append_left _ ht))
          have hpl : (A.1 ++ (mid ++ B.1), (0 : Int)).1.length = A.1.length + (mid.length + B.1.length) := hlc
          have hslC : SlA (St w0 ((b3, 27, L.cells) :: (H1 ++ (H2 ++ (H3 ++ η))))) (.slice rad (A.1 ++ (mid ++ B.1), (0 : Int)).1.length rcap) 21 (A.1 ++ (mid ++ B.1), (0 : Int)).1.length (A.1 ++ (mid ++ B.1)).flatten := hF3.within fun p => by simp only [List.countP_append, List.countP_cons]; omega
          have hfront := hslC.front (k := A.1.length) (by omega)
          rw [flat_take (hl21 hA2.1)] at hfront
          have hback := hslC.back (k := A.1.length + mid.length) (by omega)
          rw [flat_drop2 (hl21 hA2.1) (hl21 hmi), show (A.1 ++ (mid ++ B.1), (0 : Int)).1.length - (A.1.length + mid.length) = B.1.length by omega] at hback
          have hiA : Ints (rep A.1.length triK) A.1.flatten := flat_ints (s := 21) hA2.1
          have hiB : Ints (rep B.1.length triK) B.1.flatten := flat_ints (s := 21) hB2.1
          refine TC_reg ?_
          refine TL_q rfl rfl (QT_move rfl rfl rfl) ?_
          refine TL_q rfl rfl (QT_move rfl rfl rfl) ?_
          refine TL_q rfl rfl (QT_len rfl rfl Tryd.underlying31 rfl) ?_
          refine TL_q rfl rfl (QT_slcH A.1.length rfl rfl rfl rfl Tryd.underlying31 YtannaanbadaflaaDoorF.sz_65 rfl rfl rfl (fun _ => by omega)) ?_
          refine TL_q rfl rfl (QT_move rfl rfl rfl) ?_
          refine TL_cq rfl rfl rfl rfl YtannaanbadaflaaDoorF.cal_14 rfl (fun _ => sameOk_Tris w0 _ _ _ A.1.length A.1.flatten hfront (hF1.within fun p => by simp only [List.countP_append, List.countP_cons]; omega) hiA) ?_
          refine TL_q rfl rfl (QT_move rfl rfl rfl) ?_
          refine TL_q rfl rfl (QT_move rfl rfl rfl) ?_
          refine TL_q rfl rfl (QT_move rfl rfl rfl) ?_
          refine TL_q rfl rfl (QT_len rfl rfl Tryd.underlying31 rfl) ?_
          refine TL_q rfl rfl (QT_move rfl rfl rfl) ?_
          refine TL_q rfl rfl (QT_add rfl rfl rfl rfl (fun _ => ⟨by omega, by omega⟩)) ?_
          refine TL_q rfl rfl (QT_slcL (A.1.length + mid.length) rfl rfl rfl rfl Tryd.underlying31 YtannaanbadaflaaDoorF.sz_65 rfl rfl (by omega) (fun _ => by omega)) ?_
          refine TL_q rfl rfl (QT_move rfl rfl rfl) ?_
          refine TL_cq rfl rfl rfl rfl YtannaanbadaflaaDoorF.cal_14 rfl (fun _ => sameOk_at (by omega) w0 _ _ _ _ B.1.length B.1.flatten hback (hF2.within fun p => by simp only [List.countP_append, List.countP_cons]; omega) hiB) ?_
          refine TL_q rfl rfl (QT_and rfl rfl rfl rfl) ?_
          refine TL_q rfl rfl (QT_move rfl rfl rfl) ?_
          refine TL_cq rfl rfl rfl rfl YtannaanbadaflaaDoorF.cal_8 rfl (fun _ => lives10 w0 _ hG) ?_
          refine TL_q rfl rfl (QT_and rfl rfl rfl rfl) ?_
          refine TL_q rfl rfl (QT_assign rfl rfl rfl) ?_
          refine TL_nil ?_
          refine TX_then ?_
          refine TC_ret ?_
          exact TX_ret (.inl rfl) (res1 rfl rfl) ⟨_, ⟨by simp, rfl⟩, fun _ h => h.tail.app_right.app_right.app_right⟩
end Go.Proofs.YtannaanbadaflaaDoor

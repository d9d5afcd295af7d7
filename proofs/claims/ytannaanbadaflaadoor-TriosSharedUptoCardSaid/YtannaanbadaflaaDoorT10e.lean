/- TRIANGLES OF VERTICES: the program's answer, and the document's. -/
import Derived.Test.YtannaanbadaflaaDoorT10d
namespace Go.Proofs.YtannaanbadaflaaDoor
open Go Go.Gx Go.RowKit
set_option maxRecDepth 100000

def headBad (rs : List R) : Prop := match rs with
  | x :: _ => flagR x ≠ 0
  | [] => False
instance (rs : List R) : Decidable (headBad rs) := by unfold headBad; split <;> infer_instance
def strips (rs : List R) : List R × Int := stripF (rs.length + 1) rs zR zR zR []
def trioF (L : Lay) (rs : List R) : List R × Int :=
  if okB L = true ∧ (L.ty = 4 ∨ L.ty = 5) then (if L.ty = 5 then rowsF rs L.ro.toNat else if headBad rs then ([], 6) else strips rs) else ([], 4)
theorem trio4 {L : Lay} {rs : List R} (h : ¬(okB L = true ∧ (L.ty = 4 ∨ L.ty = 5))) : trioF L rs = ([], 4) := by rw [trioF, if_neg h]
theorem trio5 {L : Lay} {rs : List R} (h : okB L = true) (h5 : L.ty = 5) : trioF L rs = rowsF rs L.ro.toNat := by rw [trioF, if_pos ⟨h, .inr h5⟩, if_pos h5]
theorem trio6 {L : Lay} {rs : List R} (h : okB L = true) (h4 : L.ty = 4) (hb : headBad rs) : trioF L rs = ([], 6) := by rw [trioF, if_pos ⟨h, .inl h4⟩, if_neg (by omega), if_pos hb]
theorem trioS {L : Lay} {rs : List R} (h : okB L = true) (h4 : L.ty = 4) (hb : ¬headBad rs) : trioF L rs = strips rs := by rw [trioF, if_pos ⟨h, .inl h4⟩, if_neg (by omega), if_neg hb]
theorem ok_of {L : Lay} (h : ¬errOf L ≠ 0) : okB L = true := by
  by_cases hk : okB L = true
  · exact hk
  · exact absurd (by simp [errOf, hk]) h
theorem head_flag {rs : List R} (ha : All7 rs) (h : 0 < rs.length) : rs.flatten[0 * 7]? = some (.int .u8 (flagR (at7 rs 0) : Int)) := by
  cases rs with
  | nil => simp at h
  | cons x v =>
    have hx := ha x (List.mem_cons_self ..)
    have h1 := (flagR_spec hx).1
    rw [Nat.zero_mul, List.flatten_cons, List.getElem?_append_left (by rw [hx.length]; decide)]
    exact h1
theorem rows_at {r : Int} {row : Nat} (hr : r = (row : Int)) (w0 : World) (η : Heap) (sv : Value) (rs : List R) (hs : SlA (St w0 η) sv 7 rs.length rs.flatten) (ha : All7 rs) (hrow : 1 ≤ row) (hn : rs.length * 120 ≤ 140737488355328) :
    CallsT Tryd.prog 21 [sv, .int .i64 r] (St w0 η) fun v A' => ∃ pv H, v = .tuple #[pv, .int .i64 (rowsF rs row).2] ∧ Frag 65 21 pv (rowsF rs row).1.length (rowsF rs row).1.flatten H ∧ A' = St w0 (H ++ η) := by
  subst hr; exact rows_spec w0 η sv rs row hs ha hrow hn
theorem cells_at {r : Int} {row : Nat} (hr : r = (row : Int)) (w0 : World) (η : Heap) (sv : Value) (rs : List R) (hs : SlA (St w0 η) sv 7 rs.length rs.flatten) (ha : All7 rs) (hrow : 1 ≤ row) (hn : rs.length * 120 ≤ 140737488355328) :
    CallsT Tryd.prog 24 [sv, .int .i64 r] (St w0 η) fun v A' => ∃ pv H, v = .tuple #[pv, .int .i64 (rowsF rs row).2] ∧ Frag 65 21 pv (rowsF rs row).1.length (rowsF rs row).1.flatten H ∧ A' = St w0 (H ++ η) := by
  subst hr; exact cells_spec w0 η sv rs row hs ha hrow hn
theorem sla_wk {w0 : World} {η η' : Heap} {v : Value} {z n : Nat} {cs : List Value} (h : SlA (St w0 η) v z n cs) (hd : ∀ w, St w0 η' w → St w0 η w) : SlA (St w0 η') v z n cs := h.mono hd
theorem Frag.sla' {w0 : World} {e size : Nat} {v : Value} {n : Nat} {xs : List Value} {H η : Heap} (h : Frag e size v n xs H) (η' : Heap) (hd : ∀ w, St w0 η' w → St w0 (H ++ η) w) : SlA (St w0 η') v size n xs := sla_wk (h.sla (w0 := w0) (η := η)) hd

theorem of_spec (w0 : World) (η : Heap) (hG : Sets w0) (L : Lay) (sv : Value) (rs : List R) (hs : SlA (St w0 η) sv 7 rs.length rs.flatten) (ha : All7 rs) (hn : rs.length * 120 ≤ 140737488355328) :
    CallsT Tryd.prog 10 [L.val, sv] (St w0 η) fun v A' => ∃ pv H, v = .tuple #[pv, .int .i64 (trioF L rs).2] ∧ Frag 65 21 pv (trioF L rs).1.length (trioF L rs).1.flatten H ∧ ∃ X, A' = St w0 (H ++ (X ++ η)) := by
  refine CallsT.body Tryd.func10 rfl rfl ?_
  simp only [Tryd.ntmps10, slotsOf, Nat.reduceAdd]
  refine TC_seq ?_
  refine TC_reg ?_
  refine TL_e rfl rfl rfl (rfl) (ET_box rfl rfl) ?_
  rintro _ _ ⟨b2, rfl, rfl⟩
  refine TL_q rfl rfl (QT_assign rfl rfl rfl) ?_
  refine TL_q rfl rfl (QT_assign rfl rfl rfl) ?_
  refine TL_nil ?_
  refine TX_then ?_
  refine TC_seq ?_
  refine TC_reg ?_
  refine TL_q rfl rfl (QT_move rfl rfl rfl) ?_
  refine TL_e rfl rfl rfl (rfl) (ET_call rfl YtannaanbadaflaaDoorF.cal_20 rfl (cloneR_spec w0 _ sv rs.length rs.flatten hs.tail (flat_ints (s := 7) ha) (by omega))) ?_
  rintro cv _ ⟨Hc, hFc, rfl⟩
  refine TL_q rfl rfl (QT_assign rfl rfl rfl) ?_
  refine TL_nil ?_
  refine TX_then ?_
  refine TC_seq ?_
  refine TC_block ?_
  refine TC_seq ?_
  refine TC_A (St w0 ((b2, 27, L.cells) :: (Hc ++ η))) (fun _ h => h.perm List.perm_middle.symm) ?_
  have hsc : SlA (St w0 (Hc ++ η)) cv 7 rs.length rs.flatten := hFc.sla
  obtain ⟨_, ad, cap, sb, so, rfl, hcap, had, hrd⟩ := hsc.some
  refine TC_reg ?_
  first
    | refine TL_q rfl rfl (QT_loadW 0 rfl rfl Tryd.underlying27 rfl rfl rfl YtannaanbadaflaaDoorF.sz_27) ?_
    | refine TL_q rfl rfl (QT_loadW 1 rfl rfl Tryd.underlying27 rfl rfl rfl YtannaanbadaflaaDoorF.sz_27) ?_
    | refine TL_q rfl rfl (QT_loadW 2 rfl rfl Tryd.underlying27 rfl rfl rfl YtannaanbadaflaaDoorF.sz_27) ?_
    | refine TL_q rfl rfl (QT_loadA 0 rfl rfl Tryd.underlying27 rfl rfl rfl YtannaanbadaflaaDoorF.sz_27 (fun _ => rfl)) ?_
    | refine TL_q rfl rfl (QT_loadA 1 rfl rfl Tryd.underlying27 rfl rfl rfl YtannaanbadaflaaDoorF.sz_27 (fun _ => rfl)) ?_
    | refine TL_q rfl rfl (QT_loadA 2 rfl rfl Tryd.underlying27 rfl rfl rfl YtannaanbadaflaaDoorF.sz_27 (fun _ => rfl)) ?_
  refine TL_cq rfl rfl rfl rfl YtannaanbadaflaaDoorF.cal_17 rfl (fun _ => check_spec w0 _ hG L) ?_
  refine TL_q rfl rfl (QT_neq rfl rfl rfl rfl) ?_
  refine TL_q rfl rfl (QT_move rfl rfl rfl) ?_
  refine TL_q rfl rfl (QT_field rfl rfl YtannaanbadaflaaDoorF.fld_27_0 rfl) ?_
  first
    | refine TL_q rfl rfl (QT_load 0 rfl rfl Tryd.underlying3 rfl rfl rfl (fun _ => rfl)) ?_
    | refine TL_q rfl rfl (QT_load 1 rfl rfl Tryd.underlying3 rfl rfl rfl (fun _ => rfl)) ?_
    | refine TL_q rfl rfl (QT_load 2 rfl rfl Tryd.underlying3 rfl rfl rfl (fun _ => rfl)) ?_
  refine TL_q rfl rfl (QT_gtr rfl rfl rfl rfl) ?_
  refine TL_q rfl rfl (QT_or rfl rfl rfl rfl) ?_
  refine TL_q rfl rfl (QT_assign rfl rfl rfl) ?_
  refine TL_nil ?_
  refine TX_then ?_
  first
    | refine TC_cond_dec rfl (fun h8 => ?_) (fun h8 => ?_)
    | refine TC_cond rfl (fun h8 => ?_) (fun h8 => ?_)
  ·
    refine TC_seq ?_
    refine TC_reg ?_
    refine TL_q rfl rfl (QT_assign rfl rfl rfl) ?_
    refine TL_q rfl rfl (QT_assign rfl rfl rfl) ?_
    refine TL_nil ?_
    refine TX_then ?_
    refine TC_ret ?_
    refine TX_block_ret ?_
    refine TX_then_ret ?_
    rw [trio4 (by
      simp only [Bool.or_eq_true, decide_eq_true_eq] at h8
      rintro ⟨h1, h2⟩
      simp [errOf, h1] at h8
      omega)]
    exact TX_ret (.inl rfl) (res2 rfl rfl rfl) ⟨_, ⟨_, [], rfl, Frag.nil _ _, Hc, rfl⟩, fun _ h => h.tail⟩
  ·
    refine TC_seq ?_
    simp only [Bool.or_eq_false_iff, decide_eq_false_iff_not] at h8
    have hk : okB L = true := ok_of h8.1
    have hty := (okB_bounds hk).2.2.2.1
    refine TC_reg ?_
    refine TL_q rfl rfl (QT_field rfl rfl YtannaanbadaflaaDoorF.fld_27_0 rfl) ?_
    first
      | refine TL_q rfl rfl (QT_load 0 rfl rfl Tryd.underlying3 rfl rfl rfl (fun _ => rfl)) ?_
      | refine TL_q rfl rfl (QT_load 1 rfl rfl Tryd.underlying3 rfl rfl rfl (fun _ => rfl)) ?_
      | refine TL_q rfl rfl (QT_load 2 rfl rfl Tryd.underlying3 rfl rfl rfl (fun _ => rfl)) ?_
    refine TL_q rfl rfl (QT_eql rfl rfl rfl rfl) ?_
    refine TL_q rfl rfl (QT_assign rfl rfl rfl) ?_
    refine TL_nil ?_
    refine TX_then ?_
    first
      | refine TC_cond_dec rfl (fun h17 => ?_) (fun h17 => ?_)
      | refine TC_cond rfl (fun h17 => ?_) (fun h17 => ?_)
    ·
      refine TC_seq ?_
      have h5 : L.ty = 5 := by simpa using h17
      have hro := (okB_bounds hk).2.2.2.2.1 h5
      rw [trio5 hk h5]
      have her : L.ro = ((L.ro.toNat : Nat) : Int) := by omega
      refine TC_reg ?_
      refine TL_q rfl rfl (QT_move rfl rfl rfl) ?_
      refine TL_q rfl rfl (QT_field rfl rfl YtannaanbadaflaaDoorF.fld_27_5 rfl) ?_
      first
        | refine TL_q rfl rfl (QT_load 0 rfl rfl Tryd.underlying3 rfl rfl rfl (fun _ => rfl)) ?_
        | refine TL_q rfl rfl (QT_load 1 rfl rfl Tryd.underlying3 rfl rfl rfl (fun _ => rfl)) ?_
        | refine TL_q rfl rfl (QT_load 2 rfl rfl Tryd.underlying3 rfl rfl rfl (fun _ => rfl)) ?_
      refine TL_A (St w0 (Hc ++ η)) (fun _ h => h.tail) ?_
      refine TL_e rfl rfl rfl (rfl) (ET_call rfl YtannaanbadaflaaDoorF.cal_21 rfl (rows_at her w0 _ _ rs hsc ha (by omega) hn)) ?_
      rintro _ _ ⟨pv, Hr, rfl, hFr, rfl⟩
      refine TL_q rfl rfl (QT_extract rfl rfl rfl rfl) ?_
      refine TL_q rfl rfl (QT_extract rfl rfl rfl rfl) ?_
      refine TL_q rfl rfl (QT_assign rfl rfl rfl) ?_
      refine TL_q rfl rfl (QT_assign rfl rfl rfl) ?_
      refine TL_nil ?_
      refine TX_then ?_
      refine TC_ret ?_
      refine TX_block_ret ?_
      refine TX_then_ret ?_
      exact TX_ret (.inl rfl) (res2 rfl rfl rfl) ⟨_, ⟨pv, Hr, rfl, hFr, Hc, rfl⟩, fun _ h => h⟩
    ·
      refine TC_seq ?_
      have h4 : L.ty = 4 := by
        have : L.ty ≠ 5 := by simpa using h17
        omega
      refine TC_reg ?_
      refine TL_q rfl rfl (QT_move rfl rfl rfl) ?_
      refine TL_q rfl rfl (QT_len rfl rfl Tryd.underlying28 rfl) ?_
      refine TL_q rfl rfl (QT_gtr rfl rfl rfl rfl) ?_
      refine TL_q rfl rfl (QT_move rfl rfl rfl) ?_
      refine TL_q rfl rfl (QT_move rfl rfl rfl) ?_
      refine TL_q rfl rfl (QT_indexG 0 rfl rfl Tryd.underlying28 YtannaanbadaflaaDoorF.sz_63 rfl rfl rfl (fun h => by simpa using h) (fun h => had (by simpa using h))) ?_
      refine TL_q rfl rfl (QT_field rfl rfl YtannaanbadaflaaDoorF.fld_63_0 rfl) ?_
      refine TL_q rfl rfl (QT_loadRj (v := .int .u8 (flagR (at7 rs 0) : Int)) (0 * 7) rfl rfl Tryd.underlying5 rfl (hrd.deep (by intro _ hw; first | exact hw | exact hw.app_right | exact hw.app_right.app_right | exact hw.tail | exact hw.tail.app_right | exact hw.tail.tail | exact hw.tail.tail.app_right | exact hw.tail.tail.tail | exact hw.tail.tail.tail.app_right | exact hw.tail.tail.tail.tail | exact hw.tail.tail.tail.tail.app_right | exact hw.tail.tail.tail.tail.tail | exact hw.tail.tail.tail.tail.tail.app_right | exact hw.tail.tail.tail.tail.tail.tail | exact hw.tail.tail.tail.tail.tail.tail.app_right)) rfl (fun h => head_flag ha (by simpa using h))) ?_
      refine TL_q rfl rfl (QT_neq rfl rfl rfl rfl) ?_
      refine TL_q rfl rfl (QT_and rfl rfl rfl rfl) ?_
      refine TL_q rfl rfl (QT_assign rfl rfl rfl) ?_
      refine TL_nil ?_
      refine TX_then ?_
      first
        | refine TC_cond_dec rfl (fun h27 => ?_) (fun h27 => ?_)
        | refine TC_cond rfl (fun h27 => ?_) (fun h27 => ?_)
      ·
        refine TC_seq ?_
        refine TC_reg ?_
        refine TL_q rfl rfl (QT_assign rfl rfl rfl) ?_
        refine TL_q rfl rfl (QT_assign rfl rfl rfl) ?_
        refine TL_nil ?_
        refine TX_then ?_
        refine TC_ret ?_
        refine TX_block_ret ?_
        refine TX_then_ret ?_
        have hb : headBad rs := by
          simp only [Bool.and_eq_true, decide_eq_true_eq] at h27
          cases rs with
          | nil => simp at h27
          | cons x v =>
            have : at7 (x :: v) 0 = x := rfl
            rw [this] at h27
            intro h0
            rw [h0] at h27
            simp at h27
        rw [trio6 hk h4 hb]
        exact TX_ret (.inl rfl) (res2 rfl rfl rfl) ⟨_, ⟨_, [], rfl, Frag.nil _ _, Hc, rfl⟩, fun _ h => h.tail⟩
      ·
        refine TC_skip ?_
        refine TX_block_normal ?_
        refine TX_then ?_
        refine TC_seq ?_
        have hb : ¬headBad rs := by
          simp only [Bool.and_eq_false_iff, decide_eq_false_iff_not] at h27
          cases rs with
          | nil => exact id
          | cons x v =>
            have : at7 (x :: v) 0 = x := rfl
            rw [this] at h27
            intro h0
            simp only [List.length_cons] at h27
            have h0' : flagR x ≠ 0 := h0
            omega
        rw [trioS hk h4 hb]
        refine TC_A (St w0 (Hc ++ η)) (fun _ h => h.tail) ?_
        refine TC_reg ?_
        refine TL_q rfl rfl (QT_move rfl rfl rfl) ?_
        refine TL_e rfl rfl rfl (rfl) (ET_call rfl YtannaanbadaflaaDoorF.cal_22 rfl (strip_spec w0 _ _ rs hsc ha (by omega))) ?_
        rintro _ _ ⟨pv, Hr, rfl, hFr, rfl⟩
        refine TL_q rfl rfl (QT_extract rfl rfl rfl rfl) ?_
        refine TL_q rfl rfl (QT_extract rfl rfl rfl rfl) ?_
        refine TL_q rfl rfl (QT_assign rfl rfl rfl) ?_
        refine TL_q rfl rfl (QT_assign rfl rfl rfl) ?_
        refine TL_nil ?_
        refine TX_then ?_
        refine TC_ret ?_
        exact TX_ret (.inl rfl) (res2 rfl rfl rfl) ⟨_, ⟨pv, Hr, rfl, hFr, Hc, rfl⟩, fun _ h => h⟩
end Go.Proofs.YtannaanbadaflaaDoor

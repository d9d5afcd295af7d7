/- THE LAW: each record is got, and put, alone as among the others. -/
import Derived.Test.YtjehicncbpljaaaDoorS09p
namespace Go.Proofs.YtjehicncbpljaaaDoor
open Go Go.Gx Go.RowKit
set_option maxRecDepth 100000
theorem rget0_long (w0 : Base) (η : Heap) (hG : Sets w0) (L : Lay) (sv : Value) (bs : List Nat) (hs : SlA (St w0 η) sv 1 bs.length (byV bs)) (h0 : 65536 < bs.length) :
    CallsT Tryd.prog 11 [L.val, sv] (St w0 η) fun v A' => ∃ rv H, v = .tuple #[rv, .int .i64 (errRG L bs)] ∧ Frag 67 7 rv (outRG L bs).length (flatR (outRG L bs)) H ∧ A' = St w0 (H ++ η) := by
  obtain ⟨hbl, ad, cap, sb, so, rfl, hcap, had, hrd⟩ := hs.some
  refine CallsT.bodyM Tryd.func11 rfl rfl ?_
  simp only [Tryd.ntmps11, slotsOf, Nat.reduceAdd]
  refine TC_seq ?_
  refine TC_reg ?_
  refine TL_e rfl rfl rfl (rfl) (ET_box rfl rfl) ?_
  rintro _ _ ⟨b2, rfl, rfl⟩
  refine TL_q rfl rfl (QT_assign rfl rfl rfl) ?_
  refine TL_q rfl rfl (QT_assign rfl rfl rfl) ?_
  refine TL_nil ?_
  refine TX_then ?_
  refine TC_seq ?_
  refine TC_A (St w0 ((b2, 27, L.cells) :: η)) (fun _ h => h) ?_
  refine TC_reg ?_
  first
    | refine TL_q rfl rfl (QT_loadW 0 rfl rfl Tryd.underlying27 rfl rfl rfl YtjehicncbpljaaaDoorF.sz_27) ?_
    | refine TL_q rfl rfl (QT_loadW 1 rfl rfl Tryd.underlying27 rfl rfl rfl YtjehicncbpljaaaDoorF.sz_27) ?_
    | refine TL_q rfl rfl (QT_loadW 2 rfl rfl Tryd.underlying27 rfl rfl rfl YtjehicncbpljaaaDoorF.sz_27) ?_
    | refine TL_q rfl rfl (QT_loadA 0 rfl rfl Tryd.underlying27 rfl rfl rfl YtjehicncbpljaaaDoorF.sz_27 (fun _ => rfl)) ?_
    | refine TL_q rfl rfl (QT_loadA 1 rfl rfl Tryd.underlying27 rfl rfl rfl YtjehicncbpljaaaDoorF.sz_27 (fun _ => rfl)) ?_
    | refine TL_q rfl rfl (QT_loadA 2 rfl rfl Tryd.underlying27 rfl rfl rfl YtjehicncbpljaaaDoorF.sz_27 (fun _ => rfl)) ?_
  refine TL_cq rfl rfl rfl rfl YtjehicncbpljaaaDoorF.cal_25 rfl (fun _ => size_spec w0 _ hG L 0 (by decide)) ?_
  refine TL_q rfl rfl (QT_assign rfl rfl rfl) ?_
  refine TL_nil ?_
  refine TX_then ?_
  refine TC_seq ?_
  refine TC_seq ?_
  refine TC_reg ?_
  first
    | refine TL_q rfl rfl (QT_loadW 0 rfl rfl Tryd.underlying27 rfl rfl rfl YtjehicncbpljaaaDoorF.sz_27) ?_
    | refine TL_q rfl rfl (QT_loadW 1 rfl rfl Tryd.underlying27 rfl rfl rfl YtjehicncbpljaaaDoorF.sz_27) ?_
    | refine TL_q rfl rfl (QT_loadW 2 rfl rfl Tryd.underlying27 rfl rfl rfl YtjehicncbpljaaaDoorF.sz_27) ?_
    | refine TL_q rfl rfl (QT_loadA 0 rfl rfl Tryd.underlying27 rfl rfl rfl YtjehicncbpljaaaDoorF.sz_27 (fun _ => rfl)) ?_
    | refine TL_q rfl rfl (QT_loadA 1 rfl rfl Tryd.underlying27 rfl rfl rfl YtjehicncbpljaaaDoorF.sz_27 (fun _ => rfl)) ?_
    | refine TL_q rfl rfl (QT_loadA 2 rfl rfl Tryd.underlying27 rfl rfl rfl YtjehicncbpljaaaDoorF.sz_27 (fun _ => rfl)) ?_
  refine TL_cq rfl rfl rfl rfl YtjehicncbpljaaaDoorF.cal_27 rfl (fun _ => rcheck0_spec w0 _ hG L) ?_
  refine TL_q rfl rfl (QT_assign rfl rfl rfl) ?_
  refine TL_nil ?_
  refine TX_then ?_
  refine TC_block ?_
  refine TC_seq ?_
  refine TC_reg ?_
  refine TL_q rfl rfl (QT_move rfl rfl rfl) ?_
  refine TL_q rfl rfl (QT_neq rfl rfl rfl rfl) ?_
  refine TL_q rfl rfl (QT_assign rfl rfl rfl) ?_
  refine TL_nil ?_
  refine TX_then ?_
  first
    | refine TC_cond_dec rfl (fun h21 => ?_) (fun h21 => ?_)
    | refine TC_cond rfl (fun h21 => ?_) (fun h21 => ?_)
  ·
    refine TC_seq ?_
    refine TC_reg ?_
    refine TL_q rfl rfl (QT_move rfl rfl rfl) ?_
    refine TL_q rfl rfl (QT_assign rfl rfl rfl) ?_
    refine TL_q rfl rfl (QT_assign rfl rfl rfl) ?_
    refine TL_nil ?_
    refine TX_then ?_
    refine TC_ret ?_
    refine TX_block_ret ?_
    refine TX_then_ret ?_
    have hne : ¬ (okB L = true ∧ L.ty ≤ 5) := fun hc => h21 (by unfold errCR; rw [if_pos hc])
    have eP : errRG L bs = 4 := by unfold errRG; rw [if_neg hne]
    have eC : errCR L = 4 := by unfold errCR; rw [if_neg hne]
    exact TX_retM (.inl rfl) (res2 rfl rfl rfl) ⟨_, ⟨_, [], by rw [eP, eC], fragNoneRG eP (by decide), rfl⟩, fun _ h => h.tail⟩
  ·
    refine TC_seq ?_
    refine TC_reg ?_
    refine TL_q rfl rfl (QT_move rfl rfl rfl) ?_
    refine TL_q rfl rfl (QT_len rfl rfl Tryd.underlying28 rfl) ?_
    refine TL_q rfl rfl (QT_gtr rfl rfl rfl rfl) ?_
    refine TL_q rfl rfl (QT_assign rfl rfl rfl) ?_
    refine TL_nil ?_
    refine TX_then ?_
    refine TC_cond rfl (fun _ => ?_) (fun h => absurd (h.symm.trans (decide_eq_true (by omega))) (by decide))
    refine TC_seq ?_
    refine TC_reg ?_
    refine TL_q rfl rfl (QT_assign rfl rfl rfl) ?_
    refine TL_q rfl rfl (QT_assign rfl rfl rfl) ?_
    refine TL_nil ?_
    refine TX_then ?_
    refine TC_ret ?_
    refine TX_block_ret ?_
    refine TX_then_ret ?_
    have hc := errCR_ok (Classical.not_not.1 h21)
    have eP : errRG L bs = 3 := by unfold errRG; rw [if_pos hc, if_pos (by omega)]
    exact TX_retM (.inl rfl) (res2 rfl rfl rfl) ⟨_, ⟨_, [], by rw [eP], fragNoneRG eP (by decide), rfl⟩, fun _ h => h.tail⟩
theorem rget0_any (w0 : Base) (η : Heap) (hG : Sets w0) (L : Lay) (sv : Value) (bs : List Nat) (hs : SlA (St w0 η) sv 1 bs.length (byV bs)) (hb : ∀ c ∈ bs, c < 256) :
    CallsT Tryd.prog 11 [L.val, sv] (St w0 η) fun v A' => ∃ rv H, v = .tuple #[rv, .int .i64 (errRG L bs)] ∧ Frag 67 7 rv (outRG L bs).length (flatR (outRG L bs)) H ∧ A' = St w0 (H ++ η) := by
  by_cases h : 65536 < bs.length
  · exact rget0_long w0 η hG L sv bs hs h
  · exact rget0_spec w0 η hG L sv bs hs hb (by omega)
theorem SlA.midR {A : World → Prop} {ad : Option Addr} {n cap s l h : Nat} {cs : List Value} (hS : SlA A (.slice ad n cap) s n cs) (h1 : l ≤ h) (h2 : h ≤ n) : SlA A (.slice (if cap = l then ad else ad.map (·.add (l * s))) (h - l) (cap - l)) s (h - l) ((cs.drop (l * s)).take ((h - l) * s)) :=
  (hS.back (k := l) (by omega)).front (by omega)
theorem bytesR_part {L : Lay} {rs : List (List Nat)} (hr : ∀ r ∈ rs, RcF r) {k : Nat} {r : List Nat} (h : rs[k]? = some r) : ((bytesR L rs).drop (k * szR L)).take (szR L) = packR L r := by
  have hl := packR_len (L := L) (hr r (List.mem_of_getElem? h))
  apply List.ext_getElem?
  intro j
  rw [List.getElem?_take]
  by_cases hj : j < szR L
  · rw [if_pos hj, List.getElem?_drop, bytesR_at hr h hj]
  · rw [if_neg hj, List.getElem?_eq_none (by omega)]
theorem one_get {L : Lay} (hc : okB L = true ∧ L.ty ≤ 5) {bs : List Nat} {k : Nat} (hl : ((bs.drop (k * szR L)).take (szR L)).length = szR L) : errRG L ((bs.drop (k * szR L)).take (szR L)) = 0 ∧ outRG L ((bs.drop (k * szR L)).take (szR L)) = [recAt L bs k] := by
  have hsz := szR_bd hc.1
  have e : errRG L ((bs.drop (k * szR L)).take (szR L)) = 0 := by unfold errRG; rw [if_pos hc, if_neg (by omega), if_pos (by rw [hl]; exact Nat.mod_self _)]
  refine ⟨e, ?_⟩
  unfold outRG
  rw [if_pos e, hl, Nat.div_self (by omega)]
  show [recAt L _ 0] = _
  rw [← recAt_cut (bs := bs)]
  unfold recAt
  rw [Nat.zero_mul, List.drop_zero]
set_option maxHeartbeats 4000000 in
theorem law_recordsEach (w0 : Base) (η : Heap) (hG : Sets w0) (L : Lay) (bv : Value) (bs : List Nat) (hs : SlA (St w0 η) bv 1 bs.length (byV bs)) (hb : ∀ c ∈ bs, c < 256) (hl : bs.length ≤ 140737488355328) :
    CallsT Tryd.prog 7 [L.val, bv] (St w0 η) fun v A' => v = .bool true ∧ A' = St w0 η := by
  have hs0 := hs
  obtain ⟨hxl, ad, cap, bb, bo, rfl, hcap, had, hrd⟩ := hs.some
  have hs : ∀ {X : Heap}, (∀ w, St w0 X w → St w0 η w) → SlA (St w0 X) (.slice ad bs.length cap) 1 bs.length (byV bs) := fun h => hs0.mono h
  have hprod : ∃ P : Nat, P ≤ 65536 ∧ ((outRG L bs).length : Int) * sizeZ L 0 = (P : Int) ∧ (errRG L bs = 0 → P = bs.length ∧ sizeZ L 0 = (szR L : Int) ∧ 1 ≤ szR L) := by
    by_cases e0 : errRG L bs = 0
    · obtain ⟨hc, h1, hmod, ho⟩ := errRG_zero e0
      have hsz := sizeR_eq hc.1 (ty45 hc) 0
      refine ⟨bs.length, h1, ?_, fun _ => ⟨rfl, hsz, (szR_bd hc.1).1⟩⟩
      rw [ho, recsB_len, hsz, ← Int.natCast_mul, Nat.div_mul_cancel (Nat.dvd_of_mod_eq_zero hmod)]
    · refine ⟨0, by decide, ?_, fun h => absurd h e0⟩
      rw [errRG_bad e0]
      exact Int.zero_mul _
  obtain ⟨P, hP1, hP2, hP3⟩ := hprod
  refine CallsT.body Tryd.func7 rfl rfl ?_
  simp only [Tryd.ntmps7, slotsOf, Nat.reduceAdd]
  refine TC_seq ?_
  refine TC_reg ?_
  refine TL_e rfl rfl rfl (rfl) (ET_box rfl rfl) ?_
  rintro _ _ ⟨b2, rfl, rfl⟩
  refine TL_q rfl rfl (QT_assign rfl rfl rfl) ?_
  refine TL_nil ?_
  refine TX_then ?_
  refine TC_seq ?_
  refine TC_A (St w0 ((b2, 27, L.cells) :: η)) (fun _ h => h) ?_
  refine TC_reg ?_
  first
    | refine TL_q rfl rfl (QT_loadW 0 rfl rfl Tryd.underlying27 rfl rfl rfl YtjehicncbpljaaaDoorF.sz_27) ?_
    | refine TL_q rfl rfl (QT_loadW 1 rfl rfl Tryd.underlying27 rfl rfl rfl YtjehicncbpljaaaDoorF.sz_27) ?_
    | refine TL_q rfl rfl (QT_loadW 2 rfl rfl Tryd.underlying27 rfl rfl rfl YtjehicncbpljaaaDoorF.sz_27) ?_
    | refine TL_q rfl rfl (QT_loadA 0 rfl rfl Tryd.underlying27 rfl rfl rfl YtjehicncbpljaaaDoorF.sz_27 (fun _ => rfl)) ?_
    | refine TL_q rfl rfl (QT_loadA 1 rfl rfl Tryd.underlying27 rfl rfl rfl YtjehicncbpljaaaDoorF.sz_27 (fun _ => rfl)) ?_
    | refine TL_q rfl rfl (QT_loadA 2 rfl rfl Tryd.underlying27 rfl rfl rfl YtjehicncbpljaaaDoorF.sz_27 (fun _ => rfl)) ?_
  refine TL_q rfl rfl (QT_move rfl rfl rfl) ?_
  refine TL_e rfl rfl rfl (rfl) (ET_call rfl YtjehicncbpljaaaDoorF.cal_11 rfl (rget0_any w0 _ hG L _ bs (hs fun _ h => h.tail) hb)) ?_
  rintro _ _ ⟨sv, H1, rfl, hF1, rfl⟩
  refine TL_q rfl rfl (QT_move rfl rfl rfl) ?_
  refine TL_q rfl rfl (QT_extract rfl rfl rfl rfl) ?_
  refine TL_q rfl rfl (QT_extract rfl rfl rfl rfl) ?_
  refine TL_q rfl rfl (QT_assign rfl rfl rfl) ?_
  refine TL_q rfl rfl (QT_assign rfl rfl rfl) ?_
  refine TL_nil ?_
  refine TX_then ?_
  refine TC_seq ?_
  refine TC_A (St w0 ((b2, 27, L.cells) :: (H1 ++ η))) (fun w h => h.cnt fun p => by simp only [List.countP_append, List.countP_cons, List.countP_nil]; omega) ?_
  obtain ⟨sad, scap, rfl, hscap, _⟩ := hF1.slice
  refine TC_reg ?_
  first
    | refine TL_q rfl rfl (QT_loadW 0 rfl rfl Tryd.underlying27 rfl rfl rfl YtjehicncbpljaaaDoorF.sz_27) ?_
    | refine TL_q rfl rfl (QT_loadW 1 rfl rfl Tryd.underlying27 rfl rfl rfl YtjehicncbpljaaaDoorF.sz_27) ?_
    | refine TL_q rfl rfl (QT_loadW 2 rfl rfl Tryd.underlying27 rfl rfl rfl YtjehicncbpljaaaDoorF.sz_27) ?_
    | refine TL_q rfl rfl (QT_loadA 0 rfl rfl Tryd.underlying27 rfl rfl rfl YtjehicncbpljaaaDoorF.sz_27 (fun _ => rfl)) ?_
    | refine TL_q rfl rfl (QT_loadA 1 rfl rfl Tryd.underlying27 rfl rfl rfl YtjehicncbpljaaaDoorF.sz_27 (fun _ => rfl)) ?_
    | refine TL_q rfl rfl (QT_loadA 2 rfl rfl Tryd.underlying27 rfl rfl rfl YtjehicncbpljaaaDoorF.sz_27 (fun _ => rfl)) ?_
  refine TL_cq rfl rfl rfl rfl YtjehicncbpljaaaDoorF.cal_25 rfl (fun _ => size_spec w0 _ hG L 0 (by decide)) ?_
  refine TL_q rfl rfl (QT_assign rfl rfl rfl) ?_
  refine TL_nil ?_
  refine TX_then ?_
  refine TC_seq ?_
  refine TC_seq ?_
  refine TC_reg ?_
  refine TL_q rfl rfl (QT_move rfl rfl rfl) ?_
  refine TL_q rfl rfl (QT_len rfl rfl Tryd.underlying28 rfl) ?_
  refine TL_q rfl rfl (QT_gtr rfl rfl rfl rfl) ?_
  refine TL_q rfl rfl (QT_move rfl rfl rfl) ?_
  refine TL_q rfl rfl (QT_move rfl rfl rfl) ?_
  refine TL_q rfl rfl (QT_neq rfl rfl rfl rfl) ?_
  refine TL_q rfl rfl (QT_or rfl rfl rfl rfl) ?_
  refine TL_q rfl rfl (QT_move rfl rfl rfl) ?_
  refine TL_q rfl rfl (QT_move rfl rfl rfl) ?_
  refine TL_q rfl rfl (QT_lss rfl rfl rfl rfl) ?_
  refine TL_q rfl rfl (QT_or rfl rfl rfl rfl) ?_
  refine TL_q rfl rfl (QT_move rfl rfl rfl) ?_
  refine TL_q rfl rfl (QT_move rfl rfl rfl) ?_
  refine TL_q rfl rfl (QT_len rfl rfl Tryd.underlying31 rfl) ?_
  refine TL_q rfl rfl (QT_move rfl rfl rfl) ?_
  refine TL_q rfl rfl (QT_to (QT_mul rfl rfl rfl rfl (fun _ => by rw [hP2]; exact ⟨by omega, by omega⟩)) hP2) ?_
  refine TL_q rfl rfl (QT_move rfl rfl rfl) ?_
  refine TL_q rfl rfl (QT_len rfl rfl Tryd.underlying28 rfl) ?_
  refine TL_q rfl rfl (QT_neq rfl rfl rfl rfl) ?_
  refine TL_q rfl rfl (QT_or rfl rfl rfl rfl) ?_
  refine TL_nil ?_
  refine TX_then ?_
  first
    | refine TC_cond_dec rfl (fun h42 => ?_) (fun h42 => ?_)
    | refine TC_cond rfl (fun h42 => ?_) (fun h42 => ?_)
  ·
    refine TC_seq ?_
    refine TC_reg ?_
    refine TL_q rfl rfl (QT_move rfl rfl rfl) ?_
    refine TL_q rfl rfl (QT_len rfl rfl Tryd.underlying28 rfl) ?_
    refine TL_q rfl rfl (QT_gtr rfl rfl rfl rfl) ?_
    refine TL_q rfl rfl (QT_move rfl rfl rfl) ?_
    refine TL_q rfl rfl (QT_move rfl rfl rfl) ?_
    refine TL_q rfl rfl (QT_neq rfl rfl rfl rfl) ?_
    refine TL_q rfl rfl (QT_or rfl rfl rfl rfl) ?_
    refine TL_q rfl rfl (QT_move rfl rfl rfl) ?_
    refine TL_cq rfl rfl rfl rfl YtjehicncbpljaaaDoorF.cal_9 rfl (fun _ => lives09 w0 _ hG) ?_
    refine TL_q rfl rfl (QT_and rfl rfl rfl rfl) ?_
    refine TL_q rfl rfl (QT_assign rfl rfl rfl) ?_
    refine TL_nil ?_
    refine TX_then ?_
    refine TC_ret ?_
    refine TX_then_ret ?_
    have hx : (decide ((bs.length : Int) > 2000) || decide (errRG L bs ≠ 0)) = true := by
      by_cases e0 : errRG L bs = 0
      · obtain ⟨q1, q2, q3⟩ := hP3 e0
        rw [q1, q2, e0] at h42
        have h1 : ¬ ((szR L : Int) < 1) := by omega
        simpa [h1, e0] using h42
      · simp [e0]
    refine TX_ret (.inl rfl) (res1 rfl rfl) ⟨_, ⟨congrArg Value.bool (show (_ : Bool) = true from ?_), rfl⟩, fun w h => h.tail.app_right⟩
    rw [Bool.and_true]
    exact hx
  ·
    refine TC_skip ?_
    refine TX_then ?_
    refine TC_seq ?_
    obtain ⟨hn, e0⟩ : bs.length ≤ 2000 ∧ errRG L bs = 0 := by
      simp only [Bool.or_eq_false_iff, decide_eq_false_iff_not] at h42
      exact ⟨by omega, by omega⟩
    obtain ⟨hc, _, hmod, ho⟩ := errRG_zero e0
    obtain ⟨_, hsz, _⟩ := hP3 e0
    have hszb := szR_bd hc.1
    rw [hsz]
    simp only [e0]
    have hsh : ∀ r ∈ recsB L bs (bs.length / szR L), RcF r := recsB_rcf
    have hfit : (recsB L bs (bs.length / szR L)).all (fitR L) = true := recsB_fit
    have hol := recsB_len L bs (bs.length / szR L)
    have hat := fun {k : Nat} (h : k < bs.length / szR L) => recsB_at (L := L) (bs := bs) h
    have hNs : bs.length / szR L * szR L = bs.length := Nat.div_mul_cancel (Nat.dvd_of_mod_eq_zero hmod)
    have hlen : (bytesR L (recsB L bs (bs.length / szR L))).length = bs.length := by rw [bytesR_len hsh, hol, hNs]
    have hdl : bs.length / szR L ≤ bs.length := Nat.div_le_self _ _
    have hone := fun {k : Nat} => one_get hc (bs := bs) (k := k)
    rw [ho] at hF1 hscap
    rw [ho]
    replace hscap := hscap.1
    generalize recsB L bs (bs.length / szR L) = ys at *
    generalize hN : bs.length / szR L = N at *
    obtain ⟨p1, p2⟩ := put_okR hc hfit (by omega)
    have hbl := bytesR_lt L ys
    refine TC_reg ?_
    first
      | refine TL_q rfl rfl (QT_loadW 0 rfl rfl Tryd.underlying27 rfl rfl rfl YtjehicncbpljaaaDoorF.sz_27) ?_
      | refine TL_q rfl rfl (QT_loadW 1 rfl rfl Tryd.underlying27 rfl rfl rfl YtjehicncbpljaaaDoorF.sz_27) ?_
      | refine TL_q rfl rfl (QT_loadW 2 rfl rfl Tryd.underlying27 rfl rfl rfl YtjehicncbpljaaaDoorF.sz_27) ?_
      | refine TL_q rfl rfl (QT_loadA 0 rfl rfl Tryd.underlying27 rfl rfl rfl YtjehicncbpljaaaDoorF.sz_27 (fun _ => rfl)) ?_
      | refine TL_q rfl rfl (QT_loadA 1 rfl rfl Tryd.underlying27 rfl rfl rfl YtjehicncbpljaaaDoorF.sz_27 (fun _ => rfl)) ?_
      | refine TL_q rfl rfl (QT_loadA 2 rfl rfl Tryd.underlying27 rfl rfl rfl YtjehicncbpljaaaDoorF.sz_27 (fun _ => rfl)) ?_
    refine TL_q rfl rfl (QT_move rfl rfl rfl) ?_
    refine TL_e rfl rfl rfl (rfl) (ET_call rfl YtjehicncbpljaaaDoorF.cal_19 rfl (rput0_spec w0 _ hG L _ ys (hF1.within fun p => by simp only [List.countP_append, List.countP_cons]; omega) hsh (by omega))) ?_
    rintro _ _ ⟨cv, H2, rfl, hF2, rfl⟩
    refine TL_q rfl rfl (QT_move rfl rfl rfl) ?_
    refine TL_q rfl rfl (QT_extract rfl rfl rfl rfl) ?_
    refine TL_q rfl rfl (QT_extract rfl rfl rfl rfl) ?_
    refine TL_q rfl rfl (QT_assign rfl rfl rfl) ?_
    refine TL_q rfl rfl (QT_assign rfl rfl rfl) ?_
    refine TL_nil ?_
    refine TX_then ?_
    refine TC_seq ?_
    refine TC_seq ?_
    rw [p2] at hF2
    simp only [p1]
    obtain ⟨cad, ccap, rfl, _, _⟩ := hF2.slice
    refine TC_A (St w0 ((b2, 27, L.cells) :: (H1 ++ (H2 ++ η)))) (fun w h => h.cnt fun p => by simp only [List.countP_append, List.countP_cons, List.countP_nil]; omega) ?_
    refine TC_reg ?_
    refine TL_q rfl rfl (QT_move rfl rfl rfl) ?_
    refine TL_q rfl rfl (QT_neq rfl rfl rfl rfl) ?_
    refine TL_q rfl rfl (QT_move rfl rfl rfl) ?_
    refine TL_q rfl rfl (QT_move rfl rfl rfl) ?_
    refine TL_q rfl rfl (QT_len rfl rfl Tryd.underlying28 rfl) ?_
    refine TL_q rfl rfl (QT_move rfl rfl rfl) ?_
    refine TL_q rfl rfl (QT_len rfl rfl Tryd.underlying28 rfl) ?_
    refine TL_q rfl rfl (QT_neq rfl rfl rfl rfl) ?_
    refine TL_q rfl rfl (QT_or rfl rfl rfl rfl) ?_
    refine TL_nil ?_
    refine TX_then ?_
    refine TC_cond rfl (fun h => absurd (h.symm.trans ((show (_ : Bool) = false by simp [hlen]))) (by decide)) (fun _ => ?_)
    refine TC_skip ?_
    refine TX_then ?_
    refine TC_seq ?_
    refine TC_seq ?_
    refine TC_reg ?_
    refine TL_q rfl rfl (QT_assign rfl rfl rfl) ?_
    refine TL_nil ?_
    refine TX_then ?_
    refine TC_block ?_
    refine TC_loop (γ := { i : Nat // i ≤ ys.length }) (fun u => [(1, true, .slice ad bs.length cap), (2, true, .pointer (some ⟨b2, 0, none⟩)), (5, true, .slice sad ys.length scap), (7, true, .int .i64 (szR L : Int)), (8, true, .slice cad (bytesR L ys).length ccap), (10, true, .int .i64 (u.1 : Int))]) (fun _ => St w0 ((b2, 27, L.cells) :: (H1 ++ (H2 ++ η)))) (fun u => ys.length - u.1) ⟨0, Nat.zero_le _⟩ ⟨rfl, rfl, rfl, rfl, rfl, rfl, trivial⟩ (fun _ h => h) ?_
    rintro ⟨i, hi⟩
    dsimp only
    refine TC_seq ?_
    refine TC_seq ?_
    refine TC_reg ?_
    refine TL_q rfl rfl (QT_move rfl rfl rfl) ?_
    refine TL_q rfl rfl (QT_move rfl rfl rfl) ?_
    refine TL_q rfl rfl (QT_len rfl rfl Tryd.underlying31 rfl) ?_
    refine TL_q rfl rfl (QT_lss rfl rfl rfl rfl) ?_
    refine TL_nil ?_
    refine TX_then ?_
    first
      | refine TC_cond_dec rfl (fun h71 => ?_) (fun h71 => ?_)
      | refine TC_cond rfl (fun h71 => ?_) (fun h71 => ?_)
    ·
      have hi' : i < ys.length := by omega
      have hyi := hat (show i < N by omega)
      have hrF := hsh _ (List.mem_of_getElem? hyi)
      have hks : i * szR L + szR L ≤ bs.length := by
        have : (i + 1) * szR L ≤ N * szR L := Nat.mul_le_mul_right _ (by omega)
        rw [Nat.add_mul, Nat.one_mul, hNs] at this
        exact this
      have hci : (szR L : Int) * (i : Int) = ((i * szR L : Nat) : Int) := by rw [Int.natCast_mul, Int.mul_comm]
      have hpart := bytesR_part (L := L) hsh hyi
      have hpl := packR_len (L := L) hrF
      obtain ⟨hfl1, hfl2⟩ := flatR_at hsh hyi
      have hrfit : fitR L (recAt L bs i) = true := List.all_eq_true.1 hfit _ (List.mem_of_getElem? hyi)
      obtain ⟨ch, hch⟩ : ∃ ch, ch = (bs.drop (i * szR L)).take (szR L) := ⟨_, rfl⟩
      have hcl : ch.length = szR L := by rw [hch, List.length_take, List.length_drop]; omega
      obtain ⟨g1, g2⟩ := hone (k := i) (by rw [← hch]; exact hcl)
      rw [← hch] at g1 g2
      have hcb : ∀ c ∈ ch, c < 256 := fun c hc => hb c (by rw [hch] at hc; exact List.mem_of_mem_drop (List.mem_of_mem_take hc))
      have hrs1 : ∀ r ∈ [recAt L bs i], RcF r := fun r hr => by cases List.mem_singleton.1 hr; exact hrF
      have hb1 : bytesR L [recAt L bs i] = packR L (recAt L bs i) := by simp [bytesR]
      obtain ⟨q1, q2⟩ := put_okR hc (rs := [recAt L bs i]) (by simp [hrfit]) (by rw [hb1, hpl]; omega)
      rw [hb1] at q2
      have hpk := packB_lt (encR L (recAt L bs i))
      have hcs : ∀ {X : Heap}, (∀ w, St w0 X w → St w0 η w) → SlA (St w0 X) (.slice (if cap = i * szR L then ad else ad.map (·.add (i * szR L * 1))) (i * szR L + szR L - i * szR L) (cap - i * szR L)) 1 ch.length (byV ch) := fun h => by
        have h1 := SlA.midR (hs h) (l := i * szR L) (h := i * szR L + szR L) (by omega) hks
        rw [Nat.mul_one, Nat.mul_one, show i * szR L + szR L - i * szR L = szR L by omega, ← byV_cut, ← hch] at h1
        rw [show i * szR L + szR L - i * szR L = szR L by omega, hcl, Nat.mul_one]
        exact h1
      have hys : ∀ {X : Heap}, (∀ p : Blk → Bool, H1.countP p ≤ X.countP p) → SlA (St w0 X) (.slice (if scap = i then sad else sad.map (·.add (i * 7))) (i + 1 - i) (scap - i)) 7 1 (flatR [recAt L bs i]) := fun h => by
        have h1 := (SlA.midR (hF1.within (w0 := w0) h) (l := i) (h := i + 1) (by omega) (by omega))
        rw [show i + 1 - i = 1 by omega, Nat.one_mul, hfl2] at h1
        rw [show i + 1 - i = 1 by omega, show flatR [recAt L bs i] = rvV (recAt L bs i) by simp [flatR]]
        exact h1
      have hcs2 : ∀ {X : Heap}, (∀ p : Blk → Bool, H2.countP p ≤ X.countP p) → SlA (St w0 X) (.slice (if ccap = i * szR L then cad else cad.map (·.add (i * szR L * 1))) (i * szR L + szR L - i * szR L) (ccap - i * szR L)) 1 (packR L (recAt L bs i)).length (byV (packR L (recAt L bs i))) := fun h => by
        have h1 := (SlA.midR (hF2.within (w0 := w0) h) (l := i * szR L) (h := i * szR L + szR L) (by omega) (by omega))
        rw [Nat.mul_one, Nat.mul_one, show i * szR L + szR L - i * szR L = szR L by omega, ← byV_cut, hpart] at h1
        rw [show i * szR L + szR L - i * szR L = szR L by omega, hpl, Nat.mul_one]
        exact h1
      have hkb : i * szR L ≤ 2000 := by omega
      generalize hC : i * szR L = C at *
      generalize hR : recAt L bs i = r at *
      have hi2 : i ≤ 2000 := by omega
      refine TC_skip ?_
      refine TX_then ?_
      refine TC_seq ?_
      refine TC_block ?_
      refine TC_seq ?_
      refine TC_draw [(0, 0), (1, 0), (2, 0), (3, 0), (4, 0), (5, 0), (6, 0), (7, 0), (8, 0), (9, 0), (10, 0), (11, 1), (12, 0), (13, 0), (14, 0), (15, 0), (16, 0)] YtjehicncbpljaaaDoorF.mixed (by kernel_rfl) (St.calm _ _) ?_
      first
        | refine TV_ql rfl rfl rfl (QT_loadW 0 rfl rfl Tryd.underlying27 rfl rfl rfl YtjehicncbpljaaaDoorF.sz_27) ?_
        | refine TV_ql rfl rfl rfl (QT_loadW 1 rfl rfl Tryd.underlying27 rfl rfl rfl YtjehicncbpljaaaDoorF.sz_27) ?_
        | refine TV_ql rfl rfl rfl (QT_loadW 2 rfl rfl Tryd.underlying27 rfl rfl rfl YtjehicncbpljaaaDoorF.sz_27) ?_
        | refine TV_ql rfl rfl rfl (QT_loadA 0 rfl rfl Tryd.underlying27 rfl rfl rfl YtjehicncbpljaaaDoorF.sz_27 (fun _ => rfl)) ?_
        | refine TV_ql rfl rfl rfl (QT_loadA 1 rfl rfl Tryd.underlying27 rfl rfl rfl YtjehicncbpljaaaDoorF.sz_27 (fun _ => rfl)) ?_
        | refine TV_ql rfl rfl rfl (QT_loadA 2 rfl rfl Tryd.underlying27 rfl rfl rfl YtjehicncbpljaaaDoorF.sz_27 (fun _ => rfl)) ?_
      refine TV_q rfl rfl rfl (fun _ => QT_move rfl rfl rfl) ?_
      refine TV_q rfl rfl rfl (fun _ => QT_move rfl rfl rfl) ?_
      refine TV_q rfl rfl rfl (fun _ => QT_move rfl rfl rfl) ?_
      refine TV_q rfl rfl rfl (fun _ => QT_to (QT_mul rfl rfl rfl rfl (fun _ => by rw [hci]; exact ⟨by omega, by omega⟩)) hci) ?_
      refine TV_q rfl rfl rfl (fun _ => QT_move rfl rfl rfl) ?_
      refine TV_q rfl rfl rfl (fun _ => QT_move rfl rfl rfl) ?_
      refine TV_q rfl rfl rfl (fun _ => QT_to (QT_mul rfl rfl rfl rfl (fun _ => by rw [hci]; exact ⟨by omega, by omega⟩)) hci) ?_
      refine TV_q rfl rfl rfl (fun _ => QT_move rfl rfl rfl) ?_
      refine TV_q rfl rfl rfl (fun _ => QT_to (QT_add rfl rfl rfl rfl (fun _ => ⟨by omega, by omega⟩)) (show (C : Int) + (szR L : Int) = ((C + szR L : Nat) : Int) by omega)) ?_
      refine TV_q rfl rfl rfl (fun _ => QT_slcLH (C) (C + szR L) rfl rfl rfl Tryd.underlying28 YtjehicncbpljaaaDoorF.sz_5 rfl rfl rfl rfl rfl (fun _ => ⟨by omega, by omega⟩)) ?_
      refine TV_e rfl rfl rfl rfl (rfl) (ET_call rfl YtjehicncbpljaaaDoorF.cal_11 rfl (rget0_any w0 _ hG L _ ch (hcs (fun w h => h.cnt fun p => by simp only [List.countP_append, List.countP_cons, List.countP_nil]; omega)) hcb)) ?_
      rintro _ _ ⟨nv, H3, rfl, hF3, rfl⟩
      refine ⟨_, .drop (by kernel_rfl) (.nil), ?_⟩
      refine TV_q rfl rfl rfl (fun _ => QT_move rfl rfl rfl) ?_
      refine TV_q rfl rfl rfl (fun _ => QT_extract rfl rfl rfl rfl) ?_
      refine TV_q rfl rfl rfl (fun _ => QT_extract rfl rfl rfl rfl) ?_
      refine TV_q rfl rfl rfl (fun _ => QT_assign rfl rfl rfl) ?_
      refine TV_q rfl rfl rfl (fun _ => QT_assign rfl rfl rfl) ?_
      refine TV_end ?_
      refine TX_then ?_
      refine TC_seq ?_
      rw [g2] at hF3
      simp only [g1]
      refine TC_A (St w0 ((b2, 27, L.cells) :: (H1 ++ (H2 ++ (H3 ++ η))))) (fun w h => h.cnt fun p => by simp only [List.countP_append, List.countP_cons, List.countP_nil]; omega) ?_
      refine TC_draw [(0, 0), (1, 0), (2, 0), (3, 0), (4, 0), (5, 0), (6, 1), (7, 0), (8, 0), (9, 0), (10, 0), (11, 0)] YtjehicncbpljaaaDoorF.mixed (by kernel_rfl) (St.calm _ _) ?_
      first
        | refine TV_ql rfl rfl rfl (QT_loadW 0 rfl rfl Tryd.underlying27 rfl rfl rfl YtjehicncbpljaaaDoorF.sz_27) ?_
        | refine TV_ql rfl rfl rfl (QT_loadW 1 rfl rfl Tryd.underlying27 rfl rfl rfl YtjehicncbpljaaaDoorF.sz_27) ?_
        | refine TV_ql rfl rfl rfl (QT_loadW 2 rfl rfl Tryd.underlying27 rfl rfl rfl YtjehicncbpljaaaDoorF.sz_27) ?_
        | refine TV_ql rfl rfl rfl (QT_loadA 0 rfl rfl Tryd.underlying27 rfl rfl rfl YtjehicncbpljaaaDoorF.sz_27 (fun _ => rfl)) ?_
        | refine TV_ql rfl rfl rfl (QT_loadA 1 rfl rfl Tryd.underlying27 rfl rfl rfl YtjehicncbpljaaaDoorF.sz_27 (fun _ => rfl)) ?_
        | refine TV_ql rfl rfl rfl (QT_loadA 2 rfl rfl Tryd.underlying27 rfl rfl rfl YtjehicncbpljaaaDoorF.sz_27 (fun _ => rfl)) ?_
      refine TV_q rfl rfl rfl (fun _ => QT_move rfl rfl rfl) ?_
      refine TV_q rfl rfl rfl (fun _ => QT_move rfl rfl rfl) ?_
      refine TV_q rfl rfl rfl (fun _ => QT_move rfl rfl rfl) ?_
      refine TV_q rfl rfl rfl (fun _ => QT_to (QT_add rfl rfl rfl rfl (fun _ => ⟨by omega, by omega⟩)) (show (i : Int) + 1 = ((i + 1 : Nat) : Int) by omega)) ?_
      refine TV_q rfl rfl rfl (fun _ => QT_slcLH (i) (i + 1) rfl rfl rfl Tryd.underlying31 YtjehicncbpljaaaDoorF.sz_67 rfl rfl rfl rfl rfl (fun _ => ⟨by omega, by omega⟩)) ?_
      refine TV_e rfl rfl rfl rfl (rfl) (ET_call rfl YtjehicncbpljaaaDoorF.cal_19 rfl (rput0_spec w0 _ hG L _ [r] (hys fun p => by simp only [List.countP_append, List.countP_cons]; omega) hrs1 (by show 1 ≤ 100000000; decide))) ?_
      rintro _ _ ⟨dv, H4, rfl, hF4, rfl⟩
      refine ⟨_, .drop (by kernel_rfl) (.nil), ?_⟩
      refine TV_q rfl rfl rfl (fun _ => QT_move rfl rfl rfl) ?_
      refine TV_q rfl rfl rfl (fun _ => QT_extract rfl rfl rfl rfl) ?_
      refine TV_q rfl rfl rfl (fun _ => QT_extract rfl rfl rfl rfl) ?_
      refine TV_q rfl rfl rfl (fun _ => QT_assign rfl rfl rfl) ?_
      refine TV_q rfl rfl rfl (fun _ => QT_assign rfl rfl rfl) ?_
      refine TV_end ?_
      refine TX_then ?_
      refine TC_seq ?_
      rw [q2] at hF4
      simp only [q1]
      refine TC_A (St w0 ((b2, 27, L.cells) :: (H1 ++ (H2 ++ (H3 ++ (H4 ++ η)))))) (fun w h => h.cnt fun p => by simp only [List.countP_append, List.countP_cons, List.countP_nil]; omega) ?_
      refine TC_reg ?_
      refine TL_q rfl rfl (QT_move rfl rfl rfl) ?_
      refine TL_q rfl rfl (QT_neq rfl rfl rfl rfl) ?_
      refine TL_q rfl rfl (QT_move rfl rfl rfl) ?_
      refine TL_q rfl rfl (QT_move rfl rfl rfl) ?_
      refine TL_q rfl rfl (QT_neq rfl rfl rfl rfl) ?_
      refine TL_q rfl rfl (QT_or rfl rfl rfl rfl) ?_
      refine TL_q rfl rfl (QT_move rfl rfl rfl) ?_
      refine TL_q rfl rfl (QT_move rfl rfl rfl) ?_
      refine TL_q rfl rfl (QT_move rfl rfl rfl) ?_
      refine TL_q rfl rfl (QT_move rfl rfl rfl) ?_
      refine TL_q rfl rfl (QT_move rfl rfl rfl) ?_
      refine TL_q rfl rfl (QT_to (QT_add rfl rfl rfl rfl (fun _ => ⟨by omega, by omega⟩)) (show (i : Int) + 1 = ((i + 1 : Nat) : Int) by omega)) ?_
      refine TL_q rfl rfl (QT_slcLH (i) (i + 1) rfl rfl rfl Tryd.underlying31 YtjehicncbpljaaaDoorF.sz_67 rfl rfl rfl rfl rfl (fun _ => ⟨by omega, by omega⟩)) ?_
      refine TL_cq rfl rfl rfl rfl YtjehicncbpljaaaDoorF.cal_15 rfl (fun _ => sameOk_RecsR w0 _ _ _ 1 (flatR [r]) (hF3.within fun p => by simp only [List.countP_append, List.countP_cons]; omega) (hys fun p => by simp only [List.countP_append, List.countP_cons]; omega) (flatR_ints hrs1)) ?_
      refine TL_q rfl rfl (QT_not rfl rfl rfl) ?_
      refine TL_q rfl rfl (QT_or rfl rfl rfl rfl) ?_
      refine TL_q rfl rfl (QT_move rfl rfl rfl) ?_
      refine TL_q rfl rfl (QT_move rfl rfl rfl) ?_
      refine TL_q rfl rfl (QT_move rfl rfl rfl) ?_
      refine TL_q rfl rfl (QT_move rfl rfl rfl) ?_
      refine TL_q rfl rfl (QT_move rfl rfl rfl) ?_
      refine TL_q rfl rfl (QT_to (QT_mul rfl rfl rfl rfl (fun _ => by rw [hci]; exact ⟨by omega, by omega⟩)) hci) ?_
      refine TL_q rfl rfl (QT_move rfl rfl rfl) ?_
      refine TL_q rfl rfl (QT_move rfl rfl rfl) ?_
      refine TL_q rfl rfl (QT_to (QT_mul rfl rfl rfl rfl (fun _ => by rw [hci]; exact ⟨by omega, by omega⟩)) hci) ?_
      refine TL_q rfl rfl (QT_move rfl rfl rfl) ?_
      refine TL_q rfl rfl (QT_to (QT_add rfl rfl rfl rfl (fun _ => ⟨by omega, by omega⟩)) (show (C : Int) + (szR L : Int) = ((C + szR L : Nat) : Int) by omega)) ?_
      refine TL_q rfl rfl (QT_slcLH (C) (C + szR L) rfl rfl rfl Tryd.underlying28 YtjehicncbpljaaaDoorF.sz_5 rfl rfl rfl rfl rfl (fun _ => ⟨by omega, by omega⟩)) ?_
      refine TL_cq rfl rfl rfl rfl YtjehicncbpljaaaDoorF.cal_21 rfl (fun _ => sameOk_Bytes w0 _ _ _ (packR L r).length (byV (packR L r)) (hF4.within fun p => by simp only [List.countP_append, List.countP_cons]; omega) (hcs2 fun p => by simp only [List.countP_append, List.countP_cons]; omega) (byV_ints hpk)) ?_
      refine TL_q rfl rfl (QT_not rfl rfl rfl) ?_
      refine TL_q rfl rfl (QT_or rfl rfl rfl rfl) ?_
      refine TL_nil ?_
      refine TX_then ?_
      refine TC_cond rfl (fun h => absurd (h.symm.trans ((show (_ : Bool) = false by simp))) (by decide)) (fun _ => ?_)
      refine TC_skip ?_
      refine TX_block_normal ?_
      refine TX_then ?_
      refine TC_reg ?_
      refine TL_q rfl rfl (QT_move rfl rfl rfl) ?_
      refine TL_q rfl rfl (QT_add rfl rfl rfl rfl (fun _ => ⟨by omega, by omega⟩)) ?_
      refine TL_q rfl rfl (QT_assign rfl rfl rfl) ?_
      refine TL_nil ?_
      exact TX_round ⟨i + 1, hi'⟩ (by show ys.length - (i + 1) < ys.length - i; omega) ⟨rfl, rfl, rfl, rfl, rfl, rfl, trivial⟩ (fun w h => h.cnt fun p => by simp only [List.countP_append, List.countP_cons, List.countP_nil]; omega)
    ·
      refine TC_exit ?_
      refine TX_then_exit ?_
      refine TX_then_exit ?_
      refine TX_block_here ?_
      refine TX_then ?_
      refine TC_seq ?_
      refine TC_reg ?_
      refine TL_cq rfl rfl rfl rfl YtjehicncbpljaaaDoorF.cal_9 rfl (fun _ => lives09 w0 _ hG) ?_
      refine TL_q rfl rfl (QT_assign rfl rfl rfl) ?_
      refine TL_nil ?_
      refine TX_then ?_
      refine TC_ret ?_
      exact TX_ret (.inl rfl) (res1 rfl rfl) ⟨_, ⟨rfl, rfl⟩, fun w h => h.cnt fun p => by simp only [List.countP_append, List.countP_cons, List.countP_nil]; omega⟩
end Go.Proofs.YtjehicncbpljaaaDoor

/- BYTES OF RECORDS: the walk. -/
import Derived.Test.YtjehicncbpljaaaDoorS09c
import Derived.Test.YtjehicncbpljaaaDoorP06x
namespace Go.Proofs.YtjehicncbpljaaaDoor
open Go Go.Gx Go.RowKit
set_option maxRecDepth 100000
theorem errRP_bad {L : Lay} {rs : List (List Nat)} (h : errRP L rs ≠ 0) : outRP L rs = [] := by unfold outRP; rw [if_neg h]
theorem fragNoneRB {L : Lay} {rs : List (List Nat)} {e : Int} (h : errRP L rs = e) (h0 : e ≠ 0) : Frag 5 1 (.slice none 0 0) (outRP L rs).length (byV (outRP L rs)) [] := by
  rw [errRP_bad (by rw [h]; exact h0)]
  exact Frag.nil _ _
theorem errCR_ok {L : Lay} (h : errCR L = 0) : okB L = true ∧ L.ty ≤ 5 := by
  unfold errCR at h
  split at h
  · assumption
  · exact absurd h (by decide)
/-- the bits when k numbers are put -/
def eR (L : Lay) (r : List Nat) (k : Nat) : List Bool := enc ((wR L).take k) (r.take k)
theorem eR_step {L : Lay} {r : List Nat} {k x : Nat} (hr : r.length = 7) (hx : r[k]? = some x) : eR L r (k + 1) = eR L r k ++ bitsN (wdR L k) x := by
  have hk : k < 7 := by rw [← hr]; exact (List.getElem?_eq_some_iff.1 hx).1
  unfold eR
  rw [take_snocX (wR_at hk), take_snocX hx, enc_appendX (by rw [List.length_take, List.length_take, wR_len, hr])]
  simp [enc]
theorem eR_all {L : Lay} {r : List Nat} (hr : r.length = 7) : eR L r 7 = encR L r := by
  unfold eR encR
  rw [List.take_of_length_le (by rw [wR_len]; exact Nat.le_refl _), List.take_of_length_le (by omega)]
theorem eR_len {L : Lay} (h : okB L = true) {r : List Nat} (hr : r.length = 7) (k : Nat) : (eR L r k).length ≤ 136 := by
  have h1 := (szR_bd h).2.2.1
  have h2 : tot ((wR L).take k) ≤ tot (wR L) := tot_takeR _ _
  unfold eR
  rw [enc_len (by rw [List.length_take, List.length_take, wR_len, hr])]
  omega
theorem fitR_not {L : Lay} {r : List Nat} {k x : Nat} (hr : r.length = 7) (hx : r[k]? = some x) (h : ¬ x < 2 ^ wdR L k) : fitR L r = false := by
  have hk : k < 7 := by rw [← hr]; exact (List.getElem?_eq_some_iff.1 hx).1
  cases hf : fitR L r with
  | false => rfl
  | true => exact absurd (fitB_atX hf (wR_at hk) hx) h
theorem fitR_all : ∀ {ws : Ws} {xs : List Nat}, (∀ (k w m x : Nat), ws[k]? = some (w, m) → xs[k]? = some x → x < 2 ^ w) → fitB ws xs = true
  | [], _, _ => by unfold fitB; rfl
  | _ :: _, [], _ => by unfold fitB; rfl
  | (w, m) :: ws, x :: xs, h => by
    rw [fitB, fitR_all fun k w m x h1 h2 => h (k + 1) w m x h1 h2]
    simp [h 0 w m x rfl rfl]
theorem fld_len (L : Lay) (ps : List Nat) (k : Nat) : (fld L ps k).length = 3 := rfl
theorem fldsC_part (L : Lay) (ps : List Nat) {n k : Nat} (h : k < n) : k * 3 + 3 ≤ (fldsC L ps n).length ∧ ((fldsC L ps n).drop (k * 3)).take 3 = fld L ps k := by
  refine ⟨by rw [fldsC_len]; omega, ?_⟩
  apply List.ext_getElem?
  intro j
  rw [List.getElem?_take]
  by_cases hj : j < 3
  · rw [if_pos hj, List.getElem?_drop, fldsC_at L ps h hj]
  · rw [if_neg hj, List.getElem?_eq_none (by rw [fld_len]; omega)]
set_option maxHeartbeats 2000000 in
theorem rput0_spec (w0 : Base) (η : Heap) (hG : Sets w0) (L : Lay) (sv : Value) (rs : List (List Nat)) (hs : SlA (St w0 η) sv 7 rs.length (flatR rs)) (hr : ∀ r ∈ rs, RcF r) (hn : rs.length ≤ 100000000) :
    CallsT Tryd.prog 19 [L.val, sv] (St w0 η) fun v A' => ∃ bv H, v = .tuple #[bv, .int .i64 (errRP L rs)] ∧ Frag 5 1 bv (outRP L rs).length (byV (outRP L rs)) H ∧ A' = St w0 (H ++ η) := by
  obtain ⟨hfl, ad, cap, sb, so, rfl, hcap, had, hrd⟩ := hs.some
  refine CallsT.body Tryd.func19 rfl rfl ?_
  simp only [Tryd.ntmps19, slotsOf, Nat.reduceAdd]
  refine TC_seq ?_
  refine TC_reg ?_
  refine TL_e rfl rfl rfl (rfl) (ET_box rfl rfl) ?_
  rintro _ _ ⟨b2, rfl, rfl⟩
  refine TL_q rfl rfl (QT_assign rfl rfl rfl) ?_
  refine TL_q rfl rfl (QT_assign rfl rfl rfl) ?_
  refine TL_nil ?_
  refine TX_then ?_
  refine TC_seq ?_
  refine TC_seq ?_
  refine TC_A (St w0 ((b2, 27, L.cells) :: η)) (fun _ h => h) ?_
  refine TC_reg ?_
  first
    | refine TL_q rfl rfl (QT_loadW 0 rfl rfl Tryd.underlying27 rfl rfl rfl YtjehicncbpljaaaDoorF.sz_27) ?_
    | refine TL_q rfl rfl (QT_loadW 1 rfl rfl Tryd.underlying27 rfl rfl rfl YtjehicncbpljaaaDoorF.sz_27) ?_
    | refine TL_q rfl rfl (QT_loadW 2 rfl rfl Tryd.underlying27 rfl rfl rfl YtjehicncbpljaaaDoorF.sz_27) ?_
    | refine TL_q rfl rfl (QT_loadA 0 rfl rfl Tryd.underlying27 rfl rfl rfl YtjehicncbpljaaaDoorF.sz_27 (fun _ => rfl)) ?_
    | refine TL_q rfl rfl (QT_loadA 1 rfl rfl Tryd.underlying27 rfl rfl rfl YtjehicncbpljaaaDoorF.sz_27 (fun _ => rfl)) ?_
    | refine TL_q rfl rfl (QT_loadA 2 rfl rfl Tryd.underlying27 rfl rfl rfl YtjehicncbpljaaaDoorF.sz_27 (fun _ => rfl)) ?_
  refine TL_cq rfl rfl rfl rfl YtjehicncbpljaaaDoorF.cal_27 rfl (fun _ => rcheck0_spec w0 _ hG L) ?_
  refine TL_q rfl rfl (QT_assign rfl rfl rfl) ?_
  refine TL_nil ?_
  refine TX_then ?_
  refine TC_seq ?_
  refine TC_reg ?_
  refine TL_q rfl rfl (QT_move rfl rfl rfl) ?_
  refine TL_q rfl rfl (QT_neq rfl rfl rfl rfl) ?_
  refine TL_nil ?_
  refine TX_then ?_
  first
    | refine TC_cond_dec rfl (fun h18 => ?_) (fun h18 => ?_)
    | refine TC_cond rfl (fun h18 => ?_) (fun h18 => ?_)
  ·
    refine TC_seq ?_
    refine TC_reg ?_
    refine TL_q rfl rfl (QT_move rfl rfl rfl) ?_
    refine TL_q rfl rfl (QT_assign rfl rfl rfl) ?_
    refine TL_q rfl rfl (QT_assign rfl rfl rfl) ?_
    refine TL_nil ?_
    refine TX_then ?_
    refine TC_ret ?_
    refine TX_then_ret ?_
    have hne : ¬ (okB L = true ∧ L.ty ≤ 5) := fun hc => h18 (by unfold errCR; rw [if_pos hc])
    have eP : errRP L rs = 4 := by unfold errRP; rw [if_neg hne]
    have eC : errCR L = 4 := by unfold errCR; rw [if_neg hne]
    exact TX_ret (.inl rfl) (res2 rfl rfl rfl) ⟨_, ⟨_, [], by rw [eP, eC], fragNoneRB eP (by decide), rfl⟩, fun _ h => h.tail⟩
  ·
    refine TC_skip ?_
    refine TX_then ?_
    refine TC_seq ?_
    have hc := errCR_ok (Classical.not_not.1 h18)
    refine TC_reg ?_
    first
      | refine TL_q rfl rfl (QT_loadW 0 rfl rfl Tryd.underlying27 rfl rfl rfl YtjehicncbpljaaaDoorF.sz_27) ?_
      | refine TL_q rfl rfl (QT_loadW 1 rfl rfl Tryd.underlying27 rfl rfl rfl YtjehicncbpljaaaDoorF.sz_27) ?_
      | refine TL_q rfl rfl (QT_loadW 2 rfl rfl Tryd.underlying27 rfl rfl rfl YtjehicncbpljaaaDoorF.sz_27) ?_
      | refine TL_q rfl rfl (QT_loadA 0 rfl rfl Tryd.underlying27 rfl rfl rfl YtjehicncbpljaaaDoorF.sz_27 (fun _ => rfl)) ?_
      | refine TL_q rfl rfl (QT_loadA 1 rfl rfl Tryd.underlying27 rfl rfl rfl YtjehicncbpljaaaDoorF.sz_27 (fun _ => rfl)) ?_
      | refine TL_q rfl rfl (QT_loadA 2 rfl rfl Tryd.underlying27 rfl rfl rfl YtjehicncbpljaaaDoorF.sz_27 (fun _ => rfl)) ?_
    refine TL_e rfl rfl rfl (rfl) (ET_call rfl YtjehicncbpljaaaDoorF.cal_28 rfl (fields_spec w0 _ L hc.1)) ?_
    rintro fv _ ⟨ps, Hf, hps, hFf, rfl⟩
    refine TL_q rfl rfl (QT_assign rfl rfl rfl) ?_
    refine TL_nil ?_
    refine TX_then ?_
    refine TC_seq ?_
    obtain ⟨_, fad, fcap, fb, fo, rfl, hfcap, hfad, hfrd⟩ := (hFf.sla (w0 := w0) (η := [])).some
    obtain rfl := hfad (by decide)
    generalize hE : Hf ++ (psHeap ps 0 ++ ((b2, 27, L.cells) :: η)) = E
    have hEf : ∀ {X : Heap}, (∀ p : Blk → Bool, E.countP p ≤ X.countP p) → Rd (St w0 X) fb fo (fldsC L ps 7) := fun h => hfrd.mono fun w hw => hw.cnt fun p => by
      have := h p
      rw [← hE] at this
      simp only [List.countP_append, List.countP_cons, List.countP_nil] at this ⊢
      omega
    have hEp : ∀ {X : Heap}, (∀ p : Blk → Bool, E.countP p ≤ X.countP p) → PsOk (St w0 X) ps := fun {X} h => psOk_of hps fun p => by
      have := h p
      rw [← hE] at this
      simp only [List.countP_append, List.countP_cons] at this
      omega
    have hEη : ∀ {X : Heap} {w : World}, (∀ p : Blk → Bool, E.countP p ≤ X.countP p) → St w0 X w → St w0 η w := fun {X w} h hw => hw.cnt fun p => by
      have := h p
      rw [← hE] at this
      simp only [List.countP_append, List.countP_cons] at this
      omega
    refine TC_reg ?_
    refine TL_q rfl rfl (QT_assign rfl rfl rfl) ?_
    refine TL_nil ?_
    refine TX_then ?_
    refine TC_seq ?_
    refine TC_seq ?_
    refine TC_reg ?_
    refine TL_q rfl rfl (QT_move rfl rfl rfl) ?_
    refine TL_q rfl rfl (QT_len rfl rfl Tryd.underlying31 rfl) ?_
    refine TL_q rfl rfl (QT_move rfl rfl rfl) ?_
    refine TL_nil ?_
    refine TX_then ?_
    refine TC_block ?_
    refine TC_loop (γ := { t : Nat × Value × Heap // t.1 ≤ rs.length ∧ Frag 5 1 t.2.1 (bytesR L (rs.take t.1)).length (byV (bytesR L (rs.take t.1))) t.2.2 ∧ (rs.take t.1).all (fitR L) = true }) (fun u => [(7, true, .slice (some ⟨fb, fo, none⟩) 7 fcap), (8, true, u.1.2.1), (22, true, .slice ad rs.length cap), (23, true, .int .i64 (rs.length : Int)), (24, true, .int .i64 (u.1.1 : Int))]) (fun u => St w0 (u.1.2.2 ++ E)) (fun u => rs.length - u.1.1) ⟨(0, .slice none 0 0, []), Nat.zero_le _, Frag.nil _ _, rfl⟩ ⟨rfl, rfl, rfl, rfl, rfl, trivial⟩ (fun _ h => h) ?_
    rintro ⟨⟨i, bv, H⟩, hin, hF, hfit⟩
    dsimp only at hin hF hfit ⊢
    refine TC_seq ?_
    refine TC_reg ?_
    refine TL_q rfl rfl (QT_lss rfl rfl rfl rfl) ?_
    refine TL_nil ?_
    refine TX_then ?_
    refine TC_seq ?_
    first
      | refine TC_cond_dec rfl (fun h25 => ?_) (fun h25 => ?_)
      | refine TC_cond rfl (fun h25 => ?_) (fun h25 => ?_)
    ·
      have hi' : i < rs.length := by omega
      obtain ⟨r, hri⟩ : ∃ r, rs[i]? = some r := ⟨_, List.getElem?_eq_getElem hi'⟩
      have hrF := hr r (List.mem_of_getElem? hri)
      obtain ⟨hat1, hat2⟩ := flatR_at hr hri
      have htk := take_snocX hri
      have hrl : (rvV r).length = 7 := rvV_len hrF.len
      have hrz : Sz Tryd.prog 67 (rvV r).length := by rw [hrl]; exact YtjehicncbpljaaaDoorF.sz_67
      have hri2 := rvV_ints hrF
      have hbl := bytesR_len (L := L) (rs := rs.take i) fun z hz => hr z (List.mem_of_mem_take hz)
      have hsz17 := (szR_bd hc.1).2.1
      have hbl2 : (bytesR L (rs.take i)).length ≤ 17 * rs.length := by
        rw [hbl, List.length_take, Nat.mul_comm]
        exact Nat.mul_le_mul hsz17 (by omega)
      have hpl : (packR L r).length ≤ 17 := by rw [packR_len hrF]; exact hsz17
      refine TC_skip ?_
      refine TX_then ?_
      refine TC_seq ?_
      refine TC_block ?_
      refine TC_seq ?_
      refine TC_reg ?_
      refine TL_q rfl rfl (QT_indexG i rfl rfl Tryd.underlying31 YtjehicncbpljaaaDoorF.sz_67 rfl rfl rfl (fun _ => hi') (fun _ => had (by omega))) ?_
      refine TL_q rfl rfl (QT_loadRAj (out := rvV r) (i * 7) rfl rfl Tryd.underlying67 rfl YtjehicncbpljaaaDoorF.sz_67 (hrd.mono fun w h => hEη (fun p => by simp only [List.countP_append]; omega) h) rfl (fun _ => hat1) (fun _ => hat2)) ?_
      refine TL_e rfl rfl rfl (rfl) (ET_alloc rfl YtjehicncbpljaaaDoorF.zero_67) ?_
      rintro _ _ ⟨b10, rfl, rfl⟩
      refine TL_e0 rfl rfl (rfl) (ET_storeW (vs := rvV r) 0 rfl rfl rfl hrz rfl (List.all_eq_true.2 hri2.oneCell) (by rw [hrl]; rfl)) ?_
      rintro _ _ ⟨rfl, rfl⟩
      refine TL_nil ?_
      refine TX_then ?_
      refine TC_seq ?_
      refine TC_reg ?_
      refine TL_e rfl rfl rfl (rfl) (ET_call rfl YtjehicncbpljaaaDoorF.cal_78 rfl (newRowS w0 _)) ?_
      rintro _ _ ⟨rb, K0, rfl, hK0, rfl⟩
      refine TL_q rfl rfl (QT_assign rfl rfl rfl) ?_
      refine TL_nil ?_
      refine TX_then ?_
      refine TC_seq ?_
      refine TC_seq ?_
      refine TC_reg ?_
      refine TL_q rfl rfl (QT_move rfl rfl rfl) ?_
      refine TL_q rfl rfl (QT_len rfl rfl Tryd.underlying74 rfl) ?_
      refine TL_q rfl rfl (QT_move rfl rfl rfl) ?_
      refine TL_nil ?_
      refine TX_then ?_
      refine TC_block ?_
      refine TC_loop (γ := { t : Nat × Heap // t.1 ≤ 7 ∧ (∀ j x, j < t.1 → r[j]? = some x → x < 2 ^ wdR L j) ∧ RowAt rb (eR L r t.1) t.2 }) (fun u => [(7, true, .slice (some ⟨fb, fo, none⟩) 7 fcap), (8, true, bv), (10, true, .pointer (some ⟨b10, 0, none⟩)), (11, true, .pointer (some ⟨rb, 0, none⟩)), (22, true, .slice ad rs.length cap), (23, true, .int .i64 (rs.length : Int)), (24, true, .int .i64 (i : Int)), (29, true, .slice (some ⟨fb, fo, none⟩) 7 fcap), (30, true, .int .i64 7), (31, true, .int .i64 (u.1.1 : Int))]) (fun u => St w0 (u.1.2 ++ ((b10, 67, rvV r) :: (H ++ E)))) (fun u => 7 - u.1.1) ⟨(0, K0), by show 0 ≤ 7; decide, fun j x h => absurd h (Nat.not_lt_zero _), hK0⟩ ⟨rfl, rfl, rfl, rfl, rfl, rfl, rfl, rfl, rfl, rfl, trivial⟩ (fun _ h => h) ?_
      rintro ⟨⟨k, K⟩, hk7, hfits, hK⟩
      dsimp only at hk7 hfits hK ⊢
      refine TC_seq ?_
      refine TC_reg ?_
      refine TL_q rfl rfl (QT_lss rfl rfl rfl rfl) ?_
      refine TL_nil ?_
      refine TX_then ?_
      refine TC_seq ?_
      first
        | refine TC_cond_dec rfl (fun h32 => ?_) (fun h32 => ?_)
        | refine TC_cond rfl (fun h32 => ?_) (fun h32 => ?_)
      ·
        have hk : k < 7 := by omega
        obtain ⟨x, hx⟩ := get7 hrF.len hk
        obtain ⟨hp1, hp2⟩ := fldsC_part L ps (n := 7) hk
        have hxl := Nat.lt_of_lt_of_le (hrF.lt hx) (rkM_le k)
        have hwl := wdR_le hc.1 k
        have hel := eR_len hc.1 hrF.len k
        have hfz : Sz Tryd.prog 80 (fld L ps k).length := YtjehicncbpljaaaDoorF.sz_80
        have hstep := eR_step (L := L) hrF.len hx
        refine TC_skip ?_
        refine TX_then ?_
        refine TC_seq ?_
        refine TC_block ?_
        refine TC_seq ?_
        refine TC_reg ?_
        refine TL_q rfl rfl (QT_indexG k rfl rfl Tryd.underlying74 YtjehicncbpljaaaDoorF.sz_80 rfl rfl rfl (fun _ => hk) (fun _ => rfl)) ?_
        refine TL_q rfl rfl (QT_loadRAj (out := fld L ps k) (k * 3) rfl rfl Tryd.underlying80 rfl YtjehicncbpljaaaDoorF.sz_80 (hEf fun p => by simp only [List.countP_append, List.countP_cons]; omega) rfl (fun _ => hp1) (fun _ => hp2)) ?_
        refine TL_e rfl rfl rfl (rfl) (ET_alloc rfl YtjehicncbpljaaaDoorF.zero_80) ?_
        rintro _ _ ⟨b13, rfl, rfl⟩
        refine TL_e0 rfl rfl (rfl) (ET_storeW (vs := fld L ps k) 0 rfl rfl rfl hfz rfl (List.all_eq_true.2 (fld_one L ps k)) rfl) ?_
        rintro _ _ ⟨rfl, rfl⟩
        refine TL_nil ?_
        refine TX_then ?_
        refine TC_seq ?_
        refine TC_A (St w0 ((b13, 80, fld L ps k) :: (K ++ ((b10, 67, rvV r) :: (H ++ E))))) (fun _ h => h) ?_
        refine TC_draw [(0, 0), (1, 0), (2, 0), (4, 0), (5, 0), (3, 1), (6, 1), (7, 0)] YtjehicncbpljaaaDoorF.mixed (by kernel_rfl) (St.calm _ _) ?_
        refine TV_q rfl rfl rfl (fun _ => QT_move rfl rfl rfl) ?_
        refine TV_q rfl rfl rfl (fun _ => QT_field rfl rfl YtjehicncbpljaaaDoorF.fld_80_1 rfl) ?_
        refine TV_ql rfl rfl rfl (QT_load (v := .func (.func (gF k)) #[] (capF ps k)) 0 rfl rfl Tryd.underlying77 rfl rfl rfl (fun _ => rfl)) ?_
        refine TV_q rfl rfl rfl (fun _ => QT_field rfl rfl YtjehicncbpljaaaDoorF.fld_80_0 rfl) ?_
        refine TV_ql rfl rfl rfl (QT_load (v := .int .i64 (wdR L k : Int)) 0 rfl rfl Tryd.underlying3 rfl rfl rfl (fun _ => rfl)) ?_
        refine TV_gq rfl rfl rfl rfl (fun _ => Goes.value rfl rfl (gF_ok k) rfl) (fun _ => getter_spec w0 _ ps k b10 r x hk hrF hx ((Rd.own (w0 := w0) (η := [(b10, 67, rvV r)]) 0 rfl).mono (fun w h => h.cnt fun p => by simp only [List.countP_append, List.countP_cons, List.countP_nil]; omega)) (hEp fun p => by simp only [List.countP_append, List.countP_cons]; omega)) (.keep (by kernel_rfl) rfl (by first | exact QT_load (v := .int .i64 (wdR L k : Int)) 0 rfl rfl Tryd.underlying3 rfl rfl rfl (fun _ => rfl)) (.drop (by kernel_rfl) (.nil))) ?_
        refine TV_e rfl rfl rfl rfl (rfl) (ET_call rfl YtjehicncbpljaaaDoorF.cal_79 rfl (RowAt.putX [(b13, 80, fld L ps k)] _ hK hxl hwl (by omega))) ?_
        rintro _ _ ⟨K', rfl, hK', rfl⟩
        refine ⟨_, .drop (by kernel_rfl) (.nil), ?_⟩
        refine TV_q rfl rfl rfl (fun _ => QT_assign rfl rfl rfl) ?_
        refine TV_end ?_
        refine TX_then ?_
        refine TC_seq ?_
        refine TC_reg ?_
        refine TL_q rfl rfl (QT_move rfl rfl rfl) ?_
        refine TL_q rfl rfl (QT_neq rfl rfl rfl rfl) ?_
        refine TL_nil ?_
        refine TX_then ?_
        first
          | refine TC_cond_dec rfl (fun h43 => ?_) (fun h43 => ?_)
          | refine TC_cond rfl (fun h43 => ?_) (fun h43 => ?_)
        ·
          have hnf : ¬ x < 2 ^ wdR L k := fun hlt => h43 (putE_zero hwl hlt (by omega))
          have hbad := fitR_not hrF.len hx hnf
          have e1 : putE (eR L r k).length x (wdR L k : Int) = 1 := putE_one hnf
          have eP : errRP L rs = 1 := by
            unfold errRP
            rw [if_pos hc, if_neg]
            intro ha
            have := List.all_eq_true.1 ha r (List.mem_of_getElem? hri)
            rw [hbad] at this
            exact absurd this (by decide)
          rw [e1]
          refine TC_seq ?_
          refine TC_reg ?_
          refine TL_q rfl rfl (QT_move rfl rfl rfl) ?_
          refine TL_q rfl rfl (QT_assign rfl rfl rfl) ?_
          refine TL_q rfl rfl (QT_assign rfl rfl rfl) ?_
          refine TL_nil ?_
          refine TX_then ?_
          refine TC_ret ?_
          refine TX_block_ret ?_
          refine TX_then_ret ?_
          refine TX_then_ret ?_
          refine TX_block_ret ?_
          refine TX_then_ret ?_
          refine TX_block_ret ?_
          refine TX_then_ret ?_
          refine TX_then_ret ?_
          refine TX_block_ret ?_
          refine TX_then_ret ?_
          exact TX_ret (.inl rfl) (res2 rfl rfl rfl) ⟨_, ⟨_, [], by rw [eP], fragNoneRB eP (by decide), rfl⟩, fun w h => hEη (X := (b13, 80, fld L ps k) :: (K' ++ ((b10, 67, rvV r) :: (H ++ E)))) (fun p => by simp only [List.countP_append, List.countP_cons]; omega) h⟩
        ·
          have hlt : x < 2 ^ wdR L k := by
            refine Classical.byContradiction fun hnf => ?_
            rw [putE_one hnf] at h43
            exact h43 (by decide)
          rw [putL_okX hwl hlt (by omega), ← hstep] at hK'
          refine TC_skip ?_
          refine TX_block_normal ?_
          refine TX_then ?_
          refine TC_reg ?_
          refine TL_q rfl rfl (QT_add rfl rfl rfl rfl (fun _ => ⟨by omega, by omega⟩)) ?_
          refine TL_q rfl rfl (QT_move rfl rfl rfl) ?_
          refine TL_nil ?_
          refine TX_round ⟨(k + 1, K'), by show k + 1 ≤ 7; omega, fun j y hj hy => ?_, hK'⟩ (by show 7 - (k + 1) < 7 - k; omega) ⟨rfl, rfl, rfl, rfl, rfl, rfl, rfl, rfl, rfl, rfl, trivial⟩ (fun _ h => h.tail)
          by_cases e : j = k
          · subst e; rw [hx] at hy; cases hy; exact hlt
          · exact hfits j y (by have : j < k + 1 := hj; omega) hy
      ·
        refine TC_exit ?_
        refine TX_then_exit ?_
        refine TX_then_exit ?_
        refine TX_block_here ?_
        refine TX_then ?_
        obtain rfl : k = 7 := by omega
        have hok1 : fitR L r = true := fitR_all fun j w m y h1 h2 => by
          have hj : j < 7 := by rw [← hrF.len]; exact (List.getElem?_eq_some_iff.1 h2).1
          rw [wR_at hj] at h1
          cases h1
          exact hfits j y hj h2
        rw [eR_all hrF.len] at hK
        have hbx := RowAt.bytesX (w0 := w0) [] ((b10, 67, rvV r) :: (H ++ E)) hK (by rw [← eR_all hrF.len]; have := eR_len hc.1 hrF.len 7; omega)
        rw [show packB (encR L r) = packR L r from rfl] at hbx
        refine TC_reg ?_
        refine TL_q rfl rfl (QT_move rfl rfl rfl) ?_
        refine TL_q rfl rfl (QT_move rfl rfl rfl) ?_
        refine TL_e rfl rfl rfl (rfl) (ET_call rfl YtjehicncbpljaaaDoorF.cal_80 rfl (hbx)) ?_
        rintro nv _ ⟨H2, hF2, rfl⟩
        refine TL_e rfl rfl rfl (rfl) (ET_appendL (η := E) (L := H2) rfl Tryd.underlying28 el_Byte rfl rfl hF (fun w h => h.cnt fun p => by simp only [List.countP_append, List.countP_cons, List.countP_nil]; omega) (hF2.within fun p => by simp only [List.countP_append]; omega) (byV_ints (packB_lt _)).oneCell (by omega) (by omega)) ?_
        rintro bv2 _ ⟨H', hF', rfl⟩
        refine TL_q rfl rfl (QT_assign rfl rfl rfl) ?_
        refine TL_nil ?_
        refine TX_block_normal ?_
        refine TX_then ?_
        refine TC_reg ?_
        refine TL_q rfl rfl (QT_add rfl rfl rfl rfl (fun _ => ⟨by omega, by omega⟩)) ?_
        refine TL_q rfl rfl (QT_move rfl rfl rfl) ?_
        refine TL_nil ?_
        refine TX_round ⟨(i + 1, bv2, H'), hi', ?_, ?_⟩ (by show rs.length - (i + 1) < rs.length - i; omega) ⟨rfl, rfl, rfl, rfl, rfl, trivial⟩ (fun w h => h.app_right)
        · have e : bytesR L (rs.take (i + 1)) = bytesR L (rs.take i) ++ packR L r := by rw [htk, bytesR_append]; simp [bytesR]
          show Frag _ 1 _ (bytesR L (rs.take (i + 1))).length (byV (bytesR L (rs.take (i + 1)))) H'
          rw [e, List.length_append, byV_append]
          exact hF'
        · show (rs.take (i + 1)).all (fitR L) = true
          rw [htk, List.all_append, hfit]
          simp [hok1]
    ·
      refine TC_exit ?_
      refine TX_then_exit ?_
      refine TX_then_exit ?_
      refine TX_block_here ?_
      refine TX_then ?_
      refine TC_seq ?_
      refine TC_seq ?_
      obtain rfl : i = rs.length := by omega
      rw [List.take_of_length_le (Nat.le_refl _)] at hF hfit
      obtain ⟨bad, bcap, rfl, _, _⟩ := hF.slice
      refine TC_reg ?_
      refine TL_q rfl rfl (QT_move rfl rfl rfl) ?_
      refine TL_q rfl rfl (QT_len rfl rfl Tryd.underlying28 rfl) ?_
      refine TL_q rfl rfl (QT_gtr rfl rfl rfl rfl) ?_
      refine TL_nil ?_
      refine TX_then ?_
      first
        | refine TC_cond_dec rfl (fun h53 => ?_) (fun h53 => ?_)
        | refine TC_cond rfl (fun h53 => ?_) (fun h53 => ?_)
      ·
        refine TC_seq ?_
        refine TC_reg ?_
        refine TL_q rfl rfl (QT_assign rfl rfl rfl) ?_
        refine TL_q rfl rfl (QT_assign rfl rfl rfl) ?_
        refine TL_nil ?_
        refine TX_then ?_
        refine TC_ret ?_
        refine TX_then_ret ?_
        have eP : errRP L rs = 3 := by unfold errRP; rw [if_pos hc, if_pos hfit, if_pos (by omega)]
        exact TX_ret (.inl rfl) (res2 rfl rfl rfl) ⟨_, ⟨_, [], by rw [eP], fragNoneRB eP (by decide), rfl⟩, fun w h => hEη (X := H ++ E) (fun p => by simp only [List.countP_append]; omega) h⟩
      ·
        refine TC_skip ?_
        refine TX_then ?_
        refine TC_seq ?_
        refine TC_reg ?_
        refine TL_q rfl rfl (QT_move rfl rfl rfl) ?_
        refine TL_e rfl rfl rfl (rfl) (ET_call rfl YtjehicncbpljaaaDoorF.cal_81 rfl (clipB_spec w0 E H _ _ _ hF)) ?_
        rintro cv _ ⟨hF2, rfl⟩
        refine TL_q rfl rfl (QT_assign rfl rfl rfl) ?_
        refine TL_q rfl rfl (QT_assign rfl rfl rfl) ?_
        refine TL_nil ?_
        refine TX_then ?_
        refine TC_ret ?_
        have eP : errRP L rs = 0 := by unfold errRP; rw [if_pos hc, if_pos hfit, if_neg (by omega)]
        refine TX_ret (.inl rfl) (res2 rfl rfl rfl) ⟨_, ⟨cv, H, by rw [eP], by unfold outRP; rw [if_pos eP]; exact hF2, rfl⟩, fun w h => ?_⟩
        rw [← hE] at h
        exact h.cnt fun p => by simp only [List.countP_append, List.countP_cons]; omega
end Go.Proofs.YtjehicncbpljaaaDoor

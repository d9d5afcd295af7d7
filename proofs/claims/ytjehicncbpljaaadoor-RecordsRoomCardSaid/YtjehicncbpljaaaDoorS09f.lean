/- RECORDS OF BYTES: the walk. -/
import Derived.Test.YtjehicncbpljaaaDoorS09e
namespace Go.Proofs.YtjehicncbpljaaaDoor
open Go Go.Gx Go.RowKit
set_option maxRecDepth 100000
theorem el_RecR : ElemOk Tryd.prog 67 7 20 (.agg #[.int .u8 0, .int .u32 0, .int .u32 0, .int .u16 0, .int .u16 0, .int .u16 0, .int .u16 0]) := .of YtjehicncbpljaaaDoorF.sz_67 (by kernel_rfl) (by unfold ZeroOk; kernel_rfl) (by kernel_rfl) (by decide)
theorem el_IntR : ElemOk Tryd.prog 3 1 8 (.int .i64 0) := .of YtjehicncbpljaaaDoorF.sz_3 (by kernel_rfl) (by unfold ZeroOk; kernel_rfl) (by kernel_rfl) (by decide)
theorem errRG_bad {L : Lay} {bs : List Nat} (h : errRG L bs ≠ 0) : outRG L bs = [] := by unfold outRG; rw [if_neg h]
theorem fragNoneRG {L : Lay} {bs : List Nat} {e : Int} (h : errRG L bs = e) (h0 : e ≠ 0) : Frag 67 7 (.slice none 0 0) (outRG L bs).length (flatR (outRG L bs)) [] := by
  rw [errRG_bad (by rw [h]; exact h0)]
  exact Frag.nil _ _
/-- a record whose first j numbers are set -/
def setRN (v : List Nat) (j : Nat) : List Nat := (List.range 7).map fun p => if p < j then v.getD p 0 % rkM p else 0
theorem setRN_len (v : List Nat) (j : Nat) : (setRN v j).length = 7 := by simp [setRN]
theorem setRN_step {v : List Nat} {j x : Nat} (hj : j < 7) (hx : v[j]? = some x) : (setRN v j).set j (x % rkM j) = setRN v (j + 1) := by
  apply List.ext_getElem?
  intro p
  rw [List.getElem?_set]
  by_cases e : j = p
  · subst e
    rw [if_pos rfl, if_pos (by rw [setRN_len]; exact hj), setRN, List.getElem?_map, List.getElem?_range hj]
    simp [hx]
  · rw [if_neg e, setRN, setRN, List.getElem?_map, List.getElem?_map]
    by_cases hp : p < 7
    · rw [List.getElem?_range hp]
      simp only [Option.map_some]
      congr 1
      by_cases h1 : p < j
      · rw [if_pos h1, if_pos (by omega)]
      · rw [if_neg h1, if_neg (by omega)]
    · rw [List.getElem?_eq_none (by simpa using hp)]
      rfl
theorem setRN_all {L : Lay} {l : List Bool} : setRN (decN (wR L) l) 7 = dcR L l := by
  apply List.ext_getElem?
  intro p
  by_cases hp : p < 7
  · rw [setRN, List.getElem?_map, List.getElem?_range hp, dcR, dec_at (wR_at hp)]
    simp only [Option.map_some]
    rw [if_pos hp]
    have := decN_at (l := l) (wR_at (L := L) hp)
    simp [this]
  · rw [List.getElem?_eq_none (by rw [setRN_len]; omega), List.getElem?_eq_none (by rw [(dcR_rcf L l).len]; omega)]
theorem recsB_snoc (L : Lay) (bs : List Nat) (k : Nat) : recsB L bs (k + 1) = recsB L bs k ++ [recAt L bs k] := by simp [recsB, List.range_succ]
theorem recsB_rcf {L : Lay} {bs : List Nat} {n : Nat} : ∀ r ∈ recsB L bs n, RcF r := by
  intro r hr
  obtain ⟨k, _, rfl⟩ := List.mem_map.1 hr
  exact dcR_rcf _ _
theorem recsB_len (L : Lay) (bs : List Nat) (n : Nat) : (recsB L bs n).length = n := by simp [recsB]
theorem recAt_cut {L : Lay} {bs : List Nat} {k : Nat} : dcR L (byB ((bs.drop (k * szR L)).take (szR L))) = recAt L bs k := by
  unfold recAt dcR
  rw [byB_take, dec_take]
  unfold szR
  omega
theorem wV_snoc {L : Lay} {k : Nat} (hk : k < 7) : wV ((wR L).take (k + 1)) = wV ((wR L).take k) ++ [.int .i64 (wdR L k : Int)] := by
  rw [take_snocX (wR_at hk)]
  simp [wV]
theorem byV_cut (bs : List Nat) (a b : Nat) : byV ((bs.drop a).take b) = ((byV bs).drop a).take b := by simp [byV, List.map_drop, List.map_take]
set_option maxHeartbeats 4000000 in
theorem rget0_spec (w0 : Base) (η : Heap) (hG : Sets w0) (L : Lay) (sv : Value) (bs : List Nat) (hs : SlA (St w0 η) sv 1 bs.length (byV bs)) (hb : ∀ c ∈ bs, c < 256) (hl : bs.length ≤ 100000000) :
    CallsT Tryd.prog 11 [L.val, sv] (St w0 η) fun v A' => ∃ rv H, v = .tuple #[rv, .int .i64 (errRG L bs)] ∧ Frag 67 7 rv (outRG L bs).length (flatR (outRG L bs)) H ∧ A' = St w0 (H ++ η) := by
  obtain ⟨hbl, ad, cap, sb, so, rfl, hcap, had, hrd⟩ := hs.some
  refine CallsT.bodyM Tryd.func11 rfl rfl ?_
  simp only [Tryd.ntmps11, slotsOf, Nat.reduceAdd]
  refine TC_seq ?_
  refine TC_reg ?_
  refine TL_e rfl rfl rfl (rfl) (ET_box rfl rfl) ?_
  rintro _ _ ⟨b2, rfl, rfl⟩
  refine TL_q rfl rfl (QT_assign rfl rfl rfl) ?_
  refine TL_q rfl rfl (QT_assign rfl rfl rfl) ?_
  refine TL_nil ?_
  refine TX_then ?_
  refine TC_seq ?_
  refine TC_A (St w0 ((b2, 27, L.cells) :: η)) (fun _ h => h) ?_
  refine TC_reg ?_
  first
    | refine TL_q rfl rfl (QT_loadW 0 rfl rfl Tryd.underlying27 rfl rfl rfl YtjehicncbpljaaaDoorF.sz_27) ?_
    | refine TL_q rfl rfl (QT_loadW 1 rfl rfl Tryd.underlying27 rfl rfl rfl YtjehicncbpljaaaDoorF.sz_27) ?_
    | refine TL_q rfl rfl (QT_loadW 2 rfl rfl Tryd.underlying27 rfl rfl rfl YtjehicncbpljaaaDoorF.sz_27) ?_
    | refine TL_q rfl rfl (QT_loadA 0 rfl rfl Tryd.underlying27 rfl rfl rfl YtjehicncbpljaaaDoorF.sz_27 (fun _ => rfl)) ?_
    | refine TL_q rfl rfl (QT_loadA 1 rfl rfl Tryd.underlying27 rfl rfl rfl YtjehicncbpljaaaDoorF.sz_27 (fun _ => rfl)) ?_
    | refine TL_q rfl rfl (QT_loadA 2 rfl rfl Tryd.underlying27 rfl rfl rfl YtjehicncbpljaaaDoorF.sz_27 (fun _ => rfl)) ?_
  refine TL_cq rfl rfl rfl rfl YtjehicncbpljaaaDoorF.cal_25 rfl (fun _ => size_spec w0 _ hG L 0 (by decide)) ?_
  refine TL_q rfl rfl (QT_assign rfl rfl rfl) ?_
  refine TL_nil ?_
  refine TX_then ?_
  refine TC_seq ?_
  refine TC_seq ?_
  refine TC_reg ?_
  first
    | refine TL_q rfl rfl (QT_loadW 0 rfl rfl Tryd.underlying27 rfl rfl rfl YtjehicncbpljaaaDoorF.sz_27) ?_
    | refine TL_q rfl rfl (QT_loadW 1 rfl rfl Tryd.underlying27 rfl rfl rfl YtjehicncbpljaaaDoorF.sz_27) ?_
    | refine TL_q rfl rfl (QT_loadW 2 rfl rfl Tryd.underlying27 rfl rfl rfl YtjehicncbpljaaaDoorF.sz_27) ?_
    | refine TL_q rfl rfl (QT_loadA 0 rfl rfl Tryd.underlying27 rfl rfl rfl YtjehicncbpljaaaDoorF.sz_27 (fun _ => rfl)) ?_
    | refine TL_q rfl rfl (QT_loadA 1 rfl rfl Tryd.underlying27 rfl rfl rfl YtjehicncbpljaaaDoorF.sz_27 (fun _ => rfl)) ?_
    | refine TL_q rfl rfl (QT_loadA 2 rfl rfl Tryd.underlying27 rfl rfl rfl YtjehicncbpljaaaDoorF.sz_27 (fun _ => rfl)) ?_
  refine TL_cq rfl rfl rfl rfl YtjehicncbpljaaaDoorF.cal_27 rfl (fun _ => rcheck0_spec w0 _ hG L) ?_
  refine TL_q rfl rfl (QT_assign rfl rfl rfl) ?_
  refine TL_nil ?_
  refine TX_then ?_
  refine TC_block ?_
  refine TC_seq ?_
  refine TC_reg ?_
  refine TL_q rfl rfl (QT_move rfl rfl rfl) ?_
  refine TL_q rfl rfl (QT_neq rfl rfl rfl rfl) ?_
  refine TL_q rfl rfl (QT_assign rfl rfl rfl) ?_
  refine TL_nil ?_
  refine TX_then ?_
  first
    | refine TC_cond_dec rfl (fun h21 => ?_) (fun h21 => ?_)
    | refine TC_cond rfl (fun h21 => ?_) (fun h21 => ?_)
  ·
    refine TC_seq ?_
    refine TC_reg ?_
    refine TL_q rfl rfl (QT_move rfl rfl rfl) ?_
    refine TL_q rfl rfl (QT_assign rfl rfl rfl) ?_
    refine TL_q rfl rfl (QT_assign rfl rfl rfl) ?_
    refine TL_nil ?_
    refine TX_then ?_
    refine TC_ret ?_
    refine TX_block_ret ?_
    refine TX_then_ret ?_
    have hne : ¬ (okB L = true ∧ L.ty ≤ 5) := fun hc => h21 (by unfold errCR; rw [if_pos hc])
    have eP : errRG L bs = 4 := by unfold errRG; rw [if_neg hne]
    have eC : errCR L = 4 := by unfold errCR; rw [if_neg hne]
    exact TX_retM (.inl rfl) (res2 rfl rfl rfl) ⟨_, ⟨_, [], by rw [eP, eC], fragNoneRG eP (by decide), rfl⟩, fun _ h => h.tail⟩
  ·
    have hc := errCR_ok (Classical.not_not.1 h21)
    have hsz := sizeR_eq hc.1 (ty45 hc) 0
    have hszb := szR_bd hc.1
    have hsz1 : (szR L : Int) ≠ 0 := by omega
    refine TC_seq ?_
    refine TC_reg ?_
    refine TL_q rfl rfl (QT_move rfl rfl rfl) ?_
    refine TL_q rfl rfl (QT_len rfl rfl Tryd.underlying28 rfl) ?_
    refine TL_q rfl rfl (QT_gtr rfl rfl rfl rfl) ?_
    refine TL_q rfl rfl (QT_assign rfl rfl rfl) ?_
    refine TL_nil ?_
    refine TX_then ?_
    first
      | refine TC_cond_dec rfl (fun h25 => ?_) (fun h25 => ?_)
      | refine TC_cond rfl (fun h25 => ?_) (fun h25 => ?_)
    ·
      refine TC_seq ?_
      refine TC_reg ?_
      refine TL_q rfl rfl (QT_assign rfl rfl rfl) ?_
      refine TL_q rfl rfl (QT_assign rfl rfl rfl) ?_
      refine TL_nil ?_
      refine TX_then ?_
      refine TC_ret ?_
      refine TX_block_ret ?_
      refine TX_then_ret ?_
      have eP : errRG L bs = 3 := by unfold errRG; rw [if_pos hc, if_pos (by omega)]
      exact TX_retM (.inl rfl) (res2 rfl rfl rfl) ⟨_, ⟨_, [], by rw [eP], fragNoneRG eP (by decide), rfl⟩, fun _ h => h.tail⟩
    ·
      refine TC_seq ?_
      refine TC_reg ?_
      refine TL_q rfl rfl (QT_move rfl rfl rfl) ?_
      refine TL_q rfl rfl (QT_len rfl rfl Tryd.underlying28 rfl) ?_
      refine TL_q rfl rfl (QT_move rfl rfl rfl) ?_
      refine TL_q rfl rfl (QT_rem rfl rfl rfl rfl (fun _ => ⟨by omega, by rw [hsz]; omega⟩)) ?_
      refine TL_q rfl rfl (QT_neq rfl rfl rfl rfl) ?_
      refine TL_q rfl rfl (QT_assign rfl rfl rfl) ?_
      refine TL_nil ?_
      refine TX_then ?_
      first
        | refine TC_cond_dec rfl (fun h29 => ?_) (fun h29 => ?_)
        | refine TC_cond rfl (fun h29 => ?_) (fun h29 => ?_)
      ·
        refine TC_seq ?_
        refine TC_reg ?_
        refine TL_q rfl rfl (QT_assign rfl rfl rfl) ?_
        refine TL_q rfl rfl (QT_assign rfl rfl rfl) ?_
        refine TL_nil ?_
        refine TX_then ?_
        refine TC_ret ?_
        refine TX_block_ret ?_
        refine TX_then_ret ?_
        have eP : errRG L bs = 5 := by
          unfold errRG
          rw [if_pos hc, if_neg (by omega), if_neg]
          intro e
          rw [hsz] at h29
          apply h29
          rw [← Int.natCast_emod, e]
          rfl
        exact TX_retM (.inl rfl) (res2 rfl rfl rfl) ⟨_, ⟨_, [], by rw [eP], fragNoneRG eP (by decide), rfl⟩, fun _ h => h.tail⟩
      ·
        have hmod : bs.length % szR L = 0 := by
          have h := Classical.not_not.1 h29
          rw [hsz, ← Int.natCast_emod] at h
          omega
        have hNs : bs.length / szR L * szR L = bs.length := Nat.div_mul_cancel (Nat.dvd_of_mod_eq_zero hmod)
        have hNl : bs.length / szR L ≤ 65536 := Nat.le_trans (Nat.div_le_self _ _) (by omega)
        have eP : errRG L bs = 0 := by unfold errRG; rw [if_pos hc, if_neg (by omega), if_pos hmod]
        have eO : outRG L bs = recsB L bs (bs.length / szR L) := by unfold outRG; rw [if_pos eP]
        refine TC_skip ?_
        refine TX_block_normal ?_
        refine TX_then ?_
        refine TC_seq ?_
        refine TC_reg ?_
        first
          | refine TL_q rfl rfl (QT_loadW 0 rfl rfl Tryd.underlying27 rfl rfl rfl YtjehicncbpljaaaDoorF.sz_27) ?_
          | refine TL_q rfl rfl (QT_loadW 1 rfl rfl Tryd.underlying27 rfl rfl rfl YtjehicncbpljaaaDoorF.sz_27) ?_
          | refine TL_q rfl rfl (QT_loadW 2 rfl rfl Tryd.underlying27 rfl rfl rfl YtjehicncbpljaaaDoorF.sz_27) ?_
          | refine TL_q rfl rfl (QT_loadA 0 rfl rfl Tryd.underlying27 rfl rfl rfl YtjehicncbpljaaaDoorF.sz_27 (fun _ => rfl)) ?_
          | refine TL_q rfl rfl (QT_loadA 1 rfl rfl Tryd.underlying27 rfl rfl rfl YtjehicncbpljaaaDoorF.sz_27 (fun _ => rfl)) ?_
          | refine TL_q rfl rfl (QT_loadA 2 rfl rfl Tryd.underlying27 rfl rfl rfl YtjehicncbpljaaaDoorF.sz_27 (fun _ => rfl)) ?_
        refine TL_e rfl rfl rfl (rfl) (ET_call rfl YtjehicncbpljaaaDoorF.cal_28 rfl (fields_spec w0 _ L hc.1)) ?_
        rintro fv _ ⟨ps, Hf, hps, hFf, rfl⟩
        obtain ⟨_, fad, fcap, fb, fo, rfl, hfcap, hfad, hfrd⟩ := (hFf.sla (w0 := w0) (η := [])).some
        obtain rfl := hfad (by decide)
        refine TL_e rfl rfl rfl (rfl) (ET_alloc rfl YtjehicncbpljaaaDoorF.zero_74) ?_
        rintro _ _ ⟨b8, rfl, rfl⟩
        first
          | refine TL_e0 rfl rfl (rfl) (ET_store 0 rfl rfl rfl rfl YtjehicncbpljaaaDoorF.sz_74 rfl rfl rfl) ?_
          | refine TL_e0 rfl rfl (rfl) (ET_store 1 rfl rfl rfl rfl YtjehicncbpljaaaDoorF.sz_74 rfl rfl rfl) ?_
          | refine TL_e0 rfl rfl (rfl) (ET_store 2 rfl rfl rfl rfl YtjehicncbpljaaaDoorF.sz_74 rfl rfl rfl) ?_
        rintro _ _ ⟨rfl, rfl⟩
        refine TL_nil ?_
        refine TX_then ?_
        refine TC_seq ?_
        obtain ⟨E, hE⟩ : ∃ E, E = Hf ++ (psHeap ps 0 ++ ((b2, 27, L.cells) :: η)) := ⟨_, rfl⟩
        refine TC_A (St w0 ((b8, 74, [.slice (some ⟨fb, fo, none⟩) 7 fcap]) :: E)) (fun _ h => by rw [hE]; exact h) ?_
        have hEc : ∀ p : Blk → Bool, E.countP p = Hf.countP p + (psHeap ps 0).countP p + (List.countP p [(b2, 27, L.cells)]) + η.countP p := fun p => by
          rw [hE]; simp only [List.countP_append, List.countP_cons, List.countP_nil]; omega
        have hEf : ∀ {B : Base} {X : Heap}, (∀ p : Blk → Bool, E.countP p ≤ X.countP p) → Rd (St B X) fb fo (fldsC L ps 7) := fun {B X} h => by
          obtain ⟨_, gad, gcap, gb, go, hgv, _, hgad, hgrd⟩ := (hFf.sla (w0 := B) (η := [])).some
          obtain ⟨rfl, rfl⟩ : fb = gb ∧ fo = go := by
            have h1 := hgad (by decide)
            rw [h1] at hgv
            injection hgv with h2
            injection h2 with h3
            injection h3 with h4 h5
            exact ⟨h4, h5⟩
          exact hgrd.mono fun w hw => hw.cnt fun p => by
            have := h p
            rw [hEc] at this
            simp only [List.countP_append, List.countP_nil]
            omega
        have hEp : ∀ {B : Base} {X : Heap}, (∀ p : Blk → Bool, E.countP p ≤ X.countP p) → PsOk (St B X) ps := fun {B X} h => psOk_of hps fun p => by
          have := h p
          rw [hEc] at this
          omega
        have hEη : ∀ {B : Base} {X : Heap} {w : World}, Under w0 B → (∀ p : Blk → Bool, E.countP p ≤ X.countP p) → St B X w → St w0 η w := fun {B X w} hU h hw => (hU.back hw).cnt fun p => by
          have := h p
          rw [hEc] at this
          omega
        refine TC_reg ?_
        refine TL_e rfl rfl rfl (rfl) (ET_alloc rfl YtjehicncbpljaaaDoorF.zero_76) ?_
        rintro _ _ ⟨b9, rfl, rfl⟩
        refine TL_nil ?_
        refine TX_then ?_
        refine TC_seq ?_
        refine TC_seq ?_
        refine TC_reg ?_
        first
          | refine TL_q rfl rfl (QT_load 0 rfl rfl Tryd.underlying74 rfl rfl rfl (fun _ => rfl)) ?_
          | refine TL_q rfl rfl (QT_load 1 rfl rfl Tryd.underlying74 rfl rfl rfl (fun _ => rfl)) ?_
          | refine TL_q rfl rfl (QT_load 2 rfl rfl Tryd.underlying74 rfl rfl rfl (fun _ => rfl)) ?_
        refine TL_q rfl rfl (QT_len rfl rfl Tryd.underlying74 rfl) ?_
        refine TL_q rfl rfl (QT_move rfl rfl rfl) ?_
        refine TL_nil ?_
        refine TX_then ?_
        refine TC_block ?_
        refine TC_loop (γ := { t : Nat × Value × Heap // t.1 ≤ 7 ∧ Frag 3 1 t.2.1 t.1 (wV ((wR L).take t.1)) t.2.2 }) (fun u => [(1, true, .slice ad bs.length cap), (6, true, .int .i64 (sizeZ L 0)), (8, true, .pointer (some ⟨b8, 0, none⟩)), (9, true, .pointer (some ⟨b9, 0, none⟩)), (37, true, .slice (some ⟨fb, fo, none⟩) 7 fcap), (38, true, .int .i64 7), (39, true, .int .i64 (u.1.1 : Int))]) (fun u => St w0 ((b9, 76, [u.1.2.1]) :: (u.1.2.2 ++ ((b8, 74, [.slice (some ⟨fb, fo, none⟩) 7 fcap]) :: E)))) (fun u => 7 - u.1.1) ⟨(0, .slice none 0 0, []), Nat.zero_le _, Frag.nil _ _⟩ ⟨rfl, rfl, rfl, rfl, rfl, rfl, rfl, trivial⟩ (fun _ h => h) ?_
        rintro ⟨⟨k, wv, Hw⟩, hk7, hF⟩
        dsimp only at hk7 hF ⊢
        refine TC_seq ?_
        refine TC_reg ?_
        refine TL_q rfl rfl (QT_lss rfl rfl rfl rfl) ?_
        refine TL_nil ?_
        refine TX_then ?_
        refine TC_seq ?_
        first
          | refine TC_cond_dec rfl (fun h40 => ?_) (fun h40 => ?_)
          | refine TC_cond rfl (fun h40 => ?_) (fun h40 => ?_)
        ·
          have hk : k < 7 := by omega
          obtain ⟨hp1, hp2⟩ := fldsC_part L ps (n := 7) hk
          have hfz : Sz Tryd.prog 80 (fld L ps k).length := YtjehicncbpljaaaDoorF.sz_80
          have hwl := wdR_le hc.1 k
          refine TC_skip ?_
          refine TX_then ?_
          refine TC_seq ?_
          refine TC_block ?_
          refine TC_seq ?_
          refine TC_reg ?_
          refine TL_q rfl rfl (QT_indexG k rfl rfl Tryd.underlying74 YtjehicncbpljaaaDoorF.sz_80 rfl rfl rfl (fun _ => hk) (fun _ => rfl)) ?_
          refine TL_q rfl rfl (QT_loadRAj (out := fld L ps k) (k * 3) rfl rfl Tryd.underlying80 rfl YtjehicncbpljaaaDoorF.sz_80 (hEf fun p => by simp only [List.countP_append, List.countP_cons]; omega) rfl (fun _ => hp1) (fun _ => hp2)) ?_
          refine TL_e rfl rfl rfl (rfl) (ET_alloc rfl YtjehicncbpljaaaDoorF.zero_80) ?_
          rintro _ _ ⟨b11, rfl, rfl⟩
          refine TL_e0 rfl rfl (rfl) (ET_storeW (vs := fld L ps k) 0 rfl rfl rfl hfz rfl (List.all_eq_true.2 (fld_one L ps k)) rfl) ?_
          rintro _ _ ⟨rfl, rfl⟩
          refine TL_nil ?_
          refine TX_then ?_
          refine TC_A (St w0 ((b11, 80, fld L ps k) :: (b9, 76, [wv]) :: (Hw ++ ((b8, 74, [.slice (some ⟨fb, fo, none⟩) 7 fcap]) :: E)))) (fun _ h => h) ?_
          refine TC_reg ?_
          refine TL_q rfl rfl (QT_load (v := wv) 1 rfl rfl Tryd.underlying76 rfl rfl rfl (fun _ => rfl)) ?_
          refine TL_q rfl rfl (QT_field rfl rfl YtjehicncbpljaaaDoorF.fld_80_0 rfl) ?_
          refine TL_q rfl rfl (QT_load (v := .int .i64 (wdR L k : Int)) 0 rfl rfl Tryd.underlying3 rfl rfl rfl (fun _ => rfl)) ?_
          refine TL_e rfl rfl rfl (rfl) (ET_buildN [_] rfl Tryd.underlying76 YtjehicncbpljaaaDoorF.sz_3 YtjehicncbpljaaaDoorF.zero_3 rfl rfl rfl (fun v hv => by cases List.mem_singleton.1 hv; rfl)) ?_
          rintro _ _ ⟨b46, rfl, rfl⟩
          refine TL_e rfl rfl rfl (rfl) (ET_appendL (L := [_, _, _]) rfl Tryd.underlying76 el_IntR rfl rfl hF (fun _ h => h) (SlA.own (n := 1) (xs := [.int .i64 (wdR L k : Int)]) 0 rfl rfl (Nat.le_refl 1) (by omega)) (fun u hu => by cases List.mem_singleton.1 hu; rfl) (by omega) (by omega)) ?_
          rintro wv2 _ ⟨H', hF', rfl⟩
          obtain ⟨wad2, wcap2, rfl, _, _⟩ := hF'.slice
          first
            | refine TL_e0 rfl rfl (rfl) (ET_store 0 rfl rfl rfl rfl YtjehicncbpljaaaDoorF.sz_76 rfl rfl rfl) ?_
            | refine TL_e0 rfl rfl (rfl) (ET_store 1 rfl rfl rfl rfl YtjehicncbpljaaaDoorF.sz_76 rfl rfl rfl) ?_
            | refine TL_e0 rfl rfl (rfl) (ET_store 2 rfl rfl rfl rfl YtjehicncbpljaaaDoorF.sz_76 rfl rfl rfl) ?_
          rintro _ _ ⟨rfl, rfl⟩
          refine TL_nil ?_
          refine TX_block_normal ?_
          refine TX_then ?_
          refine TC_reg ?_
          refine TL_q rfl rfl (QT_add rfl rfl rfl rfl (fun _ => ⟨by omega, by omega⟩)) ?_
          refine TL_q rfl rfl (QT_move rfl rfl rfl) ?_
          refine TL_nil ?_
          exact TX_round ⟨(k + 1, _, H'), by show k + 1 ≤ 7; omega, by rw [← wV_snoc hk] at hF'; exact hF'⟩ (by show 7 - (k + 1) < 7 - k; omega) ⟨rfl, rfl, rfl, rfl, rfl, rfl, rfl, trivial⟩ (fun _ h => h.tail.tail)
        ·
          refine TC_exit ?_
          refine TX_then_exit ?_
          refine TX_then_exit ?_
          refine TX_block_here ?_
          refine TX_then ?_
          refine TC_seq ?_
          obtain rfl : k = 7 := by omega
          rw [List.take_of_length_le (by rw [wR_len]; exact Nat.le_refl _)] at hF
          refine TC_reg ?_
          refine TL_q rfl rfl (QT_move rfl rfl rfl) ?_
          refine TL_q rfl rfl (QT_len rfl rfl Tryd.underlying28 rfl) ?_
          refine TL_q rfl rfl (QT_move rfl rfl rfl) ?_
          refine TL_q rfl rfl (QT_quo rfl rfl rfl rfl (fun _ => ⟨by omega, by omega, by rw [hsz]; omega⟩)) ?_
          refine TL_e rfl rfl rfl (rfl) (ET_make (bs.length / szR L) rfl Tryd.underlying31 el_RecR rfl rfl rfl (by rw [hsz, Int.natCast_ediv]) (by omega) (by omega)) ?_
          rintro _ _ ⟨b53, rest, rfl, hrest, rfl⟩
          refine TL_e rfl rfl rfl (rfl) (ET_alloc rfl YtjehicncbpljaaaDoorF.zero_31) ?_
          rintro _ _ ⟨b12, rfl, rfl⟩
          first
            | refine TL_e0 rfl rfl (rfl) (ET_store 0 rfl rfl rfl rfl YtjehicncbpljaaaDoorF.sz_31 rfl rfl rfl) ?_
            | refine TL_e0 rfl rfl (rfl) (ET_store 1 rfl rfl rfl rfl YtjehicncbpljaaaDoorF.sz_31 rfl rfl rfl) ?_
            | refine TL_e0 rfl rfl (rfl) (ET_store 2 rfl rfl rfl rfl YtjehicncbpljaaaDoorF.sz_31 rfl rfl rfl) ?_
          rintro _ _ ⟨rfl, rfl⟩
          refine TL_nil ?_
          refine TX_then ?_
          refine TC_seq ?_
          refine TC_seq ?_
          rw [hsz]
          refine TC_reg ?_
          refine TL_q rfl rfl (QT_move rfl rfl rfl) ?_
          refine TL_q rfl rfl (QT_move rfl rfl rfl) ?_
          refine TL_e rfl rfl rfl (rfl) (ET_call rfl YtjehicncbpljaaaDoorF.cal_29 rfl (chunk_spec w0 _ bs.length cap (szR L) ad (by omega))) ?_
          rintro _ _ ⟨c1, c2, rfl, rfl⟩
          refine TL_nil ?_
          refine TX_then ?_
          refine TC_block ?_
          obtain ⟨Y, hY⟩ : ∃ Y : Heap, Y = (c2, 3, [.int .i64 (szR L : Int)]) :: (c1, 28, [.slice ad bs.length cap]) :: (b9, 76, [wv]) :: (Hw ++ ((b8, 74, [.slice (some ⟨fb, fo, none⟩) 7 fcap]) :: E)) := ⟨_, rfl⟩
          refine TC_A (St w0 ((b12, 31, [.slice (some ⟨b53, 0, none⟩) 0 (bs.length / szR L)]) :: ([(b53, 67, [] ++ rest)] ++ Y))) (fun w h => by rw [hY]; exact (show St w0 ((c2, 3, [.int .i64 (szR L : Int)]) :: (c1, 28, [.slice ad bs.length cap]) :: (b12, 31, [.slice (some ⟨b53, 0, none⟩) 0 (bs.length / szR L)]) :: (b53, 67, [] ++ rest) :: (b9, 76, [wv]) :: (Hw ++ ((b8, 74, [.slice (some ⟨fb, fo, none⟩) 7 fcap]) :: E))) w from h).cnt fun p => by simp only [List.countP_append, List.countP_cons, List.countP_nil]; omega) ?_
          have hYc : ∀ p : Blk → Bool, Y.countP p = List.countP p [(c2, 3, [.int .i64 (szR L : Int)])] + List.countP p [(c1, 28, [.slice ad bs.length cap])] + List.countP p [(b9, 76, [wv])] + Hw.countP p + List.countP p [(b8, 74, [.slice (some ⟨fb, fo, none⟩) 7 fcap])] + E.countP p := fun p => by
            rw [hY]; simp only [List.countP_append, List.countP_cons, List.countP_nil]; omega
          have hYE : ∀ {X : Heap}, (∀ p : Blk → Bool, Y.countP p ≤ X.countP p) → ∀ p : Blk → Bool, E.countP p ≤ X.countP p := fun h p => by have := h p; rw [hYc] at this; omega
          have hm9 : (b9, 76, [wv]) ∈ Y := by rw [hY]; simp
          have hm8 : (b8, 74, [.slice (some ⟨fb, fo, none⟩) 7 fcap]) ∈ Y := by rw [hY]; simp
          have hm1 : (c1, 28, [.slice ad bs.length cap]) ∈ Y := by rw [hY]; simp
          have hm2 : (c2, 3, [.int .i64 (szR L : Int)]) ∈ Y := by rw [hY]; simp
          have hYw : ∀ {B : Base} {X : Heap}, (∀ p : Blk → Bool, Y.countP p ≤ X.countP p) → SlA (St B X) wv 1 (wR L).length (wV (wR L)) := fun {B X} h => by
            rw [wR_len]
            exact hF.within fun p => by have := h p; rw [hYc] at this; omega
          refine TC_range (m := 0) (bs.length / szR L) (chkV ad (szR L)) (fun k ζ => ∃ rv H, Frag 67 7 rv k (flatR (recsB L bs k)) H ∧ ζ = (b12, 31, [rv]) :: (H ++ Y)) (fun k => [(8, true, .pointer (some ⟨b8, 0, none⟩)), (9, true, .pointer (some ⟨b9, 0, none⟩)), (12, true, .pointer (some ⟨b12, 0, none⟩)), (13, true, chkV ad (szR L) k)]) rfl YtjehicncbpljaaaDoorF.cal_97 ⟨_, [(b53, 67, [] ++ rest)], ⟨rfl, .inr ⟨b53, _, rest, rfl, ⟨Nat.zero_le _, by omega⟩, by show bs.length / szR L * 7 ≤ rest.length; rw [hrest]; exact Nat.le_refl _, rfl⟩⟩, rfl⟩ rfl (fun B hU l => chunk_iter _ (fun k w h => by obtain ⟨ζ, hK, hS⟩ := h; exact ⟨ζ, hK, St.calm _ _ _ hS⟩) c1 c2 bs.length cap (szR L) (bs.length / szR L) l ad hcap (by omega) hNs (by omega) (fun k w h => by
            obtain ⟨ζ, ⟨rv, H, _, rfl⟩, hS⟩ := h
            exact Rd.ownA (w0 := B) (List.mem_cons_of_mem _ (List.mem_append_right _ hm1)) 0 rfl w hS) (fun k w h => by
            obtain ⟨ζ, ⟨rv, H, _, rfl⟩, hS⟩ := h
            exact Rd.ownA (w0 := B) (List.mem_cons_of_mem _ (List.mem_append_right _ hm2)) 0 rfl w hS)) ?assign ?body ?done
          ·
            intro B l k ζ hU hk hK
            refine TCI_reg ?_
            refine TL_q rfl rfl (QT_assign rfl rfl rfl) ?_
            refine TL_nil ?_
            exact TX_AQ ⟨rfl, rfl, rfl, rfl, trivial⟩ (fun _ h => h)
          ·
            intro B l k ζ hU hk hK
            obtain ⟨rv, H, hFr, rfl⟩ := hK
            have hks : k * szR L + szR L ≤ bs.length := by
              have : (k + 1) * szR L ≤ bs.length / szR L * szR L := Nat.mul_le_mul_right _ hk
              rw [Nat.add_mul, hNs] at this
              omega
            obtain ⟨cs, hcs⟩ : ∃ cs, cs = (bs.drop (k * szR L)).take (szR L) := ⟨_, rfl⟩
            have hcl : cs.length = szR L := by rw [hcs, List.length_take, List.length_drop]; omega
            have hcb : ∀ c ∈ cs, c < 256 := fun c hc => hb c (by rw [hcs] at hc; exact List.mem_of_mem_drop (List.mem_of_mem_take hc))
            have hcv : ∀ {X : Heap}, (∀ p : Blk → Bool, Y.countP p ≤ X.countP p) → SlA (St B X) (chkV ad (szR L) k) 1 cs.length (byV cs) := fun h => by
              rw [hcl, hcs, byV_cut]
              exact (chkV_sla hs hks (by omega)).mono fun w hw => hEη hU (hYE h) hw
            have htot : tot (wR L) ≤ 8 * cs.length := by rw [hcl]; unfold szR; omega
            obtain ⟨v, hv⟩ : ∃ v, v = decN (wR L) (byB cs) := ⟨_, rfl⟩
            have hvl : v.length = 7 := by rw [hv, decN_len, wR_len]
            have hrec : setRN v 7 = recAt L bs k := by rw [hv, setRN_all, hcs, recAt_cut]
            refine TCI_block ?_
            refine TCI_seq ?_
            refine TCI_reg ?_
            refine TL_e rfl rfl rfl (rfl) (ET_alloc rfl YtjehicncbpljaaaDoorF.zero_67) ?_
            rintro _ _ ⟨b14, rfl, rfl⟩
            refine TL_nil ?_
            refine TXI_then ?_
            refine TCI_seq ?_
            refine TCI_seq ?_
            refine TCI_A (St B ((b14, 67, rvV (setRN v 0)) :: (b12, 31, [rv]) :: (H ++ Y))) (fun _ h => h) ?_
            refine TCI_reg ?_
            refine TL_q rfl rfl (QT_move rfl rfl rfl) ?_
            refine TL_q rfl rfl (QT_loadRj (cs := [wv]) (v := wv) 0 rfl rfl Tryd.underlying76 rfl (Rd.ownA (w0 := B) (List.mem_cons_of_mem _ (List.mem_cons_of_mem _ (List.mem_append_right _ hm9))) 0 rfl) rfl (fun _ => rfl)) ?_
            refine TL_e rfl rfl rfl (rfl) (ET_call rfl YtjehicncbpljaaaDoorF.cal_30 rfl (read_spec B _ (chkV ad (szR L) k) wv cs (wR L) (hcv fun p => by simp only [List.countP_append, List.countP_cons]; omega) hcb (by omega) (hYw fun p => by simp only [List.countP_append, List.countP_cons]; omega) (by rw [wR_len]; decide) (wR_le hc.1) htot)) ?_
            rintro uv _ ⟨Hu, hFu, rfl⟩
            rw [wR_len, ← hv] at hFu
            obtain ⟨_, uad, ucap, ub, uo, rfl, hucap, huad, hurd⟩ := (hFu.sla (w0 := B) (η := [])).some
            obtain rfl := huad (by decide)
            refine TL_q rfl rfl (QT_len rfl rfl Tryd.underlying84 rfl) ?_
            refine TL_q rfl rfl (QT_move rfl rfl rfl) ?_
            refine TL_nil ?_
            refine TXI_then ?_
            refine TCI_block ?_
            refine TCI_loop (γ := { j : Nat // j ≤ 7 }) (fun u => [(8, true, .pointer (some ⟨b8, 0, none⟩)), (9, true, .pointer (some ⟨b9, 0, none⟩)), (12, true, .pointer (some ⟨b12, 0, none⟩)), (14, true, .pointer (some ⟨b14, 0, none⟩)), (60, true, .slice (some ⟨ub, uo, none⟩) 7 ucap), (61, true, .int .i64 7), (62, true, .int .i64 (u.1 : Int))]) (fun u => St B ((b14, 67, rvV (setRN v u.1)) :: (Hu ++ ((b12, 31, [rv]) :: (H ++ Y))))) (fun u => 7 - u.1) ⟨0, Nat.zero_le _⟩ ⟨rfl, rfl, rfl, rfl, rfl, rfl, rfl, trivial⟩ (fun w h => h.cnt fun p => by simp only [List.countP_append, List.countP_cons, List.countP_nil]; omega) ?_
            rintro ⟨j, hj7⟩
            dsimp only at hj7 ⊢
            refine TCI_seq ?_
            refine TCI_reg ?_
            refine TL_q rfl rfl (QT_lss rfl rfl rfl rfl) ?_
            refine TL_nil ?_
            refine TXI_then ?_
            refine TCI_seq ?_
            first
              | refine TCI_cond_dec rfl (fun h63 => ?_) (fun h63 => ?_)
              | refine TCI_cond rfl (fun h63 => ?_) (fun h63 => ?_)
            ·
              have hj : j < 7 := by omega
              obtain ⟨x, hx⟩ := get7 hvl hj
              have hst := setRN_step hj hx
              have hxv : (u32V v)[j]? = some (.int .u32 (x : Int)) := by simp [u32V, hx]
              have hx32 : x < 4294967296 := by
                rw [hv, decN_at (wR_at hj)] at hx
                cases hx
                have h1 := num_lt (((byB cs).drop (tot ((wR L).take j))).take (wdR L j))
                have h2 : (((byB cs).drop (tot ((wR L).take j))).take (wdR L j)).length ≤ 32 := by
                  rw [List.length_take]
                  have := wdR_le hc.1 j
                  omega
                exact Nat.lt_of_lt_of_le h1 (Nat.le_trans (Nat.pow_le_pow_right (by decide) h2) (by decide))
              have hfs : (fldsC L ps 7)[j * 3 + 2]? = some (.func (.func (sF j)) #[] (capF ps j)) := by rw [fldsC_at L ps hj (by decide)]; rfl
              refine TCI_skip ?_
              refine TXI_then ?_
              refine TCI_seq ?_
              refine TCI_block ?_
              refine TCI_seq ?_
              refine TCI_reg ?_
              refine TL_q rfl rfl (QT_move rfl rfl rfl) ?_
              refine TL_q rfl rfl (QT_indexG j rfl rfl Tryd.underlying84 YtjehicncbpljaaaDoorF.sz_60 rfl rfl rfl (fun _ => hj) (fun _ => rfl)) ?_
              refine TL_q rfl rfl (QT_loadRj (v := .int .u32 (x : Int)) j rfl rfl Tryd.underlying60 rfl (hurd.mono fun w h => h.cnt fun p => by simp only [List.countP_append, List.countP_cons, List.countP_nil]; omega) rfl (fun _ => hxv)) ?_
              refine TL_q rfl rfl (QT_assign rfl rfl rfl) ?_
              refine TL_q rfl rfl (QT_assign rfl rfl rfl) ?_
              refine TL_nil ?_
              refine TXI_then ?_
              refine TCI_reg ?_
              refine TL_q rfl rfl (QT_loadRj (cs := [.slice (some ⟨fb, fo, none⟩) 7 fcap]) (v := .slice (some ⟨fb, fo, none⟩) 7 fcap) 0 rfl rfl Tryd.underlying74 rfl (Rd.ownA (w0 := B) (List.mem_cons_of_mem _ (List.mem_append_right _ (List.mem_cons_of_mem _ (List.mem_append_right _ hm8)))) 0 rfl) rfl (fun _ => rfl)) ?_
              refine TL_q rfl rfl (QT_move rfl rfl rfl) ?_
              refine TL_q rfl rfl (QT_indexG j rfl rfl Tryd.underlying74 YtjehicncbpljaaaDoorF.sz_80 rfl rfl rfl (fun _ => hj) (fun _ => rfl)) ?_
              refine TL_q rfl rfl (QT_field rfl rfl YtjehicncbpljaaaDoorF.fld_80_2 rfl) ?_
              refine TL_q rfl rfl (QT_loadRj (v := .func (.func (sF j)) #[] (capF ps j)) (j * 3 + 2) rfl rfl Tryd.underlying78 rfl (hEf (hYE fun p => by simp only [List.countP_append, List.countP_cons]; omega)) rfl (fun _ => hfs)) ?_
              refine TL_q rfl rfl (QT_move rfl rfl rfl) ?_
              refine TL_e rfl rfl rfl (rfl) (ET_goes (Goes.value rfl rfl (sF_ok j) rfl) (setter_spec B _ ps j b14 (setRN v j) x hj (setRN_len v j) hx32 (hEp (hYE fun p => by simp only [List.countP_append, List.countP_cons]; omega)))) ?_
              rintro _ _ ⟨rfl, rfl⟩
              refine TL_nil ?_
              refine TX_block_normal ?_
              refine TXI_then ?_
              refine TCI_reg ?_
              refine TL_q rfl rfl (QT_add rfl rfl rfl rfl (fun _ => ⟨by omega, by omega⟩)) ?_
              refine TL_q rfl rfl (QT_move rfl rfl rfl) ?_
              refine TL_nil ?_
              exact TX_round ⟨j + 1, hj⟩ (by show 7 - (j + 1) < 7 - j; omega) ⟨rfl, rfl, rfl, rfl, rfl, rfl, rfl, trivial⟩ (fun _ h => by rw [hst] at h; exact h)
            ·
              refine TCI_exit ?_
              refine TX_then_exit ?_
              refine TX_then_exit ?_
              refine TX_block_here ?_
              refine TXI_then ?_
              obtain rfl : j = 7 := by omega
              rw [hrec]
              have hrF : RcF (recAt L bs k) := dcR_rcf _ _
              have hrl : (rvV (recAt L bs k)).length = 7 := rvV_len hrF.len
              have hri := rvV_ints hrF
              refine TCI_A (St B ((b12, 31, [rv]) :: (b14, 67, rvV (recAt L bs k)) :: (H ++ Y))) (fun w h => h.cnt fun p => by simp only [List.countP_append, List.countP_cons, List.countP_nil]; omega) ?_
              refine TCI_reg ?_
              first
                | refine TL_q rfl rfl (QT_load 0 rfl rfl Tryd.underlying31 rfl rfl rfl (fun _ => rfl)) ?_
                | refine TL_q rfl rfl (QT_load 1 rfl rfl Tryd.underlying31 rfl rfl rfl (fun _ => rfl)) ?_
                | refine TL_q rfl rfl (QT_load 2 rfl rfl Tryd.underlying31 rfl rfl rfl (fun _ => rfl)) ?_
              refine TL_q rfl rfl (QT_loadRAj (out := rvV (recAt L bs k)) 0 rfl rfl Tryd.underlying67 rfl YtjehicncbpljaaaDoorF.sz_67 (Rd.own (w0 := B) (cs := rvV (recAt L bs k)) 1 rfl) rfl (fun _ => by omega) (fun _ => by rw [List.drop_zero, List.take_of_length_le (by omega)])) ?_
              refine TL_e rfl rfl rfl (rfl) (ET_buildN [_] rfl Tryd.underlying31 YtjehicncbpljaaaDoorF.sz_67 YtjehicncbpljaaaDoorF.zero_67 rfl rfl rfl (fun v hv => by cases List.mem_singleton.1 hv; exact hrl)) ?_
              rintro _ _ ⟨b77, rfl, rfl⟩
              refine TL_e rfl rfl rfl (rfl) (ET_appendL (L := [_, _, _]) rfl Tryd.underlying31 el_RecR rfl rfl hFr (fun _ h => h) (SlA.own (n := 1) (xs := rvV (recAt L bs k)) 0 rfl (by rw [List.drop_zero, List.take_of_length_le (by simp [Value.cells, hrl])]; simp [Value.cells]) (by simp [Value.cells, hrl]) (by omega)) hri.oneCell (by omega) (by omega)) ?_
              rintro rv2 _ ⟨H', hF', rfl⟩
              obtain ⟨rad2, rcap2, rfl, _, _⟩ := hF'.slice
              first
                | refine TL_e0 rfl rfl (rfl) (ET_store 0 rfl rfl rfl rfl YtjehicncbpljaaaDoorF.sz_31 rfl rfl rfl) ?_
                | refine TL_e0 rfl rfl (rfl) (ET_store 1 rfl rfl rfl rfl YtjehicncbpljaaaDoorF.sz_31 rfl rfl rfl) ?_
                | refine TL_e0 rfl rfl (rfl) (ET_store 2 rfl rfl rfl rfl YtjehicncbpljaaaDoorF.sz_31 rfl rfl rfl) ?_
              rintro _ _ ⟨rfl, rfl⟩
              refine TL_nil ?_
              refine TX_block_normal ?_
              refine TX_RQ fun w h => ⟨_, ⟨_, H', by rw [recsB_snoc, flatR_snoc]; exact hF', rfl⟩, ?_⟩
              have h' : St B ((b77, 67, _) :: (b12, 31, [.slice rad2 (k + 1) rcap2]) :: (b14, 67, rvV (recAt L bs k)) :: (H' ++ Y)) w := h
              exact h'.cnt fun p => by simp only [List.countP_append, List.countP_cons, List.countP_nil]; omega
          ·
            intro D ζ hK
            obtain ⟨rv, H, hFr, rfl⟩ := hK
            refine TXD_block ?_
            refine TXD_then ?_
            refine TCD_seq ?_
            refine TCD_reg ?_
            refine TLD_q rfl rfl (QT_under (QT_load (w0 := w0) (η := (b12, 31, [rv]) :: (H ++ Y)) (v := rv) 0 rfl rfl Tryd.underlying31 rfl rfl rfl (fun _ => rfl)) (fun w h => h.1)) ?_
            refine TLD_q rfl rfl (QT_assign rfl rfl rfl) ?_
            refine TLD_q rfl rfl (QT_assign rfl rfl rfl) ?_
            refine TLD_nil ?_
            refine TXD_then ?_
            refine TCD_ret ?_
            exact fun a w hf hd hA => TXD_ret (w0 := w0) (η := H ++ η) (D := D) (fun a w hf => res2 (A := fun _ => True) rfl rfl rfl a w hf trivial) ⟨rv, H, by rw [eP], by rw [eO, recsB_len]; exact hFr, rfl⟩ a w hf hd ⟨hA.1.cnt fun p => by
              simp only [List.countP_append, List.countP_cons]
              rw [hYc, hEc]
              omega, hA.2⟩
end Go.Proofs.YtjehicncbpljaaaDoor

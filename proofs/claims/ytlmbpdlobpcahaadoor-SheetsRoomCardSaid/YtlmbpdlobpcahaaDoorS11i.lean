/- THE DOCUMENT's SHEETS OF BYTES: the walk. -/
import Derived.Test.YtlmbpdlobpcahaaDoorS11h
namespace Go.Proofs.YtlmbpdlobpcahaaDoor
open Go Go.Gx Go.RowKit
set_option maxRecDepth 100000
theorem tot_take (ws : Ws) (k : Nat) : tot (ws.take k) ≤ tot ws := by
  have := tot_append (ws.take k) (ws.drop k)
  rw [List.take_append_drop] at this
  omega
theorem tot_step {ws : Ws} {k w m : Nat} (h : ws[k]? = some (w, m)) : tot (ws.take (k + 1)) = tot (ws.take k) + w := by
  rw [List.take_add_one, h, tot_append]
  simp [tot]
theorem zer_at {k : Nat} (h : k < 48) : zer[k]? = some 0 := by
  unfold zer
  rw [List.getElem?_replicate, if_pos h]
section
variable {L : Lay} {bs : List Nat} {f a0 : Nat}
theorem rkR_at (hok : okB L = true) (hT : a0 + tot (wS L f) ≤ 8 * bs.length) (k : Nat) : (rk (goR bs) L f zer (a0, 0) k).2 = (a0 + tot ((wS L f).take k), 0) := by
  have h1 := tot_take (wS L f) k
  unfold rk
  rw [run_goR_ok (fun p hp => wS_le hok f p (List.mem_of_mem_take hp)) (by omega) (by rw [List.length_take, List.length_take, wS_len]; rfl)]
theorem refR_step (hok : okB L = true) (hT : a0 + tot (wS L f) ≤ 8 * bs.length) {k w m : Nat} (hk : k < 48) (hw : (wS L f)[k]? = some (w, m)) :
    a0 + tot ((wS L f).take (k + 1)) = a0 + tot ((wS L f).take k) + w ∧ a0 + tot ((wS L f).take k) + w ≤ 8 * bs.length ∧
    setAt (cellsK (goR bs) L f zer (a0, 0) k) (k + 1) [.int (skK (k + 1)) ((getV bs ((a0 + tot ((wS L f).take k) : Nat) : Int) (w : Int) % m : Nat) : Int)] = cellsK (goR bs) L f zer (a0, 0) (k + 1) := by
  have h1 := tot_step hw
  have h2 := tot_take (wS L f) (k + 1)
  refine ⟨by omega, by omega, ?_⟩
  have := (rk_step (go := goR bs) (s := ((a0, 0) : Nat × Int)) (show zer.length = 48 from rfl) hw (zer_at hk)).2
  rw [rkR_at hok hT] at this
  rw [← this]
  unfold goR
  rw [if_pos rfl]
theorem refR_skip1 (hok : okB L = true) (hT : a0 + tot (wS L f) ≤ 8 * bs.length) {k m : Nat} (hk : k < 48) (hw : (wS L f)[k]? = some (0, m)) :
    cellsK (goR bs) L f zer (a0, 0) (k + 1) = cellsK (goR bs) L f zer (a0, 0) k ∧ tot ((wS L f).take (k + 1)) = tot ((wS L f).take k) := by
  obtain ⟨h1, h2, h3⟩ := refR_step hok hT hk hw
  have e : getV bs ((a0 + tot ((wS L f).take k) : Nat) : Int) ((0 : Nat) : Int) = 0 := by
    rw [getV_ok (by decide) h2, List.take_zero]; rfl
  rw [e] at h3
  rw [← h3]
  refine ⟨?_, by omega⟩
  have hc := cellsK_at (go := goR bs) (L := L) (fl := f) (s := ((a0, 0) : Nat × Int)) (show zer.length = 48 from rfl) (zer_at hk)
  rw [show ((0 % m : Nat) : Int) = ((0 : Nat) : Int) by rw [Nat.zero_mod]]
  exact set_same hc
theorem refR_skip (hok : okB L = true) (hT : a0 + tot (wS L f) ≤ 8 * bs.length) (k : Nat) : ∀ n, k + n ≤ 48 → (∀ p, k ≤ p → p < k + n → ∃ m, (wS L f)[p]? = some (0, m)) →
    cellsK (goR bs) L f zer (a0, 0) (k + n) = cellsK (goR bs) L f zer (a0, 0) k ∧ tot ((wS L f).take (k + n)) = tot ((wS L f).take k)
  | 0, _, _ => ⟨rfl, rfl⟩
  | n + 1, hn, h => by
    obtain ⟨h1, h2⟩ := refR_skip hok hT k n (by omega) fun p h1 h2 => h p h1 (by omega)
    obtain ⟨m, hm⟩ := h (k + n) (by omega) (by omega)
    obtain ⟨h3, h4⟩ := refR_skip1 hok hT (by omega) hm
    exact ⟨h3.trans h1, h4.trans h2⟩
theorem skip_pt {p : Nat} (h1 : 2 * ptN L f ≤ p) (h2 : p < 32) : ∃ m, (wS L f)[p]? = some (0, m) :=
  ⟨_, by rw [wS_at (by omega), if_pos h2]; unfold wPt; rw [if_neg (by omega)]⟩
theorem skip_cl {p c : Nat} (hp : 32 ≤ p) (h2 : p < 48) (h : clN L f ≤ (p - 32) / 4 ∨ L.cs.toNat ≤ (p - 32) % 4) : ∃ m, (wS L f)[p]? = some (0, m) :=
  ⟨_, by rw [wS_at (by omega), if_neg (by omega)]; unfold wCl; rw [if_neg (by omega)]⟩
end
theorem lay_at {L : Lay} {k : Nat} {z : Int} {n : Nat} (h : L.cells[k]? = some (.int .i64 z)) (e : (n : Int) = z) : L.cells[k]? = some (.int .i64 (n : Int)) := by rw [e]; exact h
set_option maxHeartbeats 2000000 in
theorem rsget_spec (w0 : World) (η : Heap) (L : Lay) (bv : Value) (bs : List Nat) (hs : SlA (St w0 η) bv 1 bs.length (byV bs)) (hb : ∀ c ∈ bs, c < 256) (hl : bs.length ≤ 140737488355328) :
    CallsT Tryd.prog 12 [L.val, bv] (St w0 η) fun v A' => ∃ sv H, v = .tuple #[sv, .int .i64 (errG L bs)] ∧ Frag 71 49 sv (outG L bs).length (flatS (outG L bs)) H ∧ A' = St w0 (H ++ η) := by
  have hs0 := hs
  obtain ⟨_, ad, cap, rfl, hcap, _⟩ := hs
  refine CallsT.body Tryd.func12 rfl rfl ?_
  simp only [Tryd.ntmps12, slotsOf, Nat.reduceAdd]
  refine TC_seq ?_
  refine TC_reg ?_
  refine TL_e rfl rfl rfl (rfl) (ET_box rfl rfl) ?_
  rintro _ _ ⟨b2, rfl, rfl⟩
  refine TL_q rfl rfl (QT_assign rfl rfl rfl) ?_
  refine TL_q rfl rfl (QT_assign rfl rfl rfl) ?_
  refine TL_nil ?_
  refine TX_then ?_
  refine TC_seq ?_
  refine TC_seq ?_
  refine TC_reg ?_
  first
    | refine TL_q rfl rfl (QT_loadW 0 rfl rfl Tryd.underlying27 rfl rfl rfl YtlmbpdlobpcahaaDoorF.sz_27) ?_
    | refine TL_q rfl rfl (QT_loadW 1 rfl rfl Tryd.underlying27 rfl rfl rfl YtlmbpdlobpcahaaDoorF.sz_27) ?_
    | refine TL_q rfl rfl (QT_loadW 2 rfl rfl Tryd.underlying27 rfl rfl rfl YtlmbpdlobpcahaaDoorF.sz_27) ?_
    | refine TL_q rfl rfl (QT_loadA 0 rfl rfl Tryd.underlying27 rfl rfl rfl YtlmbpdlobpcahaaDoorF.sz_27 (fun _ => rfl)) ?_
    | refine TL_q rfl rfl (QT_loadA 1 rfl rfl Tryd.underlying27 rfl rfl rfl YtlmbpdlobpcahaaDoorF.sz_27 (fun _ => rfl)) ?_
    | refine TL_q rfl rfl (QT_loadA 2 rfl rfl Tryd.underlying27 rfl rfl rfl YtlmbpdlobpcahaaDoorF.sz_27 (fun _ => rfl)) ?_
  refine TL_cq rfl rfl rfl rfl YtlmbpdlobpcahaaDoorF.cal_31 rfl (fun _ => rscheck_spec w0 _ L) ?_
  refine TL_q rfl rfl (QT_not rfl rfl rfl) ?_
  refine TL_nil ?_
  refine TX_then ?_
  first
    | refine TC_cond_dec rfl (fun h22 => ?_) (fun h22 => ?_)
    | refine TC_cond rfl (fun h22 => ?_) (fun h22 => ?_)
  ·
    refine TC_seq ?_
    refine TC_reg ?_
    refine TL_q rfl rfl (QT_assign rfl rfl rfl) ?_
    refine TL_q rfl rfl (QT_assign rfl rfl rfl) ?_
    refine TL_nil ?_
    refine TX_then ?_
    refine TC_ret ?_
    refine TX_then_ret ?_
    have eG : errG L bs = 4 := by
      unfold errG; rw [if_neg]
      intro hc
      unfold okS at h22
      simp [hc.1, hc.2] at h22
    exact TX_ret (.inl rfl) (res2 rfl rfl rfl) ⟨_, ⟨_, [], by rw [eG], fragNone eG (by decide), rfl⟩, fun _ h => h.tail⟩
  ·
    refine TC_skip ?_
    refine TX_then ?_
    refine TC_seq ?_
    refine TC_seq ?_
    have hc : okB L = true ∧ 6 ≤ L.ty := by
      unfold okS at h22
      simpa using h22
    have hty := ty67 hc
    have hbd := okB_bounds hc.1
    have hfl : (L.fl.toNat : Int) = L.fl := by have := hbd.2.2.2.2.2 (by omega); omega
    have hco : (L.co.toNat : Int) = L.co := by have := hbd.1; omega
    have hcm : (L.cm.toNat : Int) = L.cm := by have := hbd.2.1; omega
    have hcs : (L.cs.toNat : Int) = L.cs := by have := hbd.2.2.1; omega
    have hfl8 : L.fl.toNat ≤ 8 := by have := hbd.2.2.2.2.2 (by omega); omega
    have hco32 : L.co.toNat ≤ 32 := by have := hbd.1; omega
    have hcm16 : L.cm.toNat ≤ 16 := by have := hbd.2.1; omega
    have hcs4 : 1 ≤ L.cs.toNat ∧ L.cs.toNat ≤ 4 := by have := hbd.2.2.1; omega
    have lfl : L.cells[0 + 3]? = some (.int .i64 (L.fl.toNat : Int)) := lay_at rfl hfl
    have lco : L.cells[0 + 1]? = some (.int .i64 (L.co.toNat : Int)) := lay_at rfl hco
    have lcm : L.cells[0 + 2]? = some (.int .i64 (L.cm.toNat : Int)) := lay_at rfl hcm
    have lcs : L.cells[0 + 4]? = some (.int .i64 (L.cs.toNat : Int)) := lay_at rfl hcs
    generalize hFL : L.fl.toNat = FL at lfl hfl8
    generalize hCO : L.co.toNat = CO at lco hco32
    generalize hCM : L.cm.toNat = CM at lcm hcm16
    generalize hCS : L.cs.toNat = CS at lcs hcs4
    refine TC_reg ?_
    refine TL_q rfl rfl (QT_move rfl rfl rfl) ?_
    refine TL_q rfl rfl (QT_len rfl rfl Tryd.underlying28 rfl) ?_
    refine TL_q rfl rfl (QT_gtr rfl rfl rfl rfl) ?_
    refine TL_nil ?_
    refine TX_then ?_
    first
      | refine TC_cond_dec rfl (fun h25 => ?_) (fun h25 => ?_)
      | refine TC_cond rfl (fun h25 => ?_) (fun h25 => ?_)
    ·
      refine TC_seq ?_
      refine TC_reg ?_
      refine TL_q rfl rfl (QT_assign rfl rfl rfl) ?_
      refine TL_q rfl rfl (QT_assign rfl rfl rfl) ?_
      refine TL_nil ?_
      refine TX_then ?_
      refine TC_ret ?_
      refine TX_then_ret ?_
      have e3 : errG L bs = 3 := by unfold errG; rw [if_pos hc, if_pos (by omega)]
      exact TX_ret (.inl rfl) (res2 rfl rfl rfl) ⟨_, ⟨_, [], by rw [e3], fragNone e3 (by decide), rfl⟩, fun _ h => h.tail⟩
    ·
      refine TC_skip ?_
      refine TX_then ?_
      refine TC_seq ?_
      have hle : ¬ 65536 < bs.length := by omega
      refine TC_reg ?_
      refine TL_q rfl rfl (QT_assign rfl rfl rfl) ?_
      refine TL_nil ?_
      refine TX_then ?_
      refine TC_seq ?_
      refine TC_seq ?_
      refine TC_reg ?_
      refine TL_q rfl rfl (QT_assign rfl rfl rfl) ?_
      refine TL_nil ?_
      refine TX_then ?_
      refine TC_block ?_
      refine TC_loop (γ := { t : List (List Nat) × Nat × Value × Heap // t.2.1 ≤ bs.length ∧ Frag 71 49 t.2.2.1 t.1.length (flatS t.1) t.2.2.2 ∧ getS L bs = (getS L (bs.drop t.2.1)).map (t.1 ++ ·) ∧ t.1.length ≤ t.2.1 }) (fun u => [(1, true, .slice ad bs.length cap), (2, true, .pointer (some ⟨b2, 0, none⟩)), (6, true, u.1.2.2.1), (7, true, .int .i64 (u.1.2.1 : Int))]) (fun u => St w0 ((b2, 27, L.cells) :: (u.1.2.2.2 ++ η))) (fun u => bs.length - u.1.2.1) ⟨([], 0, .slice none 0 0, []), Nat.zero_le _, Frag.nil _ _, by rw [show (fun x : List (List Nat) => [] ++ x) = id from rfl, Option.map_id]; rfl, Nat.le_refl _⟩ ⟨rfl, rfl, rfl, rfl, trivial⟩ (fun _ h => h) ?_
      rintro ⟨⟨acc, from', sv, H⟩, hfr, hF, hgs, hal⟩
      dsimp only at hfr hF hgs hal ⊢
      refine TC_seq ?_
      refine TC_seq ?_
      refine TC_reg ?_
      refine TL_q rfl rfl (QT_move rfl rfl rfl) ?_
      refine TL_q rfl rfl (QT_move rfl rfl rfl) ?_
      refine TL_q rfl rfl (QT_len rfl rfl Tryd.underlying28 rfl) ?_
      refine TL_q rfl rfl (QT_lss rfl rfl rfl rfl) ?_
      refine TL_nil ?_
      refine TX_then ?_
      first
        | refine TC_cond_dec rfl (fun h29 => ?_) (fun h29 => ?_)
        | refine TC_cond rfl (fun h29 => ?_) (fun h29 => ?_)
      ·
        have hlt : from' < bs.length := by omega
        have hdl : (bs.drop from').length = bs.length - from' := List.length_drop ..
        have hr0 : bs.drop from' ≠ [] := by intro h; rw [h] at hdl; simp at hdl; omega
        have hcons := getS_cons hc.1 hty hr0
        have hk1 := szN_pos hc.1 hty (flB L (byB (bs.drop from')))
        have hszL := fun A => rsize_spec w0 A L (flB L (byB (bs.drop from')) : Int) (Int.natCast_nonneg _)
        rw [size_eq hc.1 hty] at hszL
        have hnT : szN L (flB L (byB (bs.drop from'))) = (tot (fS L (flB L (byB (bs.drop from')))) + 7) / 8 := rfl
        have hTw : tot (fS L (flB L (byB (bs.drop from')))) = L.fl.toNat + tot (wS L (flB L (byB (bs.drop from')))) := tot_cons _ _
        have hdc := dcS_eq L (byB (bs.drop from'))
        have hshf := dcS_shf L (byB (bs.drop from'))
        have hgv : getV bs ((8 * from' : Nat) : Int) (FL : Int) % 256 = flB L (byB (bs.drop from')) := by
          unfold flB
          rw [getV_ok (by omega) (by omega), byB_drop, hFL]
        have hf256 : flB L (byB (bs.drop from')) < 256 := Nat.mod_lt _ (by decide)
        rw [byB_drop, List.drop_drop, ← byB_drop] at hdc
        generalize flB L (byB (bs.drop from')) = fl at *
        rw [hFL] at hTw hdc
        have hparts := fun A => parts_spec w0 A L (fl : Int) (by omega)
        rw [(ptN_bd L fl).2.2, (clN_bd L fl).2.2] at hparts
        have hpt16 := ptN_bd L fl
        have hcl4 := clN_bd L fl
        generalize hm : szN L fl = m at *
        generalize hT : tot (fS L fl) = T at *
        refine TC_skip ?_
        refine TX_then ?_
        refine TC_block ?_
        refine TC_seq ?_
        refine TC_reg ?_
        refine TL_q rfl rfl (QT_move rfl rfl rfl) ?_
        refine TL_q rfl rfl (QT_move rfl rfl rfl) ?_
        refine TL_q rfl rfl (QT_to (QT_mul rfl rfl rfl rfl (fun _ => ⟨by omega, by omega⟩)) (show 8 * (from' : Int) = ((8 * from' : Nat) : Int) by omega)) ?_
        refine TL_q rfl rfl (QT_field rfl rfl YtlmbpdlobpcahaaDoorF.fld_27_3 rfl) ?_
        refine TL_q rfl rfl (QT_load (v := .int .i64 (FL : Int)) 0 rfl rfl Tryd.underlying3 rfl rfl rfl (fun _ => lfl)) ?_
        refine TL_cq rfl rfl rfl rfl YtlmbpdlobpcahaaDoorF.cal_32 rfl (fun _ => rget_spec w0 _ _ bs _ _ (hs0.mono fun _ h => h.tail.app_right) hb ⟨by omega, by omega⟩ ⟨by omega, by omega⟩ (by omega)) ?_
        refine TL_q rfl rfl (QT_move rfl rfl rfl) ?_
        refine TL_q rfl rfl (QT_extract rfl rfl rfl rfl) ?_
        refine TL_q rfl rfl (QT_extract rfl rfl rfl rfl) ?_
        refine TL_q rfl rfl (QT_assign rfl rfl rfl) ?_
        refine TL_q rfl rfl (QT_assign rfl rfl rfl) ?_
        refine TL_nil ?_
        refine TX_then ?_
        refine TC_seq ?_
        refine TC_reg ?_
        first
          | refine TL_q rfl rfl (QT_loadW 0 rfl rfl Tryd.underlying27 rfl rfl rfl YtlmbpdlobpcahaaDoorF.sz_27) ?_
          | refine TL_q rfl rfl (QT_loadW 1 rfl rfl Tryd.underlying27 rfl rfl rfl YtlmbpdlobpcahaaDoorF.sz_27) ?_
          | refine TL_q rfl rfl (QT_loadW 2 rfl rfl Tryd.underlying27 rfl rfl rfl YtlmbpdlobpcahaaDoorF.sz_27) ?_
          | refine TL_q rfl rfl (QT_loadA 0 rfl rfl Tryd.underlying27 rfl rfl rfl YtlmbpdlobpcahaaDoorF.sz_27 (fun _ => rfl)) ?_
          | refine TL_q rfl rfl (QT_loadA 1 rfl rfl Tryd.underlying27 rfl rfl rfl YtlmbpdlobpcahaaDoorF.sz_27 (fun _ => rfl)) ?_
          | refine TL_q rfl rfl (QT_loadA 2 rfl rfl Tryd.underlying27 rfl rfl rfl YtlmbpdlobpcahaaDoorF.sz_27 (fun _ => rfl)) ?_
        refine TL_q rfl rfl (QT_move rfl rfl rfl) ?_
        refine TL_q rfl rfl (QT_convN rfl rfl Tryd.underlying62 Tryd.underlying5 rfl ((wrapN8 _).trans (congrArg Nat.cast hgv))) ?_
        refine TL_cq rfl rfl rfl rfl YtlmbpdlobpcahaaDoorF.cal_33 rfl (fun _ => hszL _) ?_
        refine TL_q rfl rfl (QT_assign rfl rfl rfl) ?_
        refine TL_nil ?_
        refine TX_then ?_
        refine TC_seq ?_
        refine TC_seq ?_
        refine TC_reg ?_
        refine TL_q rfl rfl (QT_move rfl rfl rfl) ?_
        refine TL_q rfl rfl (QT_move rfl rfl rfl) ?_
        refine TL_q rfl rfl (QT_add rfl rfl rfl rfl (fun _ => ⟨by omega, by omega⟩)) ?_
        refine TL_q rfl rfl (QT_move rfl rfl rfl) ?_
        refine TL_q rfl rfl (QT_len rfl rfl Tryd.underlying28 rfl) ?_
        refine TL_q rfl rfl (QT_gtr rfl rfl rfl rfl) ?_
        refine TL_nil ?_
        refine TX_then ?_
        first
          | refine TC_cond_dec rfl (fun h48 => ?_) (fun h48 => ?_)
          | refine TC_cond rfl (fun h48 => ?_) (fun h48 => ?_)
        ·
          refine TC_seq ?_
          refine TC_reg ?_
          refine TL_q rfl rfl (QT_assign rfl rfl rfl) ?_
          refine TL_q rfl rfl (QT_assign rfl rfl rfl) ?_
          refine TL_nil ?_
          refine TX_then ?_
          refine TC_ret ?_
          refine TX_then_ret ?_
          refine TX_block_ret ?_
          refine TX_then_ret ?_
          refine TX_block_ret ?_
          refine TX_then_ret ?_
          have e5 : errG L bs = 5 := errG_none hc hle (by rw [hgs, hcons, if_pos (by omega)]; rfl)
          exact TX_ret (.inl rfl) (res2 rfl rfl rfl) ⟨_, ⟨_, [], by rw [e5], fragNone e5 (by decide), rfl⟩, fun _ h => h.tail.app_right⟩
        ·
          refine TC_skip ?_
          refine TX_then ?_
          refine TC_seq ?_
          have hfit : ¬ 8 * (bs.drop from').length < T := by omega
          have hTb : 8 * from' + FL + tot (wS L fl) ≤ 8 * bs.length := by omega
          refine TC_reg ?_
          refine TL_q rfl rfl (QT_move rfl rfl rfl) ?_
          refine TL_q rfl rfl (QT_convN rfl rfl Tryd.underlying62 Tryd.underlying5 rfl ((wrapN8 _).trans (congrArg Nat.cast hgv))) ?_
          refine TL_q rfl rfl (QT_build rfl rfl YtlmbpdlobpcahaaDoorF.zero_71 YtlmbpdlobpcahaaDoorF.pl_71 rfl rfl rfl) ?_
          refine TL_e rfl rfl rfl (rfl) (ET_alloc rfl YtlmbpdlobpcahaaDoorF.zero_71) ?_
          rintro _ _ ⟨b11, rfl, rfl⟩
          first
            | refine TL_e0 rfl rfl (rfl) (ET_storeW 0 rfl rfl rfl YtlmbpdlobpcahaaDoorF.sz_71 rfl rfl rfl) ?_
            | refine TL_e0 rfl rfl (rfl) (ET_storeW 1 rfl rfl rfl YtlmbpdlobpcahaaDoorF.sz_71 rfl rfl rfl) ?_
            | refine TL_e0 rfl rfl (rfl) (ET_storeW 2 rfl rfl rfl YtlmbpdlobpcahaaDoorF.sz_71 rfl rfl rfl) ?_
            | refine TL_e0 rfl rfl (rfl) (ET_store 0 rfl rfl rfl rfl YtlmbpdlobpcahaaDoorF.sz_71 rfl rfl rfl) ?_
            | refine TL_e0 rfl rfl (rfl) (ET_store 1 rfl rfl rfl rfl YtlmbpdlobpcahaaDoorF.sz_71 rfl rfl rfl) ?_
            | refine TL_e0 rfl rfl (rfl) (ET_store 2 rfl rfl rfl rfl YtlmbpdlobpcahaaDoorF.sz_71 rfl rfl rfl) ?_
          rintro _ _ ⟨rfl, rfl⟩
          refine TL_nil ?_
          refine TX_then ?_
          refine TC_seq ?_
          refine TC_A (St w0 ((b11, 71, cellsK (goR bs) L fl zer (8 * from' + FL, 0) 0) :: (b2, 27, L.cells) :: (H ++ η))) (fun w h => by rw [cellsK_zero]; exact h) ?_
          refine TC_reg ?_
          refine TL_q rfl rfl (QT_move rfl rfl rfl) ?_
          refine TL_q rfl rfl (QT_to (QT_mul rfl rfl rfl rfl (fun _ => ⟨by omega, by omega⟩)) (show 8 * (from' : Int) = ((8 * from' : Nat) : Int) by omega)) ?_
          refine TL_q rfl rfl (QT_field rfl rfl YtlmbpdlobpcahaaDoorF.fld_27_3 rfl) ?_
          refine TL_q rfl rfl (QT_load (v := .int .i64 (FL : Int)) 1 rfl rfl Tryd.underlying3 rfl rfl rfl (fun _ => lfl)) ?_
          refine TL_q rfl rfl (QT_to (QT_add rfl rfl rfl rfl (fun _ => ⟨by omega, by omega⟩)) (show ((8 * from' : Nat) : Int) + (FL : Int) = ((8 * from' + FL : Nat) : Int) by omega)) ?_
          refine TL_q rfl rfl (QT_assign rfl rfl rfl) ?_
          refine TL_nil ?_
          refine TX_then ?_
          refine TC_seq ?_
          obtain ⟨a0, ha0⟩ : ∃ a0, a0 = 8 * from' + FL := ⟨_, rfl⟩
          rw [← ha0] at hTb hdc ⊢
          have hstep := fun {k w m : Nat} => refR_step (L := L) (bs := bs) (f := fl) (a0 := a0) (k := k) (w := w) (m := m) hc.1 hTb
          have hskip := refR_skip (L := L) (bs := bs) (f := fl) (a0 := a0) hc.1 hTb
          refine TC_reg ?_
          first
            | refine TL_q rfl rfl (QT_loadW 0 rfl rfl Tryd.underlying27 rfl rfl rfl YtlmbpdlobpcahaaDoorF.sz_27) ?_
            | refine TL_q rfl rfl (QT_loadW 1 rfl rfl Tryd.underlying27 rfl rfl rfl YtlmbpdlobpcahaaDoorF.sz_27) ?_
            | refine TL_q rfl rfl (QT_loadW 2 rfl rfl Tryd.underlying27 rfl rfl rfl YtlmbpdlobpcahaaDoorF.sz_27) ?_
            | refine TL_q rfl rfl (QT_loadA 0 rfl rfl Tryd.underlying27 rfl rfl rfl YtlmbpdlobpcahaaDoorF.sz_27 (fun _ => rfl)) ?_
            | refine TL_q rfl rfl (QT_loadA 1 rfl rfl Tryd.underlying27 rfl rfl rfl YtlmbpdlobpcahaaDoorF.sz_27 (fun _ => rfl)) ?_
            | refine TL_q rfl rfl (QT_loadA 2 rfl rfl Tryd.underlying27 rfl rfl rfl YtlmbpdlobpcahaaDoorF.sz_27 (fun _ => rfl)) ?_
          refine TL_q rfl rfl (QT_field rfl rfl YtlmbpdlobpcahaaDoorF.fld_71_0 rfl) ?_
          refine TL_q rfl rfl (QT_load (v := .int .u8 (fl : Int)) 0 rfl rfl Tryd.underlying5 rfl rfl rfl (fun _ => by rw [cellsK_zero]; exact shV_at (xs := fl :: zer) (p := 0) (by decide) rfl)) ?_
          refine TL_cq rfl rfl rfl rfl YtlmbpdlobpcahaaDoorF.cal_34 rfl (fun _ => hparts _) ?_
          refine TL_q rfl rfl (QT_move rfl rfl rfl) ?_
          refine TL_q rfl rfl (QT_extract rfl rfl rfl rfl) ?_
          refine TL_q rfl rfl (QT_extract rfl rfl rfl rfl) ?_
          refine TL_q rfl rfl (QT_assign rfl rfl rfl) ?_
          refine TL_q rfl rfl (QT_assign rfl rfl rfl) ?_
          refine TL_nil ?_
          refine TX_then ?_
          refine TC_seq ?_
          refine TC_seq ?_
          refine TC_reg ?_
          refine TL_q rfl rfl (QT_assign rfl rfl rfl) ?_
          refine TL_nil ?_
          refine TX_then ?_
          refine TC_block ?_
          refine TC_loop (γ := { i : Nat // i ≤ ptN L fl }) (fun u => [(1, true, .slice ad bs.length cap), (2, true, .pointer (some ⟨b2, 0, none⟩)), (6, true, sv), (7, true, .int .i64 (from' : Int)), (10, true, .int .i64 (m : Int)), (11, true, .pointer (some ⟨b11, 0, none⟩)), (12, true, .int .i64 ((a0 + tot ((wS L fl).take (2 * u.1)) : Nat) : Int)), (13, true, .int .i64 (ptN L fl : Int)), (14, true, .int .i64 (clN L fl : Int)), (15, true, .int .i64 (u.1 : Int))]) (fun u => St w0 ((b11, 71, cellsK (goR bs) L fl zer (a0, 0) (2 * u.1)) :: (b2, 27, L.cells) :: (H ++ η))) (fun u => ptN L fl - u.1) ⟨0, Nat.zero_le _⟩ ⟨rfl, rfl, rfl, rfl, rfl, rfl, rfl, rfl, rfl, rfl, trivial⟩ (fun _ h => h) ?_
          rintro ⟨i, hi⟩
          dsimp only
          refine TC_seq ?_
          refine TC_seq ?_
          refine TC_reg ?_
          refine TL_q rfl rfl (QT_move rfl rfl rfl) ?_
          refine TL_q rfl rfl (QT_move rfl rfl rfl) ?_
          refine TL_q rfl rfl (QT_lss rfl rfl rfl rfl) ?_
          refine TL_nil ?_
          refine TX_then ?_
          first
            | refine TC_cond_dec rfl (fun h66 => ?_) (fun h66 => ?_)
            | refine TC_cond rfl (fun h66 => ?_) (fun h66 => ?_)
          ·
            have hip : i < ptN L fl := by omega
            have hi16 : i < 16 := by omega
            have hw : wPt L fl i = CO := by unfold wPt; rw [if_pos hip, hCO]
            have w1 := wS_pt (L := L) (f := fl) hi16 (p := 2 * i) (.inl rfl)
            have w2 := wS_pt (L := L) (f := fl) hi16 (p := 2 * i + 1) (.inr rfl)
            rw [hw] at w1 w2
            obtain ⟨s1, s2, s3⟩ := hstep (by omega) w1
            obtain ⟨s4, s5, s6⟩ := hstep (by omega) w2
            have hu1 : skK (2 * i + 1) = .u32 := by unfold skK; rw [if_neg (by omega), if_pos (by omega)]
            have hu2 : skK (2 * i + 1 + 1) = .u32 := by unfold skK; rw [if_neg (by omega), if_pos (by omega)]
            rw [hu1, Nat.mod_eq_of_lt (getV_lt ..)] at s3
            rw [hu2, Nat.mod_eq_of_lt (getV_lt ..), s1] at s6
            have hcl1 : Nat.ble (0 + 1 + i * 2 + 0 + 1) (cellsK (goR bs) L fl zer (a0, 0) (2 * i)).length = true := cells_lt (off := 0 + 1 + i * 2 + 0) (by rw [show 0 + 1 + i * 2 + 0 = 2 * i + 1 by omega]; exact cellsK_at (x := 0) rfl (zer_at (by omega)))
            have hcl2 : Nat.ble (0 + 1 + i * 2 + 1 + 1) (cellsK (goR bs) L fl zer (a0, 0) (2 * i + 1)).length = true := cells_lt (off := 0 + 1 + i * 2 + 1) (by rw [show 0 + 1 + i * 2 + 1 = 2 * i + 1 + 1 by omega]; exact cellsK_at (x := 0) rfl (zer_at (by omega)))
            obtain ⟨at1, hat1⟩ : ∃ at1, at1 = a0 + tot ((wS L fl).take (2 * i)) := ⟨_, rfl⟩
            rw [s1] at s4 s5
            rw [← hat1] at s1 s2 s3 s4 s5 s6 ⊢
            refine TC_skip ?_
            refine TX_then ?_
            refine TC_seq ?_
            refine TC_block ?_
            refine TC_seq ?_
            refine TC_reg ?_
            refine TL_q rfl rfl (QT_move rfl rfl rfl) ?_
            refine TL_q rfl rfl (QT_move rfl rfl rfl) ?_
            refine TL_q rfl rfl (QT_move rfl rfl rfl) ?_
            refine TL_q rfl rfl (QT_field rfl rfl YtlmbpdlobpcahaaDoorF.fld_27_1 rfl) ?_
            refine TL_q rfl rfl (QT_load (v := .int .i64 (CO : Int)) 1 rfl rfl Tryd.underlying3 rfl rfl rfl (fun _ => lco)) ?_
            refine TL_cq rfl rfl rfl rfl YtlmbpdlobpcahaaDoorF.cal_32 rfl (fun _ => rget_spec w0 _ _ bs _ _ (hs0.mono fun _ h => h.tail.tail.app_right) hb ⟨by omega, by omega⟩ ⟨by omega, by omega⟩ (by omega)) ?_
            refine TL_q rfl rfl (QT_move rfl rfl rfl) ?_
            refine TL_q rfl rfl (QT_extract rfl rfl rfl rfl) ?_
            refine TL_q rfl rfl (QT_extract rfl rfl rfl rfl) ?_
            refine TL_q rfl rfl (QT_field rfl rfl YtlmbpdlobpcahaaDoorF.fld_71_1 rfl) ?_
            refine TL_q rfl rfl (QT_indexArr i rfl rfl Tryd.underlying65 YtlmbpdlobpcahaaDoorF.sz_64 rfl rfl rfl (fun _ => hi16)) ?_
            refine TL_q rfl rfl (QT_field rfl rfl YtlmbpdlobpcahaaDoorF.fld_64_0 rfl) ?_
            refine TL_e0 rfl rfl (rfl) (ET_store (vs := [.int .u32 (getV bs (at1 : Int) (CO : Int) : Int)]) 0 rfl rfl rfl rfl YtlmbpdlobpcahaaDoorF.sz_62 rfl rfl hcl1) ?_
            rintro _ _ ⟨rfl, rfl⟩
            refine TL_nil ?_
            refine TX_then ?_
            refine TC_seq ?_
            refine TC_A (St w0 ((b11, 71, cellsK (goR bs) L fl zer (a0, 0) (2 * i + 1)) :: (b2, 27, L.cells) :: (H ++ η))) (fun w h => by
              rw [← s3]
              have h' : St w0 ((b11, 71, setAt (cellsK (goR bs) L fl zer (a0, 0) (2 * i)) (0 + 1 + i * 2 + 0) [.int .u32 (getV bs (at1 : Int) (CO : Int) : Int)]) :: (b2, 27, L.cells) :: (H ++ η)) w := h
              rw [show 0 + 1 + i * 2 + 0 = 2 * i + 1 by omega] at h'
              exact h') ?_
            refine TC_reg ?_
            refine TL_q rfl rfl (QT_move rfl rfl rfl) ?_
            refine TL_q rfl rfl (QT_move rfl rfl rfl) ?_
            refine TL_q rfl rfl (QT_move rfl rfl rfl) ?_
            refine TL_q rfl rfl (QT_field rfl rfl YtlmbpdlobpcahaaDoorF.fld_27_1 rfl) ?_
            refine TL_q rfl rfl (QT_load (v := .int .i64 (CO : Int)) 1 rfl rfl Tryd.underlying3 rfl rfl rfl (fun _ => lco)) ?_
            refine TL_q rfl rfl (QT_to (QT_add rfl rfl rfl rfl (fun _ => ⟨by omega, by omega⟩)) (show (at1 : Int) + (CO : Int) = ((at1 + CO : Nat) : Int) by omega)) ?_
            refine TL_q rfl rfl (QT_field rfl rfl YtlmbpdlobpcahaaDoorF.fld_27_1 rfl) ?_
            refine TL_q rfl rfl (QT_load (v := .int .i64 (CO : Int)) 1 rfl rfl Tryd.underlying3 rfl rfl rfl (fun _ => lco)) ?_
            refine TL_cq rfl rfl rfl rfl YtlmbpdlobpcahaaDoorF.cal_32 rfl (fun _ => rget_spec w0 _ _ bs _ _ (hs0.mono fun _ h => h.tail.tail.app_right) hb ⟨by omega, by omega⟩ ⟨by omega, by omega⟩ (by omega)) ?_
            refine TL_q rfl rfl (QT_move rfl rfl rfl) ?_
            refine TL_q rfl rfl (QT_extract rfl rfl rfl rfl) ?_
            refine TL_q rfl rfl (QT_extract rfl rfl rfl rfl) ?_
            refine TL_q rfl rfl (QT_field rfl rfl YtlmbpdlobpcahaaDoorF.fld_71_1 rfl) ?_
            refine TL_q rfl rfl (QT_indexArr i rfl rfl Tryd.underlying65 YtlmbpdlobpcahaaDoorF.sz_64 rfl rfl rfl (fun _ => hi16)) ?_
            refine TL_q rfl rfl (QT_field rfl rfl YtlmbpdlobpcahaaDoorF.fld_64_1 rfl) ?_
            refine TL_e0 rfl rfl (rfl) (ET_store (vs := [.int .u32 (getV bs ((at1 + CO : Nat) : Int) (CO : Int) : Int)]) 0 rfl rfl rfl rfl YtlmbpdlobpcahaaDoorF.sz_62 rfl rfl hcl2) ?_
            rintro _ _ ⟨rfl, rfl⟩
            refine TL_nil ?_
            refine TX_then ?_
            refine TC_A (St w0 ((b11, 71, cellsK (goR bs) L fl zer (a0, 0) (2 * i + 1 + 1)) :: (b2, 27, L.cells) :: (H ++ η))) (fun w h => by
              rw [← s6]
              have h' : St w0 ((b11, 71, setAt (cellsK (goR bs) L fl zer (a0, 0) (2 * i + 1)) (0 + 1 + i * 2 + 1) [.int .u32 (getV bs ((at1 + CO : Nat) : Int) (CO : Int) : Int)]) :: (b2, 27, L.cells) :: (H ++ η)) w := h
              rw [show 0 + 1 + i * 2 + 1 = 2 * i + 1 + 1 by omega] at h'
              exact h') ?_
            refine TC_reg ?_
            refine TL_q rfl rfl (QT_move rfl rfl rfl) ?_
            refine TL_q rfl rfl (QT_field rfl rfl YtlmbpdlobpcahaaDoorF.fld_27_1 rfl) ?_
            refine TL_q rfl rfl (QT_load (v := .int .i64 (CO : Int)) 1 rfl rfl Tryd.underlying3 rfl rfl rfl (fun _ => lco)) ?_
            refine TL_q rfl rfl (QT_mul rfl rfl rfl rfl (fun _ => ⟨by omega, by omega⟩)) ?_
            refine TL_q rfl rfl (QT_add rfl rfl rfl rfl (fun _ => ⟨by omega, by omega⟩)) ?_
            refine TL_q rfl rfl (QT_assign rfl rfl rfl) ?_
            refine TL_nil ?_
            refine TX_block_normal ?_
            refine TX_then ?_
            refine TC_reg ?_
            refine TL_q rfl rfl (QT_move rfl rfl rfl) ?_
            refine TL_q rfl rfl (QT_add rfl rfl rfl rfl (fun _ => ⟨by omega, by omega⟩)) ?_
            refine TL_q rfl rfl (QT_assign rfl rfl rfl) ?_
            refine TL_nil ?_
            exact TX_round ⟨i + 1, hip⟩ (by show ptN L fl - (i + 1) < ptN L fl - i; omega) ⟨rfl, rfl, rfl, rfl, rfl, rfl, slotI rfl (by show (at1 : Int) + 2 * (CO : Int) = ((a0 + tot ((wS L fl).take (2 * i + 1 + 1)) : Nat) : Int); omega), rfl, rfl, rfl, trivial⟩ (fun _ h => h)
          ·
            refine TC_exit ?_
            refine TX_then_exit ?_
            refine TX_then_exit ?_
            refine TX_block_here ?_
            refine TX_then ?_
            refine TC_seq ?_
            refine TC_seq ?_
            obtain rfl : i = ptN L fl := by omega
            obtain ⟨k1, k2⟩ := hskip (2 * ptN L fl) (32 - 2 * ptN L fl) (by omega) fun p h1 h2 => skip_pt h1 (by omega)
            rw [show 2 * ptN L fl + (32 - 2 * ptN L fl) = 32 by omega] at k1 k2
            rw [← k1, ← k2]
            refine TC_reg ?_
            refine TL_q rfl rfl (QT_assign rfl rfl rfl) ?_
            refine TL_nil ?_
            refine TX_then ?_
            refine TC_block ?_
            refine TC_loop (γ := { c : Nat // c ≤ clN L fl }) (fun u => [(1, true, .slice ad bs.length cap), (2, true, .pointer (some ⟨b2, 0, none⟩)), (6, true, sv), (7, true, .int .i64 (from' : Int)), (10, true, .int .i64 (m : Int)), (11, true, .pointer (some ⟨b11, 0, none⟩)), (12, true, .int .i64 ((a0 + tot ((wS L fl).take (32 + 4 * u.1)) : Nat) : Int)), (14, true, .int .i64 (clN L fl : Int)), (16, true, .int .i64 (u.1 : Int))]) (fun u => St w0 ((b11, 71, cellsK (goR bs) L fl zer (a0, 0) (32 + 4 * u.1)) :: (b2, 27, L.cells) :: (H ++ η))) (fun u => clN L fl - u.1) ⟨0, Nat.zero_le _⟩ ⟨rfl, rfl, rfl, rfl, rfl, rfl, rfl, rfl, rfl, trivial⟩ (fun _ h => h) ?_
            rintro ⟨c, hcc⟩
            dsimp only
            refine TC_seq ?_
            refine TC_seq ?_
            refine TC_reg ?_
            refine TL_q rfl rfl (QT_move rfl rfl rfl) ?_
            refine TL_q rfl rfl (QT_move rfl rfl rfl) ?_
            refine TL_q rfl rfl (QT_lss rfl rfl rfl rfl) ?_
            refine TL_nil ?_
            refine TX_then ?_
            first
              | refine TC_cond_dec rfl (fun h103 => ?_) (fun h103 => ?_)
              | refine TC_cond rfl (fun h103 => ?_) (fun h103 => ?_)
            ·
              have hc4 : c < clN L fl := by omega
              refine TC_skip ?_
              refine TX_then ?_
              refine TC_seq ?_
              refine TC_block ?_
              refine TC_seq ?_
              refine TC_reg ?_
              refine TL_q rfl rfl (QT_assign rfl rfl rfl) ?_
              refine TL_nil ?_
              refine TX_then ?_
              refine TC_block ?_
              refine TC_loop (γ := { d : Nat // d ≤ CS }) (fun u => [(1, true, .slice ad bs.length cap), (2, true, .pointer (some ⟨b2, 0, none⟩)), (6, true, sv), (7, true, .int .i64 (from' : Int)), (10, true, .int .i64 (m : Int)), (11, true, .pointer (some ⟨b11, 0, none⟩)), (12, true, .int .i64 ((a0 + tot ((wS L fl).take (32 + 4 * c + u.1)) : Nat) : Int)), (14, true, .int .i64 (clN L fl : Int)), (16, true, .int .i64 (c : Int)), (17, true, .int .i64 (u.1 : Int))]) (fun u => St w0 ((b11, 71, cellsK (goR bs) L fl zer (a0, 0) (32 + 4 * c + u.1)) :: (b2, 27, L.cells) :: (H ++ η))) (fun u => CS - u.1) ⟨0, Nat.zero_le _⟩ ⟨rfl, rfl, rfl, rfl, rfl, rfl, rfl, rfl, rfl, rfl, trivial⟩ (fun _ h => h) ?_
              rintro ⟨d, hdd⟩
              dsimp only
              refine TC_seq ?_
              refine TC_seq ?_
              refine TC_reg ?_
              refine TL_q rfl rfl (QT_move rfl rfl rfl) ?_
              refine TL_q rfl rfl (QT_field rfl rfl YtlmbpdlobpcahaaDoorF.fld_27_4 rfl) ?_
              refine TL_q rfl rfl (QT_load (v := .int .i64 (CS : Int)) 1 rfl rfl Tryd.underlying3 rfl rfl rfl (fun _ => lcs)) ?_
              refine TL_q rfl rfl (QT_lss rfl rfl rfl rfl) ?_
              refine TL_nil ?_
              refine TX_then ?_
              first
                | refine TC_cond_dec rfl (fun h109 => ?_) (fun h109 => ?_)
                | refine TC_cond rfl (fun h109 => ?_) (fun h109 => ?_)
              ·
                have hd : d < CS := by omega
                have hw : wCl L fl (4 * c + d) = CM := by unfold wCl; rw [show (4 * c + d) / 4 = c by omega, show (4 * c + d) % 4 = d by omega, if_pos ⟨hc4, by omega⟩, hCM]
                have w1 : (wS L fl)[32 + 4 * c + d]? = some (CM, 65536) := by rw [Nat.add_assoc, wS_cl (by omega), hw]
                obtain ⟨s1, s2, s3⟩ := hstep (by omega) w1
                have hu1 : skK (32 + 4 * c + d + 1) = .u16 := by unfold skK; rw [if_neg (by omega), if_neg (by omega)]
                rw [hu1] at s3
                have hcl1 : Nat.ble (0 + 33 + c * 4 + d * 1 + 1) (cellsK (goR bs) L fl zer (a0, 0) (32 + 4 * c + d)).length = true := cells_lt (off := 0 + 33 + c * 4 + d * 1) (by rw [show 0 + 33 + c * 4 + d * 1 = 32 + 4 * c + d + 1 by omega]; exact cellsK_at (x := 0) rfl (zer_at (by omega)))
                obtain ⟨at1, hat1⟩ : ∃ at1, at1 = a0 + tot ((wS L fl).take (32 + 4 * c + d)) := ⟨_, rfl⟩
                rw [← hat1] at s1 s2 s3 ⊢
                refine TC_skip ?_
                refine TX_then ?_
                refine TC_seq ?_
                refine TC_block ?_
                refine TC_seq ?_
                refine TC_reg ?_
                refine TL_q rfl rfl (QT_move rfl rfl rfl) ?_
                refine TL_q rfl rfl (QT_move rfl rfl rfl) ?_
                refine TL_q rfl rfl (QT_field rfl rfl YtlmbpdlobpcahaaDoorF.fld_27_2 rfl) ?_
                refine TL_q rfl rfl (QT_load (v := .int .i64 (CM : Int)) 1 rfl rfl Tryd.underlying3 rfl rfl rfl (fun _ => lcm)) ?_
                refine TL_cq rfl rfl rfl rfl YtlmbpdlobpcahaaDoorF.cal_32 rfl (fun _ => rget_spec w0 _ _ bs _ _ (hs0.mono fun _ h => h.tail.tail.app_right) hb ⟨by omega, by omega⟩ ⟨by omega, by omega⟩ (by omega)) ?_
                refine TL_q rfl rfl (QT_move rfl rfl rfl) ?_
                refine TL_q rfl rfl (QT_extract rfl rfl rfl rfl) ?_
                refine TL_q rfl rfl (QT_extract rfl rfl rfl rfl) ?_
                refine TL_q rfl rfl (QT_assign rfl rfl rfl) ?_
                refine TL_q rfl rfl (QT_assign rfl rfl rfl) ?_
                refine TL_nil ?_
                refine TX_then ?_
                refine TC_seq ?_
                refine TC_reg ?_
                refine TL_q rfl rfl (QT_move rfl rfl rfl) ?_
                refine TL_q rfl rfl (QT_move rfl rfl rfl) ?_
                refine TL_q rfl rfl (QT_move rfl rfl rfl) ?_
                refine TL_q rfl rfl (QT_convN rfl rfl Tryd.underlying62 Tryd.underlying66 rfl (wrapN16 _)) ?_
                refine TL_q rfl rfl (QT_field rfl rfl YtlmbpdlobpcahaaDoorF.fld_71_2 rfl) ?_
                refine TL_q rfl rfl (QT_indexArr c rfl rfl Tryd.underlying69 YtlmbpdlobpcahaaDoorF.sz_68 rfl rfl rfl (fun _ => by omega)) ?_
                refine TL_q rfl rfl (QT_indexArr d rfl rfl Tryd.underlying68 YtlmbpdlobpcahaaDoorF.sz_66 rfl rfl rfl (fun _ => by omega)) ?_
                refine TL_e0 rfl rfl (rfl) (ET_store (vs := [.int .u16 ((getV bs (at1 : Int) (CM : Int) % 65536 : Nat) : Int)]) 0 rfl rfl rfl rfl YtlmbpdlobpcahaaDoorF.sz_66 rfl rfl hcl1) ?_
                rintro _ _ ⟨rfl, rfl⟩
                refine TL_nil ?_
                refine TX_then ?_
                refine TC_A (St w0 ((b11, 71, cellsK (goR bs) L fl zer (a0, 0) (32 + 4 * c + d + 1)) :: (b2, 27, L.cells) :: (H ++ η))) (fun w h => by
                  rw [← s3]
                  have h' : St w0 ((b11, 71, setAt (cellsK (goR bs) L fl zer (a0, 0) (32 + 4 * c + d)) (0 + 33 + c * 4 + d * 1) [.int .u16 ((getV bs (at1 : Int) (CM : Int) % 65536 : Nat) : Int)]) :: (b2, 27, L.cells) :: (H ++ η)) w := h
                  rw [show 0 + 33 + c * 4 + d * 1 = 32 + 4 * c + d + 1 by omega] at h'
                  exact h') ?_
                refine TC_reg ?_
                refine TL_q rfl rfl (QT_move rfl rfl rfl) ?_
                refine TL_q rfl rfl (QT_field rfl rfl YtlmbpdlobpcahaaDoorF.fld_27_2 rfl) ?_
                refine TL_q rfl rfl (QT_load (v := .int .i64 (CM : Int)) 1 rfl rfl Tryd.underlying3 rfl rfl rfl (fun _ => lcm)) ?_
                refine TL_q rfl rfl (QT_add rfl rfl rfl rfl (fun _ => ⟨by omega, by omega⟩)) ?_
                refine TL_q rfl rfl (QT_assign rfl rfl rfl) ?_
                refine TL_nil ?_
                refine TX_block_normal ?_
                refine TX_then ?_
                refine TC_reg ?_
                refine TL_q rfl rfl (QT_move rfl rfl rfl) ?_
                refine TL_q rfl rfl (QT_add rfl rfl rfl rfl (fun _ => ⟨by omega, by omega⟩)) ?_
                refine TL_q rfl rfl (QT_assign rfl rfl rfl) ?_
                refine TL_nil ?_
                exact TX_round ⟨d + 1, hd⟩ (by show CS - (d + 1) < CS - d; omega) ⟨rfl, rfl, rfl, rfl, rfl, rfl, slotI rfl (by show (at1 : Int) + (CM : Int) = ((a0 + tot ((wS L fl).take (32 + 4 * c + d + 1)) : Nat) : Int); omega), rfl, rfl, rfl, trivial⟩ (fun _ h => h)
              ·
                refine TC_exit ?_
                refine TX_then_exit ?_
                refine TX_then_exit ?_
                refine TX_block_here ?_
                refine TX_block_normal ?_
                refine TX_then ?_
                obtain rfl : d = CS := by omega
                obtain ⟨k3, k4⟩ := hskip (32 + 4 * c + d) (4 - d) (by omega) fun p h1 h2 => skip_cl (c := c) (by omega) (by omega) (.inr (by omega))
                rw [show 32 + 4 * c + d + (4 - d) = 32 + 4 * (c + 1) by omega] at k3 k4
                rw [← k3, ← k4]
                refine TC_reg ?_
                refine TL_q rfl rfl (QT_move rfl rfl rfl) ?_
                refine TL_q rfl rfl (QT_add rfl rfl rfl rfl (fun _ => ⟨by omega, by omega⟩)) ?_
                refine TL_q rfl rfl (QT_assign rfl rfl rfl) ?_
                refine TL_nil ?_
                exact TX_round ⟨c + 1, hc4⟩ (by show clN L fl - (c + 1) < clN L fl - c; omega) ⟨rfl, rfl, rfl, rfl, rfl, rfl, rfl, rfl, rfl, trivial⟩ (fun _ h => h)
            ·
              refine TC_exit ?_
              refine TX_then_exit ?_
              refine TX_then_exit ?_
              refine TX_block_here ?_
              refine TX_then ?_
              refine TC_seq ?_
              obtain rfl : c = clN L fl := by omega
              obtain ⟨k5, k6⟩ := hskip (32 + 4 * clN L fl) (48 - (32 + 4 * clN L fl)) (by omega) fun p h1 h2 => skip_cl (c := 0) (by omega) (by omega) (.inl (by omega))
              rw [show 32 + 4 * clN L fl + (48 - (32 + 4 * clN L fl)) = 48 by omega] at k5 k6
              have hall := cellsK_all (go := goR bs) (L := L) (fl := fl) (s := ((a0, 0) : Nat × Int)) (show zer.length = 48 from rfl)
              rw [run_goR_ok (wS_le hc.1 fl) hTb (by rw [wS_len]; rfl)] at hall
              dsimp only at hall
              rw [← hdc] at hall
              rw [← k5, hall]
              generalize dcS L (byB (bs.drop from')) = ys at hcons hshf
              have hyl : (shV ys).length = 49 := shV_len hshf.len
              have hys : Sz Tryd.prog 71 (shV ys).length := by rw [hyl]; exact YtlmbpdlobpcahaaDoorF.sz_71
              have hyi := shV_ints hshf
              refine TC_reg ?_
              refine TL_q rfl rfl (QT_move rfl rfl rfl) ?_
              refine TL_q rfl rfl (QT_loadW (cs := shV ys) 0 rfl rfl Tryd.underlying71 rfl rfl rfl hys) ?_
              refine TL_e rfl rfl rfl (rfl) (ET_buildN [_] rfl Tryd.underlying31 YtlmbpdlobpcahaaDoorF.sz_71 YtlmbpdlobpcahaaDoorF.zero_71 rfl rfl rfl (fun v hv => by cases List.mem_singleton.1 hv; exact hyl)) ?_
              rintro _ _ ⟨b133, rfl, rfl⟩
              refine TL_e rfl rfl rfl (rfl) (ET_appendL (L := [_, _, _]) rfl Tryd.underlying31 el_Sheet rfl rfl hF (fun _ h => h) (SlA.own (n := 1) (xs := shV ys) 0 rfl (by rw [List.drop_zero, List.take_of_length_le (by simp [Value.cells, hyl])]; simp [Value.cells]) (by simp [Value.cells, hyl]) (by omega)) hyi.oneCell (by omega) (by omega)) ?_
              rintro sv2 _ ⟨H', hF', rfl⟩
              refine TL_q rfl rfl (QT_assign rfl rfl rfl) ?_
              refine TL_nil ?_
              refine TX_then ?_
              refine TC_reg ?_
              refine TL_q rfl rfl (QT_move rfl rfl rfl) ?_
              refine TL_q rfl rfl (QT_move rfl rfl rfl) ?_
              refine TL_q rfl rfl (QT_add rfl rfl rfl rfl (fun _ => ⟨by omega, by omega⟩)) ?_
              refine TL_q rfl rfl (QT_assign rfl rfl rfl) ?_
              refine TL_nil ?_
              refine TX_block_normal ?_
              refine TX_round ⟨(acc ++ [ys], from' + m, sv2, H'), by show from' + m ≤ bs.length; omega, by rw [List.length_append, flatS_snoc]; exact hF', ?_, ?_⟩ (by show bs.length - (from' + m) < bs.length - from'; omega) ⟨rfl, rfl, rfl, rfl, trivial⟩ (fun _ h => h.tail.tail)
              · rw [hgs, hcons, if_neg hfit, Option.map_map, List.drop_drop]
                exact congrArg (fun F => Option.map F (getS L (bs.drop (from' + m)))) (funext fun x => by simp)
              · show (acc ++ [ys]).length ≤ from' + m
                rw [List.length_append]
                show acc.length + 1 ≤ _
                omega
      ·
        refine TC_exit ?_
        refine TX_then_exit ?_
        refine TX_then_exit ?_
        refine TX_block_here ?_
        refine TX_then ?_
        refine TC_seq ?_
        refine TC_reg ?_
        refine TL_q rfl rfl (QT_move rfl rfl rfl) ?_
        refine TL_q rfl rfl (QT_assign rfl rfl rfl) ?_
        refine TL_q rfl rfl (QT_assign rfl rfl rfl) ?_
        refine TL_nil ?_
        refine TX_then ?_
        refine TC_ret ?_
        obtain rfl : from' = bs.length := by omega
        obtain ⟨e0, eo⟩ := errG_ok (ys := acc) hc hle (by rw [hgs, List.drop_eq_nil_of_le (Nat.le_refl _), getS_nil]; simp)
        exact TX_ret (.inl rfl) (res2 rfl rfl rfl) ⟨_, ⟨sv, H, by rw [e0], by rw [eo]; exact hF, rfl⟩, fun _ h => h.tail⟩
end Go.Proofs.YtlmbpdlobpcahaaDoor

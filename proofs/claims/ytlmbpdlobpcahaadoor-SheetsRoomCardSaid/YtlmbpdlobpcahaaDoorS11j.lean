/- THE DOCUMENT's BYTES OF SHEETS: the walk. -/
import Derived.Test.YtlmbpdlobpcahaaDoorS11i
import Derived.Test.YtlmbpdlobpcahaaDoorP06f
namespace Go.Proofs.YtlmbpdlobpcahaaDoor
open Go Go.Gx Go.RowKit
set_option maxRecDepth 100000
theorem fitB_at : ∀ {ws : Ws} {xs : List Nat}, fitB ws xs = true → ∀ {k w m x : Nat}, ws[k]? = some (w, m) → xs[k]? = some x → x < 2 ^ w
  | [], _, _, k, w, m, x, h, _ => by simp at h
  | _ :: _, [], _, k, w, m, x, _, h => by simp at h
  | (w, m) :: ws, x :: xs, h, 0, _, _, _, h1, h2 => by
    cases h1; cases h2
    simp only [fitB, Bool.and_eq_true, decide_eq_true_eq] at h
    exact h.1
  | (w, m) :: ws, x :: xs, h, k + 1, _, _, _, h1, h2 => by
    simp only [fitB, Bool.and_eq_true, decide_eq_true_eq] at h
    exact fitB_at h.2 h1 h2
theorem enc_append : ∀ {a b : Ws} {xs zs : List Nat}, a.length = xs.length → enc (a ++ b) (xs ++ zs) = enc a xs ++ enc b zs
  | [], b, [], zs, _ => by simp [enc]
  | [], _, _ :: _, _, h => by simp at h
  | _ :: _, _, [], _, h => by simp at h
  | (w, m) :: a, b, x :: xs, zs, h => by
    simp only [List.cons_append, enc]
    rw [enc_append (by simpa using h), List.append_assoc]
/-- the bits when the flag and k other numbers are put -/
def eK (L : Lay) (x0 : Nat) (X : List Nat) (k : Nat) : List Bool := bitsN L.fl.toNat x0 ++ enc ((wS L x0).take k) (X.take k)
theorem eK_step {L : Lay} {x0 k w m x : Nat} {X : List Nat} (hw : (wS L x0)[k]? = some (w, m)) (hx : X[k]? = some x) : eK L x0 X (k + 1) = eK L x0 X k ++ bitsN w x := by
  have h1 : k < (wS L x0).length := (List.getElem?_eq_some_iff.1 hw).1
  have h2 : k < X.length := (List.getElem?_eq_some_iff.1 hx).1
  unfold eK
  rw [List.take_add_one, List.take_add_one, hw, hx]
  show _ ++ enc ((wS L x0).take k ++ [(w, m)]) (X.take k ++ [x]) = _
  rw [enc_append (by rw [List.length_take, List.length_take]; omega), ← List.append_assoc]
  simp [enc]
theorem eK_skip {L : Lay} {x0 : Nat} {X : List Nat} (hX : X.length = 48) (k : Nat) : ∀ n, k + n ≤ 48 → (∀ p, k ≤ p → p < k + n → ∃ m, (wS L x0)[p]? = some (0, m)) → eK L x0 X (k + n) = eK L x0 X k
  | 0, _, _ => rfl
  | n + 1, hn, h => by
    obtain ⟨m, hm⟩ := h (k + n) (by omega) (by omega)
    obtain ⟨x, hx⟩ := get48 hX (show k + n < 48 by omega)
    rw [← Nat.add_assoc, eK_step hm hx, eK_skip hX k n (by omega) fun p h1 h2 => h p h1 (by omega)]
    simp [bitsN]
theorem eK_all {L : Lay} {x0 : Nat} {X : List Nat} (hX : X.length = 48) : eK L x0 X 48 = encS L (x0 :: X) := by
  unfold eK
  rw [List.take_of_length_le (by rw [wS_len]; exact Nat.le_refl _), List.take_of_length_le (by omega)]
  rfl
theorem eK_len {L : Lay} (hok : okB L = true) (hty : L.ty = 6 ∨ L.ty = 7) {x0 : Nat} {X : List Nat} (hX : X.length = 48) {k : Nat} (hk : k ≤ 48) : (eK L x0 X k).length ≤ 1568 := by
  have h1 := fS_tot hok hty x0
  have h2 : tot (fS L x0) = L.fl.toNat + tot (wS L x0) := tot_cons _ _
  have h3 := tot_take (wS L x0) k
  unfold eK
  rw [List.length_append, bitsN_len, enc_len (by rw [List.length_take, List.length_take, wS_len, hX])]
  omega
theorem putL_ok {l : List Bool} {v w : Nat} (hw : w ≤ 32) (hv : v < 2 ^ w) (h : l.length + w ≤ 524288) : putL l v w = l ++ bitsN w v := by
  unfold putL
  rw [if_pos (putE_zero hw hv h), Int.toNat_natCast]
theorem RefAt.bytesX {w0 : World} {mb : Nat} {l : List Bool} {K : Heap} (η : Heap) (hK : RefAt mb l K) (hl : l.length ≤ 600000) :
    CallsT Tryd.prog 84 [.pointer (some ⟨mb, 0, none⟩)] (St w0 (K ++ η)) fun v A' => ∃ H2, Frag 5 1 v (packB l).length (byV (packB l)) H2 ∧ A' = St w0 (H2 ++ (K ++ η)) := by
  refine (rbytes_spec w0 η K mb l hK hl).mono ?_
  rintro v A' ⟨bs, H2, hF, ⟨hb1, hb2⟩, rfl⟩
  obtain rfl : bs = packB l := byBInj (by rw [hb1, byB_packB]) hb2 (packB_lt l)
  exact ⟨_, ⟨H2, hF, rfl⟩, fun w h => h⟩
theorem flatS_elem {ys : List (List Nat)} (h : ∀ y ∈ ys, ShF y) {i p : Nat} {y : List Nat} (hi : ys[i]? = some y) (hp : p < 49) : (flatS ys)[i * 49 + p]? = (shV y)[p]? := by
  rw [← (flatS_at h hi).2, List.getElem?_take, if_pos hp, List.getElem?_drop]
set_option maxHeartbeats 2000000 in
theorem rsput_spec (w0 : World) (η : Heap) (L : Lay) (sv : Value) (ys : List (List Nat)) (hs : SlA (St w0 η) sv 49 ys.length (flatS ys)) (hy : ∀ y ∈ ys, ShF y) (hn : ys.length ≤ 100000000) :
    CallsT Tryd.prog 20 [L.val, sv] (St w0 η) fun v A' => ∃ bv H, v = .tuple #[bv, .int .i64 (errP L ys)] ∧ Frag 5 1 bv (outP L ys).length (byV (outP L ys)) H ∧ A' = St w0 (H ++ η) := by
  obtain ⟨hfl0, ad, cap, sb, so, rfl, hcap, had, hrd⟩ := hs.some
  refine CallsT.body Tryd.func20 rfl rfl ?_
  simp only [Tryd.ntmps20, slotsOf, Nat.reduceAdd]
  refine TC_seq ?_
  refine TC_reg ?_
  refine TL_e rfl rfl rfl (rfl) (ET_box rfl rfl) ?_
  rintro _ _ ⟨b2, rfl, rfl⟩
  refine TL_q rfl rfl (QT_assign rfl rfl rfl) ?_
  refine TL_q rfl rfl (QT_assign rfl rfl rfl) ?_
  refine TL_nil ?_
  refine TX_then ?_
  refine TC_seq ?_
  refine TC_seq ?_
  refine TC_reg ?_
  first
    | refine TL_q rfl rfl (QT_loadW 0 rfl rfl Tryd.underlying27 rfl rfl rfl YtlmbpdlobpcahaaDoorF.sz_27) ?_
    | refine TL_q rfl rfl (QT_loadW 1 rfl rfl Tryd.underlying27 rfl rfl rfl YtlmbpdlobpcahaaDoorF.sz_27) ?_
    | refine TL_q rfl rfl (QT_loadW 2 rfl rfl Tryd.underlying27 rfl rfl rfl YtlmbpdlobpcahaaDoorF.sz_27) ?_
    | refine TL_q rfl rfl (QT_loadA 0 rfl rfl Tryd.underlying27 rfl rfl rfl YtlmbpdlobpcahaaDoorF.sz_27 (fun _ => rfl)) ?_
    | refine TL_q rfl rfl (QT_loadA 1 rfl rfl Tryd.underlying27 rfl rfl rfl YtlmbpdlobpcahaaDoorF.sz_27 (fun _ => rfl)) ?_
    | refine TL_q rfl rfl (QT_loadA 2 rfl rfl Tryd.underlying27 rfl rfl rfl YtlmbpdlobpcahaaDoorF.sz_27 (fun _ => rfl)) ?_
  refine TL_cq rfl rfl rfl rfl YtlmbpdlobpcahaaDoorF.cal_31 rfl (fun _ => rscheck_spec w0 _ L) ?_
  refine TL_q rfl rfl (QT_not rfl rfl rfl) ?_
  refine TL_nil ?_
  refine TX_then ?_
  first
    | refine TC_cond_dec rfl (fun h17 => ?_) (fun h17 => ?_)
    | refine TC_cond rfl (fun h17 => ?_) (fun h17 => ?_)
  ·
    refine TC_seq ?_
    refine TC_reg ?_
    refine TL_q rfl rfl (QT_assign rfl rfl rfl) ?_
    refine TL_q rfl rfl (QT_assign rfl rfl rfl) ?_
    refine TL_nil ?_
    refine TX_then ?_
    refine TC_ret ?_
    refine TX_then_ret ?_
    have eP : errP L ys = 4 := by
      unfold errP; rw [if_neg]
      intro hc
      unfold okS at h17
      simp [hc.1, hc.2] at h17
    exact TX_ret (.inl rfl) (res2 rfl rfl rfl) ⟨_, ⟨_, [], by rw [eP], fragNoneB eP (by decide), rfl⟩, fun _ h => h.tail⟩
  ·
    refine TC_skip ?_
    refine TX_then ?_
    refine TC_seq ?_
    refine TC_seq ?_
    have hc : okB L = true ∧ 6 ≤ L.ty := by
      unfold okS at h17
      simpa using h17
    have hty := ty67 hc
    have hbd := okB_bounds hc.1
    have hfl : (L.fl.toNat : Int) = L.fl := by have := hbd.2.2.2.2.2 (by omega); omega
    have hco : (L.co.toNat : Int) = L.co := by have := hbd.1; omega
    have hcm : (L.cm.toNat : Int) = L.cm := by have := hbd.2.1; omega
    have hcs : (L.cs.toNat : Int) = L.cs := by have := hbd.2.2.1; omega
    have hfl8 : L.fl.toNat ≤ 8 := by have := hbd.2.2.2.2.2 (by omega); omega
    have hco32 : L.co.toNat ≤ 32 := by have := hbd.1; omega
    have hcm16 : L.cm.toNat ≤ 16 := by have := hbd.2.1; omega
    have hcs4 : 1 ≤ L.cs.toNat ∧ L.cs.toNat ≤ 4 := by have := hbd.2.2.1; omega
    have lfl : L.cells[0 + 3]? = some (.int .i64 (L.fl.toNat : Int)) := lay_at rfl hfl
    have lco : L.cells[0 + 1]? = some (.int .i64 (L.co.toNat : Int)) := lay_at rfl hco
    have lcm : L.cells[0 + 2]? = some (.int .i64 (L.cm.toNat : Int)) := lay_at rfl hcm
    have lcs : L.cells[0 + 4]? = some (.int .i64 (L.cs.toNat : Int)) := lay_at rfl hcs
    generalize hFL : L.fl.toNat = FL at lfl hfl8
    generalize hCO : L.co.toNat = CO at lco hco32
    generalize hCM : L.cm.toNat = CM at lcm hcm16
    generalize hCS : L.cs.toNat = CS at lcs hcs4
    refine TC_reg ?_
    refine TL_q rfl rfl (QT_assign rfl rfl rfl) ?_
    refine TL_nil ?_
    refine TX_then ?_
    refine TC_block ?_
    refine TC_loop (γ := { i : Nat // i ≤ ys.length ∧ (ys.take i).all (fitS L) = true }) (fun u => [(1, true, .slice ad ys.length cap), (2, true, .pointer (some ⟨b2, 0, none⟩)), (6, true, .int .i64 (u.1 : Int))]) (fun u => St w0 ((b2, 27, L.cells) :: η)) (fun u => ys.length - u.1) ⟨0, Nat.zero_le _, rfl⟩ ⟨rfl, rfl, rfl, trivial⟩ (fun _ h => h) ?_
    rintro ⟨i, hin, hfit⟩
    dsimp only
    refine TC_seq ?_
    refine TC_seq ?_
    refine TC_reg ?_
    refine TL_q rfl rfl (QT_move rfl rfl rfl) ?_
    refine TL_q rfl rfl (QT_move rfl rfl rfl) ?_
    refine TL_q rfl rfl (QT_len rfl rfl Tryd.underlying31 rfl) ?_
    refine TL_q rfl rfl (QT_lss rfl rfl rfl rfl) ?_
    refine TL_nil ?_
    refine TX_then ?_
    first
      | refine TC_cond_dec rfl (fun h21 => ?_) (fun h21 => ?_)
      | refine TC_cond rfl (fun h21 => ?_) (fun h21 => ?_)
    ·
      have hi' : i < ys.length := by omega
      obtain ⟨y, hyi⟩ : ∃ y, ys[i]? = some y := ⟨_, List.getElem?_eq_getElem hi'⟩
      have hyF := hy y (List.mem_of_getElem? hyi)
      obtain ⟨hat1, hat2⟩ := flatS_at hy hyi
      have htk : ys.take (i + 1) = ys.take i ++ [y] := by rw [List.take_add_one, hyi]; rfl
      refine TC_skip ?_
      refine TX_then ?_
      refine TC_seq ?_
      refine TC_block ?_
      refine TC_seq ?_
      refine TC_draw [(0, 0), (1, 0), (2, 0), (3, 0), (4, 0), (5, 1), (6, 0)] YtlmbpdlobpcahaaDoorF.mixed (by kernel_rfl) (St.calm _ _) ?_
      refine TV_ql rfl rfl rfl (QT_loadW (cs := L.cells) 0 rfl rfl Tryd.underlying27 rfl rfl rfl YtlmbpdlobpcahaaDoorF.sz_27) ?_
      refine TV_q rfl rfl rfl (fun _ => QT_move rfl rfl rfl) ?_
      refine TV_q rfl rfl rfl (fun _ => QT_move rfl rfl rfl) ?_
      refine TV_q rfl rfl rfl (fun _ => QT_indexG i rfl rfl Tryd.underlying31 YtlmbpdlobpcahaaDoorF.sz_71 rfl rfl rfl (fun _ => hi') (fun _ => had (by omega))) ?_
      refine TV_ql rfl rfl rfl (QT_loadRAj (out := shV y) (i * 49) rfl rfl Tryd.underlying71 rfl YtlmbpdlobpcahaaDoorF.sz_71 (hrd.mono fun _ h => h.tail) rfl (fun _ => hat1) (fun _ => hat2)) ?_
      refine TV_cq rfl rfl rfl rfl rfl YtlmbpdlobpcahaaDoorF.cal_81 rfl (fun _ => room_spec w0 _ L hc.1 hty y hyF) (.drop (by kernel_rfl) (.drop (by kernel_rfl) (.nil))) ?_
      refine TV_q rfl rfl rfl (fun _ => QT_not rfl rfl rfl) ?_
      refine TV_end ?_
      refine TX_then ?_
      first
        | refine TC_cond_dec rfl (fun h30 => ?_) (fun h30 => ?_)
        | refine TC_cond rfl (fun h30 => ?_) (fun h30 => ?_)
      ·
        refine TC_seq ?_
        refine TC_reg ?_
        refine TL_q rfl rfl (QT_assign rfl rfl rfl) ?_
        refine TL_q rfl rfl (QT_assign rfl rfl rfl) ?_
        refine TL_nil ?_
        refine TX_then ?_
        refine TC_ret ?_
        refine TX_block_ret ?_
        refine TX_then_ret ?_
        refine TX_then_ret ?_
        refine TX_block_ret ?_
        refine TX_then_ret ?_
        have eP : errP L ys = 1 := by
          unfold errP
          rw [if_pos hc, if_neg]
          intro ha
          have := List.all_eq_true.1 ha y (List.mem_of_getElem? hyi)
          rw [this] at h30
          exact absurd h30 (by decide)
        exact TX_ret (.inl rfl) (res2 rfl rfl rfl) ⟨_, ⟨_, [], by rw [eP], fragNoneB eP (by decide), rfl⟩, fun _ h => h.tail⟩
      ·
        refine TC_skip ?_
        refine TX_block_normal ?_
        refine TX_then ?_
        refine TC_reg ?_
        refine TL_q rfl rfl (QT_move rfl rfl rfl) ?_
        refine TL_q rfl rfl (QT_add rfl rfl rfl rfl (fun _ => ⟨by omega, by omega⟩)) ?_
        refine TL_q rfl rfl (QT_assign rfl rfl rfl) ?_
        refine TL_nil ?_
        refine TX_round ⟨i + 1, hi', ?_⟩ (by show ys.length - (i + 1) < ys.length - i; omega) ⟨rfl, rfl, rfl, trivial⟩ (fun _ h => h)
        rw [htk, List.all_append, hfit]
        simpa using h30
    ·
      refine TC_exit ?_
      refine TX_then_exit ?_
      refine TX_then_exit ?_
      refine TX_block_here ?_
      refine TX_then ?_
      refine TC_seq ?_
      obtain rfl : i = ys.length := by omega
      rw [List.take_of_length_le (Nat.le_refl _)] at hfit
      have hfit1 := List.all_eq_true.1 hfit
      refine TC_reg ?_
      refine TL_q rfl rfl (QT_assign rfl rfl rfl) ?_
      refine TL_nil ?_
      refine TX_then ?_
      refine TC_seq ?_
      refine TC_seq ?_
      refine TC_reg ?_
      refine TL_q rfl rfl (QT_assign rfl rfl rfl) ?_
      refine TL_nil ?_
      refine TX_then ?_
      refine TC_block ?_
      refine TC_loop (γ := { t : Nat × Value × Heap // t.1 ≤ ys.length ∧ Frag 5 1 t.2.1 (bytesS L (ys.take t.1)).length (byV (bytesS L (ys.take t.1))) t.2.2 }) (fun u => [(1, true, .slice ad ys.length cap), (2, true, .pointer (some ⟨b2, 0, none⟩)), (7, true, u.1.2.1), (8, true, .int .i64 (u.1.1 : Int))]) (fun u => St w0 ((b2, 27, L.cells) :: (u.1.2.2 ++ η))) (fun u => ys.length - u.1.1) ⟨(0, .slice none 0 0, []), Nat.zero_le _, Frag.nil _ _⟩ ⟨rfl, rfl, rfl, rfl, trivial⟩ (fun _ h => h) ?_
      rintro ⟨⟨i, bv, H⟩, hin, hF⟩
      dsimp only at hin hF ⊢
      refine TC_seq ?_
      refine TC_seq ?_
      refine TC_reg ?_
      refine TL_q rfl rfl (QT_move rfl rfl rfl) ?_
      refine TL_q rfl rfl (QT_move rfl rfl rfl) ?_
      refine TL_q rfl rfl (QT_len rfl rfl Tryd.underlying31 rfl) ?_
      refine TL_q rfl rfl (QT_lss rfl rfl rfl rfl) ?_
      refine TL_nil ?_
      refine TX_then ?_
      first
        | refine TC_cond_dec rfl (fun h34 => ?_) (fun h34 => ?_)
        | refine TC_cond rfl (fun h34 => ?_) (fun h34 => ?_)
      ·
        have hi' : i < ys.length := by omega
        obtain ⟨y, hyi⟩ : ∃ y, ys[i]? = some y := ⟨_, List.getElem?_eq_getElem hi'⟩
        have hyF := hy y (List.mem_of_getElem? hyi)
        have hyfit := hfit1 y (List.mem_of_getElem? hyi)
        obtain rfl := had (by omega)
        have htk : ys.take (i + 1) = ys.take i ++ [y] := by rw [List.take_add_one, hyi]; rfl
        have hel := fun {p : Nat} (hp : p < 49) => flatS_elem hy hyi hp
        have hpk := packS_len (L := L) hyF
        have hb196 := bytesS_bd hc.1 hty (ys := ys.take i) fun z hz => hy z (List.mem_of_mem_take hz)
        have htl : (ys.take i).length = i := by rw [List.length_take]; omega
        rw [htl] at hb196
        obtain ⟨x0, X, rfl, h0, hX⟩ := hyF
        have hsz2 := (szN_pos hc.1 hty x0).2
        have hpl : (packS L (x0 :: X)).length ≤ 196 := by rw [hpk]; exact hsz2
        have hff : x0 < 2 ^ FL ∧ fitB (wS L x0) X = true := by
          unfold fitS at hyfit
          rw [← hFL]
          simpa only [List.headD_cons, fS, fitB, Bool.and_eq_true, decide_eq_true_eq] using hyfit
        obtain ⟨hff0, hffX⟩ := hff
        have hparts := fun A => parts_spec w0 A L (x0 : Int) (by omega)
        rw [(ptN_bd L x0).2.2, (clN_bd L x0).2.2] at hparts
        have hpt16 := ptN_bd L x0
        have hcl4 := clN_bd L x0
        have e0 : eK L x0 X 0 = bitsN FL x0 := by unfold eK; rw [List.take_zero, List.take_zero, hFL]; simp [enc]
        have hv0 : (flatS ys)[i * 49 + 0]? = some (.int .u8 (x0 : Int)) := by rw [hel (by decide)]; exact shV_at (xs := x0 :: X) (p := 0) (by decide) rfl
        have heL := fun k (hk : k ≤ 48) => eK_len (L := L) hc.1 hty (x0 := x0) hX.len hk
        have hLr := fun (K : Heap) => (Rd.own (w0 := w0) (η := (b2, 27, L.cells) :: (H ++ η)) 0 rfl).mono fun w (h : St w0 (K ++ ((b2, 27, L.cells) :: (H ++ η))) w) => h.app_right
        have hSr := fun (K : Heap) => hrd.mono fun w (h : St w0 (K ++ ((b2, 27, L.cells) :: (H ++ η))) w) => h.app_right.tail.app_right
        refine TC_skip ?_
        refine TX_then ?_
        refine TC_seq ?_
        refine TC_block ?_
        refine TC_seq ?_
        refine TC_reg ?_
        refine TL_e rfl rfl rfl (rfl) (ET_call rfl YtlmbpdlobpcahaaDoorF.cal_82 rfl (rnew_spec w0 _)) ?_
        rintro _ _ ⟨mb, K, rfl, hK, rfl⟩
        refine TL_q rfl rfl (QT_assign rfl rfl rfl) ?_
        refine TL_nil ?_
        refine TX_then ?_
        refine TC_seq ?_
        refine TC_draw [(0, 0), (1, 0), (2, 0), (3, 0), (4, 0), (5, 0), (6, 1), (7, 0), (8, 0), (9, 0), (10, 0), (11, 0)] YtlmbpdlobpcahaaDoorF.mixed (by kernel_rfl) (St.calm _ _) ?_
        refine TV_ql rfl rfl rfl (QT_loadRAj (cs := L.cells) (out := L.cells) 0 rfl rfl Tryd.underlying27 rfl YtlmbpdlobpcahaaDoorF.sz_27 (hLr _) rfl (fun _ => Nat.le_refl 18) (fun _ => rfl)) ?_
        refine TV_q rfl rfl rfl (fun _ => QT_move rfl rfl rfl) ?_
        refine TV_q rfl rfl rfl (fun _ => QT_move rfl rfl rfl) ?_
        refine TV_q rfl rfl rfl (fun _ => QT_indexG i rfl rfl Tryd.underlying31 YtlmbpdlobpcahaaDoorF.sz_71 rfl rfl rfl (fun _ => hi') (fun _ => rfl)) ?_
        refine TV_q rfl rfl rfl (fun _ => QT_field rfl rfl YtlmbpdlobpcahaaDoorF.fld_71_0 rfl) ?_
        refine TV_ql rfl rfl rfl (QT_loadRj (v := .int .u8 (x0 : Int)) (i * 49 + 0) rfl rfl Tryd.underlying5 rfl (hSr _) rfl (fun _ => hv0)) ?_
        refine TV_cq rfl rfl rfl rfl rfl YtlmbpdlobpcahaaDoorF.cal_34 rfl (fun _ => hparts _) (.drop (by kernel_rfl) (.drop (by kernel_rfl) (.nil))) ?_
        refine TV_q rfl rfl rfl (fun _ => QT_move rfl rfl rfl) ?_
        refine TV_q rfl rfl rfl (fun _ => QT_extract rfl rfl rfl rfl) ?_
        refine TV_q rfl rfl rfl (fun _ => QT_extract rfl rfl rfl rfl) ?_
        refine TV_q rfl rfl rfl (fun _ => QT_assign rfl rfl rfl) ?_
        refine TV_q rfl rfl rfl (fun _ => QT_assign rfl rfl rfl) ?_
        refine TV_end ?_
        refine TX_then ?_
        refine TC_seq ?_
        refine TC_draw [(0, 0), (1, 0), (2, 0), (3, 0), (4, 0), (5, 0), (6, 0), (7, 0), (8, 0), (9, 1)] YtlmbpdlobpcahaaDoorF.mixed (by kernel_rfl) (St.calm _ _) ?_
        refine TV_q rfl rfl rfl (fun _ => QT_move rfl rfl rfl) ?_
        refine TV_q rfl rfl rfl (fun _ => QT_move rfl rfl rfl) ?_
        refine TV_q rfl rfl rfl (fun _ => QT_move rfl rfl rfl) ?_
        refine TV_q rfl rfl rfl (fun _ => QT_indexG i rfl rfl Tryd.underlying31 YtlmbpdlobpcahaaDoorF.sz_71 rfl rfl rfl (fun _ => hi') (fun _ => rfl)) ?_
        refine TV_q rfl rfl rfl (fun _ => QT_field rfl rfl YtlmbpdlobpcahaaDoorF.fld_71_0 rfl) ?_
        refine TV_ql rfl rfl rfl (QT_loadRj (v := .int .u8 (x0 : Int)) (i * 49 + 0) rfl rfl Tryd.underlying5 rfl (hSr _) rfl (fun _ => hv0)) ?_
        refine TV_q rfl rfl rfl (fun _ => QT_convN rfl rfl Tryd.underlying5 Tryd.underlying62 rfl (IntWalk.u32_in _ ⟨by omega, by omega⟩)) ?_
        refine TV_q rfl rfl rfl (fun _ => QT_field rfl rfl YtlmbpdlobpcahaaDoorF.fld_27_3 rfl) ?_
        refine TV_ql rfl rfl rfl (QT_loadRj (v := .int .i64 (FL : Int)) 3 rfl rfl Tryd.underlying3 rfl (hLr _) rfl (fun _ => lfl)) ?_
        refine TV_e rfl rfl rfl rfl (rfl) (ET_call rfl YtlmbpdlobpcahaaDoorF.cal_83 rfl (rput_spec w0 _ K mb [] x0 FL hK (by omega) ⟨by omega, by omega⟩ (by decide))) ?_
        rintro _ _ ⟨K1, rfl, hK1, rfl⟩
        refine ⟨_, .drop (by kernel_rfl) (.keep (by kernel_rfl) rfl (by first | exact QT_loadRj (v := .int .u8 (x0 : Int)) (i * 49 + 0) rfl rfl Tryd.underlying5 rfl (hSr _) rfl (fun _ => hv0)) (.nil)), ?_⟩
        refine TV_end ?_
        refine TX_then ?_
        refine TC_seq ?_
        refine TC_seq ?_
        rw [putL_ok (by omega) hff0 (by show 0 + FL ≤ 524288; omega), List.nil_append, ← e0] at hK1
        refine TC_reg ?_
        refine TL_q rfl rfl (QT_assign rfl rfl rfl) ?_
        refine TL_nil ?_
        refine TX_then ?_
        refine TC_block ?_
        refine TC_loop (γ := { t : Nat × Heap // t.1 ≤ ptN L x0 ∧ RefAt mb (eK L x0 X (2 * t.1)) t.2 }) (fun u => [(1, true, .slice (some ⟨sb, so, none⟩) ys.length cap), (2, true, .pointer (some ⟨b2, 0, none⟩)), (7, true, bv), (8, true, .int .i64 (i : Int)), (9, true, .pointer (some ⟨mb, 0, none⟩)), (10, true, .int .i64 (ptN L x0 : Int)), (11, true, .int .i64 (clN L x0 : Int)), (12, true, .int .i64 (u.1.1 : Int))]) (fun u => St w0 (u.1.2 ++ ((b2, 27, L.cells) :: (H ++ η)))) (fun u => ptN L x0 - u.1.1) ⟨(0, K1), Nat.zero_le _, hK1⟩ ⟨rfl, rfl, rfl, rfl, rfl, rfl, rfl, rfl, trivial⟩ (fun _ h => h) ?_
        rintro ⟨⟨j, K2⟩, hj, hK2⟩
        dsimp only at hj hK2 ⊢
        refine TC_seq ?_
        refine TC_seq ?_
        refine TC_reg ?_
        refine TL_q rfl rfl (QT_move rfl rfl rfl) ?_
        refine TL_q rfl rfl (QT_move rfl rfl rfl) ?_
        refine TL_q rfl rfl (QT_lss rfl rfl rfl rfl) ?_
        refine TL_nil ?_
        refine TX_then ?_
        first
          | refine TC_cond_dec rfl (fun h60 => ?_) (fun h60 => ?_)
          | refine TC_cond rfl (fun h60 => ?_) (fun h60 => ?_)
        ·
          have hjp : j < ptN L x0 := by omega
          have hj16 : j < 16 := by omega
          have hw : wPt L x0 j = CO := by unfold wPt; rw [if_pos hjp, hCO]
          have w1 := wS_pt (L := L) (f := x0) hj16 (p := 2 * j) (.inl rfl)
          have w2 := wS_pt (L := L) (f := x0) hj16 (p := 2 * j + 1) (.inr rfl)
          rw [hw] at w1 w2
          obtain ⟨a, ha⟩ := get48 hX.len (show 2 * j < 48 by omega)
          obtain ⟨b, hb⟩ := get48 hX.len (show 2 * j + 1 < 48 by omega)
          have ha32 := hX.pt ha (by omega)
          have hb32 := hX.pt hb (by omega)
          have hfa := fitB_at hffX w1 ha
          have hfb := fitB_at hffX w2 hb
          have s1 := eK_step w1 ha
          have s2 := eK_step w2 hb
          have hu1 : skK (2 * j + 1) = .u32 := by unfold skK; rw [if_neg (by omega), if_pos (by omega)]
          have hu2 : skK (2 * j + 2) = .u32 := by unfold skK; rw [if_neg (by omega), if_pos (by omega)]
          have hva : (flatS ys)[i * 49 + (2 * j + 1)]? = some (.int .u32 (a : Int)) := by
            rw [hel (by omega), ← hu1]
            exact shV_at (xs := x0 :: X) (p := 2 * j + 1) (by omega) (by rw [List.getElem?_cons_succ]; exact ha)
          have hvb : (flatS ys)[i * 49 + (2 * j + 2)]? = some (.int .u32 (b : Int)) := by
            rw [hel (by omega), ← hu2]
            exact shV_at (xs := x0 :: X) (p := 2 * j + 2) (by omega) (by rw [List.getElem?_cons_succ]; exact hb)
          have hl1 := heL (2 * j) (by omega)
          have hl2 := heL (2 * j + 1) (by omega)
          refine TC_skip ?_
          refine TX_then ?_
          refine TC_seq ?_
          refine TC_block ?_
          refine TC_seq ?_
          refine TC_draw [(0, 0), (1, 0), (2, 0), (3, 0), (4, 0), (5, 0), (6, 0), (7, 0), (8, 0), (9, 0), (10, 0), (11, 1)] YtlmbpdlobpcahaaDoorF.mixed (by kernel_rfl) (St.calm _ _) ?_
          refine TV_q rfl rfl rfl (fun _ => QT_move rfl rfl rfl) ?_
          refine TV_q rfl rfl rfl (fun _ => QT_move rfl rfl rfl) ?_
          refine TV_q rfl rfl rfl (fun _ => QT_move rfl rfl rfl) ?_
          refine TV_q rfl rfl rfl (fun _ => QT_move rfl rfl rfl) ?_
          refine TV_q rfl rfl rfl (fun _ => QT_indexG i rfl rfl Tryd.underlying31 YtlmbpdlobpcahaaDoorF.sz_71 rfl rfl rfl (fun _ => hi') (fun _ => rfl)) ?_
          refine TV_q rfl rfl rfl (fun _ => QT_field rfl rfl YtlmbpdlobpcahaaDoorF.fld_71_1 rfl) ?_
          refine TV_q rfl rfl rfl (fun _ => QT_indexArr j rfl rfl Tryd.underlying65 YtlmbpdlobpcahaaDoorF.sz_64 rfl rfl rfl (fun _ => hj16)) ?_
          refine TV_q rfl rfl rfl (fun _ => QT_field rfl rfl YtlmbpdlobpcahaaDoorF.fld_64_0 rfl) ?_
          refine TV_ql rfl rfl rfl (QT_loadRj (v := .int .u32 (a : Int)) (i * 49 + (2 * j + 1)) rfl rfl Tryd.underlying62 rfl (hSr _) rfl (fun _ => hva)) ?_
          refine TV_q rfl rfl rfl (fun _ => QT_field rfl rfl YtlmbpdlobpcahaaDoorF.fld_27_1 rfl) ?_
          refine TV_ql rfl rfl rfl (QT_loadRj (v := .int .i64 (CO : Int)) 1 rfl rfl Tryd.underlying3 rfl (hLr _) rfl (fun _ => lco)) ?_
          refine TV_e rfl rfl rfl rfl (rfl) (ET_call rfl YtlmbpdlobpcahaaDoorF.cal_83 rfl (rput_spec w0 _ K2 mb _ a CO hK2 ha32 ⟨by omega, by omega⟩ (by omega))) ?_
          rintro _ _ ⟨K3, rfl, hK3, rfl⟩
          refine ⟨_, .drop (by kernel_rfl) (.drop (by kernel_rfl) (.nil)), ?_⟩
          refine TV_end ?_
          refine TX_then ?_
          rw [putL_ok hco32 hfa (by omega), ← s1] at hK3
          refine TC_draw [(0, 0), (1, 0), (2, 0), (3, 0), (4, 0), (5, 0), (6, 0), (7, 0), (8, 0), (9, 0), (10, 0), (11, 1)] YtlmbpdlobpcahaaDoorF.mixed (by kernel_rfl) (St.calm _ _) ?_
          refine TV_q rfl rfl rfl (fun _ => QT_move rfl rfl rfl) ?_
          refine TV_q rfl rfl rfl (fun _ => QT_move rfl rfl rfl) ?_
          refine TV_q rfl rfl rfl (fun _ => QT_move rfl rfl rfl) ?_
          refine TV_q rfl rfl rfl (fun _ => QT_move rfl rfl rfl) ?_
          refine TV_q rfl rfl rfl (fun _ => QT_indexG i rfl rfl Tryd.underlying31 YtlmbpdlobpcahaaDoorF.sz_71 rfl rfl rfl (fun _ => hi') (fun _ => rfl)) ?_
          refine TV_q rfl rfl rfl (fun _ => QT_field rfl rfl YtlmbpdlobpcahaaDoorF.fld_71_1 rfl) ?_
          refine TV_q rfl rfl rfl (fun _ => QT_indexArr j rfl rfl Tryd.underlying65 YtlmbpdlobpcahaaDoorF.sz_64 rfl rfl rfl (fun _ => hj16)) ?_
          refine TV_q rfl rfl rfl (fun _ => QT_field rfl rfl YtlmbpdlobpcahaaDoorF.fld_64_1 rfl) ?_
          refine TV_ql rfl rfl rfl (QT_loadRj (v := .int .u32 (b : Int)) (i * 49 + (2 * j + 2)) rfl rfl Tryd.underlying62 rfl (hSr _) rfl (fun _ => hvb)) ?_
          refine TV_q rfl rfl rfl (fun _ => QT_field rfl rfl YtlmbpdlobpcahaaDoorF.fld_27_1 rfl) ?_
          refine TV_ql rfl rfl rfl (QT_loadRj (v := .int .i64 (CO : Int)) 1 rfl rfl Tryd.underlying3 rfl (hLr _) rfl (fun _ => lco)) ?_
          refine TV_e rfl rfl rfl rfl (rfl) (ET_call rfl YtlmbpdlobpcahaaDoorF.cal_83 rfl (rput_spec w0 _ K3 mb _ b CO hK3 hb32 ⟨by omega, by omega⟩ (by omega))) ?_
          rintro _ _ ⟨K4, rfl, hK4, rfl⟩
          refine ⟨_, .drop (by kernel_rfl) (.drop (by kernel_rfl) (.nil)), ?_⟩
          refine TV_end ?_
          refine TX_block_normal ?_
          refine TX_then ?_
          rw [putL_ok hco32 hfb (by omega), ← s2] at hK4
          refine TC_reg ?_
          refine TL_q rfl rfl (QT_move rfl rfl rfl) ?_
          refine TL_q rfl rfl (QT_add rfl rfl rfl rfl (fun _ => ⟨by omega, by omega⟩)) ?_
          refine TL_q rfl rfl (QT_assign rfl rfl rfl) ?_
          refine TL_nil ?_
          exact TX_round ⟨(j + 1, K4), hjp, hK4⟩ (by show ptN L x0 - (j + 1) < ptN L x0 - j; omega) ⟨rfl, rfl, rfl, rfl, rfl, rfl, rfl, rfl, trivial⟩ (fun _ h => h)
        ·
          refine TC_exit ?_
          refine TX_then_exit ?_
          refine TX_then_exit ?_
          refine TX_block_here ?_
          refine TX_then ?_
          refine TC_seq ?_
          refine TC_seq ?_
          obtain rfl : j = ptN L x0 := by omega
          have k1 := eK_skip (L := L) (x0 := x0) hX.len (2 * ptN L x0) (32 - 2 * ptN L x0) (by omega) fun p h1 h2 => skip_pt h1 (by omega)
          rw [show 2 * ptN L x0 + (32 - 2 * ptN L x0) = 32 by omega] at k1
          rw [← k1] at hK2
          refine TC_reg ?_
          refine TL_q rfl rfl (QT_assign rfl rfl rfl) ?_
          refine TL_nil ?_
          refine TX_then ?_
          refine TC_block ?_
          refine TC_loop (γ := { t : Nat × Heap // t.1 ≤ clN L x0 ∧ RefAt mb (eK L x0 X (32 + 4 * t.1)) t.2 }) (fun u => [(1, true, .slice (some ⟨sb, so, none⟩) ys.length cap), (2, true, .pointer (some ⟨b2, 0, none⟩)), (7, true, bv), (8, true, .int .i64 (i : Int)), (9, true, .pointer (some ⟨mb, 0, none⟩)), (11, true, .int .i64 (clN L x0 : Int)), (13, true, .int .i64 (u.1.1 : Int))]) (fun u => St w0 (u.1.2 ++ ((b2, 27, L.cells) :: (H ++ η)))) (fun u => clN L x0 - u.1.1) ⟨(0, K2), Nat.zero_le _, hK2⟩ ⟨rfl, rfl, rfl, rfl, rfl, rfl, rfl, trivial⟩ (fun _ h => h) ?_
          rintro ⟨⟨c, K5⟩, hcc, hK5⟩
          dsimp only at hcc hK5 ⊢
          refine TC_seq ?_
          refine TC_seq ?_
          refine TC_reg ?_
          refine TL_q rfl rfl (QT_move rfl rfl rfl) ?_
          refine TL_q rfl rfl (QT_move rfl rfl rfl) ?_
          refine TL_q rfl rfl (QT_lss rfl rfl rfl rfl) ?_
          refine TL_nil ?_
          refine TX_then ?_
          first
            | refine TC_cond_dec rfl (fun h89 => ?_) (fun h89 => ?_)
            | refine TC_cond rfl (fun h89 => ?_) (fun h89 => ?_)
          ·
            have hc4 : c < clN L x0 := by omega
            refine TC_skip ?_
            refine TX_then ?_
            refine TC_seq ?_
            refine TC_block ?_
            refine TC_seq ?_
            refine TC_reg ?_
            refine TL_q rfl rfl (QT_assign rfl rfl rfl) ?_
            refine TL_nil ?_
            refine TX_then ?_
            refine TC_block ?_
            refine TC_loop (γ := { t : Nat × Heap // t.1 ≤ CS ∧ RefAt mb (eK L x0 X (32 + 4 * c + t.1)) t.2 }) (fun u => [(1, true, .slice (some ⟨sb, so, none⟩) ys.length cap), (2, true, .pointer (some ⟨b2, 0, none⟩)), (7, true, bv), (8, true, .int .i64 (i : Int)), (9, true, .pointer (some ⟨mb, 0, none⟩)), (11, true, .int .i64 (clN L x0 : Int)), (13, true, .int .i64 (c : Int)), (14, true, .int .i64 (u.1.1 : Int))]) (fun u => St w0 (u.1.2 ++ ((b2, 27, L.cells) :: (H ++ η)))) (fun u => CS - u.1.1) ⟨(0, K5), Nat.zero_le _, hK5⟩ ⟨rfl, rfl, rfl, rfl, rfl, rfl, rfl, rfl, trivial⟩ (fun _ h => h) ?_
            rintro ⟨⟨d, K6⟩, hdd, hK6⟩
            dsimp only at hdd hK6 ⊢
            refine TC_seq ?_
            refine TC_seq ?_
            refine TC_reg ?_
            refine TL_q rfl rfl (QT_move rfl rfl rfl) ?_
            refine TL_q rfl rfl (QT_field rfl rfl YtlmbpdlobpcahaaDoorF.fld_27_4 rfl) ?_
            refine TL_q rfl rfl (QT_loadRj (v := .int .i64 (CS : Int)) 4 rfl rfl Tryd.underlying3 rfl (hLr _) rfl (fun _ => lcs)) ?_
            refine TL_q rfl rfl (QT_lss rfl rfl rfl rfl) ?_
            refine TL_nil ?_
            refine TX_then ?_
            first
              | refine TC_cond_dec rfl (fun h95 => ?_) (fun h95 => ?_)
              | refine TC_cond rfl (fun h95 => ?_) (fun h95 => ?_)
            ·
              have hd : d < CS := by omega
              have hw : wCl L x0 (4 * c + d) = CM := by unfold wCl; rw [show (4 * c + d) / 4 = c by omega, show (4 * c + d) % 4 = d by omega, if_pos ⟨hc4, by omega⟩, hCM]
              have w1 : (wS L x0)[32 + 4 * c + d]? = some (CM, 65536) := by rw [Nat.add_assoc, wS_cl (by omega), hw]
              obtain ⟨a, ha⟩ := get48 hX.len (show 32 + 4 * c + d < 48 by omega)
              have ha16 := hX.cl ha (by omega)
              have hfa := fitB_at hffX w1 ha
              have s1 := eK_step w1 ha
              have hu1 : skK (32 + 4 * c + d + 1) = .u16 := by unfold skK; rw [if_neg (by omega), if_neg (by omega)]
              have hva : (flatS ys)[i * 49 + (32 + 4 * c + d + 1)]? = some (.int .u16 (a : Int)) := by
                rw [hel (by omega), ← hu1]
                exact shV_at (xs := x0 :: X) (p := 32 + 4 * c + d + 1) (by omega) (by rw [List.getElem?_cons_succ]; exact ha)
              have hl1 := heL (32 + 4 * c + d) (by omega)
              refine TC_skip ?_
              refine TX_then ?_
              refine TC_seq ?_
              refine TC_block ?_
              refine TC_draw [(0, 0), (1, 0), (2, 0), (3, 0), (4, 0), (5, 0), (6, 0), (7, 0), (8, 0), (9, 0), (10, 0), (11, 0), (12, 0), (13, 1)] YtlmbpdlobpcahaaDoorF.mixed (by kernel_rfl) (St.calm _ _) ?_
              refine TV_q rfl rfl rfl (fun _ => QT_move rfl rfl rfl) ?_
              refine TV_q rfl rfl rfl (fun _ => QT_move rfl rfl rfl) ?_
              refine TV_q rfl rfl rfl (fun _ => QT_move rfl rfl rfl) ?_
              refine TV_q rfl rfl rfl (fun _ => QT_move rfl rfl rfl) ?_
              refine TV_q rfl rfl rfl (fun _ => QT_move rfl rfl rfl) ?_
              refine TV_q rfl rfl rfl (fun _ => QT_indexG i rfl rfl Tryd.underlying31 YtlmbpdlobpcahaaDoorF.sz_71 rfl rfl rfl (fun _ => hi') (fun _ => rfl)) ?_
              refine TV_q rfl rfl rfl (fun _ => QT_field rfl rfl YtlmbpdlobpcahaaDoorF.fld_71_2 rfl) ?_
              refine TV_q rfl rfl rfl (fun _ => QT_indexArr c rfl rfl Tryd.underlying69 YtlmbpdlobpcahaaDoorF.sz_68 rfl rfl rfl (fun _ => by omega)) ?_
              refine TV_q rfl rfl rfl (fun _ => QT_indexArr d rfl rfl Tryd.underlying68 YtlmbpdlobpcahaaDoorF.sz_66 rfl rfl rfl (fun _ => by omega)) ?_
              refine TV_ql rfl rfl rfl (QT_loadRj (v := .int .u16 (a : Int)) (i * 49 + (32 + 4 * c + d + 1)) rfl rfl Tryd.underlying66 rfl (hSr _) rfl (fun _ => hva)) ?_
              refine TV_q rfl rfl rfl (fun _ => QT_convN rfl rfl Tryd.underlying66 Tryd.underlying62 rfl (IntWalk.u32_in _ ⟨by omega, by omega⟩)) ?_
              refine TV_q rfl rfl rfl (fun _ => QT_field rfl rfl YtlmbpdlobpcahaaDoorF.fld_27_2 rfl) ?_
              refine TV_ql rfl rfl rfl (QT_loadRj (v := .int .i64 (CM : Int)) 2 rfl rfl Tryd.underlying3 rfl (hLr _) rfl (fun _ => lcm)) ?_
              refine TV_e rfl rfl rfl rfl (rfl) (ET_call rfl YtlmbpdlobpcahaaDoorF.cal_83 rfl (rput_spec w0 _ K6 mb _ a CM hK6 (by omega) ⟨by omega, by omega⟩ (by omega))) ?_
              rintro _ _ ⟨K7, rfl, hK7, rfl⟩
              refine ⟨_, .drop (by kernel_rfl) (.keep (by kernel_rfl) rfl (by first | exact QT_loadRj (v := .int .u16 (a : Int)) (i * 49 + (32 + 4 * c + d + 1)) rfl rfl Tryd.underlying66 rfl (hSr _) rfl (fun _ => hva)) (.nil)), ?_⟩
              refine TV_end ?_
              refine TX_block_normal ?_
              refine TX_then ?_
              rw [putL_ok (by omega) hfa (by omega), ← s1] at hK7
              refine TC_reg ?_
              refine TL_q rfl rfl (QT_move rfl rfl rfl) ?_
              refine TL_q rfl rfl (QT_add rfl rfl rfl rfl (fun _ => ⟨by omega, by omega⟩)) ?_
              refine TL_q rfl rfl (QT_assign rfl rfl rfl) ?_
              refine TL_nil ?_
              exact TX_round ⟨(d + 1, K7), hd, hK7⟩ (by show CS - (d + 1) < CS - d; omega) ⟨rfl, rfl, rfl, rfl, rfl, rfl, rfl, rfl, trivial⟩ (fun _ h => h)
            ·
              refine TC_exit ?_
              refine TX_then_exit ?_
              refine TX_then_exit ?_
              refine TX_block_here ?_
              refine TX_block_normal ?_
              refine TX_then ?_
              obtain rfl : d = CS := by omega
              have k3 := eK_skip (L := L) (x0 := x0) hX.len (32 + 4 * c + d) (4 - d) (by omega) fun p h1 h2 => skip_cl (c := c) (by omega) (by omega) (.inr (by omega))
              rw [show 32 + 4 * c + d + (4 - d) = 32 + 4 * (c + 1) by omega] at k3
              rw [← k3] at hK6
              refine TC_reg ?_
              refine TL_q rfl rfl (QT_move rfl rfl rfl) ?_
              refine TL_q rfl rfl (QT_add rfl rfl rfl rfl (fun _ => ⟨by omega, by omega⟩)) ?_
              refine TL_q rfl rfl (QT_assign rfl rfl rfl) ?_
              refine TL_nil ?_
              exact TX_round ⟨(c + 1, K6), hc4, hK6⟩ (by show clN L x0 - (c + 1) < clN L x0 - c; omega) ⟨rfl, rfl, rfl, rfl, rfl, rfl, rfl, trivial⟩ (fun _ h => h)
          ·
            refine TC_exit ?_
            refine TX_then_exit ?_
            refine TX_then_exit ?_
            refine TX_block_here ?_
            refine TX_then ?_
            obtain rfl : c = clN L x0 := by omega
            have k5 := eK_skip (L := L) (x0 := x0) hX.len (32 + 4 * clN L x0) (48 - (32 + 4 * clN L x0)) (by omega) fun p h1 h2 => skip_cl (c := 0) (by omega) (by omega) (.inl (by omega))
            rw [show 32 + 4 * clN L x0 + (48 - (32 + 4 * clN L x0)) = 48 by omega, eK_all hX.len] at k5
            rw [← k5] at hK5
            have hl5 : (encS L (x0 :: X)).length ≤ 1568 := by rw [← eK_all hX.len]; exact heL 48 (Nat.le_refl _)
            have hbx := RefAt.bytesX (w0 := w0) ((b2, 27, L.cells) :: (H ++ η)) hK5 (by omega)
            rw [show packB (encS L (x0 :: X)) = packS L (x0 :: X) from rfl] at hbx
            refine TC_reg ?_
            refine TL_q rfl rfl (QT_move rfl rfl rfl) ?_
            refine TL_q rfl rfl (QT_move rfl rfl rfl) ?_
            refine TL_e rfl rfl rfl (rfl) (ET_call rfl YtlmbpdlobpcahaaDoorF.cal_84 rfl (hbx)) ?_
            rintro nv _ ⟨H2, hF2, rfl⟩
            refine TL_e rfl rfl rfl (rfl) (ET_appendL (η := η) (L := H2 ++ [(b2, 27, L.cells)]) rfl Tryd.underlying28 el_Byte rfl rfl hF (fun w h => h.cnt fun p => by simp only [List.countP_append, List.countP_cons, List.countP_nil]; omega) (hF2.within fun p => by simp only [List.countP_append]; omega) (byV_ints (packB_lt _)).oneCell (by omega) (by omega)) ?_
            rintro bv2 _ ⟨H', hF', rfl⟩
            refine TL_q rfl rfl (QT_assign rfl rfl rfl) ?_
            refine TL_nil ?_
            refine TX_block_normal ?_
            refine TX_then ?_
            refine TC_reg ?_
            refine TL_q rfl rfl (QT_move rfl rfl rfl) ?_
            refine TL_q rfl rfl (QT_add rfl rfl rfl rfl (fun _ => ⟨by omega, by omega⟩)) ?_
            refine TL_q rfl rfl (QT_assign rfl rfl rfl) ?_
            refine TL_nil ?_
            refine TX_round ⟨(i + 1, bv2, H'), hi', ?_⟩ (by show ys.length - (i + 1) < ys.length - i; omega) ⟨rfl, rfl, rfl, rfl, trivial⟩ (fun w h => h.cnt fun p => by simp only [List.countP_append, List.countP_cons, List.countP_nil]; omega)
            have e : bytesS L (ys.take (i + 1)) = bytesS L (ys.take i) ++ packS L (x0 :: X) := by rw [htk, bytesS_append]; simp [bytesS]
            show Frag _ 1 _ (bytesS L (ys.take (i + 1))).length (byV (bytesS L (ys.take (i + 1)))) H'
            rw [e, List.length_append, byV_append]
            exact hF'
      ·
        refine TC_exit ?_
        refine TX_then_exit ?_
        refine TX_then_exit ?_
        refine TX_block_here ?_
        refine TX_then ?_
        refine TC_seq ?_
        refine TC_seq ?_
        obtain rfl : i = ys.length := by omega
        rw [List.take_of_length_le (Nat.le_refl _)] at hF
        obtain ⟨bad, bcap, rfl, _, _⟩ := hF.slice
        refine TC_reg ?_
        refine TL_q rfl rfl (QT_move rfl rfl rfl) ?_
        refine TL_q rfl rfl (QT_len rfl rfl Tryd.underlying28 rfl) ?_
        refine TL_q rfl rfl (QT_gtr rfl rfl rfl rfl) ?_
        refine TL_nil ?_
        refine TX_then ?_
        first
          | refine TC_cond_dec rfl (fun h118 => ?_) (fun h118 => ?_)
          | refine TC_cond rfl (fun h118 => ?_) (fun h118 => ?_)
        ·
          refine TC_seq ?_
          refine TC_reg ?_
          refine TL_q rfl rfl (QT_assign rfl rfl rfl) ?_
          refine TL_q rfl rfl (QT_assign rfl rfl rfl) ?_
          refine TL_nil ?_
          refine TX_then ?_
          refine TC_ret ?_
          refine TX_then_ret ?_
          have eP : errP L ys = 3 := by unfold errP; rw [if_pos hc, if_pos hfit, if_pos (by omega)]
          exact TX_ret (.inl rfl) (res2 rfl rfl rfl) ⟨_, ⟨_, [], by rw [eP], fragNoneB eP (by decide), rfl⟩, fun w h => h.tail.app_right⟩
        ·
          refine TC_skip ?_
          refine TX_then ?_
          refine TC_seq ?_
          refine TC_reg ?_
          refine TL_q rfl rfl (QT_move rfl rfl rfl) ?_
          refine TL_q rfl rfl (QT_assign rfl rfl rfl) ?_
          refine TL_q rfl rfl (QT_assign rfl rfl rfl) ?_
          refine TL_nil ?_
          refine TX_then ?_
          refine TC_ret ?_
          have eP : errP L ys = 0 := by unfold errP; rw [if_pos hc, if_pos hfit, if_neg (by omega)]
          exact TX_ret (.inl rfl) (res2 rfl rfl rfl) ⟨_, ⟨_, H, by rw [eP], by unfold outP; rw [if_pos eP]; exact hF, rfl⟩, fun _ h => h.tail⟩
end Go.Proofs.YtlmbpdlobpcahaaDoor

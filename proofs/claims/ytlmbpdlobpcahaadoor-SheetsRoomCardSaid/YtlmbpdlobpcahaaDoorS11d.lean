/- A WHOLE SHEET through a hand. -/
import Derived.Test.YtlmbpdlobpcahaaDoorS11c
namespace Go.Proofs.YtlmbpdlobpcahaaDoor
open Go Go.Gx Go.RowKit
set_option maxRecDepth 100000
section
variable {w0 : World} {S : Type} {t : TypeId} {r : Value} {f : FuncId} {go : S → Nat → Nat → Nat × S} {sz : S → Nat} {Rep : S → Heap → Prop} {Ok : Heap → Prop}
theorem run_grow (hg : ∀ s v w, sz (go s v w).2 ≤ sz s + w) : ∀ (ws : Ws) (xs : List Nat) (s : S), (∀ p ∈ ws, p.1 ≤ 32) → sz (run go ws xs s).2 ≤ sz s + 32 * ws.length
  | [], _, s, _ => by unfold run; exact Nat.le_add_right ..
  | _ :: _, [], s, _ => by unfold run; exact Nat.le_add_right ..
  | (w, m) :: ws, x :: xs, s, h => by
    rw [run]
    have h1 := hg s x w
    have h2 := run_grow hg ws xs (go s x w).2 fun p hp => h p (List.mem_cons_of_mem _ hp)
    have h3 : w ≤ 32 := h _ (List.mem_cons_self ..)
    rw [List.length_cons]
    show sz (run go ws xs (go s x w).2).2 ≤ _
    omega
/-- when k of the numbers behind the flag are through -/
def rk (go : S → Nat → Nat → Nat × S) (L : Lay) (fl : Nat) (X : List Nat) (s : S) (k : Nat) : List Nat × S := run go ((wS L fl).take k) (X.take k) s
def cellsK (go : S → Nat → Nat → Nat × S) (L : Lay) (fl : Nat) (X : List Nat) (s : S) (k : Nat) : List Value := shV (fl :: ((rk go L fl X s k).1 ++ X.drop k))
theorem rk_len {L : Lay} {fl k : Nat} {X : List Nat} {s : S} (h : X.length = 48) (hk : k ≤ 48) : (rk go L fl X s k).1.length = k := by
  rw [rk, run_len (by rw [List.length_take, List.length_take, wS_len, h]), List.length_take, h]; omega
theorem rk_sz (hg : ∀ s v w, sz (go s v w).2 ≤ sz s + w) {L : Lay} (hk : okB L = true) (fl k : Nat) (X : List Nat) (s : S) : sz (rk go L fl X s k).2 ≤ sz s + 1536 := by
  have := run_grow hg ((wS L fl).take k) (X.take k) s fun p hp => wS_le hk fl p (List.mem_of_mem_take hp)
  have h2 : ((wS L fl).take k).length ≤ 48 := by rw [List.length_take, wS_len]; omega
  unfold rk
  omega
theorem rk_zero {L : Lay} {fl : Nat} {X : List Nat} {s : S} : rk go L fl X s 0 = ([], s) := by unfold rk; rw [List.take_zero]; rfl
theorem cellsK_zero {L : Lay} {fl : Nat} {X : List Nat} {s : S} : cellsK go L fl X s 0 = shV (fl :: X) := by unfold cellsK; rw [rk_zero]; rfl
theorem cellsK_all {L : Lay} {fl : Nat} {X : List Nat} {s : S} (h : X.length = 48) : cellsK go L fl X s 48 = shV (fl :: (run go (wS L fl) X s).1) := by
  unfold cellsK rk
  rw [List.take_of_length_le (by rw [wS_len]; exact Nat.le_refl _), List.take_of_length_le (by omega), List.drop_eq_nil_of_le (by omega), List.append_nil]
theorem rk_all {L : Lay} {fl : Nat} {X : List Nat} {s : S} (h : X.length = 48) : rk go L fl X s 48 = run go (wS L fl) X s := by
  unfold rk
  rw [List.take_of_length_le (by rw [wS_len]; exact Nat.le_refl _), List.take_of_length_le (by omega)]
theorem rk_step {L : Lay} {fl k w m x : Nat} {X : List Nat} {s : S} (h : X.length = 48) (hw : (wS L fl)[k]? = some (w, m)) (hx : X[k]? = some x) :
    (rk go L fl X s (k + 1)).2 = (go (rk go L fl X s k).2 x w).2 ∧ setAt (cellsK go L fl X s k) (k + 1) [.int (skK (k + 1)) (((go (rk go L fl X s k).2 x w).1 % m : Nat) : Int)] = cellsK go L fl X s (k + 1) := by
  have hk : k < X.length := (List.getElem?_eq_some_iff.1 hx).1
  have e := run_step (go := go) (s := s) hw hx
  constructor
  · show (run go ((wS L fl).take (k + 1)) (X.take (k + 1)) s).2 = _
    rw [e]; rfl
  · unfold cellsK
    rw [shV_mid (rk_len h (by omega)) hk (by omega)]
    show _ = shV (fl :: ((run go ((wS L fl).take (k + 1)) (X.take (k + 1)) s).1 ++ X.drop (k + 1)))
    rw [e]; rfl
theorem cellsK_at {L : Lay} {fl k x : Nat} {X : List Nat} {s : S} (h : X.length = 48) (hx : X[k]? = some x) : (cellsK go L fl X s k)[k + 1]? = some (.int (skK (k + 1)) (x : Int)) := by
  have hk : k < X.length := (List.getElem?_eq_some_iff.1 hx).1
  exact shV_mid_at (rk_len h (by omega)) hx (by omega)
theorem get48 {X : List Nat} (h : X.length = 48) {k : Nat} (hk : k < 48) : ∃ x, X[k]? = some x := ⟨_, List.getElem?_eq_getElem (by omega)⟩
/-- a point's number -/
theorem go_pt (h : HandOk w0 t r f go sz Rep Ok) {L : Lay} (hok : okB L = true) (Z η K : Heap) {fl : Nat} {X : List Nat} (hX : Sh X) (s : S) (sb i k off : Nat) (hi : i < 16) (hk : k = 2 * i ∨ k = 2 * i + 1) (ho : off = k + 1) (hO : Ok η) (hK : Rep (rk go L fl X s k).2 K) (hs : sz s ≤ 2000) :
    CallsT Tryd.prog f [r, .pointer (some ⟨sb, off, none⟩), .int .i64 (wPt L fl i : Int)] (St w0 ((sb, 71, cellsK go L fl X s k) :: (Z ++ (K ++ η)))) fun z A' => z = .tuple #[] ∧ ∃ K', Rep (rk go L fl X s (k + 1)).2 K' ∧ A' = St w0 ((sb, 71, cellsK go L fl X s (k + 1)) :: (Z ++ (K' ++ η))) := by
  subst ho
  obtain ⟨x, hx⟩ := get48 hX.len (show k < 48 by omega)
  have hu : skK (k + 1) = .u32 := by unfold skK; rw [if_neg (by omega), if_pos (by omega)]
  have hat := cellsK_at (go := go) (L := L) (fl := fl) (s := s) hX.len hx
  rw [hu] at hat
  have hx32 := hX.pt hx (by omega)
  have hsz := rk_sz h.grow hok fl k X s
  obtain ⟨e1, e2⟩ := rk_step (go := go) (s := s) hX.len (wS_pt (L := L) (f := fl) hi hk) hx
  rw [hu, Nat.mod_eq_of_lt (h.lt _ _ _ hx32)] at e2
  refine (h.deep Z η K _ sb 71 _ (k + 1) x (wPt L fl i) hO hK (by omega) hat hx32 (wPt_le hok ..)).mono ?_
  rintro z A' ⟨hz, K', hK', rfl⟩
  exact ⟨_, ⟨hz, K', by rw [e1]; exact hK', rfl⟩, fun w h => by rw [e2] at h; exact h⟩
/-- a colour's number -/
theorem go_cl (h : HandOk w0 t r f go sz Rep Ok) {L : Lay} (hok : okB L = true) (Z η K : Heap) {fl : Nat} {X : List Nat} (hX : Sh X) (s : S) (sb j k off : Nat) (hj : j < 16) (hk : k = 32 + j) (ho : off = k + 1) (hO : Ok η) (hK : Rep (rk go L fl X s k).2 K) (hs : sz s ≤ 2000) :
    CallsT Tryd.prog 92 [.iface t r, .pointer (some ⟨sb, off, none⟩), .int .i64 (wCl L fl j : Int)] (St w0 ((sb, 71, cellsK go L fl X s k) :: (Z ++ (K ++ η)))) fun z A' => z = .tuple #[] ∧ ∃ K', Rep (rk go L fl X s (k + 1)).2 K' ∧ A' = St w0 ((sb, 71, cellsK go L fl X s (k + 1)) :: (Z ++ (K' ++ η))) := by
  subst ho
  subst hk
  obtain ⟨x, hx⟩ := get48 hX.len (show 32 + j < 48 by omega)
  have hu : skK (32 + j + 1) = .u16 := by unfold skK; rw [if_neg (by omega), if_neg (by omega)]
  have hat := cellsK_at (go := go) (L := L) (fl := fl) (s := s) hX.len hx
  rw [hu] at hat
  have hx16 := hX.cl hx (by omega)
  have hsz := rk_sz h.grow hok fl (32 + j) X s
  obtain ⟨e1, e2⟩ := rk_step (go := go) (s := s) hX.len (wS_cl (L := L) (f := fl) hj) hx
  rw [hu] at e2
  refine (bent_uint16 h Z η K _ sb 71 _ (32 + j + 1) x (wCl L fl j) hO hK (by omega) hat hx16 (Nat.le_trans (wCl_le hok ..) (by decide))).mono ?_
  rintro z A' ⟨hz, K', hK', rfl⟩
  exact ⟨_, ⟨hz, K', by rw [e1]; exact hK', rfl⟩, fun w h => by rw [e2] at h; exact h⟩
theorem fl_set {x0 v : Nat} {X : List Nat} : setAt (shV (x0 :: X)) 0 [.int .u8 (v : Int)] = shV (v :: X) := shV_set (xs := x0 :: X) (p := 0) (by decide)
set_option maxHeartbeats 1000000 in
theorem through_spec (h : HandOk w0 t r f go sz Rep Ok) (η K : Heap) (L : Lay) (hok : okB L = true) (hty : L.ty = 6 ∨ L.ty = 7) (s : S) (sb x0 : Nat) (X : List Nat) (h0 : x0 < 256) (hX : Sh X) (hO : Ok η) (hK : Rep s K) (hs : sz s ≤ 1000) :
    CallsT Tryd.prog 29 [L.val, .pointer (some ⟨sb, 0, none⟩), .iface t r] (St w0 ((sb, 71, shV (x0 :: X)) :: (K ++ η))) fun z A' => z = .tuple #[] ∧ ∃ K', Rep (thr go L x0 X s).2 K' ∧ A' = St w0 ((sb, 71, shV (thr go L x0 X s).1) :: (K' ++ η)) := by
  have hbd := okB_bounds hok
  have hfl : (L.fl.toNat : Int) = L.fl := by have := hbd.2.2.2.2.2 (by omega); omega
  have hco : (L.co.toNat : Int) = L.co := by have := hbd.1; omega
  have hcm : (L.cm.toNat : Int) = L.cm := by have := hbd.2.1; omega
  have hcs : (L.cs.toNat : Int) = L.cs := by have := hbd.2.2.1; omega
  have hfl8 : L.fl.toNat ≤ 8 := by have := hbd.2.2.2.2.2 (by omega); omega
  have hbent := fun b => bent_uint8 h [(b, 27, L.cells)] η K s sb 71 (shV (x0 :: X)) 0 x0 L.fl.toNat hO hK (by omega) (shV_at (xs := x0 :: X) (p := 0) (by decide) rfl) h0 (by omega)
  have hg := h.grow s x0 L.fl.toNat
  generalize hgo : go s x0 L.fl.toNat = g at hbent hg
  obtain ⟨v1, s1⟩ := g
  obtain ⟨fl, hflag⟩ : ∃ fl, fl = v1 % 256 := ⟨_, rfl⟩
  have hfl256 : fl < 256 := by rw [hflag]; exact Nat.mod_lt _ (by decide)
  have ethr : thr go L x0 X s = (fl :: (run go (wS L fl) X s1).1, (run go (wS L fl) X s1).2) := by
    unfold thr; rw [hgo, hflag]
  rw [ethr]
  have hs1 : sz s1 ≤ 2000 := by simp only at hg; omega
  dsimp only at hbent
  rw [← hflag] at hbent
  simp only [fl_set, hfl] at hbent
  refine CallsT.body Tryd.func29 rfl rfl ?_
  simp only [Tryd.ntmps29, slotsOf, Nat.reduceAdd]
  refine TC_seq ?_
  refine TC_reg ?_
  refine TL_e rfl rfl rfl (rfl) (ET_box rfl rfl) ?_
  rintro _ _ ⟨b3, rfl, rfl⟩
  refine TL_nil ?_
  refine TX_then ?_
  refine TC_seq ?_
  refine TC_A (St w0 ((sb, 71, shV (x0 :: X)) :: (b3, 27, L.cells) :: (K ++ η))) (fun w h => h.swap) ?_
  refine TC_draw [(0, 0), (1, 0), (2, 0), (3, 0), (4, 0), (5, 0), (6, 1)] YtlmbpdlobpcahaaDoorF.mixed (by kernel_rfl) (St.calm _ _) ?_
  refine TV_q rfl rfl rfl (fun _ => QT_move rfl rfl rfl) ?_
  refine TV_q rfl rfl rfl (fun _ => QT_move rfl rfl rfl) ?_
  refine TV_q rfl rfl rfl (fun _ => QT_nilCheck rfl rfl rfl) ?_
  refine TV_q rfl rfl rfl (fun _ => QT_field rfl rfl YtlmbpdlobpcahaaDoorF.fld_71_0 rfl) ?_
  refine TV_q rfl rfl rfl (fun _ => QT_field rfl rfl YtlmbpdlobpcahaaDoorF.fld_27_3 rfl) ?_
  first
    | refine TV_ql rfl rfl rfl (QT_load 0 rfl rfl Tryd.underlying3 rfl rfl rfl (fun _ => rfl)) ?_
    | refine TV_ql rfl rfl rfl (QT_load 1 rfl rfl Tryd.underlying3 rfl rfl rfl (fun _ => rfl)) ?_
    | refine TV_ql rfl rfl rfl (QT_load 2 rfl rfl Tryd.underlying3 rfl rfl rfl (fun _ => rfl)) ?_
  refine TV_e rfl rfl rfl rfl (rfl) (ET_call rfl YtlmbpdlobpcahaaDoorF.cal_89 rfl (hbent b3)) ?_
  rintro _ _ ⟨rfl, K1, hK1, rfl⟩
  refine ⟨_, .drop (by kernel_rfl) (.nil), ?_⟩
  refine TV_end ?_
  refine TX_then ?_
  refine TC_seq ?_
  refine TC_draw [(0, 0), (1, 0), (2, 0), (3, 0), (4, 0), (5, 1), (6, 0), (7, 0), (8, 0), (9, 0), (10, 0)] YtlmbpdlobpcahaaDoorF.mixed (by kernel_rfl) (St.calm _ _) ?_
  first
    | refine TV_ql rfl rfl rfl (QT_loadW 0 rfl rfl Tryd.underlying27 rfl rfl rfl YtlmbpdlobpcahaaDoorF.sz_27) ?_
    | refine TV_ql rfl rfl rfl (QT_loadW 1 rfl rfl Tryd.underlying27 rfl rfl rfl YtlmbpdlobpcahaaDoorF.sz_27) ?_
    | refine TV_ql rfl rfl rfl (QT_loadW 2 rfl rfl Tryd.underlying27 rfl rfl rfl YtlmbpdlobpcahaaDoorF.sz_27) ?_
    | refine TV_ql rfl rfl rfl (QT_loadA 0 rfl rfl Tryd.underlying27 rfl rfl rfl YtlmbpdlobpcahaaDoorF.sz_27 (fun _ => rfl)) ?_
    | refine TV_ql rfl rfl rfl (QT_loadA 1 rfl rfl Tryd.underlying27 rfl rfl rfl YtlmbpdlobpcahaaDoorF.sz_27 (fun _ => rfl)) ?_
    | refine TV_ql rfl rfl rfl (QT_loadA 2 rfl rfl Tryd.underlying27 rfl rfl rfl YtlmbpdlobpcahaaDoorF.sz_27 (fun _ => rfl)) ?_
  refine TV_q rfl rfl rfl (fun _ => QT_move rfl rfl rfl) ?_
  refine TV_q rfl rfl rfl (fun _ => QT_nilCheck rfl rfl rfl) ?_
  refine TV_q rfl rfl rfl (fun _ => QT_field rfl rfl YtlmbpdlobpcahaaDoorF.fld_71_0 rfl) ?_
  refine TV_ql rfl rfl rfl (QT_load 0 rfl rfl Tryd.underlying5 rfl rfl rfl (fun _ => shV_at (xs := fl :: X) (p := 0) (by decide) rfl)) ?_
  refine TV_cq rfl rfl rfl rfl rfl YtlmbpdlobpcahaaDoorF.cal_90 rfl (fun _ => told_spec w0 _ L fl hfl256 hty) (.drop (by kernel_rfl) (.drop (by kernel_rfl) (.nil))) ?_
  refine TV_q rfl rfl rfl (fun _ => QT_move rfl rfl rfl) ?_
  refine TV_q rfl rfl rfl (fun _ => QT_extract rfl rfl rfl rfl) ?_
  refine TV_q rfl rfl rfl (fun _ => QT_extract rfl rfl rfl rfl) ?_
  refine TV_q rfl rfl rfl (fun _ => QT_assign rfl rfl rfl) ?_
  refine TV_q rfl rfl rfl (fun _ => QT_assign rfl rfl rfl) ?_
  refine TV_end ?_
  refine TX_then ?_
  refine TC_seq ?_
  refine TC_reg ?_
  refine TL_q rfl rfl (QT_assign rfl rfl rfl) ?_
  refine TL_nil ?_
  refine TX_then ?_
  refine TC_seq ?_
  refine TC_seq ?_
  refine TC_reg ?_
  refine TL_q rfl rfl (QT_move rfl rfl rfl) ?_
  refine TL_nil ?_
  refine TX_then ?_
  refine TC_block ?_
  refine TC_loop (γ := { t : Nat × Heap // t.1 ≤ 16 ∧ Rep (rk go L fl X s1 (2 * t.1)).2 t.2 }) (fun u => [(1, true, .pointer (some ⟨sb, 0, none⟩)), (2, true, .iface t r), (3, true, .pointer (some ⟨b3, 0, none⟩)), (6, true, .int .i64 (ptN L fl : Int)), (7, true, .int .i64 (clN L fl : Int)), (8, true, .func (.func 91) #[] #[]), (29, true, .int .i64 (u.1.1 : Int))]) (fun u => St w0 ((sb, 71, cellsK go L fl X s1 (2 * u.1.1)) :: (b3, 27, L.cells) :: (u.1.2 ++ η))) (fun u => 16 - u.1.1) ⟨(0, K1), by show 0 ≤ 16; decide, by show Rep (rk go L fl X s1 0).2 K1; rw [rk_zero]; exact hK1⟩ ⟨rfl, rfl, rfl, rfl, rfl, rfl, rfl, trivial⟩ (fun w h => by show St w0 ((sb, 71, cellsK go L fl X s1 0) :: (b3, 27, L.cells) :: (K1 ++ η)) w; rw [cellsK_zero]; exact h) ?_
  rintro ⟨⟨i, K2⟩, hi, hK2⟩
  dsimp only at hi hK2 ⊢
  refine TC_seq ?_
  refine TC_reg ?_
  refine TL_q rfl rfl (QT_lss rfl rfl rfl rfl) ?_
  refine TL_nil ?_
  refine TX_then ?_
  refine TC_seq ?_
  first
    | refine TC_cond_dec rfl (fun h30 => ?_) (fun h30 => ?_)
    | refine TC_cond rfl (fun h30 => ?_) (fun h30 => ?_)
  ·
    have hi16 : i < 16 := by omega
    have hwd : (if decide ((i : Int) < (ptN L fl : Int)) = true then L.co else 0) = (wPt L fl i : Int) := by
      unfold wPt
      by_cases hc : i < ptN L fl
      · rw [if_pos hc, if_pos (by simpa using hc), hco]
      · rw [if_neg hc, if_neg (by simpa using hc)]; rfl
    refine TC_skip ?_
    refine TX_then ?_
    refine TC_seq ?_
    refine TC_block ?_
    refine TC_seq ?_
    refine TC_reg ?_
    refine TL_q rfl rfl (QT_move rfl rfl rfl) ?_
    refine TL_q rfl rfl (QT_assign rfl rfl rfl) ?_
    refine TL_nil ?_
    refine TX_then ?_
    refine TC_seq ?_
    refine TC_reg ?_
    refine TL_q rfl rfl (QT_move rfl rfl rfl) ?_
    refine TL_q rfl rfl (QT_move rfl rfl rfl) ?_
    refine TL_q rfl rfl (QT_move rfl rfl rfl) ?_
    refine TL_q rfl rfl (QT_lss rfl rfl rfl rfl) ?_
    refine TL_q rfl rfl (QT_field rfl rfl YtlmbpdlobpcahaaDoorF.fld_27_1 rfl) ?_
    first
      | refine TL_q rfl rfl (QT_load 0 rfl rfl Tryd.underlying3 rfl rfl rfl (fun _ => rfl)) ?_
      | refine TL_q rfl rfl (QT_load 1 rfl rfl Tryd.underlying3 rfl rfl rfl (fun _ => rfl)) ?_
      | refine TL_q rfl rfl (QT_load 2 rfl rfl Tryd.underlying3 rfl rfl rfl (fun _ => rfl)) ?_
    refine TL_gq rfl rfl rfl (fun _ => Goes.value rfl rfl YtlmbpdlobpcahaaDoorF.cal_91 rfl) (fun _ => hwd ▸ within_spec w0 _ _ L.co) ?_
    refine TL_q rfl rfl (QT_assign rfl rfl rfl) ?_
    refine TL_nil ?_
    refine TX_then ?_
    refine TC_seq ?_
    refine TC_draw [(0, 0), (1, 0), (2, 0), (3, 0), (4, 0), (5, 0), (6, 0), (7, 0), (8, 0), (9, 0), (10, 0), (11, 1)] YtlmbpdlobpcahaaDoorF.mixed (by kernel_rfl) (St.calm _ _) ?_
    refine TV_q rfl rfl rfl (fun _ => QT_move rfl rfl rfl) ?_
    refine TV_q rfl rfl rfl (fun _ => QT_move rfl rfl rfl) ?_
    refine TV_q rfl rfl rfl (fun _ => QT_move rfl rfl rfl) ?_
    refine TV_q rfl rfl rfl (fun _ => QT_nilCheck rfl rfl rfl) ?_
    refine TV_q rfl rfl rfl (fun _ => QT_field rfl rfl YtlmbpdlobpcahaaDoorF.fld_71_1 rfl) ?_
    refine TV_q rfl rfl rfl (fun _ => QT_indexArr i rfl rfl Tryd.underlying65 YtlmbpdlobpcahaaDoorF.sz_64 rfl rfl rfl (fun _ => hi16)) ?_
    refine TV_q rfl rfl rfl (fun _ => QT_field rfl rfl YtlmbpdlobpcahaaDoorF.fld_64_0 rfl) ?_
    refine TV_q rfl rfl rfl (fun _ => QT_move rfl rfl rfl) ?_
    refine TV_q rfl rfl rfl (fun _ => QT_makeFunc rfl rfl rfl rfl) ?_
    refine TV_q rfl rfl rfl (fun _ => QT_nilCheckM rfl rfl rfl h.nil) ?_
    refine TV_q rfl rfl rfl (fun _ => QT_move rfl rfl rfl) ?_
    refine TV_e rfl rfl rfl rfl (rfl) (ET_goes (Goes.invoke rfl rfl h.met h.cal rfl) (go_pt h hok [(b3, 27, L.cells)] η K2 hX s1 sb i (2 * i) _ hi16 (.inl rfl) (by omega) hO hK2 hs1)) ?_
    rintro _ _ ⟨rfl, K3, hK3, rfl⟩
    refine ⟨_, .nil, ?_⟩
    refine TV_end ?_
    refine TX_then ?_
    refine TC_draw [(0, 0), (1, 0), (2, 0), (3, 0), (4, 0), (5, 0), (6, 0), (7, 0), (8, 0), (9, 0), (10, 0), (11, 1)] YtlmbpdlobpcahaaDoorF.mixed (by kernel_rfl) (St.calm _ _) ?_
    refine TV_q rfl rfl rfl (fun _ => QT_move rfl rfl rfl) ?_
    refine TV_q rfl rfl rfl (fun _ => QT_move rfl rfl rfl) ?_
    refine TV_q rfl rfl rfl (fun _ => QT_move rfl rfl rfl) ?_
    refine TV_q rfl rfl rfl (fun _ => QT_nilCheck rfl rfl rfl) ?_
    refine TV_q rfl rfl rfl (fun _ => QT_field rfl rfl YtlmbpdlobpcahaaDoorF.fld_71_1 rfl) ?_
    refine TV_q rfl rfl rfl (fun _ => QT_indexArr i rfl rfl Tryd.underlying65 YtlmbpdlobpcahaaDoorF.sz_64 rfl rfl rfl (fun _ => hi16)) ?_
    refine TV_q rfl rfl rfl (fun _ => QT_field rfl rfl YtlmbpdlobpcahaaDoorF.fld_64_1 rfl) ?_
    refine TV_q rfl rfl rfl (fun _ => QT_move rfl rfl rfl) ?_
    refine TV_q rfl rfl rfl (fun _ => QT_makeFunc rfl rfl rfl rfl) ?_
    refine TV_q rfl rfl rfl (fun _ => QT_nilCheckM rfl rfl rfl h.nil) ?_
    refine TV_q rfl rfl rfl (fun _ => QT_move rfl rfl rfl) ?_
    refine TV_e rfl rfl rfl rfl (rfl) (ET_goes (Goes.invoke rfl rfl h.met h.cal rfl) (go_pt h hok [(b3, 27, L.cells)] η K3 hX s1 sb i (2 * i + 1) _ hi16 (.inr rfl) (by omega) hO hK3 hs1)) ?_
    rintro _ _ ⟨rfl, K4, hK4, rfl⟩
    refine ⟨_, .nil, ?_⟩
    refine TV_end ?_
    refine TX_block_normal ?_
    refine TX_then ?_
    refine TC_reg ?_
    refine TL_q rfl rfl (QT_add rfl rfl rfl rfl (fun _ => ⟨by omega, by omega⟩)) ?_
    refine TL_q rfl rfl (QT_move rfl rfl rfl) ?_
    refine TL_nil ?_
    exact TX_round ⟨(i + 1, K4), by show i + 1 ≤ 16; omega, hK4⟩ (by show 16 - (i + 1) < 16 - i; omega) ⟨rfl, rfl, rfl, rfl, rfl, rfl, rfl, trivial⟩ (fun _ h => h)
  ·
    refine TC_exit ?_
    refine TX_then_exit ?_
    refine TX_then_exit ?_
    refine TX_block_here ?_
    refine TX_then ?_
    refine TC_seq ?_
    obtain rfl : i = 16 := by omega
    refine TC_reg ?_
    refine TL_q rfl rfl (QT_move rfl rfl rfl) ?_
    refine TL_nil ?_
    refine TX_then ?_
    refine TC_block ?_
    refine TC_loop (γ := { t : Nat × Heap // t.1 ≤ 4 ∧ Rep (rk go L fl X s1 (32 + 4 * t.1)).2 t.2 }) (fun u => [(1, true, .pointer (some ⟨sb, 0, none⟩)), (2, true, .iface t r), (3, true, .pointer (some ⟨b3, 0, none⟩)), (7, true, .int .i64 (clN L fl : Int)), (8, true, .func (.func 91) #[] #[]), (64, true, .int .i64 (u.1.1 : Int))]) (fun u => St w0 ((sb, 71, cellsK go L fl X s1 (32 + 4 * u.1.1)) :: (b3, 27, L.cells) :: (u.1.2 ++ η))) (fun u => 4 - u.1.1) ⟨(0, K2), by show 0 ≤ 4; decide, hK2⟩ ⟨rfl, rfl, rfl, rfl, rfl, rfl, trivial⟩ (fun w h => h) ?_
    rintro ⟨⟨c, K5⟩, hc, hK5⟩
    dsimp only at hc hK5 ⊢
    refine TC_seq ?_
    refine TC_reg ?_
    refine TL_q rfl rfl (QT_lss rfl rfl rfl rfl) ?_
    refine TL_nil ?_
    refine TX_then ?_
    refine TC_seq ?_
    first
      | refine TC_cond_dec rfl (fun h65 => ?_) (fun h65 => ?_)
      | refine TC_cond rfl (fun h65 => ?_) (fun h65 => ?_)
    ·
      have hc4 : c < 4 := by omega
      refine TC_skip ?_
      refine TX_then ?_
      refine TC_seq ?_
      refine TC_block ?_
      refine TC_seq ?_
      refine TC_reg ?_
      refine TL_q rfl rfl (QT_move rfl rfl rfl) ?_
      refine TL_q rfl rfl (QT_assign rfl rfl rfl) ?_
      refine TL_nil ?_
      refine TX_then ?_
      refine TC_seq ?_
      refine TC_reg ?_
      refine TL_q rfl rfl (QT_move rfl rfl rfl) ?_
      refine TL_nil ?_
      refine TX_then ?_
      refine TC_block ?_
      refine TC_loop (γ := { t : Nat × Heap // t.1 ≤ 4 ∧ Rep (rk go L fl X s1 (32 + 4 * c + t.1)).2 t.2 }) (fun u => [(1, true, .pointer (some ⟨sb, 0, none⟩)), (2, true, .iface t r), (3, true, .pointer (some ⟨b3, 0, none⟩)), (7, true, .int .i64 (clN L fl : Int)), (8, true, .func (.func 91) #[] #[]), (11, true, .int .i64 (c : Int)), (64, true, .int .i64 (c : Int)), (67, true, .int .i64 (u.1.1 : Int))]) (fun u => St w0 ((sb, 71, cellsK go L fl X s1 (32 + 4 * c + u.1.1)) :: (b3, 27, L.cells) :: (u.1.2 ++ η))) (fun u => 4 - u.1.1) ⟨(0, K5), by show 0 ≤ 4; decide, hK5⟩ ⟨rfl, rfl, rfl, rfl, rfl, rfl, rfl, rfl, trivial⟩ (fun w h => h) ?_
      rintro ⟨⟨d, K6⟩, hd, hK6⟩
      dsimp only at hd hK6 ⊢
      refine TC_seq ?_
      refine TC_reg ?_
      refine TL_q rfl rfl (QT_lss rfl rfl rfl rfl) ?_
      refine TL_nil ?_
      refine TX_then ?_
      refine TC_seq ?_
      first
        | refine TC_cond_dec rfl (fun h68 => ?_) (fun h68 => ?_)
        | refine TC_cond rfl (fun h68 => ?_) (fun h68 => ?_)
      ·
        have hd4 : d < 4 := by omega
        have hwd : (if (decide ((c : Int) < (clN L fl : Int)) && decide ((d : Int) < L.cs)) = true then L.cm else 0) = (wCl L fl (4 * c + d) : Int) := by
          unfold wCl
          rw [show (4 * c + d) / 4 = c by omega, show (4 * c + d) % 4 = d by omega]
          by_cases hq : c < clN L fl ∧ d < L.cs.toNat
          · rw [if_pos hq, if_pos (by simp only [Bool.and_eq_true, decide_eq_true_eq]; omega), hcm]
          · rw [if_neg hq, if_neg (by simp only [Bool.and_eq_true, decide_eq_true_eq]; omega)]; rfl
        refine TC_skip ?_
        refine TX_then ?_
        refine TC_seq ?_
        refine TC_block ?_
        refine TC_seq ?_
        refine TC_reg ?_
        refine TL_q rfl rfl (QT_move rfl rfl rfl) ?_
        refine TL_q rfl rfl (QT_assign rfl rfl rfl) ?_
        refine TL_nil ?_
        refine TX_then ?_
        refine TC_draw [(0, 0), (1, 0), (2, 0), (3, 0), (4, 0), (5, 0), (6, 0), (7, 0), (8, 0), (9, 0), (10, 0), (11, 0), (12, 0), (13, 0), (14, 0), (15, 0), (16, 0), (17, 0), (18, 0), (19, 0), (20, 1), (21, 1)] YtlmbpdlobpcahaaDoorF.mixed (by kernel_rfl) (St.calm _ _) ?_
        refine TV_q rfl rfl rfl (fun _ => QT_move rfl rfl rfl) ?_
        refine TV_q rfl rfl rfl (fun _ => QT_move rfl rfl rfl) ?_
        refine TV_q rfl rfl rfl (fun _ => QT_move rfl rfl rfl) ?_
        refine TV_q rfl rfl rfl (fun _ => QT_move rfl rfl rfl) ?_
        refine TV_q rfl rfl rfl (fun _ => QT_nilCheck rfl rfl rfl) ?_
        refine TV_q rfl rfl rfl (fun _ => QT_field rfl rfl YtlmbpdlobpcahaaDoorF.fld_71_2 rfl) ?_
        refine TV_q rfl rfl rfl (fun _ => QT_indexArr c rfl rfl Tryd.underlying69 YtlmbpdlobpcahaaDoorF.sz_68 rfl rfl rfl (fun _ => hc4)) ?_
        refine TV_q rfl rfl rfl (fun _ => QT_indexArr d rfl rfl Tryd.underlying68 YtlmbpdlobpcahaaDoorF.sz_66 rfl rfl rfl (fun _ => hd4)) ?_
        refine TV_q rfl rfl rfl (fun _ => QT_move rfl rfl rfl) ?_
        refine TV_q rfl rfl rfl (fun _ => QT_move rfl rfl rfl) ?_
        refine TV_q rfl rfl rfl (fun _ => QT_move rfl rfl rfl) ?_
        refine TV_q rfl rfl rfl (fun _ => QT_lss rfl rfl rfl rfl) ?_
        refine TV_q rfl rfl rfl (fun _ => QT_move rfl rfl rfl) ?_
        refine TV_q rfl rfl rfl (fun _ => QT_move rfl rfl rfl) ?_
        refine TV_q rfl rfl rfl (fun _ => QT_field rfl rfl YtlmbpdlobpcahaaDoorF.fld_27_4 rfl) ?_
        first
          | refine TV_ql rfl rfl rfl (QT_load 0 rfl rfl Tryd.underlying3 rfl rfl rfl (fun _ => rfl)) ?_
          | refine TV_ql rfl rfl rfl (QT_load 1 rfl rfl Tryd.underlying3 rfl rfl rfl (fun _ => rfl)) ?_
          | refine TV_ql rfl rfl rfl (QT_load 2 rfl rfl Tryd.underlying3 rfl rfl rfl (fun _ => rfl)) ?_
        refine TV_q rfl rfl rfl (fun _ => QT_lss rfl rfl rfl rfl) ?_
        refine TV_q rfl rfl rfl (fun _ => QT_and rfl rfl rfl rfl) ?_
        refine TV_q rfl rfl rfl (fun _ => QT_field rfl rfl YtlmbpdlobpcahaaDoorF.fld_27_2 rfl) ?_
        first
          | refine TV_ql rfl rfl rfl (QT_load 0 rfl rfl Tryd.underlying3 rfl rfl rfl (fun _ => rfl)) ?_
          | refine TV_ql rfl rfl rfl (QT_load 1 rfl rfl Tryd.underlying3 rfl rfl rfl (fun _ => rfl)) ?_
          | refine TV_ql rfl rfl rfl (QT_load 2 rfl rfl Tryd.underlying3 rfl rfl rfl (fun _ => rfl)) ?_
        refine TV_gq rfl rfl rfl rfl (fun _ => Goes.value rfl rfl YtlmbpdlobpcahaaDoorF.cal_91 rfl) (fun _ => hwd ▸ within_spec w0 _ _ L.cm) (.drop (by kernel_rfl) (.keep (by kernel_rfl) rfl (by first | exact QT_load 0 rfl rfl Tryd.underlying3 rfl rfl rfl (fun _ => rfl) | exact QT_load 1 rfl rfl Tryd.underlying3 rfl rfl rfl (fun _ => rfl) | exact QT_load 2 rfl rfl Tryd.underlying3 rfl rfl rfl (fun _ => rfl)) (.nil))) ?_
        refine TV_e rfl rfl rfl rfl (rfl) (ET_call rfl YtlmbpdlobpcahaaDoorF.cal_92 rfl (go_cl h hok [(b3, 27, L.cells)] η K6 hX s1 sb (4 * c + d) (32 + 4 * c + d) _ (by omega) (by omega) (by omega) hO hK6 hs1)) ?_
        rintro _ _ ⟨rfl, K7, hK7, rfl⟩
        refine ⟨_, .keep (by kernel_rfl) rfl (by first | exact QT_load 0 rfl rfl Tryd.underlying3 rfl rfl rfl (fun _ => rfl) | exact QT_load 1 rfl rfl Tryd.underlying3 rfl rfl rfl (fun _ => rfl) | exact QT_load 2 rfl rfl Tryd.underlying3 rfl rfl rfl (fun _ => rfl)) (.nil), ?_⟩
        refine TV_end ?_
        refine TX_block_normal ?_
        refine TX_then ?_
        refine TC_reg ?_
        refine TL_q rfl rfl (QT_add rfl rfl rfl rfl (fun _ => ⟨by omega, by omega⟩)) ?_
        refine TL_q rfl rfl (QT_move rfl rfl rfl) ?_
        refine TL_nil ?_
        exact TX_round ⟨(d + 1, K7), by show d + 1 ≤ 4; omega, hK7⟩ (by show 4 - (d + 1) < 4 - d; omega) ⟨rfl, rfl, rfl, rfl, rfl, rfl, rfl, rfl, trivial⟩ (fun _ h => h)
      ·
        refine TC_exit ?_
        refine TX_then_exit ?_
        refine TX_then_exit ?_
        refine TX_block_here ?_
        refine TX_block_normal ?_
        refine TX_then ?_
        obtain rfl : d = 4 := by omega
        refine TC_reg ?_
        refine TL_q rfl rfl (QT_add rfl rfl rfl rfl (fun _ => ⟨by omega, by omega⟩)) ?_
        refine TL_q rfl rfl (QT_move rfl rfl rfl) ?_
        refine TL_nil ?_
        exact TX_round ⟨(c + 1, K6), by show c + 1 ≤ 4; omega, hK6⟩ (by show 4 - (c + 1) < 4 - c; omega) ⟨rfl, rfl, rfl, rfl, rfl, rfl, trivial⟩ (fun _ h => h)
    ·
      refine TC_exit ?_
      refine TX_then_exit ?_
      refine TX_then_exit ?_
      refine TX_block_here ?_
      obtain rfl : c = 4 := by omega
      refine TX_ret (.inr rfl) (res0 rfl) ⟨_, ⟨rfl, K5, ?_, rfl⟩, fun w h => ?_⟩
      · have := rk_all (go := go) (L := L) (fl := fl) (s := s1) hX.len
        rw [← this]; exact hK5
      · have := cellsK_all (go := go) (L := L) (fl := fl) (s := s1) hX.len
        rw [← this]; exact (show St w0 ((sb, 71, cellsK go L fl X s1 48) :: (b3, 27, L.cells) :: (K5 ++ η)) w from h).cnt fun p => by simp only [List.countP_append, List.countP_cons]; omega
end
end Go.Proofs.YtlmbpdlobpcahaaDoor

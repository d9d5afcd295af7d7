/- SHEETS CUT DOWN to what a layout has room for. -/
import Derived.Test.YtlmbpdlobpcahaaDoorS11q
namespace Go.Proofs.YtlmbpdlobpcahaaDoor
open Go Go.Gx Go.RowKit
set_option maxRecDepth 100000
theorem mask_u8 : ∀ w : Fin 9, IntKind.u8.wrap (IntKind.u8.wrap (1 * 2 ^ (min ((w.1 : Nat) : Int).toNat IntKind.u8.bits)) - 1) = ((2 ^ w.1 - 1 : Nat) : Int) := by decide +kernel
theorem mask_u16 : ∀ w : Fin 17, IntKind.u16.wrap (IntKind.u16.wrap (1 * 2 ^ (min ((w.1 : Nat) : Int).toNat IntKind.u16.bits)) - 1) = ((2 ^ w.1 - 1 : Nat) : Int) := by decide +kernel
theorem mask_u32 : ∀ w : Fin 33, IntKind.u32.wrap (IntKind.u32.wrap (1 * 2 ^ (min ((w.1 : Nat) : Int).toNat IntKind.u32.bits)) - 1) = ((2 ^ w.1 - 1 : Nat) : Int) := by decide +kernel
theorem ofInt16 (a : Nat) (h : a < 65536) : (BitVec.ofInt 16 (a : Int)).toNat = a := by
  rw [BitVec.toNat_ofInt]
  have : ((2 ^ 16 : Nat) : Int) = 65536 := by decide
  rw [this]; omega
theorem and_u16 {a b : Nat} (ha : a < 65536) (hb : b < 65536) : bitsOf .and .u16 (a : Int) (b : Int) = ((a &&& b : Nat) : Int) := by
  have h : a &&& b ≤ a := Nat.and_le_left
  show IntKind.u16.wrap ((BitVec.ofInt 16 (a : Int) &&& BitVec.ofInt 16 (b : Int)).toNat : Int) = _
  rw [BitVec.toNat_and, ofInt16 a ha, ofInt16 b hb]
  exact IntWalk.u16_in ((a &&& b : Nat) : Int) ⟨by omega, by omega⟩
theorem pow_le' {w n : Nat} (h : w ≤ n) : 0 < 2 ^ w ∧ 2 ^ w ≤ 2 ^ n := ⟨Nat.two_pow_pos w, Nat.pow_le_pow_right (by decide) h⟩
theorem cut_u8 {x w : Nat} (hx : x < 256) (hw : w ≤ 8) : bitsOf .and .u8 (x : Int) ((2 ^ w - 1 : Nat) : Int) = ((x % 2 ^ w : Nat) : Int) := by
  have := pow_le' hw
  rw [and_u8 hx (by have : 2 ^ 8 = 256 := rfl; omega), Nat.and_two_pow_sub_one_eq_mod]
theorem cut_u16 {x w : Nat} (hx : x < 65536) (hw : w ≤ 16) : bitsOf .and .u16 (x : Int) ((2 ^ w - 1 : Nat) : Int) = ((x % 2 ^ w : Nat) : Int) := by
  have := pow_le' hw
  rw [and_u16 hx (by have : 2 ^ 16 = 65536 := rfl; omega), Nat.and_two_pow_sub_one_eq_mod]
theorem cut_u32 {x w : Nat} (hx : x < 4294967296) (hw : w ≤ 32) : bitsOf .and .u32 (x : Int) ((2 ^ w - 1 : Nat) : Int) = ((x % 2 ^ w : Nat) : Int) := by
  have := pow_le' hw
  rw [and_u32 hx (by have : 2 ^ 32 = 4294967296 := rfl; omega), Nat.and_two_pow_sub_one_eq_mod]
def cutX (L : Lay) (f : Nat) (X : List Nat) : List Nat := List.zipWith (fun (p : Nat × Nat) (x : Nat) => x % 2 ^ p.1) (wS L f) X
def cutS (L : Lay) (y : List Nat) : List Nat := y.headD 0 % 2 ^ L.fl.toNat :: cutX L (y.headD 0 % 2 ^ L.fl.toNat) y.tail
theorem cutX_len {L : Lay} {f : Nat} {X : List Nat} (h : X.length = 48) : (cutX L f X).length = 48 := by rw [cutX, List.length_zipWith, wS_len, h]; rfl
theorem cutX_at {L : Lay} {f k w m x : Nat} {X : List Nat} (hw : (wS L f)[k]? = some (w, m)) (hx : X[k]? = some x) : (cutX L f X)[k]? = some (x % 2 ^ w) := by
  rw [cutX, List.getElem?_zipWith, hw, hx]
def fz (L : Lay) (f : Nat) (X : List Nat) (k : Nat) : List Value := shV (f :: ((cutX L f X).take k ++ zer.drop k))
theorem fz_step {L : Lay} {f k w m x : Nat} {X : List Nat} (h : X.length = 48) (hw : (wS L f)[k]? = some (w, m)) (hx : X[k]? = some x) :
    setAt (fz L f X k) (k + 1) [.int (skK (k + 1)) ((x % 2 ^ w : Nat) : Int)] = fz L f X (k + 1) := by
  have hk : k < X.length := (List.getElem?_eq_some_iff.1 hx).1
  have hl := cutX_len (L := L) (f := f) h
  unfold fz
  rw [shV_mid (by rw [List.length_take]; omega) (show k < zer.length by show k < 48; omega) (by omega), List.take_add_one, cutX_at hw hx]
  rfl
theorem fz_at {L : Lay} {f k : Nat} {X : List Nat} (h : X.length = 48) (hk : k < 48) : (fz L f X k)[k + 1]? = some (.int (skK (k + 1)) 0) :=
  shV_mid_at (x := 0) (by rw [List.length_take, cutX_len h]; omega) (zer_at hk) hk
theorem fz_skip {L : Lay} {f : Nat} {X : List Nat} (h : X.length = 48) (k : Nat) : ∀ n, k + n ≤ 48 → (∀ p, k ≤ p → p < k + n → ∃ m, (wS L f)[p]? = some (0, m)) → fz L f X (k + n) = fz L f X k
  | 0, _, _ => rfl
  | n + 1, hn, hp => by
    obtain ⟨m, hm⟩ := hp (k + n) (by omega) (by omega)
    obtain ⟨x, hx⟩ := get48 h (show k + n < 48 by omega)
    have h1 := fz_step h hm hx
    rw [show ((x % 2 ^ 0 : Nat) : Int) = 0 by rw [Nat.pow_zero, Nat.mod_one]; rfl] at h1
    rw [← Nat.add_assoc, ← h1, ← fz_skip h k n (by omega) fun p h1 h2 => hp p h1 (by omega)]
    exact set_same (fz_at h (by omega))
theorem fz_all {L : Lay} {f : Nat} {X : List Nat} (h : X.length = 48) : fz L f X 48 = shV (f :: cutX L f X) := by
  unfold fz
  rw [List.take_of_length_le (by rw [cutX_len h]; exact Nat.le_refl _), List.drop_eq_nil_of_le (show zer.length ≤ 48 from Nat.le_refl _), List.append_nil]
theorem cutS_shf {L : Lay} {y : List Nat} (h : ShF y) : ShF (cutS L y) := by
  obtain ⟨x0, X, rfl, h0, hX⟩ := h
  refine ⟨x0 % 2 ^ L.fl.toNat, cutX L (x0 % 2 ^ L.fl.toNat) X, rfl, Nat.lt_of_le_of_lt (Nat.mod_le _ _) h0, cutX_len hX.len, fun {p x} hx hp => ?_, fun {p x} hx hp => ?_⟩
  · obtain ⟨a, ha⟩ := get48 hX.len (show p < 48 by omega)
    rw [cutX_at (wS_at (by omega)) ha] at hx
    cases hx
    exact Nat.lt_of_le_of_lt (Nat.mod_le _ _) (hX.pt ha hp)
  · have hl := (List.getElem?_eq_some_iff.1 hx).1
    rw [cutX_len hX.len] at hl
    obtain ⟨a, ha⟩ := get48 hX.len hl
    rw [cutX_at (wS_at hl) ha] at hx
    cases hx
    exact Nat.lt_of_le_of_lt (Nat.mod_le _ _) (hX.cl ha hp)
theorem fitB_of : ∀ {ws : Ws} {xs : List Nat}, (∀ (k w m x : Nat), ws[k]? = some (w, m) → xs[k]? = some x → x < 2 ^ w) → fitB ws xs = true
  | [], _, _ => by unfold fitB; rfl
  | _ :: _, [], _ => by unfold fitB; rfl
  | (w, m) :: ws, x :: xs, h => by
    rw [fitB, fitB_of fun k w m x h1 h2 => h (k + 1) w m x h1 h2]
    simp [h 0 w m x rfl rfl]
theorem cutS_fit {L : Lay} {y : List Nat} (h : ShF y) : fitS L (cutS L y) = true := by
  obtain ⟨x0, X, rfl, h0, hX⟩ := h
  show fitB (fS L (x0 % 2 ^ L.fl.toNat)) (x0 % 2 ^ L.fl.toNat :: cutX L (x0 % 2 ^ L.fl.toNat) X) = true
  rw [fS, fitB, Bool.and_eq_true, decide_eq_true_eq]
  refine ⟨Nat.mod_lt _ (Nat.two_pow_pos _), fitB_of fun k w m x hw hx => ?_⟩
  have hk : k < 48 := by rw [← wS_len L (x0 % 2 ^ L.fl.toNat)]; exact (List.getElem?_eq_some_iff.1 hw).1
  obtain ⟨a, ha⟩ := get48 hX.len hk
  rw [cutX_at hw ha] at hx
  cases hx
  exact Nat.mod_lt _ (Nat.two_pow_pos _)
theorem zer_cells : shV (0 :: zer) = zs sheetK := by kernel_rfl
set_option maxHeartbeats 2000000 in
theorem fitting_spec (w0 : World) (η : Heap) (L : Lay) (hok : okB L = true) (hty : L.ty = 6 ∨ L.ty = 7) (y : List Nat) (hy : ShF y) :
    CallsT Tryd.prog 88 [L.val, .agg (shV y).toArray] (St w0 η) fun v A' => v = .agg (shV (cutS L y)).toArray ∧ A' = St w0 η := by
  have hcs := cutS_shf (L := L) hy
  have hyl0 : (shV (cutS L y)).length = 49 := shV_len hcs.len
  have hyz : Sz Tryd.prog 71 (shV (cutS L y)).length := by rw [hyl0]; exact YtlmbpdlobpcahaaDoorF.sz_71
  have hyi := shV_ints hcs
  obtain ⟨x0, X, rfl, h0, hX⟩ := hy
  have hbd := okB_bounds hok
  have hfl : (L.fl.toNat : Int) = L.fl := by have := hbd.2.2.2.2.2 (by omega); omega
  have hco : (L.co.toNat : Int) = L.co := by have := hbd.1; omega
  have hcm : (L.cm.toNat : Int) = L.cm := by have := hbd.2.1; omega
  have hcsn : (L.cs.toNat : Int) = L.cs := by have := hbd.2.2.1; omega
  have hfl8 : L.fl.toNat ≤ 8 := by have := hbd.2.2.2.2.2 (by omega); omega
  have hco32 : L.co.toNat ≤ 32 := by have := hbd.1; omega
  have hcm16 : L.cm.toNat ≤ 16 := by have := hbd.2.1; omega
  have hcs4 : 1 ≤ L.cs.toNat ∧ L.cs.toNat ≤ 4 := by have := hbd.2.2.1; omega
  have lfl : L.cells[0 + 3]? = some (.int .i64 (L.fl.toNat : Int)) := lay_at rfl hfl
  have lco : L.cells[0 + 1]? = some (.int .i64 (L.co.toNat : Int)) := lay_at rfl hco
  have lcm : L.cells[0 + 2]? = some (.int .i64 (L.cm.toNat : Int)) := lay_at rfl hcm
  have lcs : L.cells[0 + 4]? = some (.int .i64 (L.cs.toNat : Int)) := lay_at rfl hcsn
  have ecut : cutS L (x0 :: X) = x0 % 2 ^ L.fl.toNat :: cutX L (x0 % 2 ^ L.fl.toNat) X := rfl
  rw [ecut] at hyl0 hyz hyi ⊢
  obtain ⟨fl, hfl0⟩ : ∃ fl, fl = x0 % 2 ^ L.fl.toNat := ⟨_, rfl⟩
  have hflm : fl ≤ x0 := by rw [hfl0]; exact Nat.mod_le _ _
  have hpt := ptN_bd L fl
  have hcl := clN_bd L fl
  have hp2 := hpt.2.2
  have hc2 := hcl.2.2
  unfold ptsZ at hp2
  unfold colZ at hc2
  rw [← hfl0] at hyl0 hyz hyi ⊢
  generalize hFL : L.fl.toNat = FL at lfl hfl8 hfl0
  generalize hCO : L.co.toNat = CO at lco hco32
  generalize hCM : L.cm.toNat = CM at lcm hcm16
  generalize hCS : L.cs.toNat = CS at lcs hcs4
  refine CallsT.body Tryd.func88 rfl rfl ?_
  simp only [Tryd.ntmps88, slotsOf, Nat.reduceAdd]
  refine TC_seq ?_
  refine TC_reg ?_
  refine TL_e rfl rfl rfl (rfl) (ET_box rfl rfl) ?_
  rintro _ _ ⟨b2, rfl, rfl⟩
  refine TL_e rfl rfl rfl (rfl) (ET_box rfl rfl) ?_
  rintro _ _ ⟨b3, rfl, rfl⟩
  refine TL_e rfl rfl rfl (rfl) (ET_alloc rfl YtlmbpdlobpcahaaDoorF.zero_71) ?_
  rintro _ _ ⟨b4, rfl, rfl⟩
  refine TL_nil ?_
  refine TX_then ?_
  refine TC_seq ?_
  refine TC_A (St w0 ((b4, 71, shV (0 :: zer)) :: (b3, 71, shV (x0 :: X)) :: (b2, 27, L.cells) :: η)) (fun w h => by rw [zer_cells]; exact h) ?_
  have hLr : ∀ {Z : Heap}, (∀ w, St w0 Z w → St w0 [(b2, 27, L.cells)] w) → Rd (St w0 Z) b2 0 L.cells := fun h => (Rd.own (w0 := w0) (η := [(b2, 27, L.cells)]) 0 rfl).mono h
  have hSr : ∀ {Z : Heap}, (∀ w, St w0 Z w → St w0 [(b3, 71, shV (x0 :: X))] w) → Rd (St w0 Z) b3 0 (shV (x0 :: X)) := fun h => (Rd.own (w0 := w0) (η := [(b3, 71, shV (x0 :: X))]) 0 rfl).mono h
  have hv0 : (shV (x0 :: X))[0]? = some (.int .u8 (x0 : Int)) := shV_at (p := 0) (by decide) rfl
  refine TC_draw [(0, 0), (1, 0), (2, 0), (3, 0), (4, 0), (5, 0), (6, 0), (7, 0), (8, 1), (9, 1)] YtlmbpdlobpcahaaDoorF.mixed (by kernel_rfl) (St.calm _ _) ?_
  refine TV_q rfl rfl rfl (fun _ => QT_field rfl rfl YtlmbpdlobpcahaaDoorF.fld_71_0 rfl) ?_
  refine TV_ql rfl rfl rfl (QT_loadRj (v := .int .u8 (x0 : Int)) 0 rfl rfl Tryd.underlying5 rfl (hSr (fun w h => h.cnt fun p => by simp only [List.countP_append, List.countP_cons, List.countP_nil]; omega)) rfl (fun _ => hv0)) ?_
  refine TV_q rfl rfl rfl (fun _ => QT_field rfl rfl YtlmbpdlobpcahaaDoorF.fld_27_3 rfl) ?_
  refine TV_ql rfl rfl rfl (QT_loadRj (v := .int .i64 (FL : Int)) 3 rfl rfl Tryd.underlying3 rfl (hLr (fun w h => h.cnt fun p => by simp only [List.countP_append, List.countP_cons, List.countP_nil]; omega)) rfl (fun _ => lfl)) ?_
  refine TV_q rfl rfl rfl (fun _ => QT_shl rfl rfl rfl rfl (fun _ => by omega)) ?_
  refine TV_q rfl rfl rfl (fun _ => QT_to (QT_subw rfl rfl rfl rfl) (mask_u8 ⟨FL, by omega⟩)) ?_
  refine TV_q rfl rfl rfl (fun _ => QT_to (QT_bits rfl rfl (by decide) rfl rfl) ((cut_u8 h0 hfl8).trans (congrArg Nat.cast hfl0.symm))) ?_
  refine TV_q rfl rfl rfl (fun _ => QT_build rfl rfl YtlmbpdlobpcahaaDoorF.zero_71 YtlmbpdlobpcahaaDoorF.pl_71 rfl rfl rfl) ?_
  refine TV_e rfl rfl rfl rfl (rfl) (ET_alloc rfl YtlmbpdlobpcahaaDoorF.zero_71) ?_
  rintro _ _ ⟨b5, rfl, rfl⟩
  refine ⟨_, .keep (by kernel_rfl) rfl (by first | exact QT_loadRj (v := .int .i64 (FL : Int)) 3 rfl rfl Tryd.underlying3 rfl (hLr (fun w h => h.cnt fun p => by simp only [List.countP_append, List.countP_cons, List.countP_nil]; omega)) rfl (fun _ => lfl)) (.keep (by kernel_rfl) rfl (by first | exact QT_loadRj (v := .int .u8 (x0 : Int)) 0 rfl rfl Tryd.underlying5 rfl (hSr (fun w h => h.cnt fun p => by simp only [List.countP_append, List.countP_cons, List.countP_nil]; omega)) rfl (fun _ => hv0)) (.nil)), ?_⟩
  first
    | refine TV_e0 rfl rfl rfl (rfl) (ET_storeW 0 rfl rfl rfl YtlmbpdlobpcahaaDoorF.sz_71 rfl rfl rfl) ?_
    | refine TV_e0 rfl rfl rfl (rfl) (ET_storeW 1 rfl rfl rfl YtlmbpdlobpcahaaDoorF.sz_71 rfl rfl rfl) ?_
    | refine TV_e0 rfl rfl rfl (rfl) (ET_storeW 2 rfl rfl rfl YtlmbpdlobpcahaaDoorF.sz_71 rfl rfl rfl) ?_
    | refine TV_e0 rfl rfl rfl (rfl) (ET_store 0 rfl rfl rfl rfl YtlmbpdlobpcahaaDoorF.sz_71 rfl rfl rfl) ?_
    | refine TV_e0 rfl rfl rfl (rfl) (ET_store 1 rfl rfl rfl rfl YtlmbpdlobpcahaaDoorF.sz_71 rfl rfl rfl) ?_
    | refine TV_e0 rfl rfl rfl (rfl) (ET_store 2 rfl rfl rfl rfl YtlmbpdlobpcahaaDoorF.sz_71 rfl rfl rfl) ?_
  rintro _ _ ⟨rfl, rfl⟩
  refine ⟨_, .drop (by kernel_rfl) (.drop (by kernel_rfl) (.nil)), ?_⟩
  refine TV_end ?_
  refine TX_then ?_
  refine TC_seq ?_
  refine TC_A (St w0 ((b5, 71, fz L fl X 0) :: (b4, 71, shV (0 :: zer)) :: (b3, 71, shV (x0 :: X)) :: (b2, 27, L.cells) :: η)) (fun w h => by rw [show fz L fl X 0 = shV (fl :: zer) from rfl]; exact h) ?_
  refine TC_reg ?_
  refine TL_q rfl rfl (QT_field rfl rfl YtlmbpdlobpcahaaDoorF.fld_27_0 rfl) ?_
  refine TL_q rfl rfl (QT_load (v := .int .i64 L.ty) 3 rfl rfl Tryd.underlying3 rfl rfl rfl (fun _ => rfl)) ?_
  refine TL_q rfl rfl (QT_sub rfl rfl rfl rfl (fun _ => ⟨by omega, by omega⟩)) ?_
  refine TL_q rfl rfl (QT_mul rfl rfl rfl rfl (fun _ => ⟨by omega, by omega⟩)) ?_
  refine TL_q rfl rfl (QT_add rfl rfl rfl rfl (fun _ => ⟨by omega, by omega⟩)) ?_
  refine TL_q rfl rfl (QT_assign rfl rfl rfl) ?_
  refine TL_nil ?_
  refine TX_then ?_
  refine TC_seq ?_
  refine TC_reg ?_
  refine TL_q rfl rfl (QT_assign rfl rfl rfl) ?_
  refine TL_nil ?_
  refine TX_then ?_
  refine TC_cut (γ := Unit) (fun _ => [(2, true, .pointer (some ⟨b2, 0, none⟩)), (3, true, .pointer (some ⟨b3, 0, none⟩)), (4, true, .pointer (some ⟨b4, 0, none⟩)), (5, true, .pointer (some ⟨b5, 0, none⟩)), (6, true, .int .i64 (ptN L fl : Int)), (7, true, .int .i64 (clN L fl : Int))]) (fun _ => St w0 ((b5, 71, fz L fl X 0) :: (b4, 71, shV (0 :: zer)) :: (b3, 71, shV (x0 :: X)) :: (b2, 27, L.cells) :: η)) ?_ ?_
  ·
    refine TC_seq ?_
    refine TC_reg ?_
    refine TL_q rfl rfl (QT_field rfl rfl YtlmbpdlobpcahaaDoorF.fld_71_0 rfl) ?_
    refine TL_q rfl rfl (QT_load (v := .int .u8 (fl : Int)) 0 rfl rfl Tryd.underlying5 rfl rfl rfl (fun _ => shV_at (p := 0) (by decide) rfl)) ?_
    refine TL_q rfl rfl (QT_eql rfl rfl rfl rfl) ?_
    refine TL_nil ?_
    refine TX_then ?_
    first
      | refine TC_cond_dec rfl (fun h26 => ?_) (fun h26 => ?_)
      | refine TC_cond rfl (fun h26 => ?_) (fun h26 => ?_)
    ·
      refine TC_seq ?_
      refine TC_reg ?_
      refine TL_q rfl rfl (QT_move rfl rfl rfl) ?_
      refine TL_q rfl rfl (QT_add rfl rfl rfl rfl (fun _ => ⟨by omega, by omega⟩)) ?_
      refine TL_q rfl rfl (QT_assign rfl rfl rfl) ?_
      refine TL_nil ?_
      refine TX_then ?_
      refine TC_reg ?_
      refine TL_q rfl rfl (QT_assign rfl rfl rfl) ?_
      refine TL_nil ?_
      exact TX_cut () ⟨rfl, rfl, rfl, rfl, slotI rfl (by rw [← hp2]; rcases hty with h | h <;> simp [h, h26]), slotI rfl (by rw [← hc2]; rcases hty with h | h <;> simp [h, h26]), trivial⟩ (fun _ h => h)
    ·
      refine TC_skip ?_
      exact TX_cut () ⟨rfl, rfl, rfl, rfl, slotI rfl (by rw [← hp2]; rcases hty with h | h <;> simp only [h, h26, if_true, if_false] <;> simp), slotI rfl (by rw [← hc2]; rcases hty with h | h <;> simp only [h, h26, if_true, if_false] <;> simp), trivial⟩ (fun _ h => h)
  rintro ⟨⟩
  refine TC_seq ?_
  refine TC_seq ?_
  refine TC_reg ?_
  refine TL_q rfl rfl (QT_assign rfl rfl rfl) ?_
  refine TL_nil ?_
  refine TX_then ?_
  refine TC_block ?_
  refine TC_loop (γ := { i : Nat // i ≤ ptN L fl }) (fun u => [(2, true, .pointer (some ⟨b2, 0, none⟩)), (3, true, .pointer (some ⟨b3, 0, none⟩)), (4, true, .pointer (some ⟨b4, 0, none⟩)), (5, true, .pointer (some ⟨b5, 0, none⟩)), (6, true, .int .i64 (ptN L fl : Int)), (7, true, .int .i64 (clN L fl : Int)), (8, true, .int .i64 (u.1 : Int))]) (fun u => St w0 ((b5, 71, fz L fl X (2 * u.1)) :: (b4, 71, shV (0 :: zer)) :: (b3, 71, shV (x0 :: X)) :: (b2, 27, L.cells) :: η)) (fun u => ptN L fl - u.1) ⟨0, Nat.zero_le _⟩ ⟨rfl, rfl, rfl, rfl, rfl, rfl, rfl, trivial⟩ (fun _ h => h) ?_
  rintro ⟨i, hi⟩
  dsimp only
  refine TC_seq ?_
  refine TC_seq ?_
  refine TC_reg ?_
  refine TL_q rfl rfl (QT_move rfl rfl rfl) ?_
  refine TL_q rfl rfl (QT_move rfl rfl rfl) ?_
  refine TL_q rfl rfl (QT_lss rfl rfl rfl rfl) ?_
  refine TL_q rfl rfl (QT_move rfl rfl rfl) ?_
  refine TL_q rfl rfl (QT_move rfl rfl rfl) ?_
  refine TL_q rfl rfl (QT_lss rfl rfl rfl rfl) ?_
  refine TL_q rfl rfl (QT_and rfl rfl rfl rfl) ?_
  refine TL_nil ?_
  refine TX_then ?_
  first
    | refine TC_cond_dec rfl (fun h35 => ?_) (fun h35 => ?_)
    | refine TC_cond rfl (fun h35 => ?_) (fun h35 => ?_)
  ·
    have hip : i < ptN L fl := by
      simp only [Bool.and_eq_true, decide_eq_true_eq] at h35
      omega
    have hi16 : i < 16 := by omega
    have hw : wPt L fl i = CO := by unfold wPt; rw [if_pos hip, hCO]
    have w1 := wS_pt (L := L) (f := fl) hi16 (p := 2 * i) (.inl rfl)
    have w2 := wS_pt (L := L) (f := fl) hi16 (p := 2 * i + 1) (.inr rfl)
    rw [hw] at w1 w2
    obtain ⟨a, ha⟩ := get48 hX.len (show 2 * i < 48 by omega)
    obtain ⟨b, hb⟩ := get48 hX.len (show 2 * i + 1 < 48 by omega)
    have ha32 := hX.pt ha (by omega)
    have hb32 := hX.pt hb (by omega)
    have s1 := fz_step hX.len w1 ha
    have s2 := fz_step hX.len w2 hb
    have hu1 : skK (2 * i + 1) = .u32 := by unfold skK; rw [if_neg (by omega), if_pos (by omega)]
    have hu2 : skK (2 * i + 1 + 1) = .u32 := by unfold skK; rw [if_neg (by omega), if_pos (by omega)]
    have hva := shV_at (xs := x0 :: X) (p := 2 * i + 1) (by omega) (by rw [List.getElem?_cons_succ]; exact ha)
    have hvb := shV_at (xs := x0 :: X) (p := 2 * i + 1 + 1) (by omega) (by rw [List.getElem?_cons_succ]; exact hb)
    have hcl1 : Nat.ble (0 + 1 + i * 2 + 0 + 1) (fz L fl X (2 * i)).length = true := cells_lt (off := 0 + 1 + i * 2 + 0) (by rw [show 0 + 1 + i * 2 + 0 = 2 * i + 1 by omega]; exact fz_at hX.len (by omega))
    have hcl2 : Nat.ble (0 + 1 + i * 2 + 1 + 1) (fz L fl X (2 * i + 1)).length = true := cells_lt (off := 0 + 1 + i * 2 + 1) (by rw [show 0 + 1 + i * 2 + 1 = 2 * i + 1 + 1 by omega]; exact fz_at hX.len (by omega))
    rw [hu1] at s1 hva
    rw [hu2] at s2 hvb
    refine TC_skip ?_
    refine TX_then ?_
    refine TC_seq ?_
    refine TC_block ?_
    refine TC_seq ?_
    refine TC_draw [(0, 0), (1, 0), (2, 0), (3, 0), (4, 0), (5, 0), (6, 0), (7, 0), (8, 0), (9, 0), (10, 0), (11, 0), (12, 0), (13, 0), (14, 1)] YtlmbpdlobpcahaaDoorF.mixed (by kernel_rfl) (St.calm _ _) ?_
    refine TV_q rfl rfl rfl (fun _ => QT_move rfl rfl rfl) ?_
    refine TV_q rfl rfl rfl (fun _ => QT_move rfl rfl rfl) ?_
    refine TV_q rfl rfl rfl (fun _ => QT_field rfl rfl YtlmbpdlobpcahaaDoorF.fld_71_1 rfl) ?_
    refine TV_q rfl rfl rfl (fun _ => QT_indexArr i rfl rfl Tryd.underlying65 YtlmbpdlobpcahaaDoorF.sz_64 rfl rfl rfl (fun _ => hi16)) ?_
    refine TV_q rfl rfl rfl (fun _ => QT_field rfl rfl YtlmbpdlobpcahaaDoorF.fld_64_0 rfl) ?_
    refine TV_ql rfl rfl rfl (QT_loadRj (v := .int .u32 (a : Int)) (2 * i + 1) rfl rfl Tryd.underlying62 rfl (hSr (fun w h => h.cnt fun p => by simp only [List.countP_append, List.countP_cons, List.countP_nil]; omega)) rfl (fun _ => hva)) ?_
    refine TV_q rfl rfl rfl (fun _ => QT_field rfl rfl YtlmbpdlobpcahaaDoorF.fld_27_1 rfl) ?_
    refine TV_ql rfl rfl rfl (QT_loadRj (v := .int .i64 (CO : Int)) 1 rfl rfl Tryd.underlying3 rfl (hLr (fun w h => h.cnt fun p => by simp only [List.countP_append, List.countP_cons, List.countP_nil]; omega)) rfl (fun _ => lco)) ?_
    refine TV_q rfl rfl rfl (fun _ => QT_shl rfl rfl rfl rfl (fun _ => by omega)) ?_
    refine TV_q rfl rfl rfl (fun _ => QT_to (QT_subw rfl rfl rfl rfl) (mask_u32 ⟨CO, by omega⟩)) ?_
    refine TV_q rfl rfl rfl (fun _ => QT_to (QT_bits rfl rfl (by decide) rfl rfl) (cut_u32 ha32 hco32)) ?_
    refine TV_q rfl rfl rfl (fun _ => QT_field rfl rfl YtlmbpdlobpcahaaDoorF.fld_71_1 rfl) ?_
    refine TV_q rfl rfl rfl (fun _ => QT_indexArr i rfl rfl Tryd.underlying65 YtlmbpdlobpcahaaDoorF.sz_64 rfl rfl rfl (fun _ => hi16)) ?_
    refine TV_q rfl rfl rfl (fun _ => QT_field rfl rfl YtlmbpdlobpcahaaDoorF.fld_64_0 rfl) ?_
    refine TV_e0 rfl rfl rfl (rfl) (ET_store (vs := [.int .u32 ((a % 2 ^ CO : Nat) : Int)]) 0 rfl rfl rfl rfl YtlmbpdlobpcahaaDoorF.sz_62 rfl rfl hcl1) ?_
    rintro _ _ ⟨rfl, rfl⟩
    refine ⟨_, .drop (by kernel_rfl) (.drop (by kernel_rfl) (.nil)), ?_⟩
    refine TV_end ?_
    refine TX_then ?_
    refine TC_A (St w0 ((b5, 71, fz L fl X (2 * i + 1)) :: (b4, 71, shV (0 :: zer)) :: (b3, 71, shV (x0 :: X)) :: (b2, 27, L.cells) :: η)) (fun w h => by
      rw [← s1]
      have h' : St w0 ((b5, 71, setAt (fz L fl X (2 * i)) (0 + 1 + i * 2 + 0) [.int .u32 ((a % 2 ^ CO : Nat) : Int)]) :: (b4, 71, shV (0 :: zer)) :: (b3, 71, shV (x0 :: X)) :: (b2, 27, L.cells) :: η) w := h
      rw [show 0 + 1 + i * 2 + 0 = 2 * i + 1 by omega] at h'
      exact h') ?_
    refine TC_draw [(0, 0), (1, 0), (2, 0), (3, 0), (4, 0), (5, 0), (6, 0), (7, 0), (8, 0), (9, 0), (10, 0), (11, 0), (12, 0), (13, 0), (14, 1)] YtlmbpdlobpcahaaDoorF.mixed (by kernel_rfl) (St.calm _ _) ?_
    refine TV_q rfl rfl rfl (fun _ => QT_move rfl rfl rfl) ?_
    refine TV_q rfl rfl rfl (fun _ => QT_move rfl rfl rfl) ?_
    refine TV_q rfl rfl rfl (fun _ => QT_field rfl rfl YtlmbpdlobpcahaaDoorF.fld_71_1 rfl) ?_
    refine TV_q rfl rfl rfl (fun _ => QT_indexArr i rfl rfl Tryd.underlying65 YtlmbpdlobpcahaaDoorF.sz_64 rfl rfl rfl (fun _ => hi16)) ?_
    refine TV_q rfl rfl rfl (fun _ => QT_field rfl rfl YtlmbpdlobpcahaaDoorF.fld_64_1 rfl) ?_
    refine TV_ql rfl rfl rfl (QT_loadRj (v := .int .u32 (b : Int)) (2 * i + 1 + 1) rfl rfl Tryd.underlying62 rfl (hSr (fun w h => h.cnt fun p => by simp only [List.countP_append, List.countP_cons, List.countP_nil]; omega)) rfl (fun _ => hvb)) ?_
    refine TV_q rfl rfl rfl (fun _ => QT_field rfl rfl YtlmbpdlobpcahaaDoorF.fld_27_1 rfl) ?_
    refine TV_ql rfl rfl rfl (QT_loadRj (v := .int .i64 (CO : Int)) 1 rfl rfl Tryd.underlying3 rfl (hLr (fun w h => h.cnt fun p => by simp only [List.countP_append, List.countP_cons, List.countP_nil]; omega)) rfl (fun _ => lco)) ?_
    refine TV_q rfl rfl rfl (fun _ => QT_shl rfl rfl rfl rfl (fun _ => by omega)) ?_
    refine TV_q rfl rfl rfl (fun _ => QT_to (QT_subw rfl rfl rfl rfl) (mask_u32 ⟨CO, by omega⟩)) ?_
    refine TV_q rfl rfl rfl (fun _ => QT_to (QT_bits rfl rfl (by decide) rfl rfl) (cut_u32 hb32 hco32)) ?_
    refine TV_q rfl rfl rfl (fun _ => QT_field rfl rfl YtlmbpdlobpcahaaDoorF.fld_71_1 rfl) ?_
    refine TV_q rfl rfl rfl (fun _ => QT_indexArr i rfl rfl Tryd.underlying65 YtlmbpdlobpcahaaDoorF.sz_64 rfl rfl rfl (fun _ => hi16)) ?_
    refine TV_q rfl rfl rfl (fun _ => QT_field rfl rfl YtlmbpdlobpcahaaDoorF.fld_64_1 rfl) ?_
    refine TV_e0 rfl rfl rfl (rfl) (ET_store (vs := [.int .u32 ((b % 2 ^ CO : Nat) : Int)]) 0 rfl rfl rfl rfl YtlmbpdlobpcahaaDoorF.sz_62 rfl rfl hcl2) ?_
    rintro _ _ ⟨rfl, rfl⟩
    refine ⟨_, .drop (by kernel_rfl) (.drop (by kernel_rfl) (.nil)), ?_⟩
    refine TV_end ?_
    refine TX_block_normal ?_
    refine TX_then ?_
    refine TC_A (St w0 ((b5, 71, fz L fl X (2 * i + 1 + 1)) :: (b4, 71, shV (0 :: zer)) :: (b3, 71, shV (x0 :: X)) :: (b2, 27, L.cells) :: η)) (fun w h => by
      rw [← s2]
      have h' : St w0 ((b5, 71, setAt (fz L fl X (2 * i + 1)) (0 + 1 + i * 2 + 1) [.int .u32 ((b % 2 ^ CO : Nat) : Int)]) :: (b4, 71, shV (0 :: zer)) :: (b3, 71, shV (x0 :: X)) :: (b2, 27, L.cells) :: η) w := h
      rw [show 0 + 1 + i * 2 + 1 = 2 * i + 1 + 1 by omega] at h'
      exact h') ?_
    refine TC_reg ?_
    refine TL_q rfl rfl (QT_move rfl rfl rfl) ?_
    refine TL_q rfl rfl (QT_add rfl rfl rfl rfl (fun _ => ⟨by omega, by omega⟩)) ?_
    refine TL_q rfl rfl (QT_assign rfl rfl rfl) ?_
    refine TL_nil ?_
    exact TX_round ⟨i + 1, hip⟩ (by show ptN L fl - (i + 1) < ptN L fl - i; omega) ⟨rfl, rfl, rfl, rfl, rfl, rfl, rfl, trivial⟩ (fun _ h => h)
  ·
    refine TC_exit ?_
    refine TX_then_exit ?_
    refine TX_then_exit ?_
    refine TX_block_here ?_
    refine TX_then ?_
    refine TC_seq ?_
    refine TC_seq ?_
    obtain rfl : i = ptN L fl := by
      simp only [Bool.and_eq_false_iff, decide_eq_false_iff_not] at h35
      omega
    have k1 := fz_skip (L := L) (f := fl) hX.len (2 * ptN L fl) (32 - 2 * ptN L fl) (by omega) fun p h1 h2 => skip_pt h1 (by omega)
    rw [show 2 * ptN L fl + (32 - 2 * ptN L fl) = 32 by omega] at k1
    rw [← k1]
    refine TC_reg ?_
    refine TL_q rfl rfl (QT_assign rfl rfl rfl) ?_
    refine TL_nil ?_
    refine TX_then ?_
    refine TC_block ?_
    refine TC_loop (γ := { c : Nat // c ≤ clN L fl }) (fun u => [(2, true, .pointer (some ⟨b2, 0, none⟩)), (3, true, .pointer (some ⟨b3, 0, none⟩)), (4, true, .pointer (some ⟨b4, 0, none⟩)), (5, true, .pointer (some ⟨b5, 0, none⟩)), (7, true, .int .i64 (clN L fl : Int)), (9, true, .int .i64 (u.1 : Int))]) (fun u => St w0 ((b5, 71, fz L fl X (32 + 4 * u.1)) :: (b4, 71, shV (0 :: zer)) :: (b3, 71, shV (x0 :: X)) :: (b2, 27, L.cells) :: η)) (fun u => clN L fl - u.1) ⟨0, Nat.zero_le _⟩ ⟨rfl, rfl, rfl, rfl, rfl, rfl, trivial⟩ (fun _ h => h) ?_
    rintro ⟨c, hcc⟩
    dsimp only
    refine TC_seq ?_
    refine TC_seq ?_
    refine TC_reg ?_
    refine TL_q rfl rfl (QT_move rfl rfl rfl) ?_
    refine TL_q rfl rfl (QT_move rfl rfl rfl) ?_
    refine TL_q rfl rfl (QT_lss rfl rfl rfl rfl) ?_
    refine TL_nil ?_
    refine TX_then ?_
    first
      | refine TC_cond_dec rfl (fun h68 => ?_) (fun h68 => ?_)
      | refine TC_cond rfl (fun h68 => ?_) (fun h68 => ?_)
    ·
      have hc4 : c < clN L fl := by omega
      refine TC_skip ?_
      refine TX_then ?_
      refine TC_seq ?_
      refine TC_block ?_
      refine TC_seq ?_
      refine TC_reg ?_
      refine TL_q rfl rfl (QT_assign rfl rfl rfl) ?_
      refine TL_nil ?_
      refine TX_then ?_
      refine TC_block ?_
      refine TC_loop (γ := { d : Nat // d ≤ CS }) (fun u => [(2, true, .pointer (some ⟨b2, 0, none⟩)), (3, true, .pointer (some ⟨b3, 0, none⟩)), (4, true, .pointer (some ⟨b4, 0, none⟩)), (5, true, .pointer (some ⟨b5, 0, none⟩)), (7, true, .int .i64 (clN L fl : Int)), (9, true, .int .i64 (c : Int)), (10, true, .int .i64 (u.1 : Int))]) (fun u => St w0 ((b5, 71, fz L fl X (32 + 4 * c + u.1)) :: (b4, 71, shV (0 :: zer)) :: (b3, 71, shV (x0 :: X)) :: (b2, 27, L.cells) :: η)) (fun u => CS - u.1) ⟨0, Nat.zero_le _⟩ ⟨rfl, rfl, rfl, rfl, rfl, rfl, rfl, trivial⟩ (fun _ h => h) ?_
      rintro ⟨d, hdd⟩
      dsimp only
      refine TC_seq ?_
      refine TC_seq ?_
      refine TC_reg ?_
      refine TL_q rfl rfl (QT_move rfl rfl rfl) ?_
      refine TL_q rfl rfl (QT_field rfl rfl YtlmbpdlobpcahaaDoorF.fld_27_4 rfl) ?_
      refine TL_q rfl rfl (QT_loadRj (v := .int .i64 (CS : Int)) 4 rfl rfl Tryd.underlying3 rfl (hLr (fun w h => h.cnt fun p => by simp only [List.countP_append, List.countP_cons, List.countP_nil]; omega)) rfl (fun _ => lcs)) ?_
      refine TL_q rfl rfl (QT_lss rfl rfl rfl rfl) ?_
      refine TL_q rfl rfl (QT_move rfl rfl rfl) ?_
      refine TL_q rfl rfl (QT_move rfl rfl rfl) ?_
      refine TL_q rfl rfl (QT_lss rfl rfl rfl rfl) ?_
      refine TL_q rfl rfl (QT_and rfl rfl rfl rfl) ?_
      refine TL_nil ?_
      refine TX_then ?_
      first
        | refine TC_cond_dec rfl (fun h78 => ?_) (fun h78 => ?_)
        | refine TC_cond rfl (fun h78 => ?_) (fun h78 => ?_)
      ·
        have hd : d < CS := by
          simp only [Bool.and_eq_true, decide_eq_true_eq] at h78
          omega
        have hw : wCl L fl (4 * c + d) = CM := by unfold wCl; rw [show (4 * c + d) / 4 = c by omega, show (4 * c + d) % 4 = d by omega, if_pos ⟨hc4, by omega⟩, hCM]
        have w1 : (wS L fl)[32 + 4 * c + d]? = some (CM, 65536) := by rw [Nat.add_assoc, wS_cl (by omega), hw]
        obtain ⟨a, ha⟩ := get48 hX.len (show 32 + 4 * c + d < 48 by omega)
        have ha16 := hX.cl ha (by omega)
        have s1 := fz_step hX.len w1 ha
        have hu1 : skK (32 + 4 * c + d + 1) = .u16 := by unfold skK; rw [if_neg (by omega), if_neg (by omega)]
        have hva := shV_at (xs := x0 :: X) (p := 32 + 4 * c + d + 1) (by omega) (by rw [List.getElem?_cons_succ]; exact ha)
        have hcl1 : Nat.ble (0 + 33 + c * 4 + d * 1 + 1) (fz L fl X (32 + 4 * c + d)).length = true := cells_lt (off := 0 + 33 + c * 4 + d * 1) (by rw [show 0 + 33 + c * 4 + d * 1 = 32 + 4 * c + d + 1 by omega]; exact fz_at hX.len (by omega))
        rw [hu1] at s1 hva
        refine TC_skip ?_
        refine TX_then ?_
        refine TC_seq ?_
        refine TC_block ?_
        refine TC_draw [(0, 0), (1, 0), (2, 0), (3, 0), (4, 0), (5, 0), (6, 0), (7, 0), (8, 0), (9, 0), (10, 0), (11, 0), (12, 0), (13, 0), (14, 0), (15, 0), (16, 1)] YtlmbpdlobpcahaaDoorF.mixed (by kernel_rfl) (St.calm _ _) ?_
        refine TV_q rfl rfl rfl (fun _ => QT_move rfl rfl rfl) ?_
        refine TV_q rfl rfl rfl (fun _ => QT_move rfl rfl rfl) ?_
        refine TV_q rfl rfl rfl (fun _ => QT_move rfl rfl rfl) ?_
        refine TV_q rfl rfl rfl (fun _ => QT_move rfl rfl rfl) ?_
        refine TV_q rfl rfl rfl (fun _ => QT_field rfl rfl YtlmbpdlobpcahaaDoorF.fld_71_2 rfl) ?_
        refine TV_q rfl rfl rfl (fun _ => QT_indexArr c rfl rfl Tryd.underlying69 YtlmbpdlobpcahaaDoorF.sz_68 rfl rfl rfl (fun _ => by omega)) ?_
        refine TV_q rfl rfl rfl (fun _ => QT_indexArr d rfl rfl Tryd.underlying68 YtlmbpdlobpcahaaDoorF.sz_66 rfl rfl rfl (fun _ => by omega)) ?_
        refine TV_ql rfl rfl rfl (QT_loadRj (v := .int .u16 (a : Int)) (32 + 4 * c + d + 1) rfl rfl Tryd.underlying66 rfl (hSr (fun w h => h.cnt fun p => by simp only [List.countP_append, List.countP_cons, List.countP_nil]; omega)) rfl (fun _ => hva)) ?_
        refine TV_q rfl rfl rfl (fun _ => QT_field rfl rfl YtlmbpdlobpcahaaDoorF.fld_27_2 rfl) ?_
        refine TV_ql rfl rfl rfl (QT_loadRj (v := .int .i64 (CM : Int)) 2 rfl rfl Tryd.underlying3 rfl (hLr (fun w h => h.cnt fun p => by simp only [List.countP_append, List.countP_cons, List.countP_nil]; omega)) rfl (fun _ => lcm)) ?_
        refine TV_q rfl rfl rfl (fun _ => QT_shl rfl rfl rfl rfl (fun _ => by omega)) ?_
        refine TV_q rfl rfl rfl (fun _ => QT_to (QT_subw rfl rfl rfl rfl) (mask_u16 ⟨CM, by omega⟩)) ?_
        refine TV_q rfl rfl rfl (fun _ => QT_to (QT_bits rfl rfl (by decide) rfl rfl) (cut_u16 ha16 hcm16)) ?_
        refine TV_q rfl rfl rfl (fun _ => QT_field rfl rfl YtlmbpdlobpcahaaDoorF.fld_71_2 rfl) ?_
        refine TV_q rfl rfl rfl (fun _ => QT_indexArr c rfl rfl Tryd.underlying69 YtlmbpdlobpcahaaDoorF.sz_68 rfl rfl rfl (fun _ => by omega)) ?_
        refine TV_q rfl rfl rfl (fun _ => QT_indexArr d rfl rfl Tryd.underlying68 YtlmbpdlobpcahaaDoorF.sz_66 rfl rfl rfl (fun _ => by omega)) ?_
        refine TV_e0 rfl rfl rfl (rfl) (ET_store (vs := [.int .u16 ((a % 2 ^ CM : Nat) : Int)]) 0 rfl rfl rfl rfl YtlmbpdlobpcahaaDoorF.sz_66 rfl rfl hcl1) ?_
        rintro _ _ ⟨rfl, rfl⟩
        refine ⟨_, .drop (by kernel_rfl) (.drop (by kernel_rfl) (.nil)), ?_⟩
        refine TV_end ?_
        refine TX_block_normal ?_
        refine TX_then ?_
        refine TC_A (St w0 ((b5, 71, fz L fl X (32 + 4 * c + d + 1)) :: (b4, 71, shV (0 :: zer)) :: (b3, 71, shV (x0 :: X)) :: (b2, 27, L.cells) :: η)) (fun w h => by
          rw [← s1]
          have h' : St w0 ((b5, 71, setAt (fz L fl X (32 + 4 * c + d)) (0 + 33 + c * 4 + d * 1) [.int .u16 ((a % 2 ^ CM : Nat) : Int)]) :: (b4, 71, shV (0 :: zer)) :: (b3, 71, shV (x0 :: X)) :: (b2, 27, L.cells) :: η) w := h
          rw [show 0 + 33 + c * 4 + d * 1 = 32 + 4 * c + d + 1 by omega] at h'
          exact h') ?_
        refine TC_reg ?_
        refine TL_q rfl rfl (QT_move rfl rfl rfl) ?_
        refine TL_q rfl rfl (QT_add rfl rfl rfl rfl (fun _ => ⟨by omega, by omega⟩)) ?_
        refine TL_q rfl rfl (QT_assign rfl rfl rfl) ?_
        refine TL_nil ?_
        exact TX_round ⟨d + 1, hd⟩ (by show CS - (d + 1) < CS - d; omega) ⟨rfl, rfl, rfl, rfl, rfl, rfl, rfl, trivial⟩ (fun _ h => h)
      ·
        refine TC_exit ?_
        refine TX_then_exit ?_
        refine TX_then_exit ?_
        refine TX_block_here ?_
        refine TX_block_normal ?_
        refine TX_then ?_
        obtain rfl : d = CS := by
          simp only [Bool.and_eq_false_iff, decide_eq_false_iff_not] at h78
          omega
        have k3 := fz_skip (L := L) (f := fl) hX.len (32 + 4 * c + d) (4 - d) (by omega) fun p h1 h2 => skip_cl (c := c) (by omega) (by omega) (.inr (by omega))
        rw [show 32 + 4 * c + d + (4 - d) = 32 + 4 * (c + 1) by omega] at k3
        rw [← k3]
        refine TC_reg ?_
        refine TL_q rfl rfl (QT_move rfl rfl rfl) ?_
        refine TL_q rfl rfl (QT_add rfl rfl rfl rfl (fun _ => ⟨by omega, by omega⟩)) ?_
        refine TL_q rfl rfl (QT_assign rfl rfl rfl) ?_
        refine TL_nil ?_
        exact TX_round ⟨c + 1, hc4⟩ (by show clN L fl - (c + 1) < clN L fl - c; omega) ⟨rfl, rfl, rfl, rfl, rfl, rfl, trivial⟩ (fun _ h => h)
    ·
      refine TC_exit ?_
      refine TX_then_exit ?_
      refine TX_then_exit ?_
      refine TX_block_here ?_
      refine TX_then ?_
      refine TC_seq ?_
      obtain rfl : c = clN L fl := by omega
      have k5 := fz_skip (L := L) (f := fl) hX.len (32 + 4 * clN L fl) (48 - (32 + 4 * clN L fl)) (by omega) fun p h1 h2 => skip_cl (c := 0) (by omega) (by omega) (.inl (by omega))
      rw [show 32 + 4 * clN L fl + (48 - (32 + 4 * clN L fl)) = 48 by omega, fz_all hX.len] at k5
      rw [← k5]
      refine TC_reg ?_
      refine TL_q rfl rfl (QT_loadW (cs := shV (fl :: cutX L fl X)) 0 rfl rfl Tryd.underlying71 rfl rfl rfl hyz) ?_
      refine TL_e0 rfl rfl (rfl) (ET_storeW (vs := shV (fl :: cutX L fl X)) 1 rfl rfl rfl hyz rfl (List.all_eq_true.2 hyi.oneCell) (by rw [hyl0]; rfl)) ?_
      rintro _ _ ⟨rfl, rfl⟩
      refine TL_nil ?_
      refine TX_then ?_
      refine TC_ret ?_
      exact TX_ret (.inl rfl) (resC 1 rfl rfl Tryd.underlying71 rfl rfl hyz) ⟨_, ⟨rfl, rfl⟩, (fun _ h => by first | exact h | exact h.tail | exact h.tail.tail | exact h.tail.tail.tail | exact h.tail.tail.tail.tail | exact h.tail.tail.tail.tail.tail | exact h.tail.tail.tail.tail.tail.tail | exact h.tail.tail.tail.tail.tail.tail.tail | exact h.tail.tail.tail.tail.tail.tail.tail.tail | exact h.tail.tail.tail.tail.tail.tail.tail.tail.tail | exact h.tail.tail.tail.tail.tail.tail.tail.tail.tail.tail | exact h.tail.tail.tail.tail.tail.tail.tail.tail.tail.tail.tail | exact h.tail.tail.tail.tail.tail.tail.tail.tail.tail.tail.tail.tail | exact h.tail.tail.tail.tail.tail.tail.tail.tail.tail.tail.tail.tail.tail)⟩
theorem cut_spec (w0 : World) (η : Heap) (L : Lay) (hok : okB L = true) (hty : L.ty = 6 ∨ L.ty = 7) (sv : Value) (ys : List (List Nat)) (hs : SlA (St w0 η) sv 49 ys.length (flatS ys)) (hy : ∀ y ∈ ys, ShF y) (hn : ys.length ≤ 1000) :
    CallsT Tryd.prog 24 [L.val, sv] (St w0 η) fun v A' => ∃ H, Frag 71 49 v (ys.map (cutS L)).length (flatS (ys.map (cutS L))) H ∧ A' = St w0 (H ++ η) := by
  obtain ⟨hxl, ad, cap, sb, so, rfl, hcap, had, hrd⟩ := hs.some
  refine CallsT.body Tryd.func24 rfl rfl ?_
  simp only [Tryd.ntmps24, slotsOf, Nat.reduceAdd]
  refine TC_seq ?_
  refine TC_reg ?_
  refine TL_e rfl rfl rfl (rfl) (ET_box rfl rfl) ?_
  rintro _ _ ⟨b2, rfl, rfl⟩
  refine TL_q rfl rfl (QT_assign rfl rfl rfl) ?_
  refine TL_nil ?_
  refine TX_then ?_
  refine TC_seq ?_
  refine TC_reg ?_
  refine TL_q rfl rfl (QT_assign rfl rfl rfl) ?_
  refine TL_nil ?_
  refine TX_then ?_
  refine TC_seq ?_
  refine TC_seq ?_
  refine TC_reg ?_
  refine TL_q rfl rfl (QT_assign rfl rfl rfl) ?_
  refine TL_nil ?_
  refine TX_then ?_
  refine TC_block ?_
  refine TC_loop (γ := { t : Nat × Value × Heap // t.1 ≤ ys.length ∧ Frag 71 49 t.2.1 t.1 (flatS ((ys.take t.1).map (cutS L))) t.2.2 }) (fun u => [(1, true, .slice ad ys.length cap), (2, true, .pointer (some ⟨b2, 0, none⟩)), (5, true, u.1.2.1), (6, true, .int .i64 (u.1.1 : Int))]) (fun u => St w0 ((b2, 27, L.cells) :: (u.1.2.2 ++ η))) (fun u => ys.length - u.1.1) ⟨(0, .slice none 0 0, []), Nat.zero_le _, Frag.nil _ _⟩ ⟨rfl, rfl, rfl, rfl, trivial⟩ (fun _ h => h) ?_
  rintro ⟨⟨i, ov, H⟩, hin, hF⟩
  dsimp only at hin hF ⊢
  refine TC_seq ?_
  refine TC_seq ?_
  refine TC_reg ?_
  refine TL_q rfl rfl (QT_move rfl rfl rfl) ?_
  refine TL_q rfl rfl (QT_move rfl rfl rfl) ?_
  refine TL_q rfl rfl (QT_len rfl rfl Tryd.underlying31 rfl) ?_
  refine TL_q rfl rfl (QT_lss rfl rfl rfl rfl) ?_
  refine TL_nil ?_
  refine TX_then ?_
  first
    | refine TC_cond_dec rfl (fun h10 => ?_) (fun h10 => ?_)
    | refine TC_cond rfl (fun h10 => ?_) (fun h10 => ?_)
  ·
    have hi' : i < ys.length := by omega
    obtain ⟨y, hyi⟩ : ∃ y, ys[i]? = some y := ⟨_, List.getElem?_eq_getElem hi'⟩
    have hyF := hy y (List.mem_of_getElem? hyi)
    obtain ⟨hat1, hat2⟩ := flatS_at hy hyi
    have htk : ys.take (i + 1) = ys.take i ++ [y] := by rw [List.take_add_one, hyi]; rfl
    have hcF := cutS_shf (L := L) hyF
    have hcl : (shV (cutS L y)).length = 49 := shV_len hcF.len
    have hci := shV_ints hcF
    refine TC_skip ?_
    refine TX_then ?_
    refine TC_seq ?_
    refine TC_block ?_
    refine TC_draw [(0, 0), (1, 0), (2, 0), (3, 0), (4, 0), (5, 0), (6, 1), (7, 1), (8, 1), (9, 0)] YtlmbpdlobpcahaaDoorF.mixed (by kernel_rfl) (St.calm _ _) ?_
    refine TV_q rfl rfl rfl (fun _ => QT_move rfl rfl rfl) ?_
    first
      | refine TV_ql rfl rfl rfl (QT_loadW (cs := L.cells) 0 rfl rfl Tryd.underlying27 rfl rfl rfl YtlmbpdlobpcahaaDoorF.sz_27) ?_
      | refine TV_ql rfl rfl rfl (QT_loadW (cs := L.cells) 1 rfl rfl Tryd.underlying27 rfl rfl rfl YtlmbpdlobpcahaaDoorF.sz_27) ?_
    refine TV_q rfl rfl rfl (fun _ => QT_move rfl rfl rfl) ?_
    refine TV_q rfl rfl rfl (fun _ => QT_move rfl rfl rfl) ?_
    refine TV_q rfl rfl rfl (fun _ => QT_indexG i rfl rfl Tryd.underlying31 YtlmbpdlobpcahaaDoorF.sz_71 rfl rfl rfl (fun _ => hi') (fun _ => had (by omega))) ?_
    refine TV_ql rfl rfl rfl (QT_loadRAj (out := shV y) (i * 49) rfl rfl Tryd.underlying71 rfl YtlmbpdlobpcahaaDoorF.sz_71 (hrd.mono fun _ h => h.tail.app_right) rfl (fun _ => hat1) (fun _ => hat2)) ?_
    refine TV_cq rfl rfl rfl rfl rfl YtlmbpdlobpcahaaDoorF.cal_88 rfl (fun _ => fitting_spec w0 _ L hok hty y hyF) (.drop (by kernel_rfl) (.drop (by kernel_rfl) (.nil))) ?_
    refine TV_e rfl rfl rfl rfl (rfl) (ET_buildN [_] rfl Tryd.underlying31 YtlmbpdlobpcahaaDoorF.sz_71 YtlmbpdlobpcahaaDoorF.zero_71 rfl rfl rfl (fun v hv => by cases List.mem_singleton.1 hv; exact hcl)) ?_
    rintro _ _ ⟨b20, rfl, rfl⟩
    refine ⟨_, .nil, ?_⟩
    refine TV_e rfl rfl rfl rfl (rfl) (ET_appendL (L := [_, _]) rfl Tryd.underlying31 el_Sheet rfl rfl hF (fun _ h => h) (SlA.own (n := 1) (xs := shV (cutS L y)) 0 rfl (by rw [List.drop_zero, List.take_of_length_le (by simp [Value.cells, hcl])]; simp [Value.cells]) (by simp [Value.cells, hcl]) (by omega)) hci.oneCell (by omega) (by omega)) ?_
    rintro sv2 _ ⟨H', hF', rfl⟩
    refine ⟨_, .nil, ?_⟩
    refine TV_q rfl rfl rfl (fun _ => QT_assign rfl rfl rfl) ?_
    refine TV_end ?_
    refine TX_block_normal ?_
    refine TX_then ?_
    refine TC_reg ?_
    refine TL_q rfl rfl (QT_move rfl rfl rfl) ?_
    refine TL_q rfl rfl (QT_add rfl rfl rfl rfl (fun _ => ⟨by omega, by omega⟩)) ?_
    refine TL_q rfl rfl (QT_assign rfl rfl rfl) ?_
    refine TL_nil ?_
    exact TX_round ⟨(i + 1, sv2, H'), hi', by rw [htk, List.map_append, flatS_append]; simpa [flatS] using hF'⟩ (by show ys.length - (i + 1) < ys.length - i; omega) ⟨rfl, rfl, rfl, rfl, trivial⟩ (fun _ h => h.tail)
  ·
    refine TC_exit ?_
    refine TX_then_exit ?_
    refine TX_then_exit ?_
    refine TX_block_here ?_
    refine TX_then ?_
    refine TC_seq ?_
    refine TC_reg ?_
    refine TL_q rfl rfl (QT_move rfl rfl rfl) ?_
    refine TL_q rfl rfl (QT_assign rfl rfl rfl) ?_
    refine TL_nil ?_
    refine TX_then ?_
    refine TC_ret ?_
    obtain rfl : i = ys.length := by omega
    rw [List.take_of_length_le (Nat.le_refl _)] at hF
    exact TX_ret (.inl rfl) (res1 rfl rfl) ⟨_, ⟨H, by rw [List.length_map]; exact hF, rfl⟩, fun _ h => h.tail⟩
end Go.Proofs.YtlmbpdlobpcahaaDoor

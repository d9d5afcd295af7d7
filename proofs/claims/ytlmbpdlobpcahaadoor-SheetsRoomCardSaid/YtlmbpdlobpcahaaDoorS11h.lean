/- THE DOCUMENT's CHECK, and its ROOM. -/
import Derived.Test.YtlmbpdlobpcahaaDoorS11g
import Derived.Test.YtlmbpdlobpcahaaDoorL08b
namespace Go.Proofs.YtlmbpdlobpcahaaDoor
open Go Go.Gx Go.RowKit
set_option maxRecDepth 100000
theorem QT_v {P : Program} {n : Nat} {ops : Array Oper} {o : Oper} {σ : Slots} {A : World → Prop} {g : Bool} {v v' : Value} (h : QT P n ops o σ A g v) (e : v = v') : QT P n ops o σ A g v' := e ▸ h
theorem slotV {σ : Slots} {t : Nat} {c : Bool} {v v' : Value} (hl : Go.Gx.look σ t = some (c, v)) (h : v = v') : Go.Gx.look σ t = some (c, v') := h ▸ hl
def okS (L : Lay) : Bool := decide (okB L = true ∧ 6 ≤ L.ty)
theorem rscheck_spec (w0 : World) (η : Heap) (L : Lay) :
    CallsT Tryd.prog 31 [L.val] (St w0 η) fun v A' => v = .bool (okS L) ∧ A' = St w0 η := by
  refine CallsT.body Tryd.func31 rfl rfl ?_
  simp only [Tryd.ntmps31, slotsOf, Nat.reduceAdd]
  refine TC_seq ?_
  refine TC_reg ?_
  refine TL_e rfl rfl rfl (rfl) (ET_box rfl rfl) ?_
  rintro _ _ ⟨b1, rfl, rfl⟩
  refine TL_q rfl rfl (QT_assign rfl rfl rfl) ?_
  refine TL_nil ?_
  refine TX_then ?_
  refine TC_seq ?_
  refine TC_reg ?_
  first
    | refine TL_q rfl rfl (QT_loadW 0 rfl rfl Tryd.underlying27 rfl rfl rfl YtlmbpdlobpcahaaDoorF.sz_27) ?_
    | refine TL_q rfl rfl (QT_loadW 1 rfl rfl Tryd.underlying27 rfl rfl rfl YtlmbpdlobpcahaaDoorF.sz_27) ?_
    | refine TL_q rfl rfl (QT_loadW 2 rfl rfl Tryd.underlying27 rfl rfl rfl YtlmbpdlobpcahaaDoorF.sz_27) ?_
    | refine TL_q rfl rfl (QT_loadA 0 rfl rfl Tryd.underlying27 rfl rfl rfl YtlmbpdlobpcahaaDoorF.sz_27 (fun _ => rfl)) ?_
    | refine TL_q rfl rfl (QT_loadA 1 rfl rfl Tryd.underlying27 rfl rfl rfl YtlmbpdlobpcahaaDoorF.sz_27 (fun _ => rfl)) ?_
    | refine TL_q rfl rfl (QT_loadA 2 rfl rfl Tryd.underlying27 rfl rfl rfl YtlmbpdlobpcahaaDoorF.sz_27 (fun _ => rfl)) ?_
  refine TL_cq rfl rfl rfl rfl YtlmbpdlobpcahaaDoorF.cal_93 rfl (fun _ => rcheck_spec w0 _ L) ?_
  refine TL_q rfl rfl (QT_eql rfl rfl rfl rfl) ?_
  refine TL_q rfl rfl (QT_move rfl rfl rfl) ?_
  refine TL_q rfl rfl (QT_field rfl rfl YtlmbpdlobpcahaaDoorF.fld_27_0 rfl) ?_
  first
    | refine TL_q rfl rfl (QT_load 0 rfl rfl Tryd.underlying3 rfl rfl rfl (fun _ => rfl)) ?_
    | refine TL_q rfl rfl (QT_load 1 rfl rfl Tryd.underlying3 rfl rfl rfl (fun _ => rfl)) ?_
    | refine TL_q rfl rfl (QT_load 2 rfl rfl Tryd.underlying3 rfl rfl rfl (fun _ => rfl)) ?_
  refine TL_q rfl rfl (QT_eql rfl rfl rfl rfl) ?_
  refine TL_q rfl rfl (QT_move rfl rfl rfl) ?_
  refine TL_q rfl rfl (QT_field rfl rfl YtlmbpdlobpcahaaDoorF.fld_27_0 rfl) ?_
  first
    | refine TL_q rfl rfl (QT_load 0 rfl rfl Tryd.underlying3 rfl rfl rfl (fun _ => rfl)) ?_
    | refine TL_q rfl rfl (QT_load 1 rfl rfl Tryd.underlying3 rfl rfl rfl (fun _ => rfl)) ?_
    | refine TL_q rfl rfl (QT_load 2 rfl rfl Tryd.underlying3 rfl rfl rfl (fun _ => rfl)) ?_
  refine TL_q rfl rfl (QT_eql rfl rfl rfl rfl) ?_
  refine TL_q rfl rfl (QT_or rfl rfl rfl rfl) ?_
  refine TL_q rfl rfl (QT_and rfl rfl rfl rfl) ?_
  refine TL_q rfl rfl (QT_assign rfl rfl rfl) ?_
  refine TL_nil ?_
  refine TX_then ?_
  refine TC_ret ?_
  exact TX_ret (.inl rfl) (res1 rfl rfl) ⟨_, ⟨by
    unfold okS errOf
    by_cases h : okB L = true
    · have := (okB_bounds h).2.2.2.1
      rw [if_pos h]
      congr 1
      rw [Bool.eq_iff_iff]
      simp [h]
      omega
    · simp [h], rfl⟩, (fun _ h => by first | exact h | exact h.tail | exact h.tail.tail | exact h.tail.tail.tail | exact h.tail.tail.tail.tail | exact h.tail.tail.tail.tail.tail | exact h.tail.tail.tail.tail.tail.tail | exact h.tail.tail.tail.tail.tail.tail.tail | exact h.tail.tail.tail.tail.tail.tail.tail.tail | exact h.tail.tail.tail.tail.tail.tail.tail.tail.tail | exact h.tail.tail.tail.tail.tail.tail.tail.tail.tail.tail | exact h.tail.tail.tail.tail.tail.tail.tail.tail.tail.tail.tail | exact h.tail.tail.tail.tail.tail.tail.tail.tail.tail.tail.tail.tail | exact h.tail.tail.tail.tail.tail.tail.tail.tail.tail.tail.tail.tail.tail)⟩
theorem shr_zero {v : Nat} {n : Int} (hv : v < 4294967296) (h0 : 0 ≤ n) : decide ((v : Int).fdiv (2 ^ (min n.toNat IntKind.u64.bits)) = 0) = decide (v < 2 ^ n.toNat) := by
  rw [shr64 hv h0, Bool.eq_iff_iff, decide_eq_true_eq, decide_eq_true_eq, show ((v / 2 ^ n.toNat : Nat) : Int) = 0 ↔ v / 2 ^ n.toNat = 0 by omega, Nat.div_eq_zero_iff]
  have := Nat.two_pow_pos n.toNat
  omega
theorem fitB_append : ∀ {a b : Ws} {xs zs : List Nat}, a.length = xs.length → fitB (a ++ b) (xs ++ zs) = (fitB a xs && fitB b zs)
  | [], b, [], zs, _ => by simp [fitB]
  | [], _, _ :: _, _, h => by simp at h
  | _ :: _, _, [], _, h => by simp at h
  | (w, m) :: a, b, x :: xs, zs, h => by
    simp only [List.cons_append, fitB]
    rw [fitB_append (by simpa using h), Bool.and_assoc]
def rmB (L : Lay) (x0 : Nat) (X : List Nat) (k : Nat) : Bool := decide (x0 < 2 ^ L.fl.toNat) && fitB ((wS L x0).take k) (X.take k)
theorem rmB_step {L : Lay} {x0 k w m x : Nat} {X : List Nat} (hw : (wS L x0)[k]? = some (w, m)) (hx : X[k]? = some x) : rmB L x0 X (k + 1) = (rmB L x0 X k && decide (x < 2 ^ w)) := by
  have h1 : k < (wS L x0).length := (List.getElem?_eq_some_iff.1 hw).1
  have h2 : k < X.length := (List.getElem?_eq_some_iff.1 hx).1
  unfold rmB
  rw [List.take_add_one, List.take_add_one, hw, hx]
  show (_ && fitB ((wS L x0).take k ++ [(w, m)]) (X.take k ++ [x])) = _
  rw [fitB_append (by rw [List.length_take, List.length_take]; omega), ← Bool.and_assoc]
  simp [fitB]
theorem rmB_all {L : Lay} {x0 : Nat} {X : List Nat} (h : X.length = 48) : rmB L x0 X 48 = fitS L (x0 :: X) := by
  unfold rmB fitS
  rw [List.take_of_length_le (by rw [wS_len]; exact Nat.le_refl _), List.take_of_length_le (by omega)]
  rfl
theorem eq0 : EqOk Tryd.prog 64 spotK := ⟨by kernel_rfl, by kernel_rfl, by kernel_rfl, by kernel_rfl⟩
theorem spot0 {a b : Nat} : eqC [.int .u32 (a : Int), .int .u32 (b : Int)] [.int .u32 0, .int .u32 0] = (decide (a < 2 ^ 0) && decide (b < 2 ^ 0)) := by
  rw [Bool.eq_iff_iff]
  simp [eqC, litOf]
set_option maxHeartbeats 1000000 in
theorem room_spec (w0 : World) (η : Heap) (L : Lay) (hok : okB L = true) (hty : L.ty = 6 ∨ L.ty = 7) (y : List Nat) (hy : ShF y) :
    CallsT Tryd.prog 81 [L.val, .agg (shV y).toArray] (St w0 η) fun v A' => v = .bool (fitS L y) ∧ A' = St w0 η := by
  obtain ⟨x0, X, rfl, h0, hX⟩ := hy
  have hbd := okB_bounds hok
  have hfl := hbd.2.2.2.2.2 (by omega)
  have hp := (ptN_bd L x0).2.2
  have hc := (clN_bd L x0).2.2
  have hparts := fun A => parts_spec w0 A L (x0 : Int) (by omega)
  rw [hp, hc] at hparts
  refine CallsT.body Tryd.func81 rfl rfl ?_
  simp only [Tryd.ntmps81, slotsOf, Nat.reduceAdd]
  refine TC_seq ?_
  refine TC_reg ?_
  refine TL_e rfl rfl rfl (rfl) (ET_box rfl rfl) ?_
  rintro _ _ ⟨b2, rfl, rfl⟩
  refine TL_e rfl rfl rfl (rfl) (ET_box rfl rfl) ?_
  rintro _ _ ⟨b3, rfl, rfl⟩
  refine TL_q rfl rfl (QT_assign rfl rfl rfl) ?_
  refine TL_nil ?_
  refine TX_then ?_
  refine TC_seq ?_
  refine TC_A (St w0 ((b3, 71, shV (x0 :: X)) :: (b2, 27, L.cells) :: η)) (fun _ h => h) ?_
  refine TC_reg ?_
  first
    | refine TL_q rfl rfl (QT_loadW 0 rfl rfl Tryd.underlying27 rfl rfl rfl YtlmbpdlobpcahaaDoorF.sz_27) ?_
    | refine TL_q rfl rfl (QT_loadW 1 rfl rfl Tryd.underlying27 rfl rfl rfl YtlmbpdlobpcahaaDoorF.sz_27) ?_
    | refine TL_q rfl rfl (QT_loadW 2 rfl rfl Tryd.underlying27 rfl rfl rfl YtlmbpdlobpcahaaDoorF.sz_27) ?_
    | refine TL_q rfl rfl (QT_loadA 0 rfl rfl Tryd.underlying27 rfl rfl rfl YtlmbpdlobpcahaaDoorF.sz_27 (fun _ => rfl)) ?_
    | refine TL_q rfl rfl (QT_loadA 1 rfl rfl Tryd.underlying27 rfl rfl rfl YtlmbpdlobpcahaaDoorF.sz_27 (fun _ => rfl)) ?_
    | refine TL_q rfl rfl (QT_loadA 2 rfl rfl Tryd.underlying27 rfl rfl rfl YtlmbpdlobpcahaaDoorF.sz_27 (fun _ => rfl)) ?_
  refine TL_q rfl rfl (QT_field rfl rfl YtlmbpdlobpcahaaDoorF.fld_71_0 rfl) ?_
  refine TL_q rfl rfl (QT_load (v := .int .u8 (x0 : Int)) 0 rfl rfl Tryd.underlying5 rfl rfl rfl (fun _ => shV_at (xs := x0 :: X) (p := 0) (by decide) rfl)) ?_
  refine TL_cq rfl rfl rfl rfl YtlmbpdlobpcahaaDoorF.cal_34 rfl (fun _ => hparts _) ?_
  refine TL_q rfl rfl (QT_move rfl rfl rfl) ?_
  refine TL_q rfl rfl (QT_extract rfl rfl rfl rfl) ?_
  refine TL_q rfl rfl (QT_extract rfl rfl rfl rfl) ?_
  refine TL_q rfl rfl (QT_assign rfl rfl rfl) ?_
  refine TL_q rfl rfl (QT_assign rfl rfl rfl) ?_
  refine TL_nil ?_
  refine TX_then ?_
  refine TC_seq ?_
  refine TC_reg ?_
  refine TL_q rfl rfl (QT_field rfl rfl YtlmbpdlobpcahaaDoorF.fld_71_0 rfl) ?_
  refine TL_q rfl rfl (QT_load (v := .int .u8 (x0 : Int)) 0 rfl rfl Tryd.underlying5 rfl rfl rfl (fun _ => shV_at (xs := x0 :: X) (p := 0) (by decide) rfl)) ?_
  refine TL_q rfl rfl (QT_convN rfl rfl Tryd.underlying5 Tryd.underlying76 rfl (IntWalk.u64_in _ ⟨by omega, by omega⟩)) ?_
  refine TL_q rfl rfl (QT_field rfl rfl YtlmbpdlobpcahaaDoorF.fld_27_3 rfl) ?_
  first
    | refine TL_q rfl rfl (QT_load 0 rfl rfl Tryd.underlying3 rfl rfl rfl (fun _ => rfl)) ?_
    | refine TL_q rfl rfl (QT_load 1 rfl rfl Tryd.underlying3 rfl rfl rfl (fun _ => rfl)) ?_
    | refine TL_q rfl rfl (QT_load 2 rfl rfl Tryd.underlying3 rfl rfl rfl (fun _ => rfl)) ?_
  refine TL_q rfl rfl (QT_shr rfl rfl rfl rfl (fun _ => by omega)) ?_
  refine TL_q rfl rfl (QT_v (QT_eql rfl rfl rfl rfl) (congrArg Value.bool (shr_zero (v := x0) (by omega) (by omega)))) ?_
  refine TL_q rfl rfl (QT_assign rfl rfl rfl) ?_
  refine TL_nil ?_
  refine TX_then ?_
  refine TC_seq ?_
  refine TC_seq ?_
  refine TC_reg ?_
  refine TL_q rfl rfl (QT_assign rfl rfl rfl) ?_
  refine TL_nil ?_
  refine TX_then ?_
  refine TC_block ?_
  refine TC_loop (γ := { i : Nat // i ≤ 16 }) (fun u => [(2, true, .pointer (some ⟨b2, 0, none⟩)), (3, true, .pointer (some ⟨b3, 0, none⟩)), (5, true, .int .i64 (ptN L x0 : Int)), (6, true, .int .i64 (clN L x0 : Int)), (7, true, .bool (rmB L x0 X (2 * u.1))), (8, true, .int .i64 (u.1 : Int))]) (fun _ => St w0 ((b3, 71, shV (x0 :: X)) :: (b2, 27, L.cells) :: η)) (fun u => 16 - u.1) ⟨0, by decide⟩ ⟨rfl, rfl, rfl, rfl, slotV rfl (by show Value.bool _ = .bool (rmB L x0 X 0); unfold rmB; simp [fitB]), rfl, trivial⟩ (fun _ h => h) ?_
  rintro ⟨i, hi⟩
  dsimp only
  refine TC_seq ?_
  refine TC_seq ?_
  refine TC_reg ?_
  refine TL_q rfl rfl (QT_move rfl rfl rfl) ?_
  refine TL_q rfl rfl (QT_lss rfl rfl rfl rfl) ?_
  refine TL_nil ?_
  refine TX_then ?_
  first
    | refine TC_cond_dec rfl (fun h26 => ?_) (fun h26 => ?_)
    | refine TC_cond rfl (fun h26 => ?_) (fun h26 => ?_)
  ·
    have hi16 : i < 16 := by omega
    obtain ⟨a, ha⟩ := get48 hX.len (show 2 * i < 48 by omega)
    obtain ⟨b, hb⟩ := get48 hX.len (show 2 * i + 1 < 48 by omega)
    have ha32 := hX.pt ha (by omega)
    have hb32 := hX.pt hb (by omega)
    have hu1 : skK (2 * i + 1) = .u32 := by unfold skK; rw [if_neg (by omega), if_pos (by omega)]
    have hu2 : skK (2 * i + 2) = .u32 := by unfold skK; rw [if_neg (by omega), if_pos (by omega)]
    have hva := shV_at (xs := x0 :: X) (p := 2 * i + 1) (by omega) (by rw [List.getElem?_cons_succ]; exact ha)
    have hvb := shV_at (xs := x0 :: X) (p := 2 * i + 2) (by omega) (by rw [List.getElem?_cons_succ]; exact hb)
    rw [hu1] at hva
    rw [hu2] at hvb
    have e1 := rmB_step (L := L) (x0 := x0) (wS_pt hi16 (.inl rfl)) ha
    have e2 := rmB_step (L := L) (x0 := x0) (wS_pt hi16 (.inr rfl)) hb
    refine TC_skip ?_
    refine TX_then ?_
    refine TC_seq ?_
    refine TC_block ?_
    refine TC_seq ?_
    refine TC_reg ?_
    refine TL_q rfl rfl (QT_move rfl rfl rfl) ?_
    refine TL_q rfl rfl (QT_move rfl rfl rfl) ?_
    refine TL_q rfl rfl (QT_lss rfl rfl rfl rfl) ?_
    refine TL_nil ?_
    refine TX_then ?_
    first
      | refine TC_cond_dec rfl (fun h31 => ?_) (fun h31 => ?_)
      | refine TC_cond rfl (fun h31 => ?_) (fun h31 => ?_)
    ·
      have hw : wPt L x0 i = L.co.toNat := by unfold wPt; rw [if_pos (by omega)]
      rw [hw] at e1 e2
      refine TC_draw [(0, 0), (1, 0), (2, 0), (3, 0), (4, 0), (5, 0), (6, 0), (7, 0), (8, 0), (9, 0), (10, 0), (11, 0), (12, 0), (13, 0), (14, 0), (15, 0), (16, 0), (17, 0), (18, 0), (19, 0), (20, 0), (21, 0), (22, 0), (23, 0), (24, 0), (25, 0)] YtlmbpdlobpcahaaDoorF.mixed (by kernel_rfl) (St.calm _ _) ?_
      refine TV_q rfl rfl rfl (fun _ => QT_move rfl rfl rfl) ?_
      refine TV_q rfl rfl rfl (fun _ => QT_move rfl rfl rfl) ?_
      refine TV_q rfl rfl rfl (fun _ => QT_move rfl rfl rfl) ?_
      refine TV_q rfl rfl rfl (fun _ => QT_field rfl rfl YtlmbpdlobpcahaaDoorF.fld_71_1 rfl) ?_
      refine TV_q rfl rfl rfl (fun _ => QT_indexArr i rfl rfl Tryd.underlying65 YtlmbpdlobpcahaaDoorF.sz_64 rfl rfl rfl (fun _ => hi16)) ?_
      refine TV_q rfl rfl rfl (fun _ => QT_field rfl rfl YtlmbpdlobpcahaaDoorF.fld_64_0 rfl) ?_
      refine TV_ql rfl rfl rfl (QT_loadRj (v := .int .u32 (a : Int)) (2 * i + 1) rfl rfl Tryd.underlying62 rfl (Rd.own 0 rfl) rfl (fun _ => hva)) ?_
      refine TV_q rfl rfl rfl (fun _ => QT_convN rfl rfl Tryd.underlying62 Tryd.underlying76 rfl (IntWalk.u64_in _ ⟨by omega, by omega⟩)) ?_
      refine TV_q rfl rfl rfl (fun _ => QT_field rfl rfl YtlmbpdlobpcahaaDoorF.fld_27_1 rfl) ?_
      first
        | refine TV_ql rfl rfl rfl (QT_load 0 rfl rfl Tryd.underlying3 rfl rfl rfl (fun _ => rfl)) ?_
        | refine TV_ql rfl rfl rfl (QT_load 1 rfl rfl Tryd.underlying3 rfl rfl rfl (fun _ => rfl)) ?_
        | refine TV_ql rfl rfl rfl (QT_load 2 rfl rfl Tryd.underlying3 rfl rfl rfl (fun _ => rfl)) ?_
      refine TV_q rfl rfl rfl (fun _ => QT_shr rfl rfl rfl rfl (fun _ => by omega)) ?_
      refine TV_q rfl rfl rfl (fun _ => QT_v (QT_eql rfl rfl rfl rfl) (congrArg Value.bool (shr_zero (v := a) ha32 (by omega)))) ?_
      refine TV_q rfl rfl rfl (fun _ => QT_and rfl rfl rfl rfl) ?_
      refine TV_q rfl rfl rfl (fun _ => QT_move rfl rfl rfl) ?_
      refine TV_q rfl rfl rfl (fun _ => QT_move rfl rfl rfl) ?_
      refine TV_q rfl rfl rfl (fun _ => QT_field rfl rfl YtlmbpdlobpcahaaDoorF.fld_71_1 rfl) ?_
      refine TV_q rfl rfl rfl (fun _ => QT_indexArr i rfl rfl Tryd.underlying65 YtlmbpdlobpcahaaDoorF.sz_64 rfl rfl rfl (fun _ => hi16)) ?_
      refine TV_q rfl rfl rfl (fun _ => QT_field rfl rfl YtlmbpdlobpcahaaDoorF.fld_64_1 rfl) ?_
      refine TV_ql rfl rfl rfl (QT_loadRj (v := .int .u32 (b : Int)) (2 * i + 2) rfl rfl Tryd.underlying62 rfl (Rd.own 0 rfl) rfl (fun _ => hvb)) ?_
      refine TV_q rfl rfl rfl (fun _ => QT_convN rfl rfl Tryd.underlying62 Tryd.underlying76 rfl (IntWalk.u64_in _ ⟨by omega, by omega⟩)) ?_
      refine TV_q rfl rfl rfl (fun _ => QT_field rfl rfl YtlmbpdlobpcahaaDoorF.fld_27_1 rfl) ?_
      first
        | refine TV_ql rfl rfl rfl (QT_load 0 rfl rfl Tryd.underlying3 rfl rfl rfl (fun _ => rfl)) ?_
        | refine TV_ql rfl rfl rfl (QT_load 1 rfl rfl Tryd.underlying3 rfl rfl rfl (fun _ => rfl)) ?_
        | refine TV_ql rfl rfl rfl (QT_load 2 rfl rfl Tryd.underlying3 rfl rfl rfl (fun _ => rfl)) ?_
      refine TV_q rfl rfl rfl (fun _ => QT_shr rfl rfl rfl rfl (fun _ => by omega)) ?_
      refine TV_q rfl rfl rfl (fun _ => QT_v (QT_eql rfl rfl rfl rfl) (congrArg Value.bool (shr_zero (v := b) hb32 (by omega)))) ?_
      refine TV_q rfl rfl rfl (fun _ => QT_and rfl rfl rfl rfl) ?_
      refine TV_q rfl rfl rfl (fun _ => QT_assign rfl rfl rfl) ?_
      refine TV_end ?_
      refine TX_block_normal ?_
      refine TX_then ?_
      refine TC_reg ?_
      refine TL_q rfl rfl (QT_move rfl rfl rfl) ?_
      refine TL_q rfl rfl (QT_add rfl rfl rfl rfl (fun _ => ⟨by omega, by omega⟩)) ?_
      refine TL_q rfl rfl (QT_assign rfl rfl rfl) ?_
      refine TL_nil ?_
      exact TX_round ⟨i + 1, hi16⟩ (by show 16 - (i + 1) < 16 - i; omega) ⟨rfl, rfl, rfl, rfl, slotV rfl (by show Value.bool _ = .bool (rmB L x0 X (2 * i + 1 + 1)); rw [e2, e1]; try rw [Bool.and_assoc]), rfl, trivial⟩ (fun _ h => h)
    ·
      have hw : wPt L x0 i = 0 := by unfold wPt; rw [if_neg (by omega)]
      rw [hw] at e1 e2
      have hpart : ((shV (x0 :: X)).drop (2 * i + 1)).take 2 = [.int .u32 (a : Int), .int .u32 (b : Int)] := by
        apply List.ext_getElem?
        intro k
        rw [List.getElem?_take]
        match k with
        | 0 => rw [if_pos (by decide), List.getElem?_drop]; exact hva
        | 1 => rw [if_pos (by decide), List.getElem?_drop]; exact hvb
        | k + 2 => rw [if_neg (by omega)]; rfl
      have hlen : 2 * i + 1 + 2 ≤ (shV (x0 :: X)).length := by rw [shV_len (by rw [List.length_cons, hX.len])]; omega
      have hab : Ints spotK [.int .u32 (a : Int), .int .u32 (b : Int)] := by
        have h1 : IntKind.u32.min = 0 := rfl
        have h2 : IntKind.u32.max = 4294967295 := rfl
        exact .cons (by simp only [Lit.wf, Bool.and_eq_true, decide_eq_true_eq]; omega) (.cons (by simp only [Lit.wf, Bool.and_eq_true, decide_eq_true_eq]; omega) .nil)
      refine TC_reg ?_
      refine TL_q rfl rfl (QT_move rfl rfl rfl) ?_
      refine TL_q rfl rfl (QT_move rfl rfl rfl) ?_
      refine TL_q rfl rfl (QT_move rfl rfl rfl) ?_
      refine TL_q rfl rfl (QT_field rfl rfl YtlmbpdlobpcahaaDoorF.fld_71_1 rfl) ?_
      refine TL_q rfl rfl (QT_indexArr i rfl rfl Tryd.underlying65 YtlmbpdlobpcahaaDoorF.sz_64 rfl rfl rfl (fun _ => hi16)) ?_
      refine TL_q rfl rfl (QT_loadRAj (out := [.int .u32 (a : Int), .int .u32 (b : Int)]) (2 * i + 1) rfl rfl Tryd.underlying64 rfl YtlmbpdlobpcahaaDoorF.sz_64 (Rd.own 0 rfl) rfl (fun _ => hlen) (fun _ => hpart)) ?_
      refine TL_q rfl rfl (QT_build rfl rfl YtlmbpdlobpcahaaDoorF.zero_64 YtlmbpdlobpcahaaDoorF.pl_64 rfl rfl rfl) ?_
      refine TL_q rfl rfl (QT_v (QT_eqA (ks := spotK) (ys := [.int .u32 0, .int .u32 0]) rfl rfl eq0 rfl rfl (fun _ => hab) (fun _ => .cons rfl (.cons rfl .nil))) (congrArg Value.bool spot0)) ?_
      refine TL_q rfl rfl (QT_and rfl rfl rfl rfl) ?_
      refine TL_q rfl rfl (QT_assign rfl rfl rfl) ?_
      refine TL_nil ?_
      refine TX_block_normal ?_
      refine TX_then ?_
      refine TC_reg ?_
      refine TL_q rfl rfl (QT_move rfl rfl rfl) ?_
      refine TL_q rfl rfl (QT_add rfl rfl rfl rfl (fun _ => ⟨by omega, by omega⟩)) ?_
      refine TL_q rfl rfl (QT_assign rfl rfl rfl) ?_
      refine TL_nil ?_
      exact TX_round ⟨i + 1, hi16⟩ (by show 16 - (i + 1) < 16 - i; omega) ⟨rfl, rfl, rfl, rfl, slotV rfl (by show Value.bool _ = .bool (rmB L x0 X (2 * i + 1 + 1)); rw [e2, e1]; try rw [Bool.and_assoc]), rfl, trivial⟩ (fun _ h => h)
  ·
    refine TC_exit ?_
    refine TX_then_exit ?_
    refine TX_then_exit ?_
    refine TX_block_here ?_
    refine TX_then ?_
    refine TC_seq ?_
    refine TC_seq ?_
    obtain rfl : i = 16 := by omega
    refine TC_reg ?_
    refine TL_q rfl rfl (QT_assign rfl rfl rfl) ?_
    refine TL_nil ?_
    refine TX_then ?_
    refine TC_block ?_
    refine TC_loop (γ := { i : Nat // i ≤ 4 }) (fun u => [(2, true, .pointer (some ⟨b2, 0, none⟩)), (3, true, .pointer (some ⟨b3, 0, none⟩)), (6, true, .int .i64 (clN L x0 : Int)), (7, true, .bool (rmB L x0 X (32 + 4 * u.1))), (9, true, .int .i64 (u.1 : Int))]) (fun _ => St w0 ((b3, 71, shV (x0 :: X)) :: (b2, 27, L.cells) :: η)) (fun u => 4 - u.1) ⟨0, by decide⟩ ⟨rfl, rfl, rfl, rfl, rfl, trivial⟩ (fun _ h => h) ?_
    rintro ⟨c, hcc⟩
    dsimp only
    refine TC_seq ?_
    refine TC_seq ?_
    refine TC_reg ?_
    refine TL_q rfl rfl (QT_move rfl rfl rfl) ?_
    refine TL_q rfl rfl (QT_lss rfl rfl rfl rfl) ?_
    refine TL_nil ?_
    refine TX_then ?_
    first
      | refine TC_cond_dec rfl (fun h67 => ?_) (fun h67 => ?_)
      | refine TC_cond rfl (fun h67 => ?_) (fun h67 => ?_)
    ·
      have hc4 : c < 4 := by omega
      refine TC_skip ?_
      refine TX_then ?_
      refine TC_seq ?_
      refine TC_block ?_
      refine TC_seq ?_
      refine TC_reg ?_
      refine TL_q rfl rfl (QT_assign rfl rfl rfl) ?_
      refine TL_nil ?_
      refine TX_then ?_
      refine TC_block ?_
      refine TC_loop (γ := { i : Nat // i ≤ 4 }) (fun u => [(2, true, .pointer (some ⟨b2, 0, none⟩)), (3, true, .pointer (some ⟨b3, 0, none⟩)), (6, true, .int .i64 (clN L x0 : Int)), (7, true, .bool (rmB L x0 X (32 + 4 * c + u.1))), (9, true, .int .i64 (c : Int)), (10, true, .int .i64 (u.1 : Int))]) (fun _ => St w0 ((b3, 71, shV (x0 :: X)) :: (b2, 27, L.cells) :: η)) (fun u => 4 - u.1) ⟨0, by decide⟩ ⟨rfl, rfl, rfl, rfl, rfl, rfl, trivial⟩ (fun _ h => h) ?_
      rintro ⟨d, hdd⟩
      dsimp only
      refine TC_seq ?_
      refine TC_seq ?_
      refine TC_reg ?_
      refine TL_q rfl rfl (QT_move rfl rfl rfl) ?_
      refine TL_q rfl rfl (QT_lss rfl rfl rfl rfl) ?_
      refine TL_nil ?_
      refine TX_then ?_
      first
        | refine TC_cond_dec rfl (fun h71 => ?_) (fun h71 => ?_)
        | refine TC_cond rfl (fun h71 => ?_) (fun h71 => ?_)
      ·
        have hd4 : d < 4 := by omega
        obtain ⟨a, ha⟩ := get48 hX.len (show 32 + 4 * c + d < 48 by omega)
        have ha16 := hX.cl ha (by omega)
        have hu1 : skK (32 + 4 * c + d + 1) = .u16 := by unfold skK; rw [if_neg (by omega), if_neg (by omega)]
        have hva := shV_at (xs := x0 :: X) (p := 32 + 4 * c + d + 1) (by omega) (by rw [List.getElem?_cons_succ]; exact ha)
        rw [hu1] at hva
        have e1 := rmB_step (L := L) (x0 := x0) (show (wS L x0)[32 + 4 * c + d]? = some (wCl L x0 (4 * c + d), 65536) by rw [Nat.add_assoc]; exact wS_cl (by omega)) ha
        have hwc : wCl L x0 (4 * c + d) = if c < clN L x0 ∧ d < L.cs.toNat then L.cm.toNat else 0 := by
          unfold wCl; rw [show (4 * c + d) / 4 = c by omega, show (4 * c + d) % 4 = d by omega]
        refine TC_skip ?_
        refine TX_then ?_
        refine TC_seq ?_
        refine TC_block ?_
        refine TC_seq ?_
        refine TC_reg ?_
        refine TL_q rfl rfl (QT_move rfl rfl rfl) ?_
        refine TL_q rfl rfl (QT_move rfl rfl rfl) ?_
        refine TL_q rfl rfl (QT_lss rfl rfl rfl rfl) ?_
        refine TL_q rfl rfl (QT_move rfl rfl rfl) ?_
        refine TL_q rfl rfl (QT_move rfl rfl rfl) ?_
        refine TL_q rfl rfl (QT_field rfl rfl YtlmbpdlobpcahaaDoorF.fld_27_4 rfl) ?_
        first
          | refine TL_q rfl rfl (QT_load 0 rfl rfl Tryd.underlying3 rfl rfl rfl (fun _ => rfl)) ?_
          | refine TL_q rfl rfl (QT_load 1 rfl rfl Tryd.underlying3 rfl rfl rfl (fun _ => rfl)) ?_
          | refine TL_q rfl rfl (QT_load 2 rfl rfl Tryd.underlying3 rfl rfl rfl (fun _ => rfl)) ?_
        refine TL_q rfl rfl (QT_lss rfl rfl rfl rfl) ?_
        refine TL_q rfl rfl (QT_and rfl rfl rfl rfl) ?_
        refine TL_nil ?_
        refine TX_then ?_
        first
          | refine TC_cond_dec rfl (fun h82 => ?_) (fun h82 => ?_)
          | refine TC_cond rfl (fun h82 => ?_) (fun h82 => ?_)
        ·
          simp only [Bool.and_eq_true, decide_eq_true_eq] at h82
          rw [hwc, if_pos (by omega)] at e1
          refine TC_draw [(0, 0), (1, 0), (2, 0), (3, 0), (4, 0), (5, 0), (6, 0), (7, 0), (8, 0), (9, 0), (10, 0), (11, 0), (12, 0), (13, 0), (14, 0)] YtlmbpdlobpcahaaDoorF.mixed (by kernel_rfl) (St.calm _ _) ?_
          refine TV_q rfl rfl rfl (fun _ => QT_move rfl rfl rfl) ?_
          refine TV_q rfl rfl rfl (fun _ => QT_move rfl rfl rfl) ?_
          refine TV_q rfl rfl rfl (fun _ => QT_move rfl rfl rfl) ?_
          refine TV_q rfl rfl rfl (fun _ => QT_move rfl rfl rfl) ?_
          refine TV_q rfl rfl rfl (fun _ => QT_field rfl rfl YtlmbpdlobpcahaaDoorF.fld_71_2 rfl) ?_
          refine TV_q rfl rfl rfl (fun _ => QT_indexArr c rfl rfl Tryd.underlying69 YtlmbpdlobpcahaaDoorF.sz_68 rfl rfl rfl (fun _ => hc4)) ?_
          refine TV_q rfl rfl rfl (fun _ => QT_indexArr d rfl rfl Tryd.underlying68 YtlmbpdlobpcahaaDoorF.sz_66 rfl rfl rfl (fun _ => hd4)) ?_
          refine TV_ql rfl rfl rfl (QT_loadRj (v := .int .u16 (a : Int)) (32 + 4 * c + d + 1) rfl rfl Tryd.underlying66 rfl (Rd.own 0 rfl) rfl (fun _ => hva)) ?_
          refine TV_q rfl rfl rfl (fun _ => QT_convN rfl rfl Tryd.underlying66 Tryd.underlying76 rfl (IntWalk.u64_in _ ⟨by omega, by omega⟩)) ?_
          refine TV_q rfl rfl rfl (fun _ => QT_field rfl rfl YtlmbpdlobpcahaaDoorF.fld_27_2 rfl) ?_
          first
            | refine TV_ql rfl rfl rfl (QT_load 0 rfl rfl Tryd.underlying3 rfl rfl rfl (fun _ => rfl)) ?_
            | refine TV_ql rfl rfl rfl (QT_load 1 rfl rfl Tryd.underlying3 rfl rfl rfl (fun _ => rfl)) ?_
            | refine TV_ql rfl rfl rfl (QT_load 2 rfl rfl Tryd.underlying3 rfl rfl rfl (fun _ => rfl)) ?_
          refine TV_q rfl rfl rfl (fun _ => QT_shr rfl rfl rfl rfl (fun _ => by omega)) ?_
          refine TV_q rfl rfl rfl (fun _ => QT_v (QT_eql rfl rfl rfl rfl) (congrArg Value.bool (shr_zero (v := a) (by omega) (by omega)))) ?_
          refine TV_q rfl rfl rfl (fun _ => QT_and rfl rfl rfl rfl) ?_
          refine TV_q rfl rfl rfl (fun _ => QT_assign rfl rfl rfl) ?_
          refine TV_end ?_
          refine TX_block_normal ?_
          refine TX_then ?_
          refine TC_reg ?_
          refine TL_q rfl rfl (QT_move rfl rfl rfl) ?_
          refine TL_q rfl rfl (QT_add rfl rfl rfl rfl (fun _ => ⟨by omega, by omega⟩)) ?_
          refine TL_q rfl rfl (QT_assign rfl rfl rfl) ?_
          refine TL_nil ?_
          exact TX_round ⟨d + 1, hd4⟩ (by show 4 - (d + 1) < 4 - d; omega) ⟨rfl, rfl, rfl, slotV rfl (by show Value.bool _ = .bool (rmB L x0 X (32 + 4 * c + d + 1)); rw [e1]), rfl, rfl, trivial⟩ (fun _ h => h)
        ·
          rw [hwc, if_neg (by simp only [Bool.and_eq_false_iff, decide_eq_false_iff_not] at h82; omega)] at e1
          have hz : decide ((a : Int) = 0) = decide (a < 2 ^ 0) := by rw [Bool.eq_iff_iff]; simp
          refine TC_reg ?_
          refine TL_q rfl rfl (QT_move rfl rfl rfl) ?_
          refine TL_q rfl rfl (QT_move rfl rfl rfl) ?_
          refine TL_q rfl rfl (QT_move rfl rfl rfl) ?_
          refine TL_q rfl rfl (QT_move rfl rfl rfl) ?_
          refine TL_q rfl rfl (QT_field rfl rfl YtlmbpdlobpcahaaDoorF.fld_71_2 rfl) ?_
          refine TL_q rfl rfl (QT_indexArr c rfl rfl Tryd.underlying69 YtlmbpdlobpcahaaDoorF.sz_68 rfl rfl rfl (fun _ => hc4)) ?_
          refine TL_q rfl rfl (QT_indexArr d rfl rfl Tryd.underlying68 YtlmbpdlobpcahaaDoorF.sz_66 rfl rfl rfl (fun _ => hd4)) ?_
          refine TL_q rfl rfl (QT_loadRj (v := .int .u16 (a : Int)) (32 + 4 * c + d + 1) rfl rfl Tryd.underlying66 rfl (Rd.own 0 rfl) rfl (fun _ => hva)) ?_
          refine TL_q rfl rfl (QT_v (QT_eql rfl rfl rfl rfl) (congrArg Value.bool hz)) ?_
          refine TL_q rfl rfl (QT_and rfl rfl rfl rfl) ?_
          refine TL_q rfl rfl (QT_assign rfl rfl rfl) ?_
          refine TL_nil ?_
          refine TX_block_normal ?_
          refine TX_then ?_
          refine TC_reg ?_
          refine TL_q rfl rfl (QT_move rfl rfl rfl) ?_
          refine TL_q rfl rfl (QT_add rfl rfl rfl rfl (fun _ => ⟨by omega, by omega⟩)) ?_
          refine TL_q rfl rfl (QT_assign rfl rfl rfl) ?_
          refine TL_nil ?_
          exact TX_round ⟨d + 1, hd4⟩ (by show 4 - (d + 1) < 4 - d; omega) ⟨rfl, rfl, rfl, slotV rfl (by show Value.bool _ = .bool (rmB L x0 X (32 + 4 * c + d + 1)); rw [e1]), rfl, rfl, trivial⟩ (fun _ h => h)
      ·
        refine TC_exit ?_
        refine TX_then_exit ?_
        refine TX_then_exit ?_
        refine TX_block_here ?_
        refine TX_block_normal ?_
        refine TX_then ?_
        obtain rfl : d = 4 := by omega
        refine TC_reg ?_
        refine TL_q rfl rfl (QT_move rfl rfl rfl) ?_
        refine TL_q rfl rfl (QT_add rfl rfl rfl rfl (fun _ => ⟨by omega, by omega⟩)) ?_
        refine TL_q rfl rfl (QT_assign rfl rfl rfl) ?_
        refine TL_nil ?_
        exact TX_round ⟨c + 1, hc4⟩ (by show 4 - (c + 1) < 4 - c; omega) ⟨rfl, rfl, rfl, rfl, rfl, trivial⟩ (fun _ h => h)
    ·
      refine TC_exit ?_
      refine TX_then_exit ?_
      refine TX_then_exit ?_
      refine TX_block_here ?_
      refine TX_then ?_
      refine TC_seq ?_
      refine TC_reg ?_
      refine TL_q rfl rfl (QT_move rfl rfl rfl) ?_
      refine TL_q rfl rfl (QT_assign rfl rfl rfl) ?_
      refine TL_nil ?_
      refine TX_then ?_
      refine TC_ret ?_
      obtain rfl : c = 4 := by omega
      exact TX_ret (.inl rfl) (res1 rfl rfl) ⟨_, ⟨congrArg Value.bool (rmB_all hX.len), rfl⟩, (fun _ h => by first | exact h | exact h.tail | exact h.tail.tail | exact h.tail.tail.tail | exact h.tail.tail.tail.tail | exact h.tail.tail.tail.tail.tail | exact h.tail.tail.tail.tail.tail.tail | exact h.tail.tail.tail.tail.tail.tail.tail | exact h.tail.tail.tail.tail.tail.tail.tail.tail | exact h.tail.tail.tail.tail.tail.tail.tail.tail.tail | exact h.tail.tail.tail.tail.tail.tail.tail.tail.tail.tail | exact h.tail.tail.tail.tail.tail.tail.tail.tail.tail.tail.tail | exact h.tail.tail.tail.tail.tail.tail.tail.tail.tail.tail.tail.tail | exact h.tail.tail.tail.tail.tail.tail.tail.tail.tail.tail.tail.tail.tail)⟩
end Go.Proofs.YtlmbpdlobpcahaaDoor

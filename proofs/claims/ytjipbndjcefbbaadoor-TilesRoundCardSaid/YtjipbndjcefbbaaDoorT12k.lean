/- THE LAW OF THE ROUND: four sheets of one flag, each telling the other points of the patch ahead, come round. -/
import Derived.Test.YtjipbndjcefbbaaDoorT12e
import Derived.Test.YtjipbndjcefbbaaDoorT12f
namespace Go.Proofs.YtjipbndjcefbbaaDoor
open Go Go.Gx Go.RowKit
set_option maxRecDepth 100000

def zX (x : List Value) : Nat → List Value
  | 0 => x
  | k + 1 => setAt (zX x k) (0 + 0 + (12 + k) * 2) [.int .u32 0, .int .u32 0]
def rYp (F i : Nat) (X : List Value) : Nat → List Value
  | 0 => .int .u8 (F : Int) :: zs sheetK.tail
  | k + 1 => setAt (rYp F i X k) (0 + 1 + k * 2) ((X.drop (0 + 0 + ((3 * F * i + 4 + k) % 12) * 2)).take 2)
def rY (F i : Nat) (X : List Value) : List Value :=
  setAt (setAt (rYp F i X 8) (0 + 33 + 0 * 4) ((X.drop (0 + 32 + ((F * i + 2) % 4) * 4)).take 4)) (0 + 33 + 1 * 4) ((X.drop (0 + 32 + ((F * i + 3) % 4) * 4)).take 4)
def rS (F : Nat) (X : List Value) : Nat → List Value
  | 0 => []
  | 1 => .int .u8 0 :: X
  | i + 2 => rS F X (i + 1) ++ rY F (i + 1) X
theorem zX_len (x : List Value) : ∀ k, (zX x k).length = x.length
  | 0 => rfl
  | k + 1 => by rw [zX, setAt_length, zX_len x k]
theorem rYp_len (F i : Nat) (X : List Value) : ∀ k, (rYp F i X k).length = 49
  | 0 => rfl
  | k + 1 => by rw [rYp, setAt_length, rYp_len F i X k]
theorem set_ints {ks : List IntKind} {cs vs : List Value} (h : Ints ks cs) (o m : Nat) (hv : Ints ((ks.drop o).take m) vs) (hom : o + m ≤ ks.length) : Ints ks (setAt cs o vs) := by
  have hl : cs.length = ks.length := h.length
  have hvl : vs.length = m := by rw [hv.length, List.length_take, List.length_drop]; omega
  have e : cs = cs.take o ++ (cs.drop o).take m ++ cs.drop (o + m) := by rw [List.append_assoc, ← List.drop_drop, List.take_append_drop, List.take_append_drop]
  have ek : ks = ks.take o ++ (ks.drop o).take m ++ ks.drop (o + m) := by rw [List.append_assoc, ← List.drop_drop, List.take_append_drop, List.take_append_drop]
  have hto : (cs.take o).length = o := by rw [List.length_take]; omega
  have h2 : setAt cs o vs = cs.take o ++ vs ++ cs.drop (o + m) := by
    conv => lhs; rw [e, ← hto]
    rw [hto]
    have := setAt_mid vs (cs.take o) ((cs.drop o).take m) (cs.drop (o + m)) (by rw [hvl, List.length_take, List.length_drop]; omega)
    rw [hto] at this
    exact this
  rw [h2, ek]
  exact ((h.take o).append hv).append (h.drop (o + m))
theorem spK_at {k : Nat} (h : k < 16) : (patchK.drop (0 + 0 + k * 2)).take 2 = spotK := map_at (m := 16) (F := fun k => (patchK.drop (0 + 0 + k * 2)).take 2) (G := fun _ => spotK) (by decide) h
theorem coK_at {k : Nat} (h : k < 4) : (patchK.drop (0 + 32 + k * 4)).take 4 = colK := map_at (m := 4) (F := fun k => (patchK.drop (0 + 32 + k * 4)).take 4) (G := fun _ => colK) (by decide) h
theorem spL_at {k : Nat} (h : k < 16) : (sheetK.drop (0 + 1 + k * 2)).take 2 = spotK := map_at (m := 16) (F := fun k => (sheetK.drop (0 + 1 + k * 2)).take 2) (G := fun _ => spotK) (by decide) h
theorem zX_ints {x : List Value} (h : Ints patchK x) : ∀ k, k ≤ 4 → Ints patchK (zX x k)
  | 0, _ => h
  | k + 1, hk => set_ints (zX_ints h k (by omega)) _ 2 (by rw [spK_at (by omega)]; exact intsB_ok _ _ rfl) (by show 0 + 0 + (12 + k) * 2 + 2 ≤ 48; omega)
theorem rYp_ints {F i : Nat} {X : List Value} (h : Ints patchK X) (hF : F ≤ 3) : ∀ k, k ≤ 8 → Ints sheetK (rYp F i X k)
  | 0, _ => by
    show Ints (.u8 :: sheetK.tail) _
    refine .cons ?_ (zs_ints _)
    have h1 : IntKind.u8.min = 0 := rfl
    have h2 : IntKind.u8.max = 255 := rfl
    simp only [Lit.wf, Bool.and_eq_true, decide_eq_true_eq]
    omega
  | k + 1, hk => set_ints (rYp_ints h hF k (by omega)) _ 2 (by
      have hm : (3 * F * i + 4 + k) % 12 < 12 := Nat.mod_lt _ (by decide)
      have h1 := (h.drop (0 + 0 + ((3 * F * i + 4 + k) % 12) * 2)).take 2
      rw [spK_at (by omega)] at h1
      rw [spL_at (by omega)]; exact h1) (by show 0 + 1 + k * 2 + 2 ≤ 49; omega)
theorem rY_ints {F i : Nat} {X : List Value} (h : Ints patchK X) (hF : F ≤ 3) : Ints sheetK (rY F i X) := by
  have hc : ∀ m, Ints colK ((X.drop (0 + 32 + (m % 4) * 4)).take 4) := fun m => by
    have h1 := (h.drop (0 + 32 + (m % 4) * 4)).take 4
    rwa [coK_at (Nat.mod_lt _ (by decide))] at h1
  unfold rY
  refine set_ints (set_ints (rYp_ints h hF 8 (by omega)) (0 + 33 + 0 * 4) 4 ?_ (by decide)) (0 + 33 + 1 * 4) 4 ?_ (by decide)
  · rw [show (sheetK.drop (0 + 33 + 0 * 4)).take 4 = colK from rfl]; exact hc _
  · rw [show (sheetK.drop (0 + 33 + 1 * 4)).take 4 = colK from rfl]; exact hc _
theorem rS_ints {F : Nat} {X : List Value} (h : Ints patchK X) (hF : F ≤ 3) : ∀ i, Ints (rep i sheetK) (rS F X i)
  | 0 => by show Ints (rep 0 sheetK) []; simpa [rep] using Ints.nil
  | 1 => by
    show Ints (sheetK ++ []) _
    rw [List.append_nil]
    exact .cons (by decide) h
  | i + 2 => by
    rw [rep_succR]
    exact (rS_ints h hF (i + 1)).append (rY_ints h hF)
theorem seg_X {X : List Value} (h : X.length = 48) {zl : List Value} (hz : zl = zs sheetK) : segs [(0, 1), (1, 32), (33, 16)] zl [(1, .agg ((X.drop (0 + 0)).take 32).toArray), (2, .agg ((X.drop (0 + 32)).take 16).toArray)] 0 = some (.int .u8 0 :: X) := by
  subst hz
  obtain ⟨g, rfl⟩ := tab' (.bool false) X h
  kernel_rfl
theorem round_err {F : Nat} {x : List Value} (h : x.length = 48) (hF : F = 1 ∨ F = 2 ∨ F = 3) : errT sixL 5 (rS F (zX x 4) 5) = 0 := by
  obtain ⟨g, rfl⟩ := tab' (.bool false) x h
  rcases hF with rfl | rfl | rfl <;> kernel_rfl
theorem round_0 {F : Nat} {x : List Value} (h : x.length = 48) (hF : F = 1 ∨ F = 2 ∨ F = 3) : ((outT sixL 5 (rS F (zX x 4) 5)).drop (0 * 48)).take 48 = zX x 4 := by
  obtain ⟨g, rfl⟩ := tab' (.bool false) x h
  rcases hF with rfl | rfl | rfl <;> kernel_rfl
theorem round_4 {F : Nat} {x : List Value} (h : x.length = 48) (hF : F = 1 ∨ F = 2 ∨ F = 3) : ((outT sixL 5 (rS F (zX x 4) 5)).drop (4 * 48)).take 48 = zX x 4 := by
  obtain ⟨g, rfl⟩ := tab' (.bool false) x h
  rcases hF with rfl | rfl | rfl <;> kernel_rfl
theorem round_1 {F k : Nat} {x : List Value} (h : x.length = 48) (hF : F = 1 ∨ F = 2 ∨ F = 3) (hk : k < 12) : ((outT sixL 5 (rS F (zX x 4) 5)).drop (1 * 48 + k * 2)).take 2 = ((zX x 4).drop (0 + 0 + eP F k * 2)).take 2 := by
  refine map_at (m := 12) (F := fun k => ((outT sixL 5 (rS F (zX x 4) 5)).drop (1 * 48 + k * 2)).take 2) (G := fun k => ((zX x 4).drop (0 + 0 + eP F k * 2)).take 2) ?_ hk
  obtain ⟨g, rfl⟩ := tab' (.bool false) x h
  rcases hF with rfl | rfl | rfl <;> kernel_rfl
theorem mul_b {F i : Nat} (hF : F ≤ 3) (hi : i ≤ 4) : (0 ≤ (F : Int) * (i : Int) ∧ (F : Int) * (i : Int) ≤ 12) ∧ (0 ≤ 3 * (F : Int) * (i : Int) ∧ 3 * (F : Int) * (i : Int) ≤ 36) := by
  have h1 : F * i ≤ 3 * 4 := Nat.mul_le_mul hF hi
  have h2 : (F : Int) * (i : Int) = ((F * i : Nat) : Int) := by simp
  have h3 : 3 * (F : Int) * (i : Int) = ((3 * (F * i) : Nat) : Int) := by simp [Int.mul_assoc]
  rw [h2, h3]
  omega

theorem law_tilesRound (w0 : World) (η : Heap) (hG : Sets w0) (hE : Edges w0) (x : List Value) (q : Nat) (hx : Ints patchK x) (hq : q ≤ 255) :
    CallsT Tryd.prog 7 [.agg x.toArray, .int .u8 (q : Int)] (St w0 η) fun v A' => v = .bool true ∧ A' = St w0 η := by
  have hxl : x.length = 48 := hx.length
  obtain ⟨F, hFe, hF⟩ : ∃ F : Nat, (1 : Int) + (q : Int) % 3 = (F : Int) ∧ (F = 1 ∨ F = 2 ∨ F = 3) := ⟨1 + q % 3, by simp, by omega⟩
  have hF3 : F ≤ 3 := by omega
  have hXi := zX_ints hx 4 (Nat.le_refl _)
  have hXl : (zX x 4).length = 48 := hXi.length
  have hwF : IntKind.u8.wrap (F : Int) = (F : Int) := IntWalk.u8_in _ ⟨by omega, by omega⟩
  refine CallsT.body Tryd.func7 rfl rfl ?_
  simp only [Tryd.ntmps7, slotsOf, Nat.reduceAdd]
  refine TC_seq ?_
  refine TC_reg ?_
  refine TL_e rfl rfl rfl (rfl) (ET_box rfl rfl) ?_
  rintro _ _ ⟨b2, rfl, rfl⟩
  refine TL_q rfl rfl (QT_assign rfl rfl rfl) ?_
  refine TL_nil ?_
  refine TX_then ?_
  refine TC_seq ?_
  refine TC_reg ?_
  refine TL_q rfl rfl (QT_move rfl rfl rfl) ?_
  refine TL_q rfl rfl (QT_convN rfl rfl Tryd.underlying5 Tryd.underlying3 rfl (show IntKind.i64.wrap (q : Int) = (q : Int) from wrap_i64 ⟨by omega, by omega⟩)) ?_
  refine TL_q rfl rfl (QT_rem rfl rfl rfl rfl (fun _ => ⟨by omega, by omega⟩)) ?_
  refine TL_q rfl rfl (QT_add rfl rfl rfl rfl (fun _ => ⟨by omega, by omega⟩)) ?_
  refine TL_q rfl rfl (QT_assign rfl rfl rfl) ?_
  refine TL_nil ?_
  refine TX_then ?_
  refine TC_seq ?_
  refine TC_seq ?_
  refine TC_reg ?_
  refine TL_q rfl rfl (QT_assign rfl rfl rfl) ?_
  refine TL_nil ?_
  refine TX_then ?_
  refine TC_block ?_
  refine TC_loop (γ := { k : Nat // k ≤ 4 }) (fun t => [(2, true, .pointer (some ⟨b2, 0, none⟩)), (5, true, .int .i64 (F : Int)), (6, true, .int .i64 ((12 + t.1 : Nat) : Int))]) (fun t => St w0 ((b2, 66, zX x t.1) :: η)) (fun t => 4 - t.1) ⟨0, by omega⟩ ⟨rfl, slotI rfl hFe, rfl, trivial⟩ (fun _ h => h) ?_
  rintro ⟨k, hk⟩
  dsimp only
  have hql := zX_len x k
  refine TC_seq ?_
  refine TC_seq ?_
  refine TC_reg ?_
  refine TL_q rfl rfl (QT_move rfl rfl rfl) ?_
  refine TL_q rfl rfl (QT_lss rfl rfl rfl rfl) ?_
  refine TL_nil ?_
  refine TX_then ?_
  first
    | refine TC_cond_dec rfl (fun h19 => ?_) (fun h19 => ?_)
    | refine TC_cond rfl (fun h19 => ?_) (fun h19 => ?_)
  ·
    refine TC_skip ?_
    refine TX_then ?_
    refine TC_seq ?_
    refine TC_block ?_
    refine TC_reg ?_
    refine TL_q rfl rfl (QT_move rfl rfl rfl) ?_
    refine TL_q rfl rfl (QT_build rfl rfl YtjipbndjcefbbaaDoorF.zero_57 YtjipbndjcefbbaaDoorF.pl_57 rfl rfl rfl) ?_
    refine TL_q rfl rfl (QT_field rfl rfl YtjipbndjcefbbaaDoorF.fld_66_0 rfl) ?_
    refine TL_q rfl rfl (QT_indexArr (12 + k) rfl rfl Tryd.underlying58 YtjipbndjcefbbaaDoorF.sz_57 rfl rfl (rfl) (fun _ => by omega)) ?_
    refine TL_e0 rfl rfl (rfl) (ET_store (vs := [.int .u32 0, .int .u32 0]) 0 rfl rfl rfl rfl YtjipbndjcefbbaaDoorF.sz_57 rfl rfl (Nat.ble_eq_true_of_le (by rw [hql, hxl]; show 0 + 0 + (12 + k) * 2 + 2 ≤ 48; omega))) ?_
    rintro _ _ ⟨rfl, rfl⟩
    refine TL_nil ?_
    refine TX_block_normal ?_
    refine TX_then ?_
    refine TC_reg ?_
    refine TL_q rfl rfl (QT_move rfl rfl rfl) ?_
    refine TL_q rfl rfl (QT_add rfl rfl rfl rfl (fun _ => ⟨by omega, by omega⟩)) ?_
    refine TL_q rfl rfl (QT_assign rfl rfl rfl) ?_
    refine TL_nil ?_
    exact TX_round ⟨k + 1, by omega⟩ (by show 4 - (k + 1) < 4 - k; omega) ⟨rfl, rfl, slotI rfl (by dsimp only; omega), trivial⟩ (fun _ h => h)
  ·
    refine TC_exit ?_
    refine TX_then_exit ?_
    refine TX_then_exit ?_
    refine TX_block_here ?_
    refine TX_then ?_
    refine TC_seq ?_
    obtain rfl : k = 4 := by omega
    refine TC_reg ?_
    refine TL_q rfl rfl (QT_field rfl rfl YtjipbndjcefbbaaDoorF.fld_66_0 rfl) ?_
    refine TL_q rfl rfl (QT_loadA 0 rfl rfl Tryd.underlying58 rfl rfl rfl YtjipbndjcefbbaaDoorF.sz_58 (fun _ => Nat.ble_eq_true_of_le (show 0 + 0 + 32 ≤ (zX x 4).length by omega))) ?_
    refine TL_q rfl rfl (QT_field rfl rfl YtjipbndjcefbbaaDoorF.fld_66_1 rfl) ?_
    refine TL_q rfl rfl (QT_loadA 0 rfl rfl Tryd.underlying62 rfl rfl rfl YtjipbndjcefbbaaDoorF.sz_62 (fun _ => Nat.ble_eq_true_of_le (show 0 + 32 + 16 ≤ (zX x 4).length by omega))) ?_
    refine TL_q rfl rfl (QT_build (out := .int .u8 0 :: zX x 4) rfl rfl YtjipbndjcefbbaaDoorF.zero_64 YtjipbndjcefbbaaDoorF.pl_64 rfl rfl (seg_X hXl rfl)) ?_
    refine TL_e rfl rfl rfl (rfl) (ET_buildN [_] rfl Tryd.underlying28 YtjipbndjcefbbaaDoorF.sz_64 YtjipbndjcefbbaaDoorF.zero_64 rfl rfl rfl (fun v hv => by cases List.mem_singleton.1 hv; show (zX x 4).length + 1 = 49; omega)) ?_
    rintro _ _ ⟨b31, rfl, rfl⟩
    refine TL_q rfl rfl (QT_assign rfl rfl rfl) ?_
    refine TL_nil ?_
    refine TX_then ?_
    refine TC_seq ?_
    refine TC_seq ?_
    refine TC_reg ?_
    refine TL_q rfl rfl (QT_assign rfl rfl rfl) ?_
    refine TL_nil ?_
    refine TX_then ?_
    refine TC_block ?_
    refine TC_loop (γ := { t : Nat × Value × Heap // (1 ≤ t.1 ∧ t.1 ≤ 5) ∧ Frag 64 49 t.2.1 t.1 (rS F (zX x 4) t.1) t.2.2 }) (fun t => [(2, true, .pointer (some ⟨b2, 0, none⟩)), (5, true, .int .i64 (F : Int)), (7, true, t.1.2.1), (8, true, .int .i64 (t.1.1 : Int))]) (fun t => St w0 ((b2, 66, zX x 4) :: (t.1.2.2 ++ η))) (fun t => 5 - t.1.1) ⟨(1, .slice (some ⟨b31, 0, none⟩) 1 1, [(b31, 64, (.int .u8 0 :: zX x 4) ++ [])]), ⟨Nat.le_refl _, by show 1 ≤ 5; decide⟩, ⟨by show (zX x 4).length + 1 = 1 * 49; omega, .inr ⟨b31, 1, [], rfl, ⟨Nat.le_refl _, by decide⟩, by rw [List.append_nil]; show 1 * 49 ≤ (zX x 4).length + 1; omega, rfl⟩⟩⟩ ⟨rfl, rfl, rfl, rfl, trivial⟩ (fun w h => St.swap h) ?_
    rintro ⟨⟨i, fv, H⟩, hin, hFr⟩
    dsimp only at hin hFr ⊢
    refine TC_seq ?_
    refine TC_seq ?_
    refine TC_reg ?_
    refine TL_q rfl rfl (QT_move rfl rfl rfl) ?_
    refine TL_q rfl rfl (QT_leq rfl rfl rfl rfl) ?_
    refine TL_nil ?_
    refine TX_then ?_
    first
      | refine TC_cond_dec rfl (fun h33 => ?_) (fun h33 => ?_)
      | refine TC_cond rfl (fun h33 => ?_) (fun h33 => ?_)
    ·
      have hi4 : i ≤ 4 := by omega
      obtain ⟨hm1, hm2⟩ := mul_b hF3 hi4
      refine TC_skip ?_
      refine TX_then ?_
      refine TC_seq ?_
      refine TC_block ?_
      refine TC_seq ?_
      refine TC_reg ?_
      refine TL_q rfl rfl (QT_move rfl rfl rfl) ?_
      refine TL_q rfl rfl (QT_convN rfl rfl Tryd.underlying3 Tryd.underlying5 rfl hwF) ?_
      refine TL_q rfl rfl (QT_build rfl rfl YtjipbndjcefbbaaDoorF.zero_64 YtjipbndjcefbbaaDoorF.pl_64 rfl rfl rfl) ?_
      refine TL_e rfl rfl rfl (rfl) (ET_alloc rfl YtjipbndjcefbbaaDoorF.zero_64) ?_
      rintro _ _ ⟨b9, rfl, rfl⟩
      first
        | refine TL_e0 rfl rfl (rfl) (ET_storeW 0 rfl rfl rfl YtjipbndjcefbbaaDoorF.sz_64 rfl rfl rfl) ?_
        | refine TL_e0 rfl rfl (rfl) (ET_storeW 1 rfl rfl rfl YtjipbndjcefbbaaDoorF.sz_64 rfl rfl rfl) ?_
        | refine TL_e0 rfl rfl (rfl) (ET_storeW 2 rfl rfl rfl YtjipbndjcefbbaaDoorF.sz_64 rfl rfl rfl) ?_
        | refine TL_e0 rfl rfl (rfl) (ET_store 0 rfl rfl rfl rfl YtjipbndjcefbbaaDoorF.sz_64 rfl rfl rfl) ?_
        | refine TL_e0 rfl rfl (rfl) (ET_store 1 rfl rfl rfl rfl YtjipbndjcefbbaaDoorF.sz_64 rfl rfl rfl) ?_
        | refine TL_e0 rfl rfl (rfl) (ET_store 2 rfl rfl rfl rfl YtjipbndjcefbbaaDoorF.sz_64 rfl rfl rfl) ?_
      rintro _ _ ⟨rfl, rfl⟩
      refine TL_nil ?_
      refine TX_then ?_
      refine TC_seq ?_
      refine TC_seq ?_
      refine TC_reg ?_
      refine TL_q rfl rfl (QT_assign rfl rfl rfl) ?_
      refine TL_nil ?_
      refine TX_then ?_
      refine TC_block ?_
      refine TC_loop (γ := { k : Nat // k ≤ 8 }) (fun t => [(2, true, .pointer (some ⟨b2, 0, none⟩)), (5, true, .int .i64 (F : Int)), (7, true, fv), (8, true, .int .i64 (i : Int)), (9, true, .pointer (some ⟨b9, 0, none⟩)), (10, true, .int .i64 (t.1 : Int))]) (fun t => St w0 ((b9, 64, rYp F i (zX x 4) t.1) :: (b2, 66, zX x 4) :: (H ++ η))) (fun t => 8 - t.1) ⟨0, by omega⟩ ⟨rfl, rfl, rfl, rfl, rfl, rfl, trivial⟩ (fun _ h => h) ?_
      rintro ⟨k, hk⟩
      dsimp only
      refine TC_seq ?_
      refine TC_seq ?_
      refine TC_reg ?_
      refine TL_q rfl rfl (QT_move rfl rfl rfl) ?_
      refine TL_q rfl rfl (QT_lss rfl rfl rfl rfl) ?_
      refine TL_nil ?_
      refine TX_then ?_
      first
        | refine TC_cond_dec rfl (fun h40 => ?_) (fun h40 => ?_)
        | refine TC_cond rfl (fun h40 => ?_) (fun h40 => ?_)
      ·
        have hk' : k < 8 := by omega
        have hmd : (3 * F * i + 4 + k) % 12 < 12 := Nat.mod_lt _ (by decide)
        have hpl := part_len (zX x 4) (0 + 0 + ((3 * F * i + 4 + k) % 12) * 2) 2 (by omega)
        have hql := rYp_len F i (zX x 4) k
        have hix : (3 * (F : Int) * (i : Int) + 4 + (k : Int)) % 12 = (((3 * F * i + 4 + k) % 12 : Nat) : Int) := by simp
        refine TC_skip ?_
        refine TX_then ?_
        refine TC_seq ?_
        refine TC_block ?_
        refine TC_reg ?_
        refine TL_q rfl rfl (QT_move rfl rfl rfl) ?_
        refine TL_q rfl rfl (QT_move rfl rfl rfl) ?_
        refine TL_q rfl rfl (QT_mul rfl rfl rfl rfl (fun _ => ⟨by omega, by omega⟩)) ?_
        refine TL_q rfl rfl (QT_move rfl rfl rfl) ?_
        refine TL_q rfl rfl (QT_mul rfl rfl rfl rfl (fun _ => ⟨by omega, by omega⟩)) ?_
        refine TL_q rfl rfl (QT_add rfl rfl rfl rfl (fun _ => ⟨by omega, by omega⟩)) ?_
        refine TL_q rfl rfl (QT_move rfl rfl rfl) ?_
        refine TL_q rfl rfl (QT_add rfl rfl rfl rfl (fun _ => ⟨by omega, by omega⟩)) ?_
        refine TL_q rfl rfl (QT_rem rfl rfl rfl rfl (fun _ => ⟨by omega, by omega⟩)) ?_
        refine TL_q rfl rfl (QT_field rfl rfl YtjipbndjcefbbaaDoorF.fld_66_0 rfl) ?_
        refine TL_q rfl rfl (QT_indexArr ((3 * F * i + 4 + k) % 12) rfl rfl Tryd.underlying58 YtjipbndjcefbbaaDoorF.sz_57 rfl rfl (hix) (fun _ => by omega)) ?_
        refine TL_q rfl rfl (QT_loadA 1 rfl rfl Tryd.underlying57 rfl rfl rfl YtjipbndjcefbbaaDoorF.sz_57 (fun _ => Nat.ble_eq_true_of_le (show 0 + 0 + ((3 * F * i + 4 + k) % 12) * 2 + 2 ≤ (zX x 4).length by omega))) ?_
        refine TL_q rfl rfl (QT_field rfl rfl YtjipbndjcefbbaaDoorF.fld_64_1 rfl) ?_
        refine TL_q rfl rfl (QT_indexArr (k) rfl rfl Tryd.underlying58 YtjipbndjcefbbaaDoorF.sz_57 rfl rfl (rfl) (fun _ => by omega)) ?_
        refine TL_e0 rfl rfl (rfl) (ET_store (vs := ((zX x 4).drop (0 + 0 + ((3 * F * i + 4 + k) % 12) * 2)).take 2) 0 rfl rfl rfl rfl (by rw [hpl]; exact YtjipbndjcefbbaaDoorF.sz_57) rfl (all_part hXi _ _) (Nat.ble_eq_true_of_le (by rw [hpl, hql]; omega))) ?_
        rintro _ _ ⟨rfl, rfl⟩
        refine TL_nil ?_
        refine TX_block_normal ?_
        refine TX_then ?_
        refine TC_reg ?_
        refine TL_q rfl rfl (QT_move rfl rfl rfl) ?_
        refine TL_q rfl rfl (QT_add rfl rfl rfl rfl (fun _ => ⟨by omega, by omega⟩)) ?_
        refine TL_q rfl rfl (QT_assign rfl rfl rfl) ?_
        refine TL_nil ?_
        exact TX_round ⟨k + 1, by omega⟩ (by show 8 - (k + 1) < 8 - k; omega) ⟨rfl, rfl, rfl, rfl, rfl, rfl, trivial⟩ (fun _ h => h)
      ·
        refine TC_exit ?_
        refine TX_then_exit ?_
        refine TX_then_exit ?_
        refine TX_block_here ?_
        refine TX_then ?_
        refine TC_seq ?_
        obtain rfl : k = 8 := by omega
        have hd1 : (F * i + 2) % 4 < 4 := Nat.mod_lt _ (by decide)
        have hd2 : (F * i + 3) % 4 < 4 := Nat.mod_lt _ (by decide)
        have hpl0 := part_len (zX x 4) (0 + 32 + ((F * i + 2) % 4) * 4) 4 (by omega)
        have hpl1 := part_len (zX x 4) (0 + 32 + ((F * i + 3) % 4) * 4) 4 (by omega)
        have hql := rYp_len F i (zX x 4) 8
        have hi1 : ((F : Int) * (i : Int) + 2) % 4 = (((F * i + 2) % 4 : Nat) : Int) := by simp
        have hi2 : ((F : Int) * (i : Int) + 3) % 4 = (((F * i + 3) % 4 : Nat) : Int) := by simp
        refine TC_reg ?_
        refine TL_q rfl rfl (QT_move rfl rfl rfl) ?_
        refine TL_q rfl rfl (QT_move rfl rfl rfl) ?_
        refine TL_q rfl rfl (QT_mul rfl rfl rfl rfl (fun _ => ⟨by omega, by omega⟩)) ?_
        refine TL_q rfl rfl (QT_add rfl rfl rfl rfl (fun _ => ⟨by omega, by omega⟩)) ?_
        refine TL_q rfl rfl (QT_rem rfl rfl rfl rfl (fun _ => ⟨by omega, by omega⟩)) ?_
        refine TL_q rfl rfl (QT_field rfl rfl YtjipbndjcefbbaaDoorF.fld_66_1 rfl) ?_
        refine TL_q rfl rfl (QT_indexArr ((F * i + 2) % 4) rfl rfl Tryd.underlying62 YtjipbndjcefbbaaDoorF.sz_61 rfl rfl (hi1) (fun _ => by omega)) ?_
        refine TL_q rfl rfl (QT_loadA 1 rfl rfl Tryd.underlying61 rfl rfl rfl YtjipbndjcefbbaaDoorF.sz_61 (fun _ => Nat.ble_eq_true_of_le (show 0 + 32 + ((F * i + 2) % 4) * 4 + 4 ≤ (zX x 4).length by omega))) ?_
        refine TL_q rfl rfl (QT_field rfl rfl YtjipbndjcefbbaaDoorF.fld_64_2 rfl) ?_
        refine TL_q rfl rfl (QT_indexArr (0) rfl rfl Tryd.underlying62 YtjipbndjcefbbaaDoorF.sz_61 rfl rfl (rfl) (fun _ => by decide)) ?_
        refine TL_e0 rfl rfl (rfl) (ET_store (vs := ((zX x 4).drop (0 + 32 + ((F * i + 2) % 4) * 4)).take 4) 0 rfl rfl rfl rfl (by rw [hpl0]; exact YtjipbndjcefbbaaDoorF.sz_61) rfl (all_part hXi _ _) (Nat.ble_eq_true_of_le (by rw [hpl0, hql]; decide))) ?_
        rintro _ _ ⟨rfl, rfl⟩
        refine TL_nil ?_
        refine TX_then ?_
        refine TC_seq ?_
        refine TC_reg ?_
        refine TL_q rfl rfl (QT_move rfl rfl rfl) ?_
        refine TL_q rfl rfl (QT_move rfl rfl rfl) ?_
        refine TL_q rfl rfl (QT_mul rfl rfl rfl rfl (fun _ => ⟨by omega, by omega⟩)) ?_
        refine TL_q rfl rfl (QT_add rfl rfl rfl rfl (fun _ => ⟨by omega, by omega⟩)) ?_
        refine TL_q rfl rfl (QT_rem rfl rfl rfl rfl (fun _ => ⟨by omega, by omega⟩)) ?_
        refine TL_q rfl rfl (QT_field rfl rfl YtjipbndjcefbbaaDoorF.fld_66_1 rfl) ?_
        refine TL_q rfl rfl (QT_indexArr ((F * i + 3) % 4) rfl rfl Tryd.underlying62 YtjipbndjcefbbaaDoorF.sz_61 rfl rfl (hi2) (fun _ => by omega)) ?_
        refine TL_q rfl rfl (QT_loadA 1 rfl rfl Tryd.underlying61 rfl rfl rfl YtjipbndjcefbbaaDoorF.sz_61 (fun _ => Nat.ble_eq_true_of_le (show 0 + 32 + ((F * i + 3) % 4) * 4 + 4 ≤ (zX x 4).length by omega))) ?_
        refine TL_q rfl rfl (QT_field rfl rfl YtjipbndjcefbbaaDoorF.fld_64_2 rfl) ?_
        refine TL_q rfl rfl (QT_indexArr (1) rfl rfl Tryd.underlying62 YtjipbndjcefbbaaDoorF.sz_61 rfl rfl (rfl) (fun _ => by decide)) ?_
        refine TL_e0 rfl rfl (rfl) (ET_store (vs := ((zX x 4).drop (0 + 32 + ((F * i + 3) % 4) * 4)).take 4) 0 rfl rfl rfl rfl (by rw [hpl1]; exact YtjipbndjcefbbaaDoorF.sz_61) rfl (all_part hXi _ _) (Nat.ble_eq_true_of_le (by rw [hpl1, setAt_length, hql]; decide))) ?_
        rintro _ _ ⟨rfl, rfl⟩
        refine TL_nil ?_
        refine TX_then ?_
        refine TC_A (St w0 ((b9, 64, rY F i (zX x 4)) :: (b2, 66, zX x 4) :: (H ++ η))) (fun w h => h) ?_
        have hwi : Ints sheetK (rY F i (zX x 4)) := rY_ints hXi hF3
        have hwls : (rY F i (zX x 4)).length = 49 := hwi.length
        have hzw : Sz Tryd.prog 64 (rY F i (zX x 4)).length := by rw [hwls]; exact YtjipbndjcefbbaaDoorF.sz_64
        refine TC_reg ?_
        refine TL_q rfl rfl (QT_move rfl rfl rfl) ?_
        refine TL_q rfl rfl (QT_loadW (cs := rY F i (zX x 4)) 0 rfl rfl Tryd.underlying64 rfl rfl rfl hzw) ?_
        refine TL_e rfl rfl rfl (rfl) (ET_buildN [_] rfl Tryd.underlying28 YtjipbndjcefbbaaDoorF.sz_64 YtjipbndjcefbbaaDoorF.zero_64 rfl rfl rfl (fun v hv => by cases List.mem_singleton.1 hv; exact hwls)) ?_
        rintro _ _ ⟨b79, rfl, rfl⟩
        refine TL_e rfl rfl rfl (rfl) (ET_appendL (L := [_, _, _]) rfl Tryd.underlying28 el_Sheet rfl rfl hFr (fun _ h => h) (SlA.own (n := 1) (xs := rY F i (zX x 4)) 0 rfl (by rw [List.drop_zero, List.take_of_length_le (by simp [Value.cells, hwls])]; simp [Value.cells]) (by simp [Value.cells, hwls]) (by omega)) hwi.oneCell (by omega) (by omega)) ?_
        rintro fv2 _ ⟨H', hF', rfl⟩
        refine TL_q rfl rfl (QT_assign rfl rfl rfl) ?_
        refine TL_nil ?_
        refine TX_block_normal ?_
        refine TX_then ?_
        refine TC_reg ?_
        refine TL_q rfl rfl (QT_move rfl rfl rfl) ?_
        refine TL_q rfl rfl (QT_add rfl rfl rfl rfl (fun _ => ⟨by omega, by omega⟩)) ?_
        refine TL_q rfl rfl (QT_assign rfl rfl rfl) ?_
        refine TL_nil ?_
        obtain ⟨j, rfl⟩ : ∃ j, i = j + 1 := ⟨i - 1, by omega⟩
        exact TX_round ⟨(j + 1 + 1, fv2, H'), ⟨by omega, by omega⟩, hF'⟩ (by show 5 - (j + 1 + 1) < 5 - (j + 1); omega) ⟨rfl, rfl, rfl, rfl, trivial⟩ (fun _ h => h.tail.tail)
    ·
      refine TC_exit ?_
      refine TX_then_exit ?_
      refine TX_then_exit ?_
      refine TX_block_here ?_
      refine TX_then ?_
      refine TC_seq ?_
      obtain rfl : i = 5 := by omega
      have hre := round_err hxl hF
      have hsi := rS_ints (F := F) hXi hF3 5
      have hoi : Ints (rep (cntT sixL 5 (rS F (zX x 4) 5)) patchK) (outT sixL 5 (rS F (zX x 4) 5)) := outT_ints hsi
      have hcn : cntT sixL 5 (rS F (zX x 4) 5) = 5 := by unfold cntT; rw [if_pos hre]
      rw [hcn] at hoi
      have hol : (outT sixL 5 (rS F (zX x 4) 5)).length = 240 := by rw [hoi.length, rep_len]; rfl
      refine TC_reg ?_
      refine TL_cq rfl rfl rfl rfl YtjipbndjcefbbaaDoorF.cal_17 rfl (fun _ => six_spec w0 _) ?_
      refine TL_q rfl rfl (QT_move rfl rfl rfl) ?_
      refine TL_e rfl rfl rfl (rfl) (ET_call rfl YtjipbndjcefbbaaDoorF.cal_10 rfl (of_spec w0 _ hG hE sixL _ 5 (rS F (zX x 4) 5) (hFr.within fun p => by simp only [List.countP_append, List.countP_cons]; omega) hsi (by omega))) ?_
      rintro _ _ ⟨pv, H2, rfl, hF2, rfl⟩
      refine TL_q rfl rfl (QT_move rfl rfl rfl) ?_
      refine TL_q rfl rfl (QT_extract rfl rfl rfl rfl) ?_
      refine TL_q rfl rfl (QT_extract rfl rfl rfl rfl) ?_
      refine TL_q rfl rfl (QT_assign rfl rfl rfl) ?_
      refine TL_q rfl rfl (QT_assign rfl rfl rfl) ?_
      refine TL_nil ?_
      refine TX_then ?_
      refine TC_seq ?_
      refine TC_seq ?_
      rw [hre]
      rw [hcn] at hF2
      refine TC_A (St w0 ((b2, 66, zX x 4) :: (H2 ++ η))) (fun _ h => h.cnt fun p => by simp only [List.countP_append, List.countP_cons]; omega) ?_
      obtain ⟨_, pad, pcap, pb, poff, rfl, hpc, hpad, hpr⟩ := (hF2.sla (w0 := w0) (η := [])).some
      obtain rfl := hpad (by omega)
      have hP : ∀ X : Heap, Rd (St w0 (X ++ (H2 ++ η))) pb poff (outT sixL 5 (rS F (zX x 4) 5)) := fun X => hpr.mono fun _ h => h.cnt fun p => by simp only [List.countP_append, List.countP_nil]; omega
      have hzX : Sz Tryd.prog 66 (zX x 4).length := by rw [hXl]; exact YtjipbndjcefbbaaDoorF.sz_66
      refine TC_draw [(0, 0), (1, 0), (2, 0), (3, 0), (4, 0), (5, 0), (6, 0), (7, 0), (8, 0), (9, 0), (10, 0), (11, 0), (12, 0), (13, 0)] YtjipbndjcefbbaaDoorF.mixed (by kernel_rfl) (St.calm _ _) ?_
      refine TV_q rfl rfl rfl (fun _ => QT_move rfl rfl rfl) ?_
      refine TV_q rfl rfl rfl (fun _ => QT_neq rfl rfl rfl rfl) ?_
      refine TV_q rfl rfl rfl (fun _ => QT_move rfl rfl rfl) ?_
      refine TV_q rfl rfl rfl (fun _ => QT_move rfl rfl rfl) ?_
      refine TV_q rfl rfl rfl (fun _ => QT_len rfl rfl Tryd.underlying31 rfl) ?_
      refine TV_q rfl rfl rfl (fun _ => QT_neq rfl rfl rfl rfl) ?_
      refine TV_q rfl rfl rfl (fun _ => QT_or rfl rfl rfl rfl) ?_
      refine TV_q rfl rfl rfl (fun _ => QT_move rfl rfl rfl) ?_
      refine TV_q rfl rfl rfl (fun _ => QT_move rfl rfl rfl) ?_
      refine TV_q rfl rfl rfl (fun _ => QT_indexSlice (0) rfl rfl Tryd.underlying31 YtjipbndjcefbbaaDoorF.sz_66 rfl rfl (rfl) (fun _ => by omega)) ?_
      refine TV_ql rfl rfl rfl (QT_loadRAj (0 * 48) rfl rfl Tryd.underlying66 rfl YtjipbndjcefbbaaDoorF.sz_66 (hP [_]) rfl (fun _ => by rw [hol]; decide) (fun _ => round_0 hxl hF)) ?_
      refine TV_ql rfl rfl rfl (QT_loadW (cs := zX x 4) 0 rfl rfl Tryd.underlying66 rfl rfl rfl hzX) ?_
      refine TV_q rfl rfl rfl (fun _ => QT_neA rfl rfl eq_Patch rfl rfl (fun _ => hXi) (fun _ => hXi)) ?_
      refine TV_q rfl rfl rfl (fun _ => QT_or rfl rfl rfl rfl) ?_
      refine TV_end ?_
      refine TX_then ?_
      refine TC_cond rfl (fun h => absurd (h.symm.trans ((show (_ : Bool) = false by rw [eqC_refl hXi]; rfl))) (by decide)) (fun _ => ?_)
      refine TC_skip ?_
      refine TX_then ?_
      refine TC_seq ?_
      refine TC_seq ?_
      refine TC_reg ?_
      refine TL_q rfl rfl (QT_assign rfl rfl rfl) ?_
      refine TL_nil ?_
      refine TX_then ?_
      refine TC_block ?_
      refine TC_loop (γ := { k : Nat // k ≤ 12 }) (fun t => [(2, true, .pointer (some ⟨b2, 0, none⟩)), (5, true, .int .i64 (F : Int)), (11, true, .slice (some ⟨pb, poff, none⟩) 5 pcap), (13, true, .int .i64 (t.1 : Int))]) (fun t => St w0 ((b2, 66, zX x 4) :: (H2 ++ η))) (fun t => 12 - t.1) ⟨0, by omega⟩ ⟨rfl, rfl, rfl, rfl, trivial⟩ (fun _ h => h) ?_
      rintro ⟨k, hk⟩
      dsimp only
      refine TC_seq ?_
      refine TC_seq ?_
      refine TC_reg ?_
      refine TL_q rfl rfl (QT_move rfl rfl rfl) ?_
      refine TL_q rfl rfl (QT_lss rfl rfl rfl rfl) ?_
      refine TL_nil ?_
      refine TX_then ?_
      first
        | refine TC_cond_dec rfl (fun h102 => ?_) (fun h102 => ?_)
        | refine TC_cond rfl (fun h102 => ?_) (fun h102 => ?_)
      ·
        have hk' : k < 12 := by omega
        have hep := eP_lt F k
        have hpi : Ints spotK (((zX x 4).drop (0 + 0 + eP F k * 2)).take 2) := by
          have h1 := (hXi.drop (0 + 0 + eP F k * 2)).take 2
          rwa [spK_at (by omega)] at h1
        refine TC_skip ?_
        refine TX_then ?_
        refine TC_seq ?_
        refine TC_block ?_
        refine TC_seq ?_
        refine TC_draw [(0, 0), (1, 0), (2, 0), (3, 0), (4, 0), (5, 0), (6, 0), (7, 0), (8, 0), (9, 0), (10, 0), (11, 0), (12, 0), (13, 0), (14, 0)] YtjipbndjcefbbaaDoorF.mixed (by kernel_rfl) (St.calm _ _) ?_
        refine TV_q rfl rfl rfl (fun _ => QT_move rfl rfl rfl) ?_
        refine TV_q rfl rfl rfl (fun _ => QT_move rfl rfl rfl) ?_
        refine TV_q rfl rfl rfl (fun _ => QT_indexSlice (1) rfl rfl Tryd.underlying31 YtjipbndjcefbbaaDoorF.sz_66 rfl rfl (rfl) (fun _ => by omega)) ?_
        refine TV_q rfl rfl rfl (fun _ => QT_field rfl rfl YtjipbndjcefbbaaDoorF.fld_66_0 rfl) ?_
        refine TV_q rfl rfl rfl (fun _ => QT_indexArr (k) rfl rfl Tryd.underlying58 YtjipbndjcefbbaaDoorF.sz_57 rfl rfl (rfl) (fun _ => by omega)) ?_
        refine TV_ql rfl rfl rfl (QT_loadRAj (1 * 48 + k * 2) rfl rfl Tryd.underlying57 rfl YtjipbndjcefbbaaDoorF.sz_57 (hP [_]) rfl (fun _ => by rw [hol]; omega) (fun _ => round_1 hxl hF hk')) ?_
        refine TV_q rfl rfl rfl (fun _ => QT_move rfl rfl rfl) ?_
        refine TV_q rfl rfl rfl (fun _ => QT_mul rfl rfl rfl rfl (fun _ => ⟨by omega, by omega⟩)) ?_
        refine TV_q rfl rfl rfl (fun _ => QT_move rfl rfl rfl) ?_
        refine TV_q rfl rfl rfl (fun _ => QT_add rfl rfl rfl rfl (fun _ => ⟨by omega, by omega⟩)) ?_
        refine TV_q rfl rfl rfl (fun _ => QT_rem rfl rfl rfl rfl (fun _ => ⟨by omega, by omega⟩)) ?_
        refine TV_q rfl rfl rfl (fun _ => QT_field rfl rfl YtjipbndjcefbbaaDoorF.fld_66_0 rfl) ?_
        refine TV_q rfl rfl rfl (fun _ => QT_indexArr (eP F k) rfl rfl Tryd.underlying58 YtjipbndjcefbbaaDoorF.sz_57 rfl rfl ((by unfold eP; omega)) (fun _ => by omega)) ?_
        refine TV_ql rfl rfl rfl (QT_loadA 0 rfl rfl Tryd.underlying57 rfl rfl rfl YtjipbndjcefbbaaDoorF.sz_57 (fun _ => Nat.ble_eq_true_of_le (show 0 + 0 + eP F k * 2 + 2 ≤ (zX x 4).length by omega))) ?_
        refine TV_q rfl rfl rfl (fun _ => QT_neA rfl rfl eq_Spot rfl rfl (fun _ => hpi) (fun _ => hpi)) ?_
        refine TV_end ?_
        refine TX_then ?_
        refine TC_cond rfl (fun h => absurd (h.symm.trans ((show (_ : Bool) = false by rw [eqC_refl hpi]; rfl))) (by decide)) (fun _ => ?_)
        refine TC_skip ?_
        refine TX_block_normal ?_
        refine TX_then ?_
        refine TC_reg ?_
        refine TL_q rfl rfl (QT_move rfl rfl rfl) ?_
        refine TL_q rfl rfl (QT_add rfl rfl rfl rfl (fun _ => ⟨by omega, by omega⟩)) ?_
        refine TL_q rfl rfl (QT_assign rfl rfl rfl) ?_
        refine TL_nil ?_
        exact TX_round ⟨k + 1, by omega⟩ (by show 12 - (k + 1) < 12 - k; omega) ⟨rfl, rfl, rfl, rfl, trivial⟩ (fun _ h => h)
      ·
        refine TC_exit ?_
        refine TX_then_exit ?_
        refine TX_then_exit ?_
        refine TX_block_here ?_
        refine TX_then ?_
        refine TC_seq ?_
        refine TC_draw [(0, 0), (1, 0), (2, 0), (3, 0), (4, 0), (5, 0), (6, 1), (7, 0), (8, 0)] YtjipbndjcefbbaaDoorF.mixed (by kernel_rfl) (St.calm _ _) ?_
        refine TV_q rfl rfl rfl (fun _ => QT_move rfl rfl rfl) ?_
        refine TV_q rfl rfl rfl (fun _ => QT_indexSlice (4) rfl rfl Tryd.underlying31 YtjipbndjcefbbaaDoorF.sz_66 rfl rfl (rfl) (fun _ => by omega)) ?_
        refine TV_ql rfl rfl rfl (QT_loadRAj (4 * 48) rfl rfl Tryd.underlying66 rfl YtjipbndjcefbbaaDoorF.sz_66 (hP [_]) rfl (fun _ => by rw [hol]; decide) (fun _ => round_4 hxl hF)) ?_
        refine TV_ql rfl rfl rfl (QT_loadW (cs := zX x 4) 0 rfl rfl Tryd.underlying66 rfl rfl rfl hzX) ?_
        refine TV_q rfl rfl rfl (fun _ => QT_eqA rfl rfl eq_Patch rfl rfl (fun _ => hXi) (fun _ => hXi)) ?_
        refine TV_q rfl rfl rfl (fun _ => QT_move rfl rfl rfl) ?_
        refine TV_cq rfl rfl rfl rfl rfl YtjipbndjcefbbaaDoorF.cal_8 rfl (fun _ => lives12 w0 _ hG hE) (.keep (by kernel_rfl) rfl (by first | exact QT_loadW (cs := zX x 4) 0 rfl rfl Tryd.underlying66 rfl rfl rfl hzX) (.keep (by kernel_rfl) rfl (by first | exact QT_loadRAj (4 * 48) rfl rfl Tryd.underlying66 rfl YtjipbndjcefbbaaDoorF.sz_66 (hP [_]) rfl (fun _ => by rw [hol]; decide) (fun _ => round_4 hxl hF)) (.nil))) ?_
        refine TV_q rfl rfl rfl (fun _ => QT_and rfl rfl rfl rfl) ?_
        refine TV_q rfl rfl rfl (fun _ => QT_assign rfl rfl rfl) ?_
        refine TV_end ?_
        refine TX_then ?_
        refine TC_ret ?_
        exact TX_ret (.inl rfl) (res1 rfl rfl) ⟨_, ⟨by rw [eqC_refl hXi]; rfl, rfl⟩, fun _ h => h.tail.app_right⟩
end Go.Proofs.YtjipbndjcefbbaaDoor

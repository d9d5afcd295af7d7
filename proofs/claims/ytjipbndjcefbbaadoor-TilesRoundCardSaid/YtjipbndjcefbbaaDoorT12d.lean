/- THE LAW's OWN HELPERS: a layout of type 6, a sheet whose points are numbered, the chapter's example. -/
import Derived.Test.YtjipbndjcefbbaaDoorT12c
namespace Go.Proofs.YtjipbndjcefbbaaDoor
open Go Go.Gx Go.RowKit
set_option maxRecDepth 100000

def sixL : Lay := ⟨6, 8, 8, 8, 1, 0, fun _ => 0⟩
theorem six_spec (w0 : World) (η : Heap) :
    CallsT Tryd.prog 17 [] (St w0 η) fun v A' => v = sixL.val ∧ A' = St w0 η := by
  refine CallsT.body Tryd.func17 rfl rfl ?_
  simp only [Tryd.ntmps17, slotsOf, Nat.reduceAdd]
  refine TC_seq ?_
  refine TC_reg ?_
  refine TL_e rfl rfl rfl (rfl) (ET_alloc rfl YtjipbndjcefbbaaDoorF.zero_27) ?_
  rintro _ _ ⟨b0, rfl, rfl⟩
  refine TL_nil ?_
  refine TX_then ?_
  refine TC_seq ?_
  refine TC_reg ?_
  refine TL_q rfl rfl (QT_build rfl rfl YtjipbndjcefbbaaDoorF.zero_27 YtjipbndjcefbbaaDoorF.pl_27 rfl rfl rfl) ?_
  first
    | refine TL_e0 rfl rfl (rfl) (ET_storeW 0 rfl rfl rfl YtjipbndjcefbbaaDoorF.sz_27 rfl rfl rfl) ?_
    | refine TL_e0 rfl rfl (rfl) (ET_storeW 1 rfl rfl rfl YtjipbndjcefbbaaDoorF.sz_27 rfl rfl rfl) ?_
    | refine TL_e0 rfl rfl (rfl) (ET_storeW 2 rfl rfl rfl YtjipbndjcefbbaaDoorF.sz_27 rfl rfl rfl) ?_
    | refine TL_e0 rfl rfl (rfl) (ET_store 0 rfl rfl rfl rfl YtjipbndjcefbbaaDoorF.sz_27 rfl rfl rfl) ?_
    | refine TL_e0 rfl rfl (rfl) (ET_store 1 rfl rfl rfl rfl YtjipbndjcefbbaaDoorF.sz_27 rfl rfl rfl) ?_
    | refine TL_e0 rfl rfl (rfl) (ET_store 2 rfl rfl rfl rfl YtjipbndjcefbbaaDoorF.sz_27 rfl rfl rfl) ?_
  rintro _ _ ⟨rfl, rfl⟩
  refine TL_nil ?_
  refine TX_then ?_
  refine TC_ret ?_
  exact TX_ret (.inl rfl) (resC 0 rfl rfl Tryd.underlying27 rfl rfl YtjipbndjcefbbaaDoorF.sz_27) ⟨_, ⟨rfl, rfl⟩, (fun _ h => by first | exact h | exact h.tail | exact h.tail.tail | exact h.tail.tail.tail | exact h.tail.tail.tail.tail | exact h.tail.tail.tail.tail.tail | exact h.tail.tail.tail.tail.tail.tail | exact h.tail.tail.tail.tail.tail.tail.tail | exact h.tail.tail.tail.tail.tail.tail.tail.tail | exact h.tail.tail.tail.tail.tail.tail.tail.tail.tail | exact h.tail.tail.tail.tail.tail.tail.tail.tail.tail.tail | exact h.tail.tail.tail.tail.tail.tail.tail.tail.tail.tail.tail | exact h.tail.tail.tail.tail.tail.tail.tail.tail.tail.tail.tail.tail | exact h.tail.tail.tail.tail.tail.tail.tail.tail.tail.tail.tail.tail.tail)⟩
def cP (f : Int) (p : Int) : Nat → List Value
  | 0 => .int .u8 f :: zs sheetK.tail
  | k + 1 => setAt (cP f p k) (0 + 1 + k * 2 + 0) [.int .u32 (IntKind.u32.wrap (p + (k : Int)))]
def cC (f p c : Int) : Nat → List Value
  | 0 => cP f p 12
  | k + 1 => setAt (cC f p c k) (0 + 33 + k * 4 + 0 * 1) [.int .u16 (IntKind.u16.wrap (c + (k : Int)))]
theorem cP_len (f p : Int) : ∀ k, (cP f p k).length = 49
  | 0 => rfl
  | k + 1 => by rw [cP, setAt_length, cP_len f p k]
theorem cC_len (f p c : Int) : ∀ k, (cC f p c k).length = 49
  | 0 => cP_len f p 12
  | k + 1 => by rw [cC, setAt_length, cC_len f p c k]
theorem counted_spec (w0 : World) (η : Heap) (f p c : Int) (hp : 0 ≤ p ∧ p ≤ 1000) (hc : 0 ≤ c ∧ c ≤ 1000) (hi : Ints sheetK (cC f p c 4)) :
    CallsT Tryd.prog 18 [.int .u8 f, .int .i64 p, .int .i64 c] (St w0 η) fun v A' => v = .agg (cC f p c 4).toArray ∧ A' = St w0 η := by
  refine CallsT.body Tryd.func18 rfl rfl ?_
  simp only [Tryd.ntmps18, slotsOf, Nat.reduceAdd]
  refine TC_seq ?_
  refine TC_reg ?_
  refine TL_e rfl rfl rfl (rfl) (ET_alloc rfl YtjipbndjcefbbaaDoorF.zero_64) ?_
  rintro _ _ ⟨b6, rfl, rfl⟩
  refine TL_nil ?_
  refine TX_then ?_
  refine TC_seq ?_
  refine TC_reg ?_
  refine TL_q rfl rfl (QT_move rfl rfl rfl) ?_
  refine TL_q rfl rfl (QT_build rfl rfl YtjipbndjcefbbaaDoorF.zero_64 YtjipbndjcefbbaaDoorF.pl_64 rfl rfl rfl) ?_
  refine TL_e rfl rfl rfl (rfl) (ET_alloc rfl YtjipbndjcefbbaaDoorF.zero_64) ?_
  rintro _ _ ⟨b7, rfl, rfl⟩
  first
    | refine TL_e0 rfl rfl (rfl) (ET_storeW 0 rfl rfl rfl YtjipbndjcefbbaaDoorF.sz_64 rfl rfl rfl) ?_
    | refine TL_e0 rfl rfl (rfl) (ET_storeW 1 rfl rfl rfl YtjipbndjcefbbaaDoorF.sz_64 rfl rfl rfl) ?_
    | refine TL_e0 rfl rfl (rfl) (ET_storeW 2 rfl rfl rfl YtjipbndjcefbbaaDoorF.sz_64 rfl rfl rfl) ?_
    | refine TL_e0 rfl rfl (rfl) (ET_store 0 rfl rfl rfl rfl YtjipbndjcefbbaaDoorF.sz_64 rfl rfl rfl) ?_
    | refine TL_e0 rfl rfl (rfl) (ET_store 1 rfl rfl rfl rfl YtjipbndjcefbbaaDoorF.sz_64 rfl rfl rfl) ?_
    | refine TL_e0 rfl rfl (rfl) (ET_store 2 rfl rfl rfl rfl YtjipbndjcefbbaaDoorF.sz_64 rfl rfl rfl) ?_
  rintro _ _ ⟨rfl, rfl⟩
  refine TL_nil ?_
  refine TX_then ?_
  refine TC_seq ?_
  refine TC_seq ?_
  refine TC_reg ?_
  refine TL_q rfl rfl (QT_assign rfl rfl rfl) ?_
  refine TL_nil ?_
  refine TX_then ?_
  refine TC_block ?_
  refine TC_loop (γ := { k : Nat // k ≤ 12 }) (fun t => [(1, true, .int .i64 p), (2, true, .int .i64 c), (6, true, .pointer (some ⟨b6, 0, none⟩)), (7, true, .pointer (some ⟨b7, 0, none⟩)), (8, true, .int .i64 (t.1 : Int))]) (fun t => St w0 ((b7, 64, cP f p t.1) :: (b6, 64, .int .u8 0 :: zs sheetK.tail) :: η)) (fun t => 12 - t.1) ⟨0, by omega⟩ ⟨rfl, rfl, rfl, rfl, rfl, trivial⟩ (fun _ h => h) ?_
  rintro ⟨k, hk⟩
  dsimp only
  have hql := cP_len f p k
  refine TC_seq ?_
  refine TC_seq ?_
  refine TC_reg ?_
  refine TL_q rfl rfl (QT_move rfl rfl rfl) ?_
  refine TL_q rfl rfl (QT_lss rfl rfl rfl rfl) ?_
  refine TL_nil ?_
  refine TX_then ?_
  first
    | refine TC_cond_dec rfl (fun h13 => ?_) (fun h13 => ?_)
    | refine TC_cond rfl (fun h13 => ?_) (fun h13 => ?_)
  ·
    refine TC_skip ?_
    refine TX_then ?_
    refine TC_seq ?_
    refine TC_block ?_
    refine TC_reg ?_
    refine TL_q rfl rfl (QT_move rfl rfl rfl) ?_
    refine TL_q rfl rfl (QT_move rfl rfl rfl) ?_
    refine TL_q rfl rfl (QT_move rfl rfl rfl) ?_
    refine TL_q rfl rfl (QT_add rfl rfl rfl rfl (fun _ => ⟨by omega, by omega⟩)) ?_
    refine TL_q rfl rfl (QT_conv rfl rfl Tryd.underlying3 Tryd.underlying55 rfl) ?_
    refine TL_q rfl rfl (QT_field rfl rfl YtjipbndjcefbbaaDoorF.fld_64_1 rfl) ?_
    refine TL_q rfl rfl (QT_indexArr (k) rfl rfl Tryd.underlying58 YtjipbndjcefbbaaDoorF.sz_57 rfl rfl (rfl) (fun _ => by omega)) ?_
    refine TL_q rfl rfl (QT_field rfl rfl YtjipbndjcefbbaaDoorF.fld_57_0 rfl) ?_
    refine TL_e0 rfl rfl (rfl) (ET_store (vs := [.int .u32 (IntKind.u32.wrap (p + (k : Int)))]) 0 rfl rfl rfl rfl YtjipbndjcefbbaaDoorF.sz_55 rfl rfl (Nat.ble_eq_true_of_le (by rw [hql]; show 0 + 1 + k * 2 + 0 + 1 ≤ 49; omega))) ?_
    rintro _ _ ⟨rfl, rfl⟩
    refine TL_nil ?_
    refine TX_block_normal ?_
    refine TX_then ?_
    refine TC_reg ?_
    refine TL_q rfl rfl (QT_move rfl rfl rfl) ?_
    refine TL_q rfl rfl (QT_add rfl rfl rfl rfl (fun _ => ⟨by omega, by omega⟩)) ?_
    refine TL_q rfl rfl (QT_assign rfl rfl rfl) ?_
    refine TL_nil ?_
    exact TX_round ⟨k + 1, by omega⟩ (by show 12 - (k + 1) < 12 - k; omega) ⟨rfl, rfl, rfl, rfl, rfl, trivial⟩ (fun _ h => h)
  ·
    refine TC_exit ?_
    refine TX_then_exit ?_
    refine TX_then_exit ?_
    refine TX_block_here ?_
    refine TX_then ?_
    refine TC_seq ?_
    refine TC_seq ?_
    refine TC_reg ?_
    refine TL_q rfl rfl (QT_assign rfl rfl rfl) ?_
    refine TL_nil ?_
    refine TX_then ?_
    refine TC_block ?_
    obtain rfl : k = 12 := by omega
    refine TC_loop (γ := { k : Nat // k ≤ 4 }) (fun t => [(2, true, .int .i64 c), (6, true, .pointer (some ⟨b6, 0, none⟩)), (7, true, .pointer (some ⟨b7, 0, none⟩)), (9, true, .int .i64 (t.1 : Int))]) (fun t => St w0 ((b7, 64, cC f p c t.1) :: (b6, 64, .int .u8 0 :: zs sheetK.tail) :: η)) (fun t => 4 - t.1) ⟨0, by omega⟩ ⟨rfl, rfl, rfl, rfl, trivial⟩ (fun _ h => h) ?_
    rintro ⟨m, hm⟩
    dsimp only
    have hql := cC_len f p c m
    refine TC_seq ?_
    refine TC_seq ?_
    refine TC_reg ?_
    refine TL_q rfl rfl (QT_move rfl rfl rfl) ?_
    refine TL_q rfl rfl (QT_lss rfl rfl rfl rfl) ?_
    refine TL_nil ?_
    refine TX_then ?_
    first
      | refine TC_cond_dec rfl (fun h25 => ?_) (fun h25 => ?_)
      | refine TC_cond rfl (fun h25 => ?_) (fun h25 => ?_)
    ·
      refine TC_skip ?_
      refine TX_then ?_
      refine TC_seq ?_
      refine TC_block ?_
      refine TC_reg ?_
      refine TL_q rfl rfl (QT_move rfl rfl rfl) ?_
      refine TL_q rfl rfl (QT_move rfl rfl rfl) ?_
      refine TL_q rfl rfl (QT_move rfl rfl rfl) ?_
      refine TL_q rfl rfl (QT_add rfl rfl rfl rfl (fun _ => ⟨by omega, by omega⟩)) ?_
      refine TL_q rfl rfl (QT_conv rfl rfl Tryd.underlying3 Tryd.underlying59 rfl) ?_
      refine TL_q rfl rfl (QT_field rfl rfl YtjipbndjcefbbaaDoorF.fld_64_2 rfl) ?_
      refine TL_q rfl rfl (QT_indexArr (m) rfl rfl Tryd.underlying62 YtjipbndjcefbbaaDoorF.sz_61 rfl rfl (rfl) (fun _ => by omega)) ?_
      refine TL_q rfl rfl (QT_indexArr (0) rfl rfl Tryd.underlying61 YtjipbndjcefbbaaDoorF.sz_59 rfl rfl (rfl) (fun _ => by decide)) ?_
      refine TL_e0 rfl rfl (rfl) (ET_store (vs := [.int .u16 (IntKind.u16.wrap (c + (m : Int)))]) 0 rfl rfl rfl rfl YtjipbndjcefbbaaDoorF.sz_59 rfl rfl (Nat.ble_eq_true_of_le (by rw [hql]; show 0 + 33 + m * 4 + 0 * 1 + 1 ≤ 49; omega))) ?_
      rintro _ _ ⟨rfl, rfl⟩
      refine TL_nil ?_
      refine TX_block_normal ?_
      refine TX_then ?_
      refine TC_reg ?_
      refine TL_q rfl rfl (QT_move rfl rfl rfl) ?_
      refine TL_q rfl rfl (QT_add rfl rfl rfl rfl (fun _ => ⟨by omega, by omega⟩)) ?_
      refine TL_q rfl rfl (QT_assign rfl rfl rfl) ?_
      refine TL_nil ?_
      exact TX_round ⟨m + 1, by omega⟩ (by show 4 - (m + 1) < 4 - m; omega) ⟨rfl, rfl, rfl, rfl, trivial⟩ (fun _ h => h)
    ·
      refine TC_exit ?_
      refine TX_then_exit ?_
      refine TX_then_exit ?_
      refine TX_block_here ?_
      refine TX_then ?_
      refine TC_seq ?_
      obtain rfl : m = 4 := by omega
      have hsz : Sz Tryd.prog 64 (cC f p c 4).length := by rw [hql]; exact YtjipbndjcefbbaaDoorF.sz_64
      refine TC_reg ?_
      refine TL_q rfl rfl (QT_loadW 0 rfl rfl Tryd.underlying64 rfl rfl rfl hsz) ?_
      refine TL_e0 rfl rfl (rfl) (ET_storeW (vs := cC f p c 4) 1 rfl rfl rfl hsz rfl (List.all_eq_true.2 hi.oneCell) (by rw [hql]; rfl)) ?_
      rintro _ _ ⟨rfl, rfl⟩
      refine TL_nil ?_
      refine TX_then ?_
      refine TC_ret ?_
      exact TX_ret (.inl rfl) (resC 1 rfl rfl Tryd.underlying64 rfl rfl hsz) ⟨_, ⟨rfl, rfl⟩, (fun _ h => by first | exact h | exact h.tail | exact h.tail.tail | exact h.tail.tail.tail | exact h.tail.tail.tail.tail | exact h.tail.tail.tail.tail.tail | exact h.tail.tail.tail.tail.tail.tail | exact h.tail.tail.tail.tail.tail.tail.tail | exact h.tail.tail.tail.tail.tail.tail.tail.tail | exact h.tail.tail.tail.tail.tail.tail.tail.tail.tail | exact h.tail.tail.tail.tail.tail.tail.tail.tail.tail.tail | exact h.tail.tail.tail.tail.tail.tail.tail.tail.tail.tail.tail | exact h.tail.tail.tail.tail.tail.tail.tail.tail.tail.tail.tail.tail | exact h.tail.tail.tail.tail.tail.tail.tail.tail.tail.tail.tail.tail.tail)⟩
theorem eq_Spot : EqOk Tryd.prog 57 spotK := ⟨by kernel_rfl, by kernel_rfl, by kernel_rfl, by kernel_rfl⟩
theorem eq_Colour : EqOk Tryd.prog 61 colK := ⟨by kernel_rfl, by kernel_rfl, by kernel_rfl, by kernel_rfl⟩
theorem eq_Cols : EqOk Tryd.prog 62 (rep 4 colK) := ⟨by kernel_rfl, by kernel_rfl, by kernel_rfl, by kernel_rfl⟩

theorem of_own (w0 : World) (η : Heap) (hG : Sets w0) (hE : Edges w0) (L : Lay) (b n : Nat) (xs : List Value) (hi : Ints (rep n sheetK) xs) (hn : n * 160 ≤ 140737488355328) {e : Int} (he : errT L n xs = e) :
    CallsT Tryd.prog 10 [L.val, .slice (some ⟨b, 0, none⟩) n n] (St w0 ((b, 64, xs) :: η)) fun v A' => ∃ pv H, v = .tuple #[pv, .int .i64 e] ∧ Frag 66 48 pv (cntT L n xs) (outT L n xs) H ∧ A' = St w0 (H ++ ((b, 64, xs) :: η)) := by
  have hl : xs.length = n * 49 := by rw [hi.length, rep_len]; rfl
  rw [← he]
  exact of_spec w0 _ hG hE L _ n xs (SlA.own 0 rfl (by rw [List.drop_zero, List.take_of_length_le (by omega)]) (by omega) (by omega)) hi hn
def live1 : List Value := cC 0 1 1 4 ++ (cC 3 21 5 4 ++ [])
def live2 : List Value := cC 1 1 1 4 ++ []
def live3 : List Value := cC 0 1 1 4 ++ (cC 4 1 1 4 ++ [])
theorem live1_e : errT sixL 2 live1 = 0 := by kernel_rfl
theorem live2_e : errT sixL 1 live2 = 6 := by kernel_rfl
theorem live3_e : errT sixL 2 live3 = 7 := by kernel_rfl
def ptL : List Int := [10, 11, 12, 1, 21, 22, 23, 24, 25, 26, 27, 28, 0, 0, 0, 0]
def liveT : List Value := outT sixL 2 live1
theorem liveT_p : ∀ i : Nat, i < 16 → liveT[1 * 48 + i * 2]? = some (.int .u32 (ptL.getD i 0))
  | 0, _ => by kernel_rfl
  | 1, _ => by kernel_rfl
  | 2, _ => by kernel_rfl
  | 3, _ => by kernel_rfl
  | 4, _ => by kernel_rfl
  | 5, _ => by kernel_rfl
  | 6, _ => by kernel_rfl
  | 7, _ => by kernel_rfl
  | 8, _ => by kernel_rfl
  | 9, _ => by kernel_rfl
  | 10, _ => by kernel_rfl
  | 11, _ => by kernel_rfl
  | 12, _ => by kernel_rfl
  | 13, _ => by kernel_rfl
  | 14, _ => by kernel_rfl
  | 15, _ => by kernel_rfl
  | n + 16, h => absurd h (by omega)
theorem liveT_q : ∀ i : Nat, i < 12 → liveT[i * 2]? = some (.int .u32 (IntKind.u32.wrap ((i : Int) + 1)))
  | 0, _ => by kernel_rfl
  | 1, _ => by kernel_rfl
  | 2, _ => by kernel_rfl
  | 3, _ => by kernel_rfl
  | 4, _ => by kernel_rfl
  | 5, _ => by kernel_rfl
  | 6, _ => by kernel_rfl
  | 7, _ => by kernel_rfl
  | 8, _ => by kernel_rfl
  | 9, _ => by kernel_rfl
  | 10, _ => by kernel_rfl
  | 11, _ => by kernel_rfl
def ptV : List Value := [.int .u32 10, .int .u32 11, .int .u32 12, .int .u32 1, .int .u32 21, .int .u32 22, .int .u32 23, .int .u32 24, .int .u32 25, .int .u32 26, .int .u32 27, .int .u32 28, .int .u32 0, .int .u32 0, .int .u32 0, .int .u32 0]
theorem ptV_at : ∀ i : Nat, i < 16 → ptV[0 + i * 1]? = some (.int .u32 (ptL.getD i 0))
  | 0, _ => rfl
  | 1, _ => rfl
  | 2, _ => rfl
  | 3, _ => rfl
  | 4, _ => rfl
  | 5, _ => rfl
  | 6, _ => rfl
  | 7, _ => rfl
  | 8, _ => rfl
  | 9, _ => rfl
  | 10, _ => rfl
  | 11, _ => rfl
  | 12, _ => rfl
  | 13, _ => rfl
  | 14, _ => rfl
  | 15, _ => rfl
  | n + 16, h => absurd h (by omega)
def colsV : List Value := [.int .u16 4, .int .u16 0, .int .u16 0, .int .u16 0, .int .u16 1, .int .u16 0, .int .u16 0, .int .u16 0, .int .u16 5, .int .u16 0, .int .u16 0, .int .u16 0, .int .u16 6, .int .u16 0, .int .u16 0, .int .u16 0]
def colV : List Value := [.int .u16 4, .int .u16 0, .int .u16 0, .int .u16 0]
theorem liveT_c : (liveT.drop 80).take 16 = colsV := by kernel_rfl
theorem liveT_d : (liveT.drop 44).take 4 = colV := by kernel_rfl
theorem live_i1 : Ints sheetK (cC 0 1 1 4) := intsB_ok _ _ (by kernel_rfl)
theorem live_i2 : Ints sheetK (cC 3 21 5 4) := intsB_ok _ _ (by kernel_rfl)
theorem live_i3 : Ints sheetK (cC 1 1 1 4) := intsB_ok _ _ (by kernel_rfl)
theorem live_i4 : Ints sheetK (cC 4 1 1 4) := intsB_ok _ _ (by kernel_rfl)
theorem colsV_i : Ints (rep 4 colK) colsV := intsB_ok _ _ (by kernel_rfl)
theorem colV_i : Ints colK colV := intsB_ok _ _ (by kernel_rfl)
theorem liveT_len : liveT.length = 96 := by kernel_rfl
theorem rep2 (ks : List IntKind) : rep 2 ks = ks ++ (ks ++ []) := rfl
theorem rep1 (ks : List IntKind) : rep 1 ks = ks ++ [] := rfl

theorem lives12 (w0 : World) (η : Heap) (hG : Sets w0) (hE : Edges w0) :
    CallsT Tryd.prog 8 [] (St w0 η) fun v A' => v = .bool true ∧ A' = St w0 η := by
  refine CallsT.body Tryd.func8 rfl rfl ?_
  simp only [Tryd.ntmps8, slotsOf, Nat.reduceAdd]
  refine TC_seq ?_
  refine TC_reg ?_
  refine TL_q rfl rfl (QT_assign rfl rfl rfl) ?_
  refine TL_nil ?_
  refine TX_then ?_
  refine TC_seq ?_
  refine TC_reg ?_
  refine TL_cq rfl rfl rfl rfl YtjipbndjcefbbaaDoorF.cal_17 rfl (fun _ => six_spec w0 _) ?_
  refine TL_cq rfl rfl rfl rfl YtjipbndjcefbbaaDoorF.cal_18 rfl (fun _ => counted_spec w0 _ 0 1 1 (by decide) (by decide) live_i1) ?_
  refine TL_cq rfl rfl rfl rfl YtjipbndjcefbbaaDoorF.cal_18 rfl (fun _ => counted_spec w0 _ 3 21 5 (by decide) (by decide) live_i2) ?_
  refine TL_e rfl rfl rfl (rfl) (ET_buildN [_, _] rfl Tryd.underlying28 YtjipbndjcefbbaaDoorF.sz_64 YtjipbndjcefbbaaDoorF.zero_64 rfl rfl rfl (fun v hv => by
   rcases List.mem_cons.1 hv with rfl | hv
   · exact cC_len _ _ _ _
   · cases List.mem_singleton.1 hv; exact cC_len _ _ _ _)) ?_
  rintro _ _ ⟨b13, rfl, rfl⟩
  refine TL_e rfl rfl rfl (rfl) (ET_call rfl YtjipbndjcefbbaaDoorF.cal_10 rfl (of_own w0 _ hG hE sixL b13 2 live1 (by rw [rep2]; exact live_i1.append (live_i2.append .nil)) (by omega) live1_e)) ?_
  rintro _ _ ⟨pv, H, rfl, hF, rfl⟩
  refine TL_q rfl rfl (QT_move rfl rfl rfl) ?_
  refine TL_q rfl rfl (QT_extract rfl rfl rfl rfl) ?_
  refine TL_q rfl rfl (QT_extract rfl rfl rfl rfl) ?_
  refine TL_q rfl rfl (QT_assign rfl rfl rfl) ?_
  refine TL_q rfl rfl (QT_assign rfl rfl rfl) ?_
  refine TL_nil ?_
  refine TX_then ?_
  refine TC_seq ?_
  refine TC_reg ?_
  refine TL_cq rfl rfl rfl rfl YtjipbndjcefbbaaDoorF.cal_17 rfl (fun _ => six_spec w0 _) ?_
  refine TL_cq rfl rfl rfl rfl YtjipbndjcefbbaaDoorF.cal_18 rfl (fun _ => counted_spec w0 _ 1 1 1 (by decide) (by decide) live_i3) ?_
  refine TL_e rfl rfl rfl (rfl) (ET_buildN [_] rfl Tryd.underlying28 YtjipbndjcefbbaaDoorF.sz_64 YtjipbndjcefbbaaDoorF.zero_64 rfl rfl rfl (fun v hv => by cases List.mem_singleton.1 hv; exact cC_len _ _ _ _)) ?_
  rintro _ _ ⟨b20, rfl, rfl⟩
  refine TL_e rfl rfl rfl (rfl) (ET_call rfl YtjipbndjcefbbaaDoorF.cal_10 rfl (of_own w0 _ hG hE sixL b20 1 live2 (by rw [rep1]; exact live_i3.append .nil) (by omega) live2_e)) ?_
  rintro _ _ ⟨pv2, H2, rfl, hF2, rfl⟩
  refine TL_q rfl rfl (QT_move rfl rfl rfl) ?_
  refine TL_q rfl rfl (QT_extract rfl rfl rfl rfl) ?_
  refine TL_q rfl rfl (QT_extract rfl rfl rfl rfl) ?_
  refine TL_q rfl rfl (QT_assign rfl rfl rfl) ?_
  refine TL_q rfl rfl (QT_assign rfl rfl rfl) ?_
  refine TL_nil ?_
  refine TX_then ?_
  refine TC_seq ?_
  refine TC_reg ?_
  refine TL_cq rfl rfl rfl rfl YtjipbndjcefbbaaDoorF.cal_17 rfl (fun _ => six_spec w0 _) ?_
  refine TL_cq rfl rfl rfl rfl YtjipbndjcefbbaaDoorF.cal_18 rfl (fun _ => counted_spec w0 _ 0 1 1 (by decide) (by decide) live_i1) ?_
  refine TL_cq rfl rfl rfl rfl YtjipbndjcefbbaaDoorF.cal_18 rfl (fun _ => counted_spec w0 _ 4 1 1 (by decide) (by decide) live_i4) ?_
  refine TL_e rfl rfl rfl (rfl) (ET_buildN [_, _] rfl Tryd.underlying28 YtjipbndjcefbbaaDoorF.sz_64 YtjipbndjcefbbaaDoorF.zero_64 rfl rfl rfl (fun v hv => by
   rcases List.mem_cons.1 hv with rfl | hv
   · exact cC_len _ _ _ _
   · cases List.mem_singleton.1 hv; exact cC_len _ _ _ _)) ?_
  rintro _ _ ⟨b28, rfl, rfl⟩
  refine TL_e rfl rfl rfl (rfl) (ET_call rfl YtjipbndjcefbbaaDoorF.cal_10 rfl (of_own w0 _ hG hE sixL b28 2 live3 (by rw [rep2]; exact live_i1.append (live_i4.append .nil)) (by omega) live3_e)) ?_
  rintro _ _ ⟨pv3, H3, rfl, hF3, rfl⟩
  refine TL_q rfl rfl (QT_move rfl rfl rfl) ?_
  refine TL_q rfl rfl (QT_extract rfl rfl rfl rfl) ?_
  refine TL_q rfl rfl (QT_extract rfl rfl rfl rfl) ?_
  refine TL_q rfl rfl (QT_assign rfl rfl rfl) ?_
  refine TL_q rfl rfl (QT_assign rfl rfl rfl) ?_
  refine TL_nil ?_
  refine TX_then ?_
  refine TC_seq ?_
  refine TC_seq ?_
  refine TC_A (St w0 (H ++ η)) (fun _ h => h.cnt fun p => by simp only [List.countP_append, List.countP_cons]; omega) ?_
  have hF' : Frag 66 48 pv 2 liveT H := hF
  obtain ⟨_, pad, pcap, pb, poff, rfl, hpc, hpad, hpr⟩ := (hF'.sla (w0 := w0) (η := [])).some
  obtain rfl := hpad (by omega)
  have hR : ∀ X : Heap, Rd (St w0 (X ++ (H ++ η))) pb poff liveT := fun X => hpr.mono fun _ h => h.cnt fun p => by simp only [List.countP_append, List.countP_nil]; omega
  have hTl := liveT_len
  refine TC_reg ?_
  refine TL_q rfl rfl (QT_move rfl rfl rfl) ?_
  refine TL_q rfl rfl (QT_len rfl rfl Tryd.underlying31 rfl) ?_
  refine TL_q rfl rfl (QT_neq rfl rfl rfl rfl) ?_
  refine TL_q rfl rfl (QT_move rfl rfl rfl) ?_
  refine TL_q rfl rfl (QT_move rfl rfl rfl) ?_
  refine TL_q rfl rfl (QT_neq rfl rfl rfl rfl) ?_
  refine TL_q rfl rfl (QT_or rfl rfl rfl rfl) ?_
  refine TL_q rfl rfl (QT_move rfl rfl rfl) ?_
  refine TL_q rfl rfl (QT_move rfl rfl rfl) ?_
  refine TL_q rfl rfl (QT_neq rfl rfl rfl rfl) ?_
  refine TL_q rfl rfl (QT_or rfl rfl rfl rfl) ?_
  refine TL_q rfl rfl (QT_move rfl rfl rfl) ?_
  refine TL_q rfl rfl (QT_move rfl rfl rfl) ?_
  refine TL_q rfl rfl (QT_neq rfl rfl rfl rfl) ?_
  refine TL_q rfl rfl (QT_or rfl rfl rfl rfl) ?_
  refine TL_nil ?_
  refine TX_then ?_
  refine TC_cond rfl (fun h => absurd (h.symm.trans ((show (_ : Bool) = false by rfl))) (by decide)) (fun _ => ?_)
  refine TC_skip ?_
  refine TX_then ?_
  refine TC_seq ?_
  refine TC_reg ?_
  refine TL_e rfl rfl rfl (rfl) (ET_buildSlice rfl Tryd.underlying73 YtjipbndjcefbbaaDoorF.sz_55 YtjipbndjcefbbaaDoorF.zero_55 rfl rfl rfl) ?_
  rintro _ _ ⟨b47, rfl, rfl⟩
  refine TL_q rfl rfl (QT_assign rfl rfl rfl) ?_
  refine TL_nil ?_
  refine TX_then ?_
  refine TC_seq ?_
  refine TC_seq ?_
  refine TC_reg ?_
  refine TL_q rfl rfl (QT_assign rfl rfl rfl) ?_
  refine TL_nil ?_
  refine TX_then ?_
  refine TC_block ?_
  refine TC_loop (γ := { k : Nat // k ≤ 16 }) (fun t => [(1, true, .slice (some ⟨pb, poff, none⟩) 2 pcap), (7, true, .slice (some ⟨b47, 0, none⟩) 16 16), (8, true, .int .i64 (t.1 : Int))]) (fun t => St w0 ((b47, 55, ptV) :: (H ++ η))) (fun t => 16 - t.1) ⟨0, by omega⟩ ⟨rfl, rfl, rfl, trivial⟩ (fun _ h => h) ?_
  rintro ⟨i, hi⟩
  dsimp only
  refine TC_seq ?_
  refine TC_seq ?_
  refine TC_reg ?_
  refine TL_q rfl rfl (QT_move rfl rfl rfl) ?_
  refine TL_q rfl rfl (QT_lss rfl rfl rfl rfl) ?_
  refine TL_nil ?_
  refine TX_then ?_
  first
    | refine TC_cond_dec rfl (fun h49 => ?_) (fun h49 => ?_)
    | refine TC_cond rfl (fun h49 => ?_) (fun h49 => ?_)
  ·
    have hi' : i < 16 := by omega
    refine TC_skip ?_
    refine TX_then ?_
    refine TC_seq ?_
    refine TC_block ?_
    refine TC_seq ?_
    refine TC_draw [(0, 0), (1, 0), (2, 0), (3, 0), (4, 0), (5, 0), (6, 0), (7, 0), (8, 0), (9, 0), (10, 0), (11, 0), (12, 0), (13, 0), (14, 0), (15, 0), (16, 0), (17, 0), (18, 0), (19, 0), (20, 0), (21, 0), (22, 0), (23, 0), (24, 0), (25, 0), (26, 0), (27, 0), (28, 0)] YtjipbndjcefbbaaDoorF.mixed (by kernel_rfl) (St.calm _ _) ?_
    refine TV_q rfl rfl rfl (fun _ => QT_move rfl rfl rfl) ?_
    refine TV_q rfl rfl rfl (fun _ => QT_move rfl rfl rfl) ?_
    refine TV_q rfl rfl rfl (fun _ => QT_indexSlice (1) rfl rfl Tryd.underlying31 YtjipbndjcefbbaaDoorF.sz_66 rfl rfl (rfl) (fun _ => by omega)) ?_
    refine TV_q rfl rfl rfl (fun _ => QT_field rfl rfl YtjipbndjcefbbaaDoorF.fld_66_0 rfl) ?_
    refine TV_q rfl rfl rfl (fun _ => QT_indexArr (i) rfl rfl Tryd.underlying58 YtjipbndjcefbbaaDoorF.sz_57 rfl rfl (rfl) (fun _ => by omega)) ?_
    refine TV_q rfl rfl rfl (fun _ => QT_field rfl rfl YtjipbndjcefbbaaDoorF.fld_57_0 rfl) ?_
    refine TV_ql rfl rfl rfl (QT_loadRj (1 * 48 + i * 2) rfl rfl Tryd.underlying55 rfl (hR [_]) rfl (fun _ => liveT_p i hi')) ?_
    refine TV_q rfl rfl rfl (fun _ => QT_move rfl rfl rfl) ?_
    refine TV_q rfl rfl rfl (fun _ => QT_move rfl rfl rfl) ?_
    refine TV_q rfl rfl rfl (fun _ => QT_indexSlice (i) rfl rfl Tryd.underlying73 YtjipbndjcefbbaaDoorF.sz_55 rfl rfl (rfl) (fun _ => by omega)) ?_
    refine TV_ql rfl rfl rfl (QT_load 0 rfl rfl Tryd.underlying55 rfl rfl rfl (fun _ => ptV_at i hi')) ?_
    refine TV_q rfl rfl rfl (fun _ => QT_neq rfl rfl rfl rfl) ?_
    refine TV_q rfl rfl rfl (fun _ => QT_move rfl rfl rfl) ?_
    refine TV_q rfl rfl rfl (fun _ => QT_move rfl rfl rfl) ?_
    refine TV_q rfl rfl rfl (fun _ => QT_lss rfl rfl rfl rfl) ?_
    refine TV_q rfl rfl rfl (fun _ => QT_move rfl rfl rfl) ?_
    refine TV_q rfl rfl rfl (fun _ => QT_move rfl rfl rfl) ?_
    refine TV_q rfl rfl rfl (fun _ => QT_move rfl rfl rfl) ?_
    refine TV_q rfl rfl rfl (fun _ => QT_indexSlice (0) rfl rfl Tryd.underlying31 YtjipbndjcefbbaaDoorF.sz_66 rfl rfl (rfl) (fun _ => by omega)) ?_
    refine TV_q rfl rfl rfl (fun _ => QT_field rfl rfl YtjipbndjcefbbaaDoorF.fld_66_0 rfl) ?_
    refine TV_q rfl rfl rfl (fun _ => QT_indexArr (i) rfl rfl Tryd.underlying58 YtjipbndjcefbbaaDoorF.sz_57 rfl rfl (rfl) (fun _ => by omega)) ?_
    refine TV_q rfl rfl rfl (fun _ => QT_field rfl rfl YtjipbndjcefbbaaDoorF.fld_57_0 rfl) ?_
    refine TV_ql rfl rfl rfl (QT_loadRj (i * 2) rfl rfl Tryd.underlying55 rfl (hR [_]) rfl (fun h => liveT_q i (by simp at h; omega))) ?_
    refine TV_q rfl rfl rfl (fun _ => QT_move rfl rfl rfl) ?_
    refine TV_q rfl rfl rfl (fun _ => QT_add rfl rfl rfl rfl (fun _ => ⟨by omega, by omega⟩)) ?_
    refine TV_q rfl rfl rfl (fun _ => QT_conv rfl rfl Tryd.underlying3 Tryd.underlying55 rfl) ?_
    refine TV_q rfl rfl rfl (fun _ => QT_neq rfl rfl rfl rfl) ?_
    refine TV_q rfl rfl rfl (fun _ => QT_and rfl rfl rfl rfl) ?_
    refine TV_q rfl rfl rfl (fun _ => QT_or rfl rfl rfl rfl) ?_
    refine TV_end ?_
    refine TX_then ?_
    refine TC_cond rfl (fun h => absurd (h.symm.trans ((show (_ : Bool) = false by simp))) (by decide)) (fun _ => ?_)
    refine TC_skip ?_
    refine TX_block_normal ?_
    refine TX_then ?_
    refine TC_reg ?_
    refine TL_q rfl rfl (QT_move rfl rfl rfl) ?_
    refine TL_q rfl rfl (QT_add rfl rfl rfl rfl (fun _ => ⟨by omega, by omega⟩)) ?_
    refine TL_q rfl rfl (QT_assign rfl rfl rfl) ?_
    refine TL_nil ?_
    exact TX_round ⟨i + 1, by omega⟩ (by show 16 - (i + 1) < 16 - i; omega) ⟨rfl, rfl, rfl, trivial⟩ (fun _ h => h)
  ·
    refine TC_exit ?_
    refine TX_then_exit ?_
    refine TX_then_exit ?_
    refine TX_block_here ?_
    refine TX_then ?_
    refine TC_seq ?_
    refine TC_reg ?_
    refine TL_q rfl rfl (QT_move rfl rfl rfl) ?_
    refine TL_q rfl rfl (QT_indexSlice (1) rfl rfl Tryd.underlying31 YtjipbndjcefbbaaDoorF.sz_66 rfl rfl (rfl) (fun _ => by omega)) ?_
    refine TL_q rfl rfl (QT_field rfl rfl YtjipbndjcefbbaaDoorF.fld_66_1 rfl) ?_
    refine TL_q rfl rfl (QT_loadRAj (1 * 48 + 32) rfl rfl Tryd.underlying62 rfl YtjipbndjcefbbaaDoorF.sz_62 (hR [_]) rfl (fun _ => by rw [hTl]; decide) (fun _ => liveT_c)) ?_
    refine TL_q rfl rfl (QT_buildArr rfl rfl YtjipbndjcefbbaaDoorF.zero_61 Tryd.underlying61 YtjipbndjcefbbaaDoorF.sz_59 rfl rfl rfl) ?_
    refine TL_q rfl rfl (QT_buildArr rfl rfl YtjipbndjcefbbaaDoorF.zero_61 Tryd.underlying61 YtjipbndjcefbbaaDoorF.sz_59 rfl rfl rfl) ?_
    refine TL_q rfl rfl (QT_buildArr rfl rfl YtjipbndjcefbbaaDoorF.zero_61 Tryd.underlying61 YtjipbndjcefbbaaDoorF.sz_59 rfl rfl rfl) ?_
    refine TL_q rfl rfl (QT_buildArr rfl rfl YtjipbndjcefbbaaDoorF.zero_61 Tryd.underlying61 YtjipbndjcefbbaaDoorF.sz_59 rfl rfl rfl) ?_
    refine TL_q rfl rfl (QT_buildArr rfl rfl YtjipbndjcefbbaaDoorF.zero_62 Tryd.underlying62 YtjipbndjcefbbaaDoorF.sz_61 rfl rfl rfl) ?_
    refine TL_q rfl rfl (QT_eqA rfl rfl eq_Cols rfl rfl (fun _ => colsV_i) (fun _ => colsV_i)) ?_
    refine TL_q rfl rfl (QT_move rfl rfl rfl) ?_
    refine TL_q rfl rfl (QT_move rfl rfl rfl) ?_
    refine TL_q rfl rfl (QT_indexSlice (0) rfl rfl Tryd.underlying31 YtjipbndjcefbbaaDoorF.sz_66 rfl rfl (rfl) (fun _ => by omega)) ?_
    refine TL_q rfl rfl (QT_field rfl rfl YtjipbndjcefbbaaDoorF.fld_66_1 rfl) ?_
    refine TL_q rfl rfl (QT_indexArr (3) rfl rfl Tryd.underlying62 YtjipbndjcefbbaaDoorF.sz_61 rfl rfl (rfl) (fun _ => by decide)) ?_
    refine TL_q rfl rfl (QT_loadRAj (0 * 48 + 32 + 3 * 4) rfl rfl Tryd.underlying61 rfl YtjipbndjcefbbaaDoorF.sz_61 (hR [_]) rfl (fun _ => by rw [hTl]; decide) (fun _ => liveT_d)) ?_
    refine TL_q rfl rfl (QT_buildArr rfl rfl YtjipbndjcefbbaaDoorF.zero_61 Tryd.underlying61 YtjipbndjcefbbaaDoorF.sz_59 rfl rfl rfl) ?_
    refine TL_q rfl rfl (QT_eqA rfl rfl eq_Colour rfl rfl (fun _ => colV_i) (fun _ => colV_i)) ?_
    refine TL_q rfl rfl (QT_and rfl rfl rfl rfl) ?_
    refine TL_q rfl rfl (QT_assign rfl rfl rfl) ?_
    refine TL_nil ?_
    refine TX_then ?_
    refine TC_ret ?_
    exact TX_ret (.inl rfl) (res1 rfl rfl) ⟨_, ⟨(show Value.bool (eqC colsV colsV && eqC colV colV) = .bool true by rw [eqC_refl colsV_i, eqC_refl colV_i]; rfl), rfl⟩, fun _ h => h.tail.app_right⟩
end Go.Proofs.YtjipbndjcefbbaaDoor

/- THE BOOK: a list more, and whether all are apart. -/
import Derived.Test.YtlmbpdlobpcahaaDoorG01c
namespace Go.Proofs.YtlmbpdlobpcahaaDoor
open Go Go.Gx Go.RowKit
set_option maxRecDepth 100000

structure Bk where
  many : Int
  bytes : Value
  bits : Value
  fixes : Value
  recs : Value
  tris : Value
  sheets : Value
  tiles : Value
  dots : Value
  facets : Value
  tokens : Value
  codes : Value
  vals : Value
  spots : Value
def Bk.cells (k : Bk) : List Value := [.int .i64 k.many, k.bytes, k.bits, k.fixes, k.recs, k.tris, k.sheets, k.tiles, k.dots, k.facets, k.tokens, k.codes, k.vals, k.spots]
def nilS : Value := .slice none 0 0
def Bk.new : Bk := ⟨0, nilS, nilS, nilS, nilS, nilS, nilS, nilS, nilS, nilS, nilS, nilS, nilS, nilS⟩

theorem next_spec (w0 : World) (η : Heap) (kb : Nat) (k : Bk) (h0 : 0 ≤ k.many ∧ k.many ≤ 1000) :
    CallsT Tryd.prog 35 [.pointer (some ⟨kb, 0, none⟩)] (St w0 ((kb, 49, k.cells) :: η)) fun v A' => v = .int .i64 (k.many + 1) ∧ A' = St w0 ((kb, 49, { k with many := k.many + 1 }.cells) :: η) := by
  refine CallsT.body Tryd.func35 rfl rfl ?_
  simp only [Tryd.ntmps35, slotsOf, Nat.reduceAdd]
  refine TC_seq ?_
  refine TC_reg ?_
  refine TL_q rfl rfl (QT_assign rfl rfl rfl) ?_
  refine TL_nil ?_
  refine TX_then ?_
  refine TC_seq ?_
  refine TC_reg ?_
  refine TL_q rfl rfl (QT_move rfl rfl rfl) ?_
  refine TL_q rfl rfl (QT_nilCheck rfl rfl rfl) ?_
  refine TL_q rfl rfl (QT_field rfl rfl YtlmbpdlobpcahaaDoorF.fld_49_0 rfl) ?_
  first
    | refine TL_q rfl rfl (QT_load 0 rfl rfl Tryd.underlying3 rfl rfl rfl (fun _ => rfl)) ?_
    | refine TL_q rfl rfl (QT_load 1 rfl rfl Tryd.underlying3 rfl rfl rfl (fun _ => rfl)) ?_
    | refine TL_q rfl rfl (QT_load 2 rfl rfl Tryd.underlying3 rfl rfl rfl (fun _ => rfl)) ?_
  refine TL_q rfl rfl (QT_add rfl rfl rfl rfl (fun _ => ⟨by omega, by omega⟩)) ?_
  refine TL_q rfl rfl (QT_nilCheck rfl rfl rfl) ?_
  refine TL_q rfl rfl (QT_field rfl rfl YtlmbpdlobpcahaaDoorF.fld_49_0 rfl) ?_
  first
    | refine TL_e0 rfl rfl (rfl) (ET_store 0 rfl rfl rfl rfl YtlmbpdlobpcahaaDoorF.sz_3 rfl rfl rfl) ?_
    | refine TL_e0 rfl rfl (rfl) (ET_store 1 rfl rfl rfl rfl YtlmbpdlobpcahaaDoorF.sz_3 rfl rfl rfl) ?_
    | refine TL_e0 rfl rfl (rfl) (ET_store 2 rfl rfl rfl rfl YtlmbpdlobpcahaaDoorF.sz_3 rfl rfl rfl) ?_
  rintro _ _ ⟨rfl, rfl⟩
  refine TL_nil ?_
  refine TX_then ?_
  refine TC_seq ?_
  refine TC_reg ?_
  refine TL_q rfl rfl (QT_move rfl rfl rfl) ?_
  refine TL_q rfl rfl (QT_nilCheck rfl rfl rfl) ?_
  refine TL_q rfl rfl (QT_field rfl rfl YtlmbpdlobpcahaaDoorF.fld_49_0 rfl) ?_
  first
    | refine TL_q rfl rfl (QT_load 0 rfl rfl Tryd.underlying3 rfl rfl rfl (fun _ => rfl)) ?_
    | refine TL_q rfl rfl (QT_load 1 rfl rfl Tryd.underlying3 rfl rfl rfl (fun _ => rfl)) ?_
    | refine TL_q rfl rfl (QT_load 2 rfl rfl Tryd.underlying3 rfl rfl rfl (fun _ => rfl)) ?_
  refine TL_q rfl rfl (QT_assign rfl rfl rfl) ?_
  refine TL_nil ?_
  refine TX_then ?_
  refine TC_ret ?_
  exact TX_ret (.inl rfl) (res1 rfl rfl) ⟨_, ⟨rfl, rfl⟩, fun _ h => h⟩

def shMark (c : Int) : List Value := .int .u8 9 :: .int .u32 0 :: .int .u32 0 :: .int .u32 0 :: .int .u32 0 :: .int .u32 0 :: .int .u32 0 :: .int .u32 0 :: .int .u32 c :: (zs (sheetK.drop 9))
def tlMark (c : Int) : List Value := zs (patchK.take 14) ++ .int .u32 c :: zs (patchK.drop 15)
theorem u32_wf {c : Int} (h : 0 ≤ c ∧ c ≤ 2000) : (Lit.int .u32 c).wf = true := by
  have h1 : IntKind.u32.min = 0 := rfl
  have h2 : IntKind.u32.max = 4294967295 := rfl
  simp only [Lit.wf, Bool.and_eq_true, decide_eq_true_eq]
  omega
theorem shMark_ints {c : Int} (h : 0 ≤ c ∧ c ≤ 2000) : Ints sheetK (shMark c) := by
  have e : sheetK = [.u8, .u32, .u32, .u32, .u32, .u32, .u32, .u32] ++ (.u32 :: sheetK.drop 9) := by decide
  have e2 : shMark c = [.int .u8 9, .int .u32 0, .int .u32 0, .int .u32 0, .int .u32 0, .int .u32 0, .int .u32 0, .int .u32 0] ++ (.int .u32 c :: zs (sheetK.drop 9)) := rfl
  rw [e2]
  conv => arg 1; rw [e]
  refine Ints.append ?_ (.cons (u32_wf h) (zs_ints _))
  exact .cons (by decide) (.cons (by decide) (.cons (by decide) (.cons (by decide) (.cons (by decide) (.cons (by decide) (.cons (by decide) (.cons (by decide) .nil)))))))
theorem tlMark_ints {c : Int} (h : 0 ≤ c ∧ c ≤ 2000) : Ints patchK (tlMark c) := by
  have e : patchK = patchK.take 14 ++ (.u32 :: patchK.drop 15) := by decide
  unfold tlMark
  conv => arg 1; rw [e]
  exact Ints.append (zs_ints _) (.cons (u32_wf h) (zs_ints _))

theorem el_stripSheet : ElemOk Tryd.prog 94 51 216 (.agg (nilS :: nilS :: zs sheetK).toArray) := .of YtlmbpdlobpcahaaDoorF.sz_94 (by kernel_rfl) (by unfold ZeroOk; kernel_rfl) (by kernel_rfl) (by decide)
theorem book_Sheets (w0 : World) (η H : Heap) (kb : Nat) (k : Bk) (ss : List Strip) (v : Value) (n : Nat) (xs : List Value) (Hv : Heap) (h0 : 0 ≤ k.many ∧ k.many ≤ 1000) (hF : Frag 94 51 k.sheets ss.length (arrOf ss) H) (hs : ∀ s ∈ ss, s.ok 71 49 sheetK) (hsl : ss.length ≤ 1000) (hv : ∃ ad n cap, v = .slice ad n cap) :
    CallsT Tryd.prog 14 [.pointer (some ⟨kb, 0, none⟩), v] (St w0 ((kb, 49, k.cells) :: (H ++ η))) fun _ A' => ∃ r H', Frag 94 51 r (ss.length + 1) (arrOf (ss ++ [⟨v, n, xs, nilS, shMark (k.many + 1), Hv⟩])) H' ∧ A' = St w0 ((kb, 49, { k with many := k.many + 1, sheets := r }.cells) :: (H' ++ η)) := by
  obtain ⟨vad, vn, vcap, rfl⟩ := hv
  obtain ⟨fad, fcap, hfv, hfc, _⟩ := hF.slice
  have hwr : IntKind.u32.wrap (k.many + 1) = k.many + 1 := IntWalk.u32_in _ ⟨by omega, by omega⟩
  have hmi := shMark_ints (c := k.many + 1) (by omega)
  refine CallsT.body Tryd.func14 rfl rfl ?_
  simp only [Tryd.ntmps14, slotsOf, Nat.reduceAdd]
  refine TC_seq ?_
  refine TC_reg ?_
  refine TL_q rfl rfl (QT_build rfl rfl YtlmbpdlobpcahaaDoorF.zero_71 YtlmbpdlobpcahaaDoorF.pl_71 rfl rfl rfl) ?_
  refine TL_e rfl rfl rfl (rfl) (ET_alloc rfl YtlmbpdlobpcahaaDoorF.zero_71) ?_
  rintro _ _ ⟨b4, rfl, rfl⟩
  first
    | refine TL_e0 rfl rfl (rfl) (ET_storeW 0 rfl rfl rfl YtlmbpdlobpcahaaDoorF.sz_71 rfl rfl rfl) ?_
    | refine TL_e0 rfl rfl (rfl) (ET_storeW 1 rfl rfl rfl YtlmbpdlobpcahaaDoorF.sz_71 rfl rfl rfl) ?_
    | refine TL_e0 rfl rfl (rfl) (ET_storeW 2 rfl rfl rfl YtlmbpdlobpcahaaDoorF.sz_71 rfl rfl rfl) ?_
    | refine TL_e0 rfl rfl (rfl) (ET_store 0 rfl rfl rfl rfl YtlmbpdlobpcahaaDoorF.sz_71 rfl rfl rfl) ?_
    | refine TL_e0 rfl rfl (rfl) (ET_store 1 rfl rfl rfl rfl YtlmbpdlobpcahaaDoorF.sz_71 rfl rfl rfl) ?_
    | refine TL_e0 rfl rfl (rfl) (ET_store 2 rfl rfl rfl rfl YtlmbpdlobpcahaaDoorF.sz_71 rfl rfl rfl) ?_
  rintro _ _ ⟨rfl, rfl⟩
  refine TL_nil ?_
  refine TX_then ?_
  refine TC_seq ?_
  refine TC_reg ?_
  refine TL_q rfl rfl (QT_move rfl rfl rfl) ?_
  refine TL_A _ (fun _ h => St.swap h) ?_
  refine TL_e rfl rfl rfl (rfl) (ET_call rfl YtlmbpdlobpcahaaDoorF.cal_35 rfl (next_spec w0 _ kb k h0)) ?_
  rintro _ _ ⟨rfl, rfl⟩
  refine TL_q rfl rfl (QT_conv rfl rfl Tryd.underlying3 Tryd.underlying62 rfl) ?_
  rw [hwr]
  refine TL_q rfl rfl (QT_field rfl rfl YtlmbpdlobpcahaaDoorF.fld_71_1 rfl) ?_
  refine TL_q rfl rfl (QT_indexArr (3) rfl rfl Tryd.underlying65 YtlmbpdlobpcahaaDoorF.sz_64 rfl rfl (rfl) (fun _ => by decide)) ?_
  refine TL_q rfl rfl (QT_field rfl rfl YtlmbpdlobpcahaaDoorF.fld_64_1 rfl) ?_
  first
    | refine TL_e0 rfl rfl (rfl) (ET_store 0 rfl rfl rfl rfl YtlmbpdlobpcahaaDoorF.sz_62 rfl rfl rfl) ?_
    | refine TL_e0 rfl rfl (rfl) (ET_store 1 rfl rfl rfl rfl YtlmbpdlobpcahaaDoorF.sz_62 rfl rfl rfl) ?_
    | refine TL_e0 rfl rfl (rfl) (ET_store 2 rfl rfl rfl rfl YtlmbpdlobpcahaaDoorF.sz_62 rfl rfl rfl) ?_
  rintro _ _ ⟨rfl, rfl⟩
  refine TL_nil ?_
  refine TX_then ?_
  refine TC_draw [(0, 0), (1, 0), (2, 0), (3, 0), (4, 0), (5, 0), (6, 0), (7, 0), (8, 1), (9, 1), (10, 0), (11, 0), (12, 1)] YtlmbpdlobpcahaaDoorF.mixed (by kernel_rfl) (St.calm _ _) ?_
  refine TV_q rfl rfl rfl (fun _ => QT_move rfl rfl rfl) ?_
  refine TV_q rfl rfl rfl (fun _ => QT_move rfl rfl rfl) ?_
  refine TV_q rfl rfl rfl (fun _ => QT_nilCheck rfl rfl rfl) ?_
  refine TV_q rfl rfl rfl (fun _ => QT_field rfl rfl YtlmbpdlobpcahaaDoorF.fld_49_6 rfl) ?_
  first
    | refine TV_ql rfl rfl rfl (QT_load 0 rfl rfl Tryd.underlying40 rfl rfl rfl (fun _ => rfl)) ?_
    | refine TV_ql rfl rfl rfl (QT_load 1 rfl rfl Tryd.underlying40 rfl rfl rfl (fun _ => rfl)) ?_
    | refine TV_ql rfl rfl rfl (QT_load 2 rfl rfl Tryd.underlying40 rfl rfl rfl (fun _ => rfl)) ?_
  refine TV_q rfl rfl rfl (fun _ => QT_move rfl rfl rfl) ?_
  first
    | refine TV_ql rfl rfl rfl (QT_loadW 0 rfl rfl Tryd.underlying71 rfl rfl rfl YtlmbpdlobpcahaaDoorF.sz_71) ?_
    | refine TV_ql rfl rfl rfl (QT_loadW 1 rfl rfl Tryd.underlying71 rfl rfl rfl YtlmbpdlobpcahaaDoorF.sz_71) ?_
    | refine TV_ql rfl rfl rfl (QT_loadW 2 rfl rfl Tryd.underlying71 rfl rfl rfl YtlmbpdlobpcahaaDoorF.sz_71) ?_
    | refine TV_ql rfl rfl rfl (QT_loadA 0 rfl rfl Tryd.underlying71 rfl rfl rfl YtlmbpdlobpcahaaDoorF.sz_71 (fun _ => rfl)) ?_
    | refine TV_ql rfl rfl rfl (QT_loadA 1 rfl rfl Tryd.underlying71 rfl rfl rfl YtlmbpdlobpcahaaDoorF.sz_71 (fun _ => rfl)) ?_
    | refine TV_ql rfl rfl rfl (QT_loadA 2 rfl rfl Tryd.underlying71 rfl rfl rfl YtlmbpdlobpcahaaDoorF.sz_71 (fun _ => rfl)) ?_
  refine TV_q rfl rfl rfl (fun _ => QT_build rfl rfl YtlmbpdlobpcahaaDoorF.zero_94 YtlmbpdlobpcahaaDoorF.pl_94 rfl rfl rfl) ?_
  refine TV_e rfl rfl rfl rfl (rfl) (ET_buildN [_] rfl Tryd.underlying40 YtlmbpdlobpcahaaDoorF.sz_94 YtlmbpdlobpcahaaDoorF.zero_94 rfl rfl rfl (fun v hv => by cases List.mem_singleton.1 hv; rfl)) ?_
  rintro _ _ ⟨b20, rfl, rfl⟩
  refine ⟨_, .keep (by kernel_rfl) rfl (by first | exact QT_loadW 0 rfl rfl Tryd.underlying71 rfl rfl rfl YtlmbpdlobpcahaaDoorF.sz_71 | exact QT_loadW 1 rfl rfl Tryd.underlying71 rfl rfl rfl YtlmbpdlobpcahaaDoorF.sz_71 | exact QT_loadW 2 rfl rfl Tryd.underlying71 rfl rfl rfl YtlmbpdlobpcahaaDoorF.sz_71 | exact QT_loadA 0 rfl rfl Tryd.underlying71 rfl rfl rfl YtlmbpdlobpcahaaDoorF.sz_71 (fun _ => rfl) | exact QT_loadA 1 rfl rfl Tryd.underlying71 rfl rfl rfl YtlmbpdlobpcahaaDoorF.sz_71 (fun _ => rfl) | exact QT_loadA 2 rfl rfl Tryd.underlying71 rfl rfl rfl YtlmbpdlobpcahaaDoorF.sz_71 (fun _ => rfl)) (.keep (by kernel_rfl) rfl (by first | exact QT_load 0 rfl rfl Tryd.underlying40 rfl rfl rfl (fun _ => rfl) | exact QT_load 1 rfl rfl Tryd.underlying40 rfl rfl rfl (fun _ => rfl) | exact QT_load 2 rfl rfl Tryd.underlying40 rfl rfl rfl (fun _ => rfl)) (.nil)), ?_⟩
  refine TV_e rfl rfl rfl rfl (rfl) (ET_appendL (L := [_, _, _]) rfl Tryd.underlying40 el_stripSheet rfl rfl hF (fun _ h => h) (SlA.own (n := 1) (xs := .slice vad vn vcap :: nilS :: shMark (k.many + 1)) 0 rfl rfl (Nat.le_refl _) (by omega)) (fun u hu => by
   rcases List.mem_cons.1 hu with rfl | hu
   · rfl
   · rcases List.mem_cons.1 hu with rfl | hu
     · rfl
     · exact hmi.oneCell u hu) (by omega) (by omega)) ?_
  rintro r _ ⟨H', hF', rfl⟩
  refine ⟨_, .keep (by kernel_rfl) rfl (by first | exact QT_loadW 0 rfl rfl Tryd.underlying71 rfl rfl rfl YtlmbpdlobpcahaaDoorF.sz_71 | exact QT_loadW 1 rfl rfl Tryd.underlying71 rfl rfl rfl YtlmbpdlobpcahaaDoorF.sz_71 | exact QT_loadW 2 rfl rfl Tryd.underlying71 rfl rfl rfl YtlmbpdlobpcahaaDoorF.sz_71 | exact QT_loadA 0 rfl rfl Tryd.underlying71 rfl rfl rfl YtlmbpdlobpcahaaDoorF.sz_71 (fun _ => rfl) | exact QT_loadA 1 rfl rfl Tryd.underlying71 rfl rfl rfl YtlmbpdlobpcahaaDoorF.sz_71 (fun _ => rfl) | exact QT_loadA 2 rfl rfl Tryd.underlying71 rfl rfl rfl YtlmbpdlobpcahaaDoorF.sz_71 (fun _ => rfl)) (.drop (by kernel_rfl) (.nil)), ?_⟩
  obtain ⟨rad, rcap, rfl, _, _⟩ := hF'.slice
  refine TV_q rfl rfl rfl (fun _ => QT_nilCheck rfl rfl rfl) ?_
  refine TV_q rfl rfl rfl (fun _ => QT_field rfl rfl YtlmbpdlobpcahaaDoorF.fld_49_6 rfl) ?_
  first
    | refine TV_e0 rfl rfl rfl (rfl) (ET_store 0 rfl rfl rfl rfl YtlmbpdlobpcahaaDoorF.sz_40 rfl rfl rfl) ?_
    | refine TV_e0 rfl rfl rfl (rfl) (ET_store 1 rfl rfl rfl rfl YtlmbpdlobpcahaaDoorF.sz_40 rfl rfl rfl) ?_
    | refine TV_e0 rfl rfl rfl (rfl) (ET_store 2 rfl rfl rfl rfl YtlmbpdlobpcahaaDoorF.sz_40 rfl rfl rfl) ?_
  rintro _ _ ⟨rfl, rfl⟩
  refine ⟨_, .drop (by kernel_rfl) (.nil), ?_⟩
  refine TV_end ?_
  refine TX_ret (.inr rfl) (res0 rfl) ⟨_, ⟨_, H', by rw [arrOf_append]; simpa [arrOf, Strip.cells] using hF', rfl⟩, fun w h => ?_⟩
  have h2 : St w0 ((b20, 94, _) :: (kb, 49, { k with many := k.many + 1, sheets := .slice rad (ss.length + 1) rcap }.cells) :: (b4, 71, _) :: (H' ++ η)) w := h
  exact h2.tail.swap.tail
end Go.Proofs.YtlmbpdlobpcahaaDoor

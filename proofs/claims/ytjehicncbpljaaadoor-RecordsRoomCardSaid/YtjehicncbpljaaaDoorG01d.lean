/- THE BOOK: a list more, and whether all are apart. -/
import Derived.Test.YtjehicncbpljaaaDoorG01c
namespace Go.Proofs.YtjehicncbpljaaaDoor
open Go Go.Gx Go.RowKit
set_option maxRecDepth 100000

structure Bk where
  many : Int
  bytes : Value
  bits : Value
  fixes : Value
  recs : Value
  tris : Value
  sheets : Value
  tiles : Value
  dots : Value
  facets : Value
  tokens : Value
  codes : Value
  vals : Value
  spots : Value
def Bk.cells (k : Bk) : List Value := [.int .i64 k.many, k.bytes, k.bits, k.fixes, k.recs, k.tris, k.sheets, k.tiles, k.dots, k.facets, k.tokens, k.codes, k.vals, k.spots]
def nilS : Value := .slice none 0 0
def Bk.new : Bk := ⟨0, nilS, nilS, nilS, nilS, nilS, nilS, nilS, nilS, nilS, nilS, nilS, nilS, nilS⟩

theorem next_spec (w0 : Base) (η : Heap) (kb : Nat) (k : Bk) (h0 : 0 ≤ k.many ∧ k.many ≤ 1000) :
    CallsT Tryd.prog 35 [.pointer (some ⟨kb, 0, none⟩)] (St w0 ((kb, 49, k.cells) :: η)) fun v A' => v = .int .i64 (k.many + 1) ∧ A' = St w0 ((kb, 49, { k with many := k.many + 1 }.cells) :: η) := by
  refine CallsT.body Tryd.func35 rfl rfl ?_
  simp only [Tryd.ntmps35, slotsOf, Nat.reduceAdd]
  refine TC_seq ?_
  refine TC_reg ?_
  refine TL_q rfl rfl (QT_assign rfl rfl rfl) ?_
  refine TL_nil ?_
  refine TX_then ?_
  refine TC_seq ?_
  refine TC_reg ?_
  refine TL_q rfl rfl (QT_move rfl rfl rfl) ?_
  refine TL_q rfl rfl (QT_nilCheck rfl rfl rfl) ?_
  refine TL_q rfl rfl (QT_field rfl rfl YtjehicncbpljaaaDoorF.fld_49_0 rfl) ?_
  first
    | refine TL_q rfl rfl (QT_load 0 rfl rfl Tryd.underlying3 rfl rfl rfl (fun _ => rfl)) ?_
    | refine TL_q rfl rfl (QT_load 1 rfl rfl Tryd.underlying3 rfl rfl rfl (fun _ => rfl)) ?_
    | refine TL_q rfl rfl (QT_load 2 rfl rfl Tryd.underlying3 rfl rfl rfl (fun _ => rfl)) ?_
  refine TL_q rfl rfl (QT_add rfl rfl rfl rfl (fun _ => ⟨by omega, by omega⟩)) ?_
  refine TL_q rfl rfl (QT_nilCheck rfl rfl rfl) ?_
  refine TL_q rfl rfl (QT_field rfl rfl YtjehicncbpljaaaDoorF.fld_49_0 rfl) ?_
  first
    | refine TL_e0 rfl rfl (rfl) (ET_store 0 rfl rfl rfl rfl YtjehicncbpljaaaDoorF.sz_3 rfl rfl rfl) ?_
    | refine TL_e0 rfl rfl (rfl) (ET_store 1 rfl rfl rfl rfl YtjehicncbpljaaaDoorF.sz_3 rfl rfl rfl) ?_
    | refine TL_e0 rfl rfl (rfl) (ET_store 2 rfl rfl rfl rfl YtjehicncbpljaaaDoorF.sz_3 rfl rfl rfl) ?_
  rintro _ _ ⟨rfl, rfl⟩
  refine TL_nil ?_
  refine TX_then ?_
  refine TC_seq ?_
  refine TC_reg ?_
  refine TL_q rfl rfl (QT_move rfl rfl rfl) ?_
  refine TL_q rfl rfl (QT_nilCheck rfl rfl rfl) ?_
  refine TL_q rfl rfl (QT_field rfl rfl YtjehicncbpljaaaDoorF.fld_49_0 rfl) ?_
  first
    | refine TL_q rfl rfl (QT_load 0 rfl rfl Tryd.underlying3 rfl rfl rfl (fun _ => rfl)) ?_
    | refine TL_q rfl rfl (QT_load 1 rfl rfl Tryd.underlying3 rfl rfl rfl (fun _ => rfl)) ?_
    | refine TL_q rfl rfl (QT_load 2 rfl rfl Tryd.underlying3 rfl rfl rfl (fun _ => rfl)) ?_
  refine TL_q rfl rfl (QT_assign rfl rfl rfl) ?_
  refine TL_nil ?_
  refine TX_then ?_
  refine TC_ret ?_
  exact TX_ret (.inl rfl) (res1 rfl rfl) ⟨_, ⟨rfl, rfl⟩, fun _ h => h⟩

def shMark (c : Int) : List Value := .int .u8 9 :: .int .u32 0 :: .int .u32 0 :: .int .u32 0 :: .int .u32 0 :: .int .u32 0 :: .int .u32 0 :: .int .u32 0 :: .int .u32 c :: (zs (sheetK.drop 9))
def tlMark (c : Int) : List Value := zs (patchK.take 14) ++ .int .u32 c :: zs (patchK.drop 15)
theorem u32_wf {c : Int} (h : 0 ≤ c ∧ c ≤ 2000) : (Lit.int .u32 c).wf = true := by
  have h1 : IntKind.u32.min = 0 := rfl
  have h2 : IntKind.u32.max = 4294967295 := rfl
  simp only [Lit.wf, Bool.and_eq_true, decide_eq_true_eq]
  omega
theorem shMark_ints {c : Int} (h : 0 ≤ c ∧ c ≤ 2000) : Ints sheetK (shMark c) := by
  have e : sheetK = [.u8, .u32, .u32, .u32, .u32, .u32, .u32, .u32] ++ (.u32 :: sheetK.drop 9) := by decide
  have e2 : shMark c = [.int .u8 9, .int .u32 0, .int .u32 0, .int .u32 0, .int .u32 0, .int .u32 0, .int .u32 0, .int .u32 0] ++ (.int .u32 c :: zs (sheetK.drop 9)) := rfl
  rw [e2]
  conv => arg 1; rw [e]
  refine Ints.append ?_ (.cons (u32_wf h) (zs_ints _))
  exact .cons (by decide) (.cons (by decide) (.cons (by decide) (.cons (by decide) (.cons (by decide) (.cons (by decide) (.cons (by decide) (.cons (by decide) .nil)))))))
theorem tlMark_ints {c : Int} (h : 0 ≤ c ∧ c ≤ 2000) : Ints patchK (tlMark c) := by
  have e : patchK = patchK.take 14 ++ (.u32 :: patchK.drop 15) := by decide
  unfold tlMark
  conv => arg 1; rw [e]
  exact Ints.append (zs_ints _) (.cons (u32_wf h) (zs_ints _))

end Go.Proofs.YtjehicncbpljaaaDoor

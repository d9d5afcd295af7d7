/- LISTS OF STRUCTS OF INTEGERS: are two the same; the facts on their types. One text for each kind of list that the seat has. -/
import Derived.Test.YtjehicncbpljaaaDoorF
import Derived.Test.YtjehicncbpljaaaDoorE
namespace Go.Proofs.YtjehicncbpljaaaDoor
open Go Go.Gx Go.RowKit
set_option maxRecDepth 100000

def spotK : List IntKind := [.u32, .u32]
def colK : List IntKind := [.u16, .u16, .u16, .u16]
def recK : List IntKind := [.u8] ++ spotK ++ colK
def sheetK : List IntKind := [.u8] ++ rep 16 spotK ++ rep 4 colK
def patchK : List IntKind := rep 16 spotK ++ rep 4 colK
def triK : List IntKind := rep 3 recK

theorem eq_Rec : EqOk Tryd.prog 67 recK := ⟨by kernel_rfl, by kernel_rfl, by kernel_rfl, by kernel_rfl⟩
theorem el_Rec : ElemOk Tryd.prog 67 7 20 (zv recK) := .of YtjehicncbpljaaaDoorF.sz_67 (by kernel_rfl) (by unfold ZeroOk; kernel_rfl) (by kernel_rfl) (by decide)
theorem same_Rec (w0 : Base) (η : Heap) (va vb : Value) (n m : Nat) (xs ys : List Value) (ha : SlA (St w0 η) va 7 n xs) (hb : SlA (St w0 η) vb 7 m ys) (hia : Ints (rep n recK) xs) (hib : Ints (rep m recK) ys) :
    CallsT Tryd.prog 36 [va, vb] (St w0 η) fun v A' => v = .bool (eqC xs ys) ∧ A' = St w0 η := by
  obtain ⟨hal, ada, ca, rfl, ⟨hca, hca2⟩, hra⟩ := ha
  obtain ⟨hbl, adb, cb, rfl, ⟨hcb, hcb2⟩, hrb⟩ := hb
  refine CallsT.body Tryd.func36 rfl rfl ?_
  simp only [Tryd.ntmps36, slotsOf, Nat.reduceAdd]
  refine TC_seq ?_
  refine TC_reg ?_
  refine TL_q rfl rfl (QT_assign rfl rfl rfl) ?_
  refine TL_nil ?_
  refine TX_then ?_
  refine TC_seq ?_
  refine TC_seq ?_
  refine TC_reg ?_
  refine TL_q rfl rfl (QT_move rfl rfl rfl) ?_
  refine TL_q rfl rfl (QT_len rfl rfl Tryd.underlying31 rfl) ?_
  refine TL_q rfl rfl (QT_move rfl rfl rfl) ?_
  refine TL_q rfl rfl (QT_len rfl rfl Tryd.underlying31 rfl) ?_
  refine TL_q rfl rfl (QT_neq rfl rfl rfl rfl) ?_
  refine TL_nil ?_
  refine TX_then ?_
  first
    | refine TC_cond_dec rfl (fun h10 => ?_) (fun h10 => ?_)
    | refine TC_cond rfl (fun h10 => ?_) (fun h10 => ?_)
  ·
    refine TC_seq ?_
    refine TC_reg ?_
    refine TL_q rfl rfl (QT_assign rfl rfl rfl) ?_
    refine TL_nil ?_
    refine TX_then ?_
    refine TC_ret ?_
    refine TX_then_ret ?_
    exact TX_ret (.inl rfl) (res1 rfl rfl) ⟨_, ⟨by rw [eqC_ne_len (by omega)], rfl⟩, (fun _ h => by first | exact h | exact h.tail | exact h.tail.tail | exact h.tail.tail.tail | exact h.tail.tail.tail.tail | exact h.tail.tail.tail.tail.tail | exact h.tail.tail.tail.tail.tail.tail | exact h.tail.tail.tail.tail.tail.tail.tail | exact h.tail.tail.tail.tail.tail.tail.tail.tail | exact h.tail.tail.tail.tail.tail.tail.tail.tail.tail | exact h.tail.tail.tail.tail.tail.tail.tail.tail.tail.tail | exact h.tail.tail.tail.tail.tail.tail.tail.tail.tail.tail.tail | exact h.tail.tail.tail.tail.tail.tail.tail.tail.tail.tail.tail.tail | exact h.tail.tail.tail.tail.tail.tail.tail.tail.tail.tail.tail.tail.tail)⟩
  ·
    obtain rfl : n = m := by omega
    refine TC_skip ?_
    refine TX_then ?_
    refine TC_seq ?_
    refine TC_seq ?_
    refine TC_reg ?_
    refine TL_q rfl rfl (QT_assign rfl rfl rfl) ?_
    refine TL_nil ?_
    refine TX_then ?_
    refine TC_block ?_
    refine TC_loop (γ := {i : Nat // i ≤ n ∧ xs.take (i * 7) = ys.take (i * 7)}) (fun t => [(0, true, .slice ada n ca), (1, true, .slice adb n cb), (5, true, .int .i64 (t.1 : Int))]) (fun _ => St w0 η) (fun t => n - t.1) ⟨0, by omega, by simp⟩ ⟨rfl, rfl, rfl, trivial⟩ (fun _ h => h) ?_
    rintro ⟨i, hi, he⟩
    dsimp only
    refine TC_seq ?_
    refine TC_seq ?_
    refine TC_reg ?_
    refine TL_q rfl rfl (QT_move rfl rfl rfl) ?_
    refine TL_q rfl rfl (QT_move rfl rfl rfl) ?_
    refine TL_q rfl rfl (QT_len rfl rfl Tryd.underlying31 rfl) ?_
    refine TL_q rfl rfl (QT_lss rfl rfl rfl rfl) ?_
    refine TL_nil ?_
    refine TX_then ?_
    first
      | refine TC_cond_dec rfl (fun h14 => ?_) (fun h14 => ?_)
      | refine TC_cond rfl (fun h14 => ?_) (fun h14 => ?_)
    ·
      refine TC_skip ?_
      refine TX_then ?_
      refine TC_seq ?_
      refine TC_block ?_
      refine TC_seq ?_
      have hin : i < n := by omega
      obtain ⟨ba, oa, rfl, hrA⟩ := hra.resolve_left (by omega)
      obtain ⟨bb, ob, rfl, hrB⟩ := hrb.resolve_left (by omega)
      have hea : Ints recK (elem xs 7 i) := hia.elem hin
      have heb : Ints recK (elem ys 7 i) := hib.elem hin
      refine TC_draw [(0, 0), (1, 0), (2, 0), (3, 0), (4, 0), (5, 0), (6, 0), (7, 0), (8, 0)] YtjehicncbpljaaaDoorF.mixed (by kernel_rfl) (St.calm _ _) ?_
      refine TV_q rfl rfl rfl (fun _ => QT_move rfl rfl rfl) ?_
      refine TV_q rfl rfl rfl (fun _ => QT_move rfl rfl rfl) ?_
      refine TV_q rfl rfl rfl (fun _ => QT_indexSlice (i) rfl rfl Tryd.underlying31 YtjehicncbpljaaaDoorF.sz_67 rfl rfl (rfl) (fun _ => hin)) ?_
      refine TV_ql rfl rfl rfl (QT_loadRA rfl rfl Tryd.underlying67 rfl YtjehicncbpljaaaDoorF.sz_67 hrA rfl (fun _ => by omega)) ?_
      refine TV_q rfl rfl rfl (fun _ => QT_move rfl rfl rfl) ?_
      refine TV_q rfl rfl rfl (fun _ => QT_move rfl rfl rfl) ?_
      refine TV_q rfl rfl rfl (fun _ => QT_indexSlice (i) rfl rfl Tryd.underlying31 YtjehicncbpljaaaDoorF.sz_67 rfl rfl (rfl) (fun _ => hin)) ?_
      refine TV_ql rfl rfl rfl (QT_loadRA rfl rfl Tryd.underlying67 rfl YtjehicncbpljaaaDoorF.sz_67 hrB rfl (fun _ => by omega)) ?_
      refine TV_q rfl rfl rfl (fun _ => QT_neA rfl rfl eq_Rec rfl rfl (fun _ => hea) (fun _ => heb)) ?_
      refine TV_end ?_
      refine TX_then ?_
      first
        | refine TC_cond_dec rfl (fun h25 => ?_) (fun h25 => ?_)
        | refine TC_cond rfl (fun h25 => ?_) (fun h25 => ?_)
      ·
        refine TC_seq ?_
        refine TC_reg ?_
        refine TL_q rfl rfl (QT_assign rfl rfl rfl) ?_
        refine TL_nil ?_
        refine TX_then ?_
        refine TC_ret ?_
        refine TX_block_ret ?_
        refine TX_then_ret ?_
        refine TX_then_ret ?_
        refine TX_block_ret ?_
        refine TX_then_ret ?_
        exact TX_ret (.inl rfl) (res1 rfl rfl) ⟨_, ⟨(by
         have h1 : eqC (elem xs 7 i) (elem ys 7 i) = false := by simpa [elem] using h25
         rw [eqC_ne hia hib]
         intro e
         rw [e, eqC_refl heb] at h1
         cases h1), rfl⟩, (fun _ h => by first | exact h | exact h.tail | exact h.tail.tail | exact h.tail.tail.tail | exact h.tail.tail.tail.tail | exact h.tail.tail.tail.tail.tail | exact h.tail.tail.tail.tail.tail.tail | exact h.tail.tail.tail.tail.tail.tail.tail | exact h.tail.tail.tail.tail.tail.tail.tail.tail | exact h.tail.tail.tail.tail.tail.tail.tail.tail.tail | exact h.tail.tail.tail.tail.tail.tail.tail.tail.tail.tail | exact h.tail.tail.tail.tail.tail.tail.tail.tail.tail.tail.tail | exact h.tail.tail.tail.tail.tail.tail.tail.tail.tail.tail.tail.tail | exact h.tail.tail.tail.tail.tail.tail.tail.tail.tail.tail.tail.tail.tail)⟩
      ·
        refine TC_skip ?_
        refine TX_block_normal ?_
        refine TX_then ?_
        refine TC_reg ?_
        refine TL_q rfl rfl (QT_move rfl rfl rfl) ?_
        refine TL_q rfl rfl (QT_add rfl rfl rfl rfl (fun _ => ⟨by omega, by omega⟩)) ?_
        refine TL_q rfl rfl (QT_assign rfl rfl rfl) ?_
        refine TL_nil ?_
        refine TX_round ⟨i + 1, by omega, ?_⟩ (by dsimp only; omega) ⟨rfl, rfl, slotI rfl (by dsimp only; omega), trivial⟩ (fun _ h => h)
        rw [take_succ_elem, take_succ_elem, he, (eqC_iff hea heb).1 (by simpa [elem] using h25)]
    ·
      refine TC_exit ?_
      refine TX_then_exit ?_
      refine TX_then_exit ?_
      refine TX_block_here ?_
      refine TX_then ?_
      refine TC_seq ?_
      refine TC_reg ?_
      refine TL_q rfl rfl (QT_assign rfl rfl rfl) ?_
      refine TL_nil ?_
      refine TX_then ?_
      refine TC_ret ?_
      exact TX_ret (.inl rfl) (res1 rfl rfl) ⟨_, ⟨(by
       have hin : i = n := by omega
       subst hin
       rw [List.take_of_length_le (by omega), List.take_of_length_le (by omega)] at he
       subst he
       rw [eqC_refl hia]), rfl⟩, (fun _ h => by first | exact h | exact h.tail | exact h.tail.tail | exact h.tail.tail.tail | exact h.tail.tail.tail.tail | exact h.tail.tail.tail.tail.tail | exact h.tail.tail.tail.tail.tail.tail | exact h.tail.tail.tail.tail.tail.tail.tail | exact h.tail.tail.tail.tail.tail.tail.tail.tail | exact h.tail.tail.tail.tail.tail.tail.tail.tail.tail | exact h.tail.tail.tail.tail.tail.tail.tail.tail.tail.tail | exact h.tail.tail.tail.tail.tail.tail.tail.tail.tail.tail.tail | exact h.tail.tail.tail.tail.tail.tail.tail.tail.tail.tail.tail.tail | exact h.tail.tail.tail.tail.tail.tail.tail.tail.tail.tail.tail.tail.tail)⟩
end Go.Proofs.YtjehicncbpljaaaDoor

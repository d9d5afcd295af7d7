/- LISTS OF STRUCTS OF INTEGERS: are two the same; the facts on their types. One text for each kind of list that the seat has. A LIST's COPY WITH MARKS BEHIND IT, and whether it is still as it was. THE BOOK: fill, grow, marked, for each kind of list of structs. THE BOOK: a list more, and whether all are apart. THE BOOK: a list of vertices, of triangles more. THE BOOK: fill, grow, marked, for lists of bytes. THE BOOK: a list of bytes more. RECORDS: their numbers, their bits; records of bytes, bytes of records, by definition. Plain. RECORDS: the check; the fields, and how each is read and set. -/
import Derived.Test.YtjdaglmkljbfkaaGreatDoorDD02
namespace Go.Proofs.YtjdaglmkljbfkaaGreatDoor
open Go Go.Gx Go.RowKit
set_option maxRecDepth 100000

def spotK : List IntKind := [.u32, .u32]
def colK : List IntKind := [.u16, .u16, .u16, .u16]
def recK : List IntKind := [.u8] ++ spotK ++ colK
def sheetK : List IntKind := [.u8] ++ rep 16 spotK ++ rep 4 colK
def patchK : List IntKind := rep 16 spotK ++ rep 4 colK
def triK : List IntKind := rep 3 recK

theorem eq_Sheet : EqOk Tryz.prog 102 sheetK := ⟨by kernel_rfl, by kernel_rfl, by kernel_rfl, by kernel_rfl⟩
theorem el_Sheet : ElemOk Tryz.prog 102 49 164 (zv sheetK) := .of YtjdaglmkljbfkaaGreatDoorF.sz_102 (by kernel_rfl) (by unfold ZeroOk; kernel_rfl) (by kernel_rfl) (by decide)
theorem same_Sheet (w0 : Base) (η : Heap) (va vb : Value) (n m : Nat) (xs ys : List Value) (ha : SlA (St w0 η) va 49 n xs) (hb : SlA (St w0 η) vb 49 m ys) (hia : Ints (rep n sheetK) xs) (hib : Ints (rep m sheetK) ys) :
    CallsT Tryz.prog 35 [va, vb] (St w0 η) fun v A' => v = .bool (eqC xs ys) ∧ A' = St w0 η := by
  obtain ⟨hal, ada, ca, rfl, ⟨hca, hca2⟩, hra⟩ := ha
  obtain ⟨hbl, adb, cb, rfl, ⟨hcb, hcb2⟩, hrb⟩ := hb
  refine CallsT.body Tryz.func35 rfl rfl ?_
  simp only [Tryz.ntmps35, slotsOf, Nat.reduceAdd]
  refine TC_seq ?_
  refine TC_reg ?_
  refine TL_q rfl rfl (QT_assign rfl rfl rfl) ?_
  refine TL_nil ?_
  refine TX_then ?_
  refine TC_seq ?_
  refine TC_seq ?_
  refine TC_reg ?_
  refine TL_q rfl rfl (QT_move rfl rfl rfl) ?_
  refine TL_q rfl rfl (QT_len rfl rfl Tryz.underlying32 rfl) ?_
  refine TL_q rfl rfl (QT_move rfl rfl rfl) ?_
  refine TL_q rfl rfl (QT_len rfl rfl Tryz.underlying32 rfl) ?_
  refine TL_q rfl rfl (QT_neq rfl rfl rfl rfl) ?_
  refine TL_nil ?_
  refine TX_then ?_
  refine TC_cond_dec rfl (fun h10 => ?_) (fun h10 => ?_)
  ·
    refine TC_seq ?_
    refine TC_reg ?_
    refine TL_q rfl rfl (QT_assign rfl rfl rfl) ?_
    refine TL_nil ?_
    refine TX_then ?_
    refine TC_ret ?_
    refine TX_then_ret ?_
    exact TX_ret (.inl rfl) (res1 rfl rfl) ⟨_, ⟨by rw [eqC_ne_len (by omega)], rfl⟩, (fun _ h => by first | exact h | exact h.tail | exact h.tail.tail | exact h.tail.tail.tail | exact h.tail.tail.tail.tail | exact h.tail.tail.tail.tail.tail | exact h.tail.tail.tail.tail.tail.tail | exact h.tail.tail.tail.tail.tail.tail.tail | exact h.tail.tail.tail.tail.tail.tail.tail.tail | exact h.tail.tail.tail.tail.tail.tail.tail.tail.tail | exact h.tail.tail.tail.tail.tail.tail.tail.tail.tail.tail | exact h.tail.tail.tail.tail.tail.tail.tail.tail.tail.tail.tail | exact h.tail.tail.tail.tail.tail.tail.tail.tail.tail.tail.tail.tail | exact h.tail.tail.tail.tail.tail.tail.tail.tail.tail.tail.tail.tail.tail)⟩
  ·
    obtain rfl : n = m := by omega
    refine TC_skip ?_
    refine TX_then ?_
    refine TC_seq ?_
    refine TC_seq ?_
    refine TC_reg ?_
    refine TL_q rfl rfl (QT_assign rfl rfl rfl) ?_
    refine TL_nil ?_
    refine TX_then ?_
    refine TC_block ?_
    refine TC_loop (γ := {i : Nat // i ≤ n ∧ xs.take (i * 49) = ys.take (i * 49)}) (fun t => [(0, true, .slice ada n ca), (1, true, .slice adb n cb), (5, true, .int .i64 (t.1 : Int))]) (fun _ => St w0 η) (fun t => n - t.1) ⟨0, by omega, by simp⟩ ⟨rfl, rfl, rfl, trivial⟩ (fun _ h => h) ?_
    rintro ⟨i, hi, he⟩
    dsimp only
    refine TC_seq ?_
    refine TC_seq ?_
    refine TC_reg ?_
    refine TL_q rfl rfl (QT_move rfl rfl rfl) ?_
    refine TL_q rfl rfl (QT_move rfl rfl rfl) ?_
    refine TL_q rfl rfl (QT_len rfl rfl Tryz.underlying32 rfl) ?_
    refine TL_q rfl rfl (QT_lss rfl rfl rfl rfl) ?_
    refine TL_nil ?_
    refine TX_then ?_
    refine TC_cond_dec rfl (fun h14 => ?_) (fun h14 => ?_)
    ·
      refine TC_skip ?_
      refine TX_then ?_
      refine TC_seq ?_
      refine TC_block ?_
      refine TC_seq ?_
      have hin : i < n := by omega
      obtain ⟨ba, oa, rfl, hrA⟩ := hra.resolve_left (by omega)
      obtain ⟨bb, ob, rfl, hrB⟩ := hrb.resolve_left (by omega)
      have hea : Ints sheetK (elem xs 49 i) := hia.elem hin
      have heb : Ints sheetK (elem ys 49 i) := hib.elem hin
      refine TC_draw [(0, 0), (1, 0), (2, 0), (3, 0), (4, 0), (5, 0), (6, 0), (7, 0), (8, 0)] YtjdaglmkljbfkaaGreatDoorF.mixed (by kernel_rfl) (St.calm _ _) ?_
      refine TV_q rfl rfl rfl (fun _ => QT_move rfl rfl rfl) ?_
      refine TV_q rfl rfl rfl (fun _ => QT_move rfl rfl rfl) ?_
      refine TV_q rfl rfl rfl (fun _ => QT_indexSlice (i) rfl rfl Tryz.underlying32 YtjdaglmkljbfkaaGreatDoorF.sz_102 rfl rfl (rfl) (fun _ => hin)) ?_
      refine TV_ql rfl rfl rfl (QT_loadRA rfl rfl Tryz.underlying102 rfl YtjdaglmkljbfkaaGreatDoorF.sz_102 hrA rfl (fun _ => by omega)) ?_
      refine TV_q rfl rfl rfl (fun _ => QT_move rfl rfl rfl) ?_
      refine TV_q rfl rfl rfl (fun _ => QT_move rfl rfl rfl) ?_
      refine TV_q rfl rfl rfl (fun _ => QT_indexSlice (i) rfl rfl Tryz.underlying32 YtjdaglmkljbfkaaGreatDoorF.sz_102 rfl rfl (rfl) (fun _ => hin)) ?_
      refine TV_ql rfl rfl rfl (QT_loadRA rfl rfl Tryz.underlying102 rfl YtjdaglmkljbfkaaGreatDoorF.sz_102 hrB rfl (fun _ => by omega)) ?_
      refine TV_q rfl rfl rfl (fun _ => QT_neA rfl rfl eq_Sheet rfl rfl (fun _ => hea) (fun _ => heb)) ?_
      refine TV_end ?_
      refine TX_then ?_
      refine TC_cond rfl (fun h25 => ?_) (fun h25 => ?_)
      ·
        refine TC_seq ?_
        refine TC_reg ?_
        refine TL_q rfl rfl (QT_assign rfl rfl rfl) ?_
        refine TL_nil ?_
        refine TX_then ?_
        refine TC_ret ?_
        refine TX_block_ret ?_
        refine TX_then_ret ?_
        refine TX_then_ret ?_
        refine TX_block_ret ?_
        refine TX_then_ret ?_
        exact TX_ret (.inl rfl) (res1 rfl rfl) ⟨_, ⟨(by
         have h1 : eqC (elem xs 49 i) (elem ys 49 i) = false := by simpa [elem] using h25
         rw [eqC_ne hia hib]
         intro e
         rw [e, eqC_refl heb] at h1
         cases h1), rfl⟩, (fun _ h => by first | exact h | exact h.tail | exact h.tail.tail | exact h.tail.tail.tail | exact h.tail.tail.tail.tail | exact h.tail.tail.tail.tail.tail | exact h.tail.tail.tail.tail.tail.tail | exact h.tail.tail.tail.tail.tail.tail.tail | exact h.tail.tail.tail.tail.tail.tail.tail.tail | exact h.tail.tail.tail.tail.tail.tail.tail.tail.tail | exact h.tail.tail.tail.tail.tail.tail.tail.tail.tail.tail | exact h.tail.tail.tail.tail.tail.tail.tail.tail.tail.tail.tail | exact h.tail.tail.tail.tail.tail.tail.tail.tail.tail.tail.tail.tail | exact h.tail.tail.tail.tail.tail.tail.tail.tail.tail.tail.tail.tail.tail)⟩
      ·
        refine TC_skip ?_
        refine TX_block_normal ?_
        refine TX_then ?_
        refine TC_reg ?_
        refine TL_q rfl rfl (QT_move rfl rfl rfl) ?_
        refine TL_q rfl rfl (QT_add rfl rfl rfl rfl (fun _ => ⟨by omega, by omega⟩)) ?_
        refine TL_q rfl rfl (QT_assign rfl rfl rfl) ?_
        refine TL_nil ?_
        refine TX_round ⟨i + 1, by omega, ?_⟩ (by dsimp only; omega) ⟨rfl, rfl, slotI rfl (by dsimp only; omega), trivial⟩ (fun _ h => h)
        rw [take_succ_elem, take_succ_elem, he, (eqC_iff hea heb).1 (by simpa [elem] using h25)]
    ·
      refine TC_exit ?_
      refine TX_then_exit ?_
      refine TX_then_exit ?_
      refine TX_block_here ?_
      refine TX_then ?_
      refine TC_seq ?_
      refine TC_reg ?_
      refine TL_q rfl rfl (QT_assign rfl rfl rfl) ?_
      refine TL_nil ?_
      refine TX_then ?_
      refine TC_ret ?_
      exact TX_ret (.inl rfl) (res1 rfl rfl) ⟨_, ⟨(by
       have hin : i = n := by omega
       subst hin
       rw [List.take_of_length_le (by omega), List.take_of_length_le (by omega)] at he
       subst he
       rw [eqC_refl hia]), rfl⟩, (fun _ h => by first | exact h | exact h.tail | exact h.tail.tail | exact h.tail.tail.tail | exact h.tail.tail.tail.tail | exact h.tail.tail.tail.tail.tail | exact h.tail.tail.tail.tail.tail.tail | exact h.tail.tail.tail.tail.tail.tail.tail | exact h.tail.tail.tail.tail.tail.tail.tail.tail | exact h.tail.tail.tail.tail.tail.tail.tail.tail.tail | exact h.tail.tail.tail.tail.tail.tail.tail.tail.tail.tail | exact h.tail.tail.tail.tail.tail.tail.tail.tail.tail.tail.tail | exact h.tail.tail.tail.tail.tail.tail.tail.tail.tail.tail.tail.tail | exact h.tail.tail.tail.tail.tail.tail.tail.tail.tail.tail.tail.tail.tail)⟩
theorem eq_Patch : EqOk Tryz.prog 112 patchK := ⟨by kernel_rfl, by kernel_rfl, by kernel_rfl, by kernel_rfl⟩
theorem el_Patch : ElemOk Tryz.prog 112 48 160 (zv patchK) := .of YtjdaglmkljbfkaaGreatDoorF.sz_112 (by kernel_rfl) (by unfold ZeroOk; kernel_rfl) (by kernel_rfl) (by decide)
theorem eq_Rec : EqOk Tryz.prog 77 recK := ⟨by kernel_rfl, by kernel_rfl, by kernel_rfl, by kernel_rfl⟩
theorem el_Rec : ElemOk Tryz.prog 77 7 20 (zv recK) := .of YtjdaglmkljbfkaaGreatDoorF.sz_77 (by kernel_rfl) (by unfold ZeroOk; kernel_rfl) (by kernel_rfl) (by decide)
theorem same_Rec (w0 : Base) (η : Heap) (va vb : Value) (n m : Nat) (xs ys : List Value) (ha : SlA (St w0 η) va 7 n xs) (hb : SlA (St w0 η) vb 7 m ys) (hia : Ints (rep n recK) xs) (hib : Ints (rep m recK) ys) :
    CallsT Tryz.prog 34 [va, vb] (St w0 η) fun v A' => v = .bool (eqC xs ys) ∧ A' = St w0 η := by
  obtain ⟨hal, ada, ca, rfl, ⟨hca, hca2⟩, hra⟩ := ha
  obtain ⟨hbl, adb, cb, rfl, ⟨hcb, hcb2⟩, hrb⟩ := hb
  refine CallsT.body Tryz.func34 rfl rfl ?_
  simp only [Tryz.ntmps34, slotsOf, Nat.reduceAdd]
  refine TC_seq ?_
  refine TC_reg ?_
  refine TL_q rfl rfl (QT_assign rfl rfl rfl) ?_
  refine TL_nil ?_
  refine TX_then ?_
  refine TC_seq ?_
  refine TC_seq ?_
  refine TC_reg ?_
  refine TL_q rfl rfl (QT_move rfl rfl rfl) ?_
  refine TL_q rfl rfl (QT_len rfl rfl Tryz.underlying31 rfl) ?_
  refine TL_q rfl rfl (QT_move rfl rfl rfl) ?_
  refine TL_q rfl rfl (QT_len rfl rfl Tryz.underlying31 rfl) ?_
  refine TL_q rfl rfl (QT_neq rfl rfl rfl rfl) ?_
  refine TL_nil ?_
  refine TX_then ?_
  refine TC_cond_dec rfl (fun h10 => ?_) (fun h10 => ?_)
  ·
    refine TC_seq ?_
    refine TC_reg ?_
    refine TL_q rfl rfl (QT_assign rfl rfl rfl) ?_
    refine TL_nil ?_
    refine TX_then ?_
    refine TC_ret ?_
    refine TX_then_ret ?_
    exact TX_ret (.inl rfl) (res1 rfl rfl) ⟨_, ⟨by rw [eqC_ne_len (by omega)], rfl⟩, (fun _ h => by first | exact h | exact h.tail | exact h.tail.tail | exact h.tail.tail.tail | exact h.tail.tail.tail.tail | exact h.tail.tail.tail.tail.tail | exact h.tail.tail.tail.tail.tail.tail | exact h.tail.tail.tail.tail.tail.tail.tail | exact h.tail.tail.tail.tail.tail.tail.tail.tail | exact h.tail.tail.tail.tail.tail.tail.tail.tail.tail | exact h.tail.tail.tail.tail.tail.tail.tail.tail.tail.tail | exact h.tail.tail.tail.tail.tail.tail.tail.tail.tail.tail.tail | exact h.tail.tail.tail.tail.tail.tail.tail.tail.tail.tail.tail.tail | exact h.tail.tail.tail.tail.tail.tail.tail.tail.tail.tail.tail.tail.tail)⟩
  ·
    obtain rfl : n = m := by omega
    refine TC_skip ?_
    refine TX_then ?_
    refine TC_seq ?_
    refine TC_seq ?_
    refine TC_reg ?_
    refine TL_q rfl rfl (QT_assign rfl rfl rfl) ?_
    refine TL_nil ?_
    refine TX_then ?_
    refine TC_block ?_
    refine TC_loop (γ := {i : Nat // i ≤ n ∧ xs.take (i * 7) = ys.take (i * 7)}) (fun t => [(0, true, .slice ada n ca), (1, true, .slice adb n cb), (5, true, .int .i64 (t.1 : Int))]) (fun _ => St w0 η) (fun t => n - t.1) ⟨0, by omega, by simp⟩ ⟨rfl, rfl, rfl, trivial⟩ (fun _ h => h) ?_
    rintro ⟨i, hi, he⟩
    dsimp only
    refine TC_seq ?_
    refine TC_seq ?_
    refine TC_reg ?_
    refine TL_q rfl rfl (QT_move rfl rfl rfl) ?_
    refine TL_q rfl rfl (QT_move rfl rfl rfl) ?_
    refine TL_q rfl rfl (QT_len rfl rfl Tryz.underlying31 rfl) ?_
    refine TL_q rfl rfl (QT_lss rfl rfl rfl rfl) ?_
    refine TL_nil ?_
    refine TX_then ?_
    refine TC_cond_dec rfl (fun h14 => ?_) (fun h14 => ?_)
    ·
      refine TC_skip ?_
      refine TX_then ?_
      refine TC_seq ?_
      refine TC_block ?_
      refine TC_seq ?_
      have hin : i < n := by omega
      obtain ⟨ba, oa, rfl, hrA⟩ := hra.resolve_left (by omega)
      obtain ⟨bb, ob, rfl, hrB⟩ := hrb.resolve_left (by omega)
      have hea : Ints recK (elem xs 7 i) := hia.elem hin
      have heb : Ints recK (elem ys 7 i) := hib.elem hin
      refine TC_draw [(0, 0), (1, 0), (2, 0), (3, 0), (4, 0), (5, 0), (6, 0), (7, 0), (8, 0)] YtjdaglmkljbfkaaGreatDoorF.mixed (by kernel_rfl) (St.calm _ _) ?_
      refine TV_q rfl rfl rfl (fun _ => QT_move rfl rfl rfl) ?_
      refine TV_q rfl rfl rfl (fun _ => QT_move rfl rfl rfl) ?_
      refine TV_q rfl rfl rfl (fun _ => QT_indexSlice (i) rfl rfl Tryz.underlying31 YtjdaglmkljbfkaaGreatDoorF.sz_77 rfl rfl (rfl) (fun _ => hin)) ?_
      refine TV_ql rfl rfl rfl (QT_loadRA rfl rfl Tryz.underlying77 rfl YtjdaglmkljbfkaaGreatDoorF.sz_77 hrA rfl (fun _ => by omega)) ?_
      refine TV_q rfl rfl rfl (fun _ => QT_move rfl rfl rfl) ?_
      refine TV_q rfl rfl rfl (fun _ => QT_move rfl rfl rfl) ?_
      refine TV_q rfl rfl rfl (fun _ => QT_indexSlice (i) rfl rfl Tryz.underlying31 YtjdaglmkljbfkaaGreatDoorF.sz_77 rfl rfl (rfl) (fun _ => hin)) ?_
      refine TV_ql rfl rfl rfl (QT_loadRA rfl rfl Tryz.underlying77 rfl YtjdaglmkljbfkaaGreatDoorF.sz_77 hrB rfl (fun _ => by omega)) ?_
      refine TV_q rfl rfl rfl (fun _ => QT_neA rfl rfl eq_Rec rfl rfl (fun _ => hea) (fun _ => heb)) ?_
      refine TV_end ?_
      refine TX_then ?_
      refine TC_cond rfl (fun h25 => ?_) (fun h25 => ?_)
      ·
        refine TC_seq ?_
        refine TC_reg ?_
        refine TL_q rfl rfl (QT_assign rfl rfl rfl) ?_
        refine TL_nil ?_
        refine TX_then ?_
        refine TC_ret ?_
        refine TX_block_ret ?_
        refine TX_then_ret ?_
        refine TX_then_ret ?_
        refine TX_block_ret ?_
        refine TX_then_ret ?_
        exact TX_ret (.inl rfl) (res1 rfl rfl) ⟨_, ⟨(by
         have h1 : eqC (elem xs 7 i) (elem ys 7 i) = false := by simpa [elem] using h25
         rw [eqC_ne hia hib]
         intro e
         rw [e, eqC_refl heb] at h1
         cases h1), rfl⟩, (fun _ h => by first | exact h | exact h.tail | exact h.tail.tail | exact h.tail.tail.tail | exact h.tail.tail.tail.tail | exact h.tail.tail.tail.tail.tail | exact h.tail.tail.tail.tail.tail.tail | exact h.tail.tail.tail.tail.tail.tail.tail | exact h.tail.tail.tail.tail.tail.tail.tail.tail | exact h.tail.tail.tail.tail.tail.tail.tail.tail.tail | exact h.tail.tail.tail.tail.tail.tail.tail.tail.tail.tail | exact h.tail.tail.tail.tail.tail.tail.tail.tail.tail.tail.tail | exact h.tail.tail.tail.tail.tail.tail.tail.tail.tail.tail.tail.tail | exact h.tail.tail.tail.tail.tail.tail.tail.tail.tail.tail.tail.tail.tail)⟩
      ·
        refine TC_skip ?_
        refine TX_block_normal ?_
        refine TX_then ?_
        refine TC_reg ?_
        refine TL_q rfl rfl (QT_move rfl rfl rfl) ?_
        refine TL_q rfl rfl (QT_add rfl rfl rfl rfl (fun _ => ⟨by omega, by omega⟩)) ?_
        refine TL_q rfl rfl (QT_assign rfl rfl rfl) ?_
        refine TL_nil ?_
        refine TX_round ⟨i + 1, by omega, ?_⟩ (by dsimp only; omega) ⟨rfl, rfl, slotI rfl (by dsimp only; omega), trivial⟩ (fun _ h => h)
        rw [take_succ_elem, take_succ_elem, he, (eqC_iff hea heb).1 (by simpa [elem] using h25)]
    ·
      refine TC_exit ?_
      refine TX_then_exit ?_
      refine TX_then_exit ?_
      refine TX_block_here ?_
      refine TX_then ?_
      refine TC_seq ?_
      refine TC_reg ?_
      refine TL_q rfl rfl (QT_assign rfl rfl rfl) ?_
      refine TL_nil ?_
      refine TX_then ?_
      refine TC_ret ?_
      exact TX_ret (.inl rfl) (res1 rfl rfl) ⟨_, ⟨(by
       have hin : i = n := by omega
       subst hin
       rw [List.take_of_length_le (by omega), List.take_of_length_le (by omega)] at he
       subst he
       rw [eqC_refl hia]), rfl⟩, (fun _ h => by first | exact h | exact h.tail | exact h.tail.tail | exact h.tail.tail.tail | exact h.tail.tail.tail.tail | exact h.tail.tail.tail.tail.tail | exact h.tail.tail.tail.tail.tail.tail | exact h.tail.tail.tail.tail.tail.tail.tail | exact h.tail.tail.tail.tail.tail.tail.tail.tail | exact h.tail.tail.tail.tail.tail.tail.tail.tail.tail | exact h.tail.tail.tail.tail.tail.tail.tail.tail.tail.tail | exact h.tail.tail.tail.tail.tail.tail.tail.tail.tail.tail.tail | exact h.tail.tail.tail.tail.tail.tail.tail.tail.tail.tail.tail.tail | exact h.tail.tail.tail.tail.tail.tail.tail.tail.tail.tail.tail.tail.tail)⟩
theorem eq_Tri : EqOk Tryz.prog 79 triK := ⟨by kernel_rfl, by kernel_rfl, by kernel_rfl, by kernel_rfl⟩
theorem el_Tri : ElemOk Tryz.prog 79 21 60 (zv triK) := .of YtjdaglmkljbfkaaGreatDoorF.sz_79 (by kernel_rfl) (by unfold ZeroOk; kernel_rfl) (by kernel_rfl) (by decide)
end Go.Proofs.YtjdaglmkljbfkaaGreatDoor
namespace Go.Proofs.YtjdaglmkljbfkaaGreatDoor
open Go Go.Gx Go.RowKit
set_option maxRecDepth 100000

def zs (ks : List IntKind) : List Value := ks.map fun k => .int k 0
theorem zs_ints : ∀ ks : List IntKind, Ints ks (zs ks)
  | [] => .nil
  | k :: ks => .cons (by cases k <;> rfl) (zs_ints ks)
end Go.Proofs.YtjdaglmkljbfkaaGreatDoor
namespace Go.Proofs.YtjdaglmkljbfkaaGreatDoor
open Go Go.Gx Go.RowKit
set_option maxRecDepth 100000

theorem fill_Sheet (w0 : Base) (η : Heap) (va : Value) (ss : List Strip) (hs : ∀ s ∈ ss, s.ok 102 49 sheetK) (ha : SlA (St w0 η) va 51 ss.length (arrOf ss)) :
    CallsT Tryz.prog 42 [va] (St w0 (heapOf ss ++ η)) fun _ A' => A' = St w0 (heapOf (ss.map (fillS 49)) ++ η) := by
  have hml : ∀ s ∈ ss, s.mark.length = 49 := fun s h => (hs s h).mints.length
  obtain ⟨hal, ada, ca, rfl, ⟨hca, hca2⟩, hra⟩ := ha
  refine CallsT.body Tryz.func42 rfl rfl ?_
  simp only [Tryz.ntmps42, slotsOf, Nat.reduceAdd]
  refine TC_seq ?_
  refine TC_reg ?_
  refine TL_q rfl rfl (QT_assign rfl rfl rfl) ?_
  refine TL_nil ?_
  refine TX_then ?_
  refine TC_block ?_
  refine TC_loop (γ := {i : Nat // i ≤ ss.length}) (fun t => [(0, true, .slice ada ss.length ca), (2, true, .int .i64 (t.1 : Int))]) (fun t => St w0 (heapOf ((ss.take t.1).map (fillS 49)) ++ (heapOf (ss.drop t.1) ++ η))) (fun t => ss.length - t.1) ⟨0, by omega⟩ ⟨rfl, rfl, trivial⟩ (fun _ h => by simpa [heapOf] using h) ?_
  rintro ⟨i, hi⟩
  dsimp only
  refine TC_seq ?_
  refine TC_seq ?_
  refine TC_reg ?_
  refine TL_q rfl rfl (QT_move rfl rfl rfl) ?_
  refine TL_q rfl rfl (QT_move rfl rfl rfl) ?_
  refine TL_q rfl rfl (QT_len rfl rfl Tryz.underlying43 rfl) ?_
  refine TL_q rfl rfl (QT_lss rfl rfl rfl rfl) ?_
  refine TL_nil ?_
  refine TX_then ?_
  refine TC_cond_dec rfl (fun h7 => ?_) (fun h7 => ?_)
  ·
    refine TC_skip ?_
    refine TX_then ?_
    refine TC_seq ?_
    refine TC_block ?_
    refine TC_seq ?_
    have hin : i < ss.length := by omega
    obtain ⟨ba, oa, rfl, hrA⟩ := hra.resolve_left (by omega)
    obtain ⟨s, hsi⟩ : ∃ s, ss[i]? = some s := ⟨_, List.getElem?_eq_getElem hin⟩
    obtain ⟨hat1, hat2, hat3, hat4⟩ := arrOf_at hml hsi
    have hdrop : ss.drop i = s :: ss.drop (i + 1) := by
      rw [List.drop_eq_getElem_cons hin]
      congr 1
      exact (List.getElem?_eq_some_iff.1 hsi).2
    have htake : (ss.take (i + 1)).map (fillS 49) = (ss.take i).map (fillS 49) ++ [fillS 49 s] := by
      rw [List.take_add_one, hsi]; simp
    have hok := hs s (List.mem_of_getElem? hsi)
    have hmls := hml s (List.mem_of_getElem? hsi)
    rw [hdrop, heapOf_cons]
    obtain ⟨sv, sn, sxs, slong, smk, sH⟩ := s
    obtain ⟨⟨hfl, hfr⟩, hmk, hfew⟩ := hok
    dsimp only at hfl hfr hmk hfew hmls hat1 hat2 hat3 hat4
    have hsv : ∃ sad scap, sv = .slice sad sn scap := by
      rcases hfr with ⟨rfl, rfl, _⟩ | ⟨b, cap, rest, rfl, _⟩
      · exact ⟨_, _, rfl⟩
      · exact ⟨_, _, rfl⟩
    obtain ⟨sad, scap, rfl⟩ := hsv
    refine TC_reg ?_
    refine TL_q rfl rfl (QT_assign rfl rfl rfl) ?_
    refine TL_nil ?_
    refine TX_then ?_
    refine TC_block ?_
    refine TC_loop (γ := {k : Nat // k ≤ sn}) (fun t => [(0, true, .slice (some ⟨ba, oa, none⟩) ss.length ca), (2, true, .int .i64 (i : Int)), (3, true, .int .i64 (t.1 : Int))]) (fun t => St w0 (fillH 49 t.1 smk sH ++ (heapOf ((ss.take i).map (fillS 49)) ++ (heapOf (ss.drop (i + 1)) ++ η)))) (fun t => sn - t.1) ⟨0, by omega⟩ ⟨rfl, rfl, rfl, trivial⟩ (fun _ h => h.cnt (fun p => by simp only [fillH_zero, List.countP_append]; omega)) ?_
    rintro ⟨k, hk⟩
    dsimp only
    refine TC_seq ?_
    refine TC_seq ?_
    refine TC_reg ?_
    refine TL_q rfl rfl (QT_move rfl rfl rfl) ?_
    refine TL_q rfl rfl (QT_move rfl rfl rfl) ?_
    refine TL_q rfl rfl (QT_move rfl rfl rfl) ?_
    refine TL_q rfl rfl (QT_indexSlice (i) rfl rfl Tryz.underlying43 YtjdaglmkljbfkaaGreatDoorF.sz_188 rfl rfl (rfl) (fun _ => hin)) ?_
    refine TL_q rfl rfl (QT_field rfl rfl YtjdaglmkljbfkaaGreatDoorF.fld_188_0 rfl) ?_
    refine TL_q rfl rfl (QT_loadRj (i * 51) rfl rfl Tryz.underlying32 rfl (hrA.mono fun _ h => h.cnt fun p => by simp only [List.countP_append]; omega) rfl (fun _ => hat1)) ?_
    refine TL_q rfl rfl (QT_len rfl rfl Tryz.underlying32 rfl) ?_
    refine TL_q rfl rfl (QT_lss rfl rfl rfl rfl) ?_
    refine TL_nil ?_
    refine TX_then ?_
    refine TC_cond_dec rfl (fun h17 => ?_) (fun h17 => ?_)
    ·
      refine TC_skip ?_
      refine TX_then ?_
      refine TC_seq ?_
      refine TC_block ?_
      have hkn : k < sn := by omega
      have hszm : Sz Tryz.prog 102 smk.length := by rw [hmls]; exact YtjdaglmkljbfkaaGreatDoorF.sz_102
      have hkz : (k + 1) * 49 ≤ sn * 49 := Nat.mul_le_mul_right _ (by omega)
      obtain ⟨b, cap, rest, hv, hcap, hlen, rfl⟩ : ∃ b cap rest, Value.slice sad sn scap = .slice (some ⟨b, 0, none⟩) sn cap ∧ (sn ≤ cap ∧ cap ≤ 9223372036854775807) ∧ cap * 49 ≤ (sxs ++ rest).length ∧ sH = [(b, 102, sxs ++ rest)] := by
        rcases hfr with ⟨_, h0, _⟩ | h
        · omega
        · exact h
      simp only [Value.slice.injEq, true_and] at hv
      obtain ⟨rfl, rfl⟩ := hv
      have hcz : sn * 49 ≤ scap * 49 := Nat.mul_le_mul_right _ (by omega)
      refine TC_draw [(0, 0), (1, 0), (2, 0), (3, 0), (4, 0), (5, 0), (6, 0), (7, 0), (8, 0), (9, 0), (10, 0), (11, 0), (12, 1)] YtjdaglmkljbfkaaGreatDoorF.mixed (by kernel_rfl) (St.calm _ _) ?_
      refine TV_q rfl rfl rfl (fun _ => QT_move rfl rfl rfl) ?_
      refine TV_q rfl rfl rfl (fun _ => QT_move rfl rfl rfl) ?_
      refine TV_q rfl rfl rfl (fun _ => QT_indexSlice (i) rfl rfl Tryz.underlying43 YtjdaglmkljbfkaaGreatDoorF.sz_188 rfl rfl (rfl) (fun _ => hin)) ?_
      refine TV_q rfl rfl rfl (fun _ => QT_field rfl rfl YtjdaglmkljbfkaaGreatDoorF.fld_188_0 rfl) ?_
      refine TV_ql rfl rfl rfl (QT_loadRj (i * 51) rfl rfl Tryz.underlying32 rfl (hrA.mono fun _ h => h.cnt fun p => by simp only [List.countP_append]; omega) rfl (fun _ => hat1)) ?_
      refine TV_q rfl rfl rfl (fun _ => QT_move rfl rfl rfl) ?_
      refine TV_q rfl rfl rfl (fun _ => QT_move rfl rfl rfl) ?_
      refine TV_q rfl rfl rfl (fun _ => QT_move rfl rfl rfl) ?_
      refine TV_q rfl rfl rfl (fun _ => QT_indexSlice (i) rfl rfl Tryz.underlying43 YtjdaglmkljbfkaaGreatDoorF.sz_188 rfl rfl (rfl) (fun _ => hin)) ?_
      refine TV_q rfl rfl rfl (fun _ => QT_field rfl rfl YtjdaglmkljbfkaaGreatDoorF.fld_188_2 rfl) ?_
      refine TV_ql rfl rfl rfl (QT_loadRAj (i * 51 + 2) rfl rfl Tryz.underlying102 rfl YtjdaglmkljbfkaaGreatDoorF.sz_102 (hrA.mono fun _ h => h.cnt fun p => by simp only [List.countP_append]; omega) rfl (fun _ => hat4) (fun _ => hat3)) ?_
      refine TV_q rfl rfl rfl (fun _ => QT_indexSlice (k) rfl rfl Tryz.underlying32 YtjdaglmkljbfkaaGreatDoorF.sz_102 rfl rfl (rfl) (fun _ => hkn)) ?_
      refine TV_e0 rfl rfl rfl (rfl) (ET_store (vs := smk) 0 rfl rfl rfl rfl hszm rfl (by rw [List.all_eq_true]; exact hmk.oneCell) (Nat.ble_eq_true_of_le (by simp only [List.length_append, List.length_drop, marks_len hmls]; omega))) ?_
      rintro _ _ ⟨rfl, rfl⟩
      refine ⟨_, .drop (by kernel_rfl) (.drop (by kernel_rfl) (.nil)), ?_⟩
      refine TV_end ?_
      refine TX_block_normal ?_
      refine TX_then ?_
      skip
      refine TC_reg ?_
      refine TL_q rfl rfl (QT_move rfl rfl rfl) ?_
      refine TL_q rfl rfl (QT_add rfl rfl rfl rfl (fun _ => ⟨by omega, by omega⟩)) ?_
      refine TL_q rfl rfl (QT_assign rfl rfl rfl) ?_
      refine TL_nil ?_
      refine TX_round ⟨k + 1, by omega⟩ (by dsimp only; omega) ⟨rfl, rfl, slotI rfl (by dsimp only; omega), trivial⟩ (fun w h => ?_)
      simp only [fillH, List.map_cons, List.map_nil, List.singleton_append, List.cons_append, List.nil_append, upd, Nat.zero_add] at h ⊢
      rw [fill_step hmls (by omega)] at h
      exact h
    ·
      refine TC_exit ?_
      refine TX_then_exit ?_
      refine TX_then_exit ?_
      refine TX_block_here ?_
      refine TX_block_normal ?_
      refine TX_then ?_
      refine TC_reg ?_
      refine TL_q rfl rfl (QT_move rfl rfl rfl) ?_
      refine TL_q rfl rfl (QT_add rfl rfl rfl rfl (fun _ => ⟨by omega, by omega⟩)) ?_
      refine TL_q rfl rfl (QT_assign rfl rfl rfl) ?_
      refine TL_nil ?_
      refine TX_round ⟨i + 1, by omega⟩ (by dsimp only; omega) ⟨rfl, slotI rfl (by dsimp only; omega), trivial⟩ (fun w h => h.cnt fun p => ?_)
      obtain rfl : k = sn := by omega
      rw [htake, heapOf_append, heapOf_cons, heapOf_nil]
      simp only [fillS, List.countP_append, List.countP_nil]; omega
  ·
    refine TC_exit ?_
    refine TX_then_exit ?_
    refine TX_then_exit ?_
    refine TX_block_here ?_
    refine TX_ret (.inr rfl) (res0 rfl) ⟨_, rfl, fun w h => ?_⟩
    obtain rfl : i = ss.length := by omega
    simpa [heapOf] using h
theorem marked_Sheet (w0 : Base) (η : Heap) (va : Value) (ss : List Strip) (hs : ∀ s ∈ ss, s.grown (St w0 η) 49 sheetK) (ha : SlA (St w0 η) va 51 ss.length (arrOf ss)) :
    CallsT Tryz.prog 68 [va] (St w0 η) fun v A' => v = .bool true ∧ A' = St w0 η := by
  have hml : ∀ s ∈ ss, s.mark.length = 49 := fun s h => (hs s h).mints.length
  obtain ⟨hal, ada, ca, rfl, ⟨hca, hca2⟩, hra⟩ := ha
  refine CallsT.body Tryz.func68 rfl rfl ?_
  simp only [Tryz.ntmps68, slotsOf, Nat.reduceAdd]
  refine TC_seq ?_
  refine TC_reg ?_
  refine TL_q rfl rfl (QT_assign rfl rfl rfl) ?_
  refine TL_nil ?_
  refine TX_then ?_
  refine TC_seq ?_
  refine TC_seq ?_
  refine TC_reg ?_
  refine TL_q rfl rfl (QT_assign rfl rfl rfl) ?_
  refine TL_nil ?_
  refine TX_then ?_
  refine TC_block ?_
  refine TC_loop (γ := {i : Nat // i ≤ ss.length}) (fun t => [(0, true, .slice ada ss.length ca), (3, true, .int .i64 (t.1 : Int))]) (fun t => St w0 η) (fun t => ss.length - t.1) ⟨0, by omega⟩ ⟨rfl, rfl, trivial⟩ (fun _ h => h) ?_
  rintro ⟨i, hi⟩
  dsimp only
  refine TC_seq ?_
  refine TC_seq ?_
  refine TC_reg ?_
  refine TL_q rfl rfl (QT_move rfl rfl rfl) ?_
  refine TL_q rfl rfl (QT_move rfl rfl rfl) ?_
  refine TL_q rfl rfl (QT_len rfl rfl Tryz.underlying43 rfl) ?_
  refine TL_q rfl rfl (QT_lss rfl rfl rfl rfl) ?_
  refine TL_nil ?_
  refine TX_then ?_
  refine TC_cond_dec rfl (fun h8 => ?_) (fun h8 => ?_)
  ·
    refine TC_skip ?_
    refine TX_then ?_
    refine TC_seq ?_
    refine TC_block ?_
    refine TC_seq ?_
    have hin : i < ss.length := by omega
    obtain ⟨ba, oa, rfl, hrA⟩ := hra.resolve_left (by omega)
    obtain ⟨s, hsi⟩ : ∃ s, ss[i]? = some s := ⟨_, List.getElem?_eq_getElem hin⟩
    obtain ⟨hat1, hat2, hat3, hat4⟩ := arrOf_at hml hsi
    have hok := hs s (List.mem_of_getElem? hsi)
    have hmls := hml s (List.mem_of_getElem? hsi)
    obtain ⟨sv, sn, sxs, slong, smk, sH⟩ := s
    obtain ⟨hl, hlong, hmk, hfew⟩ := hok
    dsimp only at hl hlong hmk hfew hmls hat1 hat2 hat3 hat4
    obtain ⟨hll, lad, lcap, lb, loff, rfl, hlc, hlad, hlr⟩ := hl.some
    obtain ⟨hgl, gad, gcap, gb, goff, rfl, hgc, hgad, hgr⟩ := hlong.some
    obtain rfl := hgad (by omega)
    have hself : eqC smk smk = true := eqC_refl hmk
    refine TC_reg ?_
    refine TL_q rfl rfl (QT_assign rfl rfl rfl) ?_
    refine TL_nil ?_
    refine TX_then ?_
    refine TC_block ?_
    refine TC_loop (γ := {k : Nat // k ≤ sn + 24}) (fun t => [(0, true, .slice (some ⟨ba, oa, none⟩) ss.length ca), (3, true, .int .i64 (i : Int)), (4, true, .int .i64 (t.1 : Int))]) (fun t => St w0 η) (fun t => sn + 24 - t.1) ⟨0, by omega⟩ ⟨rfl, rfl, rfl, trivial⟩ (fun _ h => h) ?_
    rintro ⟨k, hk⟩
    dsimp only
    refine TC_seq ?_
    refine TC_seq ?_
    refine TC_reg ?_
    refine TL_q rfl rfl (QT_move rfl rfl rfl) ?_
    refine TL_q rfl rfl (QT_move rfl rfl rfl) ?_
    refine TL_q rfl rfl (QT_move rfl rfl rfl) ?_
    refine TL_q rfl rfl (QT_indexSlice (i) rfl rfl Tryz.underlying43 YtjdaglmkljbfkaaGreatDoorF.sz_188 rfl rfl (rfl) (fun _ => hin)) ?_
    refine TL_q rfl rfl (QT_field rfl rfl YtjdaglmkljbfkaaGreatDoorF.fld_188_1 rfl) ?_
    refine TL_q rfl rfl (QT_loadRj (i * 51 + 1) rfl rfl Tryz.underlying32 rfl hrA rfl (fun _ => hat2)) ?_
    refine TL_q rfl rfl (QT_len rfl rfl Tryz.underlying32 rfl) ?_
    refine TL_q rfl rfl (QT_lss rfl rfl rfl rfl) ?_
    refine TL_nil ?_
    refine TX_then ?_
    refine TC_cond_dec rfl (fun h18 => ?_) (fun h18 => ?_)
    ·
      refine TC_skip ?_
      refine TX_then ?_
      refine TC_seq ?_
      refine TC_block ?_
      refine TC_seq ?_
      have hkn : k < sn + 24 := by omega
      have hz1 : k * 49 + 49 ≤ (marks (sn + 24) smk).length := by
        rw [marks_len hmls]
        have : (k + 1) * 49 ≤ (sn + 24) * 49 := Nat.mul_le_mul_right _ (by omega)
        rw [Nat.add_mul] at this; omega
      have hz2 : (true && !decide ((k : Int) < (sn : Int))) = true ∨ k * 49 + 49 ≤ (marks sn smk).length := by
        by_cases h : k < sn
        · refine .inr ?_
          rw [marks_len hmls]
          have : (k + 1) * 49 ≤ sn * 49 := Nat.mul_le_mul_right _ (by omega)
          rw [Nat.add_mul] at this; omega
        · refine .inl ?_
          simpa using h
      refine TC_draw [(0, 0), (1, 0), (2, 0), (3, 0), (4, 0), (5, 0), (6, 0), (7, 0), (8, 0), (9, 0), (10, 0), (11, 0), (12, 0), (13, 0), (14, 0), (15, 0), (16, 0), (17, 0), (18, 0), (19, 0), (20, 0), (21, 0), (22, 0), (23, 0), (24, 0), (25, 0), (26, 0), (27, 0), (28, 0), (29, 0), (30, 0), (31, 0), (32, 0), (33, 0), (34, 0), (35, 0), (36, 0), (37, 0), (38, 0), (39, 0)] YtjdaglmkljbfkaaGreatDoorF.mixed (by kernel_rfl) (St.calm _ _) ?_
      refine TV_q rfl rfl rfl (fun _ => QT_move rfl rfl rfl) ?_
      refine TV_q rfl rfl rfl (fun _ => QT_move rfl rfl rfl) ?_
      refine TV_q rfl rfl rfl (fun _ => QT_indexSlice (i) rfl rfl Tryz.underlying43 YtjdaglmkljbfkaaGreatDoorF.sz_188 rfl rfl (rfl) (fun _ => hin)) ?_
      refine TV_q rfl rfl rfl (fun _ => QT_field rfl rfl YtjdaglmkljbfkaaGreatDoorF.fld_188_1 rfl) ?_
      refine TV_ql rfl rfl rfl (QT_loadRj (i * 51 + 1) rfl rfl Tryz.underlying32 rfl hrA rfl (fun _ => hat2)) ?_
      refine TV_q rfl rfl rfl (fun _ => QT_move rfl rfl rfl) ?_
      refine TV_q rfl rfl rfl (fun _ => QT_indexSlice (k) rfl rfl Tryz.underlying32 YtjdaglmkljbfkaaGreatDoorF.sz_102 rfl rfl (rfl) (fun _ => hkn)) ?_
      refine TV_ql rfl rfl rfl (QT_loadRAj (k * 49) rfl rfl Tryz.underlying102 rfl YtjdaglmkljbfkaaGreatDoorF.sz_102 hgr rfl (fun _ => hz1) (fun _ => elem_marks hmls hkn)) ?_
      refine TV_q rfl rfl rfl (fun _ => QT_move rfl rfl rfl) ?_
      refine TV_q rfl rfl rfl (fun _ => QT_move rfl rfl rfl) ?_
      refine TV_q rfl rfl rfl (fun _ => QT_indexSlice (i) rfl rfl Tryz.underlying43 YtjdaglmkljbfkaaGreatDoorF.sz_188 rfl rfl (rfl) (fun _ => hin)) ?_
      refine TV_q rfl rfl rfl (fun _ => QT_field rfl rfl YtjdaglmkljbfkaaGreatDoorF.fld_188_2 rfl) ?_
      refine TV_ql rfl rfl rfl (QT_loadRAj (i * 51 + 2) rfl rfl Tryz.underlying102 rfl YtjdaglmkljbfkaaGreatDoorF.sz_102 hrA rfl (fun _ => hat4) (fun _ => hat3)) ?_
      refine TV_q rfl rfl rfl (fun _ => QT_neA rfl rfl eq_Sheet rfl rfl (fun _ => hmk) (fun _ => hmk)) ?_
      refine TV_q rfl rfl rfl (fun _ => QT_move rfl rfl rfl) ?_
      refine TV_q rfl rfl rfl (fun _ => QT_move rfl rfl rfl) ?_
      refine TV_q rfl rfl rfl (fun _ => QT_move rfl rfl rfl) ?_
      refine TV_q rfl rfl rfl (fun _ => QT_move rfl rfl rfl) ?_
      refine TV_q rfl rfl rfl (fun _ => QT_indexSlice (i) rfl rfl Tryz.underlying43 YtjdaglmkljbfkaaGreatDoorF.sz_188 rfl rfl (rfl) (fun _ => hin)) ?_
      refine TV_q rfl rfl rfl (fun _ => QT_field rfl rfl YtjdaglmkljbfkaaGreatDoorF.fld_188_0 rfl) ?_
      refine TV_ql rfl rfl rfl (QT_loadRj (i * 51) rfl rfl Tryz.underlying32 rfl hrA rfl (fun _ => hat1)) ?_
      refine TV_q rfl rfl rfl (fun _ => QT_len rfl rfl Tryz.underlying32 rfl) ?_
      refine TV_q rfl rfl rfl (fun _ => QT_lss rfl rfl rfl rfl) ?_
      refine TV_q rfl rfl rfl (fun _ => QT_move rfl rfl rfl) ?_
      refine TV_q rfl rfl rfl (fun _ => QT_move rfl rfl rfl) ?_
      refine TV_q rfl rfl rfl (fun _ => QT_move rfl rfl rfl) ?_
      refine TV_q rfl rfl rfl (fun _ => QT_indexSlice (i) rfl rfl Tryz.underlying43 YtjdaglmkljbfkaaGreatDoorF.sz_188 rfl rfl (rfl) (fun _ => hin)) ?_
      refine TV_q rfl rfl rfl (fun _ => QT_field rfl rfl YtjdaglmkljbfkaaGreatDoorF.fld_188_0 rfl) ?_
      refine TV_ql rfl rfl rfl (QT_loadRj (i * 51) rfl rfl Tryz.underlying32 rfl hrA rfl (fun _ => hat1)) ?_
      refine TV_q rfl rfl rfl (fun _ => QT_move rfl rfl rfl) ?_
      refine TV_q rfl rfl rfl (fun _ => QT_indexG k rfl rfl Tryz.underlying32 YtjdaglmkljbfkaaGreatDoorF.sz_102 rfl rfl rfl (fun h => by simp at h; omega) (fun h => hlad (by simp at h; omega))) ?_
      refine TV_ql rfl rfl rfl (QT_loadRAj (k * 49) rfl rfl Tryz.underlying102 rfl YtjdaglmkljbfkaaGreatDoorF.sz_102 hlr rfl (fun h => by simp at h hz2; omega) (fun h => elem_marks hmls (by simp at h; omega))) ?_
      refine TV_q rfl rfl rfl (fun _ => QT_move rfl rfl rfl) ?_
      refine TV_q rfl rfl rfl (fun _ => QT_move rfl rfl rfl) ?_
      refine TV_q rfl rfl rfl (fun _ => QT_indexSlice (i) rfl rfl Tryz.underlying43 YtjdaglmkljbfkaaGreatDoorF.sz_188 rfl rfl (rfl) (fun _ => hin)) ?_
      refine TV_q rfl rfl rfl (fun _ => QT_field rfl rfl YtjdaglmkljbfkaaGreatDoorF.fld_188_2 rfl) ?_
      refine TV_ql rfl rfl rfl (QT_loadRAj (i * 51 + 2) rfl rfl Tryz.underlying102 rfl YtjdaglmkljbfkaaGreatDoorF.sz_102 hrA rfl (fun _ => hat4) (fun _ => hat3)) ?_
      refine TV_q rfl rfl rfl (fun _ => QT_neA rfl rfl eq_Sheet rfl rfl (fun _ => hmk) (fun _ => hmk)) ?_
      refine TV_q rfl rfl rfl (fun _ => QT_and rfl rfl rfl rfl) ?_
      refine TV_q rfl rfl rfl (fun _ => QT_or rfl rfl rfl rfl) ?_
      refine TV_end ?_
      refine TX_then ?_
      refine TC_cond rfl (fun h => absurd (h.symm.trans ((show (_ : Bool) = false by rw [hself]; simp))) (by decide)) (fun _ => ?_)
      refine TC_skip ?_
      refine TX_block_normal ?_
      refine TX_then ?_
      refine TC_reg ?_
      refine TL_q rfl rfl (QT_move rfl rfl rfl) ?_
      refine TL_q rfl rfl (QT_add rfl rfl rfl rfl (fun _ => ⟨by omega, by omega⟩)) ?_
      refine TL_q rfl rfl (QT_assign rfl rfl rfl) ?_
      refine TL_nil ?_
      exact TX_round ⟨k + 1, by omega⟩ (by dsimp only; omega) ⟨rfl, rfl, slotI rfl (by dsimp only; omega), trivial⟩ (fun w h => h)
    ·
      refine TC_exit ?_
      refine TX_then_exit ?_
      refine TX_then_exit ?_
      refine TX_block_here ?_
      refine TX_block_normal ?_
      refine TX_then ?_
      refine TC_reg ?_
      refine TL_q rfl rfl (QT_move rfl rfl rfl) ?_
      refine TL_q rfl rfl (QT_add rfl rfl rfl rfl (fun _ => ⟨by omega, by omega⟩)) ?_
      refine TL_q rfl rfl (QT_assign rfl rfl rfl) ?_
      refine TL_nil ?_
      exact TX_round ⟨i + 1, by omega⟩ (by dsimp only; omega) ⟨rfl, slotI rfl (by dsimp only; omega), trivial⟩ (fun w h => h)
  ·
    refine TC_exit ?_
    refine TX_then_exit ?_
    refine TX_then_exit ?_
    refine TX_block_here ?_
    refine TX_then ?_
    refine TC_seq ?_
    refine TC_reg ?_
    refine TL_q rfl rfl (QT_assign rfl rfl rfl) ?_
    refine TL_nil ?_
    refine TX_then ?_
    refine TC_ret ?_
    exact TX_ret (.inl rfl) (res1 rfl rfl) ⟨_, ⟨rfl, rfl⟩, (fun _ h => by first | exact h | exact h.tail | exact h.tail.tail | exact h.tail.tail.tail | exact h.tail.tail.tail.tail | exact h.tail.tail.tail.tail.tail | exact h.tail.tail.tail.tail.tail.tail | exact h.tail.tail.tail.tail.tail.tail.tail | exact h.tail.tail.tail.tail.tail.tail.tail.tail | exact h.tail.tail.tail.tail.tail.tail.tail.tail.tail | exact h.tail.tail.tail.tail.tail.tail.tail.tail.tail.tail | exact h.tail.tail.tail.tail.tail.tail.tail.tail.tail.tail.tail | exact h.tail.tail.tail.tail.tail.tail.tail.tail.tail.tail.tail.tail | exact h.tail.tail.tail.tail.tail.tail.tail.tail.tail.tail.tail.tail.tail)⟩
theorem grow_Sheet (w0 : Base) (η H : Heap) (va : Value) (ss : List Strip) (hs : ∀ s ∈ ss, s.ok 102 49 sheetK ∧ s.xs = marks s.n s.mark) (ha : Frag 188 51 va ss.length (arrOf ss) H) :
    CallsT Tryz.prog 55 [va] (St w0 (H ++ (heapOf ss ++ η))) fun _ A' => ∃ ss' H', ss'.length = ss.length ∧ (∀ s ∈ ss', s.grown (St w0 (heapOf ss')) 49 sheetK) ∧ Frag 188 51 va ss'.length (arrOf ss') H' ∧ A' = St w0 (H' ++ (heapOf ss' ++ η)) := by
  have hml : ∀ s ∈ ss, s.mark.length = 49 := fun s h => (hs s h).1.mints.length
  have hF := ha
  obtain ⟨ada, ca, rfl, ⟨hca, hca2⟩, hblk⟩ := ha.slice
  have hal := ha.1
  refine CallsT.body Tryz.func55 rfl rfl ?_
  simp only [Tryz.ntmps55, slotsOf, Nat.reduceAdd]
  refine TC_seq ?_
  refine TC_reg ?_
  refine TL_q rfl rfl (QT_assign rfl rfl rfl) ?_
  refine TL_nil ?_
  refine TX_then ?_
  refine TC_block ?_
  refine TC_loop (γ := {d : List Strip // d.length ≤ ss.length ∧ ∀ s ∈ d, s.grown (St w0 s.H) 49 sheetK}) (fun t => [(0, true, .slice ada ss.length ca), (2, true, .int .i64 (t.1.length : Int))]) (fun t => St w0 (reH (arrOf ss).length (arrOf (t.1 ++ ss.drop t.1.length)) H ++ (heapOf t.1 ++ (heapOf (ss.drop t.1.length) ++ η)))) (fun t => ss.length - t.1.length) ⟨[], by simp, by simp⟩ ⟨rfl, rfl, trivial⟩ (fun _ h => by simpa [heapOf_nil, hF.re_self] using h) ?_
  rintro ⟨d, hi, hd⟩
  dsimp only
  refine TC_seq ?_
  refine TC_seq ?_
  refine TC_reg ?_
  refine TL_q rfl rfl (QT_move rfl rfl rfl) ?_
  refine TL_q rfl rfl (QT_move rfl rfl rfl) ?_
  refine TL_q rfl rfl (QT_len rfl rfl Tryz.underlying43 rfl) ?_
  refine TL_q rfl rfl (QT_lss rfl rfl rfl rfl) ?_
  refine TL_nil ?_
  refine TX_then ?_
  refine TC_cond_dec rfl (fun h7 => ?_) (fun h7 => ?_)
  ·
    refine TC_skip ?_
    refine TX_then ?_
    refine TC_seq ?_
    refine TC_block ?_
    refine TC_seq ?_
    have hin : d.length < ss.length := by omega
    have hmd : ∀ s ∈ d, s.mark.length = 49 := fun s h => (hd s h).mints.length
    obtain ⟨ba, rest, rfl, rfl⟩ := hblk (by omega)
    obtain ⟨s, hsi⟩ : ∃ s, ss[d.length]? = some s := ⟨_, List.getElem?_eq_getElem hin⟩
    have hdrop : ss.drop d.length = s :: ss.drop (d.length + 1) := by
      rw [List.drop_eq_getElem_cons hin]
      congr 1
      exact (List.getElem?_eq_some_iff.1 hsi).2
    obtain ⟨hok, hxs⟩ := hs s (List.mem_of_getElem? hsi)
    have hmls := hml s (List.mem_of_getElem? hsi)
    have hmt : ∀ s ∈ ss.drop (d.length + 1), s.mark.length = 49 := fun s h => hml s (List.mem_of_mem_drop h)
    have hI := LongInv.start (w0 := w0) hok hxs
    have hmi := hok.mints
    have hfew := hok.few
    obtain ⟨sad, scap, hsv, hscap, hsb⟩ := hok.frag.slice
    obtain ⟨sv, sn, sxs, slong, smk, sH⟩ := s
    dsimp only at hI hmi hfew hmls hsv hscap hsb
    subst hsv
    have hall : ∀ lv : Value, ∀ s' ∈ (d ++ (⟨.slice sad sn scap, sn, sxs, lv, smk, sH⟩ : Strip) :: ss.drop (d.length + 1)), s'.mark.length = 49 := fun lv s' h => by
      rcases List.mem_append.1 h with h | h
      · exact hmd s' h
      · rcases List.mem_cons.1 h with rfl | h
        · exact hmls
        · exact hmt s' h
    have hlens : ∀ lv : Value, (arrOf (d ++ (⟨.slice sad sn scap, sn, sxs, lv, smk, sH⟩ : Strip) :: ss.drop (d.length + 1))).length = ss.length * 51 := fun lv => by
      rw [arrOf_len (hall lv), List.length_append, List.length_cons, List.length_drop]
      congr 1; omega
    have hat : ∀ lv : Value, (arrOf (d ++ (⟨.slice sad sn scap, sn, sxs, lv, smk, sH⟩ : Strip) :: ss.drop (d.length + 1)))[d.length * (49 + 2)]? = some (.slice sad sn scap) ∧ (arrOf (d ++ (⟨.slice sad sn scap, sn, sxs, lv, smk, sH⟩ : Strip) :: ss.drop (d.length + 1)))[d.length * (49 + 2) + 1]? = some lv ∧ ((arrOf (d ++ (⟨.slice sad sn scap, sn, sxs, lv, smk, sH⟩ : Strip) :: ss.drop (d.length + 1))).drop (d.length * (49 + 2) + 2)).take 49 = smk ∧ d.length * (49 + 2) + 2 + 49 ≤ (arrOf (d ++ (⟨.slice sad sn scap, sn, sxs, lv, smk, sH⟩ : Strip) :: ss.drop (d.length + 1))).length := fun lv => arrOf_at (hall lv) (i := d.length) (s := ⟨_, sn, sxs, lv, smk, sH⟩) (by simp)
    have hset : ∀ lv r : Value, setAt (arrOf (d ++ (⟨.slice sad sn scap, sn, sxs, lv, smk, sH⟩ : Strip) :: ss.drop (d.length + 1)) ++ rest) (d.length * (49 + 2) + 1) [r] = arrOf (d ++ (⟨.slice sad sn scap, sn, sxs, r, smk, sH⟩ : Strip) :: ss.drop (d.length + 1)) ++ rest := fun lv r => arrOf_set hmd rest
    have hin2 : (d.length + 1) * 51 ≤ ss.length * 51 := Nat.mul_le_mul_right _ (by omega)
    rw [hdrop]
    refine TC_A (St w0 ((ba, 188, arrOf (d ++ (⟨.slice sad sn scap, sn, sxs, slong, smk, sH⟩ : Strip) :: ss.drop (d.length + 1)) ++ rest) :: (sH ++ ([] ++ (heapOf d ++ (heapOf (ss.drop (d.length + 1)) ++ η)))))) (fun w h => by
      simp only [reH, List.map_cons, List.map_nil, List.drop_left, heapOf_cons] at h
      exact h.cnt fun p => by simp only [List.countP_append, List.countP_cons, List.countP_nil]; omega) ?_
    have hrA : ∀ (X : Heap) (lv : Value), Rd (St w0 ((ba, 188, arrOf (d ++ (⟨.slice sad sn scap, sn, sxs, lv, smk, sH⟩ : Strip) :: ss.drop (d.length + 1)) ++ rest) :: X)) ba 0 (arrOf (d ++ (⟨.slice sad sn scap, sn, sxs, lv, smk, sH⟩ : Strip) :: ss.drop (d.length + 1))) := fun X lv => Rd.ownA (List.mem_cons_self ..) 0 (by simp)
    refine TC_reg ?_
    refine TL_q rfl rfl (QT_move rfl rfl rfl) ?_
    refine TL_q rfl rfl (QT_move rfl rfl rfl) ?_
    refine TL_q rfl rfl (QT_move rfl rfl rfl) ?_
    refine TL_q rfl rfl (QT_move rfl rfl rfl) ?_
    refine TL_q rfl rfl (QT_indexSlice (d.length) rfl rfl Tryz.underlying43 YtjdaglmkljbfkaaGreatDoorF.sz_188 rfl rfl (rfl) (fun _ => hin)) ?_
    refine TL_q rfl rfl (QT_field rfl rfl YtjdaglmkljbfkaaGreatDoorF.fld_188_0 rfl) ?_
    refine TL_q rfl rfl (QT_loadRj (d.length * 51) rfl rfl Tryz.underlying32 rfl (hrA _ slong) rfl (fun _ => (hat slong).1)) ?_
    refine TL_q rfl rfl (QT_indexSlice (d.length) rfl rfl Tryz.underlying43 YtjdaglmkljbfkaaGreatDoorF.sz_188 rfl rfl (rfl) (fun _ => hin)) ?_
    refine TL_q rfl rfl (QT_field rfl rfl YtjdaglmkljbfkaaGreatDoorF.fld_188_1 rfl) ?_
    refine TL_e0 rfl rfl (rfl) (ET_store (vs := [.slice sad sn scap]) 0 rfl rfl rfl rfl YtjdaglmkljbfkaaGreatDoorF.sz_32 rfl rfl (Nat.ble_eq_true_of_le (by have := hlens slong; simp only [List.length_append, List.length_cons, List.length_nil]; omega))) ?_
    rintro _ _ ⟨rfl, rfl⟩
    refine TL_nil ?_
    refine TX_then ?_
    refine TC_seq ?_
    refine TC_A (St w0 ((ba, 188, arrOf (d ++ (⟨.slice sad sn scap, sn, sxs, (.slice sad sn scap), smk, sH⟩ : Strip) :: ss.drop (d.length + 1)) ++ rest) :: (sH ++ ([] ++ (heapOf d ++ (heapOf (ss.drop (d.length + 1)) ++ η)))))) (fun w h => by
      simp only [upd, Nat.zero_add] at h
      rw [hset slong] at h
      exact h) ?_
    refine TC_reg ?_
    refine TL_q rfl rfl (QT_assign rfl rfl rfl) ?_
    refine TL_nil ?_
    refine TX_then ?_
    refine TC_block ?_
    refine TC_loop (γ := {t : Nat × Value × Heap × Heap // t.1 ≤ 24 ∧ LongInv w0 102 49 (.slice sad sn scap) sn smk t.2.1 (sn + t.1) t.2.2.1 t.2.2.2}) (fun t => [(0, true, .slice (some ⟨ba, 0, none⟩) ss.length ca), (2, true, .int .i64 (d.length : Int)), (3, true, .int .i64 (t.1.1 : Int))]) (fun t => St w0 ((ba, 188, arrOf (d ++ (⟨.slice sad sn scap, sn, sxs, t.1.2.1, smk, sH⟩ : Strip) :: ss.drop (d.length + 1)) ++ rest) :: (t.1.2.2.1 ++ (t.1.2.2.2 ++ (heapOf d ++ (heapOf (ss.drop (d.length + 1)) ++ η)))))) (fun t => 24 - t.1.1) ⟨(0, .slice sad sn scap, sH, []), by dsimp only; omega, hI⟩ ⟨rfl, rfl, rfl, trivial⟩ (fun _ h => h) ?_
    rintro ⟨⟨k, lv, HL, KK⟩, hk, hL⟩
    dsimp only at hk hL ⊢
    refine TC_seq ?_
    refine TC_seq ?_
    refine TC_reg ?_
    refine TL_q rfl rfl (QT_move rfl rfl rfl) ?_
    refine TL_q rfl rfl (QT_lss rfl rfl rfl rfl) ?_
    refine TL_nil ?_
    refine TX_then ?_
    refine TC_cond_dec rfl (fun h20 => ?_) (fun h20 => ?_)
    ·
      refine TC_skip ?_
      refine TX_then ?_
      refine TC_seq ?_
      refine TC_block ?_
      have hk24 : k < 24 := by omega
      refine TC_draw [(0, 0), (1, 0), (2, 0), (3, 0), (4, 0), (5, 0), (6, 0), (7, 0), (8, 0), (9, 0), (10, 0), (11, 0), (12, 1), (13, 1), (14, 0), (15, 0), (16, 1)] YtjdaglmkljbfkaaGreatDoorF.mixed (by kernel_rfl) (St.calm _ _) ?_
      refine TV_q rfl rfl rfl (fun _ => QT_move rfl rfl rfl) ?_
      refine TV_q rfl rfl rfl (fun _ => QT_move rfl rfl rfl) ?_
      refine TV_q rfl rfl rfl (fun _ => QT_move rfl rfl rfl) ?_
      refine TV_q rfl rfl rfl (fun _ => QT_move rfl rfl rfl) ?_
      refine TV_q rfl rfl rfl (fun _ => QT_indexSlice (d.length) rfl rfl Tryz.underlying43 YtjdaglmkljbfkaaGreatDoorF.sz_188 rfl rfl (rfl) (fun _ => hin)) ?_
      refine TV_q rfl rfl rfl (fun _ => QT_field rfl rfl YtjdaglmkljbfkaaGreatDoorF.fld_188_1 rfl) ?_
      refine TV_ql rfl rfl rfl (QT_loadRj (d.length * 51 + 1) rfl rfl Tryz.underlying32 rfl ((hrA [] lv).mono fun _ h => h.cnt fun p => by simp only [List.countP_append, List.countP_cons, List.countP_nil]; omega) rfl (fun _ => (hat lv).2.1)) ?_
      refine TV_q rfl rfl rfl (fun _ => QT_move rfl rfl rfl) ?_
      refine TV_q rfl rfl rfl (fun _ => QT_move rfl rfl rfl) ?_
      refine TV_q rfl rfl rfl (fun _ => QT_indexSlice (d.length) rfl rfl Tryz.underlying43 YtjdaglmkljbfkaaGreatDoorF.sz_188 rfl rfl (rfl) (fun _ => hin)) ?_
      refine TV_q rfl rfl rfl (fun _ => QT_field rfl rfl YtjdaglmkljbfkaaGreatDoorF.fld_188_2 rfl) ?_
      refine TV_ql rfl rfl rfl (QT_loadRAj (d.length * 51 + 2) rfl rfl Tryz.underlying102 rfl YtjdaglmkljbfkaaGreatDoorF.sz_102 ((hrA [] lv).mono fun _ h => h.cnt fun p => by simp only [List.countP_append, List.countP_cons, List.countP_nil]; omega) rfl (fun _ => (hat lv).2.2.2) (fun _ => (hat lv).2.2.1)) ?_
      refine TV_e rfl rfl rfl rfl (rfl) (ET_buildN [_] rfl Tryz.underlying32 YtjdaglmkljbfkaaGreatDoorF.sz_102 YtjdaglmkljbfkaaGreatDoorF.zero_102 rfl rfl rfl (by simp [Value.cells, hmls])) ?_
      rintro _ _ ⟨b35, rfl, rfl⟩
      refine ⟨_, .drop (by kernel_rfl) (.keep (by kernel_rfl) rfl (by first | exact QT_loadRj (d.length * 51 + 1) rfl rfl Tryz.underlying32 rfl ((hrA [] lv).mono fun _ h => h.cnt fun p => by simp only [List.countP_append, List.countP_cons, List.countP_nil]; omega) rfl (fun _ => (hat lv).2.1)) (.nil)), ?_⟩
      refine TV_e rfl rfl rfl rfl (rfl) (ET_long (L := [_, _]) rfl Tryz.underlying32 el_Sheet rfl rfl hL hmls (fun _ h => h) (SlA.own (n := 1) (xs := smk) 0 rfl (by rw [List.drop_zero, List.take_of_length_le (by simp [Value.cells, hmls])]; simp [Value.cells]) (by simp [Value.cells, hmls]) (by omega)) hmi.oneCell (few_b hfew hk24 (by decide)) (few_l hfew hk24)) ?_
      rintro lv2 _ ⟨H', K', hL', rfl⟩
      refine ⟨_, .drop (by kernel_rfl) (.nil), ?_⟩
      obtain ⟨ad2, cap2, rfl, _⟩ := hL'.frag.slice
      refine TV_q rfl rfl rfl (fun _ => QT_indexSlice (d.length) rfl rfl Tryz.underlying43 YtjdaglmkljbfkaaGreatDoorF.sz_188 rfl rfl (rfl) (fun _ => hin)) ?_
      refine TV_q rfl rfl rfl (fun _ => QT_field rfl rfl YtjdaglmkljbfkaaGreatDoorF.fld_188_1 rfl) ?_
      refine TV_e0 rfl rfl rfl (rfl) (ET_store (vs := [.slice ad2 (sn + k + 1) cap2]) 1 rfl rfl rfl rfl YtjdaglmkljbfkaaGreatDoorF.sz_32 rfl rfl (Nat.ble_eq_true_of_le (by have := hlens lv; simp only [List.length_append, List.length_cons, List.length_nil]; omega))) ?_
      rintro _ _ ⟨rfl, rfl⟩
      refine ⟨_, .nil, ?_⟩
      refine TV_end ?_
      refine TX_block_normal ?_
      refine TX_then ?_
      refine TC_reg ?_
      refine TL_q rfl rfl (QT_move rfl rfl rfl) ?_
      refine TL_q rfl rfl (QT_add rfl rfl rfl rfl (fun _ => ⟨by omega, by omega⟩)) ?_
      refine TL_q rfl rfl (QT_assign rfl rfl rfl) ?_
      refine TL_nil ?_
      refine TX_round ⟨(k + 1, .slice ad2 (sn + k + 1) cap2, H', K'), by dsimp only; omega, hL'⟩ (by dsimp only; omega) ⟨rfl, rfl, slotI rfl (by dsimp only; omega), trivial⟩ (fun w h => ?_)
      simp only [upd, Nat.zero_add] at h
      rw [hset lv] at h
      exact h.tail
    ·
      refine TC_exit ?_
      refine TX_then_exit ?_
      refine TX_then_exit ?_
      refine TX_block_here ?_
      refine TX_block_normal ?_
      refine TX_then ?_
      refine TC_reg ?_
      refine TL_q rfl rfl (QT_move rfl rfl rfl) ?_
      refine TL_q rfl rfl (QT_add rfl rfl rfl rfl (fun _ => ⟨by omega, by omega⟩)) ?_
      refine TL_q rfl rfl (QT_assign rfl rfl rfl) ?_
      refine TL_nil ?_
      obtain rfl : k = 24 := by omega
      have hg := LongInv.grown (s := ⟨.slice sad sn scap, sn, sxs, lv, smk, sH⟩) hL hmi rfl hfew
      refine TX_round ⟨d ++ [⟨.slice sad sn scap, sn, sxs, lv, smk, HL ++ KK⟩], by simp; omega, fun s h => ?_⟩ (by simp only [List.length_append, List.length_cons, List.length_nil]; omega) ⟨rfl, slotI rfl (by simp), trivial⟩ (fun w h => ?_)
      · rcases List.mem_append.1 h with h | h
        · exact hd s h
        · obtain rfl := List.mem_singleton.1 h
          exact hg
      · have e : arrOf ((d ++ [(⟨.slice sad sn scap, sn, sxs, lv, smk, HL ++ KK⟩ : Strip)]) ++ ss.drop (d.length + 1)) = arrOf (d ++ (⟨.slice sad sn scap, sn, sxs, lv, smk, sH⟩ : Strip) :: ss.drop (d.length + 1)) := by
          simp [arrOf, Strip.cells]
        simp only [List.length_append, List.length_cons, List.length_nil, Nat.zero_add, e, heapOf_append, heapOf_cons, heapOf_nil, reH, List.map_cons, List.map_nil, List.drop_left]
        exact h.cnt fun p => by simp only [List.countP_append, List.countP_cons, List.countP_nil]; omega
  ·
    refine TC_exit ?_
    refine TX_then_exit ?_
    refine TX_then_exit ?_
    refine TX_block_here ?_
    refine TX_ret (.inr rfl) (res0 rfl) ⟨_, ⟨d, reH (arrOf ss).length (arrOf d) H, by omega, fun s h => (hd s h).mono fun _ hw => hw.cnt (heapOf_mem h), ?_, rfl⟩, fun w h => ?_⟩
    · have hdl : d.length = ss.length := by omega
      rw [hdl]
      exact hF.re (by rw [arrOf_len (Z := 49) (fun s h => (hd s h).mints.length), arrOf_len hml, hdl])
    · have hdl : ss.drop d.length = [] := List.drop_eq_nil_of_le (by omega)
      rw [hdl, List.append_nil, heapOf_nil] at h
      simpa using h
theorem fill_Patch (w0 : Base) (η : Heap) (va : Value) (ss : List Strip) (hs : ∀ s ∈ ss, s.ok 112 48 patchK) (ha : SlA (St w0 η) va 50 ss.length (arrOf ss)) :
    CallsT Tryz.prog 43 [va] (St w0 (heapOf ss ++ η)) fun _ A' => A' = St w0 (heapOf (ss.map (fillS 48)) ++ η) := by
  have hml : ∀ s ∈ ss, s.mark.length = 48 := fun s h => (hs s h).mints.length
  obtain ⟨hal, ada, ca, rfl, ⟨hca, hca2⟩, hra⟩ := ha
  refine CallsT.body Tryz.func43 rfl rfl ?_
  simp only [Tryz.ntmps43, slotsOf, Nat.reduceAdd]
  refine TC_seq ?_
  refine TC_reg ?_
  refine TL_q rfl rfl (QT_assign rfl rfl rfl) ?_
  refine TL_nil ?_
  refine TX_then ?_
  refine TC_block ?_
  refine TC_loop (γ := {i : Nat // i ≤ ss.length}) (fun t => [(0, true, .slice ada ss.length ca), (2, true, .int .i64 (t.1 : Int))]) (fun t => St w0 (heapOf ((ss.take t.1).map (fillS 48)) ++ (heapOf (ss.drop t.1) ++ η))) (fun t => ss.length - t.1) ⟨0, by omega⟩ ⟨rfl, rfl, trivial⟩ (fun _ h => by simpa [heapOf] using h) ?_
  rintro ⟨i, hi⟩
  dsimp only
  refine TC_seq ?_
  refine TC_seq ?_
  refine TC_reg ?_
  refine TL_q rfl rfl (QT_move rfl rfl rfl) ?_
  refine TL_q rfl rfl (QT_move rfl rfl rfl) ?_
  refine TL_q rfl rfl (QT_len rfl rfl Tryz.underlying44 rfl) ?_
  refine TL_q rfl rfl (QT_lss rfl rfl rfl rfl) ?_
  refine TL_nil ?_
  refine TX_then ?_
  refine TC_cond_dec rfl (fun h7 => ?_) (fun h7 => ?_)
  ·
    refine TC_skip ?_
    refine TX_then ?_
    refine TC_seq ?_
    refine TC_block ?_
    refine TC_seq ?_
    have hin : i < ss.length := by omega
    obtain ⟨ba, oa, rfl, hrA⟩ := hra.resolve_left (by omega)
    obtain ⟨s, hsi⟩ : ∃ s, ss[i]? = some s := ⟨_, List.getElem?_eq_getElem hin⟩
    obtain ⟨hat1, hat2, hat3, hat4⟩ := arrOf_at hml hsi
    have hdrop : ss.drop i = s :: ss.drop (i + 1) := by
      rw [List.drop_eq_getElem_cons hin]
      congr 1
      exact (List.getElem?_eq_some_iff.1 hsi).2
    have htake : (ss.take (i + 1)).map (fillS 48) = (ss.take i).map (fillS 48) ++ [fillS 48 s] := by
      rw [List.take_add_one, hsi]; simp
    have hok := hs s (List.mem_of_getElem? hsi)
    have hmls := hml s (List.mem_of_getElem? hsi)
    rw [hdrop, heapOf_cons]
    obtain ⟨sv, sn, sxs, slong, smk, sH⟩ := s
    obtain ⟨⟨hfl, hfr⟩, hmk, hfew⟩ := hok
    dsimp only at hfl hfr hmk hfew hmls hat1 hat2 hat3 hat4
    have hsv : ∃ sad scap, sv = .slice sad sn scap := by
      rcases hfr with ⟨rfl, rfl, _⟩ | ⟨b, cap, rest, rfl, _⟩
      · exact ⟨_, _, rfl⟩
      · exact ⟨_, _, rfl⟩
    obtain ⟨sad, scap, rfl⟩ := hsv
    refine TC_reg ?_
    refine TL_q rfl rfl (QT_assign rfl rfl rfl) ?_
    refine TL_nil ?_
    refine TX_then ?_
    refine TC_block ?_
    refine TC_loop (γ := {k : Nat // k ≤ sn}) (fun t => [(0, true, .slice (some ⟨ba, oa, none⟩) ss.length ca), (2, true, .int .i64 (i : Int)), (3, true, .int .i64 (t.1 : Int))]) (fun t => St w0 (fillH 48 t.1 smk sH ++ (heapOf ((ss.take i).map (fillS 48)) ++ (heapOf (ss.drop (i + 1)) ++ η)))) (fun t => sn - t.1) ⟨0, by omega⟩ ⟨rfl, rfl, rfl, trivial⟩ (fun _ h => h.cnt (fun p => by simp only [fillH_zero, List.countP_append]; omega)) ?_
    rintro ⟨k, hk⟩
    dsimp only
    refine TC_seq ?_
    refine TC_seq ?_
    refine TC_reg ?_
    refine TL_q rfl rfl (QT_move rfl rfl rfl) ?_
    refine TL_q rfl rfl (QT_move rfl rfl rfl) ?_
    refine TL_q rfl rfl (QT_move rfl rfl rfl) ?_
    refine TL_q rfl rfl (QT_indexSlice (i) rfl rfl Tryz.underlying44 YtjdaglmkljbfkaaGreatDoorF.sz_162 rfl rfl (rfl) (fun _ => hin)) ?_
    refine TL_q rfl rfl (QT_field rfl rfl YtjdaglmkljbfkaaGreatDoorF.fld_162_0 rfl) ?_
    refine TL_q rfl rfl (QT_loadRj (i * 50) rfl rfl Tryz.underlying62 rfl (hrA.mono fun _ h => h.cnt fun p => by simp only [List.countP_append]; omega) rfl (fun _ => hat1)) ?_
    refine TL_q rfl rfl (QT_len rfl rfl Tryz.underlying62 rfl) ?_
    refine TL_q rfl rfl (QT_lss rfl rfl rfl rfl) ?_
    refine TL_nil ?_
    refine TX_then ?_
    refine TC_cond_dec rfl (fun h17 => ?_) (fun h17 => ?_)
    ·
      refine TC_skip ?_
      refine TX_then ?_
      refine TC_seq ?_
      refine TC_block ?_
      have hkn : k < sn := by omega
      have hszm : Sz Tryz.prog 112 smk.length := by rw [hmls]; exact YtjdaglmkljbfkaaGreatDoorF.sz_112
      have hkz : (k + 1) * 48 ≤ sn * 48 := Nat.mul_le_mul_right _ (by omega)
      obtain ⟨b, cap, rest, hv, hcap, hlen, rfl⟩ : ∃ b cap rest, Value.slice sad sn scap = .slice (some ⟨b, 0, none⟩) sn cap ∧ (sn ≤ cap ∧ cap ≤ 9223372036854775807) ∧ cap * 48 ≤ (sxs ++ rest).length ∧ sH = [(b, 112, sxs ++ rest)] := by
        rcases hfr with ⟨_, h0, _⟩ | h
        · omega
        · exact h
      simp only [Value.slice.injEq, true_and] at hv
      obtain ⟨rfl, rfl⟩ := hv
      have hcz : sn * 48 ≤ scap * 48 := Nat.mul_le_mul_right _ (by omega)
      refine TC_draw [(0, 0), (1, 0), (2, 0), (3, 0), (4, 0), (5, 0), (6, 0), (7, 0), (8, 0), (9, 0), (10, 0), (11, 0), (12, 1)] YtjdaglmkljbfkaaGreatDoorF.mixed (by kernel_rfl) (St.calm _ _) ?_
      refine TV_q rfl rfl rfl (fun _ => QT_move rfl rfl rfl) ?_
      refine TV_q rfl rfl rfl (fun _ => QT_move rfl rfl rfl) ?_
      refine TV_q rfl rfl rfl (fun _ => QT_indexSlice (i) rfl rfl Tryz.underlying44 YtjdaglmkljbfkaaGreatDoorF.sz_162 rfl rfl (rfl) (fun _ => hin)) ?_
      refine TV_q rfl rfl rfl (fun _ => QT_field rfl rfl YtjdaglmkljbfkaaGreatDoorF.fld_162_0 rfl) ?_
      refine TV_ql rfl rfl rfl (QT_loadRj (i * 50) rfl rfl Tryz.underlying62 rfl (hrA.mono fun _ h => h.cnt fun p => by simp only [List.countP_append]; omega) rfl (fun _ => hat1)) ?_
      refine TV_q rfl rfl rfl (fun _ => QT_move rfl rfl rfl) ?_
      refine TV_q rfl rfl rfl (fun _ => QT_move rfl rfl rfl) ?_
      refine TV_q rfl rfl rfl (fun _ => QT_move rfl rfl rfl) ?_
      refine TV_q rfl rfl rfl (fun _ => QT_indexSlice (i) rfl rfl Tryz.underlying44 YtjdaglmkljbfkaaGreatDoorF.sz_162 rfl rfl (rfl) (fun _ => hin)) ?_
      refine TV_q rfl rfl rfl (fun _ => QT_field rfl rfl YtjdaglmkljbfkaaGreatDoorF.fld_162_2 rfl) ?_
      refine TV_ql rfl rfl rfl (QT_loadRAj (i * 50 + 2) rfl rfl Tryz.underlying112 rfl YtjdaglmkljbfkaaGreatDoorF.sz_112 (hrA.mono fun _ h => h.cnt fun p => by simp only [List.countP_append]; omega) rfl (fun _ => hat4) (fun _ => hat3)) ?_
      refine TV_q rfl rfl rfl (fun _ => QT_indexSlice (k) rfl rfl Tryz.underlying62 YtjdaglmkljbfkaaGreatDoorF.sz_112 rfl rfl (rfl) (fun _ => hkn)) ?_
      refine TV_e0 rfl rfl rfl (rfl) (ET_store (vs := smk) 0 rfl rfl rfl rfl hszm rfl (by rw [List.all_eq_true]; exact hmk.oneCell) (Nat.ble_eq_true_of_le (by simp only [List.length_append, List.length_drop, marks_len hmls]; omega))) ?_
      rintro _ _ ⟨rfl, rfl⟩
      refine ⟨_, .drop (by kernel_rfl) (.drop (by kernel_rfl) (.nil)), ?_⟩
      refine TV_end ?_
      refine TX_block_normal ?_
      refine TX_then ?_
      skip
      refine TC_reg ?_
      refine TL_q rfl rfl (QT_move rfl rfl rfl) ?_
      refine TL_q rfl rfl (QT_add rfl rfl rfl rfl (fun _ => ⟨by omega, by omega⟩)) ?_
      refine TL_q rfl rfl (QT_assign rfl rfl rfl) ?_
      refine TL_nil ?_
      refine TX_round ⟨k + 1, by omega⟩ (by dsimp only; omega) ⟨rfl, rfl, slotI rfl (by dsimp only; omega), trivial⟩ (fun w h => ?_)
      simp only [fillH, List.map_cons, List.map_nil, List.singleton_append, List.cons_append, List.nil_append, upd, Nat.zero_add] at h ⊢
      rw [fill_step hmls (by omega)] at h
      exact h
    ·
      refine TC_exit ?_
      refine TX_then_exit ?_
      refine TX_then_exit ?_
      refine TX_block_here ?_
      refine TX_block_normal ?_
      refine TX_then ?_
      refine TC_reg ?_
      refine TL_q rfl rfl (QT_move rfl rfl rfl) ?_
      refine TL_q rfl rfl (QT_add rfl rfl rfl rfl (fun _ => ⟨by omega, by omega⟩)) ?_
      refine TL_q rfl rfl (QT_assign rfl rfl rfl) ?_
      refine TL_nil ?_
      refine TX_round ⟨i + 1, by omega⟩ (by dsimp only; omega) ⟨rfl, slotI rfl (by dsimp only; omega), trivial⟩ (fun w h => h.cnt fun p => ?_)
      obtain rfl : k = sn := by omega
      rw [htake, heapOf_append, heapOf_cons, heapOf_nil]
      simp only [fillS, List.countP_append, List.countP_nil]; omega
  ·
    refine TC_exit ?_
    refine TX_then_exit ?_
    refine TX_then_exit ?_
    refine TX_block_here ?_
    refine TX_ret (.inr rfl) (res0 rfl) ⟨_, rfl, fun w h => ?_⟩
    obtain rfl : i = ss.length := by omega
    simpa [heapOf] using h
theorem marked_Patch (w0 : Base) (η : Heap) (va : Value) (ss : List Strip) (hs : ∀ s ∈ ss, s.grown (St w0 η) 48 patchK) (ha : SlA (St w0 η) va 50 ss.length (arrOf ss)) :
    CallsT Tryz.prog 69 [va] (St w0 η) fun v A' => v = .bool true ∧ A' = St w0 η := by
  have hml : ∀ s ∈ ss, s.mark.length = 48 := fun s h => (hs s h).mints.length
  obtain ⟨hal, ada, ca, rfl, ⟨hca, hca2⟩, hra⟩ := ha
  refine CallsT.body Tryz.func69 rfl rfl ?_
  simp only [Tryz.ntmps69, slotsOf, Nat.reduceAdd]
  refine TC_seq ?_
  refine TC_reg ?_
  refine TL_q rfl rfl (QT_assign rfl rfl rfl) ?_
  refine TL_nil ?_
  refine TX_then ?_
  refine TC_seq ?_
  refine TC_seq ?_
  refine TC_reg ?_
  refine TL_q rfl rfl (QT_assign rfl rfl rfl) ?_
  refine TL_nil ?_
  refine TX_then ?_
  refine TC_block ?_
  refine TC_loop (γ := {i : Nat // i ≤ ss.length}) (fun t => [(0, true, .slice ada ss.length ca), (3, true, .int .i64 (t.1 : Int))]) (fun t => St w0 η) (fun t => ss.length - t.1) ⟨0, by omega⟩ ⟨rfl, rfl, trivial⟩ (fun _ h => h) ?_
  rintro ⟨i, hi⟩
  dsimp only
  refine TC_seq ?_
  refine TC_seq ?_
  refine TC_reg ?_
  refine TL_q rfl rfl (QT_move rfl rfl rfl) ?_
  refine TL_q rfl rfl (QT_move rfl rfl rfl) ?_
  refine TL_q rfl rfl (QT_len rfl rfl Tryz.underlying44 rfl) ?_
  refine TL_q rfl rfl (QT_lss rfl rfl rfl rfl) ?_
  refine TL_nil ?_
  refine TX_then ?_
  refine TC_cond_dec rfl (fun h8 => ?_) (fun h8 => ?_)
  ·
    refine TC_skip ?_
    refine TX_then ?_
    refine TC_seq ?_
    refine TC_block ?_
    refine TC_seq ?_
    have hin : i < ss.length := by omega
    obtain ⟨ba, oa, rfl, hrA⟩ := hra.resolve_left (by omega)
    obtain ⟨s, hsi⟩ : ∃ s, ss[i]? = some s := ⟨_, List.getElem?_eq_getElem hin⟩
    obtain ⟨hat1, hat2, hat3, hat4⟩ := arrOf_at hml hsi
    have hok := hs s (List.mem_of_getElem? hsi)
    have hmls := hml s (List.mem_of_getElem? hsi)
    obtain ⟨sv, sn, sxs, slong, smk, sH⟩ := s
    obtain ⟨hl, hlong, hmk, hfew⟩ := hok
    dsimp only at hl hlong hmk hfew hmls hat1 hat2 hat3 hat4
    obtain ⟨hll, lad, lcap, lb, loff, rfl, hlc, hlad, hlr⟩ := hl.some
    obtain ⟨hgl, gad, gcap, gb, goff, rfl, hgc, hgad, hgr⟩ := hlong.some
    obtain rfl := hgad (by omega)
    have hself : eqC smk smk = true := eqC_refl hmk
    refine TC_reg ?_
    refine TL_q rfl rfl (QT_assign rfl rfl rfl) ?_
    refine TL_nil ?_
    refine TX_then ?_
    refine TC_block ?_
    refine TC_loop (γ := {k : Nat // k ≤ sn + 24}) (fun t => [(0, true, .slice (some ⟨ba, oa, none⟩) ss.length ca), (3, true, .int .i64 (i : Int)), (4, true, .int .i64 (t.1 : Int))]) (fun t => St w0 η) (fun t => sn + 24 - t.1) ⟨0, by omega⟩ ⟨rfl, rfl, rfl, trivial⟩ (fun _ h => h) ?_
    rintro ⟨k, hk⟩
    dsimp only
    refine TC_seq ?_
    refine TC_seq ?_
    refine TC_reg ?_
    refine TL_q rfl rfl (QT_move rfl rfl rfl) ?_
    refine TL_q rfl rfl (QT_move rfl rfl rfl) ?_
    refine TL_q rfl rfl (QT_move rfl rfl rfl) ?_
    refine TL_q rfl rfl (QT_indexSlice (i) rfl rfl Tryz.underlying44 YtjdaglmkljbfkaaGreatDoorF.sz_162 rfl rfl (rfl) (fun _ => hin)) ?_
    refine TL_q rfl rfl (QT_field rfl rfl YtjdaglmkljbfkaaGreatDoorF.fld_162_1 rfl) ?_
    refine TL_q rfl rfl (QT_loadRj (i * 50 + 1) rfl rfl Tryz.underlying62 rfl hrA rfl (fun _ => hat2)) ?_
    refine TL_q rfl rfl (QT_len rfl rfl Tryz.underlying62 rfl) ?_
    refine TL_q rfl rfl (QT_lss rfl rfl rfl rfl) ?_
    refine TL_nil ?_
    refine TX_then ?_
    refine TC_cond_dec rfl (fun h18 => ?_) (fun h18 => ?_)
    ·
      refine TC_skip ?_
      refine TX_then ?_
      refine TC_seq ?_
      refine TC_block ?_
      refine TC_seq ?_
      have hkn : k < sn + 24 := by omega
      have hz1 : k * 48 + 48 ≤ (marks (sn + 24) smk).length := by
        rw [marks_len hmls]
        have : (k + 1) * 48 ≤ (sn + 24) * 48 := Nat.mul_le_mul_right _ (by omega)
        rw [Nat.add_mul] at this; omega
      have hz2 : (true && !decide ((k : Int) < (sn : Int))) = true ∨ k * 48 + 48 ≤ (marks sn smk).length := by
        by_cases h : k < sn
        · refine .inr ?_
          rw [marks_len hmls]
          have : (k + 1) * 48 ≤ sn * 48 := Nat.mul_le_mul_right _ (by omega)
          rw [Nat.add_mul] at this; omega
        · refine .inl ?_
          simpa using h
      refine TC_draw [(0, 0), (1, 0), (2, 0), (3, 0), (4, 0), (5, 0), (6, 0), (7, 0), (8, 0), (9, 0), (10, 0), (11, 0), (12, 0), (13, 0), (14, 0), (15, 0), (16, 0), (17, 0), (18, 0), (19, 0), (20, 0), (21, 0), (22, 0), (23, 0), (24, 0), (25, 0), (26, 0), (27, 0), (28, 0), (29, 0), (30, 0), (31, 0), (32, 0), (33, 0), (34, 0), (35, 0), (36, 0), (37, 0), (38, 0), (39, 0)] YtjdaglmkljbfkaaGreatDoorF.mixed (by kernel_rfl) (St.calm _ _) ?_
      refine TV_q rfl rfl rfl (fun _ => QT_move rfl rfl rfl) ?_
      refine TV_q rfl rfl rfl (fun _ => QT_move rfl rfl rfl) ?_
      refine TV_q rfl rfl rfl (fun _ => QT_indexSlice (i) rfl rfl Tryz.underlying44 YtjdaglmkljbfkaaGreatDoorF.sz_162 rfl rfl (rfl) (fun _ => hin)) ?_
      refine TV_q rfl rfl rfl (fun _ => QT_field rfl rfl YtjdaglmkljbfkaaGreatDoorF.fld_162_1 rfl) ?_
      refine TV_ql rfl rfl rfl (QT_loadRj (i * 50 + 1) rfl rfl Tryz.underlying62 rfl hrA rfl (fun _ => hat2)) ?_
      refine TV_q rfl rfl rfl (fun _ => QT_move rfl rfl rfl) ?_
      refine TV_q rfl rfl rfl (fun _ => QT_indexSlice (k) rfl rfl Tryz.underlying62 YtjdaglmkljbfkaaGreatDoorF.sz_112 rfl rfl (rfl) (fun _ => hkn)) ?_
      refine TV_ql rfl rfl rfl (QT_loadRAj (k * 48) rfl rfl Tryz.underlying112 rfl YtjdaglmkljbfkaaGreatDoorF.sz_112 hgr rfl (fun _ => hz1) (fun _ => elem_marks hmls hkn)) ?_
      refine TV_q rfl rfl rfl (fun _ => QT_move rfl rfl rfl) ?_
      refine TV_q rfl rfl rfl (fun _ => QT_move rfl rfl rfl) ?_
      refine TV_q rfl rfl rfl (fun _ => QT_indexSlice (i) rfl rfl Tryz.underlying44 YtjdaglmkljbfkaaGreatDoorF.sz_162 rfl rfl (rfl) (fun _ => hin)) ?_
      refine TV_q rfl rfl rfl (fun _ => QT_field rfl rfl YtjdaglmkljbfkaaGreatDoorF.fld_162_2 rfl) ?_
      refine TV_ql rfl rfl rfl (QT_loadRAj (i * 50 + 2) rfl rfl Tryz.underlying112 rfl YtjdaglmkljbfkaaGreatDoorF.sz_112 hrA rfl (fun _ => hat4) (fun _ => hat3)) ?_
      refine TV_q rfl rfl rfl (fun _ => QT_neA rfl rfl eq_Patch rfl rfl (fun _ => hmk) (fun _ => hmk)) ?_
      refine TV_q rfl rfl rfl (fun _ => QT_move rfl rfl rfl) ?_
      refine TV_q rfl rfl rfl (fun _ => QT_move rfl rfl rfl) ?_
      refine TV_q rfl rfl rfl (fun _ => QT_move rfl rfl rfl) ?_
      refine TV_q rfl rfl rfl (fun _ => QT_move rfl rfl rfl) ?_
      refine TV_q rfl rfl rfl (fun _ => QT_indexSlice (i) rfl rfl Tryz.underlying44 YtjdaglmkljbfkaaGreatDoorF.sz_162 rfl rfl (rfl) (fun _ => hin)) ?_
      refine TV_q rfl rfl rfl (fun _ => QT_field rfl rfl YtjdaglmkljbfkaaGreatDoorF.fld_162_0 rfl) ?_
      refine TV_ql rfl rfl rfl (QT_loadRj (i * 50) rfl rfl Tryz.underlying62 rfl hrA rfl (fun _ => hat1)) ?_
      refine TV_q rfl rfl rfl (fun _ => QT_len rfl rfl Tryz.underlying62 rfl) ?_
      refine TV_q rfl rfl rfl (fun _ => QT_lss rfl rfl rfl rfl) ?_
      refine TV_q rfl rfl rfl (fun _ => QT_move rfl rfl rfl) ?_
      refine TV_q rfl rfl rfl (fun _ => QT_move rfl rfl rfl) ?_
      refine TV_q rfl rfl rfl (fun _ => QT_move rfl rfl rfl) ?_
      refine TV_q rfl rfl rfl (fun _ => QT_indexSlice (i) rfl rfl Tryz.underlying44 YtjdaglmkljbfkaaGreatDoorF.sz_162 rfl rfl (rfl) (fun _ => hin)) ?_
      refine TV_q rfl rfl rfl (fun _ => QT_field rfl rfl YtjdaglmkljbfkaaGreatDoorF.fld_162_0 rfl) ?_
      refine TV_ql rfl rfl rfl (QT_loadRj (i * 50) rfl rfl Tryz.underlying62 rfl hrA rfl (fun _ => hat1)) ?_
      refine TV_q rfl rfl rfl (fun _ => QT_move rfl rfl rfl) ?_
      refine TV_q rfl rfl rfl (fun _ => QT_indexG k rfl rfl Tryz.underlying62 YtjdaglmkljbfkaaGreatDoorF.sz_112 rfl rfl rfl (fun h => by simp at h; omega) (fun h => hlad (by simp at h; omega))) ?_
      refine TV_ql rfl rfl rfl (QT_loadRAj (k * 48) rfl rfl Tryz.underlying112 rfl YtjdaglmkljbfkaaGreatDoorF.sz_112 hlr rfl (fun h => by simp at h hz2; omega) (fun h => elem_marks hmls (by simp at h; omega))) ?_
      refine TV_q rfl rfl rfl (fun _ => QT_move rfl rfl rfl) ?_
      refine TV_q rfl rfl rfl (fun _ => QT_move rfl rfl rfl) ?_
      refine TV_q rfl rfl rfl (fun _ => QT_indexSlice (i) rfl rfl Tryz.underlying44 YtjdaglmkljbfkaaGreatDoorF.sz_162 rfl rfl (rfl) (fun _ => hin)) ?_
      refine TV_q rfl rfl rfl (fun _ => QT_field rfl rfl YtjdaglmkljbfkaaGreatDoorF.fld_162_2 rfl) ?_
      refine TV_ql rfl rfl rfl (QT_loadRAj (i * 50 + 2) rfl rfl Tryz.underlying112 rfl YtjdaglmkljbfkaaGreatDoorF.sz_112 hrA rfl (fun _ => hat4) (fun _ => hat3)) ?_
      refine TV_q rfl rfl rfl (fun _ => QT_neA rfl rfl eq_Patch rfl rfl (fun _ => hmk) (fun _ => hmk)) ?_
      refine TV_q rfl rfl rfl (fun _ => QT_and rfl rfl rfl rfl) ?_
      refine TV_q rfl rfl rfl (fun _ => QT_or rfl rfl rfl rfl) ?_
      refine TV_end ?_
      refine TX_then ?_
      refine TC_cond rfl (fun h => absurd (h.symm.trans ((show (_ : Bool) = false by rw [hself]; simp))) (by decide)) (fun _ => ?_)
      refine TC_skip ?_
      refine TX_block_normal ?_
      refine TX_then ?_
      refine TC_reg ?_
      refine TL_q rfl rfl (QT_move rfl rfl rfl) ?_
      refine TL_q rfl rfl (QT_add rfl rfl rfl rfl (fun _ => ⟨by omega, by omega⟩)) ?_
      refine TL_q rfl rfl (QT_assign rfl rfl rfl) ?_
      refine TL_nil ?_
      exact TX_round ⟨k + 1, by omega⟩ (by dsimp only; omega) ⟨rfl, rfl, slotI rfl (by dsimp only; omega), trivial⟩ (fun w h => h)
    ·
      refine TC_exit ?_
      refine TX_then_exit ?_
      refine TX_then_exit ?_
      refine TX_block_here ?_
      refine TX_block_normal ?_
      refine TX_then ?_
      refine TC_reg ?_
      refine TL_q rfl rfl (QT_move rfl rfl rfl) ?_
      refine TL_q rfl rfl (QT_add rfl rfl rfl rfl (fun _ => ⟨by omega, by omega⟩)) ?_
      refine TL_q rfl rfl (QT_assign rfl rfl rfl) ?_
      refine TL_nil ?_
      exact TX_round ⟨i + 1, by omega⟩ (by dsimp only; omega) ⟨rfl, slotI rfl (by dsimp only; omega), trivial⟩ (fun w h => h)
  ·
    refine TC_exit ?_
    refine TX_then_exit ?_
    refine TX_then_exit ?_
    refine TX_block_here ?_
    refine TX_then ?_
    refine TC_seq ?_
    refine TC_reg ?_
    refine TL_q rfl rfl (QT_assign rfl rfl rfl) ?_
    refine TL_nil ?_
    refine TX_then ?_
    refine TC_ret ?_
    exact TX_ret (.inl rfl) (res1 rfl rfl) ⟨_, ⟨rfl, rfl⟩, (fun _ h => by first | exact h | exact h.tail | exact h.tail.tail | exact h.tail.tail.tail | exact h.tail.tail.tail.tail | exact h.tail.tail.tail.tail.tail | exact h.tail.tail.tail.tail.tail.tail | exact h.tail.tail.tail.tail.tail.tail.tail | exact h.tail.tail.tail.tail.tail.tail.tail.tail | exact h.tail.tail.tail.tail.tail.tail.tail.tail.tail | exact h.tail.tail.tail.tail.tail.tail.tail.tail.tail.tail | exact h.tail.tail.tail.tail.tail.tail.tail.tail.tail.tail.tail | exact h.tail.tail.tail.tail.tail.tail.tail.tail.tail.tail.tail.tail | exact h.tail.tail.tail.tail.tail.tail.tail.tail.tail.tail.tail.tail.tail)⟩
theorem grow_Patch (w0 : Base) (η H : Heap) (va : Value) (ss : List Strip) (hs : ∀ s ∈ ss, s.ok 112 48 patchK ∧ s.xs = marks s.n s.mark) (ha : Frag 162 50 va ss.length (arrOf ss) H) :
    CallsT Tryz.prog 56 [va] (St w0 (H ++ (heapOf ss ++ η))) fun _ A' => ∃ ss' H', ss'.length = ss.length ∧ (∀ s ∈ ss', s.grown (St w0 (heapOf ss')) 48 patchK) ∧ Frag 162 50 va ss'.length (arrOf ss') H' ∧ A' = St w0 (H' ++ (heapOf ss' ++ η)) := by
  have hml : ∀ s ∈ ss, s.mark.length = 48 := fun s h => (hs s h).1.mints.length
  have hF := ha
  obtain ⟨ada, ca, rfl, ⟨hca, hca2⟩, hblk⟩ := ha.slice
  have hal := ha.1
  refine CallsT.body Tryz.func56 rfl rfl ?_
  simp only [Tryz.ntmps56, slotsOf, Nat.reduceAdd]
  refine TC_seq ?_
  refine TC_reg ?_
  refine TL_q rfl rfl (QT_assign rfl rfl rfl) ?_
  refine TL_nil ?_
  refine TX_then ?_
  refine TC_block ?_
  refine TC_loop (γ := {d : List Strip // d.length ≤ ss.length ∧ ∀ s ∈ d, s.grown (St w0 s.H) 48 patchK}) (fun t => [(0, true, .slice ada ss.length ca), (2, true, .int .i64 (t.1.length : Int))]) (fun t => St w0 (reH (arrOf ss).length (arrOf (t.1 ++ ss.drop t.1.length)) H ++ (heapOf t.1 ++ (heapOf (ss.drop t.1.length) ++ η)))) (fun t => ss.length - t.1.length) ⟨[], by simp, by simp⟩ ⟨rfl, rfl, trivial⟩ (fun _ h => by simpa [heapOf_nil, hF.re_self] using h) ?_
  rintro ⟨d, hi, hd⟩
  dsimp only
  refine TC_seq ?_
  refine TC_seq ?_
  refine TC_reg ?_
  refine TL_q rfl rfl (QT_move rfl rfl rfl) ?_
  refine TL_q rfl rfl (QT_move rfl rfl rfl) ?_
  refine TL_q rfl rfl (QT_len rfl rfl Tryz.underlying44 rfl) ?_
  refine TL_q rfl rfl (QT_lss rfl rfl rfl rfl) ?_
  refine TL_nil ?_
  refine TX_then ?_
  refine TC_cond_dec rfl (fun h7 => ?_) (fun h7 => ?_)
  ·
    refine TC_skip ?_
    refine TX_then ?_
    refine TC_seq ?_
    refine TC_block ?_
    refine TC_seq ?_
    have hin : d.length < ss.length := by omega
    have hmd : ∀ s ∈ d, s.mark.length = 48 := fun s h => (hd s h).mints.length
    obtain ⟨ba, rest, rfl, rfl⟩ := hblk (by omega)
    obtain ⟨s, hsi⟩ : ∃ s, ss[d.length]? = some s := ⟨_, List.getElem?_eq_getElem hin⟩
    have hdrop : ss.drop d.length = s :: ss.drop (d.length + 1) := by
      rw [List.drop_eq_getElem_cons hin]
      congr 1
      exact (List.getElem?_eq_some_iff.1 hsi).2
    obtain ⟨hok, hxs⟩ := hs s (List.mem_of_getElem? hsi)
    have hmls := hml s (List.mem_of_getElem? hsi)
    have hmt : ∀ s ∈ ss.drop (d.length + 1), s.mark.length = 48 := fun s h => hml s (List.mem_of_mem_drop h)
    have hI := LongInv.start (w0 := w0) hok hxs
    have hmi := hok.mints
    have hfew := hok.few
    obtain ⟨sad, scap, hsv, hscap, hsb⟩ := hok.frag.slice
    obtain ⟨sv, sn, sxs, slong, smk, sH⟩ := s
    dsimp only at hI hmi hfew hmls hsv hscap hsb
    subst hsv
    have hall : ∀ lv : Value, ∀ s' ∈ (d ++ (⟨.slice sad sn scap, sn, sxs, lv, smk, sH⟩ : Strip) :: ss.drop (d.length + 1)), s'.mark.length = 48 := fun lv s' h => by
      rcases List.mem_append.1 h with h | h
      · exact hmd s' h
      · rcases List.mem_cons.1 h with rfl | h
        · exact hmls
        · exact hmt s' h
    have hlens : ∀ lv : Value, (arrOf (d ++ (⟨.slice sad sn scap, sn, sxs, lv, smk, sH⟩ : Strip) :: ss.drop (d.length + 1))).length = ss.length * 50 := fun lv => by
      rw [arrOf_len (hall lv), List.length_append, List.length_cons, List.length_drop]
      congr 1; omega
    have hat : ∀ lv : Value, (arrOf (d ++ (⟨.slice sad sn scap, sn, sxs, lv, smk, sH⟩ : Strip) :: ss.drop (d.length + 1)))[d.length * (48 + 2)]? = some (.slice sad sn scap) ∧ (arrOf (d ++ (⟨.slice sad sn scap, sn, sxs, lv, smk, sH⟩ : Strip) :: ss.drop (d.length + 1)))[d.length * (48 + 2) + 1]? = some lv ∧ ((arrOf (d ++ (⟨.slice sad sn scap, sn, sxs, lv, smk, sH⟩ : Strip) :: ss.drop (d.length + 1))).drop (d.length * (48 + 2) + 2)).take 48 = smk ∧ d.length * (48 + 2) + 2 + 48 ≤ (arrOf (d ++ (⟨.slice sad sn scap, sn, sxs, lv, smk, sH⟩ : Strip) :: ss.drop (d.length + 1))).length := fun lv => arrOf_at (hall lv) (i := d.length) (s := ⟨_, sn, sxs, lv, smk, sH⟩) (by simp)
    have hset : ∀ lv r : Value, setAt (arrOf (d ++ (⟨.slice sad sn scap, sn, sxs, lv, smk, sH⟩ : Strip) :: ss.drop (d.length + 1)) ++ rest) (d.length * (48 + 2) + 1) [r] = arrOf (d ++ (⟨.slice sad sn scap, sn, sxs, r, smk, sH⟩ : Strip) :: ss.drop (d.length + 1)) ++ rest := fun lv r => arrOf_set hmd rest
    have hin2 : (d.length + 1) * 50 ≤ ss.length * 50 := Nat.mul_le_mul_right _ (by omega)
    rw [hdrop]
    refine TC_A (St w0 ((ba, 162, arrOf (d ++ (⟨.slice sad sn scap, sn, sxs, slong, smk, sH⟩ : Strip) :: ss.drop (d.length + 1)) ++ rest) :: (sH ++ ([] ++ (heapOf d ++ (heapOf (ss.drop (d.length + 1)) ++ η)))))) (fun w h => by
      simp only [reH, List.map_cons, List.map_nil, List.drop_left, heapOf_cons] at h
      exact h.cnt fun p => by simp only [List.countP_append, List.countP_cons, List.countP_nil]; omega) ?_
    have hrA : ∀ (X : Heap) (lv : Value), Rd (St w0 ((ba, 162, arrOf (d ++ (⟨.slice sad sn scap, sn, sxs, lv, smk, sH⟩ : Strip) :: ss.drop (d.length + 1)) ++ rest) :: X)) ba 0 (arrOf (d ++ (⟨.slice sad sn scap, sn, sxs, lv, smk, sH⟩ : Strip) :: ss.drop (d.length + 1))) := fun X lv => Rd.ownA (List.mem_cons_self ..) 0 (by simp)
    refine TC_reg ?_
    refine TL_q rfl rfl (QT_move rfl rfl rfl) ?_
    refine TL_q rfl rfl (QT_move rfl rfl rfl) ?_
    refine TL_q rfl rfl (QT_move rfl rfl rfl) ?_
    refine TL_q rfl rfl (QT_move rfl rfl rfl) ?_
    refine TL_q rfl rfl (QT_indexSlice (d.length) rfl rfl Tryz.underlying44 YtjdaglmkljbfkaaGreatDoorF.sz_162 rfl rfl (rfl) (fun _ => hin)) ?_
    refine TL_q rfl rfl (QT_field rfl rfl YtjdaglmkljbfkaaGreatDoorF.fld_162_0 rfl) ?_
    refine TL_q rfl rfl (QT_loadRj (d.length * 50) rfl rfl Tryz.underlying62 rfl (hrA _ slong) rfl (fun _ => (hat slong).1)) ?_
    refine TL_q rfl rfl (QT_indexSlice (d.length) rfl rfl Tryz.underlying44 YtjdaglmkljbfkaaGreatDoorF.sz_162 rfl rfl (rfl) (fun _ => hin)) ?_
    refine TL_q rfl rfl (QT_field rfl rfl YtjdaglmkljbfkaaGreatDoorF.fld_162_1 rfl) ?_
    refine TL_e0 rfl rfl (rfl) (ET_store (vs := [.slice sad sn scap]) 0 rfl rfl rfl rfl YtjdaglmkljbfkaaGreatDoorF.sz_62 rfl rfl (Nat.ble_eq_true_of_le (by have := hlens slong; simp only [List.length_append, List.length_cons, List.length_nil]; omega))) ?_
    rintro _ _ ⟨rfl, rfl⟩
    refine TL_nil ?_
    refine TX_then ?_
    refine TC_seq ?_
    refine TC_A (St w0 ((ba, 162, arrOf (d ++ (⟨.slice sad sn scap, sn, sxs, (.slice sad sn scap), smk, sH⟩ : Strip) :: ss.drop (d.length + 1)) ++ rest) :: (sH ++ ([] ++ (heapOf d ++ (heapOf (ss.drop (d.length + 1)) ++ η)))))) (fun w h => by
      simp only [upd, Nat.zero_add] at h
      rw [hset slong] at h
      exact h) ?_
    refine TC_reg ?_
    refine TL_q rfl rfl (QT_assign rfl rfl rfl) ?_
    refine TL_nil ?_
    refine TX_then ?_
    refine TC_block ?_
    refine TC_loop (γ := {t : Nat × Value × Heap × Heap // t.1 ≤ 24 ∧ LongInv w0 112 48 (.slice sad sn scap) sn smk t.2.1 (sn + t.1) t.2.2.1 t.2.2.2}) (fun t => [(0, true, .slice (some ⟨ba, 0, none⟩) ss.length ca), (2, true, .int .i64 (d.length : Int)), (3, true, .int .i64 (t.1.1 : Int))]) (fun t => St w0 ((ba, 162, arrOf (d ++ (⟨.slice sad sn scap, sn, sxs, t.1.2.1, smk, sH⟩ : Strip) :: ss.drop (d.length + 1)) ++ rest) :: (t.1.2.2.1 ++ (t.1.2.2.2 ++ (heapOf d ++ (heapOf (ss.drop (d.length + 1)) ++ η)))))) (fun t => 24 - t.1.1) ⟨(0, .slice sad sn scap, sH, []), by dsimp only; omega, hI⟩ ⟨rfl, rfl, rfl, trivial⟩ (fun _ h => h) ?_
    rintro ⟨⟨k, lv, HL, KK⟩, hk, hL⟩
    dsimp only at hk hL ⊢
    refine TC_seq ?_
    refine TC_seq ?_
    refine TC_reg ?_
    refine TL_q rfl rfl (QT_move rfl rfl rfl) ?_
    refine TL_q rfl rfl (QT_lss rfl rfl rfl rfl) ?_
    refine TL_nil ?_
    refine TX_then ?_
    refine TC_cond_dec rfl (fun h20 => ?_) (fun h20 => ?_)
    ·
      refine TC_skip ?_
      refine TX_then ?_
      refine TC_seq ?_
      refine TC_block ?_
      have hk24 : k < 24 := by omega
      refine TC_draw [(0, 0), (1, 0), (2, 0), (3, 0), (4, 0), (5, 0), (6, 0), (7, 0), (8, 0), (9, 0), (10, 0), (11, 0), (12, 1), (13, 1), (14, 0), (15, 0), (16, 1)] YtjdaglmkljbfkaaGreatDoorF.mixed (by kernel_rfl) (St.calm _ _) ?_
      refine TV_q rfl rfl rfl (fun _ => QT_move rfl rfl rfl) ?_
      refine TV_q rfl rfl rfl (fun _ => QT_move rfl rfl rfl) ?_
      refine TV_q rfl rfl rfl (fun _ => QT_move rfl rfl rfl) ?_
      refine TV_q rfl rfl rfl (fun _ => QT_move rfl rfl rfl) ?_
      refine TV_q rfl rfl rfl (fun _ => QT_indexSlice (d.length) rfl rfl Tryz.underlying44 YtjdaglmkljbfkaaGreatDoorF.sz_162 rfl rfl (rfl) (fun _ => hin)) ?_
      refine TV_q rfl rfl rfl (fun _ => QT_field rfl rfl YtjdaglmkljbfkaaGreatDoorF.fld_162_1 rfl) ?_
      refine TV_ql rfl rfl rfl (QT_loadRj (d.length * 50 + 1) rfl rfl Tryz.underlying62 rfl ((hrA [] lv).mono fun _ h => h.cnt fun p => by simp only [List.countP_append, List.countP_cons, List.countP_nil]; omega) rfl (fun _ => (hat lv).2.1)) ?_
      refine TV_q rfl rfl rfl (fun _ => QT_move rfl rfl rfl) ?_
      refine TV_q rfl rfl rfl (fun _ => QT_move rfl rfl rfl) ?_
      refine TV_q rfl rfl rfl (fun _ => QT_indexSlice (d.length) rfl rfl Tryz.underlying44 YtjdaglmkljbfkaaGreatDoorF.sz_162 rfl rfl (rfl) (fun _ => hin)) ?_
      refine TV_q rfl rfl rfl (fun _ => QT_field rfl rfl YtjdaglmkljbfkaaGreatDoorF.fld_162_2 rfl) ?_
      refine TV_ql rfl rfl rfl (QT_loadRAj (d.length * 50 + 2) rfl rfl Tryz.underlying112 rfl YtjdaglmkljbfkaaGreatDoorF.sz_112 ((hrA [] lv).mono fun _ h => h.cnt fun p => by simp only [List.countP_append, List.countP_cons, List.countP_nil]; omega) rfl (fun _ => (hat lv).2.2.2) (fun _ => (hat lv).2.2.1)) ?_
      refine TV_e rfl rfl rfl rfl (rfl) (ET_buildN [_] rfl Tryz.underlying62 YtjdaglmkljbfkaaGreatDoorF.sz_112 YtjdaglmkljbfkaaGreatDoorF.zero_112 rfl rfl rfl (by simp [Value.cells, hmls])) ?_
      rintro _ _ ⟨b35, rfl, rfl⟩
      refine ⟨_, .drop (by kernel_rfl) (.keep (by kernel_rfl) rfl (by first | exact QT_loadRj (d.length * 50 + 1) rfl rfl Tryz.underlying62 rfl ((hrA [] lv).mono fun _ h => h.cnt fun p => by simp only [List.countP_append, List.countP_cons, List.countP_nil]; omega) rfl (fun _ => (hat lv).2.1)) (.nil)), ?_⟩
      refine TV_e rfl rfl rfl rfl (rfl) (ET_long (L := [_, _]) rfl Tryz.underlying62 el_Patch rfl rfl hL hmls (fun _ h => h) (SlA.own (n := 1) (xs := smk) 0 rfl (by rw [List.drop_zero, List.take_of_length_le (by simp [Value.cells, hmls])]; simp [Value.cells]) (by simp [Value.cells, hmls]) (by omega)) hmi.oneCell (few_b hfew hk24 (by decide)) (few_l hfew hk24)) ?_
      rintro lv2 _ ⟨H', K', hL', rfl⟩
      refine ⟨_, .drop (by kernel_rfl) (.nil), ?_⟩
      obtain ⟨ad2, cap2, rfl, _⟩ := hL'.frag.slice
      refine TV_q rfl rfl rfl (fun _ => QT_indexSlice (d.length) rfl rfl Tryz.underlying44 YtjdaglmkljbfkaaGreatDoorF.sz_162 rfl rfl (rfl) (fun _ => hin)) ?_
      refine TV_q rfl rfl rfl (fun _ => QT_field rfl rfl YtjdaglmkljbfkaaGreatDoorF.fld_162_1 rfl) ?_
      refine TV_e0 rfl rfl rfl (rfl) (ET_store (vs := [.slice ad2 (sn + k + 1) cap2]) 1 rfl rfl rfl rfl YtjdaglmkljbfkaaGreatDoorF.sz_62 rfl rfl (Nat.ble_eq_true_of_le (by have := hlens lv; simp only [List.length_append, List.length_cons, List.length_nil]; omega))) ?_
      rintro _ _ ⟨rfl, rfl⟩
      refine ⟨_, .nil, ?_⟩
      refine TV_end ?_
      refine TX_block_normal ?_
      refine TX_then ?_
      refine TC_reg ?_
      refine TL_q rfl rfl (QT_move rfl rfl rfl) ?_
      refine TL_q rfl rfl (QT_add rfl rfl rfl rfl (fun _ => ⟨by omega, by omega⟩)) ?_
      refine TL_q rfl rfl (QT_assign rfl rfl rfl) ?_
      refine TL_nil ?_
      refine TX_round ⟨(k + 1, .slice ad2 (sn + k + 1) cap2, H', K'), by dsimp only; omega, hL'⟩ (by dsimp only; omega) ⟨rfl, rfl, slotI rfl (by dsimp only; omega), trivial⟩ (fun w h => ?_)
      simp only [upd, Nat.zero_add] at h
      rw [hset lv] at h
      exact h.tail
    ·
      refine TC_exit ?_
      refine TX_then_exit ?_
      refine TX_then_exit ?_
      refine TX_block_here ?_
      refine TX_block_normal ?_
      refine TX_then ?_
      refine TC_reg ?_
      refine TL_q rfl rfl (QT_move rfl rfl rfl) ?_
      refine TL_q rfl rfl (QT_add rfl rfl rfl rfl (fun _ => ⟨by omega, by omega⟩)) ?_
      refine TL_q rfl rfl (QT_assign rfl rfl rfl) ?_
      refine TL_nil ?_
      obtain rfl : k = 24 := by omega
      have hg := LongInv.grown (s := ⟨.slice sad sn scap, sn, sxs, lv, smk, sH⟩) hL hmi rfl hfew
      refine TX_round ⟨d ++ [⟨.slice sad sn scap, sn, sxs, lv, smk, HL ++ KK⟩], by simp; omega, fun s h => ?_⟩ (by simp only [List.length_append, List.length_cons, List.length_nil]; omega) ⟨rfl, slotI rfl (by simp), trivial⟩ (fun w h => ?_)
      · rcases List.mem_append.1 h with h | h
        · exact hd s h
        · obtain rfl := List.mem_singleton.1 h
          exact hg
      · have e : arrOf ((d ++ [(⟨.slice sad sn scap, sn, sxs, lv, smk, HL ++ KK⟩ : Strip)]) ++ ss.drop (d.length + 1)) = arrOf (d ++ (⟨.slice sad sn scap, sn, sxs, lv, smk, sH⟩ : Strip) :: ss.drop (d.length + 1)) := by
          simp [arrOf, Strip.cells]
        simp only [List.length_append, List.length_cons, List.length_nil, Nat.zero_add, e, heapOf_append, heapOf_cons, heapOf_nil, reH, List.map_cons, List.map_nil, List.drop_left]
        exact h.cnt fun p => by simp only [List.countP_append, List.countP_cons, List.countP_nil]; omega
  ·
    refine TC_exit ?_
    refine TX_then_exit ?_
    refine TX_then_exit ?_
    refine TX_block_here ?_
    refine TX_ret (.inr rfl) (res0 rfl) ⟨_, ⟨d, reH (arrOf ss).length (arrOf d) H, by omega, fun s h => (hd s h).mono fun _ hw => hw.cnt (heapOf_mem h), ?_, rfl⟩, fun w h => ?_⟩
    · have hdl : d.length = ss.length := by omega
      rw [hdl]
      exact hF.re (by rw [arrOf_len (Z := 48) (fun s h => (hd s h).mints.length), arrOf_len hml, hdl])
    · have hdl : ss.drop d.length = [] := List.drop_eq_nil_of_le (by omega)
      rw [hdl, List.append_nil, heapOf_nil] at h
      simpa using h
theorem fill_Rec (w0 : Base) (η : Heap) (va : Value) (ss : List Strip) (hs : ∀ s ∈ ss, s.ok 77 7 recK) (ha : SlA (St w0 η) va 9 ss.length (arrOf ss)) :
    CallsT Tryz.prog 40 [va] (St w0 (heapOf ss ++ η)) fun _ A' => A' = St w0 (heapOf (ss.map (fillS 7)) ++ η) := by
  have hml : ∀ s ∈ ss, s.mark.length = 7 := fun s h => (hs s h).mints.length
  obtain ⟨hal, ada, ca, rfl, ⟨hca, hca2⟩, hra⟩ := ha
  refine CallsT.body Tryz.func40 rfl rfl ?_
  simp only [Tryz.ntmps40, slotsOf, Nat.reduceAdd]
  refine TC_seq ?_
  refine TC_reg ?_
  refine TL_q rfl rfl (QT_assign rfl rfl rfl) ?_
  refine TL_nil ?_
  refine TX_then ?_
  refine TC_block ?_
  refine TC_loop (γ := {i : Nat // i ≤ ss.length}) (fun t => [(0, true, .slice ada ss.length ca), (2, true, .int .i64 (t.1 : Int))]) (fun t => St w0 (heapOf ((ss.take t.1).map (fillS 7)) ++ (heapOf (ss.drop t.1) ++ η))) (fun t => ss.length - t.1) ⟨0, by omega⟩ ⟨rfl, rfl, trivial⟩ (fun _ h => by simpa [heapOf] using h) ?_
  rintro ⟨i, hi⟩
  dsimp only
  refine TC_seq ?_
  refine TC_seq ?_
  refine TC_reg ?_
  refine TL_q rfl rfl (QT_move rfl rfl rfl) ?_
  refine TL_q rfl rfl (QT_move rfl rfl rfl) ?_
  refine TL_q rfl rfl (QT_len rfl rfl Tryz.underlying41 rfl) ?_
  refine TL_q rfl rfl (QT_lss rfl rfl rfl rfl) ?_
  refine TL_nil ?_
  refine TX_then ?_
  refine TC_cond_dec rfl (fun h7 => ?_) (fun h7 => ?_)
  ·
    refine TC_skip ?_
    refine TX_then ?_
    refine TC_seq ?_
    refine TC_block ?_
    refine TC_seq ?_
    have hin : i < ss.length := by omega
    obtain ⟨ba, oa, rfl, hrA⟩ := hra.resolve_left (by omega)
    obtain ⟨s, hsi⟩ : ∃ s, ss[i]? = some s := ⟨_, List.getElem?_eq_getElem hin⟩
    obtain ⟨hat1, hat2, hat3, hat4⟩ := arrOf_at hml hsi
    have hdrop : ss.drop i = s :: ss.drop (i + 1) := by
      rw [List.drop_eq_getElem_cons hin]
      congr 1
      exact (List.getElem?_eq_some_iff.1 hsi).2
    have htake : (ss.take (i + 1)).map (fillS 7) = (ss.take i).map (fillS 7) ++ [fillS 7 s] := by
      rw [List.take_add_one, hsi]; simp
    have hok := hs s (List.mem_of_getElem? hsi)
    have hmls := hml s (List.mem_of_getElem? hsi)
    rw [hdrop, heapOf_cons]
    obtain ⟨sv, sn, sxs, slong, smk, sH⟩ := s
    obtain ⟨⟨hfl, hfr⟩, hmk, hfew⟩ := hok
    dsimp only at hfl hfr hmk hfew hmls hat1 hat2 hat3 hat4
    have hsv : ∃ sad scap, sv = .slice sad sn scap := by
      rcases hfr with ⟨rfl, rfl, _⟩ | ⟨b, cap, rest, rfl, _⟩
      · exact ⟨_, _, rfl⟩
      · exact ⟨_, _, rfl⟩
    obtain ⟨sad, scap, rfl⟩ := hsv
    refine TC_reg ?_
    refine TL_q rfl rfl (QT_assign rfl rfl rfl) ?_
    refine TL_nil ?_
    refine TX_then ?_
    refine TC_block ?_
    refine TC_loop (γ := {k : Nat // k ≤ sn}) (fun t => [(0, true, .slice (some ⟨ba, oa, none⟩) ss.length ca), (2, true, .int .i64 (i : Int)), (3, true, .int .i64 (t.1 : Int))]) (fun t => St w0 (fillH 7 t.1 smk sH ++ (heapOf ((ss.take i).map (fillS 7)) ++ (heapOf (ss.drop (i + 1)) ++ η)))) (fun t => sn - t.1) ⟨0, by omega⟩ ⟨rfl, rfl, rfl, trivial⟩ (fun _ h => h.cnt (fun p => by simp only [fillH_zero, List.countP_append]; omega)) ?_
    rintro ⟨k, hk⟩
    dsimp only
    refine TC_seq ?_
    refine TC_seq ?_
    refine TC_reg ?_
    refine TL_q rfl rfl (QT_move rfl rfl rfl) ?_
    refine TL_q rfl rfl (QT_move rfl rfl rfl) ?_
    refine TL_q rfl rfl (QT_move rfl rfl rfl) ?_
    refine TL_q rfl rfl (QT_indexSlice (i) rfl rfl Tryz.underlying41 YtjdaglmkljbfkaaGreatDoorF.sz_186 rfl rfl (rfl) (fun _ => hin)) ?_
    refine TL_q rfl rfl (QT_field rfl rfl YtjdaglmkljbfkaaGreatDoorF.fld_186_0 rfl) ?_
    refine TL_q rfl rfl (QT_loadRj (i * 9) rfl rfl Tryz.underlying31 rfl (hrA.mono fun _ h => h.cnt fun p => by simp only [List.countP_append]; omega) rfl (fun _ => hat1)) ?_
    refine TL_q rfl rfl (QT_len rfl rfl Tryz.underlying31 rfl) ?_
    refine TL_q rfl rfl (QT_lss rfl rfl rfl rfl) ?_
    refine TL_nil ?_
    refine TX_then ?_
    refine TC_cond_dec rfl (fun h17 => ?_) (fun h17 => ?_)
    ·
      refine TC_skip ?_
      refine TX_then ?_
      refine TC_seq ?_
      refine TC_block ?_
      have hkn : k < sn := by omega
      have hszm : Sz Tryz.prog 77 smk.length := by rw [hmls]; exact YtjdaglmkljbfkaaGreatDoorF.sz_77
      have hkz : (k + 1) * 7 ≤ sn * 7 := Nat.mul_le_mul_right _ (by omega)
      obtain ⟨b, cap, rest, hv, hcap, hlen, rfl⟩ : ∃ b cap rest, Value.slice sad sn scap = .slice (some ⟨b, 0, none⟩) sn cap ∧ (sn ≤ cap ∧ cap ≤ 9223372036854775807) ∧ cap * 7 ≤ (sxs ++ rest).length ∧ sH = [(b, 77, sxs ++ rest)] := by
        rcases hfr with ⟨_, h0, _⟩ | h
        · omega
        · exact h
      simp only [Value.slice.injEq, true_and] at hv
      obtain ⟨rfl, rfl⟩ := hv
      have hcz : sn * 7 ≤ scap * 7 := Nat.mul_le_mul_right _ (by omega)
      refine TC_draw [(0, 0), (1, 0), (2, 0), (3, 0), (4, 0), (5, 0), (6, 0), (7, 0), (8, 0), (9, 0), (10, 0), (11, 0), (12, 1)] YtjdaglmkljbfkaaGreatDoorF.mixed (by kernel_rfl) (St.calm _ _) ?_
      refine TV_q rfl rfl rfl (fun _ => QT_move rfl rfl rfl) ?_
      refine TV_q rfl rfl rfl (fun _ => QT_move rfl rfl rfl) ?_
      refine TV_q rfl rfl rfl (fun _ => QT_indexSlice (i) rfl rfl Tryz.underlying41 YtjdaglmkljbfkaaGreatDoorF.sz_186 rfl rfl (rfl) (fun _ => hin)) ?_
      refine TV_q rfl rfl rfl (fun _ => QT_field rfl rfl YtjdaglmkljbfkaaGreatDoorF.fld_186_0 rfl) ?_
      refine TV_ql rfl rfl rfl (QT_loadRj (i * 9) rfl rfl Tryz.underlying31 rfl (hrA.mono fun _ h => h.cnt fun p => by simp only [List.countP_append]; omega) rfl (fun _ => hat1)) ?_
      refine TV_q rfl rfl rfl (fun _ => QT_move rfl rfl rfl) ?_
      refine TV_q rfl rfl rfl (fun _ => QT_move rfl rfl rfl) ?_
      refine TV_q rfl rfl rfl (fun _ => QT_move rfl rfl rfl) ?_
      refine TV_q rfl rfl rfl (fun _ => QT_indexSlice (i) rfl rfl Tryz.underlying41 YtjdaglmkljbfkaaGreatDoorF.sz_186 rfl rfl (rfl) (fun _ => hin)) ?_
      refine TV_q rfl rfl rfl (fun _ => QT_field rfl rfl YtjdaglmkljbfkaaGreatDoorF.fld_186_2 rfl) ?_
      refine TV_ql rfl rfl rfl (QT_loadRAj (i * 9 + 2) rfl rfl Tryz.underlying77 rfl YtjdaglmkljbfkaaGreatDoorF.sz_77 (hrA.mono fun _ h => h.cnt fun p => by simp only [List.countP_append]; omega) rfl (fun _ => hat4) (fun _ => hat3)) ?_
      refine TV_q rfl rfl rfl (fun _ => QT_indexSlice (k) rfl rfl Tryz.underlying31 YtjdaglmkljbfkaaGreatDoorF.sz_77 rfl rfl (rfl) (fun _ => hkn)) ?_
      refine TV_e0 rfl rfl rfl (rfl) (ET_store (vs := smk) 0 rfl rfl rfl rfl hszm rfl (by rw [List.all_eq_true]; exact hmk.oneCell) (Nat.ble_eq_true_of_le (by simp only [List.length_append, List.length_drop, marks_len hmls]; omega))) ?_
      rintro _ _ ⟨rfl, rfl⟩
      refine ⟨_, .drop (by kernel_rfl) (.drop (by kernel_rfl) (.nil)), ?_⟩
      refine TV_end ?_
      refine TX_block_normal ?_
      refine TX_then ?_
      skip
      refine TC_reg ?_
      refine TL_q rfl rfl (QT_move rfl rfl rfl) ?_
      refine TL_q rfl rfl (QT_add rfl rfl rfl rfl (fun _ => ⟨by omega, by omega⟩)) ?_
      refine TL_q rfl rfl (QT_assign rfl rfl rfl) ?_
      refine TL_nil ?_
      refine TX_round ⟨k + 1, by omega⟩ (by dsimp only; omega) ⟨rfl, rfl, slotI rfl (by dsimp only; omega), trivial⟩ (fun w h => ?_)
      simp only [fillH, List.map_cons, List.map_nil, List.singleton_append, List.cons_append, List.nil_append, upd, Nat.zero_add] at h ⊢
      rw [fill_step hmls (by omega)] at h
      exact h
    ·
      refine TC_exit ?_
      refine TX_then_exit ?_
      refine TX_then_exit ?_
      refine TX_block_here ?_
      refine TX_block_normal ?_
      refine TX_then ?_
      refine TC_reg ?_
      refine TL_q rfl rfl (QT_move rfl rfl rfl) ?_
      refine TL_q rfl rfl (QT_add rfl rfl rfl rfl (fun _ => ⟨by omega, by omega⟩)) ?_
      refine TL_q rfl rfl (QT_assign rfl rfl rfl) ?_
      refine TL_nil ?_
      refine TX_round ⟨i + 1, by omega⟩ (by dsimp only; omega) ⟨rfl, slotI rfl (by dsimp only; omega), trivial⟩ (fun w h => h.cnt fun p => ?_)
      obtain rfl : k = sn := by omega
      rw [htake, heapOf_append, heapOf_cons, heapOf_nil]
      simp only [fillS, List.countP_append, List.countP_nil]; omega
  ·
    refine TC_exit ?_
    refine TX_then_exit ?_
    refine TX_then_exit ?_
    refine TX_block_here ?_
    refine TX_ret (.inr rfl) (res0 rfl) ⟨_, rfl, fun w h => ?_⟩
    obtain rfl : i = ss.length := by omega
    simpa [heapOf] using h
theorem marked_Rec (w0 : Base) (η : Heap) (va : Value) (ss : List Strip) (hs : ∀ s ∈ ss, s.grown (St w0 η) 7 recK) (ha : SlA (St w0 η) va 9 ss.length (arrOf ss)) :
    CallsT Tryz.prog 66 [va] (St w0 η) fun v A' => v = .bool true ∧ A' = St w0 η := by
  have hml : ∀ s ∈ ss, s.mark.length = 7 := fun s h => (hs s h).mints.length
  obtain ⟨hal, ada, ca, rfl, ⟨hca, hca2⟩, hra⟩ := ha
  refine CallsT.body Tryz.func66 rfl rfl ?_
  simp only [Tryz.ntmps66, slotsOf, Nat.reduceAdd]
  refine TC_seq ?_
  refine TC_reg ?_
  refine TL_q rfl rfl (QT_assign rfl rfl rfl) ?_
  refine TL_nil ?_
  refine TX_then ?_
  refine TC_seq ?_
  refine TC_seq ?_
  refine TC_reg ?_
  refine TL_q rfl rfl (QT_assign rfl rfl rfl) ?_
  refine TL_nil ?_
  refine TX_then ?_
  refine TC_block ?_
  refine TC_loop (γ := {i : Nat // i ≤ ss.length}) (fun t => [(0, true, .slice ada ss.length ca), (3, true, .int .i64 (t.1 : Int))]) (fun t => St w0 η) (fun t => ss.length - t.1) ⟨0, by omega⟩ ⟨rfl, rfl, trivial⟩ (fun _ h => h) ?_
  rintro ⟨i, hi⟩
  dsimp only
  refine TC_seq ?_
  refine TC_seq ?_
  refine TC_reg ?_
  refine TL_q rfl rfl (QT_move rfl rfl rfl) ?_
  refine TL_q rfl rfl (QT_move rfl rfl rfl) ?_
  refine TL_q rfl rfl (QT_len rfl rfl Tryz.underlying41 rfl) ?_
  refine TL_q rfl rfl (QT_lss rfl rfl rfl rfl) ?_
  refine TL_nil ?_
  refine TX_then ?_
  refine TC_cond_dec rfl (fun h8 => ?_) (fun h8 => ?_)
  ·
    refine TC_skip ?_
    refine TX_then ?_
    refine TC_seq ?_
    refine TC_block ?_
    refine TC_seq ?_
    have hin : i < ss.length := by omega
    obtain ⟨ba, oa, rfl, hrA⟩ := hra.resolve_left (by omega)
    obtain ⟨s, hsi⟩ : ∃ s, ss[i]? = some s := ⟨_, List.getElem?_eq_getElem hin⟩
    obtain ⟨hat1, hat2, hat3, hat4⟩ := arrOf_at hml hsi
    have hok := hs s (List.mem_of_getElem? hsi)
    have hmls := hml s (List.mem_of_getElem? hsi)
    obtain ⟨sv, sn, sxs, slong, smk, sH⟩ := s
    obtain ⟨hl, hlong, hmk, hfew⟩ := hok
    dsimp only at hl hlong hmk hfew hmls hat1 hat2 hat3 hat4
    obtain ⟨hll, lad, lcap, lb, loff, rfl, hlc, hlad, hlr⟩ := hl.some
    obtain ⟨hgl, gad, gcap, gb, goff, rfl, hgc, hgad, hgr⟩ := hlong.some
    obtain rfl := hgad (by omega)
    have hself : eqC smk smk = true := eqC_refl hmk
    refine TC_reg ?_
    refine TL_q rfl rfl (QT_assign rfl rfl rfl) ?_
    refine TL_nil ?_
    refine TX_then ?_
    refine TC_block ?_
    refine TC_loop (γ := {k : Nat // k ≤ sn + 24}) (fun t => [(0, true, .slice (some ⟨ba, oa, none⟩) ss.length ca), (3, true, .int .i64 (i : Int)), (4, true, .int .i64 (t.1 : Int))]) (fun t => St w0 η) (fun t => sn + 24 - t.1) ⟨0, by omega⟩ ⟨rfl, rfl, rfl, trivial⟩ (fun _ h => h) ?_
    rintro ⟨k, hk⟩
    dsimp only
    refine TC_seq ?_
    refine TC_seq ?_
    refine TC_reg ?_
    refine TL_q rfl rfl (QT_move rfl rfl rfl) ?_
    refine TL_q rfl rfl (QT_move rfl rfl rfl) ?_
    refine TL_q rfl rfl (QT_move rfl rfl rfl) ?_
    refine TL_q rfl rfl (QT_indexSlice (i) rfl rfl Tryz.underlying41 YtjdaglmkljbfkaaGreatDoorF.sz_186 rfl rfl (rfl) (fun _ => hin)) ?_
    refine TL_q rfl rfl (QT_field rfl rfl YtjdaglmkljbfkaaGreatDoorF.fld_186_1 rfl) ?_
    refine TL_q rfl rfl (QT_loadRj (i * 9 + 1) rfl rfl Tryz.underlying31 rfl hrA rfl (fun _ => hat2)) ?_
    refine TL_q rfl rfl (QT_len rfl rfl Tryz.underlying31 rfl) ?_
    refine TL_q rfl rfl (QT_lss rfl rfl rfl rfl) ?_
    refine TL_nil ?_
    refine TX_then ?_
    refine TC_cond_dec rfl (fun h18 => ?_) (fun h18 => ?_)
    ·
      refine TC_skip ?_
      refine TX_then ?_
      refine TC_seq ?_
      refine TC_block ?_
      refine TC_seq ?_
      have hkn : k < sn + 24 := by omega
      have hz1 : k * 7 + 7 ≤ (marks (sn + 24) smk).length := by
        rw [marks_len hmls]
        have : (k + 1) * 7 ≤ (sn + 24) * 7 := Nat.mul_le_mul_right _ (by omega)
        rw [Nat.add_mul] at this; omega
      have hz2 : (true && !decide ((k : Int) < (sn : Int))) = true ∨ k * 7 + 7 ≤ (marks sn smk).length := by
        by_cases h : k < sn
        · refine .inr ?_
          rw [marks_len hmls]
          have : (k + 1) * 7 ≤ sn * 7 := Nat.mul_le_mul_right _ (by omega)
          rw [Nat.add_mul] at this; omega
        · refine .inl ?_
          simpa using h
      refine TC_draw [(0, 0), (1, 0), (2, 0), (3, 0), (4, 0), (5, 0), (6, 0), (7, 0), (8, 0), (9, 0), (10, 0), (11, 0), (12, 0), (13, 0), (14, 0), (15, 0), (16, 0), (17, 0), (18, 0), (19, 0), (20, 0), (21, 0), (22, 0), (23, 0), (24, 0), (25, 0), (26, 0), (27, 0), (28, 0), (29, 0), (30, 0), (31, 0), (32, 0), (33, 0), (34, 0), (35, 0), (36, 0), (37, 0), (38, 0), (39, 0)] YtjdaglmkljbfkaaGreatDoorF.mixed (by kernel_rfl) (St.calm _ _) ?_
      refine TV_q rfl rfl rfl (fun _ => QT_move rfl rfl rfl) ?_
      refine TV_q rfl rfl rfl (fun _ => QT_move rfl rfl rfl) ?_
      refine TV_q rfl rfl rfl (fun _ => QT_indexSlice (i) rfl rfl Tryz.underlying41 YtjdaglmkljbfkaaGreatDoorF.sz_186 rfl rfl (rfl) (fun _ => hin)) ?_
      refine TV_q rfl rfl rfl (fun _ => QT_field rfl rfl YtjdaglmkljbfkaaGreatDoorF.fld_186_1 rfl) ?_
      refine TV_ql rfl rfl rfl (QT_loadRj (i * 9 + 1) rfl rfl Tryz.underlying31 rfl hrA rfl (fun _ => hat2)) ?_
      refine TV_q rfl rfl rfl (fun _ => QT_move rfl rfl rfl) ?_
      refine TV_q rfl rfl rfl (fun _ => QT_indexSlice (k) rfl rfl Tryz.underlying31 YtjdaglmkljbfkaaGreatDoorF.sz_77 rfl rfl (rfl) (fun _ => hkn)) ?_
      refine TV_ql rfl rfl rfl (QT_loadRAj (k * 7) rfl rfl Tryz.underlying77 rfl YtjdaglmkljbfkaaGreatDoorF.sz_77 hgr rfl (fun _ => hz1) (fun _ => elem_marks hmls hkn)) ?_
      refine TV_q rfl rfl rfl (fun _ => QT_move rfl rfl rfl) ?_
      refine TV_q rfl rfl rfl (fun _ => QT_move rfl rfl rfl) ?_
      refine TV_q rfl rfl rfl (fun _ => QT_indexSlice (i) rfl rfl Tryz.underlying41 YtjdaglmkljbfkaaGreatDoorF.sz_186 rfl rfl (rfl) (fun _ => hin)) ?_
      refine TV_q rfl rfl rfl (fun _ => QT_field rfl rfl YtjdaglmkljbfkaaGreatDoorF.fld_186_2 rfl) ?_
      refine TV_ql rfl rfl rfl (QT_loadRAj (i * 9 + 2) rfl rfl Tryz.underlying77 rfl YtjdaglmkljbfkaaGreatDoorF.sz_77 hrA rfl (fun _ => hat4) (fun _ => hat3)) ?_
      refine TV_q rfl rfl rfl (fun _ => QT_neA rfl rfl eq_Rec rfl rfl (fun _ => hmk) (fun _ => hmk)) ?_
      refine TV_q rfl rfl rfl (fun _ => QT_move rfl rfl rfl) ?_
      refine TV_q rfl rfl rfl (fun _ => QT_move rfl rfl rfl) ?_
      refine TV_q rfl rfl rfl (fun _ => QT_move rfl rfl rfl) ?_
      refine TV_q rfl rfl rfl (fun _ => QT_move rfl rfl rfl) ?_
      refine TV_q rfl rfl rfl (fun _ => QT_indexSlice (i) rfl rfl Tryz.underlying41 YtjdaglmkljbfkaaGreatDoorF.sz_186 rfl rfl (rfl) (fun _ => hin)) ?_
      refine TV_q rfl rfl rfl (fun _ => QT_field rfl rfl YtjdaglmkljbfkaaGreatDoorF.fld_186_0 rfl) ?_
      refine TV_ql rfl rfl rfl (QT_loadRj (i * 9) rfl rfl Tryz.underlying31 rfl hrA rfl (fun _ => hat1)) ?_
      refine TV_q rfl rfl rfl (fun _ => QT_len rfl rfl Tryz.underlying31 rfl) ?_
      refine TV_q rfl rfl rfl (fun _ => QT_lss rfl rfl rfl rfl) ?_
      refine TV_q rfl rfl rfl (fun _ => QT_move rfl rfl rfl) ?_
      refine TV_q rfl rfl rfl (fun _ => QT_move rfl rfl rfl) ?_
      refine TV_q rfl rfl rfl (fun _ => QT_move rfl rfl rfl) ?_
      refine TV_q rfl rfl rfl (fun _ => QT_indexSlice (i) rfl rfl Tryz.underlying41 YtjdaglmkljbfkaaGreatDoorF.sz_186 rfl rfl (rfl) (fun _ => hin)) ?_
      refine TV_q rfl rfl rfl (fun _ => QT_field rfl rfl YtjdaglmkljbfkaaGreatDoorF.fld_186_0 rfl) ?_
      refine TV_ql rfl rfl rfl (QT_loadRj (i * 9) rfl rfl Tryz.underlying31 rfl hrA rfl (fun _ => hat1)) ?_
      refine TV_q rfl rfl rfl (fun _ => QT_move rfl rfl rfl) ?_
      refine TV_q rfl rfl rfl (fun _ => QT_indexG k rfl rfl Tryz.underlying31 YtjdaglmkljbfkaaGreatDoorF.sz_77 rfl rfl rfl (fun h => by simp at h; omega) (fun h => hlad (by simp at h; omega))) ?_
      refine TV_ql rfl rfl rfl (QT_loadRAj (k * 7) rfl rfl Tryz.underlying77 rfl YtjdaglmkljbfkaaGreatDoorF.sz_77 hlr rfl (fun h => by simp at h hz2; omega) (fun h => elem_marks hmls (by simp at h; omega))) ?_
      refine TV_q rfl rfl rfl (fun _ => QT_move rfl rfl rfl) ?_
      refine TV_q rfl rfl rfl (fun _ => QT_move rfl rfl rfl) ?_
      refine TV_q rfl rfl rfl (fun _ => QT_indexSlice (i) rfl rfl Tryz.underlying41 YtjdaglmkljbfkaaGreatDoorF.sz_186 rfl rfl (rfl) (fun _ => hin)) ?_
      refine TV_q rfl rfl rfl (fun _ => QT_field rfl rfl YtjdaglmkljbfkaaGreatDoorF.fld_186_2 rfl) ?_
      refine TV_ql rfl rfl rfl (QT_loadRAj (i * 9 + 2) rfl rfl Tryz.underlying77 rfl YtjdaglmkljbfkaaGreatDoorF.sz_77 hrA rfl (fun _ => hat4) (fun _ => hat3)) ?_
      refine TV_q rfl rfl rfl (fun _ => QT_neA rfl rfl eq_Rec rfl rfl (fun _ => hmk) (fun _ => hmk)) ?_
      refine TV_q rfl rfl rfl (fun _ => QT_and rfl rfl rfl rfl) ?_
      refine TV_q rfl rfl rfl (fun _ => QT_or rfl rfl rfl rfl) ?_
      refine TV_end ?_
      refine TX_then ?_
      refine TC_cond rfl (fun h => absurd (h.symm.trans ((show (_ : Bool) = false by rw [hself]; simp))) (by decide)) (fun _ => ?_)
      refine TC_skip ?_
      refine TX_block_normal ?_
      refine TX_then ?_
      refine TC_reg ?_
      refine TL_q rfl rfl (QT_move rfl rfl rfl) ?_
      refine TL_q rfl rfl (QT_add rfl rfl rfl rfl (fun _ => ⟨by omega, by omega⟩)) ?_
      refine TL_q rfl rfl (QT_assign rfl rfl rfl) ?_
      refine TL_nil ?_
      exact TX_round ⟨k + 1, by omega⟩ (by dsimp only; omega) ⟨rfl, rfl, slotI rfl (by dsimp only; omega), trivial⟩ (fun w h => h)
    ·
      refine TC_exit ?_
      refine TX_then_exit ?_
      refine TX_then_exit ?_
      refine TX_block_here ?_
      refine TX_block_normal ?_
      refine TX_then ?_
      refine TC_reg ?_
      refine TL_q rfl rfl (QT_move rfl rfl rfl) ?_
      refine TL_q rfl rfl (QT_add rfl rfl rfl rfl (fun _ => ⟨by omega, by omega⟩)) ?_
      refine TL_q rfl rfl (QT_assign rfl rfl rfl) ?_
      refine TL_nil ?_
      exact TX_round ⟨i + 1, by omega⟩ (by dsimp only; omega) ⟨rfl, slotI rfl (by dsimp only; omega), trivial⟩ (fun w h => h)
  ·
    refine TC_exit ?_
    refine TX_then_exit ?_
    refine TX_then_exit ?_
    refine TX_block_here ?_
    refine TX_then ?_
    refine TC_seq ?_
    refine TC_reg ?_
    refine TL_q rfl rfl (QT_assign rfl rfl rfl) ?_
    refine TL_nil ?_
    refine TX_then ?_
    refine TC_ret ?_
    exact TX_ret (.inl rfl) (res1 rfl rfl) ⟨_, ⟨rfl, rfl⟩, (fun _ h => by first | exact h | exact h.tail | exact h.tail.tail | exact h.tail.tail.tail | exact h.tail.tail.tail.tail | exact h.tail.tail.tail.tail.tail | exact h.tail.tail.tail.tail.tail.tail | exact h.tail.tail.tail.tail.tail.tail.tail | exact h.tail.tail.tail.tail.tail.tail.tail.tail | exact h.tail.tail.tail.tail.tail.tail.tail.tail.tail | exact h.tail.tail.tail.tail.tail.tail.tail.tail.tail.tail | exact h.tail.tail.tail.tail.tail.tail.tail.tail.tail.tail.tail | exact h.tail.tail.tail.tail.tail.tail.tail.tail.tail.tail.tail.tail | exact h.tail.tail.tail.tail.tail.tail.tail.tail.tail.tail.tail.tail.tail)⟩
theorem grow_Rec (w0 : Base) (η H : Heap) (va : Value) (ss : List Strip) (hs : ∀ s ∈ ss, s.ok 77 7 recK ∧ s.xs = marks s.n s.mark) (ha : Frag 186 9 va ss.length (arrOf ss) H) :
    CallsT Tryz.prog 53 [va] (St w0 (H ++ (heapOf ss ++ η))) fun _ A' => ∃ ss' H', ss'.length = ss.length ∧ (∀ s ∈ ss', s.grown (St w0 (heapOf ss')) 7 recK) ∧ Frag 186 9 va ss'.length (arrOf ss') H' ∧ A' = St w0 (H' ++ (heapOf ss' ++ η)) := by
  have hml : ∀ s ∈ ss, s.mark.length = 7 := fun s h => (hs s h).1.mints.length
  have hF := ha
  obtain ⟨ada, ca, rfl, ⟨hca, hca2⟩, hblk⟩ := ha.slice
  have hal := ha.1
  refine CallsT.body Tryz.func53 rfl rfl ?_
  simp only [Tryz.ntmps53, slotsOf, Nat.reduceAdd]
  refine TC_seq ?_
  refine TC_reg ?_
  refine TL_q rfl rfl (QT_assign rfl rfl rfl) ?_
  refine TL_nil ?_
  refine TX_then ?_
  refine TC_block ?_
  refine TC_loop (γ := {d : List Strip // d.length ≤ ss.length ∧ ∀ s ∈ d, s.grown (St w0 s.H) 7 recK}) (fun t => [(0, true, .slice ada ss.length ca), (2, true, .int .i64 (t.1.length : Int))]) (fun t => St w0 (reH (arrOf ss).length (arrOf (t.1 ++ ss.drop t.1.length)) H ++ (heapOf t.1 ++ (heapOf (ss.drop t.1.length) ++ η)))) (fun t => ss.length - t.1.length) ⟨[], by simp, by simp⟩ ⟨rfl, rfl, trivial⟩ (fun _ h => by simpa [heapOf_nil, hF.re_self] using h) ?_
  rintro ⟨d, hi, hd⟩
  dsimp only
  refine TC_seq ?_
  refine TC_seq ?_
  refine TC_reg ?_
  refine TL_q rfl rfl (QT_move rfl rfl rfl) ?_
  refine TL_q rfl rfl (QT_move rfl rfl rfl) ?_
  refine TL_q rfl rfl (QT_len rfl rfl Tryz.underlying41 rfl) ?_
  refine TL_q rfl rfl (QT_lss rfl rfl rfl rfl) ?_
  refine TL_nil ?_
  refine TX_then ?_
  refine TC_cond_dec rfl (fun h7 => ?_) (fun h7 => ?_)
  ·
    refine TC_skip ?_
    refine TX_then ?_
    refine TC_seq ?_
    refine TC_block ?_
    refine TC_seq ?_
    have hin : d.length < ss.length := by omega
    have hmd : ∀ s ∈ d, s.mark.length = 7 := fun s h => (hd s h).mints.length
    obtain ⟨ba, rest, rfl, rfl⟩ := hblk (by omega)
    obtain ⟨s, hsi⟩ : ∃ s, ss[d.length]? = some s := ⟨_, List.getElem?_eq_getElem hin⟩
    have hdrop : ss.drop d.length = s :: ss.drop (d.length + 1) := by
      rw [List.drop_eq_getElem_cons hin]
      congr 1
      exact (List.getElem?_eq_some_iff.1 hsi).2
    obtain ⟨hok, hxs⟩ := hs s (List.mem_of_getElem? hsi)
    have hmls := hml s (List.mem_of_getElem? hsi)
    have hmt : ∀ s ∈ ss.drop (d.length + 1), s.mark.length = 7 := fun s h => hml s (List.mem_of_mem_drop h)
    have hI := LongInv.start (w0 := w0) hok hxs
    have hmi := hok.mints
    have hfew := hok.few
    obtain ⟨sad, scap, hsv, hscap, hsb⟩ := hok.frag.slice
    obtain ⟨sv, sn, sxs, slong, smk, sH⟩ := s
    dsimp only at hI hmi hfew hmls hsv hscap hsb
    subst hsv
    have hall : ∀ lv : Value, ∀ s' ∈ (d ++ (⟨.slice sad sn scap, sn, sxs, lv, smk, sH⟩ : Strip) :: ss.drop (d.length + 1)), s'.mark.length = 7 := fun lv s' h => by
      rcases List.mem_append.1 h with h | h
      · exact hmd s' h
      · rcases List.mem_cons.1 h with rfl | h
        · exact hmls
        · exact hmt s' h
    have hlens : ∀ lv : Value, (arrOf (d ++ (⟨.slice sad sn scap, sn, sxs, lv, smk, sH⟩ : Strip) :: ss.drop (d.length + 1))).length = ss.length * 9 := fun lv => by
      rw [arrOf_len (hall lv), List.length_append, List.length_cons, List.length_drop]
      congr 1; omega
    have hat : ∀ lv : Value, (arrOf (d ++ (⟨.slice sad sn scap, sn, sxs, lv, smk, sH⟩ : Strip) :: ss.drop (d.length + 1)))[d.length * (7 + 2)]? = some (.slice sad sn scap) ∧ (arrOf (d ++ (⟨.slice sad sn scap, sn, sxs, lv, smk, sH⟩ : Strip) :: ss.drop (d.length + 1)))[d.length * (7 + 2) + 1]? = some lv ∧ ((arrOf (d ++ (⟨.slice sad sn scap, sn, sxs, lv, smk, sH⟩ : Strip) :: ss.drop (d.length + 1))).drop (d.length * (7 + 2) + 2)).take 7 = smk ∧ d.length * (7 + 2) + 2 + 7 ≤ (arrOf (d ++ (⟨.slice sad sn scap, sn, sxs, lv, smk, sH⟩ : Strip) :: ss.drop (d.length + 1))).length := fun lv => arrOf_at (hall lv) (i := d.length) (s := ⟨_, sn, sxs, lv, smk, sH⟩) (by simp)
    have hset : ∀ lv r : Value, setAt (arrOf (d ++ (⟨.slice sad sn scap, sn, sxs, lv, smk, sH⟩ : Strip) :: ss.drop (d.length + 1)) ++ rest) (d.length * (7 + 2) + 1) [r] = arrOf (d ++ (⟨.slice sad sn scap, sn, sxs, r, smk, sH⟩ : Strip) :: ss.drop (d.length + 1)) ++ rest := fun lv r => arrOf_set hmd rest
    have hin2 : (d.length + 1) * 9 ≤ ss.length * 9 := Nat.mul_le_mul_right _ (by omega)
    rw [hdrop]
    refine TC_A (St w0 ((ba, 186, arrOf (d ++ (⟨.slice sad sn scap, sn, sxs, slong, smk, sH⟩ : Strip) :: ss.drop (d.length + 1)) ++ rest) :: (sH ++ ([] ++ (heapOf d ++ (heapOf (ss.drop (d.length + 1)) ++ η)))))) (fun w h => by
      simp only [reH, List.map_cons, List.map_nil, List.drop_left, heapOf_cons] at h
      exact h.cnt fun p => by simp only [List.countP_append, List.countP_cons, List.countP_nil]; omega) ?_
    have hrA : ∀ (X : Heap) (lv : Value), Rd (St w0 ((ba, 186, arrOf (d ++ (⟨.slice sad sn scap, sn, sxs, lv, smk, sH⟩ : Strip) :: ss.drop (d.length + 1)) ++ rest) :: X)) ba 0 (arrOf (d ++ (⟨.slice sad sn scap, sn, sxs, lv, smk, sH⟩ : Strip) :: ss.drop (d.length + 1))) := fun X lv => Rd.ownA (List.mem_cons_self ..) 0 (by simp)
    refine TC_reg ?_
    refine TL_q rfl rfl (QT_move rfl rfl rfl) ?_
    refine TL_q rfl rfl (QT_move rfl rfl rfl) ?_
    refine TL_q rfl rfl (QT_move rfl rfl rfl) ?_
    refine TL_q rfl rfl (QT_move rfl rfl rfl) ?_
    refine TL_q rfl rfl (QT_indexSlice (d.length) rfl rfl Tryz.underlying41 YtjdaglmkljbfkaaGreatDoorF.sz_186 rfl rfl (rfl) (fun _ => hin)) ?_
    refine TL_q rfl rfl (QT_field rfl rfl YtjdaglmkljbfkaaGreatDoorF.fld_186_0 rfl) ?_
    refine TL_q rfl rfl (QT_loadRj (d.length * 9) rfl rfl Tryz.underlying31 rfl (hrA _ slong) rfl (fun _ => (hat slong).1)) ?_
    refine TL_q rfl rfl (QT_indexSlice (d.length) rfl rfl Tryz.underlying41 YtjdaglmkljbfkaaGreatDoorF.sz_186 rfl rfl (rfl) (fun _ => hin)) ?_
    refine TL_q rfl rfl (QT_field rfl rfl YtjdaglmkljbfkaaGreatDoorF.fld_186_1 rfl) ?_
    refine TL_e0 rfl rfl (rfl) (ET_store (vs := [.slice sad sn scap]) 0 rfl rfl rfl rfl YtjdaglmkljbfkaaGreatDoorF.sz_31 rfl rfl (Nat.ble_eq_true_of_le (by have := hlens slong; simp only [List.length_append, List.length_cons, List.length_nil]; omega))) ?_
    rintro _ _ ⟨rfl, rfl⟩
    refine TL_nil ?_
    refine TX_then ?_
    refine TC_seq ?_
    refine TC_A (St w0 ((ba, 186, arrOf (d ++ (⟨.slice sad sn scap, sn, sxs, (.slice sad sn scap), smk, sH⟩ : Strip) :: ss.drop (d.length + 1)) ++ rest) :: (sH ++ ([] ++ (heapOf d ++ (heapOf (ss.drop (d.length + 1)) ++ η)))))) (fun w h => by
      simp only [upd, Nat.zero_add] at h
      rw [hset slong] at h
      exact h) ?_
    refine TC_reg ?_
    refine TL_q rfl rfl (QT_assign rfl rfl rfl) ?_
    refine TL_nil ?_
    refine TX_then ?_
    refine TC_block ?_
    refine TC_loop (γ := {t : Nat × Value × Heap × Heap // t.1 ≤ 24 ∧ LongInv w0 77 7 (.slice sad sn scap) sn smk t.2.1 (sn + t.1) t.2.2.1 t.2.2.2}) (fun t => [(0, true, .slice (some ⟨ba, 0, none⟩) ss.length ca), (2, true, .int .i64 (d.length : Int)), (3, true, .int .i64 (t.1.1 : Int))]) (fun t => St w0 ((ba, 186, arrOf (d ++ (⟨.slice sad sn scap, sn, sxs, t.1.2.1, smk, sH⟩ : Strip) :: ss.drop (d.length + 1)) ++ rest) :: (t.1.2.2.1 ++ (t.1.2.2.2 ++ (heapOf d ++ (heapOf (ss.drop (d.length + 1)) ++ η)))))) (fun t => 24 - t.1.1) ⟨(0, .slice sad sn scap, sH, []), by dsimp only; omega, hI⟩ ⟨rfl, rfl, rfl, trivial⟩ (fun _ h => h) ?_
    rintro ⟨⟨k, lv, HL, KK⟩, hk, hL⟩
    dsimp only at hk hL ⊢
    refine TC_seq ?_
    refine TC_seq ?_
    refine TC_reg ?_
    refine TL_q rfl rfl (QT_move rfl rfl rfl) ?_
    refine TL_q rfl rfl (QT_lss rfl rfl rfl rfl) ?_
    refine TL_nil ?_
    refine TX_then ?_
    refine TC_cond_dec rfl (fun h20 => ?_) (fun h20 => ?_)
    ·
      refine TC_skip ?_
      refine TX_then ?_
      refine TC_seq ?_
      refine TC_block ?_
      have hk24 : k < 24 := by omega
      refine TC_draw [(0, 0), (1, 0), (2, 0), (3, 0), (4, 0), (5, 0), (6, 0), (7, 0), (8, 0), (9, 0), (10, 0), (11, 0), (12, 1), (13, 1), (14, 0), (15, 0), (16, 1)] YtjdaglmkljbfkaaGreatDoorF.mixed (by kernel_rfl) (St.calm _ _) ?_
      refine TV_q rfl rfl rfl (fun _ => QT_move rfl rfl rfl) ?_
      refine TV_q rfl rfl rfl (fun _ => QT_move rfl rfl rfl) ?_
      refine TV_q rfl rfl rfl (fun _ => QT_move rfl rfl rfl) ?_
      refine TV_q rfl rfl rfl (fun _ => QT_move rfl rfl rfl) ?_
      refine TV_q rfl rfl rfl (fun _ => QT_indexSlice (d.length) rfl rfl Tryz.underlying41 YtjdaglmkljbfkaaGreatDoorF.sz_186 rfl rfl (rfl) (fun _ => hin)) ?_
      refine TV_q rfl rfl rfl (fun _ => QT_field rfl rfl YtjdaglmkljbfkaaGreatDoorF.fld_186_1 rfl) ?_
      refine TV_ql rfl rfl rfl (QT_loadRj (d.length * 9 + 1) rfl rfl Tryz.underlying31 rfl ((hrA [] lv).mono fun _ h => h.cnt fun p => by simp only [List.countP_append, List.countP_cons, List.countP_nil]; omega) rfl (fun _ => (hat lv).2.1)) ?_
      refine TV_q rfl rfl rfl (fun _ => QT_move rfl rfl rfl) ?_
      refine TV_q rfl rfl rfl (fun _ => QT_move rfl rfl rfl) ?_
      refine TV_q rfl rfl rfl (fun _ => QT_indexSlice (d.length) rfl rfl Tryz.underlying41 YtjdaglmkljbfkaaGreatDoorF.sz_186 rfl rfl (rfl) (fun _ => hin)) ?_
      refine TV_q rfl rfl rfl (fun _ => QT_field rfl rfl YtjdaglmkljbfkaaGreatDoorF.fld_186_2 rfl) ?_
      refine TV_ql rfl rfl rfl (QT_loadRAj (d.length * 9 + 2) rfl rfl Tryz.underlying77 rfl YtjdaglmkljbfkaaGreatDoorF.sz_77 ((hrA [] lv).mono fun _ h => h.cnt fun p => by simp only [List.countP_append, List.countP_cons, List.countP_nil]; omega) rfl (fun _ => (hat lv).2.2.2) (fun _ => (hat lv).2.2.1)) ?_
      refine TV_e rfl rfl rfl rfl (rfl) (ET_buildN [_] rfl Tryz.underlying31 YtjdaglmkljbfkaaGreatDoorF.sz_77 YtjdaglmkljbfkaaGreatDoorF.zero_77 rfl rfl rfl (by simp [Value.cells, hmls])) ?_
      rintro _ _ ⟨b35, rfl, rfl⟩
      refine ⟨_, .drop (by kernel_rfl) (.keep (by kernel_rfl) rfl (by first | exact QT_loadRj (d.length * 9 + 1) rfl rfl Tryz.underlying31 rfl ((hrA [] lv).mono fun _ h => h.cnt fun p => by simp only [List.countP_append, List.countP_cons, List.countP_nil]; omega) rfl (fun _ => (hat lv).2.1)) (.nil)), ?_⟩
      refine TV_e rfl rfl rfl rfl (rfl) (ET_long (L := [_, _]) rfl Tryz.underlying31 el_Rec rfl rfl hL hmls (fun _ h => h) (SlA.own (n := 1) (xs := smk) 0 rfl (by rw [List.drop_zero, List.take_of_length_le (by simp [Value.cells, hmls])]; simp [Value.cells]) (by simp [Value.cells, hmls]) (by omega)) hmi.oneCell (few_b hfew hk24 (by decide)) (few_l hfew hk24)) ?_
      rintro lv2 _ ⟨H', K', hL', rfl⟩
      refine ⟨_, .drop (by kernel_rfl) (.nil), ?_⟩
      obtain ⟨ad2, cap2, rfl, _⟩ := hL'.frag.slice
      refine TV_q rfl rfl rfl (fun _ => QT_indexSlice (d.length) rfl rfl Tryz.underlying41 YtjdaglmkljbfkaaGreatDoorF.sz_186 rfl rfl (rfl) (fun _ => hin)) ?_
      refine TV_q rfl rfl rfl (fun _ => QT_field rfl rfl YtjdaglmkljbfkaaGreatDoorF.fld_186_1 rfl) ?_
      refine TV_e0 rfl rfl rfl (rfl) (ET_store (vs := [.slice ad2 (sn + k + 1) cap2]) 1 rfl rfl rfl rfl YtjdaglmkljbfkaaGreatDoorF.sz_31 rfl rfl (Nat.ble_eq_true_of_le (by have := hlens lv; simp only [List.length_append, List.length_cons, List.length_nil]; omega))) ?_
      rintro _ _ ⟨rfl, rfl⟩
      refine ⟨_, .nil, ?_⟩
      refine TV_end ?_
      refine TX_block_normal ?_
      refine TX_then ?_
      refine TC_reg ?_
      refine TL_q rfl rfl (QT_move rfl rfl rfl) ?_
      refine TL_q rfl rfl (QT_add rfl rfl rfl rfl (fun _ => ⟨by omega, by omega⟩)) ?_
      refine TL_q rfl rfl (QT_assign rfl rfl rfl) ?_
      refine TL_nil ?_
      refine TX_round ⟨(k + 1, .slice ad2 (sn + k + 1) cap2, H', K'), by dsimp only; omega, hL'⟩ (by dsimp only; omega) ⟨rfl, rfl, slotI rfl (by dsimp only; omega), trivial⟩ (fun w h => ?_)
      simp only [upd, Nat.zero_add] at h
      rw [hset lv] at h
      exact h.tail
    ·
      refine TC_exit ?_
      refine TX_then_exit ?_
      refine TX_then_exit ?_
      refine TX_block_here ?_
      refine TX_block_normal ?_
      refine TX_then ?_
      refine TC_reg ?_
      refine TL_q rfl rfl (QT_move rfl rfl rfl) ?_
      refine TL_q rfl rfl (QT_add rfl rfl rfl rfl (fun _ => ⟨by omega, by omega⟩)) ?_
      refine TL_q rfl rfl (QT_assign rfl rfl rfl) ?_
      refine TL_nil ?_
      obtain rfl : k = 24 := by omega
      have hg := LongInv.grown (s := ⟨.slice sad sn scap, sn, sxs, lv, smk, sH⟩) hL hmi rfl hfew
      refine TX_round ⟨d ++ [⟨.slice sad sn scap, sn, sxs, lv, smk, HL ++ KK⟩], by simp; omega, fun s h => ?_⟩ (by simp only [List.length_append, List.length_cons, List.length_nil]; omega) ⟨rfl, slotI rfl (by simp), trivial⟩ (fun w h => ?_)
      · rcases List.mem_append.1 h with h | h
        · exact hd s h
        · obtain rfl := List.mem_singleton.1 h
          exact hg
      · have e : arrOf ((d ++ [(⟨.slice sad sn scap, sn, sxs, lv, smk, HL ++ KK⟩ : Strip)]) ++ ss.drop (d.length + 1)) = arrOf (d ++ (⟨.slice sad sn scap, sn, sxs, lv, smk, sH⟩ : Strip) :: ss.drop (d.length + 1)) := by
          simp [arrOf, Strip.cells]
        simp only [List.length_append, List.length_cons, List.length_nil, Nat.zero_add, e, heapOf_append, heapOf_cons, heapOf_nil, reH, List.map_cons, List.map_nil, List.drop_left]
        exact h.cnt fun p => by simp only [List.countP_append, List.countP_cons, List.countP_nil]; omega
  ·
    refine TC_exit ?_
    refine TX_then_exit ?_
    refine TX_then_exit ?_
    refine TX_block_here ?_
    refine TX_ret (.inr rfl) (res0 rfl) ⟨_, ⟨d, reH (arrOf ss).length (arrOf d) H, by omega, fun s h => (hd s h).mono fun _ hw => hw.cnt (heapOf_mem h), ?_, rfl⟩, fun w h => ?_⟩
    · have hdl : d.length = ss.length := by omega
      rw [hdl]
      exact hF.re (by rw [arrOf_len (Z := 7) (fun s h => (hd s h).mints.length), arrOf_len hml, hdl])
    · have hdl : ss.drop d.length = [] := List.drop_eq_nil_of_le (by omega)
      rw [hdl, List.append_nil, heapOf_nil] at h
      simpa using h
theorem fill_Tri (w0 : Base) (η : Heap) (va : Value) (ss : List Strip) (hs : ∀ s ∈ ss, s.ok 79 21 triK) (ha : SlA (St w0 η) va 23 ss.length (arrOf ss)) :
    CallsT Tryz.prog 41 [va] (St w0 (heapOf ss ++ η)) fun _ A' => A' = St w0 (heapOf (ss.map (fillS 21)) ++ η) := by
  have hml : ∀ s ∈ ss, s.mark.length = 21 := fun s h => (hs s h).mints.length
  obtain ⟨hal, ada, ca, rfl, ⟨hca, hca2⟩, hra⟩ := ha
  refine CallsT.body Tryz.func41 rfl rfl ?_
  simp only [Tryz.ntmps41, slotsOf, Nat.reduceAdd]
  refine TC_seq ?_
  refine TC_reg ?_
  refine TL_q rfl rfl (QT_assign rfl rfl rfl) ?_
  refine TL_nil ?_
  refine TX_then ?_
  refine TC_block ?_
  refine TC_loop (γ := {i : Nat // i ≤ ss.length}) (fun t => [(0, true, .slice ada ss.length ca), (2, true, .int .i64 (t.1 : Int))]) (fun t => St w0 (heapOf ((ss.take t.1).map (fillS 21)) ++ (heapOf (ss.drop t.1) ++ η))) (fun t => ss.length - t.1) ⟨0, by omega⟩ ⟨rfl, rfl, trivial⟩ (fun _ h => by simpa [heapOf] using h) ?_
  rintro ⟨i, hi⟩
  dsimp only
  refine TC_seq ?_
  refine TC_seq ?_
  refine TC_reg ?_
  refine TL_q rfl rfl (QT_move rfl rfl rfl) ?_
  refine TL_q rfl rfl (QT_move rfl rfl rfl) ?_
  refine TL_q rfl rfl (QT_len rfl rfl Tryz.underlying42 rfl) ?_
  refine TL_q rfl rfl (QT_lss rfl rfl rfl rfl) ?_
  refine TL_nil ?_
  refine TX_then ?_
  refine TC_cond_dec rfl (fun h7 => ?_) (fun h7 => ?_)
  ·
    refine TC_skip ?_
    refine TX_then ?_
    refine TC_seq ?_
    refine TC_block ?_
    refine TC_seq ?_
    have hin : i < ss.length := by omega
    obtain ⟨ba, oa, rfl, hrA⟩ := hra.resolve_left (by omega)
    obtain ⟨s, hsi⟩ : ∃ s, ss[i]? = some s := ⟨_, List.getElem?_eq_getElem hin⟩
    obtain ⟨hat1, hat2, hat3, hat4⟩ := arrOf_at hml hsi
    have hdrop : ss.drop i = s :: ss.drop (i + 1) := by
      rw [List.drop_eq_getElem_cons hin]
      congr 1
      exact (List.getElem?_eq_some_iff.1 hsi).2
    have htake : (ss.take (i + 1)).map (fillS 21) = (ss.take i).map (fillS 21) ++ [fillS 21 s] := by
      rw [List.take_add_one, hsi]; simp
    have hok := hs s (List.mem_of_getElem? hsi)
    have hmls := hml s (List.mem_of_getElem? hsi)
    rw [hdrop, heapOf_cons]
    obtain ⟨sv, sn, sxs, slong, smk, sH⟩ := s
    obtain ⟨⟨hfl, hfr⟩, hmk, hfew⟩ := hok
    dsimp only at hfl hfr hmk hfew hmls hat1 hat2 hat3 hat4
    have hsv : ∃ sad scap, sv = .slice sad sn scap := by
      rcases hfr with ⟨rfl, rfl, _⟩ | ⟨b, cap, rest, rfl, _⟩
      · exact ⟨_, _, rfl⟩
      · exact ⟨_, _, rfl⟩
    obtain ⟨sad, scap, rfl⟩ := hsv
    refine TC_reg ?_
    refine TL_q rfl rfl (QT_assign rfl rfl rfl) ?_
    refine TL_nil ?_
    refine TX_then ?_
    refine TC_block ?_
    refine TC_loop (γ := {k : Nat // k ≤ sn}) (fun t => [(0, true, .slice (some ⟨ba, oa, none⟩) ss.length ca), (2, true, .int .i64 (i : Int)), (3, true, .int .i64 (t.1 : Int))]) (fun t => St w0 (fillH 21 t.1 smk sH ++ (heapOf ((ss.take i).map (fillS 21)) ++ (heapOf (ss.drop (i + 1)) ++ η)))) (fun t => sn - t.1) ⟨0, by omega⟩ ⟨rfl, rfl, rfl, trivial⟩ (fun _ h => h.cnt (fun p => by simp only [fillH_zero, List.countP_append]; omega)) ?_
    rintro ⟨k, hk⟩
    dsimp only
    refine TC_seq ?_
    refine TC_seq ?_
    refine TC_reg ?_
    refine TL_q rfl rfl (QT_move rfl rfl rfl) ?_
    refine TL_q rfl rfl (QT_move rfl rfl rfl) ?_
    refine TL_q rfl rfl (QT_move rfl rfl rfl) ?_
    refine TL_q rfl rfl (QT_indexSlice (i) rfl rfl Tryz.underlying42 YtjdaglmkljbfkaaGreatDoorF.sz_160 rfl rfl (rfl) (fun _ => hin)) ?_
    refine TL_q rfl rfl (QT_field rfl rfl YtjdaglmkljbfkaaGreatDoorF.fld_160_0 rfl) ?_
    refine TL_q rfl rfl (QT_loadRj (i * 23) rfl rfl Tryz.underlying61 rfl (hrA.mono fun _ h => h.cnt fun p => by simp only [List.countP_append]; omega) rfl (fun _ => hat1)) ?_
    refine TL_q rfl rfl (QT_len rfl rfl Tryz.underlying61 rfl) ?_
    refine TL_q rfl rfl (QT_lss rfl rfl rfl rfl) ?_
    refine TL_nil ?_
    refine TX_then ?_
    refine TC_cond_dec rfl (fun h17 => ?_) (fun h17 => ?_)
    ·
      refine TC_skip ?_
      refine TX_then ?_
      refine TC_seq ?_
      refine TC_block ?_
      have hkn : k < sn := by omega
      have hszm : Sz Tryz.prog 79 smk.length := by rw [hmls]; exact YtjdaglmkljbfkaaGreatDoorF.sz_79
      have hkz : (k + 1) * 21 ≤ sn * 21 := Nat.mul_le_mul_right _ (by omega)
      obtain ⟨b, cap, rest, hv, hcap, hlen, rfl⟩ : ∃ b cap rest, Value.slice sad sn scap = .slice (some ⟨b, 0, none⟩) sn cap ∧ (sn ≤ cap ∧ cap ≤ 9223372036854775807) ∧ cap * 21 ≤ (sxs ++ rest).length ∧ sH = [(b, 79, sxs ++ rest)] := by
        rcases hfr with ⟨_, h0, _⟩ | h
        · omega
        · exact h
      simp only [Value.slice.injEq, true_and] at hv
      obtain ⟨rfl, rfl⟩ := hv
      have hcz : sn * 21 ≤ scap * 21 := Nat.mul_le_mul_right _ (by omega)
      refine TC_draw [(0, 0), (1, 0), (2, 0), (3, 0), (4, 0), (5, 0), (6, 0), (7, 0), (8, 0), (9, 0), (10, 0), (11, 0), (12, 1)] YtjdaglmkljbfkaaGreatDoorF.mixed (by kernel_rfl) (St.calm _ _) ?_
      refine TV_q rfl rfl rfl (fun _ => QT_move rfl rfl rfl) ?_
      refine TV_q rfl rfl rfl (fun _ => QT_move rfl rfl rfl) ?_
      refine TV_q rfl rfl rfl (fun _ => QT_indexSlice (i) rfl rfl Tryz.underlying42 YtjdaglmkljbfkaaGreatDoorF.sz_160 rfl rfl (rfl) (fun _ => hin)) ?_
      refine TV_q rfl rfl rfl (fun _ => QT_field rfl rfl YtjdaglmkljbfkaaGreatDoorF.fld_160_0 rfl) ?_
      refine TV_ql rfl rfl rfl (QT_loadRj (i * 23) rfl rfl Tryz.underlying61 rfl (hrA.mono fun _ h => h.cnt fun p => by simp only [List.countP_append]; omega) rfl (fun _ => hat1)) ?_
      refine TV_q rfl rfl rfl (fun _ => QT_move rfl rfl rfl) ?_
      refine TV_q rfl rfl rfl (fun _ => QT_move rfl rfl rfl) ?_
      refine TV_q rfl rfl rfl (fun _ => QT_move rfl rfl rfl) ?_
      refine TV_q rfl rfl rfl (fun _ => QT_indexSlice (i) rfl rfl Tryz.underlying42 YtjdaglmkljbfkaaGreatDoorF.sz_160 rfl rfl (rfl) (fun _ => hin)) ?_
      refine TV_q rfl rfl rfl (fun _ => QT_field rfl rfl YtjdaglmkljbfkaaGreatDoorF.fld_160_2 rfl) ?_
      refine TV_ql rfl rfl rfl (QT_loadRAj (i * 23 + 2) rfl rfl Tryz.underlying79 rfl YtjdaglmkljbfkaaGreatDoorF.sz_79 (hrA.mono fun _ h => h.cnt fun p => by simp only [List.countP_append]; omega) rfl (fun _ => hat4) (fun _ => hat3)) ?_
      refine TV_q rfl rfl rfl (fun _ => QT_indexSlice (k) rfl rfl Tryz.underlying61 YtjdaglmkljbfkaaGreatDoorF.sz_79 rfl rfl (rfl) (fun _ => hkn)) ?_
      refine TV_e0 rfl rfl rfl (rfl) (ET_store (vs := smk) 0 rfl rfl rfl rfl hszm rfl (by rw [List.all_eq_true]; exact hmk.oneCell) (Nat.ble_eq_true_of_le (by simp only [List.length_append, List.length_drop, marks_len hmls]; omega))) ?_
      rintro _ _ ⟨rfl, rfl⟩
      refine ⟨_, .drop (by kernel_rfl) (.drop (by kernel_rfl) (.nil)), ?_⟩
      refine TV_end ?_
      refine TX_block_normal ?_
      refine TX_then ?_
      skip
      refine TC_reg ?_
      refine TL_q rfl rfl (QT_move rfl rfl rfl) ?_
      refine TL_q rfl rfl (QT_add rfl rfl rfl rfl (fun _ => ⟨by omega, by omega⟩)) ?_
      refine TL_q rfl rfl (QT_assign rfl rfl rfl) ?_
      refine TL_nil ?_
      refine TX_round ⟨k + 1, by omega⟩ (by dsimp only; omega) ⟨rfl, rfl, slotI rfl (by dsimp only; omega), trivial⟩ (fun w h => ?_)
      simp only [fillH, List.map_cons, List.map_nil, List.singleton_append, List.cons_append, List.nil_append, upd, Nat.zero_add] at h ⊢
      rw [fill_step hmls (by omega)] at h
      exact h
    ·
      refine TC_exit ?_
      refine TX_then_exit ?_
      refine TX_then_exit ?_
      refine TX_block_here ?_
      refine TX_block_normal ?_
      refine TX_then ?_
      refine TC_reg ?_
      refine TL_q rfl rfl (QT_move rfl rfl rfl) ?_
      refine TL_q rfl rfl (QT_add rfl rfl rfl rfl (fun _ => ⟨by omega, by omega⟩)) ?_
      refine TL_q rfl rfl (QT_assign rfl rfl rfl) ?_
      refine TL_nil ?_
      refine TX_round ⟨i + 1, by omega⟩ (by dsimp only; omega) ⟨rfl, slotI rfl (by dsimp only; omega), trivial⟩ (fun w h => h.cnt fun p => ?_)
      obtain rfl : k = sn := by omega
      rw [htake, heapOf_append, heapOf_cons, heapOf_nil]
      simp only [fillS, List.countP_append, List.countP_nil]; omega
  ·
    refine TC_exit ?_
    refine TX_then_exit ?_
    refine TX_then_exit ?_
    refine TX_block_here ?_
    refine TX_ret (.inr rfl) (res0 rfl) ⟨_, rfl, fun w h => ?_⟩
    obtain rfl : i = ss.length := by omega
    simpa [heapOf] using h
theorem marked_Tri (w0 : Base) (η : Heap) (va : Value) (ss : List Strip) (hs : ∀ s ∈ ss, s.grown (St w0 η) 21 triK) (ha : SlA (St w0 η) va 23 ss.length (arrOf ss)) :
    CallsT Tryz.prog 67 [va] (St w0 η) fun v A' => v = .bool true ∧ A' = St w0 η := by
  have hml : ∀ s ∈ ss, s.mark.length = 21 := fun s h => (hs s h).mints.length
  obtain ⟨hal, ada, ca, rfl, ⟨hca, hca2⟩, hra⟩ := ha
  refine CallsT.body Tryz.func67 rfl rfl ?_
  simp only [Tryz.ntmps67, slotsOf, Nat.reduceAdd]
  refine TC_seq ?_
  refine TC_reg ?_
  refine TL_q rfl rfl (QT_assign rfl rfl rfl) ?_
  refine TL_nil ?_
  refine TX_then ?_
  refine TC_seq ?_
  refine TC_seq ?_
  refine TC_reg ?_
  refine TL_q rfl rfl (QT_assign rfl rfl rfl) ?_
  refine TL_nil ?_
  refine TX_then ?_
  refine TC_block ?_
  refine TC_loop (γ := {i : Nat // i ≤ ss.length}) (fun t => [(0, true, .slice ada ss.length ca), (3, true, .int .i64 (t.1 : Int))]) (fun t => St w0 η) (fun t => ss.length - t.1) ⟨0, by omega⟩ ⟨rfl, rfl, trivial⟩ (fun _ h => h) ?_
  rintro ⟨i, hi⟩
  dsimp only
  refine TC_seq ?_
  refine TC_seq ?_
  refine TC_reg ?_
  refine TL_q rfl rfl (QT_move rfl rfl rfl) ?_
  refine TL_q rfl rfl (QT_move rfl rfl rfl) ?_
  refine TL_q rfl rfl (QT_len rfl rfl Tryz.underlying42 rfl) ?_
  refine TL_q rfl rfl (QT_lss rfl rfl rfl rfl) ?_
  refine TL_nil ?_
  refine TX_then ?_
  refine TC_cond_dec rfl (fun h8 => ?_) (fun h8 => ?_)
  ·
    refine TC_skip ?_
    refine TX_then ?_
    refine TC_seq ?_
    refine TC_block ?_
    refine TC_seq ?_
    have hin : i < ss.length := by omega
    obtain ⟨ba, oa, rfl, hrA⟩ := hra.resolve_left (by omega)
    obtain ⟨s, hsi⟩ : ∃ s, ss[i]? = some s := ⟨_, List.getElem?_eq_getElem hin⟩
    obtain ⟨hat1, hat2, hat3, hat4⟩ := arrOf_at hml hsi
    have hok := hs s (List.mem_of_getElem? hsi)
    have hmls := hml s (List.mem_of_getElem? hsi)
    obtain ⟨sv, sn, sxs, slong, smk, sH⟩ := s
    obtain ⟨hl, hlong, hmk, hfew⟩ := hok
    dsimp only at hl hlong hmk hfew hmls hat1 hat2 hat3 hat4
    obtain ⟨hll, lad, lcap, lb, loff, rfl, hlc, hlad, hlr⟩ := hl.some
    obtain ⟨hgl, gad, gcap, gb, goff, rfl, hgc, hgad, hgr⟩ := hlong.some
    obtain rfl := hgad (by omega)
    have hself : eqC smk smk = true := eqC_refl hmk
    refine TC_reg ?_
    refine TL_q rfl rfl (QT_assign rfl rfl rfl) ?_
    refine TL_nil ?_
    refine TX_then ?_
    refine TC_block ?_
    refine TC_loop (γ := {k : Nat // k ≤ sn + 24}) (fun t => [(0, true, .slice (some ⟨ba, oa, none⟩) ss.length ca), (3, true, .int .i64 (i : Int)), (4, true, .int .i64 (t.1 : Int))]) (fun t => St w0 η) (fun t => sn + 24 - t.1) ⟨0, by omega⟩ ⟨rfl, rfl, rfl, trivial⟩ (fun _ h => h) ?_
    rintro ⟨k, hk⟩
    dsimp only
    refine TC_seq ?_
    refine TC_seq ?_
    refine TC_reg ?_
    refine TL_q rfl rfl (QT_move rfl rfl rfl) ?_
    refine TL_q rfl rfl (QT_move rfl rfl rfl) ?_
    refine TL_q rfl rfl (QT_move rfl rfl rfl) ?_
    refine TL_q rfl rfl (QT_indexSlice (i) rfl rfl Tryz.underlying42 YtjdaglmkljbfkaaGreatDoorF.sz_160 rfl rfl (rfl) (fun _ => hin)) ?_
    refine TL_q rfl rfl (QT_field rfl rfl YtjdaglmkljbfkaaGreatDoorF.fld_160_1 rfl) ?_
    refine TL_q rfl rfl (QT_loadRj (i * 23 + 1) rfl rfl Tryz.underlying61 rfl hrA rfl (fun _ => hat2)) ?_
    refine TL_q rfl rfl (QT_len rfl rfl Tryz.underlying61 rfl) ?_
    refine TL_q rfl rfl (QT_lss rfl rfl rfl rfl) ?_
    refine TL_nil ?_
    refine TX_then ?_
    refine TC_cond_dec rfl (fun h18 => ?_) (fun h18 => ?_)
    ·
      refine TC_skip ?_
      refine TX_then ?_
      refine TC_seq ?_
      refine TC_block ?_
      refine TC_seq ?_
      have hkn : k < sn + 24 := by omega
      have hz1 : k * 21 + 21 ≤ (marks (sn + 24) smk).length := by
        rw [marks_len hmls]
        have : (k + 1) * 21 ≤ (sn + 24) * 21 := Nat.mul_le_mul_right _ (by omega)
        rw [Nat.add_mul] at this; omega
      have hz2 : (true && !decide ((k : Int) < (sn : Int))) = true ∨ k * 21 + 21 ≤ (marks sn smk).length := by
        by_cases h : k < sn
        · refine .inr ?_
          rw [marks_len hmls]
          have : (k + 1) * 21 ≤ sn * 21 := Nat.mul_le_mul_right _ (by omega)
          rw [Nat.add_mul] at this; omega
        · refine .inl ?_
          simpa using h
      refine TC_draw [(0, 0), (1, 0), (2, 0), (3, 0), (4, 0), (5, 0), (6, 0), (7, 0), (8, 0), (9, 0), (10, 0), (11, 0), (12, 0), (13, 0), (14, 0), (15, 0), (16, 0), (17, 0), (18, 0), (19, 0), (20, 0), (21, 0), (22, 0), (23, 0), (24, 0), (25, 0), (26, 0), (27, 0), (28, 0), (29, 0), (30, 0), (31, 0), (32, 0), (33, 0), (34, 0), (35, 0), (36, 0), (37, 0), (38, 0), (39, 0)] YtjdaglmkljbfkaaGreatDoorF.mixed (by kernel_rfl) (St.calm _ _) ?_
      refine TV_q rfl rfl rfl (fun _ => QT_move rfl rfl rfl) ?_
      refine TV_q rfl rfl rfl (fun _ => QT_move rfl rfl rfl) ?_
      refine TV_q rfl rfl rfl (fun _ => QT_indexSlice (i) rfl rfl Tryz.underlying42 YtjdaglmkljbfkaaGreatDoorF.sz_160 rfl rfl (rfl) (fun _ => hin)) ?_
      refine TV_q rfl rfl rfl (fun _ => QT_field rfl rfl YtjdaglmkljbfkaaGreatDoorF.fld_160_1 rfl) ?_
      refine TV_ql rfl rfl rfl (QT_loadRj (i * 23 + 1) rfl rfl Tryz.underlying61 rfl hrA rfl (fun _ => hat2)) ?_
      refine TV_q rfl rfl rfl (fun _ => QT_move rfl rfl rfl) ?_
      refine TV_q rfl rfl rfl (fun _ => QT_indexSlice (k) rfl rfl Tryz.underlying61 YtjdaglmkljbfkaaGreatDoorF.sz_79 rfl rfl (rfl) (fun _ => hkn)) ?_
      refine TV_ql rfl rfl rfl (QT_loadRAj (k * 21) rfl rfl Tryz.underlying79 rfl YtjdaglmkljbfkaaGreatDoorF.sz_79 hgr rfl (fun _ => hz1) (fun _ => elem_marks hmls hkn)) ?_
      refine TV_q rfl rfl rfl (fun _ => QT_move rfl rfl rfl) ?_
      refine TV_q rfl rfl rfl (fun _ => QT_move rfl rfl rfl) ?_
      refine TV_q rfl rfl rfl (fun _ => QT_indexSlice (i) rfl rfl Tryz.underlying42 YtjdaglmkljbfkaaGreatDoorF.sz_160 rfl rfl (rfl) (fun _ => hin)) ?_
      refine TV_q rfl rfl rfl (fun _ => QT_field rfl rfl YtjdaglmkljbfkaaGreatDoorF.fld_160_2 rfl) ?_
      refine TV_ql rfl rfl rfl (QT_loadRAj (i * 23 + 2) rfl rfl Tryz.underlying79 rfl YtjdaglmkljbfkaaGreatDoorF.sz_79 hrA rfl (fun _ => hat4) (fun _ => hat3)) ?_
      refine TV_q rfl rfl rfl (fun _ => QT_neA rfl rfl eq_Tri rfl rfl (fun _ => hmk) (fun _ => hmk)) ?_
      refine TV_q rfl rfl rfl (fun _ => QT_move rfl rfl rfl) ?_
      refine TV_q rfl rfl rfl (fun _ => QT_move rfl rfl rfl) ?_
      refine TV_q rfl rfl rfl (fun _ => QT_move rfl rfl rfl) ?_
      refine TV_q rfl rfl rfl (fun _ => QT_move rfl rfl rfl) ?_
      refine TV_q rfl rfl rfl (fun _ => QT_indexSlice (i) rfl rfl Tryz.underlying42 YtjdaglmkljbfkaaGreatDoorF.sz_160 rfl rfl (rfl) (fun _ => hin)) ?_
      refine TV_q rfl rfl rfl (fun _ => QT_field rfl rfl YtjdaglmkljbfkaaGreatDoorF.fld_160_0 rfl) ?_
      refine TV_ql rfl rfl rfl (QT_loadRj (i * 23) rfl rfl Tryz.underlying61 rfl hrA rfl (fun _ => hat1)) ?_
      refine TV_q rfl rfl rfl (fun _ => QT_len rfl rfl Tryz.underlying61 rfl) ?_
      refine TV_q rfl rfl rfl (fun _ => QT_lss rfl rfl rfl rfl) ?_
      refine TV_q rfl rfl rfl (fun _ => QT_move rfl rfl rfl) ?_
      refine TV_q rfl rfl rfl (fun _ => QT_move rfl rfl rfl) ?_
      refine TV_q rfl rfl rfl (fun _ => QT_move rfl rfl rfl) ?_
      refine TV_q rfl rfl rfl (fun _ => QT_indexSlice (i) rfl rfl Tryz.underlying42 YtjdaglmkljbfkaaGreatDoorF.sz_160 rfl rfl (rfl) (fun _ => hin)) ?_
      refine TV_q rfl rfl rfl (fun _ => QT_field rfl rfl YtjdaglmkljbfkaaGreatDoorF.fld_160_0 rfl) ?_
      refine TV_ql rfl rfl rfl (QT_loadRj (i * 23) rfl rfl Tryz.underlying61 rfl hrA rfl (fun _ => hat1)) ?_
      refine TV_q rfl rfl rfl (fun _ => QT_move rfl rfl rfl) ?_
      refine TV_q rfl rfl rfl (fun _ => QT_indexG k rfl rfl Tryz.underlying61 YtjdaglmkljbfkaaGreatDoorF.sz_79 rfl rfl rfl (fun h => by simp at h; omega) (fun h => hlad (by simp at h; omega))) ?_
      refine TV_ql rfl rfl rfl (QT_loadRAj (k * 21) rfl rfl Tryz.underlying79 rfl YtjdaglmkljbfkaaGreatDoorF.sz_79 hlr rfl (fun h => by simp at h hz2; omega) (fun h => elem_marks hmls (by simp at h; omega))) ?_
      refine TV_q rfl rfl rfl (fun _ => QT_move rfl rfl rfl) ?_
      refine TV_q rfl rfl rfl (fun _ => QT_move rfl rfl rfl) ?_
      refine TV_q rfl rfl rfl (fun _ => QT_indexSlice (i) rfl rfl Tryz.underlying42 YtjdaglmkljbfkaaGreatDoorF.sz_160 rfl rfl (rfl) (fun _ => hin)) ?_
      refine TV_q rfl rfl rfl (fun _ => QT_field rfl rfl YtjdaglmkljbfkaaGreatDoorF.fld_160_2 rfl) ?_
      refine TV_ql rfl rfl rfl (QT_loadRAj (i * 23 + 2) rfl rfl Tryz.underlying79 rfl YtjdaglmkljbfkaaGreatDoorF.sz_79 hrA rfl (fun _ => hat4) (fun _ => hat3)) ?_
      refine TV_q rfl rfl rfl (fun _ => QT_neA rfl rfl eq_Tri rfl rfl (fun _ => hmk) (fun _ => hmk)) ?_
      refine TV_q rfl rfl rfl (fun _ => QT_and rfl rfl rfl rfl) ?_
      refine TV_q rfl rfl rfl (fun _ => QT_or rfl rfl rfl rfl) ?_
      refine TV_end ?_
      refine TX_then ?_
      refine TC_cond rfl (fun h => absurd (h.symm.trans ((show (_ : Bool) = false by rw [hself]; simp))) (by decide)) (fun _ => ?_)
      refine TC_skip ?_
      refine TX_block_normal ?_
      refine TX_then ?_
      refine TC_reg ?_
      refine TL_q rfl rfl (QT_move rfl rfl rfl) ?_
      refine TL_q rfl rfl (QT_add rfl rfl rfl rfl (fun _ => ⟨by omega, by omega⟩)) ?_
      refine TL_q rfl rfl (QT_assign rfl rfl rfl) ?_
      refine TL_nil ?_
      exact TX_round ⟨k + 1, by omega⟩ (by dsimp only; omega) ⟨rfl, rfl, slotI rfl (by dsimp only; omega), trivial⟩ (fun w h => h)
    ·
      refine TC_exit ?_
      refine TX_then_exit ?_
      refine TX_then_exit ?_
      refine TX_block_here ?_
      refine TX_block_normal ?_
      refine TX_then ?_
      refine TC_reg ?_
      refine TL_q rfl rfl (QT_move rfl rfl rfl) ?_
      refine TL_q rfl rfl (QT_add rfl rfl rfl rfl (fun _ => ⟨by omega, by omega⟩)) ?_
      refine TL_q rfl rfl (QT_assign rfl rfl rfl) ?_
      refine TL_nil ?_
      exact TX_round ⟨i + 1, by omega⟩ (by dsimp only; omega) ⟨rfl, slotI rfl (by dsimp only; omega), trivial⟩ (fun w h => h)
  ·
    refine TC_exit ?_
    refine TX_then_exit ?_
    refine TX_then_exit ?_
    refine TX_block_here ?_
    refine TX_then ?_
    refine TC_seq ?_
    refine TC_reg ?_
    refine TL_q rfl rfl (QT_assign rfl rfl rfl) ?_
    refine TL_nil ?_
    refine TX_then ?_
    refine TC_ret ?_
    exact TX_ret (.inl rfl) (res1 rfl rfl) ⟨_, ⟨rfl, rfl⟩, (fun _ h => by first | exact h | exact h.tail | exact h.tail.tail | exact h.tail.tail.tail | exact h.tail.tail.tail.tail | exact h.tail.tail.tail.tail.tail | exact h.tail.tail.tail.tail.tail.tail | exact h.tail.tail.tail.tail.tail.tail.tail | exact h.tail.tail.tail.tail.tail.tail.tail.tail | exact h.tail.tail.tail.tail.tail.tail.tail.tail.tail | exact h.tail.tail.tail.tail.tail.tail.tail.tail.tail.tail | exact h.tail.tail.tail.tail.tail.tail.tail.tail.tail.tail.tail | exact h.tail.tail.tail.tail.tail.tail.tail.tail.tail.tail.tail.tail | exact h.tail.tail.tail.tail.tail.tail.tail.tail.tail.tail.tail.tail.tail)⟩
theorem grow_Tri (w0 : Base) (η H : Heap) (va : Value) (ss : List Strip) (hs : ∀ s ∈ ss, s.ok 79 21 triK ∧ s.xs = marks s.n s.mark) (ha : Frag 160 23 va ss.length (arrOf ss) H) :
    CallsT Tryz.prog 54 [va] (St w0 (H ++ (heapOf ss ++ η))) fun _ A' => ∃ ss' H', ss'.length = ss.length ∧ (∀ s ∈ ss', s.grown (St w0 (heapOf ss')) 21 triK) ∧ Frag 160 23 va ss'.length (arrOf ss') H' ∧ A' = St w0 (H' ++ (heapOf ss' ++ η)) := by
  have hml : ∀ s ∈ ss, s.mark.length = 21 := fun s h => (hs s h).1.mints.length
  have hF := ha
  obtain ⟨ada, ca, rfl, ⟨hca, hca2⟩, hblk⟩ := ha.slice
  have hal := ha.1
  refine CallsT.body Tryz.func54 rfl rfl ?_
  simp only [Tryz.ntmps54, slotsOf, Nat.reduceAdd]
  refine TC_seq ?_
  refine TC_reg ?_
  refine TL_q rfl rfl (QT_assign rfl rfl rfl) ?_
  refine TL_nil ?_
  refine TX_then ?_
  refine TC_block ?_
  refine TC_loop (γ := {d : List Strip // d.length ≤ ss.length ∧ ∀ s ∈ d, s.grown (St w0 s.H) 21 triK}) (fun t => [(0, true, .slice ada ss.length ca), (2, true, .int .i64 (t.1.length : Int))]) (fun t => St w0 (reH (arrOf ss).length (arrOf (t.1 ++ ss.drop t.1.length)) H ++ (heapOf t.1 ++ (heapOf (ss.drop t.1.length) ++ η)))) (fun t => ss.length - t.1.length) ⟨[], by simp, by simp⟩ ⟨rfl, rfl, trivial⟩ (fun _ h => by simpa [heapOf_nil, hF.re_self] using h) ?_
  rintro ⟨d, hi, hd⟩
  dsimp only
  refine TC_seq ?_
  refine TC_seq ?_
  refine TC_reg ?_
  refine TL_q rfl rfl (QT_move rfl rfl rfl) ?_
  refine TL_q rfl rfl (QT_move rfl rfl rfl) ?_
  refine TL_q rfl rfl (QT_len rfl rfl Tryz.underlying42 rfl) ?_
  refine TL_q rfl rfl (QT_lss rfl rfl rfl rfl) ?_
  refine TL_nil ?_
  refine TX_then ?_
  refine TC_cond_dec rfl (fun h7 => ?_) (fun h7 => ?_)
  ·
    refine TC_skip ?_
    refine TX_then ?_
    refine TC_seq ?_
    refine TC_block ?_
    refine TC_seq ?_
    have hin : d.length < ss.length := by omega
    have hmd : ∀ s ∈ d, s.mark.length = 21 := fun s h => (hd s h).mints.length
    obtain ⟨ba, rest, rfl, rfl⟩ := hblk (by omega)
    obtain ⟨s, hsi⟩ : ∃ s, ss[d.length]? = some s := ⟨_, List.getElem?_eq_getElem hin⟩
    have hdrop : ss.drop d.length = s :: ss.drop (d.length + 1) := by
      rw [List.drop_eq_getElem_cons hin]
      congr 1
      exact (List.getElem?_eq_some_iff.1 hsi).2
    obtain ⟨hok, hxs⟩ := hs s (List.mem_of_getElem? hsi)
    have hmls := hml s (List.mem_of_getElem? hsi)
    have hmt : ∀ s ∈ ss.drop (d.length + 1), s.mark.length = 21 := fun s h => hml s (List.mem_of_mem_drop h)
    have hI := LongInv.start (w0 := w0) hok hxs
    have hmi := hok.mints
    have hfew := hok.few
    obtain ⟨sad, scap, hsv, hscap, hsb⟩ := hok.frag.slice
    obtain ⟨sv, sn, sxs, slong, smk, sH⟩ := s
    dsimp only at hI hmi hfew hmls hsv hscap hsb
    subst hsv
    have hall : ∀ lv : Value, ∀ s' ∈ (d ++ (⟨.slice sad sn scap, sn, sxs, lv, smk, sH⟩ : Strip) :: ss.drop (d.length + 1)), s'.mark.length = 21 := fun lv s' h => by
      rcases List.mem_append.1 h with h | h
      · exact hmd s' h
      · rcases List.mem_cons.1 h with rfl | h
        · exact hmls
        · exact hmt s' h
    have hlens : ∀ lv : Value, (arrOf (d ++ (⟨.slice sad sn scap, sn, sxs, lv, smk, sH⟩ : Strip) :: ss.drop (d.length + 1))).length = ss.length * 23 := fun lv => by
      rw [arrOf_len (hall lv), List.length_append, List.length_cons, List.length_drop]
      congr 1; omega
    have hat : ∀ lv : Value, (arrOf (d ++ (⟨.slice sad sn scap, sn, sxs, lv, smk, sH⟩ : Strip) :: ss.drop (d.length + 1)))[d.length * (21 + 2)]? = some (.slice sad sn scap) ∧ (arrOf (d ++ (⟨.slice sad sn scap, sn, sxs, lv, smk, sH⟩ : Strip) :: ss.drop (d.length + 1)))[d.length * (21 + 2) + 1]? = some lv ∧ ((arrOf (d ++ (⟨.slice sad sn scap, sn, sxs, lv, smk, sH⟩ : Strip) :: ss.drop (d.length + 1))).drop (d.length * (21 + 2) + 2)).take 21 = smk ∧ d.length * (21 + 2) + 2 + 21 ≤ (arrOf (d ++ (⟨.slice sad sn scap, sn, sxs, lv, smk, sH⟩ : Strip) :: ss.drop (d.length + 1))).length := fun lv => arrOf_at (hall lv) (i := d.length) (s := ⟨_, sn, sxs, lv, smk, sH⟩) (by simp)
    have hset : ∀ lv r : Value, setAt (arrOf (d ++ (⟨.slice sad sn scap, sn, sxs, lv, smk, sH⟩ : Strip) :: ss.drop (d.length + 1)) ++ rest) (d.length * (21 + 2) + 1) [r] = arrOf (d ++ (⟨.slice sad sn scap, sn, sxs, r, smk, sH⟩ : Strip) :: ss.drop (d.length + 1)) ++ rest := fun lv r => arrOf_set hmd rest
    have hin2 : (d.length + 1) * 23 ≤ ss.length * 23 := Nat.mul_le_mul_right _ (by omega)
    rw [hdrop]
    refine TC_A (St w0 ((ba, 160, arrOf (d ++ (⟨.slice sad sn scap, sn, sxs, slong, smk, sH⟩ : Strip) :: ss.drop (d.length + 1)) ++ rest) :: (sH ++ ([] ++ (heapOf d ++ (heapOf (ss.drop (d.length + 1)) ++ η)))))) (fun w h => by
      simp only [reH, List.map_cons, List.map_nil, List.drop_left, heapOf_cons] at h
      exact h.cnt fun p => by simp only [List.countP_append, List.countP_cons, List.countP_nil]; omega) ?_
    have hrA : ∀ (X : Heap) (lv : Value), Rd (St w0 ((ba, 160, arrOf (d ++ (⟨.slice sad sn scap, sn, sxs, lv, smk, sH⟩ : Strip) :: ss.drop (d.length + 1)) ++ rest) :: X)) ba 0 (arrOf (d ++ (⟨.slice sad sn scap, sn, sxs, lv, smk, sH⟩ : Strip) :: ss.drop (d.length + 1))) := fun X lv => Rd.ownA (List.mem_cons_self ..) 0 (by simp)
    refine TC_reg ?_
    refine TL_q rfl rfl (QT_move rfl rfl rfl) ?_
    refine TL_q rfl rfl (QT_move rfl rfl rfl) ?_
    refine TL_q rfl rfl (QT_move rfl rfl rfl) ?_
    refine TL_q rfl rfl (QT_move rfl rfl rfl) ?_
    refine TL_q rfl rfl (QT_indexSlice (d.length) rfl rfl Tryz.underlying42 YtjdaglmkljbfkaaGreatDoorF.sz_160 rfl rfl (rfl) (fun _ => hin)) ?_
    refine TL_q rfl rfl (QT_field rfl rfl YtjdaglmkljbfkaaGreatDoorF.fld_160_0 rfl) ?_
    refine TL_q rfl rfl (QT_loadRj (d.length * 23) rfl rfl Tryz.underlying61 rfl (hrA _ slong) rfl (fun _ => (hat slong).1)) ?_
    refine TL_q rfl rfl (QT_indexSlice (d.length) rfl rfl Tryz.underlying42 YtjdaglmkljbfkaaGreatDoorF.sz_160 rfl rfl (rfl) (fun _ => hin)) ?_
    refine TL_q rfl rfl (QT_field rfl rfl YtjdaglmkljbfkaaGreatDoorF.fld_160_1 rfl) ?_
    refine TL_e0 rfl rfl (rfl) (ET_store (vs := [.slice sad sn scap]) 0 rfl rfl rfl rfl YtjdaglmkljbfkaaGreatDoorF.sz_61 rfl rfl (Nat.ble_eq_true_of_le (by have := hlens slong; simp only [List.length_append, List.length_cons, List.length_nil]; omega))) ?_
    rintro _ _ ⟨rfl, rfl⟩
    refine TL_nil ?_
    refine TX_then ?_
    refine TC_seq ?_
    refine TC_A (St w0 ((ba, 160, arrOf (d ++ (⟨.slice sad sn scap, sn, sxs, (.slice sad sn scap), smk, sH⟩ : Strip) :: ss.drop (d.length + 1)) ++ rest) :: (sH ++ ([] ++ (heapOf d ++ (heapOf (ss.drop (d.length + 1)) ++ η)))))) (fun w h => by
      simp only [upd, Nat.zero_add] at h
      rw [hset slong] at h
      exact h) ?_
    refine TC_reg ?_
    refine TL_q rfl rfl (QT_assign rfl rfl rfl) ?_
    refine TL_nil ?_
    refine TX_then ?_
    refine TC_block ?_
    refine TC_loop (γ := {t : Nat × Value × Heap × Heap // t.1 ≤ 24 ∧ LongInv w0 79 21 (.slice sad sn scap) sn smk t.2.1 (sn + t.1) t.2.2.1 t.2.2.2}) (fun t => [(0, true, .slice (some ⟨ba, 0, none⟩) ss.length ca), (2, true, .int .i64 (d.length : Int)), (3, true, .int .i64 (t.1.1 : Int))]) (fun t => St w0 ((ba, 160, arrOf (d ++ (⟨.slice sad sn scap, sn, sxs, t.1.2.1, smk, sH⟩ : Strip) :: ss.drop (d.length + 1)) ++ rest) :: (t.1.2.2.1 ++ (t.1.2.2.2 ++ (heapOf d ++ (heapOf (ss.drop (d.length + 1)) ++ η)))))) (fun t => 24 - t.1.1) ⟨(0, .slice sad sn scap, sH, []), by dsimp only; omega, hI⟩ ⟨rfl, rfl, rfl, trivial⟩ (fun _ h => h) ?_
    rintro ⟨⟨k, lv, HL, KK⟩, hk, hL⟩
    dsimp only at hk hL ⊢
    refine TC_seq ?_
    refine TC_seq ?_
    refine TC_reg ?_
    refine TL_q rfl rfl (QT_move rfl rfl rfl) ?_
    refine TL_q rfl rfl (QT_lss rfl rfl rfl rfl) ?_
    refine TL_nil ?_
    refine TX_then ?_
    refine TC_cond_dec rfl (fun h20 => ?_) (fun h20 => ?_)
    ·
      refine TC_skip ?_
      refine TX_then ?_
      refine TC_seq ?_
      refine TC_block ?_
      have hk24 : k < 24 := by omega
      refine TC_draw [(0, 0), (1, 0), (2, 0), (3, 0), (4, 0), (5, 0), (6, 0), (7, 0), (8, 0), (9, 0), (10, 0), (11, 0), (12, 1), (13, 1), (14, 0), (15, 0), (16, 1)] YtjdaglmkljbfkaaGreatDoorF.mixed (by kernel_rfl) (St.calm _ _) ?_
      refine TV_q rfl rfl rfl (fun _ => QT_move rfl rfl rfl) ?_
      refine TV_q rfl rfl rfl (fun _ => QT_move rfl rfl rfl) ?_
      refine TV_q rfl rfl rfl (fun _ => QT_move rfl rfl rfl) ?_
      refine TV_q rfl rfl rfl (fun _ => QT_move rfl rfl rfl) ?_
      refine TV_q rfl rfl rfl (fun _ => QT_indexSlice (d.length) rfl rfl Tryz.underlying42 YtjdaglmkljbfkaaGreatDoorF.sz_160 rfl rfl (rfl) (fun _ => hin)) ?_
      refine TV_q rfl rfl rfl (fun _ => QT_field rfl rfl YtjdaglmkljbfkaaGreatDoorF.fld_160_1 rfl) ?_
      refine TV_ql rfl rfl rfl (QT_loadRj (d.length * 23 + 1) rfl rfl Tryz.underlying61 rfl ((hrA [] lv).mono fun _ h => h.cnt fun p => by simp only [List.countP_append, List.countP_cons, List.countP_nil]; omega) rfl (fun _ => (hat lv).2.1)) ?_
      refine TV_q rfl rfl rfl (fun _ => QT_move rfl rfl rfl) ?_
      refine TV_q rfl rfl rfl (fun _ => QT_move rfl rfl rfl) ?_
      refine TV_q rfl rfl rfl (fun _ => QT_indexSlice (d.length) rfl rfl Tryz.underlying42 YtjdaglmkljbfkaaGreatDoorF.sz_160 rfl rfl (rfl) (fun _ => hin)) ?_
      refine TV_q rfl rfl rfl (fun _ => QT_field rfl rfl YtjdaglmkljbfkaaGreatDoorF.fld_160_2 rfl) ?_
      refine TV_ql rfl rfl rfl (QT_loadRAj (d.length * 23 + 2) rfl rfl Tryz.underlying79 rfl YtjdaglmkljbfkaaGreatDoorF.sz_79 ((hrA [] lv).mono fun _ h => h.cnt fun p => by simp only [List.countP_append, List.countP_cons, List.countP_nil]; omega) rfl (fun _ => (hat lv).2.2.2) (fun _ => (hat lv).2.2.1)) ?_
      refine TV_e rfl rfl rfl rfl (rfl) (ET_buildN [_] rfl Tryz.underlying61 YtjdaglmkljbfkaaGreatDoorF.sz_79 YtjdaglmkljbfkaaGreatDoorF.zero_79 rfl rfl rfl (by simp [Value.cells, hmls])) ?_
      rintro _ _ ⟨b35, rfl, rfl⟩
      refine ⟨_, .drop (by kernel_rfl) (.keep (by kernel_rfl) rfl (by first | exact QT_loadRj (d.length * 23 + 1) rfl rfl Tryz.underlying61 rfl ((hrA [] lv).mono fun _ h => h.cnt fun p => by simp only [List.countP_append, List.countP_cons, List.countP_nil]; omega) rfl (fun _ => (hat lv).2.1)) (.nil)), ?_⟩
      refine TV_e rfl rfl rfl rfl (rfl) (ET_long (L := [_, _]) rfl Tryz.underlying61 el_Tri rfl rfl hL hmls (fun _ h => h) (SlA.own (n := 1) (xs := smk) 0 rfl (by rw [List.drop_zero, List.take_of_length_le (by simp [Value.cells, hmls])]; simp [Value.cells]) (by simp [Value.cells, hmls]) (by omega)) hmi.oneCell (few_b hfew hk24 (by decide)) (few_l hfew hk24)) ?_
      rintro lv2 _ ⟨H', K', hL', rfl⟩
      refine ⟨_, .drop (by kernel_rfl) (.nil), ?_⟩
      obtain ⟨ad2, cap2, rfl, _⟩ := hL'.frag.slice
      refine TV_q rfl rfl rfl (fun _ => QT_indexSlice (d.length) rfl rfl Tryz.underlying42 YtjdaglmkljbfkaaGreatDoorF.sz_160 rfl rfl (rfl) (fun _ => hin)) ?_
      refine TV_q rfl rfl rfl (fun _ => QT_field rfl rfl YtjdaglmkljbfkaaGreatDoorF.fld_160_1 rfl) ?_
      refine TV_e0 rfl rfl rfl (rfl) (ET_store (vs := [.slice ad2 (sn + k + 1) cap2]) 1 rfl rfl rfl rfl YtjdaglmkljbfkaaGreatDoorF.sz_61 rfl rfl (Nat.ble_eq_true_of_le (by have := hlens lv; simp only [List.length_append, List.length_cons, List.length_nil]; omega))) ?_
      rintro _ _ ⟨rfl, rfl⟩
      refine ⟨_, .nil, ?_⟩
      refine TV_end ?_
      refine TX_block_normal ?_
      refine TX_then ?_
      refine TC_reg ?_
      refine TL_q rfl rfl (QT_move rfl rfl rfl) ?_
      refine TL_q rfl rfl (QT_add rfl rfl rfl rfl (fun _ => ⟨by omega, by omega⟩)) ?_
      refine TL_q rfl rfl (QT_assign rfl rfl rfl) ?_
      refine TL_nil ?_
      refine TX_round ⟨(k + 1, .slice ad2 (sn + k + 1) cap2, H', K'), by dsimp only; omega, hL'⟩ (by dsimp only; omega) ⟨rfl, rfl, slotI rfl (by dsimp only; omega), trivial⟩ (fun w h => ?_)
      simp only [upd, Nat.zero_add] at h
      rw [hset lv] at h
      exact h.tail
    ·
      refine TC_exit ?_
      refine TX_then_exit ?_
      refine TX_then_exit ?_
      refine TX_block_here ?_
      refine TX_block_normal ?_
      refine TX_then ?_
      refine TC_reg ?_
      refine TL_q rfl rfl (QT_move rfl rfl rfl) ?_
      refine TL_q rfl rfl (QT_add rfl rfl rfl rfl (fun _ => ⟨by omega, by omega⟩)) ?_
      refine TL_q rfl rfl (QT_assign rfl rfl rfl) ?_
      refine TL_nil ?_
      obtain rfl : k = 24 := by omega
      have hg := LongInv.grown (s := ⟨.slice sad sn scap, sn, sxs, lv, smk, sH⟩) hL hmi rfl hfew
      refine TX_round ⟨d ++ [⟨.slice sad sn scap, sn, sxs, lv, smk, HL ++ KK⟩], by simp; omega, fun s h => ?_⟩ (by simp only [List.length_append, List.length_cons, List.length_nil]; omega) ⟨rfl, slotI rfl (by simp), trivial⟩ (fun w h => ?_)
      · rcases List.mem_append.1 h with h | h
        · exact hd s h
        · obtain rfl := List.mem_singleton.1 h
          exact hg
      · have e : arrOf ((d ++ [(⟨.slice sad sn scap, sn, sxs, lv, smk, HL ++ KK⟩ : Strip)]) ++ ss.drop (d.length + 1)) = arrOf (d ++ (⟨.slice sad sn scap, sn, sxs, lv, smk, sH⟩ : Strip) :: ss.drop (d.length + 1)) := by
          simp [arrOf, Strip.cells]
        simp only [List.length_append, List.length_cons, List.length_nil, Nat.zero_add, e, heapOf_append, heapOf_cons, heapOf_nil, reH, List.map_cons, List.map_nil, List.drop_left]
        exact h.cnt fun p => by simp only [List.countP_append, List.countP_cons, List.countP_nil]; omega
  ·
    refine TC_exit ?_
    refine TX_then_exit ?_
    refine TX_then_exit ?_
    refine TX_block_here ?_
    refine TX_ret (.inr rfl) (res0 rfl) ⟨_, ⟨d, reH (arrOf ss).length (arrOf d) H, by omega, fun s h => (hd s h).mono fun _ hw => hw.cnt (heapOf_mem h), ?_, rfl⟩, fun w h => ?_⟩
    · have hdl : d.length = ss.length := by omega
      rw [hdl]
      exact hF.re (by rw [arrOf_len (Z := 21) (fun s h => (hd s h).mints.length), arrOf_len hml, hdl])
    · have hdl : ss.drop d.length = [] := List.drop_eq_nil_of_le (by omega)
      rw [hdl, List.append_nil, heapOf_nil] at h
      simpa using h
end Go.Proofs.YtjdaglmkljbfkaaGreatDoor
namespace Go.Proofs.YtjdaglmkljbfkaaGreatDoor
open Go Go.Gx Go.RowKit
set_option maxRecDepth 100000

structure Bk where
  many : Int
  bytes : Value
  bits : Value
  fixes : Value
  recs : Value
  tris : Value
  sheets : Value
  tiles : Value
  dots : Value
  facets : Value
  tokens : Value
  codes : Value
  vals : Value
  spots : Value
def Bk.cells (k : Bk) : List Value := [.int .i64 k.many, k.bytes, k.bits, k.fixes, k.recs, k.tris, k.sheets, k.tiles, k.dots, k.facets, k.tokens, k.codes, k.vals, k.spots]
def nilS : Value := .slice none 0 0
def Bk.new : Bk := ⟨0, nilS, nilS, nilS, nilS, nilS, nilS, nilS, nilS, nilS, nilS, nilS, nilS, nilS⟩

theorem next_spec (w0 : Base) (η : Heap) (kb : Nat) (k : Bk) (h0 : 0 ≤ k.many ∧ k.many ≤ 1000) :
    CallsT Tryz.prog 31 [.pointer (some ⟨kb, 0, none⟩)] (St w0 ((kb, 52, k.cells) :: η)) fun v A' => v = .int .i64 (k.many + 1) ∧ A' = St w0 ((kb, 52, { k with many := k.many + 1 }.cells) :: η) := by
  refine CallsT.body Tryz.func31 rfl rfl ?_
  simp only [Tryz.ntmps31, slotsOf, Nat.reduceAdd]
  refine TC_seq ?_
  refine TC_reg ?_
  refine TL_q rfl rfl (QT_assign rfl rfl rfl) ?_
  refine TL_nil ?_
  refine TX_then ?_
  refine TC_seq ?_
  refine TC_reg ?_
  refine TL_q rfl rfl (QT_move rfl rfl rfl) ?_
  refine TL_q rfl rfl (QT_nilCheck rfl rfl rfl) ?_
  refine TL_q rfl rfl (QT_field rfl rfl YtjdaglmkljbfkaaGreatDoorF.fld_52_0 rfl) ?_
  refine TL_q rfl rfl (QT_load 0 rfl rfl Tryz.underlying3 rfl rfl rfl (fun _ => rfl)) ?_
  refine TL_q rfl rfl (QT_add rfl rfl rfl rfl (fun _ => ⟨by omega, by omega⟩)) ?_
  refine TL_q rfl rfl (QT_nilCheck rfl rfl rfl) ?_
  refine TL_q rfl rfl (QT_field rfl rfl YtjdaglmkljbfkaaGreatDoorF.fld_52_0 rfl) ?_
  refine TL_e0 rfl rfl (rfl) (ET_store 0 rfl rfl rfl rfl YtjdaglmkljbfkaaGreatDoorF.sz_3 rfl rfl rfl) ?_
  rintro _ _ ⟨rfl, rfl⟩
  refine TL_nil ?_
  refine TX_then ?_
  refine TC_seq ?_
  refine TC_reg ?_
  refine TL_q rfl rfl (QT_move rfl rfl rfl) ?_
  refine TL_q rfl rfl (QT_nilCheck rfl rfl rfl) ?_
  refine TL_q rfl rfl (QT_field rfl rfl YtjdaglmkljbfkaaGreatDoorF.fld_52_0 rfl) ?_
  refine TL_q rfl rfl (QT_load 0 rfl rfl Tryz.underlying3 rfl rfl rfl (fun _ => rfl)) ?_
  refine TL_q rfl rfl (QT_assign rfl rfl rfl) ?_
  refine TL_nil ?_
  refine TX_then ?_
  refine TC_ret ?_
  exact TX_ret (.inl rfl) (res1 rfl rfl) ⟨_, ⟨rfl, rfl⟩, fun _ h => h⟩

def shMark (c : Int) : List Value := .int .u8 9 :: .int .u32 0 :: .int .u32 0 :: .int .u32 0 :: .int .u32 0 :: .int .u32 0 :: .int .u32 0 :: .int .u32 0 :: .int .u32 c :: (zs (sheetK.drop 9))
theorem u32_wf {c : Int} (h : 0 ≤ c ∧ c ≤ 2000) : (Lit.int .u32 c).wf = true := by
  have h1 : IntKind.u32.min = 0 := rfl
  have h2 : IntKind.u32.max = 4294967295 := rfl
  simp only [Lit.wf, Bool.and_eq_true, decide_eq_true_eq]
  omega
theorem shMark_ints {c : Int} (h : 0 ≤ c ∧ c ≤ 2000) : Ints sheetK (shMark c) := by
  have e : sheetK = [.u8, .u32, .u32, .u32, .u32, .u32, .u32, .u32] ++ (.u32 :: sheetK.drop 9) := by decide
  have e2 : shMark c = [.int .u8 9, .int .u32 0, .int .u32 0, .int .u32 0, .int .u32 0, .int .u32 0, .int .u32 0, .int .u32 0] ++ (.int .u32 c :: zs (sheetK.drop 9)) := rfl
  rw [e2]
  conv => arg 1; rw [e]
  refine Ints.append ?_ (.cons (u32_wf h) (zs_ints _))
  exact .cons (by decide) (.cons (by decide) (.cons (by decide) (.cons (by decide) (.cons (by decide) (.cons (by decide) (.cons (by decide) (.cons (by decide) .nil)))))))
theorem el_stripSheet : ElemOk Tryz.prog 188 51 216 (.agg (nilS :: nilS :: zs sheetK).toArray) := .of YtjdaglmkljbfkaaGreatDoorF.sz_188 (by kernel_rfl) (by unfold ZeroOk; kernel_rfl) (by kernel_rfl) (by decide)
theorem book_Sheets (w0 : Base) (η H : Heap) (kb : Nat) (k : Bk) (ss : List Strip) (v : Value) (n : Nat) (xs : List Value) (Hv : Heap) (h0 : 0 ≤ k.many ∧ k.many ≤ 1000) (hF : Frag 188 51 k.sheets ss.length (arrOf ss) H) (hs : ∀ s ∈ ss, s.ok 102 49 sheetK) (hsl : ss.length ≤ 1000) (hv : ∃ ad n cap, v = .slice ad n cap) :
    CallsT Tryz.prog 33 [.pointer (some ⟨kb, 0, none⟩), v] (St w0 ((kb, 52, k.cells) :: (H ++ η))) fun _ A' => ∃ r H', Frag 188 51 r (ss.length + 1) (arrOf (ss ++ [⟨v, n, xs, nilS, shMark (k.many + 1), Hv⟩])) H' ∧ A' = St w0 ((kb, 52, { k with many := k.many + 1, sheets := r }.cells) :: (H' ++ η)) := by
  obtain ⟨vad, vn, vcap, rfl⟩ := hv
  obtain ⟨fad, fcap, hfv, hfc, _⟩ := hF.slice
  have hwr : IntKind.u32.wrap (k.many + 1) = k.many + 1 := IntWalk.u32_in _ ⟨by omega, by omega⟩
  have hmi := shMark_ints (c := k.many + 1) (by omega)
  refine CallsT.body Tryz.func33 rfl rfl ?_
  simp only [Tryz.ntmps33, slotsOf, Nat.reduceAdd]
  refine TC_seq ?_
  refine TC_reg ?_
  refine TL_q rfl rfl (QT_build rfl rfl YtjdaglmkljbfkaaGreatDoorF.zero_102 YtjdaglmkljbfkaaGreatDoorF.pl_102 rfl rfl rfl) ?_
  refine TL_e rfl rfl rfl (rfl) (ET_alloc rfl YtjdaglmkljbfkaaGreatDoorF.zero_102) ?_
  rintro _ _ ⟨b4, rfl, rfl⟩
  refine TL_e0 rfl rfl (rfl) (ET_storeW 0 rfl rfl rfl YtjdaglmkljbfkaaGreatDoorF.sz_102 rfl rfl rfl) ?_
  rintro _ _ ⟨rfl, rfl⟩
  refine TL_nil ?_
  refine TX_then ?_
  refine TC_seq ?_
  refine TC_reg ?_
  refine TL_q rfl rfl (QT_move rfl rfl rfl) ?_
  refine TL_A _ (fun _ h => St.swap h) ?_
  refine TL_e rfl rfl rfl (rfl) (ET_call rfl YtjdaglmkljbfkaaGreatDoorF.cal_31 rfl (next_spec w0 _ kb k h0)) ?_
  rintro _ _ ⟨rfl, rfl⟩
  refine TL_q rfl rfl (QT_conv rfl rfl Tryz.underlying3 Tryz.underlying70 rfl) ?_
  rw [hwr]
  refine TL_q rfl rfl (QT_field rfl rfl YtjdaglmkljbfkaaGreatDoorF.fld_102_1 rfl) ?_
  refine TL_q rfl rfl (QT_indexArr (3) rfl rfl Tryz.underlying99 YtjdaglmkljbfkaaGreatDoorF.sz_72 rfl rfl (rfl) (fun _ => by decide)) ?_
  refine TL_q rfl rfl (QT_field rfl rfl YtjdaglmkljbfkaaGreatDoorF.fld_72_1 rfl) ?_
  refine TL_e0 rfl rfl (rfl) (ET_store 1 rfl rfl rfl rfl YtjdaglmkljbfkaaGreatDoorF.sz_70 rfl rfl rfl) ?_
  rintro _ _ ⟨rfl, rfl⟩
  refine TL_nil ?_
  refine TX_then ?_
  refine TC_draw [(0, 0), (1, 0), (2, 0), (3, 0), (4, 0), (5, 0), (6, 0), (7, 0), (8, 1), (9, 1), (10, 0), (11, 0), (12, 1)] YtjdaglmkljbfkaaGreatDoorF.mixed (by kernel_rfl) (St.calm _ _) ?_
  refine TV_q rfl rfl rfl (fun _ => QT_move rfl rfl rfl) ?_
  refine TV_q rfl rfl rfl (fun _ => QT_move rfl rfl rfl) ?_
  refine TV_q rfl rfl rfl (fun _ => QT_nilCheck rfl rfl rfl) ?_
  refine TV_q rfl rfl rfl (fun _ => QT_field rfl rfl YtjdaglmkljbfkaaGreatDoorF.fld_52_6 rfl) ?_
  refine TV_ql rfl rfl rfl (QT_load 0 rfl rfl Tryz.underlying43 rfl rfl rfl (fun _ => rfl)) ?_
  refine TV_q rfl rfl rfl (fun _ => QT_move rfl rfl rfl) ?_
  refine TV_ql rfl rfl rfl (QT_loadW 1 rfl rfl Tryz.underlying102 rfl rfl rfl YtjdaglmkljbfkaaGreatDoorF.sz_102) ?_
  refine TV_q rfl rfl rfl (fun _ => QT_build rfl rfl YtjdaglmkljbfkaaGreatDoorF.zero_188 YtjdaglmkljbfkaaGreatDoorF.pl_188 rfl rfl rfl) ?_
  refine TV_e rfl rfl rfl rfl (rfl) (ET_buildN [_] rfl Tryz.underlying43 YtjdaglmkljbfkaaGreatDoorF.sz_188 YtjdaglmkljbfkaaGreatDoorF.zero_188 rfl rfl rfl (fun v hv => by cases List.mem_singleton.1 hv; rfl)) ?_
  rintro _ _ ⟨b20, rfl, rfl⟩
  refine ⟨_, .keep (by kernel_rfl) rfl (by first | exact QT_loadW 0 rfl rfl Tryz.underlying102 rfl rfl rfl YtjdaglmkljbfkaaGreatDoorF.sz_102 | exact QT_loadW 1 rfl rfl Tryz.underlying102 rfl rfl rfl YtjdaglmkljbfkaaGreatDoorF.sz_102 | exact QT_loadW 2 rfl rfl Tryz.underlying102 rfl rfl rfl YtjdaglmkljbfkaaGreatDoorF.sz_102 | exact QT_loadA 0 rfl rfl Tryz.underlying102 rfl rfl rfl YtjdaglmkljbfkaaGreatDoorF.sz_102 (fun _ => rfl) | exact QT_loadA 1 rfl rfl Tryz.underlying102 rfl rfl rfl YtjdaglmkljbfkaaGreatDoorF.sz_102 (fun _ => rfl) | exact QT_loadA 2 rfl rfl Tryz.underlying102 rfl rfl rfl YtjdaglmkljbfkaaGreatDoorF.sz_102 (fun _ => rfl)) (.keep (by kernel_rfl) rfl (by first | exact QT_load 0 rfl rfl Tryz.underlying43 rfl rfl rfl (fun _ => rfl) | exact QT_load 1 rfl rfl Tryz.underlying43 rfl rfl rfl (fun _ => rfl) | exact QT_load 2 rfl rfl Tryz.underlying43 rfl rfl rfl (fun _ => rfl)) (.nil)), ?_⟩
  refine TV_e rfl rfl rfl rfl (rfl) (ET_appendL (L := [_, _, _]) rfl Tryz.underlying43 el_stripSheet rfl rfl hF (fun _ h => h) (SlA.own (n := 1) (xs := .slice vad vn vcap :: nilS :: shMark (k.many + 1)) 0 rfl rfl (Nat.le_refl _) (by omega)) (fun u hu => by
   rcases List.mem_cons.1 hu with rfl | hu
   · rfl
   · rcases List.mem_cons.1 hu with rfl | hu
     · rfl
     · exact hmi.oneCell u hu) (by omega) (by omega)) ?_
  rintro r _ ⟨H', hF', rfl⟩
  refine ⟨_, .keep (by kernel_rfl) rfl (by first | exact QT_loadW 0 rfl rfl Tryz.underlying102 rfl rfl rfl YtjdaglmkljbfkaaGreatDoorF.sz_102 | exact QT_loadW 1 rfl rfl Tryz.underlying102 rfl rfl rfl YtjdaglmkljbfkaaGreatDoorF.sz_102 | exact QT_loadW 2 rfl rfl Tryz.underlying102 rfl rfl rfl YtjdaglmkljbfkaaGreatDoorF.sz_102 | exact QT_loadA 0 rfl rfl Tryz.underlying102 rfl rfl rfl YtjdaglmkljbfkaaGreatDoorF.sz_102 (fun _ => rfl) | exact QT_loadA 1 rfl rfl Tryz.underlying102 rfl rfl rfl YtjdaglmkljbfkaaGreatDoorF.sz_102 (fun _ => rfl) | exact QT_loadA 2 rfl rfl Tryz.underlying102 rfl rfl rfl YtjdaglmkljbfkaaGreatDoorF.sz_102 (fun _ => rfl)) (.drop (by kernel_rfl) (.nil)), ?_⟩
  obtain ⟨rad, rcap, rfl, _, _⟩ := hF'.slice
  refine TV_q rfl rfl rfl (fun _ => QT_nilCheck rfl rfl rfl) ?_
  refine TV_q rfl rfl rfl (fun _ => QT_field rfl rfl YtjdaglmkljbfkaaGreatDoorF.fld_52_6 rfl) ?_
  refine TV_e0 rfl rfl rfl (rfl) (ET_store 1 rfl rfl rfl rfl YtjdaglmkljbfkaaGreatDoorF.sz_43 rfl rfl rfl) ?_
  rintro _ _ ⟨rfl, rfl⟩
  refine ⟨_, .drop (by kernel_rfl) (.nil), ?_⟩
  refine TV_end ?_
  refine TX_ret (.inr rfl) (res0 rfl) ⟨_, ⟨_, H', by rw [arrOf_append]; simpa [arrOf, Strip.cells] using hF', rfl⟩, fun w h => ?_⟩
  have h2 : St w0 ((b20, 188, _) :: (kb, 52, { k with many := k.many + 1, sheets := .slice rad (ss.length + 1) rcap }.cells) :: (b4, 102, _) :: (H' ++ η)) w := h
  exact h2.tail.swap.tail
end Go.Proofs.YtjdaglmkljbfkaaGreatDoor
namespace Go.Proofs.YtjdaglmkljbfkaaGreatDoor
open Go Go.Gx Go.RowKit
set_option maxRecDepth 100000

def rcMark (c : Int) : List Value := .int .u8 0 :: .int .u32 c :: zs (recK.drop 2)
theorem rcMark_ints {c : Int} (h : 0 ≤ c ∧ c ≤ 2000) : Ints recK (rcMark c) :=
  show Ints (.u8 :: .u32 :: recK.drop 2) (rcMark c) from .cons (by decide) (.cons (u32_wf h) (zs_ints _))
theorem el_stripRec : ElemOk Tryz.prog 186 9 72 (.agg (nilS :: nilS :: zs recK).toArray) := .of YtjdaglmkljbfkaaGreatDoorF.sz_186 (by kernel_rfl) (by unfold ZeroOk; kernel_rfl) (by kernel_rfl) (by decide)
theorem book_Recs (w0 : Base) (η H : Heap) (kb : Nat) (k : Bk) (ss : List Strip) (v : Value) (n : Nat) (xs : List Value) (Hv : Heap) (h0 : 0 ≤ k.many ∧ k.many ≤ 1000) (hF : Frag 186 9 k.recs ss.length (arrOf ss) H) (hs : ∀ s ∈ ss, s.ok 77 7 recK) (hsl : ss.length ≤ 1000) (hv : ∃ ad n cap, v = .slice ad n cap) :
    CallsT Tryz.prog 32 [.pointer (some ⟨kb, 0, none⟩), v] (St w0 ((kb, 52, k.cells) :: (H ++ η))) fun _ A' => ∃ r H', Frag 186 9 r (ss.length + 1) (arrOf (ss ++ [⟨v, n, xs, nilS, rcMark (k.many + 1), Hv⟩])) H' ∧ A' = St w0 ((kb, 52, { k with many := k.many + 1, recs := r }.cells) :: (H' ++ η)) := by
  obtain ⟨vad, vn, vcap, rfl⟩ := hv
  obtain ⟨fad, fcap, hfv, hfc, _⟩ := hF.slice
  have hwr : IntKind.u32.wrap (k.many + 1) = k.many + 1 := IntWalk.u32_in _ ⟨by omega, by omega⟩
  have hmi := rcMark_ints (c := k.many + 1) (by omega)
  refine CallsT.body Tryz.func32 rfl rfl ?_
  simp only [Tryz.ntmps32, slotsOf, Nat.reduceAdd]
  refine TC_draw [(0, 0), (1, 0), (2, 0), (3, 0), (4, 0), (5, 0), (6, 0), (7, 1), (8, 0), (9, 0), (10, 0), (11, 0), (12, 1), (13, 1), (14, 0), (15, 0), (16, 1)] YtjdaglmkljbfkaaGreatDoorF.mixed (by kernel_rfl) (St.calm _ _) ?_
  refine TV_q rfl rfl rfl (fun _ => QT_move rfl rfl rfl) ?_
  refine TV_q rfl rfl rfl (fun _ => QT_move rfl rfl rfl) ?_
  refine TV_q rfl rfl rfl (fun _ => QT_nilCheck rfl rfl rfl) ?_
  refine TV_q rfl rfl rfl (fun _ => QT_field rfl rfl YtjdaglmkljbfkaaGreatDoorF.fld_52_4 rfl) ?_
  refine TV_ql rfl rfl rfl (QT_load 0 rfl rfl Tryz.underlying41 rfl rfl rfl (fun _ => rfl)) ?_
  refine TV_q rfl rfl rfl (fun _ => QT_move rfl rfl rfl) ?_
  refine TV_q rfl rfl rfl (fun _ => QT_move rfl rfl rfl) ?_
  refine TV_e rfl rfl rfl rfl (rfl) (ET_call rfl YtjdaglmkljbfkaaGreatDoorF.cal_31 rfl (next_spec w0 _ kb k h0)) ?_
  rintro _ _ ⟨rfl, rfl⟩
  refine ⟨_, .keep (by kernel_rfl) rfl (by first | exact QT_load 0 rfl rfl Tryz.underlying41 rfl rfl rfl (fun _ => rfl) | exact QT_load 1 rfl rfl Tryz.underlying41 rfl rfl rfl (fun _ => rfl) | exact QT_load 2 rfl rfl Tryz.underlying41 rfl rfl rfl (fun _ => rfl)) (.nil), ?_⟩
  refine TV_q rfl rfl rfl (fun _ => QT_convN rfl rfl Tryz.underlying3 Tryz.underlying70 rfl hwr) ?_
  refine TV_q rfl rfl rfl (fun _ => QT_build rfl rfl YtjdaglmkljbfkaaGreatDoorF.zero_72 YtjdaglmkljbfkaaGreatDoorF.pl_72 rfl rfl rfl) ?_
  refine TV_q rfl rfl rfl (fun _ => QT_build rfl rfl YtjdaglmkljbfkaaGreatDoorF.zero_77 YtjdaglmkljbfkaaGreatDoorF.pl_77 rfl rfl rfl) ?_
  refine TV_q rfl rfl rfl (fun _ => QT_build rfl rfl YtjdaglmkljbfkaaGreatDoorF.zero_186 YtjdaglmkljbfkaaGreatDoorF.pl_186 rfl rfl rfl) ?_
  refine TV_e rfl rfl rfl rfl (rfl) (ET_buildN [_] rfl Tryz.underlying41 YtjdaglmkljbfkaaGreatDoorF.sz_186 YtjdaglmkljbfkaaGreatDoorF.zero_186 rfl rfl rfl (fun v hv => by cases List.mem_singleton.1 hv; rfl)) ?_
  rintro _ _ ⟨bP, rfl, rfl⟩
  refine ⟨_, .keep (by kernel_rfl) rfl (by first | exact QT_load 0 rfl rfl Tryz.underlying41 rfl rfl rfl (fun _ => rfl) | exact QT_load 1 rfl rfl Tryz.underlying41 rfl rfl rfl (fun _ => rfl) | exact QT_load 2 rfl rfl Tryz.underlying41 rfl rfl rfl (fun _ => rfl)) (.nil), ?_⟩
  refine TV_e rfl rfl rfl rfl (rfl) (ET_appendL (L := [_, _]) rfl Tryz.underlying41 el_stripRec rfl rfl hF (fun _ h => h) (SlA.own (n := 1) (xs := .slice vad vn vcap :: nilS :: rcMark (k.many + 1)) 0 rfl rfl (Nat.le_refl _) (by omega)) (fun u hu => by
   rcases List.mem_cons.1 hu with rfl | hu
   · rfl
   · rcases List.mem_cons.1 hu with rfl | hu
     · rfl
     · exact hmi.oneCell u hu) (by omega) (by omega)) ?_
  rintro r _ ⟨H', hF', rfl⟩
  refine ⟨_, .drop (by kernel_rfl) (.nil), ?_⟩
  obtain ⟨rad, rcap, rfl, _, _⟩ := hF'.slice
  refine TV_q rfl rfl rfl (fun _ => QT_nilCheck rfl rfl rfl) ?_
  refine TV_q rfl rfl rfl (fun _ => QT_field rfl rfl YtjdaglmkljbfkaaGreatDoorF.fld_52_4 rfl) ?_
  refine TV_e0 rfl rfl rfl (rfl) (ET_store 1 rfl rfl rfl rfl YtjdaglmkljbfkaaGreatDoorF.sz_41 rfl rfl rfl) ?_
  rintro _ _ ⟨rfl, rfl⟩
  refine ⟨_, .nil, ?_⟩
  refine TV_end ?_
  refine TX_ret (.inr rfl) (res0 rfl) ⟨_, ⟨.slice rad (ss.length + 1) rcap, H', by rw [arrOf_append]; simpa [arrOf, Strip.cells] using hF', rfl⟩, fun w h => ?_⟩
  have h2 : St w0 ((bP, 186, _) :: (kb, 52, { k with many := k.many + 1, recs := .slice rad (ss.length + 1) rcap }.cells) :: (H' ++ η)) w := h
  exact h2.tail
end Go.Proofs.YtjdaglmkljbfkaaGreatDoor
namespace Go.Proofs.YtjdaglmkljbfkaaGreatDoor
open Go Go.Gx Go.RowKit
set_option maxRecDepth 100000

theorem mark1 {m : List Value} (h : Ints byteK m) : ∃ c : Int, m = [.int .u8 c] := by
  obtain ⟨z, cs, rfl, _, h2⟩ := (show Ints (.u8 :: []) m from h).inv
  obtain rfl := h2.inv_nil
  exact ⟨z, rfl⟩
theorem at1 {l : List Value} {o : Nat} {v : Value} (h : (l.drop o).take 1 = [v]) : l[o]? = some v := by
  have := congrArg (fun x => x[0]?) h
  simpa using this
theorem fill_Byte (w0 : Base) (η : Heap) (va : Value) (ss : List Strip) (hs : ∀ s ∈ ss, s.ok 5 1 byteK) (ha : SlA (St w0 η) va 3 ss.length (arrOf ss)) :
    CallsT Tryz.prog 37 [va] (St w0 (heapOf ss ++ η)) fun _ A' => A' = St w0 (heapOf (ss.map (fillS 1)) ++ η) := by
  have hml : ∀ s ∈ ss, s.mark.length = 1 := fun s h => (hs s h).mints.length
  obtain ⟨hal, ada, ca, rfl, ⟨hca, hca2⟩, hra⟩ := ha
  refine CallsT.body Tryz.func37 rfl rfl ?_
  simp only [Tryz.ntmps37, slotsOf, Nat.reduceAdd]
  refine TC_seq ?_
  refine TC_reg ?_
  refine TL_q rfl rfl (QT_assign rfl rfl rfl) ?_
  refine TL_nil ?_
  refine TX_then ?_
  refine TC_block ?_
  refine TC_loop (γ := {i : Nat // i ≤ ss.length}) (fun t => [(0, true, .slice ada ss.length ca), (2, true, .int .i64 (t.1 : Int))]) (fun t => St w0 (heapOf ((ss.take t.1).map (fillS 1)) ++ (heapOf (ss.drop t.1) ++ η))) (fun t => ss.length - t.1) ⟨0, by omega⟩ ⟨rfl, rfl, trivial⟩ (fun _ h => by simpa [heapOf] using h) ?_
  rintro ⟨i, hi⟩
  dsimp only
  refine TC_seq ?_
  refine TC_seq ?_
  refine TC_reg ?_
  refine TL_q rfl rfl (QT_move rfl rfl rfl) ?_
  refine TL_q rfl rfl (QT_move rfl rfl rfl) ?_
  refine TL_q rfl rfl (QT_len rfl rfl Tryz.underlying38 rfl) ?_
  refine TL_q rfl rfl (QT_lss rfl rfl rfl rfl) ?_
  refine TL_nil ?_
  refine TX_then ?_
  refine TC_cond_dec rfl (fun h7 => ?_) (fun h7 => ?_)
  ·
    refine TC_skip ?_
    refine TX_then ?_
    refine TC_seq ?_
    refine TC_block ?_
    refine TC_seq ?_
    have hin : i < ss.length := by omega
    obtain ⟨ba, oa, rfl, hrA⟩ := hra.resolve_left (by omega)
    obtain ⟨s, hsi⟩ : ∃ s, ss[i]? = some s := ⟨_, List.getElem?_eq_getElem hin⟩
    obtain ⟨hat1, hat2, hat3, hat4⟩ := arrOf_at hml hsi
    have hdrop : ss.drop i = s :: ss.drop (i + 1) := by
      rw [List.drop_eq_getElem_cons hin]
      congr 1
      exact (List.getElem?_eq_some_iff.1 hsi).2
    have htake : (ss.take (i + 1)).map (fillS 1) = (ss.take i).map (fillS 1) ++ [fillS 1 s] := by
      rw [List.take_add_one, hsi]; simp
    have hok := hs s (List.mem_of_getElem? hsi)
    have hmls := hml s (List.mem_of_getElem? hsi)
    rw [hdrop, heapOf_cons]
    obtain ⟨sv, sn, sxs, slong, smk, sH⟩ := s
    obtain ⟨⟨hfl, hfr⟩, hmk, hfew⟩ := hok
    dsimp only at hfl hfr hmk hfew hmls hat1 hat2 hat3 hat4
    have hsv : ∃ sad scap, sv = .slice sad sn scap := by
      rcases hfr with ⟨rfl, rfl, _⟩ | ⟨b, cap, rest, rfl, _⟩
      · exact ⟨_, _, rfl⟩
      · exact ⟨_, _, rfl⟩
    obtain ⟨sad, scap, rfl⟩ := hsv
    obtain ⟨mc, hmc⟩ := mark1 hmk
    refine TC_reg ?_
    refine TL_q rfl rfl (QT_assign rfl rfl rfl) ?_
    refine TL_nil ?_
    refine TX_then ?_
    refine TC_block ?_
    refine TC_loop (γ := {k : Nat // k ≤ sn}) (fun t => [(0, true, .slice (some ⟨ba, oa, none⟩) ss.length ca), (2, true, .int .i64 (i : Int)), (3, true, .int .i64 (t.1 : Int))]) (fun t => St w0 (fillH 1 t.1 smk sH ++ (heapOf ((ss.take i).map (fillS 1)) ++ (heapOf (ss.drop (i + 1)) ++ η)))) (fun t => sn - t.1) ⟨0, by omega⟩ ⟨rfl, rfl, rfl, trivial⟩ (fun _ h => h.cnt (fun p => by simp only [fillH_zero, List.countP_append]; omega)) ?_
    rintro ⟨k, hk⟩
    dsimp only
    refine TC_seq ?_
    refine TC_seq ?_
    refine TC_reg ?_
    refine TL_q rfl rfl (QT_move rfl rfl rfl) ?_
    refine TL_q rfl rfl (QT_move rfl rfl rfl) ?_
    refine TL_q rfl rfl (QT_move rfl rfl rfl) ?_
    refine TL_q rfl rfl (QT_indexSlice (i) rfl rfl Tryz.underlying38 YtjdaglmkljbfkaaGreatDoorF.sz_94 rfl rfl (rfl) (fun _ => hin)) ?_
    refine TL_q rfl rfl (QT_field rfl rfl YtjdaglmkljbfkaaGreatDoorF.fld_94_0 rfl) ?_
    refine TL_q rfl rfl (QT_loadRj (i * 3) rfl rfl Tryz.underlying28 rfl (hrA.mono fun _ h => h.cnt fun p => by simp only [List.countP_append]; omega) rfl (fun _ => hat1)) ?_
    refine TL_q rfl rfl (QT_len rfl rfl Tryz.underlying28 rfl) ?_
    refine TL_q rfl rfl (QT_lss rfl rfl rfl rfl) ?_
    refine TL_nil ?_
    refine TX_then ?_
    refine TC_cond_dec rfl (fun h17 => ?_) (fun h17 => ?_)
    ·
      refine TC_skip ?_
      refine TX_then ?_
      refine TC_seq ?_
      refine TC_block ?_
      have hkn : k < sn := by omega
      have hszm : Sz Tryz.prog 5 smk.length := by rw [hmls]; exact YtjdaglmkljbfkaaGreatDoorF.sz_5
      have hkz : (k + 1) * 1 ≤ sn * 1 := Nat.mul_le_mul_right _ (by omega)
      obtain ⟨b, cap, rest, hv, hcap, hlen, rfl⟩ : ∃ b cap rest, Value.slice sad sn scap = .slice (some ⟨b, 0, none⟩) sn cap ∧ (sn ≤ cap ∧ cap ≤ 9223372036854775807) ∧ cap * 1 ≤ (sxs ++ rest).length ∧ sH = [(b, 5, sxs ++ rest)] := by
        rcases hfr with ⟨_, h0, _⟩ | h
        · omega
        · exact h
      simp only [Value.slice.injEq, true_and] at hv
      obtain ⟨rfl, rfl⟩ := hv
      have hcz : sn * 1 ≤ scap * 1 := Nat.mul_le_mul_right _ (by omega)
      refine TC_draw [(0, 0), (1, 0), (2, 0), (3, 0), (4, 0), (5, 0), (6, 0), (7, 0), (8, 0), (9, 0), (10, 0), (11, 0), (12, 1)] YtjdaglmkljbfkaaGreatDoorF.mixed (by kernel_rfl) (St.calm _ _) ?_
      refine TV_q rfl rfl rfl (fun _ => QT_move rfl rfl rfl) ?_
      refine TV_q rfl rfl rfl (fun _ => QT_move rfl rfl rfl) ?_
      refine TV_q rfl rfl rfl (fun _ => QT_indexSlice (i) rfl rfl Tryz.underlying38 YtjdaglmkljbfkaaGreatDoorF.sz_94 rfl rfl (rfl) (fun _ => hin)) ?_
      refine TV_q rfl rfl rfl (fun _ => QT_field rfl rfl YtjdaglmkljbfkaaGreatDoorF.fld_94_0 rfl) ?_
      refine TV_ql rfl rfl rfl (QT_loadRj (i * 3) rfl rfl Tryz.underlying28 rfl (hrA.mono fun _ h => h.cnt fun p => by simp only [List.countP_append]; omega) rfl (fun _ => hat1)) ?_
      refine TV_q rfl rfl rfl (fun _ => QT_move rfl rfl rfl) ?_
      refine TV_q rfl rfl rfl (fun _ => QT_move rfl rfl rfl) ?_
      refine TV_q rfl rfl rfl (fun _ => QT_move rfl rfl rfl) ?_
      refine TV_q rfl rfl rfl (fun _ => QT_indexSlice (i) rfl rfl Tryz.underlying38 YtjdaglmkljbfkaaGreatDoorF.sz_94 rfl rfl (rfl) (fun _ => hin)) ?_
      refine TV_q rfl rfl rfl (fun _ => QT_field rfl rfl YtjdaglmkljbfkaaGreatDoorF.fld_94_2 rfl) ?_
      refine TV_ql rfl rfl rfl (QT_loadRj (i * 3 + 2) rfl rfl Tryz.underlying5 rfl (hrA.mono fun _ h => h.cnt fun p => by simp only [List.countP_append]; omega) rfl (fun _ => at1 ((hat3).trans hmc))) ?_
      refine TV_q rfl rfl rfl (fun _ => QT_indexSlice (k) rfl rfl Tryz.underlying28 YtjdaglmkljbfkaaGreatDoorF.sz_5 rfl rfl (rfl) (fun _ => hkn)) ?_
      refine TV_e0 rfl rfl rfl (rfl) (ET_store (vs := smk) 0 rfl rfl rfl (by rw [hmc]; rfl) hszm rfl (by rw [List.all_eq_true]; exact hmk.oneCell) (Nat.ble_eq_true_of_le (by simp only [List.length_append, List.length_drop, marks_len hmls]; omega))) ?_
      rintro _ _ ⟨rfl, rfl⟩
      refine ⟨_, .drop (by kernel_rfl) (.drop (by kernel_rfl) (.nil)), ?_⟩
      refine TV_end ?_
      refine TX_block_normal ?_
      refine TX_then ?_
      skip
      refine TC_reg ?_
      refine TL_q rfl rfl (QT_move rfl rfl rfl) ?_
      refine TL_q rfl rfl (QT_add rfl rfl rfl rfl (fun _ => ⟨by omega, by omega⟩)) ?_
      refine TL_q rfl rfl (QT_assign rfl rfl rfl) ?_
      refine TL_nil ?_
      refine TX_round ⟨k + 1, by omega⟩ (by dsimp only; omega) ⟨rfl, rfl, slotI rfl (by dsimp only; omega), trivial⟩ (fun w h => ?_)
      simp only [fillH, List.map_cons, List.map_nil, List.singleton_append, List.cons_append, List.nil_append, upd, Nat.zero_add] at h ⊢
      rw [fill_step hmls (by omega)] at h
      exact h
    ·
      refine TC_exit ?_
      refine TX_then_exit ?_
      refine TX_then_exit ?_
      refine TX_block_here ?_
      refine TX_block_normal ?_
      refine TX_then ?_
      refine TC_reg ?_
      refine TL_q rfl rfl (QT_move rfl rfl rfl) ?_
      refine TL_q rfl rfl (QT_add rfl rfl rfl rfl (fun _ => ⟨by omega, by omega⟩)) ?_
      refine TL_q rfl rfl (QT_assign rfl rfl rfl) ?_
      refine TL_nil ?_
      refine TX_round ⟨i + 1, by omega⟩ (by dsimp only; omega) ⟨rfl, slotI rfl (by dsimp only; omega), trivial⟩ (fun w h => h.cnt fun p => ?_)
      obtain rfl : k = sn := by omega
      rw [htake, heapOf_append, heapOf_cons, heapOf_nil]
      simp only [fillS, List.countP_append, List.countP_nil]; omega
  ·
    refine TC_exit ?_
    refine TX_then_exit ?_
    refine TX_then_exit ?_
    refine TX_block_here ?_
    refine TX_ret (.inr rfl) (res0 rfl) ⟨_, rfl, fun w h => ?_⟩
    obtain rfl : i = ss.length := by omega
    simpa [heapOf] using h
theorem marked_Byte (w0 : Base) (η : Heap) (va : Value) (ss : List Strip) (hs : ∀ s ∈ ss, s.grown (St w0 η) 1 byteK) (ha : SlA (St w0 η) va 3 ss.length (arrOf ss)) :
    CallsT Tryz.prog 63 [va] (St w0 η) fun v A' => v = .bool true ∧ A' = St w0 η := by
  have hml : ∀ s ∈ ss, s.mark.length = 1 := fun s h => (hs s h).mints.length
  obtain ⟨hal, ada, ca, rfl, ⟨hca, hca2⟩, hra⟩ := ha
  refine CallsT.body Tryz.func63 rfl rfl ?_
  simp only [Tryz.ntmps63, slotsOf, Nat.reduceAdd]
  refine TC_seq ?_
  refine TC_reg ?_
  refine TL_q rfl rfl (QT_assign rfl rfl rfl) ?_
  refine TL_nil ?_
  refine TX_then ?_
  refine TC_seq ?_
  refine TC_seq ?_
  refine TC_reg ?_
  refine TL_q rfl rfl (QT_assign rfl rfl rfl) ?_
  refine TL_nil ?_
  refine TX_then ?_
  refine TC_block ?_
  refine TC_loop (γ := {i : Nat // i ≤ ss.length}) (fun t => [(0, true, .slice ada ss.length ca), (3, true, .int .i64 (t.1 : Int))]) (fun t => St w0 η) (fun t => ss.length - t.1) ⟨0, by omega⟩ ⟨rfl, rfl, trivial⟩ (fun _ h => h) ?_
  rintro ⟨i, hi⟩
  dsimp only
  refine TC_seq ?_
  refine TC_seq ?_
  refine TC_reg ?_
  refine TL_q rfl rfl (QT_move rfl rfl rfl) ?_
  refine TL_q rfl rfl (QT_move rfl rfl rfl) ?_
  refine TL_q rfl rfl (QT_len rfl rfl Tryz.underlying38 rfl) ?_
  refine TL_q rfl rfl (QT_lss rfl rfl rfl rfl) ?_
  refine TL_nil ?_
  refine TX_then ?_
  refine TC_cond_dec rfl (fun h8 => ?_) (fun h8 => ?_)
  ·
    refine TC_skip ?_
    refine TX_then ?_
    refine TC_seq ?_
    refine TC_block ?_
    refine TC_seq ?_
    have hin : i < ss.length := by omega
    obtain ⟨ba, oa, rfl, hrA⟩ := hra.resolve_left (by omega)
    obtain ⟨s, hsi⟩ : ∃ s, ss[i]? = some s := ⟨_, List.getElem?_eq_getElem hin⟩
    obtain ⟨hat1, hat2, hat3, hat4⟩ := arrOf_at hml hsi
    have hok := hs s (List.mem_of_getElem? hsi)
    have hmls := hml s (List.mem_of_getElem? hsi)
    obtain ⟨sv, sn, sxs, slong, smk, sH⟩ := s
    obtain ⟨hl, hlong, hmk, hfew⟩ := hok
    dsimp only at hl hlong hmk hfew hmls hat1 hat2 hat3 hat4
    obtain ⟨hll, lad, lcap, lb, loff, rfl, hlc, hlad, hlr⟩ := hl.some
    obtain ⟨hgl, gad, gcap, gb, goff, rfl, hgc, hgad, hgr⟩ := hlong.some
    obtain rfl := hgad (by omega)
    obtain ⟨mc, hmc⟩ := mark1 hmk
    refine TC_reg ?_
    refine TL_q rfl rfl (QT_assign rfl rfl rfl) ?_
    refine TL_nil ?_
    refine TX_then ?_
    refine TC_block ?_
    refine TC_loop (γ := {k : Nat // k ≤ sn + 24}) (fun t => [(0, true, .slice (some ⟨ba, oa, none⟩) ss.length ca), (3, true, .int .i64 (i : Int)), (4, true, .int .i64 (t.1 : Int))]) (fun t => St w0 η) (fun t => sn + 24 - t.1) ⟨0, by omega⟩ ⟨rfl, rfl, rfl, trivial⟩ (fun _ h => h) ?_
    rintro ⟨k, hk⟩
    dsimp only
    refine TC_seq ?_
    refine TC_seq ?_
    refine TC_reg ?_
    refine TL_q rfl rfl (QT_move rfl rfl rfl) ?_
    refine TL_q rfl rfl (QT_move rfl rfl rfl) ?_
    refine TL_q rfl rfl (QT_move rfl rfl rfl) ?_
    refine TL_q rfl rfl (QT_indexSlice (i) rfl rfl Tryz.underlying38 YtjdaglmkljbfkaaGreatDoorF.sz_94 rfl rfl (rfl) (fun _ => hin)) ?_
    refine TL_q rfl rfl (QT_field rfl rfl YtjdaglmkljbfkaaGreatDoorF.fld_94_1 rfl) ?_
    refine TL_q rfl rfl (QT_loadRj (i * 3 + 1) rfl rfl Tryz.underlying28 rfl hrA rfl (fun _ => hat2)) ?_
    refine TL_q rfl rfl (QT_len rfl rfl Tryz.underlying28 rfl) ?_
    refine TL_q rfl rfl (QT_lss rfl rfl rfl rfl) ?_
    refine TL_nil ?_
    refine TX_then ?_
    refine TC_cond_dec rfl (fun h18 => ?_) (fun h18 => ?_)
    ·
      refine TC_skip ?_
      refine TX_then ?_
      refine TC_seq ?_
      refine TC_block ?_
      refine TC_seq ?_
      have hkn : k < sn + 24 := by omega
      have hz1 : k * 1 + 1 ≤ (marks (sn + 24) smk).length := by
        rw [marks_len hmls]
        have : (k + 1) * 1 ≤ (sn + 24) * 1 := Nat.mul_le_mul_right _ (by omega)
        rw [Nat.add_mul] at this; omega
      have hz2 : (true && !decide ((k : Int) < (sn : Int))) = true ∨ k * 1 + 1 ≤ (marks sn smk).length := by
        by_cases h : k < sn
        · refine .inr ?_
          rw [marks_len hmls]
          have : (k + 1) * 1 ≤ sn * 1 := Nat.mul_le_mul_right _ (by omega)
          rw [Nat.add_mul] at this; omega
        · refine .inl ?_
          simpa using h
      refine TC_draw [(0, 0), (1, 0), (2, 0), (3, 0), (4, 0), (5, 0), (6, 0), (7, 0), (8, 0), (9, 0), (10, 0), (11, 0), (12, 0), (13, 0), (14, 0), (15, 0), (16, 0), (17, 0), (18, 0), (19, 0), (20, 0), (21, 0), (22, 0), (23, 0), (24, 0), (25, 0), (26, 0), (27, 0), (28, 0), (29, 0), (30, 0), (31, 0), (32, 0), (33, 0), (34, 0), (35, 0), (36, 0), (37, 0), (38, 0), (39, 0)] YtjdaglmkljbfkaaGreatDoorF.mixed (by kernel_rfl) (St.calm _ _) ?_
      refine TV_q rfl rfl rfl (fun _ => QT_move rfl rfl rfl) ?_
      refine TV_q rfl rfl rfl (fun _ => QT_move rfl rfl rfl) ?_
      refine TV_q rfl rfl rfl (fun _ => QT_indexSlice (i) rfl rfl Tryz.underlying38 YtjdaglmkljbfkaaGreatDoorF.sz_94 rfl rfl (rfl) (fun _ => hin)) ?_
      refine TV_q rfl rfl rfl (fun _ => QT_field rfl rfl YtjdaglmkljbfkaaGreatDoorF.fld_94_1 rfl) ?_
      refine TV_ql rfl rfl rfl (QT_loadRj (i * 3 + 1) rfl rfl Tryz.underlying28 rfl hrA rfl (fun _ => hat2)) ?_
      refine TV_q rfl rfl rfl (fun _ => QT_move rfl rfl rfl) ?_
      refine TV_q rfl rfl rfl (fun _ => QT_indexSlice (k) rfl rfl Tryz.underlying28 YtjdaglmkljbfkaaGreatDoorF.sz_5 rfl rfl (rfl) (fun _ => hkn)) ?_
      refine TV_ql rfl rfl rfl (QT_loadRj (k * 1) rfl rfl Tryz.underlying5 rfl hgr rfl (fun _ => at1 ((elem_marks hmls hkn).trans hmc))) ?_
      refine TV_q rfl rfl rfl (fun _ => QT_move rfl rfl rfl) ?_
      refine TV_q rfl rfl rfl (fun _ => QT_move rfl rfl rfl) ?_
      refine TV_q rfl rfl rfl (fun _ => QT_indexSlice (i) rfl rfl Tryz.underlying38 YtjdaglmkljbfkaaGreatDoorF.sz_94 rfl rfl (rfl) (fun _ => hin)) ?_
      refine TV_q rfl rfl rfl (fun _ => QT_field rfl rfl YtjdaglmkljbfkaaGreatDoorF.fld_94_2 rfl) ?_
      refine TV_ql rfl rfl rfl (QT_loadRj (i * 3 + 2) rfl rfl Tryz.underlying5 rfl hrA rfl (fun _ => at1 ((hat3).trans hmc))) ?_
      refine TV_q rfl rfl rfl (fun _ => QT_neq rfl rfl rfl rfl) ?_
      refine TV_q rfl rfl rfl (fun _ => QT_move rfl rfl rfl) ?_
      refine TV_q rfl rfl rfl (fun _ => QT_move rfl rfl rfl) ?_
      refine TV_q rfl rfl rfl (fun _ => QT_move rfl rfl rfl) ?_
      refine TV_q rfl rfl rfl (fun _ => QT_move rfl rfl rfl) ?_
      refine TV_q rfl rfl rfl (fun _ => QT_indexSlice (i) rfl rfl Tryz.underlying38 YtjdaglmkljbfkaaGreatDoorF.sz_94 rfl rfl (rfl) (fun _ => hin)) ?_
      refine TV_q rfl rfl rfl (fun _ => QT_field rfl rfl YtjdaglmkljbfkaaGreatDoorF.fld_94_0 rfl) ?_
      refine TV_ql rfl rfl rfl (QT_loadRj (i * 3) rfl rfl Tryz.underlying28 rfl hrA rfl (fun _ => hat1)) ?_
      refine TV_q rfl rfl rfl (fun _ => QT_len rfl rfl Tryz.underlying28 rfl) ?_
      refine TV_q rfl rfl rfl (fun _ => QT_lss rfl rfl rfl rfl) ?_
      refine TV_q rfl rfl rfl (fun _ => QT_move rfl rfl rfl) ?_
      refine TV_q rfl rfl rfl (fun _ => QT_move rfl rfl rfl) ?_
      refine TV_q rfl rfl rfl (fun _ => QT_move rfl rfl rfl) ?_
      refine TV_q rfl rfl rfl (fun _ => QT_indexSlice (i) rfl rfl Tryz.underlying38 YtjdaglmkljbfkaaGreatDoorF.sz_94 rfl rfl (rfl) (fun _ => hin)) ?_
      refine TV_q rfl rfl rfl (fun _ => QT_field rfl rfl YtjdaglmkljbfkaaGreatDoorF.fld_94_0 rfl) ?_
      refine TV_ql rfl rfl rfl (QT_loadRj (i * 3) rfl rfl Tryz.underlying28 rfl hrA rfl (fun _ => hat1)) ?_
      refine TV_q rfl rfl rfl (fun _ => QT_move rfl rfl rfl) ?_
      refine TV_q rfl rfl rfl (fun _ => QT_indexG k rfl rfl Tryz.underlying28 YtjdaglmkljbfkaaGreatDoorF.sz_5 rfl rfl rfl (fun h => by simp at h; omega) (fun h => hlad (by simp at h; omega))) ?_
      refine TV_ql rfl rfl rfl (QT_loadRj (k * 1) rfl rfl Tryz.underlying5 rfl hlr rfl (fun h => at1 ((elem_marks hmls (by simp at h; omega)).trans hmc))) ?_
      refine TV_q rfl rfl rfl (fun _ => QT_move rfl rfl rfl) ?_
      refine TV_q rfl rfl rfl (fun _ => QT_move rfl rfl rfl) ?_
      refine TV_q rfl rfl rfl (fun _ => QT_indexSlice (i) rfl rfl Tryz.underlying38 YtjdaglmkljbfkaaGreatDoorF.sz_94 rfl rfl (rfl) (fun _ => hin)) ?_
      refine TV_q rfl rfl rfl (fun _ => QT_field rfl rfl YtjdaglmkljbfkaaGreatDoorF.fld_94_2 rfl) ?_
      refine TV_ql rfl rfl rfl (QT_loadRj (i * 3 + 2) rfl rfl Tryz.underlying5 rfl hrA rfl (fun _ => at1 ((hat3).trans hmc))) ?_
      refine TV_q rfl rfl rfl (fun _ => QT_neq rfl rfl rfl rfl) ?_
      refine TV_q rfl rfl rfl (fun _ => QT_and rfl rfl rfl rfl) ?_
      refine TV_q rfl rfl rfl (fun _ => QT_or rfl rfl rfl rfl) ?_
      refine TV_end ?_
      refine TX_then ?_
      refine TC_cond rfl (fun h => absurd (h.symm.trans ((show (_ : Bool) = false by simp))) (by decide)) (fun _ => ?_)
      refine TC_skip ?_
      refine TX_block_normal ?_
      refine TX_then ?_
      refine TC_reg ?_
      refine TL_q rfl rfl (QT_move rfl rfl rfl) ?_
      refine TL_q rfl rfl (QT_add rfl rfl rfl rfl (fun _ => ⟨by omega, by omega⟩)) ?_
      refine TL_q rfl rfl (QT_assign rfl rfl rfl) ?_
      refine TL_nil ?_
      exact TX_round ⟨k + 1, by omega⟩ (by dsimp only; omega) ⟨rfl, rfl, slotI rfl (by dsimp only; omega), trivial⟩ (fun w h => h)
    ·
      refine TC_exit ?_
      refine TX_then_exit ?_
      refine TX_then_exit ?_
      refine TX_block_here ?_
      refine TX_block_normal ?_
      refine TX_then ?_
      refine TC_reg ?_
      refine TL_q rfl rfl (QT_move rfl rfl rfl) ?_
      refine TL_q rfl rfl (QT_add rfl rfl rfl rfl (fun _ => ⟨by omega, by omega⟩)) ?_
      refine TL_q rfl rfl (QT_assign rfl rfl rfl) ?_
      refine TL_nil ?_
      exact TX_round ⟨i + 1, by omega⟩ (by dsimp only; omega) ⟨rfl, slotI rfl (by dsimp only; omega), trivial⟩ (fun w h => h)
  ·
    refine TC_exit ?_
    refine TX_then_exit ?_
    refine TX_then_exit ?_
    refine TX_block_here ?_
    refine TX_then ?_
    refine TC_seq ?_
    refine TC_reg ?_
    refine TL_q rfl rfl (QT_assign rfl rfl rfl) ?_
    refine TL_nil ?_
    refine TX_then ?_
    refine TC_ret ?_
    exact TX_ret (.inl rfl) (res1 rfl rfl) ⟨_, ⟨rfl, rfl⟩, (fun _ h => by first | exact h | exact h.tail | exact h.tail.tail | exact h.tail.tail.tail | exact h.tail.tail.tail.tail | exact h.tail.tail.tail.tail.tail | exact h.tail.tail.tail.tail.tail.tail | exact h.tail.tail.tail.tail.tail.tail.tail | exact h.tail.tail.tail.tail.tail.tail.tail.tail | exact h.tail.tail.tail.tail.tail.tail.tail.tail.tail | exact h.tail.tail.tail.tail.tail.tail.tail.tail.tail.tail | exact h.tail.tail.tail.tail.tail.tail.tail.tail.tail.tail.tail | exact h.tail.tail.tail.tail.tail.tail.tail.tail.tail.tail.tail.tail | exact h.tail.tail.tail.tail.tail.tail.tail.tail.tail.tail.tail.tail.tail)⟩
theorem grow_Byte (w0 : Base) (η H : Heap) (va : Value) (ss : List Strip) (hs : ∀ s ∈ ss, s.ok 5 1 byteK ∧ s.xs = marks s.n s.mark) (ha : Frag 94 3 va ss.length (arrOf ss) H) :
    CallsT Tryz.prog 50 [va] (St w0 (H ++ (heapOf ss ++ η))) fun _ A' => ∃ ss' H', ss'.length = ss.length ∧ (∀ s ∈ ss', s.grown (St w0 (heapOf ss')) 1 byteK) ∧ Frag 94 3 va ss'.length (arrOf ss') H' ∧ A' = St w0 (H' ++ (heapOf ss' ++ η)) := by
  have hml : ∀ s ∈ ss, s.mark.length = 1 := fun s h => (hs s h).1.mints.length
  have hF := ha
  obtain ⟨ada, ca, rfl, ⟨hca, hca2⟩, hblk⟩ := ha.slice
  have hal := ha.1
  refine CallsT.body Tryz.func50 rfl rfl ?_
  simp only [Tryz.ntmps50, slotsOf, Nat.reduceAdd]
  refine TC_seq ?_
  refine TC_reg ?_
  refine TL_q rfl rfl (QT_assign rfl rfl rfl) ?_
  refine TL_nil ?_
  refine TX_then ?_
  refine TC_block ?_
  refine TC_loop (γ := {d : List Strip // d.length ≤ ss.length ∧ ∀ s ∈ d, s.grown (St w0 s.H) 1 byteK}) (fun t => [(0, true, .slice ada ss.length ca), (2, true, .int .i64 (t.1.length : Int))]) (fun t => St w0 (reH (arrOf ss).length (arrOf (t.1 ++ ss.drop t.1.length)) H ++ (heapOf t.1 ++ (heapOf (ss.drop t.1.length) ++ η)))) (fun t => ss.length - t.1.length) ⟨[], by simp, by simp⟩ ⟨rfl, rfl, trivial⟩ (fun _ h => by simpa [heapOf_nil, hF.re_self] using h) ?_
  rintro ⟨d, hi, hd⟩
  dsimp only
  refine TC_seq ?_
  refine TC_seq ?_
  refine TC_reg ?_
  refine TL_q rfl rfl (QT_move rfl rfl rfl) ?_
  refine TL_q rfl rfl (QT_move rfl rfl rfl) ?_
  refine TL_q rfl rfl (QT_len rfl rfl Tryz.underlying38 rfl) ?_
  refine TL_q rfl rfl (QT_lss rfl rfl rfl rfl) ?_
  refine TL_nil ?_
  refine TX_then ?_
  refine TC_cond_dec rfl (fun h7 => ?_) (fun h7 => ?_)
  ·
    refine TC_skip ?_
    refine TX_then ?_
    refine TC_seq ?_
    refine TC_block ?_
    refine TC_seq ?_
    have hin : d.length < ss.length := by omega
    have hmd : ∀ s ∈ d, s.mark.length = 1 := fun s h => (hd s h).mints.length
    obtain ⟨ba, rest, rfl, rfl⟩ := hblk (by omega)
    obtain ⟨s, hsi⟩ : ∃ s, ss[d.length]? = some s := ⟨_, List.getElem?_eq_getElem hin⟩
    have hdrop : ss.drop d.length = s :: ss.drop (d.length + 1) := by
      rw [List.drop_eq_getElem_cons hin]
      congr 1
      exact (List.getElem?_eq_some_iff.1 hsi).2
    obtain ⟨hok, hxs⟩ := hs s (List.mem_of_getElem? hsi)
    have hmls := hml s (List.mem_of_getElem? hsi)
    have hmt : ∀ s ∈ ss.drop (d.length + 1), s.mark.length = 1 := fun s h => hml s (List.mem_of_mem_drop h)
    have hI := LongInv.start (w0 := w0) hok hxs
    have hmi := hok.mints
    have hfew := hok.few
    obtain ⟨sad, scap, hsv, hscap, hsb⟩ := hok.frag.slice
    obtain ⟨sv, sn, sxs, slong, smk, sH⟩ := s
    dsimp only at hI hmi hfew hmls hsv hscap hsb
    subst hsv
    obtain ⟨mc, hmc⟩ := mark1 hmi
    have hall : ∀ lv : Value, ∀ s' ∈ (d ++ (⟨.slice sad sn scap, sn, sxs, lv, smk, sH⟩ : Strip) :: ss.drop (d.length + 1)), s'.mark.length = 1 := fun lv s' h => by
      rcases List.mem_append.1 h with h | h
      · exact hmd s' h
      · rcases List.mem_cons.1 h with rfl | h
        · exact hmls
        · exact hmt s' h
    have hlens : ∀ lv : Value, (arrOf (d ++ (⟨.slice sad sn scap, sn, sxs, lv, smk, sH⟩ : Strip) :: ss.drop (d.length + 1))).length = ss.length * 3 := fun lv => by
      rw [arrOf_len (hall lv), List.length_append, List.length_cons, List.length_drop]
      congr 1; omega
    have hat : ∀ lv : Value, (arrOf (d ++ (⟨.slice sad sn scap, sn, sxs, lv, smk, sH⟩ : Strip) :: ss.drop (d.length + 1)))[d.length * (1 + 2)]? = some (.slice sad sn scap) ∧ (arrOf (d ++ (⟨.slice sad sn scap, sn, sxs, lv, smk, sH⟩ : Strip) :: ss.drop (d.length + 1)))[d.length * (1 + 2) + 1]? = some lv ∧ ((arrOf (d ++ (⟨.slice sad sn scap, sn, sxs, lv, smk, sH⟩ : Strip) :: ss.drop (d.length + 1))).drop (d.length * (1 + 2) + 2)).take 1 = smk ∧ d.length * (1 + 2) + 2 + 1 ≤ (arrOf (d ++ (⟨.slice sad sn scap, sn, sxs, lv, smk, sH⟩ : Strip) :: ss.drop (d.length + 1))).length := fun lv => arrOf_at (hall lv) (i := d.length) (s := ⟨_, sn, sxs, lv, smk, sH⟩) (by simp)
    have hset : ∀ lv r : Value, setAt (arrOf (d ++ (⟨.slice sad sn scap, sn, sxs, lv, smk, sH⟩ : Strip) :: ss.drop (d.length + 1)) ++ rest) (d.length * (1 + 2) + 1) [r] = arrOf (d ++ (⟨.slice sad sn scap, sn, sxs, r, smk, sH⟩ : Strip) :: ss.drop (d.length + 1)) ++ rest := fun lv r => arrOf_set hmd rest
    have hin2 : (d.length + 1) * 3 ≤ ss.length * 3 := Nat.mul_le_mul_right _ (by omega)
    rw [hdrop]
    refine TC_A (St w0 ((ba, 94, arrOf (d ++ (⟨.slice sad sn scap, sn, sxs, slong, smk, sH⟩ : Strip) :: ss.drop (d.length + 1)) ++ rest) :: (sH ++ ([] ++ (heapOf d ++ (heapOf (ss.drop (d.length + 1)) ++ η)))))) (fun w h => by
      simp only [reH, List.map_cons, List.map_nil, List.drop_left, heapOf_cons] at h
      exact h.cnt fun p => by simp only [List.countP_append, List.countP_cons, List.countP_nil]; omega) ?_
    have hrA : ∀ (X : Heap) (lv : Value), Rd (St w0 ((ba, 94, arrOf (d ++ (⟨.slice sad sn scap, sn, sxs, lv, smk, sH⟩ : Strip) :: ss.drop (d.length + 1)) ++ rest) :: X)) ba 0 (arrOf (d ++ (⟨.slice sad sn scap, sn, sxs, lv, smk, sH⟩ : Strip) :: ss.drop (d.length + 1))) := fun X lv => Rd.ownA (List.mem_cons_self ..) 0 (by simp)
    refine TC_reg ?_
    refine TL_q rfl rfl (QT_move rfl rfl rfl) ?_
    refine TL_q rfl rfl (QT_move rfl rfl rfl) ?_
    refine TL_q rfl rfl (QT_move rfl rfl rfl) ?_
    refine TL_q rfl rfl (QT_move rfl rfl rfl) ?_
    refine TL_q rfl rfl (QT_indexSlice (d.length) rfl rfl Tryz.underlying38 YtjdaglmkljbfkaaGreatDoorF.sz_94 rfl rfl (rfl) (fun _ => hin)) ?_
    refine TL_q rfl rfl (QT_field rfl rfl YtjdaglmkljbfkaaGreatDoorF.fld_94_0 rfl) ?_
    refine TL_q rfl rfl (QT_loadRj (d.length * 3) rfl rfl Tryz.underlying28 rfl (hrA _ slong) rfl (fun _ => (hat slong).1)) ?_
    refine TL_q rfl rfl (QT_indexSlice (d.length) rfl rfl Tryz.underlying38 YtjdaglmkljbfkaaGreatDoorF.sz_94 rfl rfl (rfl) (fun _ => hin)) ?_
    refine TL_q rfl rfl (QT_field rfl rfl YtjdaglmkljbfkaaGreatDoorF.fld_94_1 rfl) ?_
    refine TL_e0 rfl rfl (rfl) (ET_store (vs := [.slice sad sn scap]) 0 rfl rfl rfl rfl YtjdaglmkljbfkaaGreatDoorF.sz_28 rfl rfl (Nat.ble_eq_true_of_le (by have := hlens slong; simp only [List.length_append, List.length_cons, List.length_nil]; omega))) ?_
    rintro _ _ ⟨rfl, rfl⟩
    refine TL_nil ?_
    refine TX_then ?_
    refine TC_seq ?_
    refine TC_A (St w0 ((ba, 94, arrOf (d ++ (⟨.slice sad sn scap, sn, sxs, (.slice sad sn scap), smk, sH⟩ : Strip) :: ss.drop (d.length + 1)) ++ rest) :: (sH ++ ([] ++ (heapOf d ++ (heapOf (ss.drop (d.length + 1)) ++ η)))))) (fun w h => by
      simp only [upd, Nat.zero_add] at h
      rw [hset slong] at h
      exact h) ?_
    refine TC_reg ?_
    refine TL_q rfl rfl (QT_assign rfl rfl rfl) ?_
    refine TL_nil ?_
    refine TX_then ?_
    refine TC_block ?_
    refine TC_loop (γ := {t : Nat × Value × Heap × Heap // t.1 ≤ 24 ∧ LongInv w0 5 1 (.slice sad sn scap) sn smk t.2.1 (sn + t.1) t.2.2.1 t.2.2.2}) (fun t => [(0, true, .slice (some ⟨ba, 0, none⟩) ss.length ca), (2, true, .int .i64 (d.length : Int)), (3, true, .int .i64 (t.1.1 : Int))]) (fun t => St w0 ((ba, 94, arrOf (d ++ (⟨.slice sad sn scap, sn, sxs, t.1.2.1, smk, sH⟩ : Strip) :: ss.drop (d.length + 1)) ++ rest) :: (t.1.2.2.1 ++ (t.1.2.2.2 ++ (heapOf d ++ (heapOf (ss.drop (d.length + 1)) ++ η)))))) (fun t => 24 - t.1.1) ⟨(0, .slice sad sn scap, sH, []), by dsimp only; omega, hI⟩ ⟨rfl, rfl, rfl, trivial⟩ (fun _ h => h) ?_
    rintro ⟨⟨k, lv, HL, KK⟩, hk, hL⟩
    dsimp only at hk hL ⊢
    refine TC_seq ?_
    refine TC_seq ?_
    refine TC_reg ?_
    refine TL_q rfl rfl (QT_move rfl rfl rfl) ?_
    refine TL_q rfl rfl (QT_lss rfl rfl rfl rfl) ?_
    refine TL_nil ?_
    refine TX_then ?_
    refine TC_cond_dec rfl (fun h20 => ?_) (fun h20 => ?_)
    ·
      refine TC_skip ?_
      refine TX_then ?_
      refine TC_seq ?_
      refine TC_block ?_
      have hk24 : k < 24 := by omega
      refine TC_draw [(0, 0), (1, 0), (2, 0), (3, 0), (4, 0), (5, 0), (6, 0), (7, 0), (8, 0), (9, 0), (10, 0), (11, 0), (12, 1), (13, 1), (14, 0), (15, 0), (16, 1)] YtjdaglmkljbfkaaGreatDoorF.mixed (by kernel_rfl) (St.calm _ _) ?_
      refine TV_q rfl rfl rfl (fun _ => QT_move rfl rfl rfl) ?_
      refine TV_q rfl rfl rfl (fun _ => QT_move rfl rfl rfl) ?_
      refine TV_q rfl rfl rfl (fun _ => QT_move rfl rfl rfl) ?_
      refine TV_q rfl rfl rfl (fun _ => QT_move rfl rfl rfl) ?_
      refine TV_q rfl rfl rfl (fun _ => QT_indexSlice (d.length) rfl rfl Tryz.underlying38 YtjdaglmkljbfkaaGreatDoorF.sz_94 rfl rfl (rfl) (fun _ => hin)) ?_
      refine TV_q rfl rfl rfl (fun _ => QT_field rfl rfl YtjdaglmkljbfkaaGreatDoorF.fld_94_1 rfl) ?_
      refine TV_ql rfl rfl rfl (QT_loadRj (d.length * 3 + 1) rfl rfl Tryz.underlying28 rfl ((hrA [] lv).mono fun _ h => h.cnt fun p => by simp only [List.countP_append, List.countP_cons, List.countP_nil]; omega) rfl (fun _ => (hat lv).2.1)) ?_
      refine TV_q rfl rfl rfl (fun _ => QT_move rfl rfl rfl) ?_
      refine TV_q rfl rfl rfl (fun _ => QT_move rfl rfl rfl) ?_
      refine TV_q rfl rfl rfl (fun _ => QT_indexSlice (d.length) rfl rfl Tryz.underlying38 YtjdaglmkljbfkaaGreatDoorF.sz_94 rfl rfl (rfl) (fun _ => hin)) ?_
      refine TV_q rfl rfl rfl (fun _ => QT_field rfl rfl YtjdaglmkljbfkaaGreatDoorF.fld_94_2 rfl) ?_
      refine TV_ql rfl rfl rfl (QT_loadRj (d.length * 3 + 2) rfl rfl Tryz.underlying5 rfl ((hrA [] lv).mono fun _ h => h.cnt fun p => by simp only [List.countP_append, List.countP_cons, List.countP_nil]; omega) rfl (fun _ => at1 (((hat lv).2.2.1).trans hmc))) ?_
      refine TV_e rfl rfl rfl rfl (rfl) (ET_buildN [_] rfl Tryz.underlying28 YtjdaglmkljbfkaaGreatDoorF.sz_5 YtjdaglmkljbfkaaGreatDoorF.zero_5 rfl rfl rfl (fun v hv => by cases List.mem_singleton.1 hv; rfl)) ?_
      rintro _ _ ⟨b35, rfl, rfl⟩
      refine ⟨_, .drop (by kernel_rfl) (.keep (by kernel_rfl) rfl (by first | exact QT_loadRj (d.length * 3 + 1) rfl rfl Tryz.underlying28 rfl ((hrA [] lv).mono fun _ h => h.cnt fun p => by simp only [List.countP_append, List.countP_cons, List.countP_nil]; omega) rfl (fun _ => (hat lv).2.1)) (.nil)), ?_⟩
      refine TV_e rfl rfl rfl rfl (rfl) (ET_long (L := [_, _]) rfl Tryz.underlying28 el_Byte rfl rfl hL hmls (fun _ h => h) (SlA.own (n := 1) (xs := smk) 0 rfl (by rw [hmc]; rfl) (Nat.le_refl _) (by omega)) hmi.oneCell (few_b hfew hk24 (by decide)) (few_l hfew hk24)) ?_
      rintro lv2 _ ⟨H', K', hL', rfl⟩
      refine ⟨_, .drop (by kernel_rfl) (.nil), ?_⟩
      obtain ⟨ad2, cap2, rfl, _⟩ := hL'.frag.slice
      refine TV_q rfl rfl rfl (fun _ => QT_indexSlice (d.length) rfl rfl Tryz.underlying38 YtjdaglmkljbfkaaGreatDoorF.sz_94 rfl rfl (rfl) (fun _ => hin)) ?_
      refine TV_q rfl rfl rfl (fun _ => QT_field rfl rfl YtjdaglmkljbfkaaGreatDoorF.fld_94_1 rfl) ?_
      refine TV_e0 rfl rfl rfl (rfl) (ET_store (vs := [.slice ad2 (sn + k + 1) cap2]) 1 rfl rfl rfl rfl YtjdaglmkljbfkaaGreatDoorF.sz_28 rfl rfl (Nat.ble_eq_true_of_le (by have := hlens lv; simp only [List.length_append, List.length_cons, List.length_nil]; omega))) ?_
      rintro _ _ ⟨rfl, rfl⟩
      refine ⟨_, .nil, ?_⟩
      refine TV_end ?_
      refine TX_block_normal ?_
      refine TX_then ?_
      refine TC_reg ?_
      refine TL_q rfl rfl (QT_move rfl rfl rfl) ?_
      refine TL_q rfl rfl (QT_add rfl rfl rfl rfl (fun _ => ⟨by omega, by omega⟩)) ?_
      refine TL_q rfl rfl (QT_assign rfl rfl rfl) ?_
      refine TL_nil ?_
      refine TX_round ⟨(k + 1, .slice ad2 (sn + k + 1) cap2, H', K'), by dsimp only; omega, hL'⟩ (by dsimp only; omega) ⟨rfl, rfl, slotI rfl (by dsimp only; omega), trivial⟩ (fun w h => ?_)
      simp only [upd, Nat.zero_add] at h
      rw [hset lv] at h
      exact h.tail
    ·
      refine TC_exit ?_
      refine TX_then_exit ?_
      refine TX_then_exit ?_
      refine TX_block_here ?_
      refine TX_block_normal ?_
      refine TX_then ?_
      refine TC_reg ?_
      refine TL_q rfl rfl (QT_move rfl rfl rfl) ?_
      refine TL_q rfl rfl (QT_add rfl rfl rfl rfl (fun _ => ⟨by omega, by omega⟩)) ?_
      refine TL_q rfl rfl (QT_assign rfl rfl rfl) ?_
      refine TL_nil ?_
      obtain rfl : k = 24 := by omega
      have hg := LongInv.grown (s := ⟨.slice sad sn scap, sn, sxs, lv, smk, sH⟩) hL hmi rfl hfew
      refine TX_round ⟨d ++ [⟨.slice sad sn scap, sn, sxs, lv, smk, HL ++ KK⟩], by simp; omega, fun s h => ?_⟩ (by simp only [List.length_append, List.length_cons, List.length_nil]; omega) ⟨rfl, slotI rfl (by simp), trivial⟩ (fun w h => ?_)
      · rcases List.mem_append.1 h with h | h
        · exact hd s h
        · obtain rfl := List.mem_singleton.1 h
          exact hg
      · have e : arrOf ((d ++ [(⟨.slice sad sn scap, sn, sxs, lv, smk, HL ++ KK⟩ : Strip)]) ++ ss.drop (d.length + 1)) = arrOf (d ++ (⟨.slice sad sn scap, sn, sxs, lv, smk, sH⟩ : Strip) :: ss.drop (d.length + 1)) := by
          simp [arrOf, Strip.cells]
        simp only [List.length_append, List.length_cons, List.length_nil, Nat.zero_add, e, heapOf_append, heapOf_cons, heapOf_nil, reH, List.map_cons, List.map_nil, List.drop_left]
        exact h.cnt fun p => by simp only [List.countP_append, List.countP_cons, List.countP_nil]; omega
  ·
    refine TC_exit ?_
    refine TX_then_exit ?_
    refine TX_then_exit ?_
    refine TX_block_here ?_
    refine TX_ret (.inr rfl) (res0 rfl) ⟨_, ⟨d, reH (arrOf ss).length (arrOf d) H, by omega, fun s h => (hd s h).mono fun _ hw => hw.cnt (heapOf_mem h), ?_, rfl⟩, fun w h => ?_⟩
    · have hdl : d.length = ss.length := by omega
      rw [hdl]
      exact hF.re (by rw [arrOf_len (Z := 1) (fun s h => (hd s h).mints.length), arrOf_len hml, hdl])
    · have hdl : ss.drop d.length = [] := List.drop_eq_nil_of_le (by omega)
      rw [hdl, List.append_nil, heapOf_nil] at h
      simpa using h
end Go.Proofs.YtjdaglmkljbfkaaGreatDoor
namespace Go.Proofs.YtjdaglmkljbfkaaGreatDoor
open Go Go.Gx Go.RowKit
set_option maxRecDepth 100000

theorem el_stripByte : ElemOk Tryz.prog 94 3 56 (.agg (nilS :: nilS :: [.int .u8 0]).toArray) := .of YtjdaglmkljbfkaaGreatDoorF.sz_94 (by kernel_rfl) (by unfold ZeroOk; kernel_rfl) (by kernel_rfl) (by decide)
theorem book_Bytes (w0 : Base) (η H : Heap) (kb : Nat) (k : Bk) (ss : List Strip) (v : Value) (n : Nat) (xs : List Value) (Hv : Heap) (h0 : 0 ≤ k.many ∧ k.many ≤ 250) (hF : Frag 94 3 k.bytes ss.length (arrOf ss) H) (hs : ∀ s ∈ ss, s.ok 5 1 byteK) (hsl : ss.length ≤ 1000) (hv : ∃ ad n cap, v = .slice ad n cap) :
    CallsT Tryz.prog 9 [.pointer (some ⟨kb, 0, none⟩), v] (St w0 ((kb, 52, k.cells) :: (H ++ η))) fun _ A' => ∃ r H', Frag 94 3 r (ss.length + 1) (arrOf (ss ++ [⟨v, n, xs, nilS, [.int .u8 (k.many + 1)], Hv⟩])) H' ∧ A' = St w0 ((kb, 52, { k with many := k.many + 1, bytes := r }.cells) :: (H' ++ η)) := by
  obtain ⟨vad, vn, vcap, rfl⟩ := hv
  obtain ⟨fad, fcap, hfv, hfc, _⟩ := hF.slice
  have hwr : IntKind.u8.wrap (k.many + 1) = k.many + 1 := IntWalk.u8_in _ ⟨by omega, by omega⟩
  refine CallsT.body Tryz.func9 rfl rfl ?_
  simp only [Tryz.ntmps9, slotsOf, Nat.reduceAdd]
  refine TC_draw [(0, 0), (1, 0), (2, 0), (3, 0), (4, 0), (5, 0), (6, 0), (7, 1), (8, 0), (9, 0), (10, 1), (11, 1), (12, 0), (13, 0), (14, 1)] YtjdaglmkljbfkaaGreatDoorF.mixed (by kernel_rfl) (St.calm _ _) ?_
  refine TV_q rfl rfl rfl (fun _ => QT_move rfl rfl rfl) ?_
  refine TV_q rfl rfl rfl (fun _ => QT_move rfl rfl rfl) ?_
  refine TV_q rfl rfl rfl (fun _ => QT_nilCheck rfl rfl rfl) ?_
  refine TV_q rfl rfl rfl (fun _ => QT_field rfl rfl YtjdaglmkljbfkaaGreatDoorF.fld_52_1 rfl) ?_
  refine TV_ql rfl rfl rfl (QT_load 0 rfl rfl Tryz.underlying38 rfl rfl rfl (fun _ => rfl)) ?_
  refine TV_q rfl rfl rfl (fun _ => QT_move rfl rfl rfl) ?_
  refine TV_q rfl rfl rfl (fun _ => QT_move rfl rfl rfl) ?_
  refine TV_e rfl rfl rfl rfl (rfl) (ET_call rfl YtjdaglmkljbfkaaGreatDoorF.cal_31 rfl (next_spec w0 _ kb k (by omega))) ?_
  rintro _ _ ⟨rfl, rfl⟩
  refine ⟨_, .keep (by kernel_rfl) rfl (by first | exact QT_load 0 rfl rfl Tryz.underlying38 rfl rfl rfl (fun _ => rfl) | exact QT_load 1 rfl rfl Tryz.underlying38 rfl rfl rfl (fun _ => rfl) | exact QT_load 2 rfl rfl Tryz.underlying38 rfl rfl rfl (fun _ => rfl)) (.nil), ?_⟩
  refine TV_q rfl rfl rfl (fun _ => QT_convN rfl rfl Tryz.underlying3 Tryz.underlying5 rfl hwr) ?_
  refine TV_q rfl rfl rfl (fun _ => QT_build rfl rfl YtjdaglmkljbfkaaGreatDoorF.zero_94 YtjdaglmkljbfkaaGreatDoorF.pl_94 rfl rfl rfl) ?_
  refine TV_e rfl rfl rfl rfl (rfl) (ET_buildN [_] rfl Tryz.underlying38 YtjdaglmkljbfkaaGreatDoorF.sz_94 YtjdaglmkljbfkaaGreatDoorF.zero_94 rfl rfl rfl (fun v hv => by cases List.mem_singleton.1 hv; rfl)) ?_
  rintro _ _ ⟨b14, rfl, rfl⟩
  refine ⟨_, .keep (by kernel_rfl) rfl (by first | exact QT_load 0 rfl rfl Tryz.underlying38 rfl rfl rfl (fun _ => rfl) | exact QT_load 1 rfl rfl Tryz.underlying38 rfl rfl rfl (fun _ => rfl) | exact QT_load 2 rfl rfl Tryz.underlying38 rfl rfl rfl (fun _ => rfl)) (.nil), ?_⟩
  refine TV_e rfl rfl rfl rfl (rfl) (ET_appendL (L := [_, _]) rfl Tryz.underlying38 el_stripByte rfl rfl hF (fun _ h => h) (SlA.own (n := 1) (xs := [.slice vad vn vcap, nilS, .int .u8 (k.many + 1)]) 0 rfl rfl (Nat.le_refl _) (by omega)) (fun u hu => by
   rcases List.mem_cons.1 hu with rfl | hu
   · rfl
   · rcases List.mem_cons.1 hu with rfl | hu
     · rfl
     · cases List.mem_singleton.1 hu; rfl) (by omega) (by omega)) ?_
  rintro r _ ⟨H', hF', rfl⟩
  refine ⟨_, .drop (by kernel_rfl) (.nil), ?_⟩
  obtain ⟨rad, rcap, rfl, _, _⟩ := hF'.slice
  refine TV_q rfl rfl rfl (fun _ => QT_nilCheck rfl rfl rfl) ?_
  refine TV_q rfl rfl rfl (fun _ => QT_field rfl rfl YtjdaglmkljbfkaaGreatDoorF.fld_52_1 rfl) ?_
  refine TV_e0 rfl rfl rfl (rfl) (ET_store 1 rfl rfl rfl rfl YtjdaglmkljbfkaaGreatDoorF.sz_38 rfl rfl rfl) ?_
  rintro _ _ ⟨rfl, rfl⟩
  refine ⟨_, .nil, ?_⟩
  refine TV_end ?_
  refine TX_ret (.inr rfl) (res0 rfl) ⟨_, ⟨.slice rad (ss.length + 1) rcap, H', by rw [arrOf_append]; simpa [arrOf, Strip.cells] using hF', rfl⟩, fun w h => ?_⟩
  have h2 : St w0 ((b14, 94, _) :: (kb, 52, { k with many := k.many + 1, bytes := .slice rad (ss.length + 1) rcap }.cells) :: (H' ++ η)) w := h
  exact h2.tail
end Go.Proofs.YtjdaglmkljbfkaaGreatDoor
namespace Go.Proofs.YtjdaglmkljbfkaaGreatDoor
open Go Go.Gx
set_option maxRecDepth 100000
def rkK (p : Nat) : IntKind := if p = 0 then .u8 else if p < 3 then .u32 else .u16
def rkM (p : Nat) : Nat := if p = 0 then 256 else if p < 3 then 4294967296 else 65536
theorem recK_at {p : Nat} (h : p < 7) : recK[p]? = some (rkK p) := (show ∀ p : Fin 7, recK[p.1]? = some (rkK p.1) by decide) ⟨p, h⟩
theorem recK_len : recK.length = 7 := by decide
def rvV (xs : List Nat) : List Value := List.zipWith (fun (k : IntKind) (x : Nat) => Value.int k (x : Int)) recK xs
theorem rvV_len {xs : List Nat} (h : xs.length = 7) : (rvV xs).length = 7 := by rw [rvV, List.length_zipWith, recK_len, h]; rfl
theorem rvV_at {xs : List Nat} {p x : Nat} (hp : p < 7) (h : xs[p]? = some x) : (rvV xs)[p]? = some (.int (rkK p) (x : Int)) := by
  rw [rvV, List.getElem?_zipWith, recK_at hp, h]
theorem rvV_set {xs : List Nat} {p v : Nat} (hp : p < 7) : (rvV xs).set p (.int (rkK p) (v : Int)) = rvV (xs.set p v) := by
  apply List.ext_getElem?
  intro k
  rw [List.getElem?_set]
  by_cases e : p = k
  · subst e
    rw [if_pos rfl]
    by_cases hl : p < xs.length
    · rw [if_pos (by rw [rvV, List.length_zipWith, recK_len]; omega), rvV_at (x := v) hp (by rw [List.getElem?_set, if_pos rfl, if_pos hl])]
    · rw [if_neg (by rw [rvV, List.length_zipWith]; omega), rvV, List.getElem?_zipWith, List.getElem?_eq_none (l := xs.set p v) (by rw [List.length_set]; omega), recK_at hp]
  · rw [if_neg e, rvV, rvV, List.getElem?_zipWith, List.getElem?_zipWith, List.getElem?_set, if_neg e]
/-- how wide a record's numbers are -/
def flN (L : Lay) : Nat := (flb L).toNat
def wdR (L : Lay) (p : Nat) : Nat := if p = 0 then flN L else if p < 3 then L.co.toNat else if p - 3 < L.cs.toNat then L.cm.toNat else 0
def wR (L : Lay) : Ws := (List.range 7).map fun p => (wdR L p, rkM p)
theorem wR_len (L : Lay) : (wR L).length = 7 := by simp [wR]
theorem wR_at {L : Lay} {p : Nat} (h : p < 7) : (wR L)[p]? = some (wdR L p, rkM p) := by rw [wR, List.getElem?_map, List.getElem?_range h]; rfl
/-- a record's numbers -/
structure RcF (r : List Nat) : Prop where
  len : r.length = 7
  lt : ∀ {p x}, r[p]? = some x → x < rkM p
theorem get7 {r : List Nat} (h : r.length = 7) {p : Nat} (hp : p < 7) : ∃ x, r[p]? = some x := ⟨_, List.getElem?_eq_getElem (by omega)⟩
theorem flN_bd {L : Lay} (h : okB L = true) : flN L ≤ 8 ∧ (flN L : Int) = flb L := by
  have hb := (okB_bounds h).2.2.2.2.2
  have : 0 ≤ flb L ∧ flb L ≤ 8 := by
    unfold flb
    split
    · omega
    · have := hb (by assumption); omega
  unfold flN; omega
theorem wdR_le {L : Lay} (h : okB L = true) (p : Nat) : wdR L p ≤ 32 := by
  have h1 := (flN_bd h).1
  have h2 := (okB_bounds h).1
  have h3 := (okB_bounds h).2.1
  unfold wdR; split
  · omega
  · split
    · omega
    · split <;> omega
theorem wR_le {L : Lay} (h : okB L = true) : ∀ p ∈ wR L, p.1 ≤ 32 := by
  intro p hp
  obtain ⟨k, _, rfl⟩ := List.mem_map.1 hp
  exact wdR_le h k
theorem wR_m (L : Lay) : ∀ p ∈ wR L, 0 < p.2 := by
  intro p hp
  obtain ⟨k, _, rfl⟩ := List.mem_map.1 hp
  show 0 < rkM k
  unfold rkM; split; decide; split <;> decide
theorem Und_atR : ∀ {ws : Ws} {xs : List Nat}, Und ws xs → ∀ {k w m x : Nat}, ws[k]? = some (w, m) → xs[k]? = some x → x < m
  | [], [], _, k, w, m, x, h, _ => by simp at h
  | [], _ :: _, h, _, _, _, _, _, _ => h.elim
  | _ :: _, [], h, _, _, _, _, _, _ => h.elim
  | (w, m) :: ws, x :: xs, h, 0, _, _, _, h1, h2 => by cases h1; cases h2; exact h.1
  | (w, m) :: ws, x :: xs, h, k + 1, _, _, _, h1, h2 => Und_atR h.2 h1 h2
theorem Und.rcf {r : List Nat} {L : Lay} (h : Und (wR L) r) : RcF r := by
  have hl := h.len
  rw [wR_len] at hl
  refine ⟨hl.symm, fun {p x} hx => ?_⟩
  have hk : p < 7 := by rw [hl]; exact (List.getElem?_eq_some_iff.1 hx).1
  exact Und_atR h (wR_at hk) hx
def dcR (L : Lay) (l : List Bool) : List Nat := dec (wR L) l
def szR (L : Lay) : Nat := (tot (wR L) + 7) / 8
theorem tot_wR {L : Lay} (h : okB L = true) : tot (wR L) = flN L + 2 * L.co.toNat + L.cs.toNat * L.cm.toNat := by
  have hs := (okB_bounds h).2.2.1
  obtain ⟨c, hc⟩ : ∃ c, c = L.cs.toNat := ⟨_, rfl⟩
  have e : tot (wR L) = flN L + (L.co.toNat + (L.co.toNat + ((if 0 < L.cs.toNat then L.cm.toNat else 0) + ((if 1 < L.cs.toNat then L.cm.toNat else 0) + ((if 2 < L.cs.toNat then L.cm.toNat else 0) + ((if 3 < L.cs.toNat then L.cm.toNat else 0) + 0)))))) := rfl
  rw [e, ← hc]
  have : c = 1 ∨ c = 2 ∨ c = 3 ∨ c = 4 := by omega
  rcases this with h | h | h | h <;> rw [h] <;> simp <;> omega
theorem sizeR_eq {L : Lay} (h : okB L = true) (hty : L.ty = 4 ∨ L.ty = 5) (f : Int) : sizeZ L f = (szR L : Int) := by
  have hb := okB_bounds h
  have h1 := flN_bd h
  have e2 : L.co = (L.co.toNat : Int) := by omega
  have e3 : L.cm = (L.cm.toNat : Int) := by omega
  have e4 : L.cs = (L.cs.toNat : Int) := by omega
  have ep : ptsZ L f = 1 := by unfold ptsZ; rw [if_neg (by omega), if_neg (by omega)]
  have ec : colZ L f = 1 := by unfold colZ; rw [if_neg (by omega)]
  have et : bitsZ L f = (tot (wR L) : Int) := by
    unfold bitsZ
    rw [ep, ec, tot_wR h, Int.natCast_add, Int.natCast_add, h1.2, Int.natCast_mul, Int.natCast_mul, ← e2, ← e3, ← e4, Int.one_mul, Int.add_assoc]
    rfl
  unfold sizeZ szR
  rw [if_pos h, et]
  omega
theorem szR_bd {L : Lay} (h : okB L = true) : 1 ≤ szR L ∧ szR L ≤ 17 ∧ tot (wR L) ≤ 136 ∧ 3 ≤ tot (wR L) := by
  have hb := okB_bounds h
  have h1 := (flN_bd h).1
  have h2 := mul_bd (a := L.cs) (b := L.cm) (by omega) (by omega) (by omega) (by omega)
  have h3 := tot_wR h
  have e : ((L.cs.toNat * L.cm.toNat : Nat) : Int) = L.cs * L.cm := by rw [Int.natCast_mul]; congr 1 <;> omega
  unfold szR
  omega
theorem dcR_rcf (L : Lay) (l : List Bool) : RcF (dcR L l) := Und.rcf (L := L) (dec_und l (wR_m L))
/-- the k-th record of bytes -/
def recAt (L : Lay) (bs : List Nat) (k : Nat) : List Nat := dcR L (byB (bs.drop (k * szR L)))
def recsB (L : Lay) (bs : List Nat) (n : Nat) : List (List Nat) := (List.range n).map (recAt L bs)
def okR (L : Lay) : Prop := okB L = true ∧ L.ty ≤ 5
theorem ty45 {L : Lay} (h : okR L) : L.ty = 4 ∨ L.ty = 5 := by
  have := (okB_bounds h.1).2.2.2.1
  have := h.2
  omega
def errRG (L : Lay) (bs : List Nat) : Int := if okB L = true ∧ L.ty ≤ 5 then (if 65536 < bs.length then 3 else if bs.length % szR L = 0 then 0 else 5) else 4
def outRG (L : Lay) (bs : List Nat) : List (List Nat) := if errRG L bs = 0 then recsB L bs (bs.length / szR L) else []
/-- records, one behind the other, in memory -/
def flatR (rs : List (List Nat)) : List Value := (rs.map rvV).flatten
theorem flatR_cons (r : List Nat) (rs : List (List Nat)) : flatR (r :: rs) = rvV r ++ flatR rs := by simp [flatR]
theorem flatR_snoc (rs : List (List Nat)) (r : List Nat) : flatR (rs ++ [r]) = flatR rs ++ rvV r := by simp [flatR]
theorem zip_intsR : ∀ {ks : List IntKind} {xs : List Nat}, ks.length = xs.length → (∀ (p : Nat) (k : IntKind) (x : Nat), ks[p]? = some k → xs[p]? = some x → (Lit.int k (x : Int)).wf = true) → Ints ks (List.zipWith (fun (k : IntKind) (x : Nat) => Value.int k (x : Int)) ks xs)
  | [], [], _, _ => .nil
  | [], _ :: _, h, _ => by simp at h
  | _ :: _, [], h, _ => by simp at h
  | k :: ks, x :: xs, h, hw => .cons (hw 0 k x rfl rfl) (zip_intsR (by simpa using h) fun p k x h1 h2 => hw (p + 1) k x h1 h2)
theorem rvV_ints {r : List Nat} (h : RcF r) : Ints recK (rvV r) := by
  refine zip_intsR (by rw [recK_len, h.len]) fun p k x hk hv => ?_
  have hp : p < 7 := by rw [← recK_len]; exact (List.getElem?_eq_some_iff.1 hk).1
  rw [recK_at hp] at hk
  cases hk
  have hx := h.lt hv
  have a1 : IntKind.u8.min = 0 := rfl
  have a2 : IntKind.u8.max = 255 := rfl
  have a3 : IntKind.u16.min = 0 := rfl
  have a4 : IntKind.u16.max = 65535 := rfl
  have a5 : IntKind.u32.min = 0 := rfl
  have a6 : IntKind.u32.max = 4294967295 := rfl
  unfold rkM at hx
  unfold rkK
  split
  · rename_i e; rw [if_pos e] at hx; simp only [Lit.wf, Bool.and_eq_true, decide_eq_true_eq]; omega
  · rename_i e
    rw [if_neg e] at hx
    split
    · rename_i e2; rw [if_pos e2] at hx; simp only [Lit.wf, Bool.and_eq_true, decide_eq_true_eq]; omega
    · rename_i e2; rw [if_neg e2] at hx; simp only [Lit.wf, Bool.and_eq_true, decide_eq_true_eq]; omega
theorem flatR_ints : ∀ {rs : List (List Nat)}, (∀ r ∈ rs, RcF r) → Ints (rep rs.length recK) (flatR rs)
  | [], _ => .nil
  | r :: rs, h => by
    have e2 : rep (r :: rs).length recK = recK ++ rep rs.length recK := by simp [rep, List.replicate_succ]
    rw [flatR_cons, e2]
    exact (rvV_ints (h r (List.mem_cons_self ..))).append (flatR_ints fun z hz => h z (List.mem_cons_of_mem _ hz))
end Go.Proofs.YtjdaglmkljbfkaaGreatDoor
namespace Go.Proofs.YtjdaglmkljbfkaaGreatDoor
open Go Go.Gx Go.RowKit
set_option maxRecDepth 100000
def errCR (L : Lay) : Int := if okB L = true ∧ L.ty ≤ 5 then 0 else 4
theorem rcheck0_spec (w0 : Base) (η : Heap) (hG : Sets w0) (L : Lay) :
    CallsT Tryz.prog 137 [L.val] (St w0 η) fun v A' => v = .int .i64 (errCR L) ∧ A' = St w0 η := by
  refine CallsT.body Tryz.func137 rfl rfl ?_
  simp only [Tryz.ntmps137, slotsOf, Nat.reduceAdd]
  refine TC_seq ?_
  refine TC_reg ?_
  refine TL_e rfl rfl rfl (rfl) (ET_box rfl rfl) ?_
  rintro _ _ ⟨b1, rfl, rfl⟩
  refine TL_q rfl rfl (QT_assign rfl rfl rfl) ?_
  refine TL_nil ?_
  refine TX_then ?_
  refine TC_seq ?_
  refine TC_seq ?_
  refine TC_reg ?_
  refine TL_q rfl rfl (QT_loadW 0 rfl rfl Tryz.underlying27 rfl rfl rfl YtjdaglmkljbfkaaGreatDoorF.sz_27) ?_
  refine TL_cq rfl rfl rfl rfl YtjdaglmkljbfkaaGreatDoorF.cal_26 rfl (fun _ => check_spec w0 _ hG L) ?_
  refine TL_q rfl rfl (QT_neq rfl rfl rfl rfl) ?_
  refine TL_q rfl rfl (QT_move rfl rfl rfl) ?_
  refine TL_q rfl rfl (QT_field rfl rfl YtjdaglmkljbfkaaGreatDoorF.fld_27_0 rfl) ?_
  refine TL_q rfl rfl (QT_load 0 rfl rfl Tryz.underlying3 rfl rfl rfl (fun _ => rfl)) ?_
  refine TL_q rfl rfl (QT_gtr rfl rfl rfl rfl) ?_
  refine TL_q rfl rfl (QT_or rfl rfl rfl rfl) ?_
  refine TL_nil ?_
  refine TX_then ?_
  refine TC_cond rfl (fun h10 => ?_) (fun h10 => ?_)
  ·
    refine TC_seq ?_
    refine TC_reg ?_
    refine TL_q rfl rfl (QT_assign rfl rfl rfl) ?_
    refine TL_nil ?_
    refine TX_then ?_
    refine TC_ret ?_
    refine TX_then_ret ?_
    refine TX_ret (.inl rfl) (res1 rfl rfl) ⟨_, ⟨?_, rfl⟩, fun _ h => h.tail⟩
    have e : errCR L = 4 := by
      simp only [Bool.or_eq_true, decide_eq_true_eq] at h10
      unfold errCR
      rw [if_neg]
      rintro ⟨h1, h2⟩
      unfold errOf at h10
      rw [if_pos h1] at h10
      omega
    rw [e]
  ·
    refine TC_skip ?_
    refine TX_then ?_
    refine TC_seq ?_
    refine TC_reg ?_
    refine TL_q rfl rfl (QT_assign rfl rfl rfl) ?_
    refine TL_nil ?_
    refine TX_then ?_
    refine TC_ret ?_
    refine TX_ret (.inl rfl) (res1 rfl rfl) ⟨_, ⟨?_, rfl⟩, fun _ h => h.tail⟩
    have e : errCR L = 0 := by
      simp only [Bool.or_eq_false_iff, decide_eq_false_iff_not] at h10
      unfold errCR
      rw [if_pos]
      unfold errOf at h10
      refine ⟨?_, by omega⟩
      by_cases h1 : okB L = true
      · exact h1
      · rw [if_neg h1] at h10; omega
    rw [e]
def gF (k : Nat) : FuncId := if k = 0 then 148 else if k = 1 then 150 else if k = 2 then 152 else 154
def sF (k : Nat) : FuncId := if k = 0 then 149 else if k = 1 then 151 else if k = 2 then 153 else 155
theorem sF_ok (k : Nat) : CalleeOk Tryz.prog (sF k) := by
  unfold sF
  split
  · exact YtjdaglmkljbfkaaGreatDoorF.cal_149
  · split
    · exact YtjdaglmkljbfkaaGreatDoorF.cal_151
    · split
      · exact YtjdaglmkljbfkaaGreatDoorF.cal_153
      · exact YtjdaglmkljbfkaaGreatDoorF.cal_155
def capF (ps : List Nat) (k : Nat) : Array Value := if k < 3 then #[] else #[.pointer (some ⟨ps.getD (k - 3) 0, 0, none⟩)]
def fld (L : Lay) (ps : List Nat) (k : Nat) : List Value := [.int .i64 (wdR L k : Int), .func (.func (gF k)) #[] (capF ps k), .func (.func (sF k)) #[] (capF ps k)]
def fldsC (L : Lay) (ps : List Nat) : Nat → List Value
  | 0 => []
  | n + 1 => fldsC L ps n ++ fld L ps n
theorem fldsC_len (L : Lay) (ps : List Nat) : ∀ n, (fldsC L ps n).length = n * 3
  | 0 => rfl
  | n + 1 => by rw [fldsC, List.length_append, fldsC_len L ps n, Nat.add_mul]; rfl
theorem fldsC_at (L : Lay) (ps : List Nat) : ∀ {n k j : Nat}, k < n → j < 3 → (fldsC L ps n)[k * 3 + j]? = (fld L ps k)[j]?
  | 0, k, j, h, _ => absurd h (by omega)
  | n + 1, k, j, h, hj => by
    rw [fldsC]
    by_cases e : k = n
    · subst e
      rw [List.getElem?_append_right (by rw [fldsC_len]; omega), fldsC_len, show k * 3 + j - k * 3 = j by omega]
    · rw [List.getElem?_append_left (by rw [fldsC_len]; omega)]
      exact fldsC_at L ps (by omega) hj
theorem capF_more {ps : List Nat} {p k : Nat} (h : k < 3 + ps.length) : capF (ps ++ [p]) k = capF ps k := by
  unfold capF
  by_cases hk : k < 3
  · rw [if_pos hk, if_pos hk]
  · rw [if_neg hk, if_neg hk, List.getD_eq_getElem?_getD, List.getD_eq_getElem?_getD, List.getElem?_append_left (by omega)]
theorem fldsC_more (L : Lay) {ps : List Nat} {p : Nat} : ∀ n, n ≤ 3 + ps.length → fldsC L (ps ++ [p]) n = fldsC L ps n
  | 0, _ => rfl
  | n + 1, h => by
    rw [fldsC, fldsC, fldsC_more L n (by omega)]
    unfold fld
    rw [capF_more (by omega)]
def psHeap : List Nat → Nat → Heap
  | [], _ => []
  | p :: ps, i => (p, 3, [.int .i64 (i : Int)]) :: psHeap ps (i + 1)
theorem psHeap_snoc : ∀ (ps : List Nat) (p i : Nat), psHeap (ps ++ [p]) i = psHeap ps i ++ [(p, 3, [.int .i64 ((i + ps.length : Nat) : Int)])]
  | [], p, i => rfl
  | q :: ps, p, i => by
    rw [List.cons_append, psHeap, psHeap_snoc ps p (i + 1), psHeap, List.cons_append, List.length_cons, show i + 1 + ps.length = i + (ps.length + 1) by omega]
theorem psHeap_mem : ∀ {ps : List Nat} {i c : Nat}, c < ps.length → (ps.getD c 0, 3, [.int .i64 ((i + c : Nat) : Int)]) ∈ psHeap ps i
  | [], i, c, h => absurd h (by simp)
  | p :: ps, i, 0, _ => List.mem_cons_self ..
  | p :: ps, i, c + 1, h => by
    have := psHeap_mem (ps := ps) (i := i + 1) (c := c) (by simpa using h)
    rw [show i + 1 + c = i + (c + 1) by omega] at this
    exact List.mem_cons_of_mem _ this
def zField : Value := .agg #[.int .i64 0, .nilFunc, .nilFunc]
theorem el_Field : ElemOk Tryz.prog 251 3 24 zField := .of YtjdaglmkljbfkaaGreatDoorF.sz_251 (by kernel_rfl) (by unfold ZeroOk; kernel_rfl) (by kernel_rfl) (by decide)
theorem fld_one (L : Lay) (ps : List Nat) (k : Nat) : ∀ u ∈ fld L ps k, u.oneCell' = true := by
  intro u hu
  simp only [fld, List.mem_cons, List.not_mem_nil, or_false] at hu
  rcases hu with rfl | rfl | rfl <;> rfl
set_option maxHeartbeats 1000000 in
theorem fields_spec (w0 : Base) (η : Heap) (L : Lay) (hok : okB L = true) :
    CallsT Tryz.prog 138 [L.val] (St w0 η) fun v A' => ∃ ps H, ps.length = 4 ∧ Frag 251 3 v 7 (fldsC L ps 7) H ∧ A' = St w0 (H ++ (psHeap ps 0 ++ η)) := by
  have hfn := (flN_bd hok).2
  have hb := okB_bounds hok
  have hco : (L.co.toNat : Int) = L.co := by omega
  have hcm : (L.cm.toNat : Int) = L.cm := by omega
  have hcs : (L.cs.toNat : Int) = L.cs := by omega
  have lco : L.cells[0 + 1]? = some (.int .i64 (L.co.toNat : Int)) := by rw [hco]; rfl
  have lcm : L.cells[0 + 2]? = some (.int .i64 (L.cm.toNat : Int)) := by rw [hcm]; rfl
  have lcs : L.cells[0 + 4]? = some (.int .i64 (L.cs.toNat : Int)) := by rw [hcs]; rfl
  refine CallsT.body Tryz.func138 rfl rfl ?_
  simp only [Tryz.ntmps138, slotsOf, Nat.reduceAdd]
  refine TC_seq ?_
  refine TC_reg ?_
  refine TL_e rfl rfl rfl (rfl) (ET_box rfl rfl) ?_
  rintro _ _ ⟨b1, rfl, rfl⟩
  refine TL_q rfl rfl (QT_assign rfl rfl rfl) ?_
  refine TL_nil ?_
  refine TX_then ?_
  refine TC_seq ?_
  refine TC_A (St w0 ((b1, 27, L.cells) :: η)) (fun _ h => h) ?_
  refine TC_reg ?_
  refine TL_q rfl rfl (QT_field rfl rfl YtjdaglmkljbfkaaGreatDoorF.fld_27_3 rfl) ?_
  refine TL_q rfl rfl (QT_load (v := .int .i64 L.fl) 0 rfl rfl Tryz.underlying3 rfl rfl rfl (fun _ => rfl)) ?_
  refine TL_q rfl rfl (QT_assign rfl rfl rfl) ?_
  refine TL_nil ?_
  refine TX_then ?_
  refine TC_cut (γ := Unit) (fun _ => [(1, true, .pointer (some ⟨b1, 0, none⟩)), (3, true, .int .i64 (flN L : Int))]) (fun _ => St w0 ((b1, 27, L.cells) :: η)) ?_ ?_
  ·
    refine TC_seq ?_
    refine TC_reg ?_
    refine TL_q rfl rfl (QT_field rfl rfl YtjdaglmkljbfkaaGreatDoorF.fld_27_0 rfl) ?_
    refine TL_q rfl rfl (QT_load (v := .int .i64 L.ty) 0 rfl rfl Tryz.underlying3 rfl rfl rfl (fun _ => rfl)) ?_
    refine TL_q rfl rfl (QT_eql rfl rfl rfl rfl) ?_
    refine TL_nil ?_
    refine TX_then ?_
    refine TC_cond_dec rfl (fun h11 => ?_) (fun h11 => ?_)
    ·
      refine TC_reg ?_
      refine TL_q rfl rfl (QT_assign rfl rfl rfl) ?_
      refine TL_nil ?_
      exact TX_cut () ⟨rfl, slotI rfl (by rw [hfn]; unfold flb; rw [if_pos h11]), trivial⟩ (fun _ h => h)
    ·
      refine TC_skip ?_
      exact TX_cut () ⟨rfl, slotI rfl (by rw [hfn]; unfold flb; rw [if_neg h11]), trivial⟩ (fun _ h => h)
  rintro ⟨⟩
  refine TC_seq ?_
  refine TC_reg ?_
  refine TL_q rfl rfl (QT_move rfl rfl rfl) ?_
  refine TL_q rfl rfl (QT_build rfl rfl YtjdaglmkljbfkaaGreatDoorF.zero_251 YtjdaglmkljbfkaaGreatDoorF.pl_251 rfl rfl rfl) ?_
  refine TL_q rfl rfl (QT_field rfl rfl YtjdaglmkljbfkaaGreatDoorF.fld_27_1 rfl) ?_
  refine TL_q rfl rfl (QT_load (v := .int .i64 (L.co.toNat : Int)) 0 rfl rfl Tryz.underlying3 rfl rfl rfl (fun _ => lco)) ?_
  refine TL_q rfl rfl (QT_build rfl rfl YtjdaglmkljbfkaaGreatDoorF.zero_251 YtjdaglmkljbfkaaGreatDoorF.pl_251 rfl rfl rfl) ?_
  refine TL_q rfl rfl (QT_field rfl rfl YtjdaglmkljbfkaaGreatDoorF.fld_27_1 rfl) ?_
  refine TL_q rfl rfl (QT_load (v := .int .i64 (L.co.toNat : Int)) 0 rfl rfl Tryz.underlying3 rfl rfl rfl (fun _ => lco)) ?_
  refine TL_q rfl rfl (QT_build rfl rfl YtjdaglmkljbfkaaGreatDoorF.zero_251 YtjdaglmkljbfkaaGreatDoorF.pl_251 rfl rfl rfl) ?_
  refine TL_e rfl rfl rfl (rfl) (ET_buildN [_, _, _] rfl Tryz.underlying246 YtjdaglmkljbfkaaGreatDoorF.sz_251 YtjdaglmkljbfkaaGreatDoorF.zero_251 rfl rfl rfl (fun v hv => by
   rcases List.mem_cons.1 hv with rfl | hv
   · rfl
   · rcases List.mem_cons.1 hv with rfl | hv
     · rfl
     · cases List.mem_singleton.1 hv; rfl)) ?_
  rintro _ _ ⟨b20, rfl, rfl⟩
  refine TL_q rfl rfl (QT_assign rfl rfl rfl) ?_
  refine TL_nil ?_
  refine TX_then ?_
  refine TC_seq ?_
  refine TC_seq ?_
  refine TC_reg ?_
  refine TL_q rfl rfl (QT_move rfl rfl rfl) ?_
  refine TL_nil ?_
  refine TX_then ?_
  refine TC_block ?_
  refine TC_loop (γ := { t : Nat × List Nat × Value × Heap // t.1 ≤ 4 ∧ t.2.1.length = t.1 ∧ Frag 251 3 t.2.2.1 (3 + t.1) (fldsC L t.2.1 (3 + t.1)) t.2.2.2 }) (fun u => [(1, true, .pointer (some ⟨b1, 0, none⟩)), (4, true, u.1.2.2.1), (21, true, .int .i64 (u.1.1 : Int))]) (fun u => St w0 ((b1, 27, L.cells) :: (u.1.2.2.2 ++ (psHeap u.1.2.1 0 ++ η)))) (fun u => 4 - u.1.1) ⟨(0, [], _, [(b20, 251, fldsC L [] 3)]), by show 0 ≤ 4; decide, rfl, ⟨rfl, .inr ⟨b20, 3, [], rfl, ⟨Nat.le_refl 3, show 3 ≤ 9223372036854775807 by decide⟩, Nat.le_refl 9, rfl⟩⟩⟩ ⟨rfl, rfl, rfl, trivial⟩ (fun w h => (show St w0 ((b20, 251, fldsC L [] 3) :: (b1, 27, L.cells) :: η) w from h).swap) ?_
  rintro ⟨⟨i, ps, fv, H⟩, hi, hps, hF⟩
  dsimp only at hi hps hF ⊢
  refine TC_seq ?_
  refine TC_reg ?_
  refine TL_q rfl rfl (QT_lss rfl rfl rfl rfl) ?_
  refine TL_nil ?_
  refine TX_then ?_
  refine TC_seq ?_
  refine TC_cond_dec rfl (fun h22 => ?_) (fun h22 => ?_)
  ·
    have hi4 : i < 4 := by omega
    refine TC_skip ?_
    refine TX_then ?_
    refine TC_seq ?_
    refine TC_block ?_
    refine TC_seq ?_
    refine TC_reg ?_
    refine TL_q rfl rfl (QT_move rfl rfl rfl) ?_
    refine TL_e rfl rfl rfl (rfl) (ET_alloc rfl YtjdaglmkljbfkaaGreatDoorF.zero_3) ?_
    rintro _ _ ⟨b5, rfl, rfl⟩
    refine TL_e0 rfl rfl (rfl) (ET_store 0 rfl rfl rfl rfl YtjdaglmkljbfkaaGreatDoorF.sz_3 rfl rfl rfl) ?_
    rintro _ _ ⟨rfl, rfl⟩
    refine TL_nil ?_
    refine TX_then ?_
    refine TC_seq ?_
    refine TC_reg ?_
    refine TL_q rfl rfl (QT_field rfl rfl YtjdaglmkljbfkaaGreatDoorF.fld_27_2 rfl) ?_
    refine TL_q rfl rfl (QT_load (v := .int .i64 (L.cm.toNat : Int)) 1 rfl rfl Tryz.underlying3 rfl rfl rfl (fun _ => lcm)) ?_
    refine TL_q rfl rfl (QT_assign rfl rfl rfl) ?_
    refine TL_nil ?_
    refine TX_then ?_
    refine TC_cut (γ := Unit) (fun _ => [(1, true, .pointer (some ⟨b1, 0, none⟩)), (4, true, fv), (5, true, .pointer (some ⟨b5, 0, none⟩)), (6, true, .int .i64 (wdR L (3 + i) : Int)), (21, true, .int .i64 (i : Int))]) (fun _ => St w0 ((b5, 3, [.int .i64 (i : Int)]) :: (b1, 27, L.cells) :: (H ++ (psHeap ps 0 ++ η)))) ?_ ?_
    ·
      refine TC_seq ?_
      refine TC_reg ?_
      refine TL_q rfl rfl (QT_load 0 rfl rfl Tryz.underlying3 rfl rfl rfl (fun _ => rfl)) ?_
      refine TL_q rfl rfl (QT_field rfl rfl YtjdaglmkljbfkaaGreatDoorF.fld_27_4 rfl) ?_
      refine TL_q rfl rfl (QT_load (v := .int .i64 (L.cs.toNat : Int)) 1 rfl rfl Tryz.underlying3 rfl rfl rfl (fun _ => lcs)) ?_
      refine TL_q rfl rfl (QT_geq rfl rfl rfl rfl) ?_
      refine TL_nil ?_
      refine TX_then ?_
      refine TC_cond_dec rfl (fun h29 => ?_) (fun h29 => ?_)
      ·
        refine TC_reg ?_
        refine TL_q rfl rfl (QT_assign rfl rfl rfl) ?_
        refine TL_nil ?_
        exact TX_cut () ⟨rfl, rfl, rfl, slotI rfl (by unfold wdR; rw [if_neg (by omega), if_neg (by omega), if_neg (by omega)]; rfl), rfl, trivial⟩ (fun _ h => h)
      ·
        refine TC_skip ?_
        exact TX_cut () ⟨rfl, rfl, rfl, slotI rfl (by unfold wdR; rw [if_neg (by omega), if_neg (by omega), if_pos (by omega)]), rfl, trivial⟩ (fun _ h => h)
    rintro ⟨⟩
    have hnew : fld L (ps ++ [b5]) (3 + i) = [.int .i64 (wdR L (3 + i) : Int), .func (.func 154) #[] #[.pointer (some ⟨b5, 0, none⟩)], .func (.func 155) #[] #[.pointer (some ⟨b5, 0, none⟩)]] := by
      unfold fld capF gF sF
      rw [if_neg (by omega), if_neg (by omega), if_neg (by omega), if_neg (by omega), if_neg (by omega), if_neg (by omega), if_neg (by omega), List.getD_eq_getElem?_getD, List.getElem?_append_right (by omega), show 3 + i - 3 - ps.length = 0 by omega]
      rfl
    have hone := fld_one L (ps ++ [b5]) (3 + i)
    refine TC_reg ?_
    refine TL_q rfl rfl (QT_move rfl rfl rfl) ?_
    refine TL_q rfl rfl (QT_move rfl rfl rfl) ?_
    refine TL_q rfl rfl (QT_makeFunc rfl rfl rfl rfl) ?_
    refine TL_q rfl rfl (QT_makeFunc rfl rfl rfl rfl) ?_
    refine TL_q rfl rfl (QT_build rfl rfl YtjdaglmkljbfkaaGreatDoorF.zero_251 YtjdaglmkljbfkaaGreatDoorF.pl_251 rfl rfl rfl) ?_
    refine TL_e rfl rfl rfl (rfl) (ET_buildN [_] rfl Tryz.underlying246 YtjdaglmkljbfkaaGreatDoorF.sz_251 YtjdaglmkljbfkaaGreatDoorF.zero_251 rfl rfl rfl (fun v hv => by cases List.mem_singleton.1 hv; rfl)) ?_
    rintro _ _ ⟨b35, rfl, rfl⟩
    refine TL_e rfl rfl rfl (rfl) (ET_appendL (L := [_, _, _]) rfl Tryz.underlying246 el_Field rfl rfl hF (fun _ h => h) (SlA.own (n := 1) (xs := fld L (ps ++ [b5]) (3 + i)) 0 rfl (by rw [hnew]; rfl) (show 0 + 1 * 3 ≤ 3 from Nat.le_refl 3) (by omega)) hone (by omega) (by omega)) ?_
    rintro fv2 _ ⟨H', hF', rfl⟩
    refine TL_q rfl rfl (QT_assign rfl rfl rfl) ?_
    refine TL_nil ?_
    refine TX_block_normal ?_
    refine TX_then ?_
    refine TC_reg ?_
    refine TL_q rfl rfl (QT_add rfl rfl rfl rfl (fun _ => ⟨by omega, by omega⟩)) ?_
    refine TL_q rfl rfl (QT_move rfl rfl rfl) ?_
    refine TL_nil ?_
    refine TX_round ⟨(i + 1, ps ++ [b5], fv2, H'), by show i + 1 ≤ 4; omega, by rw [List.length_append, hps]; rfl, ?_⟩ (by show 4 - (i + 1) < 4 - i; omega) ⟨rfl, rfl, rfl, trivial⟩ (fun w h => ?_)
    · show Frag _ 3 fv2 (3 + (i + 1)) (fldsC L (ps ++ [b5]) (3 + (i + 1))) H'
      rw [show 3 + (i + 1) = (3 + i) + 1 by omega, fldsC, fldsC_more L (3 + i) (by omega)]
      exact hF'
    · show St w0 ((b1, 27, L.cells) :: (H' ++ (psHeap (ps ++ [b5]) 0 ++ η))) w
      rw [psHeap_snoc, hps, Nat.zero_add]
      have h' : St w0 ((b35, 251, _) :: (b5, 3, [.int .i64 (i : Int)]) :: (b1, 27, L.cells) :: (H' ++ (psHeap ps 0 ++ η))) w := h
      exact h'.tail.cnt fun p => by simp only [List.countP_append, List.countP_cons, List.countP_nil]; omega
  ·
    refine TC_exit ?_
    refine TX_then_exit ?_
    refine TX_then_exit ?_
    refine TX_block_here ?_
    refine TX_then ?_
    refine TC_seq ?_
    refine TC_reg ?_
    refine TL_q rfl rfl (QT_move rfl rfl rfl) ?_
    refine TL_q rfl rfl (QT_assign rfl rfl rfl) ?_
    refine TL_nil ?_
    refine TX_then ?_
    refine TC_ret ?_
    obtain rfl : i = 4 := by omega
    exact TX_ret (.inl rfl) (res1 rfl rfl) ⟨_, ⟨ps, H, hps, hF, rfl⟩, fun _ h => h.tail⟩
end Go.Proofs.YtjdaglmkljbfkaaGreatDoor

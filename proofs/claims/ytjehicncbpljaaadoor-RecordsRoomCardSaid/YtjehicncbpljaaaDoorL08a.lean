/- THE CONTRACTS OF THE LAYER OF LAYOUTS: which numbers of bits may be; whether a layout may be; how many bytes a record has. -/
import Derived.Test.YtjehicncbpljaaaDoorF
import Derived.Test.YtjehicncbpljaaaDoorRows
namespace Go.Proofs.YtjehicncbpljaaaDoor
open Go Go.Gx Go.RowKit
set_option maxRecDepth 100000

/-- the sets of numbers of bits, as the program lays them -/
def setsL : List Value := [.int .u64 4311814422, .int .u64 69910, .int .u64 276]
def setN : Nat → Int
  | 0 => 4311814422
  | 1 => 69910
  | _ => 276
def Sets (w0 : Base) : Prop := ∀ j v, setsL[j]? = some v → w0.cell? ⟨0, 0 + j, none⟩ = some v
def mayB (f : Nat) (n : Int) : Bool := ((decide (0 ≤ n) && decide (n < 64)) && decide (bitsOf .and .u64 ((setN f).fdiv (2 ^ (min n.toNat IntKind.u64.bits))) 1 = 1))

theorem may_spec (w0 : Base) (η : Heap) (hG : Sets w0) (f : Nat) (hf : f < 3) (m : Int) :
    CallsT Tryd.prog 88 [.int .i64 (f : Int), .int .i64 m] (St w0 η) fun v A' => v = .bool (mayB f m) ∧ A' = St w0 η := by
  have hR := Rd.start (η := η) (hG)
  have hS : setsL[f * 1]? = some (.int .u64 (setN f)) := by
    match f, hf with
    | 0, _ => rfl
    | 1, _ => rfl
    | 2, _ => rfl
  refine CallsT.body Tryd.func88 rfl rfl ?_
  simp only [Tryd.ntmps88, slotsOf, Nat.reduceAdd]
  refine TC_seq ?_
  refine TC_reg ?_
  refine TL_q rfl rfl (QT_assign rfl rfl rfl) ?_
  refine TL_nil ?_
  refine TX_then ?_
  refine TC_seq ?_
  refine TC_reg ?_
  refine TL_q rfl rfl (QT_move rfl rfl rfl) ?_
  refine TL_q rfl rfl (QT_geq rfl rfl rfl rfl) ?_
  refine TL_q rfl rfl (QT_move rfl rfl rfl) ?_
  refine TL_q rfl rfl (QT_move rfl rfl rfl) ?_
  refine TL_q rfl rfl (QT_lss rfl rfl rfl rfl) ?_
  refine TL_q rfl rfl (QT_and rfl rfl rfl rfl) ?_
  refine TL_q rfl rfl (QT_move rfl rfl rfl) ?_
  refine TL_q rfl rfl (QT_move rfl rfl rfl) ?_
  refine TL_q rfl rfl (QT_indexArr (f) rfl rfl Tryd.underlying205 YtjehicncbpljaaaDoorF.sz_71 rfl rfl (rfl) (fun _ => hf)) ?_
  refine TL_q rfl rfl (QT_loadR rfl rfl Tryd.underlying71 rfl hR rfl (fun _ => hS)) ?_
  refine TL_q rfl rfl (QT_move rfl rfl rfl) ?_
  refine TL_q rfl rfl (QT_shr rfl rfl rfl rfl (fun h => by simp at h; omega)) ?_
  refine TL_q rfl rfl (QT_bits rfl rfl (by decide) rfl rfl) ?_
  refine TL_q rfl rfl (QT_eql rfl rfl rfl rfl) ?_
  refine TL_q rfl rfl (QT_and rfl rfl rfl rfl) ?_
  refine TL_q rfl rfl (QT_assign rfl rfl rfl) ?_
  refine TL_nil ?_
  refine TX_then ?_
  refine TC_ret ?_
  refine TX_ret (.inl rfl) (res1 rfl rfl) ⟨_, ⟨rfl, rfl⟩, fun _ h => h⟩

/-- A layout: its numbers; its ranges, whatever they are. -/
structure Lay where
  ty : Int
  co : Int
  cm : Int
  fl : Int
  cs : Int
  ro : Int
  r : Nat → Int
def Lay.cells (L : Lay) : List Value := [.int .i64 L.ty, .int .i64 L.co, .int .i64 L.cm, .int .i64 L.fl, .int .i64 L.cs, .int .i64 L.ro, .int .i32 (L.r 0), .int .i32 (L.r 1), .int .i32 (L.r 2), .int .i32 (L.r 3), .int .i32 (L.r 4), .int .i32 (L.r 5), .int .i32 (L.r 6), .int .i32 (L.r 7), .int .i32 (L.r 8), .int .i32 (L.r 9), .int .i32 (L.r 10), .int .i32 (L.r 11)]
def Lay.val (L : Lay) : Value := .agg L.cells.toArray
def base (L : Lay) : Bool := ((mayB 0 L.co && mayB 1 L.cm) && decide (1 ≤ L.cs)) && decide (L.cs ≤ 4)
def okB (L : Lay) : Bool := if L.ty = 5 then base L && decide (2 ≤ L.ro) else if L.ty = 4 ∨ L.ty = 6 ∨ L.ty = 7 then base L && mayB 2 L.fl else false
def errOf (L : Lay) : Int := if okB L = true then 0 else 4

theorem err4 {L : Lay} {b : Bool} (h : okB L = b) (h' : (!b) = true) : Value.int .i64 4 = .int .i64 (errOf L) := by
  subst h; unfold errOf; rw [if_neg (by simpa using h')]
theorem err0 {L : Lay} {b : Bool} (h : okB L = b) (h' : (!b) = false) : Value.int .i64 0 = .int .i64 (errOf L) := by
  subst h; unfold errOf; rw [if_pos (by simpa using h')]
theorem check_spec (w0 : Base) (η : Heap) (hG : Sets w0) (L : Lay) :
    CallsT Tryd.prog 23 [L.val] (St w0 η) fun v A' => v = .int .i64 (errOf L) ∧ A' = St w0 η := by
  refine CallsT.body Tryd.func23 rfl rfl ?_
  simp only [Tryd.ntmps23, slotsOf]
  refine TC_seq ?_
  refine TC_reg ?_
  refine TL_e rfl rfl rfl (rfl) (ET_box rfl rfl) ?_
  rintro _ _ ⟨b1, rfl, rfl⟩
  refine TL_q rfl rfl (QT_assign rfl rfl rfl) ?_
  refine TL_nil ?_
  refine TX_then ?_
  refine TC_seq ?_
  refine TC_reg ?_
  refine TL_q rfl rfl (QT_field rfl rfl YtjehicncbpljaaaDoorF.fld_27_1 rfl) ?_
  first
    | refine TL_q rfl rfl (QT_load 0 rfl rfl Tryd.underlying3 rfl rfl rfl (fun _ => rfl)) ?_
    | refine TL_q rfl rfl (QT_load 1 rfl rfl Tryd.underlying3 rfl rfl rfl (fun _ => rfl)) ?_
    | refine TL_q rfl rfl (QT_load 2 rfl rfl Tryd.underlying3 rfl rfl rfl (fun _ => rfl)) ?_
  refine TL_cq rfl rfl rfl rfl YtjehicncbpljaaaDoorF.cal_88 rfl (fun _ => may_spec w0 _ hG 0 (by decide) L.co) ?_
  refine TL_q rfl rfl (QT_move rfl rfl rfl) ?_
  refine TL_q rfl rfl (QT_field rfl rfl YtjehicncbpljaaaDoorF.fld_27_2 rfl) ?_
  first
    | refine TL_q rfl rfl (QT_load 0 rfl rfl Tryd.underlying3 rfl rfl rfl (fun _ => rfl)) ?_
    | refine TL_q rfl rfl (QT_load 1 rfl rfl Tryd.underlying3 rfl rfl rfl (fun _ => rfl)) ?_
    | refine TL_q rfl rfl (QT_load 2 rfl rfl Tryd.underlying3 rfl rfl rfl (fun _ => rfl)) ?_
  refine TL_cq rfl rfl rfl rfl YtjehicncbpljaaaDoorF.cal_88 rfl (fun _ => may_spec w0 _ hG 1 (by decide) L.cm) ?_
  refine TL_q rfl rfl (QT_and rfl rfl rfl rfl) ?_
  refine TL_q rfl rfl (QT_move rfl rfl rfl) ?_
  refine TL_q rfl rfl (QT_field rfl rfl YtjehicncbpljaaaDoorF.fld_27_4 rfl) ?_
  first
    | refine TL_q rfl rfl (QT_load 0 rfl rfl Tryd.underlying3 rfl rfl rfl (fun _ => rfl)) ?_
    | refine TL_q rfl rfl (QT_load 1 rfl rfl Tryd.underlying3 rfl rfl rfl (fun _ => rfl)) ?_
    | refine TL_q rfl rfl (QT_load 2 rfl rfl Tryd.underlying3 rfl rfl rfl (fun _ => rfl)) ?_
  refine TL_q rfl rfl (QT_geq rfl rfl rfl rfl) ?_
  refine TL_q rfl rfl (QT_and rfl rfl rfl rfl) ?_
  refine TL_q rfl rfl (QT_move rfl rfl rfl) ?_
  refine TL_q rfl rfl (QT_field rfl rfl YtjehicncbpljaaaDoorF.fld_27_4 rfl) ?_
  first
    | refine TL_q rfl rfl (QT_load 0 rfl rfl Tryd.underlying3 rfl rfl rfl (fun _ => rfl)) ?_
    | refine TL_q rfl rfl (QT_load 1 rfl rfl Tryd.underlying3 rfl rfl rfl (fun _ => rfl)) ?_
    | refine TL_q rfl rfl (QT_load 2 rfl rfl Tryd.underlying3 rfl rfl rfl (fun _ => rfl)) ?_
  refine TL_q rfl rfl (QT_leq rfl rfl rfl rfl) ?_
  refine TL_q rfl rfl (QT_and rfl rfl rfl rfl) ?_
  refine TL_q rfl rfl (QT_assign rfl rfl rfl) ?_
  refine TL_nil ?_
  refine TX_then ?_
  refine TC_seq ?_
  refine TC_seq ?_
  refine TC_reg ?_
  refine TL_q rfl rfl (QT_field rfl rfl YtjehicncbpljaaaDoorF.fld_27_0 rfl) ?_
  first
    | refine TL_q rfl rfl (QT_load 0 rfl rfl Tryd.underlying3 rfl rfl rfl (fun _ => rfl)) ?_
    | refine TL_q rfl rfl (QT_load 1 rfl rfl Tryd.underlying3 rfl rfl rfl (fun _ => rfl)) ?_
    | refine TL_q rfl rfl (QT_load 2 rfl rfl Tryd.underlying3 rfl rfl rfl (fun _ => rfl)) ?_
  refine TL_nil ?_
  refine TX_then ?_
  refine TC_block ?_
  refine TC_seq ?_
  refine TC_reg ?_
  refine TL_q rfl rfl (QT_eql rfl rfl rfl rfl) ?_
  refine TL_q rfl rfl (QT_assign rfl rfl rfl) ?_
  refine TL_nil ?_
  refine TX_then ?_
  first
    | refine TC_cond_dec rfl (fun h24 => ?_) (fun h24 => ?_)
    | refine TC_cond rfl (fun h24 => ?_) (fun h24 => ?_)
  ·
    refine TC_reg ?_
    refine TL_q rfl rfl (QT_move rfl rfl rfl) ?_
    refine TL_q rfl rfl (QT_move rfl rfl rfl) ?_
    refine TL_q rfl rfl (QT_field rfl rfl YtjehicncbpljaaaDoorF.fld_27_5 rfl) ?_
    first
      | refine TL_q rfl rfl (QT_load 0 rfl rfl Tryd.underlying3 rfl rfl rfl (fun _ => rfl)) ?_
      | refine TL_q rfl rfl (QT_load 1 rfl rfl Tryd.underlying3 rfl rfl rfl (fun _ => rfl)) ?_
      | refine TL_q rfl rfl (QT_load 2 rfl rfl Tryd.underlying3 rfl rfl rfl (fun _ => rfl)) ?_
    refine TL_q rfl rfl (QT_geq rfl rfl rfl rfl) ?_
    refine TL_q rfl rfl (QT_and rfl rfl rfl rfl) ?_
    refine TL_q rfl rfl (QT_assign rfl rfl rfl) ?_
    refine TL_nil ?_
    refine TX_block_normal ?_
    refine TX_then ?_
    refine TC_seq ?_
    refine TC_seq ?_
    refine TC_reg ?_
    refine TL_q rfl rfl (QT_move rfl rfl rfl) ?_
    refine TL_q rfl rfl (QT_not rfl rfl rfl) ?_
    refine TL_nil ?_
    refine TX_then ?_
    first
      | refine TC_cond_dec rfl (fun h43 => ?_) (fun h43 => ?_)
      | refine TC_cond rfl (fun h43 => ?_) (fun h43 => ?_)
    ·
      refine TC_seq ?_
      refine TC_reg ?_
      refine TL_q rfl rfl (QT_assign rfl rfl rfl) ?_
      refine TL_nil ?_
      refine TX_then ?_
      refine TC_ret ?_
      refine TX_then_ret ?_
      exact TX_ret (.inl rfl) (res1 rfl rfl) ⟨_, ⟨by first | exact err4 (by clear h43; simp_all [okB, base]) h43 | exact err0 (by clear h43; simp_all [okB, base]) h43, rfl⟩, fun _ h => h.tail⟩
    ·
      refine TC_skip ?_
      refine TX_then ?_
      refine TC_seq ?_
      refine TC_reg ?_
      refine TL_q rfl rfl (QT_assign rfl rfl rfl) ?_
      refine TL_nil ?_
      refine TX_then ?_
      refine TC_ret ?_
      exact TX_ret (.inl rfl) (res1 rfl rfl) ⟨_, ⟨by first | exact err4 (by clear h43; simp_all [okB, base]) h43 | exact err0 (by clear h43; simp_all [okB, base]) h43, rfl⟩, fun _ h => h.tail⟩
  ·
    refine TC_seq ?_
    refine TC_seq ?_
    refine TC_reg ?_
    refine TL_q rfl rfl (QT_eql rfl rfl rfl rfl) ?_
    refine TL_q rfl rfl (QT_assign rfl rfl rfl) ?_
    refine TL_nil ?_
    refine TX_then ?_
    first
      | refine TC_cond_dec rfl (fun h32 => ?_) (fun h32 => ?_)
      | refine TC_cond rfl (fun h32 => ?_) (fun h32 => ?_)
    ·
      refine TC_skip ?_
      refine TX_then ?_
      first
        | refine TC_cond_dec rfl (fun h32 => ?_) (fun h32 => ?_)
        | refine TC_cond rfl (fun h32 => ?_) (fun h32 => ?_)
      ·
        refine TC_reg ?_
        refine TL_q rfl rfl (QT_move rfl rfl rfl) ?_
        refine TL_q rfl rfl (QT_move rfl rfl rfl) ?_
        refine TL_q rfl rfl (QT_field rfl rfl YtjehicncbpljaaaDoorF.fld_27_3 rfl) ?_
        first
          | refine TL_q rfl rfl (QT_load 0 rfl rfl Tryd.underlying3 rfl rfl rfl (fun _ => rfl)) ?_
          | refine TL_q rfl rfl (QT_load 1 rfl rfl Tryd.underlying3 rfl rfl rfl (fun _ => rfl)) ?_
          | refine TL_q rfl rfl (QT_load 2 rfl rfl Tryd.underlying3 rfl rfl rfl (fun _ => rfl)) ?_
        refine TL_cq rfl rfl rfl rfl YtjehicncbpljaaaDoorF.cal_88 rfl (fun _ => may_spec w0 _ hG 2 (by decide) L.fl) ?_
        refine TL_q rfl rfl (QT_and rfl rfl rfl rfl) ?_
        refine TL_q rfl rfl (QT_assign rfl rfl rfl) ?_
        refine TL_nil ?_
        refine TX_block_normal ?_
        refine TX_then ?_
        refine TC_seq ?_
        refine TC_seq ?_
        refine TC_reg ?_
        refine TL_q rfl rfl (QT_move rfl rfl rfl) ?_
        refine TL_q rfl rfl (QT_not rfl rfl rfl) ?_
        refine TL_nil ?_
        refine TX_then ?_
        first
          | refine TC_cond_dec rfl (fun h43 => ?_) (fun h43 => ?_)
          | refine TC_cond rfl (fun h43 => ?_) (fun h43 => ?_)
        ·
          refine TC_seq ?_
          refine TC_reg ?_
          refine TL_q rfl rfl (QT_assign rfl rfl rfl) ?_
          refine TL_nil ?_
          refine TX_then ?_
          refine TC_ret ?_
          refine TX_then_ret ?_
          exact TX_ret (.inl rfl) (res1 rfl rfl) ⟨_, ⟨by first | exact err4 (by clear h43; simp_all [okB, base]) h43 | exact err0 (by clear h43; simp_all [okB, base]) h43, rfl⟩, fun _ h => h.tail⟩
        ·
          refine TC_skip ?_
          refine TX_then ?_
          refine TC_seq ?_
          refine TC_reg ?_
          refine TL_q rfl rfl (QT_assign rfl rfl rfl) ?_
          refine TL_nil ?_
          refine TX_then ?_
          refine TC_ret ?_
          exact TX_ret (.inl rfl) (res1 rfl rfl) ⟨_, ⟨by first | exact err4 (by clear h43; simp_all [okB, base]) h43 | exact err0 (by clear h43; simp_all [okB, base]) h43, rfl⟩, fun _ h => h.tail⟩
      ·
        refine TC_reg ?_
        refine TL_q rfl rfl (QT_assign rfl rfl rfl) ?_
        refine TL_nil ?_
        refine TX_block_normal ?_
        refine TX_then ?_
        refine TC_seq ?_
        refine TC_seq ?_
        refine TC_reg ?_
        refine TL_q rfl rfl (QT_move rfl rfl rfl) ?_
        refine TL_q rfl rfl (QT_not rfl rfl rfl) ?_
        refine TL_nil ?_
        refine TX_then ?_
        first
          | refine TC_cond_dec rfl (fun h43 => ?_) (fun h43 => ?_)
          | refine TC_cond rfl (fun h43 => ?_) (fun h43 => ?_)
        ·
          refine TC_seq ?_
          refine TC_reg ?_
          refine TL_q rfl rfl (QT_assign rfl rfl rfl) ?_
          refine TL_nil ?_
          refine TX_then ?_
          refine TC_ret ?_
          refine TX_then_ret ?_
          exact TX_ret (.inl rfl) (res1 rfl rfl) ⟨_, ⟨by first | exact err4 (by clear h43; simp_all [okB, base]) h43 | exact err0 (by clear h43; simp_all [okB, base]) h43, rfl⟩, fun _ h => h.tail⟩
        ·
          refine TC_skip ?_
          refine TX_then ?_
          refine TC_seq ?_
          refine TC_reg ?_
          refine TL_q rfl rfl (QT_assign rfl rfl rfl) ?_
          refine TL_nil ?_
          refine TX_then ?_
          refine TC_ret ?_
          exact TX_ret (.inl rfl) (res1 rfl rfl) ⟨_, ⟨by first | exact err4 (by clear h43; simp_all [okB, base]) h43 | exact err0 (by clear h43; simp_all [okB, base]) h43, rfl⟩, fun _ h => h.tail⟩
    ·
      refine TC_seq ?_
      refine TC_reg ?_
      refine TL_q rfl rfl (QT_eql rfl rfl rfl rfl) ?_
      refine TL_q rfl rfl (QT_assign rfl rfl rfl) ?_
      refine TL_nil ?_
      refine TX_then ?_
      first
        | refine TC_cond_dec rfl (fun h32 => ?_) (fun h32 => ?_)
        | refine TC_cond rfl (fun h32 => ?_) (fun h32 => ?_)
      ·
        refine TC_skip ?_
        refine TX_then ?_
        first
          | refine TC_cond_dec rfl (fun h32 => ?_) (fun h32 => ?_)
          | refine TC_cond rfl (fun h32 => ?_) (fun h32 => ?_)
        ·
          refine TC_reg ?_
          refine TL_q rfl rfl (QT_move rfl rfl rfl) ?_
          refine TL_q rfl rfl (QT_move rfl rfl rfl) ?_
          refine TL_q rfl rfl (QT_field rfl rfl YtjehicncbpljaaaDoorF.fld_27_3 rfl) ?_
          first
            | refine TL_q rfl rfl (QT_load 0 rfl rfl Tryd.underlying3 rfl rfl rfl (fun _ => rfl)) ?_
            | refine TL_q rfl rfl (QT_load 1 rfl rfl Tryd.underlying3 rfl rfl rfl (fun _ => rfl)) ?_
            | refine TL_q rfl rfl (QT_load 2 rfl rfl Tryd.underlying3 rfl rfl rfl (fun _ => rfl)) ?_
          refine TL_cq rfl rfl rfl rfl YtjehicncbpljaaaDoorF.cal_88 rfl (fun _ => may_spec w0 _ hG 2 (by decide) L.fl) ?_
          refine TL_q rfl rfl (QT_and rfl rfl rfl rfl) ?_
          refine TL_q rfl rfl (QT_assign rfl rfl rfl) ?_
          refine TL_nil ?_
          refine TX_block_normal ?_
          refine TX_then ?_
          refine TC_seq ?_
          refine TC_seq ?_
          refine TC_reg ?_
          refine TL_q rfl rfl (QT_move rfl rfl rfl) ?_
          refine TL_q rfl rfl (QT_not rfl rfl rfl) ?_
          refine TL_nil ?_
          refine TX_then ?_
          first
            | refine TC_cond_dec rfl (fun h43 => ?_) (fun h43 => ?_)
            | refine TC_cond rfl (fun h43 => ?_) (fun h43 => ?_)
          ·
            refine TC_seq ?_
            refine TC_reg ?_
            refine TL_q rfl rfl (QT_assign rfl rfl rfl) ?_
            refine TL_nil ?_
            refine TX_then ?_
            refine TC_ret ?_
            refine TX_then_ret ?_
            exact TX_ret (.inl rfl) (res1 rfl rfl) ⟨_, ⟨by first | exact err4 (by clear h43; simp_all [okB, base]) h43 | exact err0 (by clear h43; simp_all [okB, base]) h43, rfl⟩, fun _ h => h.tail⟩
          ·
            refine TC_skip ?_
            refine TX_then ?_
            refine TC_seq ?_
            refine TC_reg ?_
            refine TL_q rfl rfl (QT_assign rfl rfl rfl) ?_
            refine TL_nil ?_
            refine TX_then ?_
            refine TC_ret ?_
            exact TX_ret (.inl rfl) (res1 rfl rfl) ⟨_, ⟨by first | exact err4 (by clear h43; simp_all [okB, base]) h43 | exact err0 (by clear h43; simp_all [okB, base]) h43, rfl⟩, fun _ h => h.tail⟩
        ·
          refine TC_reg ?_
          refine TL_q rfl rfl (QT_assign rfl rfl rfl) ?_
          refine TL_nil ?_
          refine TX_block_normal ?_
          refine TX_then ?_
          refine TC_seq ?_
          refine TC_seq ?_
          refine TC_reg ?_
          refine TL_q rfl rfl (QT_move rfl rfl rfl) ?_
          refine TL_q rfl rfl (QT_not rfl rfl rfl) ?_
          refine TL_nil ?_
          refine TX_then ?_
          first
            | refine TC_cond_dec rfl (fun h43 => ?_) (fun h43 => ?_)
            | refine TC_cond rfl (fun h43 => ?_) (fun h43 => ?_)
          ·
            refine TC_seq ?_
            refine TC_reg ?_
            refine TL_q rfl rfl (QT_assign rfl rfl rfl) ?_
            refine TL_nil ?_
            refine TX_then ?_
            refine TC_ret ?_
            refine TX_then_ret ?_
            exact TX_ret (.inl rfl) (res1 rfl rfl) ⟨_, ⟨by first | exact err4 (by clear h43; simp_all [okB, base]) h43 | exact err0 (by clear h43; simp_all [okB, base]) h43, rfl⟩, fun _ h => h.tail⟩
          ·
            refine TC_skip ?_
            refine TX_then ?_
            refine TC_seq ?_
            refine TC_reg ?_
            refine TL_q rfl rfl (QT_assign rfl rfl rfl) ?_
            refine TL_nil ?_
            refine TX_then ?_
            refine TC_ret ?_
            exact TX_ret (.inl rfl) (res1 rfl rfl) ⟨_, ⟨by first | exact err4 (by clear h43; simp_all [okB, base]) h43 | exact err0 (by clear h43; simp_all [okB, base]) h43, rfl⟩, fun _ h => h.tail⟩
      ·
        refine TC_reg ?_
        refine TL_q rfl rfl (QT_eql rfl rfl rfl rfl) ?_
        refine TL_q rfl rfl (QT_assign rfl rfl rfl) ?_
        refine TL_nil ?_
        refine TX_then ?_
        first
          | refine TC_cond_dec rfl (fun h32 => ?_) (fun h32 => ?_)
          | refine TC_cond rfl (fun h32 => ?_) (fun h32 => ?_)
        ·
          refine TC_reg ?_
          refine TL_q rfl rfl (QT_move rfl rfl rfl) ?_
          refine TL_q rfl rfl (QT_move rfl rfl rfl) ?_
          refine TL_q rfl rfl (QT_field rfl rfl YtjehicncbpljaaaDoorF.fld_27_3 rfl) ?_
          first
            | refine TL_q rfl rfl (QT_load 0 rfl rfl Tryd.underlying3 rfl rfl rfl (fun _ => rfl)) ?_
            | refine TL_q rfl rfl (QT_load 1 rfl rfl Tryd.underlying3 rfl rfl rfl (fun _ => rfl)) ?_
            | refine TL_q rfl rfl (QT_load 2 rfl rfl Tryd.underlying3 rfl rfl rfl (fun _ => rfl)) ?_
          refine TL_cq rfl rfl rfl rfl YtjehicncbpljaaaDoorF.cal_88 rfl (fun _ => may_spec w0 _ hG 2 (by decide) L.fl) ?_
          refine TL_q rfl rfl (QT_and rfl rfl rfl rfl) ?_
          refine TL_q rfl rfl (QT_assign rfl rfl rfl) ?_
          refine TL_nil ?_
          refine TX_block_normal ?_
          refine TX_then ?_
          refine TC_seq ?_
          refine TC_seq ?_
          refine TC_reg ?_
          refine TL_q rfl rfl (QT_move rfl rfl rfl) ?_
          refine TL_q rfl rfl (QT_not rfl rfl rfl) ?_
          refine TL_nil ?_
          refine TX_then ?_
          first
            | refine TC_cond_dec rfl (fun h43 => ?_) (fun h43 => ?_)
            | refine TC_cond rfl (fun h43 => ?_) (fun h43 => ?_)
          ·
            refine TC_seq ?_
            refine TC_reg ?_
            refine TL_q rfl rfl (QT_assign rfl rfl rfl) ?_
            refine TL_nil ?_
            refine TX_then ?_
            refine TC_ret ?_
            refine TX_then_ret ?_
            exact TX_ret (.inl rfl) (res1 rfl rfl) ⟨_, ⟨by first | exact err4 (by clear h43; simp_all [okB, base]) h43 | exact err0 (by clear h43; simp_all [okB, base]) h43, rfl⟩, fun _ h => h.tail⟩
          ·
            refine TC_skip ?_
            refine TX_then ?_
            refine TC_seq ?_
            refine TC_reg ?_
            refine TL_q rfl rfl (QT_assign rfl rfl rfl) ?_
            refine TL_nil ?_
            refine TX_then ?_
            refine TC_ret ?_
            exact TX_ret (.inl rfl) (res1 rfl rfl) ⟨_, ⟨by first | exact err4 (by clear h43; simp_all [okB, base]) h43 | exact err0 (by clear h43; simp_all [okB, base]) h43, rfl⟩, fun _ h => h.tail⟩
        ·
          refine TC_reg ?_
          refine TL_q rfl rfl (QT_assign rfl rfl rfl) ?_
          refine TL_nil ?_
          refine TX_block_normal ?_
          refine TX_then ?_
          refine TC_seq ?_
          refine TC_seq ?_
          refine TC_reg ?_
          refine TL_q rfl rfl (QT_move rfl rfl rfl) ?_
          refine TL_q rfl rfl (QT_not rfl rfl rfl) ?_
          refine TL_nil ?_
          refine TX_then ?_
          first
            | refine TC_cond_dec rfl (fun h43 => ?_) (fun h43 => ?_)
            | refine TC_cond rfl (fun h43 => ?_) (fun h43 => ?_)
          ·
            refine TC_seq ?_
            refine TC_reg ?_
            refine TL_q rfl rfl (QT_assign rfl rfl rfl) ?_
            refine TL_nil ?_
            refine TX_then ?_
            refine TC_ret ?_
            refine TX_then_ret ?_
            exact TX_ret (.inl rfl) (res1 rfl rfl) ⟨_, ⟨by first | exact err4 (by clear h43; simp_all [okB, base]) h43 | exact err0 (by clear h43; simp_all [okB, base]) h43, rfl⟩, fun _ h => h.tail⟩
          ·
            refine TC_skip ?_
            refine TX_then ?_
            refine TC_seq ?_
            refine TC_reg ?_
            refine TL_q rfl rfl (QT_assign rfl rfl rfl) ?_
            refine TL_nil ?_
            refine TX_then ?_
            refine TC_ret ?_
            exact TX_ret (.inl rfl) (res1 rfl rfl) ⟨_, ⟨by first | exact err4 (by clear h43; simp_all [okB, base]) h43 | exact err0 (by clear h43; simp_all [okB, base]) h43, rfl⟩, fun _ h => h.tail⟩

/-- the flag's bits, the points, the colours of a record -/
def flb (L : Lay) : Int := if L.ty = 5 then 0 else L.fl
def ptsZ (L : Lay) (f : Int) : Int := if L.ty = 7 then (if f = 0 then 16 else 12) else if L.ty = 6 then (if f = 0 then 12 else 8) else 1
def colZ (L : Lay) (f : Int) : Int := if L.ty = 7 ∨ L.ty = 6 then (if f = 0 then 4 else 2) else 1
def bitsZ (L : Lay) (f : Int) : Int := flb L + (2 * ptsZ L f * L.co + colZ L f * L.cs * L.cm)
def sizeZ (L : Lay) (f : Int) : Int := if okB L = true then (bitsZ L f + 7) / 8 else 0

theorem mayB_0 {m : Int} (h : mayB 0 m = true) : 1 ≤ m ∧ m ≤ 32 := by
  unfold mayB at h
  simp only [Bool.and_eq_true, decide_eq_true_eq] at h
  obtain ⟨⟨h0, h1⟩, h2⟩ := h
  obtain ⟨k, rfl⟩ := Int.eq_ofNat_of_zero_le h0
  have hk : k < 64 := by omega
  have : ∀ k : Fin 64, bitsOf .and .u64 ((setN 0).fdiv (2 ^ (min (k.1 : Int).toNat IntKind.u64.bits))) 1 = 1 → 1 ≤ (k.1 : Int) ∧ (k.1 : Int) ≤ 32 := by decide +kernel
  exact this ⟨k, hk⟩ h2
theorem mayB_1 {m : Int} (h : mayB 1 m = true) : 1 ≤ m ∧ m ≤ 16 := by
  unfold mayB at h
  simp only [Bool.and_eq_true, decide_eq_true_eq] at h
  obtain ⟨⟨h0, h1⟩, h2⟩ := h
  obtain ⟨k, rfl⟩ := Int.eq_ofNat_of_zero_le h0
  have hk : k < 64 := by omega
  have : ∀ k : Fin 64, bitsOf .and .u64 ((setN 1).fdiv (2 ^ (min (k.1 : Int).toNat IntKind.u64.bits))) 1 = 1 → 1 ≤ (k.1 : Int) ∧ (k.1 : Int) ≤ 16 := by decide +kernel
  exact this ⟨k, hk⟩ h2
theorem mayB_2 {m : Int} (h : mayB 2 m = true) : 2 ≤ m ∧ m ≤ 8 := by
  unfold mayB at h
  simp only [Bool.and_eq_true, decide_eq_true_eq] at h
  obtain ⟨⟨h0, h1⟩, h2⟩ := h
  obtain ⟨k, rfl⟩ := Int.eq_ofNat_of_zero_le h0
  have hk : k < 64 := by omega
  have : ∀ k : Fin 64, bitsOf .and .u64 ((setN 2).fdiv (2 ^ (min (k.1 : Int).toNat IntKind.u64.bits))) 1 = 1 → 2 ≤ (k.1 : Int) ∧ (k.1 : Int) ≤ 8 := by decide +kernel
  exact this ⟨k, hk⟩ h2
theorem okB_bounds {L : Lay} (h : okB L = true) : (1 ≤ L.co ∧ L.co ≤ 32) ∧ (1 ≤ L.cm ∧ L.cm ≤ 16) ∧ (1 ≤ L.cs ∧ L.cs ≤ 4) ∧ (L.ty = 4 ∨ L.ty = 5 ∨ L.ty = 6 ∨ L.ty = 7) ∧ (L.ty = 5 → 2 ≤ L.ro) ∧ (L.ty ≠ 5 → 2 ≤ L.fl ∧ L.fl ≤ 8) := by
  unfold okB base at h
  by_cases h5 : L.ty = 5
  · rw [if_pos h5] at h
    simp only [Bool.and_eq_true, decide_eq_true_eq] at h
    obtain ⟨⟨⟨⟨a, b⟩, c⟩, d⟩, e⟩ := h
    exact ⟨mayB_0 a, mayB_1 b, ⟨c, d⟩, .inr (.inl h5), fun _ => e, fun h => absurd h5 h⟩
  · rw [if_neg h5] at h
    by_cases h7 : L.ty = 4 ∨ L.ty = 6 ∨ L.ty = 7
    · rw [if_pos h7] at h
      simp only [Bool.and_eq_true, decide_eq_true_eq] at h
      obtain ⟨⟨⟨⟨a, b⟩, c⟩, d⟩, e⟩ := h
      exact ⟨mayB_0 a, mayB_1 b, ⟨c, d⟩, by omega, fun h => absurd h h5, fun _ => mayB_2 e⟩
    · rw [if_neg h7] at h; cases h
theorem mul_bd {a b : Int} (h1 : 1 ≤ a) (h2 : a ≤ 4) (h3 : 1 ≤ b) (h4 : b ≤ 16) : 1 ≤ a * b ∧ a * b ≤ 64 := by
  have h : a = 1 ∨ a = 2 ∨ a = 3 ∨ a = 4 := by omega
  rcases h with rfl | rfl | rfl | rfl <;> omega

theorem size_spec (w0 : Base) (η : Heap) (hG : Sets w0) (L : Lay) (f : Int) (h0 : 0 ≤ f) :
    CallsT Tryd.prog 25 [L.val, .int .u8 f] (St w0 η) fun v A' => v = .int .i64 (sizeZ L f) ∧ A' = St w0 η := by
  refine CallsT.body Tryd.func25 rfl rfl ?_
  simp only [Tryd.ntmps25, slotsOf, Nat.reduceAdd]
  refine TC_seq ?_
  refine TC_reg ?_
  refine TL_e rfl rfl rfl (rfl) (ET_box rfl rfl) ?_
  rintro _ _ ⟨b2, rfl, rfl⟩
  refine TL_q rfl rfl (QT_assign rfl rfl rfl) ?_
  refine TL_nil ?_
  refine TX_then ?_
  refine TC_seq ?_
  refine TC_seq ?_
  refine TC_reg ?_
  first
    | refine TL_q rfl rfl (QT_loadW 0 rfl rfl Tryd.underlying27 rfl rfl rfl YtjehicncbpljaaaDoorF.sz_27) ?_
    | refine TL_q rfl rfl (QT_loadW 1 rfl rfl Tryd.underlying27 rfl rfl rfl YtjehicncbpljaaaDoorF.sz_27) ?_
    | refine TL_q rfl rfl (QT_loadW 2 rfl rfl Tryd.underlying27 rfl rfl rfl YtjehicncbpljaaaDoorF.sz_27) ?_
    | refine TL_q rfl rfl (QT_loadA 0 rfl rfl Tryd.underlying27 rfl rfl rfl YtjehicncbpljaaaDoorF.sz_27 (fun _ => rfl)) ?_
    | refine TL_q rfl rfl (QT_loadA 1 rfl rfl Tryd.underlying27 rfl rfl rfl YtjehicncbpljaaaDoorF.sz_27 (fun _ => rfl)) ?_
    | refine TL_q rfl rfl (QT_loadA 2 rfl rfl Tryd.underlying27 rfl rfl rfl YtjehicncbpljaaaDoorF.sz_27 (fun _ => rfl)) ?_
  refine TL_cq rfl rfl rfl rfl YtjehicncbpljaaaDoorF.cal_23 rfl (fun _ => check_spec w0 _ hG L) ?_
  refine TL_q rfl rfl (QT_neq rfl rfl rfl rfl) ?_
  refine TL_nil ?_
  refine TX_then ?_
  first
    | refine TC_cond_dec rfl (fun h10 => ?_) (fun h10 => ?_)
    | refine TC_cond rfl (fun h10 => ?_) (fun h10 => ?_)
  ·
    refine TC_seq ?_
    refine TC_reg ?_
    refine TL_q rfl rfl (QT_assign rfl rfl rfl) ?_
    refine TL_nil ?_
    refine TX_then ?_
    refine TC_ret ?_
    refine TX_then_ret ?_
    exact TX_ret (.inl rfl) (res1 rfl rfl) ⟨_, ⟨by simp_all [sizeZ, errOf], rfl⟩, fun _ h => h.tail⟩
  ·
    have hok : okB L = true := by
      unfold errOf at h10
      by_cases h : okB L = true
      · exact h
      · simp [h] at h10
    obtain ⟨⟨c1, c2⟩, ⟨m1, m2⟩, ⟨s1, s2⟩, hty, hro, hfl⟩ := okB_bounds hok
    have hp := mul_bd s1 s2 m1 m2
    have e1 : 1 * L.cs * L.cm = L.cs * L.cm := by rw [Int.one_mul]
    have e2 : 2 * L.cs * L.cm = 2 * (L.cs * L.cm) := Int.mul_assoc ..
    have e4 : 4 * L.cs * L.cm = 4 * (L.cs * L.cm) := Int.mul_assoc ..
    refine TC_skip ?_
    refine TX_then ?_
    refine TC_seq ?_
    refine TC_draw [(0, 0), (1, 0), (2, 0), (3, 0), (4, 0)] YtjehicncbpljaaaDoorF.mixed (by kernel_rfl) (St.calm _ _) ?_
    refine TV_q rfl rfl rfl (fun _ => QT_field rfl rfl YtjehicncbpljaaaDoorF.fld_27_3 rfl) ?_
    first
      | refine TV_ql rfl rfl rfl (QT_load 0 rfl rfl Tryd.underlying3 rfl rfl rfl (fun _ => rfl)) ?_
      | refine TV_ql rfl rfl rfl (QT_load 1 rfl rfl Tryd.underlying3 rfl rfl rfl (fun _ => rfl)) ?_
      | refine TV_ql rfl rfl rfl (QT_load 2 rfl rfl Tryd.underlying3 rfl rfl rfl (fun _ => rfl)) ?_
    refine TV_q rfl rfl rfl (fun _ => QT_assign rfl rfl rfl) ?_
    refine TV_q rfl rfl rfl (fun _ => QT_assign rfl rfl rfl) ?_
    refine TV_q rfl rfl rfl (fun _ => QT_assign rfl rfl rfl) ?_
    refine TV_end ?_
    refine TX_then ?_
    refine TC_seq ?_
    refine TC_seq ?_
    refine TC_reg ?_
    refine TL_q rfl rfl (QT_field rfl rfl YtjehicncbpljaaaDoorF.fld_27_0 rfl) ?_
    first
      | refine TL_q rfl rfl (QT_load 0 rfl rfl Tryd.underlying3 rfl rfl rfl (fun _ => rfl)) ?_
      | refine TL_q rfl rfl (QT_load 1 rfl rfl Tryd.underlying3 rfl rfl rfl (fun _ => rfl)) ?_
      | refine TL_q rfl rfl (QT_load 2 rfl rfl Tryd.underlying3 rfl rfl rfl (fun _ => rfl)) ?_
    refine TL_nil ?_
    refine TX_then ?_
    refine TC_block ?_
    refine TC_seq ?_
    refine TC_block ?_
    refine TC_seq ?_
    refine TC_block ?_
    refine TC_seq ?_
    refine TC_block ?_
    refine TC_seq ?_
    refine TC_seq ?_
    refine TC_seq ?_
    refine TC_reg ?_
    refine TL_q rfl rfl (QT_eql rfl rfl rfl rfl) ?_
    refine TL_q rfl rfl (QT_assign rfl rfl rfl) ?_
    refine TL_nil ?_
    refine TX_then ?_
    first
      | refine TC_cond_dec rfl (fun h15 => ?_) (fun h15 => ?_)
      | refine TC_cond rfl (fun h15 => ?_) (fun h15 => ?_)
    ·
      refine TC_exit ?_
      refine TX_then_exit ?_
      refine TX_then_exit ?_
      refine TX_block_here ?_
      refine TX_then ?_
      refine TC_seq ?_
      refine TC_reg ?_
      refine TL_q rfl rfl (QT_assign rfl rfl rfl) ?_
      refine TL_nil ?_
      refine TX_then ?_
      refine TC_exit ?_
      refine TX_block_past rfl ?_
      refine TX_then_exit ?_
      refine TX_block_past rfl ?_
      refine TX_then_exit ?_
      refine TX_block_here ?_
      refine TX_then ?_
      refine TC_seq ?_
      refine TC_reg ?_
      refine TL_q rfl rfl (QT_move rfl rfl rfl) ?_
      refine TL_q rfl rfl (QT_move rfl rfl rfl) ?_
      refine TL_q rfl rfl (QT_mul rfl rfl rfl rfl (fun _ => ⟨by omega, by omega⟩)) ?_
      refine TL_q rfl rfl (QT_field rfl rfl YtjehicncbpljaaaDoorF.fld_27_1 rfl) ?_
      first
        | refine TL_q rfl rfl (QT_load 0 rfl rfl Tryd.underlying3 rfl rfl rfl (fun _ => rfl)) ?_
        | refine TL_q rfl rfl (QT_load 1 rfl rfl Tryd.underlying3 rfl rfl rfl (fun _ => rfl)) ?_
        | refine TL_q rfl rfl (QT_load 2 rfl rfl Tryd.underlying3 rfl rfl rfl (fun _ => rfl)) ?_
      refine TL_q rfl rfl (QT_mul rfl rfl rfl rfl (fun _ => ⟨by omega, by omega⟩)) ?_
      refine TL_q rfl rfl (QT_move rfl rfl rfl) ?_
      refine TL_q rfl rfl (QT_field rfl rfl YtjehicncbpljaaaDoorF.fld_27_4 rfl) ?_
      first
        | refine TL_q rfl rfl (QT_load 0 rfl rfl Tryd.underlying3 rfl rfl rfl (fun _ => rfl)) ?_
        | refine TL_q rfl rfl (QT_load 1 rfl rfl Tryd.underlying3 rfl rfl rfl (fun _ => rfl)) ?_
        | refine TL_q rfl rfl (QT_load 2 rfl rfl Tryd.underlying3 rfl rfl rfl (fun _ => rfl)) ?_
      refine TL_q rfl rfl (QT_mul rfl rfl rfl rfl (fun _ => ⟨by omega, by omega⟩)) ?_
      refine TL_q rfl rfl (QT_field rfl rfl YtjehicncbpljaaaDoorF.fld_27_2 rfl) ?_
      first
        | refine TL_q rfl rfl (QT_load 0 rfl rfl Tryd.underlying3 rfl rfl rfl (fun _ => rfl)) ?_
        | refine TL_q rfl rfl (QT_load 1 rfl rfl Tryd.underlying3 rfl rfl rfl (fun _ => rfl)) ?_
        | refine TL_q rfl rfl (QT_load 2 rfl rfl Tryd.underlying3 rfl rfl rfl (fun _ => rfl)) ?_
      refine TL_q rfl rfl (QT_mul rfl rfl rfl rfl (fun _ => ⟨by omega, by omega⟩)) ?_
      refine TL_q rfl rfl (QT_add rfl rfl rfl rfl (fun _ => ⟨by omega, by omega⟩)) ?_
      refine TL_q rfl rfl (QT_add rfl rfl rfl rfl (fun _ => ⟨by omega, by omega⟩)) ?_
      refine TL_q rfl rfl (QT_assign rfl rfl rfl) ?_
      refine TL_nil ?_
      refine TX_then ?_
      refine TC_seq ?_
      refine TC_reg ?_
      refine TL_q rfl rfl (QT_move rfl rfl rfl) ?_
      refine TL_q rfl rfl (QT_add rfl rfl rfl rfl (fun _ => ⟨by omega, by omega⟩)) ?_
      refine TL_q rfl rfl (QT_quo rfl rfl rfl rfl (fun _ => ⟨by omega, by omega, by omega⟩)) ?_
      refine TL_q rfl rfl (QT_assign rfl rfl rfl) ?_
      refine TL_nil ?_
      refine TX_then ?_
      refine TC_ret ?_
      exact TX_ret (.inl rfl) (res1 rfl rfl) ⟨_, ⟨by simp_all [sizeZ, bitsZ, flb, ptsZ, colZ], rfl⟩, fun _ h => h.tail⟩
    ·
      refine TC_skip ?_
      refine TX_then ?_
      refine TC_seq ?_
      refine TC_seq ?_
      refine TC_reg ?_
      refine TL_q rfl rfl (QT_eql rfl rfl rfl rfl) ?_
      refine TL_q rfl rfl (QT_assign rfl rfl rfl) ?_
      refine TL_nil ?_
      refine TX_then ?_
      first
        | refine TC_cond_dec rfl (fun h17 => ?_) (fun h17 => ?_)
        | refine TC_cond rfl (fun h17 => ?_) (fun h17 => ?_)
      ·
        refine TC_exit ?_
        refine TX_then_exit ?_
        refine TX_then_exit ?_
        refine TX_block_past rfl ?_
        refine TX_then_exit ?_
        refine TX_block_here ?_
        refine TX_then ?_
        refine TC_reg ?_
        refine TL_q rfl rfl (QT_move rfl rfl rfl) ?_
        refine TL_q rfl rfl (QT_add rfl rfl rfl rfl (fun _ => ⟨by omega, by omega⟩)) ?_
        refine TL_q rfl rfl (QT_assign rfl rfl rfl) ?_
        refine TL_nil ?_
        refine TX_block_normal ?_
        refine TX_then ?_
        refine TC_seq ?_
        refine TC_seq ?_
        refine TC_reg ?_
        refine TL_q rfl rfl (QT_move rfl rfl rfl) ?_
        refine TL_q rfl rfl (QT_add rfl rfl rfl rfl (fun _ => ⟨by omega, by omega⟩)) ?_
        refine TL_q rfl rfl (QT_assign rfl rfl rfl) ?_
        refine TL_q rfl rfl (QT_assign rfl rfl rfl) ?_
        refine TL_nil ?_
        refine TX_then ?_
        refine TC_seq ?_
        refine TC_reg ?_
        refine TL_q rfl rfl (QT_move rfl rfl rfl) ?_
        refine TL_q rfl rfl (QT_eql rfl rfl rfl rfl) ?_
        refine TL_nil ?_
        refine TX_then ?_
        first
          | refine TC_cond_dec rfl (fun h26 => ?_) (fun h26 => ?_)
          | refine TC_cond rfl (fun h26 => ?_) (fun h26 => ?_)
        ·
          refine TC_reg ?_
          refine TL_q rfl rfl (QT_move rfl rfl rfl) ?_
          refine TL_q rfl rfl (QT_add rfl rfl rfl rfl (fun _ => ⟨by omega, by omega⟩)) ?_
          refine TL_q rfl rfl (QT_assign rfl rfl rfl) ?_
          refine TL_q rfl rfl (QT_assign rfl rfl rfl) ?_
          refine TL_nil ?_
          refine TX_then ?_
          refine TC_exit ?_
          refine TX_block_here ?_
          refine TX_then ?_
          refine TC_seq ?_
          refine TC_reg ?_
          refine TL_q rfl rfl (QT_move rfl rfl rfl) ?_
          refine TL_q rfl rfl (QT_move rfl rfl rfl) ?_
          refine TL_q rfl rfl (QT_mul rfl rfl rfl rfl (fun _ => ⟨by omega, by omega⟩)) ?_
          refine TL_q rfl rfl (QT_field rfl rfl YtjehicncbpljaaaDoorF.fld_27_1 rfl) ?_
          first
            | refine TL_q rfl rfl (QT_load 0 rfl rfl Tryd.underlying3 rfl rfl rfl (fun _ => rfl)) ?_
            | refine TL_q rfl rfl (QT_load 1 rfl rfl Tryd.underlying3 rfl rfl rfl (fun _ => rfl)) ?_
            | refine TL_q rfl rfl (QT_load 2 rfl rfl Tryd.underlying3 rfl rfl rfl (fun _ => rfl)) ?_
          refine TL_q rfl rfl (QT_mul rfl rfl rfl rfl (fun _ => ⟨by omega, by omega⟩)) ?_
          refine TL_q rfl rfl (QT_move rfl rfl rfl) ?_
          refine TL_q rfl rfl (QT_field rfl rfl YtjehicncbpljaaaDoorF.fld_27_4 rfl) ?_
          first
            | refine TL_q rfl rfl (QT_load 0 rfl rfl Tryd.underlying3 rfl rfl rfl (fun _ => rfl)) ?_
            | refine TL_q rfl rfl (QT_load 1 rfl rfl Tryd.underlying3 rfl rfl rfl (fun _ => rfl)) ?_
            | refine TL_q rfl rfl (QT_load 2 rfl rfl Tryd.underlying3 rfl rfl rfl (fun _ => rfl)) ?_
          refine TL_q rfl rfl (QT_mul rfl rfl rfl rfl (fun _ => ⟨by omega, by omega⟩)) ?_
          refine TL_q rfl rfl (QT_field rfl rfl YtjehicncbpljaaaDoorF.fld_27_2 rfl) ?_
          first
            | refine TL_q rfl rfl (QT_load 0 rfl rfl Tryd.underlying3 rfl rfl rfl (fun _ => rfl)) ?_
            | refine TL_q rfl rfl (QT_load 1 rfl rfl Tryd.underlying3 rfl rfl rfl (fun _ => rfl)) ?_
            | refine TL_q rfl rfl (QT_load 2 rfl rfl Tryd.underlying3 rfl rfl rfl (fun _ => rfl)) ?_
          refine TL_q rfl rfl (QT_mul rfl rfl rfl rfl (fun _ => ⟨by omega, by omega⟩)) ?_
          refine TL_q rfl rfl (QT_add rfl rfl rfl rfl (fun _ => ⟨by omega, by omega⟩)) ?_
          refine TL_q rfl rfl (QT_add rfl rfl rfl rfl (fun _ => ⟨by omega, by omega⟩)) ?_
          refine TL_q rfl rfl (QT_assign rfl rfl rfl) ?_
          refine TL_nil ?_
          refine TX_then ?_
          refine TC_seq ?_
          refine TC_reg ?_
          refine TL_q rfl rfl (QT_move rfl rfl rfl) ?_
          refine TL_q rfl rfl (QT_add rfl rfl rfl rfl (fun _ => ⟨by omega, by omega⟩)) ?_
          refine TL_q rfl rfl (QT_quo rfl rfl rfl rfl (fun _ => ⟨by omega, by omega, by omega⟩)) ?_
          refine TL_q rfl rfl (QT_assign rfl rfl rfl) ?_
          refine TL_nil ?_
          refine TX_then ?_
          refine TC_ret ?_
          exact TX_ret (.inl rfl) (res1 rfl rfl) ⟨_, ⟨by simp_all [sizeZ, bitsZ, flb, ptsZ, colZ], rfl⟩, fun _ h => h.tail⟩
        ·
          refine TC_skip ?_
          refine TX_then ?_
          refine TC_exit ?_
          refine TX_block_here ?_
          refine TX_then ?_
          refine TC_seq ?_
          refine TC_reg ?_
          refine TL_q rfl rfl (QT_move rfl rfl rfl) ?_
          refine TL_q rfl rfl (QT_move rfl rfl rfl) ?_
          refine TL_q rfl rfl (QT_mul rfl rfl rfl rfl (fun _ => ⟨by omega, by omega⟩)) ?_
          refine TL_q rfl rfl (QT_field rfl rfl YtjehicncbpljaaaDoorF.fld_27_1 rfl) ?_
          first
            | refine TL_q rfl rfl (QT_load 0 rfl rfl Tryd.underlying3 rfl rfl rfl (fun _ => rfl)) ?_
            | refine TL_q rfl rfl (QT_load 1 rfl rfl Tryd.underlying3 rfl rfl rfl (fun _ => rfl)) ?_
            | refine TL_q rfl rfl (QT_load 2 rfl rfl Tryd.underlying3 rfl rfl rfl (fun _ => rfl)) ?_
          refine TL_q rfl rfl (QT_mul rfl rfl rfl rfl (fun _ => ⟨by omega, by omega⟩)) ?_
          refine TL_q rfl rfl (QT_move rfl rfl rfl) ?_
          refine TL_q rfl rfl (QT_field rfl rfl YtjehicncbpljaaaDoorF.fld_27_4 rfl) ?_
          first
            | refine TL_q rfl rfl (QT_load 0 rfl rfl Tryd.underlying3 rfl rfl rfl (fun _ => rfl)) ?_
            | refine TL_q rfl rfl (QT_load 1 rfl rfl Tryd.underlying3 rfl rfl rfl (fun _ => rfl)) ?_
            | refine TL_q rfl rfl (QT_load 2 rfl rfl Tryd.underlying3 rfl rfl rfl (fun _ => rfl)) ?_
          refine TL_q rfl rfl (QT_mul rfl rfl rfl rfl (fun _ => ⟨by omega, by omega⟩)) ?_
          refine TL_q rfl rfl (QT_field rfl rfl YtjehicncbpljaaaDoorF.fld_27_2 rfl) ?_
          first
            | refine TL_q rfl rfl (QT_load 0 rfl rfl Tryd.underlying3 rfl rfl rfl (fun _ => rfl)) ?_
            | refine TL_q rfl rfl (QT_load 1 rfl rfl Tryd.underlying3 rfl rfl rfl (fun _ => rfl)) ?_
            | refine TL_q rfl rfl (QT_load 2 rfl rfl Tryd.underlying3 rfl rfl rfl (fun _ => rfl)) ?_
          refine TL_q rfl rfl (QT_mul rfl rfl rfl rfl (fun _ => ⟨by omega, by omega⟩)) ?_
          refine TL_q rfl rfl (QT_add rfl rfl rfl rfl (fun _ => ⟨by omega, by omega⟩)) ?_
          refine TL_q rfl rfl (QT_add rfl rfl rfl rfl (fun _ => ⟨by omega, by omega⟩)) ?_
          refine TL_q rfl rfl (QT_assign rfl rfl rfl) ?_
          refine TL_nil ?_
          refine TX_then ?_
          refine TC_seq ?_
          refine TC_reg ?_
          refine TL_q rfl rfl (QT_move rfl rfl rfl) ?_
          refine TL_q rfl rfl (QT_add rfl rfl rfl rfl (fun _ => ⟨by omega, by omega⟩)) ?_
          refine TL_q rfl rfl (QT_quo rfl rfl rfl rfl (fun _ => ⟨by omega, by omega, by omega⟩)) ?_
          refine TL_q rfl rfl (QT_assign rfl rfl rfl) ?_
          refine TL_nil ?_
          refine TX_then ?_
          refine TC_ret ?_
          exact TX_ret (.inl rfl) (res1 rfl rfl) ⟨_, ⟨by simp_all [sizeZ, bitsZ, flb, ptsZ, colZ], rfl⟩, fun _ h => h.tail⟩
      ·
        refine TC_skip ?_
        refine TX_then ?_
        refine TC_seq ?_
        refine TC_reg ?_
        refine TL_q rfl rfl (QT_eql rfl rfl rfl rfl) ?_
        refine TL_q rfl rfl (QT_assign rfl rfl rfl) ?_
        refine TL_nil ?_
        refine TX_then ?_
        first
          | refine TC_cond_dec rfl (fun h19 => ?_) (fun h19 => ?_)
          | refine TC_cond rfl (fun h19 => ?_) (fun h19 => ?_)
        ·
          refine TC_exit ?_
          refine TX_then_exit ?_
          refine TX_block_past rfl ?_
          refine TX_then_exit ?_
          refine TX_block_past rfl ?_
          refine TX_then_exit ?_
          refine TX_block_here ?_
          refine TX_then ?_
          refine TC_seq ?_
          refine TC_seq ?_
          refine TC_reg ?_
          refine TL_q rfl rfl (QT_move rfl rfl rfl) ?_
          refine TL_q rfl rfl (QT_add rfl rfl rfl rfl (fun _ => ⟨by omega, by omega⟩)) ?_
          refine TL_q rfl rfl (QT_assign rfl rfl rfl) ?_
          refine TL_q rfl rfl (QT_assign rfl rfl rfl) ?_
          refine TL_nil ?_
          refine TX_then ?_
          refine TC_seq ?_
          refine TC_reg ?_
          refine TL_q rfl rfl (QT_move rfl rfl rfl) ?_
          refine TL_q rfl rfl (QT_eql rfl rfl rfl rfl) ?_
          refine TL_nil ?_
          refine TX_then ?_
          first
            | refine TC_cond_dec rfl (fun h26 => ?_) (fun h26 => ?_)
            | refine TC_cond rfl (fun h26 => ?_) (fun h26 => ?_)
          ·
            refine TC_reg ?_
            refine TL_q rfl rfl (QT_move rfl rfl rfl) ?_
            refine TL_q rfl rfl (QT_add rfl rfl rfl rfl (fun _ => ⟨by omega, by omega⟩)) ?_
            refine TL_q rfl rfl (QT_assign rfl rfl rfl) ?_
            refine TL_q rfl rfl (QT_assign rfl rfl rfl) ?_
            refine TL_nil ?_
            refine TX_then ?_
            refine TC_exit ?_
            refine TX_block_here ?_
            refine TX_then ?_
            refine TC_seq ?_
            refine TC_reg ?_
            refine TL_q rfl rfl (QT_move rfl rfl rfl) ?_
            refine TL_q rfl rfl (QT_move rfl rfl rfl) ?_
            refine TL_q rfl rfl (QT_mul rfl rfl rfl rfl (fun _ => ⟨by omega, by omega⟩)) ?_
            refine TL_q rfl rfl (QT_field rfl rfl YtjehicncbpljaaaDoorF.fld_27_1 rfl) ?_
            first
              | refine TL_q rfl rfl (QT_load 0 rfl rfl Tryd.underlying3 rfl rfl rfl (fun _ => rfl)) ?_
              | refine TL_q rfl rfl (QT_load 1 rfl rfl Tryd.underlying3 rfl rfl rfl (fun _ => rfl)) ?_
              | refine TL_q rfl rfl (QT_load 2 rfl rfl Tryd.underlying3 rfl rfl rfl (fun _ => rfl)) ?_
            refine TL_q rfl rfl (QT_mul rfl rfl rfl rfl (fun _ => ⟨by omega, by omega⟩)) ?_
            refine TL_q rfl rfl (QT_move rfl rfl rfl) ?_
            refine TL_q rfl rfl (QT_field rfl rfl YtjehicncbpljaaaDoorF.fld_27_4 rfl) ?_
            first
              | refine TL_q rfl rfl (QT_load 0 rfl rfl Tryd.underlying3 rfl rfl rfl (fun _ => rfl)) ?_
              | refine TL_q rfl rfl (QT_load 1 rfl rfl Tryd.underlying3 rfl rfl rfl (fun _ => rfl)) ?_
              | refine TL_q rfl rfl (QT_load 2 rfl rfl Tryd.underlying3 rfl rfl rfl (fun _ => rfl)) ?_
            refine TL_q rfl rfl (QT_mul rfl rfl rfl rfl (fun _ => ⟨by omega, by omega⟩)) ?_
            refine TL_q rfl rfl (QT_field rfl rfl YtjehicncbpljaaaDoorF.fld_27_2 rfl) ?_
            first
              | refine TL_q rfl rfl (QT_load 0 rfl rfl Tryd.underlying3 rfl rfl rfl (fun _ => rfl)) ?_
              | refine TL_q rfl rfl (QT_load 1 rfl rfl Tryd.underlying3 rfl rfl rfl (fun _ => rfl)) ?_
              | refine TL_q rfl rfl (QT_load 2 rfl rfl Tryd.underlying3 rfl rfl rfl (fun _ => rfl)) ?_
            refine TL_q rfl rfl (QT_mul rfl rfl rfl rfl (fun _ => ⟨by omega, by omega⟩)) ?_
            refine TL_q rfl rfl (QT_add rfl rfl rfl rfl (fun _ => ⟨by omega, by omega⟩)) ?_
            refine TL_q rfl rfl (QT_add rfl rfl rfl rfl (fun _ => ⟨by omega, by omega⟩)) ?_
            refine TL_q rfl rfl (QT_assign rfl rfl rfl) ?_
            refine TL_nil ?_
            refine TX_then ?_
            refine TC_seq ?_
            refine TC_reg ?_
            refine TL_q rfl rfl (QT_move rfl rfl rfl) ?_
            refine TL_q rfl rfl (QT_add rfl rfl rfl rfl (fun _ => ⟨by omega, by omega⟩)) ?_
            refine TL_q rfl rfl (QT_quo rfl rfl rfl rfl (fun _ => ⟨by omega, by omega, by omega⟩)) ?_
            refine TL_q rfl rfl (QT_assign rfl rfl rfl) ?_
            refine TL_nil ?_
            refine TX_then ?_
            refine TC_ret ?_
            exact TX_ret (.inl rfl) (res1 rfl rfl) ⟨_, ⟨by simp_all [sizeZ, bitsZ, flb, ptsZ, colZ], rfl⟩, fun _ h => h.tail⟩
          ·
            refine TC_skip ?_
            refine TX_then ?_
            refine TC_exit ?_
            refine TX_block_here ?_
            refine TX_then ?_
            refine TC_seq ?_
            refine TC_reg ?_
            refine TL_q rfl rfl (QT_move rfl rfl rfl) ?_
            refine TL_q rfl rfl (QT_move rfl rfl rfl) ?_
            refine TL_q rfl rfl (QT_mul rfl rfl rfl rfl (fun _ => ⟨by omega, by omega⟩)) ?_
            refine TL_q rfl rfl (QT_field rfl rfl YtjehicncbpljaaaDoorF.fld_27_1 rfl) ?_
            first
              | refine TL_q rfl rfl (QT_load 0 rfl rfl Tryd.underlying3 rfl rfl rfl (fun _ => rfl)) ?_
              | refine TL_q rfl rfl (QT_load 1 rfl rfl Tryd.underlying3 rfl rfl rfl (fun _ => rfl)) ?_
              | refine TL_q rfl rfl (QT_load 2 rfl rfl Tryd.underlying3 rfl rfl rfl (fun _ => rfl)) ?_
            refine TL_q rfl rfl (QT_mul rfl rfl rfl rfl (fun _ => ⟨by omega, by omega⟩)) ?_
            refine TL_q rfl rfl (QT_move rfl rfl rfl) ?_
            refine TL_q rfl rfl (QT_field rfl rfl YtjehicncbpljaaaDoorF.fld_27_4 rfl) ?_
            first
              | refine TL_q rfl rfl (QT_load 0 rfl rfl Tryd.underlying3 rfl rfl rfl (fun _ => rfl)) ?_
              | refine TL_q rfl rfl (QT_load 1 rfl rfl Tryd.underlying3 rfl rfl rfl (fun _ => rfl)) ?_
              | refine TL_q rfl rfl (QT_load 2 rfl rfl Tryd.underlying3 rfl rfl rfl (fun _ => rfl)) ?_
            refine TL_q rfl rfl (QT_mul rfl rfl rfl rfl (fun _ => ⟨by omega, by omega⟩)) ?_
            refine TL_q rfl rfl (QT_field rfl rfl YtjehicncbpljaaaDoorF.fld_27_2 rfl) ?_
            first
              | refine TL_q rfl rfl (QT_load 0 rfl rfl Tryd.underlying3 rfl rfl rfl (fun _ => rfl)) ?_
              | refine TL_q rfl rfl (QT_load 1 rfl rfl Tryd.underlying3 rfl rfl rfl (fun _ => rfl)) ?_
              | refine TL_q rfl rfl (QT_load 2 rfl rfl Tryd.underlying3 rfl rfl rfl (fun _ => rfl)) ?_
            refine TL_q rfl rfl (QT_mul rfl rfl rfl rfl (fun _ => ⟨by omega, by omega⟩)) ?_
            refine TL_q rfl rfl (QT_add rfl rfl rfl rfl (fun _ => ⟨by omega, by omega⟩)) ?_
            refine TL_q rfl rfl (QT_add rfl rfl rfl rfl (fun _ => ⟨by omega, by omega⟩)) ?_
            refine TL_q rfl rfl (QT_assign rfl rfl rfl) ?_
            refine TL_nil ?_
            refine TX_then ?_
            refine TC_seq ?_
            refine TC_reg ?_
            refine TL_q rfl rfl (QT_move rfl rfl rfl) ?_
            refine TL_q rfl rfl (QT_add rfl rfl rfl rfl (fun _ => ⟨by omega, by omega⟩)) ?_
            refine TL_q rfl rfl (QT_quo rfl rfl rfl rfl (fun _ => ⟨by omega, by omega, by omega⟩)) ?_
            refine TL_q rfl rfl (QT_assign rfl rfl rfl) ?_
            refine TL_nil ?_
            refine TX_then ?_
            refine TC_ret ?_
            exact TX_ret (.inl rfl) (res1 rfl rfl) ⟨_, ⟨by simp_all [sizeZ, bitsZ, flb, ptsZ, colZ], rfl⟩, fun _ h => h.tail⟩
        ·
          refine TC_skip ?_
          refine TX_then ?_
          refine TC_exit ?_
          refine TX_block_past rfl ?_
          refine TX_then_exit ?_
          refine TX_block_past rfl ?_
          refine TX_then_exit ?_
          refine TX_block_past rfl ?_
          refine TX_then_exit ?_
          refine TX_block_here ?_
          refine TX_then ?_
          refine TC_seq ?_
          refine TC_reg ?_
          refine TL_q rfl rfl (QT_move rfl rfl rfl) ?_
          refine TL_q rfl rfl (QT_move rfl rfl rfl) ?_
          refine TL_q rfl rfl (QT_mul rfl rfl rfl rfl (fun _ => ⟨by omega, by omega⟩)) ?_
          refine TL_q rfl rfl (QT_field rfl rfl YtjehicncbpljaaaDoorF.fld_27_1 rfl) ?_
          first
            | refine TL_q rfl rfl (QT_load 0 rfl rfl Tryd.underlying3 rfl rfl rfl (fun _ => rfl)) ?_
            | refine TL_q rfl rfl (QT_load 1 rfl rfl Tryd.underlying3 rfl rfl rfl (fun _ => rfl)) ?_
            | refine TL_q rfl rfl (QT_load 2 rfl rfl Tryd.underlying3 rfl rfl rfl (fun _ => rfl)) ?_
          refine TL_q rfl rfl (QT_mul rfl rfl rfl rfl (fun _ => ⟨by omega, by omega⟩)) ?_
          refine TL_q rfl rfl (QT_move rfl rfl rfl) ?_
          refine TL_q rfl rfl (QT_field rfl rfl YtjehicncbpljaaaDoorF.fld_27_4 rfl) ?_
          first
            | refine TL_q rfl rfl (QT_load 0 rfl rfl Tryd.underlying3 rfl rfl rfl (fun _ => rfl)) ?_
            | refine TL_q rfl rfl (QT_load 1 rfl rfl Tryd.underlying3 rfl rfl rfl (fun _ => rfl)) ?_
            | refine TL_q rfl rfl (QT_load 2 rfl rfl Tryd.underlying3 rfl rfl rfl (fun _ => rfl)) ?_
          refine TL_q rfl rfl (QT_mul rfl rfl rfl rfl (fun _ => ⟨by omega, by omega⟩)) ?_
          refine TL_q rfl rfl (QT_field rfl rfl YtjehicncbpljaaaDoorF.fld_27_2 rfl) ?_
          first
            | refine TL_q rfl rfl (QT_load 0 rfl rfl Tryd.underlying3 rfl rfl rfl (fun _ => rfl)) ?_
            | refine TL_q rfl rfl (QT_load 1 rfl rfl Tryd.underlying3 rfl rfl rfl (fun _ => rfl)) ?_
            | refine TL_q rfl rfl (QT_load 2 rfl rfl Tryd.underlying3 rfl rfl rfl (fun _ => rfl)) ?_
          refine TL_q rfl rfl (QT_mul rfl rfl rfl rfl (fun _ => ⟨by omega, by omega⟩)) ?_
          refine TL_q rfl rfl (QT_add rfl rfl rfl rfl (fun _ => ⟨by omega, by omega⟩)) ?_
          refine TL_q rfl rfl (QT_add rfl rfl rfl rfl (fun _ => ⟨by omega, by omega⟩)) ?_
          refine TL_q rfl rfl (QT_assign rfl rfl rfl) ?_
          refine TL_nil ?_
          refine TX_then ?_
          refine TC_seq ?_
          refine TC_reg ?_
          refine TL_q rfl rfl (QT_move rfl rfl rfl) ?_
          refine TL_q rfl rfl (QT_add rfl rfl rfl rfl (fun _ => ⟨by omega, by omega⟩)) ?_
          refine TL_q rfl rfl (QT_quo rfl rfl rfl rfl (fun _ => ⟨by omega, by omega, by omega⟩)) ?_
          refine TL_q rfl rfl (QT_assign rfl rfl rfl) ?_
          refine TL_nil ?_
          refine TX_then ?_
          refine TC_ret ?_
          exact TX_ret (.inl rfl) (res1 rfl rfl) ⟨_, ⟨by simp_all [sizeZ, bitsZ, flb, ptsZ, colZ], rfl⟩, fun _ h => h.tail⟩
end Go.Proofs.YtjehicncbpljaaaDoor

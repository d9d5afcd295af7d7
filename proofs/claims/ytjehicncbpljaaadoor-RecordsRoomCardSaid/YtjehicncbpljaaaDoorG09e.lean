/- THE BOOK: are all its lists apart? Laid by a program of this work. -/
import Derived.Test.YtjehicncbpljaaaDoorG01d
import Derived.Test.YtjehicncbpljaaaDoorP01d
namespace Go.Proofs.YtjehicncbpljaaaDoor
open Go Go.Gx Go.RowKit
set_option maxRecDepth 100000

theorem fill_nil_bits (w0 : Base) (η : Heap) : CallsT Tryd.prog 39 [nilS] (St w0 η) fun v A' => v = .tuple #[] ∧ A' = St w0 η := by
  refine CallsT.body Tryd.func39 rfl rfl ?_
  simp only [Tryd.ntmps39, slotsOf, Nat.reduceAdd]
  refine TC_seq ?_
  refine TC_reg ?_
  refine TL_q rfl rfl (QT_assign rfl rfl rfl) ?_
  refine TL_nil ?_
  refine TX_then ?_
  refine TC_block ?_
  refine TC_loop (γ := Unit) (fun _ => [(0, true, nilS), (2, true, .int .i64 0)]) (fun _ => St w0 η) (fun _ => 0) () ⟨rfl, rfl, trivial⟩ (fun _ h => h) ?_
  rintro ⟨⟩
  dsimp only [nilS]
  refine TC_seq ?_
  refine TC_seq ?_
  refine TC_reg ?_
  refine TL_q rfl rfl (QT_move rfl rfl rfl) ?_
  refine TL_q rfl rfl (QT_move rfl rfl rfl) ?_
  refine TL_q rfl rfl (QT_len rfl rfl Tryd.underlying36 rfl) ?_
  refine TL_q rfl rfl (QT_lss rfl rfl rfl rfl) ?_
  refine TL_nil ?_
  refine TX_then ?_
  refine TC_cond rfl (fun h => absurd (h.symm.trans ((show (_ : Bool) = false by rfl))) (by decide)) (fun _ => ?_)
  refine TC_exit ?_
  refine TX_then_exit ?_
  refine TX_then_exit ?_
  refine TX_block_here ?_
  exact TX_ret (.inr rfl) (res0 rfl) ⟨_, ⟨rfl, rfl⟩, fun _ h => h⟩
theorem grow_nil_bits (w0 : Base) (η : Heap) : CallsT Tryd.prog 52 [nilS] (St w0 η) fun v A' => v = .tuple #[] ∧ A' = St w0 η := by
  refine CallsT.body Tryd.func52 rfl rfl ?_
  simp only [Tryd.ntmps52, slotsOf, Nat.reduceAdd]
  refine TC_seq ?_
  refine TC_reg ?_
  refine TL_q rfl rfl (QT_assign rfl rfl rfl) ?_
  refine TL_nil ?_
  refine TX_then ?_
  refine TC_block ?_
  refine TC_loop (γ := Unit) (fun _ => [(0, true, nilS), (2, true, .int .i64 0)]) (fun _ => St w0 η) (fun _ => 0) () ⟨rfl, rfl, trivial⟩ (fun _ h => h) ?_
  rintro ⟨⟩
  dsimp only [nilS]
  refine TC_seq ?_
  refine TC_seq ?_
  refine TC_reg ?_
  refine TL_q rfl rfl (QT_move rfl rfl rfl) ?_
  refine TL_q rfl rfl (QT_move rfl rfl rfl) ?_
  refine TL_q rfl rfl (QT_len rfl rfl Tryd.underlying36 rfl) ?_
  refine TL_q rfl rfl (QT_lss rfl rfl rfl rfl) ?_
  refine TL_nil ?_
  refine TX_then ?_
  refine TC_cond rfl (fun h => absurd (h.symm.trans ((show (_ : Bool) = false by rfl))) (by decide)) (fun _ => ?_)
  refine TC_exit ?_
  refine TX_then_exit ?_
  refine TX_then_exit ?_
  refine TX_block_here ?_
  exact TX_ret (.inr rfl) (res0 rfl) ⟨_, ⟨rfl, rfl⟩, fun _ h => h⟩
theorem marked_nil_bits (w0 : Base) (η : Heap) : CallsT Tryd.prog 65 [nilS] (St w0 η) fun v A' => v = .bool true ∧ A' = St w0 η := by
  refine CallsT.body Tryd.func65 rfl rfl ?_
  simp only [Tryd.ntmps65, slotsOf, Nat.reduceAdd]
  refine TC_seq ?_
  refine TC_reg ?_
  refine TL_q rfl rfl (QT_assign rfl rfl rfl) ?_
  refine TL_nil ?_
  refine TX_then ?_
  refine TC_seq ?_
  refine TC_seq ?_
  refine TC_reg ?_
  refine TL_q rfl rfl (QT_assign rfl rfl rfl) ?_
  refine TL_nil ?_
  refine TX_then ?_
  refine TC_block ?_
  refine TC_loop (γ := Unit) (fun _ => [(0, true, nilS), (3, true, .int .i64 0)]) (fun _ => St w0 η) (fun _ => 0) () ⟨rfl, rfl, trivial⟩ (fun _ h => h) ?_
  rintro ⟨⟩
  dsimp only [nilS]
  refine TC_seq ?_
  refine TC_seq ?_
  refine TC_reg ?_
  refine TL_q rfl rfl (QT_move rfl rfl rfl) ?_
  refine TL_q rfl rfl (QT_move rfl rfl rfl) ?_
  refine TL_q rfl rfl (QT_len rfl rfl Tryd.underlying36 rfl) ?_
  refine TL_q rfl rfl (QT_lss rfl rfl rfl rfl) ?_
  refine TL_nil ?_
  refine TX_then ?_
  refine TC_cond rfl (fun h => absurd (h.symm.trans ((show (_ : Bool) = false by rfl))) (by decide)) (fun _ => ?_)
  refine TC_exit ?_
  refine TX_then_exit ?_
  refine TX_then_exit ?_
  refine TX_block_here ?_
  refine TX_then ?_
  refine TC_seq ?_
  refine TC_reg ?_
  refine TL_q rfl rfl (QT_assign rfl rfl rfl) ?_
  refine TL_nil ?_
  refine TX_then ?_
  refine TC_ret ?_
  exact TX_ret (.inl rfl) (res1 rfl rfl) ⟨_, ⟨rfl, rfl⟩, fun _ h => h⟩
theorem fill_nil_fixes (w0 : Base) (η : Heap) : CallsT Tryd.prog 40 [nilS] (St w0 η) fun v A' => v = .tuple #[] ∧ A' = St w0 η := by
  refine CallsT.body Tryd.func40 rfl rfl ?_
  simp only [Tryd.ntmps40, slotsOf, Nat.reduceAdd]
  refine TC_seq ?_
  refine TC_reg ?_
  refine TL_q rfl rfl (QT_assign rfl rfl rfl) ?_
  refine TL_nil ?_
  refine TX_then ?_
  refine TC_block ?_
  refine TC_loop (γ := Unit) (fun _ => [(0, true, nilS), (2, true, .int .i64 0)]) (fun _ => St w0 η) (fun _ => 0) () ⟨rfl, rfl, trivial⟩ (fun _ h => h) ?_
  rintro ⟨⟩
  dsimp only [nilS]
  refine TC_seq ?_
  refine TC_seq ?_
  refine TC_reg ?_
  refine TL_q rfl rfl (QT_move rfl rfl rfl) ?_
  refine TL_q rfl rfl (QT_move rfl rfl rfl) ?_
  refine TL_q rfl rfl (QT_len rfl rfl Tryd.underlying37 rfl) ?_
  refine TL_q rfl rfl (QT_lss rfl rfl rfl rfl) ?_
  refine TL_nil ?_
  refine TX_then ?_
  refine TC_cond rfl (fun h => absurd (h.symm.trans ((show (_ : Bool) = false by rfl))) (by decide)) (fun _ => ?_)
  refine TC_exit ?_
  refine TX_then_exit ?_
  refine TX_then_exit ?_
  refine TX_block_here ?_
  exact TX_ret (.inr rfl) (res0 rfl) ⟨_, ⟨rfl, rfl⟩, fun _ h => h⟩
theorem grow_nil_fixes (w0 : Base) (η : Heap) : CallsT Tryd.prog 53 [nilS] (St w0 η) fun v A' => v = .tuple #[] ∧ A' = St w0 η := by
  refine CallsT.body Tryd.func53 rfl rfl ?_
  simp only [Tryd.ntmps53, slotsOf, Nat.reduceAdd]
  refine TC_seq ?_
  refine TC_reg ?_
  refine TL_q rfl rfl (QT_assign rfl rfl rfl) ?_
  refine TL_nil ?_
  refine TX_then ?_
  refine TC_block ?_
  refine TC_loop (γ := Unit) (fun _ => [(0, true, nilS), (2, true, .int .i64 0)]) (fun _ => St w0 η) (fun _ => 0) () ⟨rfl, rfl, trivial⟩ (fun _ h => h) ?_
  rintro ⟨⟩
  dsimp only [nilS]
  refine TC_seq ?_
  refine TC_seq ?_
  refine TC_reg ?_
  refine TL_q rfl rfl (QT_move rfl rfl rfl) ?_
  refine TL_q rfl rfl (QT_move rfl rfl rfl) ?_
  refine TL_q rfl rfl (QT_len rfl rfl Tryd.underlying37 rfl) ?_
  refine TL_q rfl rfl (QT_lss rfl rfl rfl rfl) ?_
  refine TL_nil ?_
  refine TX_then ?_
  refine TC_cond rfl (fun h => absurd (h.symm.trans ((show (_ : Bool) = false by rfl))) (by decide)) (fun _ => ?_)
  refine TC_exit ?_
  refine TX_then_exit ?_
  refine TX_then_exit ?_
  refine TX_block_here ?_
  exact TX_ret (.inr rfl) (res0 rfl) ⟨_, ⟨rfl, rfl⟩, fun _ h => h⟩
theorem marked_nil_fixes (w0 : Base) (η : Heap) : CallsT Tryd.prog 66 [nilS] (St w0 η) fun v A' => v = .bool true ∧ A' = St w0 η := by
  refine CallsT.body Tryd.func66 rfl rfl ?_
  simp only [Tryd.ntmps66, slotsOf, Nat.reduceAdd]
  refine TC_seq ?_
  refine TC_reg ?_
  refine TL_q rfl rfl (QT_assign rfl rfl rfl) ?_
  refine TL_nil ?_
  refine TX_then ?_
  refine TC_seq ?_
  refine TC_seq ?_
  refine TC_reg ?_
  refine TL_q rfl rfl (QT_assign rfl rfl rfl) ?_
  refine TL_nil ?_
  refine TX_then ?_
  refine TC_block ?_
  refine TC_loop (γ := Unit) (fun _ => [(0, true, nilS), (3, true, .int .i64 0)]) (fun _ => St w0 η) (fun _ => 0) () ⟨rfl, rfl, trivial⟩ (fun _ h => h) ?_
  rintro ⟨⟩
  dsimp only [nilS]
  refine TC_seq ?_
  refine TC_seq ?_
  refine TC_reg ?_
  refine TL_q rfl rfl (QT_move rfl rfl rfl) ?_
  refine TL_q rfl rfl (QT_move rfl rfl rfl) ?_
  refine TL_q rfl rfl (QT_len rfl rfl Tryd.underlying37 rfl) ?_
  refine TL_q rfl rfl (QT_lss rfl rfl rfl rfl) ?_
  refine TL_nil ?_
  refine TX_then ?_
  refine TC_cond rfl (fun h => absurd (h.symm.trans ((show (_ : Bool) = false by rfl))) (by decide)) (fun _ => ?_)
  refine TC_exit ?_
  refine TX_then_exit ?_
  refine TX_then_exit ?_
  refine TX_block_here ?_
  refine TX_then ?_
  refine TC_seq ?_
  refine TC_reg ?_
  refine TL_q rfl rfl (QT_assign rfl rfl rfl) ?_
  refine TL_nil ?_
  refine TX_then ?_
  refine TC_ret ?_
  exact TX_ret (.inl rfl) (res1 rfl rfl) ⟨_, ⟨rfl, rfl⟩, fun _ h => h⟩
theorem fill_nil_tris (w0 : Base) (η : Heap) : CallsT Tryd.prog 42 [nilS] (St w0 η) fun v A' => v = .tuple #[] ∧ A' = St w0 η := by
  refine CallsT.body Tryd.func42 rfl rfl ?_
  simp only [Tryd.ntmps42, slotsOf, Nat.reduceAdd]
  refine TC_seq ?_
  refine TC_reg ?_
  refine TL_q rfl rfl (QT_assign rfl rfl rfl) ?_
  refine TL_nil ?_
  refine TX_then ?_
  refine TC_block ?_
  refine TC_loop (γ := Unit) (fun _ => [(0, true, nilS), (2, true, .int .i64 0)]) (fun _ => St w0 η) (fun _ => 0) () ⟨rfl, rfl, trivial⟩ (fun _ h => h) ?_
  rintro ⟨⟩
  dsimp only [nilS]
  refine TC_seq ?_
  refine TC_seq ?_
  refine TC_reg ?_
  refine TL_q rfl rfl (QT_move rfl rfl rfl) ?_
  refine TL_q rfl rfl (QT_move rfl rfl rfl) ?_
  refine TL_q rfl rfl (QT_len rfl rfl Tryd.underlying39 rfl) ?_
  refine TL_q rfl rfl (QT_lss rfl rfl rfl rfl) ?_
  refine TL_nil ?_
  refine TX_then ?_
  refine TC_cond rfl (fun h => absurd (h.symm.trans ((show (_ : Bool) = false by rfl))) (by decide)) (fun _ => ?_)
  refine TC_exit ?_
  refine TX_then_exit ?_
  refine TX_then_exit ?_
  refine TX_block_here ?_
  exact TX_ret (.inr rfl) (res0 rfl) ⟨_, ⟨rfl, rfl⟩, fun _ h => h⟩
theorem grow_nil_tris (w0 : Base) (η : Heap) : CallsT Tryd.prog 55 [nilS] (St w0 η) fun v A' => v = .tuple #[] ∧ A' = St w0 η := by
  refine CallsT.body Tryd.func55 rfl rfl ?_
  simp only [Tryd.ntmps55, slotsOf, Nat.reduceAdd]
  refine TC_seq ?_
  refine TC_reg ?_
  refine TL_q rfl rfl (QT_assign rfl rfl rfl) ?_
  refine TL_nil ?_
  refine TX_then ?_
  refine TC_block ?_
  refine TC_loop (γ := Unit) (fun _ => [(0, true, nilS), (2, true, .int .i64 0)]) (fun _ => St w0 η) (fun _ => 0) () ⟨rfl, rfl, trivial⟩ (fun _ h => h) ?_
  rintro ⟨⟩
  dsimp only [nilS]
  refine TC_seq ?_
  refine TC_seq ?_
  refine TC_reg ?_
  refine TL_q rfl rfl (QT_move rfl rfl rfl) ?_
  refine TL_q rfl rfl (QT_move rfl rfl rfl) ?_
  refine TL_q rfl rfl (QT_len rfl rfl Tryd.underlying39 rfl) ?_
  refine TL_q rfl rfl (QT_lss rfl rfl rfl rfl) ?_
  refine TL_nil ?_
  refine TX_then ?_
  refine TC_cond rfl (fun h => absurd (h.symm.trans ((show (_ : Bool) = false by rfl))) (by decide)) (fun _ => ?_)
  refine TC_exit ?_
  refine TX_then_exit ?_
  refine TX_then_exit ?_
  refine TX_block_here ?_
  exact TX_ret (.inr rfl) (res0 rfl) ⟨_, ⟨rfl, rfl⟩, fun _ h => h⟩
theorem marked_nil_tris (w0 : Base) (η : Heap) : CallsT Tryd.prog 68 [nilS] (St w0 η) fun v A' => v = .bool true ∧ A' = St w0 η := by
  refine CallsT.body Tryd.func68 rfl rfl ?_
  simp only [Tryd.ntmps68, slotsOf, Nat.reduceAdd]
  refine TC_seq ?_
  refine TC_reg ?_
  refine TL_q rfl rfl (QT_assign rfl rfl rfl) ?_
  refine TL_nil ?_
  refine TX_then ?_
  refine TC_seq ?_
  refine TC_seq ?_
  refine TC_reg ?_
  refine TL_q rfl rfl (QT_assign rfl rfl rfl) ?_
  refine TL_nil ?_
  refine TX_then ?_
  refine TC_block ?_
  refine TC_loop (γ := Unit) (fun _ => [(0, true, nilS), (3, true, .int .i64 0)]) (fun _ => St w0 η) (fun _ => 0) () ⟨rfl, rfl, trivial⟩ (fun _ h => h) ?_
  rintro ⟨⟩
  dsimp only [nilS]
  refine TC_seq ?_
  refine TC_seq ?_
  refine TC_reg ?_
  refine TL_q rfl rfl (QT_move rfl rfl rfl) ?_
  refine TL_q rfl rfl (QT_move rfl rfl rfl) ?_
  refine TL_q rfl rfl (QT_len rfl rfl Tryd.underlying39 rfl) ?_
  refine TL_q rfl rfl (QT_lss rfl rfl rfl rfl) ?_
  refine TL_nil ?_
  refine TX_then ?_
  refine TC_cond rfl (fun h => absurd (h.symm.trans ((show (_ : Bool) = false by rfl))) (by decide)) (fun _ => ?_)
  refine TC_exit ?_
  refine TX_then_exit ?_
  refine TX_then_exit ?_
  refine TX_block_here ?_
  refine TX_then ?_
  refine TC_seq ?_
  refine TC_reg ?_
  refine TL_q rfl rfl (QT_assign rfl rfl rfl) ?_
  refine TL_nil ?_
  refine TX_then ?_
  refine TC_ret ?_
  exact TX_ret (.inl rfl) (res1 rfl rfl) ⟨_, ⟨rfl, rfl⟩, fun _ h => h⟩
theorem fill_nil_sheets (w0 : Base) (η : Heap) : CallsT Tryd.prog 43 [nilS] (St w0 η) fun v A' => v = .tuple #[] ∧ A' = St w0 η := by
  refine CallsT.body Tryd.func43 rfl rfl ?_
  simp only [Tryd.ntmps43, slotsOf, Nat.reduceAdd]
  refine TC_seq ?_
  refine TC_reg ?_
  refine TL_q rfl rfl (QT_assign rfl rfl rfl) ?_
  refine TL_nil ?_
  refine TX_then ?_
  refine TC_block ?_
  refine TC_loop (γ := Unit) (fun _ => [(0, true, nilS), (2, true, .int .i64 0)]) (fun _ => St w0 η) (fun _ => 0) () ⟨rfl, rfl, trivial⟩ (fun _ h => h) ?_
  rintro ⟨⟩
  dsimp only [nilS]
  refine TC_seq ?_
  refine TC_seq ?_
  refine TC_reg ?_
  refine TL_q rfl rfl (QT_move rfl rfl rfl) ?_
  refine TL_q rfl rfl (QT_move rfl rfl rfl) ?_
  refine TL_q rfl rfl (QT_len rfl rfl Tryd.underlying40 rfl) ?_
  refine TL_q rfl rfl (QT_lss rfl rfl rfl rfl) ?_
  refine TL_nil ?_
  refine TX_then ?_
  refine TC_cond rfl (fun h => absurd (h.symm.trans ((show (_ : Bool) = false by rfl))) (by decide)) (fun _ => ?_)
  refine TC_exit ?_
  refine TX_then_exit ?_
  refine TX_then_exit ?_
  refine TX_block_here ?_
  exact TX_ret (.inr rfl) (res0 rfl) ⟨_, ⟨rfl, rfl⟩, fun _ h => h⟩
theorem grow_nil_sheets (w0 : Base) (η : Heap) : CallsT Tryd.prog 56 [nilS] (St w0 η) fun v A' => v = .tuple #[] ∧ A' = St w0 η := by
  refine CallsT.body Tryd.func56 rfl rfl ?_
  simp only [Tryd.ntmps56, slotsOf, Nat.reduceAdd]
  refine TC_seq ?_
  refine TC_reg ?_
  refine TL_q rfl rfl (QT_assign rfl rfl rfl) ?_
  refine TL_nil ?_
  refine TX_then ?_
  refine TC_block ?_
  refine TC_loop (γ := Unit) (fun _ => [(0, true, nilS), (2, true, .int .i64 0)]) (fun _ => St w0 η) (fun _ => 0) () ⟨rfl, rfl, trivial⟩ (fun _ h => h) ?_
  rintro ⟨⟩
  dsimp only [nilS]
  refine TC_seq ?_
  refine TC_seq ?_
  refine TC_reg ?_
  refine TL_q rfl rfl (QT_move rfl rfl rfl) ?_
  refine TL_q rfl rfl (QT_move rfl rfl rfl) ?_
  refine TL_q rfl rfl (QT_len rfl rfl Tryd.underlying40 rfl) ?_
  refine TL_q rfl rfl (QT_lss rfl rfl rfl rfl) ?_
  refine TL_nil ?_
  refine TX_then ?_
  refine TC_cond rfl (fun h => absurd (h.symm.trans ((show (_ : Bool) = false by rfl))) (by decide)) (fun _ => ?_)
  refine TC_exit ?_
  refine TX_then_exit ?_
  refine TX_then_exit ?_
  refine TX_block_here ?_
  exact TX_ret (.inr rfl) (res0 rfl) ⟨_, ⟨rfl, rfl⟩, fun _ h => h⟩
theorem marked_nil_sheets (w0 : Base) (η : Heap) : CallsT Tryd.prog 69 [nilS] (St w0 η) fun v A' => v = .bool true ∧ A' = St w0 η := by
  refine CallsT.body Tryd.func69 rfl rfl ?_
  simp only [Tryd.ntmps69, slotsOf, Nat.reduceAdd]
  refine TC_seq ?_
  refine TC_reg ?_
  refine TL_q rfl rfl (QT_assign rfl rfl rfl) ?_
  refine TL_nil ?_
  refine TX_then ?_
  refine TC_seq ?_
  refine TC_seq ?_
  refine TC_reg ?_
  refine TL_q rfl rfl (QT_assign rfl rfl rfl) ?_
  refine TL_nil ?_
  refine TX_then ?_
  refine TC_block ?_
  refine TC_loop (γ := Unit) (fun _ => [(0, true, nilS), (3, true, .int .i64 0)]) (fun _ => St w0 η) (fun _ => 0) () ⟨rfl, rfl, trivial⟩ (fun _ h => h) ?_
  rintro ⟨⟩
  dsimp only [nilS]
  refine TC_seq ?_
  refine TC_seq ?_
  refine TC_reg ?_
  refine TL_q rfl rfl (QT_move rfl rfl rfl) ?_
  refine TL_q rfl rfl (QT_move rfl rfl rfl) ?_
  refine TL_q rfl rfl (QT_len rfl rfl Tryd.underlying40 rfl) ?_
  refine TL_q rfl rfl (QT_lss rfl rfl rfl rfl) ?_
  refine TL_nil ?_
  refine TX_then ?_
  refine TC_cond rfl (fun h => absurd (h.symm.trans ((show (_ : Bool) = false by rfl))) (by decide)) (fun _ => ?_)
  refine TC_exit ?_
  refine TX_then_exit ?_
  refine TX_then_exit ?_
  refine TX_block_here ?_
  refine TX_then ?_
  refine TC_seq ?_
  refine TC_reg ?_
  refine TL_q rfl rfl (QT_assign rfl rfl rfl) ?_
  refine TL_nil ?_
  refine TX_then ?_
  refine TC_ret ?_
  exact TX_ret (.inl rfl) (res1 rfl rfl) ⟨_, ⟨rfl, rfl⟩, fun _ h => h⟩
theorem fill_nil_tiles (w0 : Base) (η : Heap) : CallsT Tryd.prog 44 [nilS] (St w0 η) fun v A' => v = .tuple #[] ∧ A' = St w0 η := by
  refine CallsT.body Tryd.func44 rfl rfl ?_
  simp only [Tryd.ntmps44, slotsOf, Nat.reduceAdd]
  refine TC_seq ?_
  refine TC_reg ?_
  refine TL_q rfl rfl (QT_assign rfl rfl rfl) ?_
  refine TL_nil ?_
  refine TX_then ?_
  refine TC_block ?_
  refine TC_loop (γ := Unit) (fun _ => [(0, true, nilS), (2, true, .int .i64 0)]) (fun _ => St w0 η) (fun _ => 0) () ⟨rfl, rfl, trivial⟩ (fun _ h => h) ?_
  rintro ⟨⟩
  dsimp only [nilS]
  refine TC_seq ?_
  refine TC_seq ?_
  refine TC_reg ?_
  refine TL_q rfl rfl (QT_move rfl rfl rfl) ?_
  refine TL_q rfl rfl (QT_move rfl rfl rfl) ?_
  refine TL_q rfl rfl (QT_len rfl rfl Tryd.underlying41 rfl) ?_
  refine TL_q rfl rfl (QT_lss rfl rfl rfl rfl) ?_
  refine TL_nil ?_
  refine TX_then ?_
  refine TC_cond rfl (fun h => absurd (h.symm.trans ((show (_ : Bool) = false by rfl))) (by decide)) (fun _ => ?_)
  refine TC_exit ?_
  refine TX_then_exit ?_
  refine TX_then_exit ?_
  refine TX_block_here ?_
  exact TX_ret (.inr rfl) (res0 rfl) ⟨_, ⟨rfl, rfl⟩, fun _ h => h⟩
theorem grow_nil_tiles (w0 : Base) (η : Heap) : CallsT Tryd.prog 57 [nilS] (St w0 η) fun v A' => v = .tuple #[] ∧ A' = St w0 η := by
  refine CallsT.body Tryd.func57 rfl rfl ?_
  simp only [Tryd.ntmps57, slotsOf, Nat.reduceAdd]
  refine TC_seq ?_
  refine TC_reg ?_
  refine TL_q rfl rfl (QT_assign rfl rfl rfl) ?_
  refine TL_nil ?_
  refine TX_then ?_
  refine TC_block ?_
  refine TC_loop (γ := Unit) (fun _ => [(0, true, nilS), (2, true, .int .i64 0)]) (fun _ => St w0 η) (fun _ => 0) () ⟨rfl, rfl, trivial⟩ (fun _ h => h) ?_
  rintro ⟨⟩
  dsimp only [nilS]
  refine TC_seq ?_
  refine TC_seq ?_
  refine TC_reg ?_
  refine TL_q rfl rfl (QT_move rfl rfl rfl) ?_
  refine TL_q rfl rfl (QT_move rfl rfl rfl) ?_
  refine TL_q rfl rfl (QT_len rfl rfl Tryd.underlying41 rfl) ?_
  refine TL_q rfl rfl (QT_lss rfl rfl rfl rfl) ?_
  refine TL_nil ?_
  refine TX_then ?_
  refine TC_cond rfl (fun h => absurd (h.symm.trans ((show (_ : Bool) = false by rfl))) (by decide)) (fun _ => ?_)
  refine TC_exit ?_
  refine TX_then_exit ?_
  refine TX_then_exit ?_
  refine TX_block_here ?_
  exact TX_ret (.inr rfl) (res0 rfl) ⟨_, ⟨rfl, rfl⟩, fun _ h => h⟩
theorem marked_nil_tiles (w0 : Base) (η : Heap) : CallsT Tryd.prog 70 [nilS] (St w0 η) fun v A' => v = .bool true ∧ A' = St w0 η := by
  refine CallsT.body Tryd.func70 rfl rfl ?_
  simp only [Tryd.ntmps70, slotsOf, Nat.reduceAdd]
  refine TC_seq ?_
  refine TC_reg ?_
  refine TL_q rfl rfl (QT_assign rfl rfl rfl) ?_
  refine TL_nil ?_
  refine TX_then ?_
  refine TC_seq ?_
  refine TC_seq ?_
  refine TC_reg ?_
  refine TL_q rfl rfl (QT_assign rfl rfl rfl) ?_
  refine TL_nil ?_
  refine TX_then ?_
  refine TC_block ?_
  refine TC_loop (γ := Unit) (fun _ => [(0, true, nilS), (3, true, .int .i64 0)]) (fun _ => St w0 η) (fun _ => 0) () ⟨rfl, rfl, trivial⟩ (fun _ h => h) ?_
  rintro ⟨⟩
  dsimp only [nilS]
  refine TC_seq ?_
  refine TC_seq ?_
  refine TC_reg ?_
  refine TL_q rfl rfl (QT_move rfl rfl rfl) ?_
  refine TL_q rfl rfl (QT_move rfl rfl rfl) ?_
  refine TL_q rfl rfl (QT_len rfl rfl Tryd.underlying41 rfl) ?_
  refine TL_q rfl rfl (QT_lss rfl rfl rfl rfl) ?_
  refine TL_nil ?_
  refine TX_then ?_
  refine TC_cond rfl (fun h => absurd (h.symm.trans ((show (_ : Bool) = false by rfl))) (by decide)) (fun _ => ?_)
  refine TC_exit ?_
  refine TX_then_exit ?_
  refine TX_then_exit ?_
  refine TX_block_here ?_
  refine TX_then ?_
  refine TC_seq ?_
  refine TC_reg ?_
  refine TL_q rfl rfl (QT_assign rfl rfl rfl) ?_
  refine TL_nil ?_
  refine TX_then ?_
  refine TC_ret ?_
  exact TX_ret (.inl rfl) (res1 rfl rfl) ⟨_, ⟨rfl, rfl⟩, fun _ h => h⟩
theorem fill_nil_dots (w0 : Base) (η : Heap) : CallsT Tryd.prog 45 [nilS] (St w0 η) fun v A' => v = .tuple #[] ∧ A' = St w0 η := by
  refine CallsT.body Tryd.func45 rfl rfl ?_
  simp only [Tryd.ntmps45, slotsOf, Nat.reduceAdd]
  refine TC_seq ?_
  refine TC_reg ?_
  refine TL_q rfl rfl (QT_assign rfl rfl rfl) ?_
  refine TL_nil ?_
  refine TX_then ?_
  refine TC_block ?_
  refine TC_loop (γ := Unit) (fun _ => [(0, true, nilS), (2, true, .int .i64 0)]) (fun _ => St w0 η) (fun _ => 0) () ⟨rfl, rfl, trivial⟩ (fun _ h => h) ?_
  rintro ⟨⟩
  dsimp only [nilS]
  refine TC_seq ?_
  refine TC_seq ?_
  refine TC_reg ?_
  refine TL_q rfl rfl (QT_move rfl rfl rfl) ?_
  refine TL_q rfl rfl (QT_move rfl rfl rfl) ?_
  refine TL_q rfl rfl (QT_len rfl rfl Tryd.underlying42 rfl) ?_
  refine TL_q rfl rfl (QT_lss rfl rfl rfl rfl) ?_
  refine TL_nil ?_
  refine TX_then ?_
  refine TC_cond rfl (fun h => absurd (h.symm.trans ((show (_ : Bool) = false by rfl))) (by decide)) (fun _ => ?_)
  refine TC_exit ?_
  refine TX_then_exit ?_
  refine TX_then_exit ?_
  refine TX_block_here ?_
  exact TX_ret (.inr rfl) (res0 rfl) ⟨_, ⟨rfl, rfl⟩, fun _ h => h⟩
theorem grow_nil_dots (w0 : Base) (η : Heap) : CallsT Tryd.prog 58 [nilS] (St w0 η) fun v A' => v = .tuple #[] ∧ A' = St w0 η := by
  refine CallsT.body Tryd.func58 rfl rfl ?_
  simp only [Tryd.ntmps58, slotsOf, Nat.reduceAdd]
  refine TC_seq ?_
  refine TC_reg ?_
  refine TL_q rfl rfl (QT_assign rfl rfl rfl) ?_
  refine TL_nil ?_
  refine TX_then ?_
  refine TC_block ?_
  refine TC_loop (γ := Unit) (fun _ => [(0, true, nilS), (2, true, .int .i64 0)]) (fun _ => St w0 η) (fun _ => 0) () ⟨rfl, rfl, trivial⟩ (fun _ h => h) ?_
  rintro ⟨⟩
  dsimp only [nilS]
  refine TC_seq ?_
  refine TC_seq ?_
  refine TC_reg ?_
  refine TL_q rfl rfl (QT_move rfl rfl rfl) ?_
  refine TL_q rfl rfl (QT_move rfl rfl rfl) ?_
  refine TL_q rfl rfl (QT_len rfl rfl Tryd.underlying42 rfl) ?_
  refine TL_q rfl rfl (QT_lss rfl rfl rfl rfl) ?_
  refine TL_nil ?_
  refine TX_then ?_
  refine TC_cond rfl (fun h => absurd (h.symm.trans ((show (_ : Bool) = false by rfl))) (by decide)) (fun _ => ?_)
  refine TC_exit ?_
  refine TX_then_exit ?_
  refine TX_then_exit ?_
  refine TX_block_here ?_
  exact TX_ret (.inr rfl) (res0 rfl) ⟨_, ⟨rfl, rfl⟩, fun _ h => h⟩
theorem marked_nil_dots (w0 : Base) (η : Heap) : CallsT Tryd.prog 71 [nilS] (St w0 η) fun v A' => v = .bool true ∧ A' = St w0 η := by
  refine CallsT.body Tryd.func71 rfl rfl ?_
  simp only [Tryd.ntmps71, slotsOf, Nat.reduceAdd]
  refine TC_seq ?_
  refine TC_reg ?_
  refine TL_q rfl rfl (QT_assign rfl rfl rfl) ?_
  refine TL_nil ?_
  refine TX_then ?_
  refine TC_seq ?_
  refine TC_seq ?_
  refine TC_reg ?_
  refine TL_q rfl rfl (QT_assign rfl rfl rfl) ?_
  refine TL_nil ?_
  refine TX_then ?_
  refine TC_block ?_
  refine TC_loop (γ := Unit) (fun _ => [(0, true, nilS), (3, true, .int .i64 0)]) (fun _ => St w0 η) (fun _ => 0) () ⟨rfl, rfl, trivial⟩ (fun _ h => h) ?_
  rintro ⟨⟩
  dsimp only [nilS]
  refine TC_seq ?_
  refine TC_seq ?_
  refine TC_reg ?_
  refine TL_q rfl rfl (QT_move rfl rfl rfl) ?_
  refine TL_q rfl rfl (QT_move rfl rfl rfl) ?_
  refine TL_q rfl rfl (QT_len rfl rfl Tryd.underlying42 rfl) ?_
  refine TL_q rfl rfl (QT_lss rfl rfl rfl rfl) ?_
  refine TL_nil ?_
  refine TX_then ?_
  refine TC_cond rfl (fun h => absurd (h.symm.trans ((show (_ : Bool) = false by rfl))) (by decide)) (fun _ => ?_)
  refine TC_exit ?_
  refine TX_then_exit ?_
  refine TX_then_exit ?_
  refine TX_block_here ?_
  refine TX_then ?_
  refine TC_seq ?_
  refine TC_reg ?_
  refine TL_q rfl rfl (QT_assign rfl rfl rfl) ?_
  refine TL_nil ?_
  refine TX_then ?_
  refine TC_ret ?_
  exact TX_ret (.inl rfl) (res1 rfl rfl) ⟨_, ⟨rfl, rfl⟩, fun _ h => h⟩
theorem fill_nil_facets (w0 : Base) (η : Heap) : CallsT Tryd.prog 46 [nilS] (St w0 η) fun v A' => v = .tuple #[] ∧ A' = St w0 η := by
  refine CallsT.body Tryd.func46 rfl rfl ?_
  simp only [Tryd.ntmps46, slotsOf, Nat.reduceAdd]
  refine TC_seq ?_
  refine TC_reg ?_
  refine TL_q rfl rfl (QT_assign rfl rfl rfl) ?_
  refine TL_nil ?_
  refine TX_then ?_
  refine TC_block ?_
  refine TC_loop (γ := Unit) (fun _ => [(0, true, nilS), (2, true, .int .i64 0)]) (fun _ => St w0 η) (fun _ => 0) () ⟨rfl, rfl, trivial⟩ (fun _ h => h) ?_
  rintro ⟨⟩
  dsimp only [nilS]
  refine TC_seq ?_
  refine TC_seq ?_
  refine TC_reg ?_
  refine TL_q rfl rfl (QT_move rfl rfl rfl) ?_
  refine TL_q rfl rfl (QT_move rfl rfl rfl) ?_
  refine TL_q rfl rfl (QT_len rfl rfl Tryd.underlying43 rfl) ?_
  refine TL_q rfl rfl (QT_lss rfl rfl rfl rfl) ?_
  refine TL_nil ?_
  refine TX_then ?_
  refine TC_cond rfl (fun h => absurd (h.symm.trans ((show (_ : Bool) = false by rfl))) (by decide)) (fun _ => ?_)
  refine TC_exit ?_
  refine TX_then_exit ?_
  refine TX_then_exit ?_
  refine TX_block_here ?_
  exact TX_ret (.inr rfl) (res0 rfl) ⟨_, ⟨rfl, rfl⟩, fun _ h => h⟩
theorem grow_nil_facets (w0 : Base) (η : Heap) : CallsT Tryd.prog 59 [nilS] (St w0 η) fun v A' => v = .tuple #[] ∧ A' = St w0 η := by
  refine CallsT.body Tryd.func59 rfl rfl ?_
  simp only [Tryd.ntmps59, slotsOf, Nat.reduceAdd]
  refine TC_seq ?_
  refine TC_reg ?_
  refine TL_q rfl rfl (QT_assign rfl rfl rfl) ?_
  refine TL_nil ?_
  refine TX_then ?_
  refine TC_block ?_
  refine TC_loop (γ := Unit) (fun _ => [(0, true, nilS), (2, true, .int .i64 0)]) (fun _ => St w0 η) (fun _ => 0) () ⟨rfl, rfl, trivial⟩ (fun _ h => h) ?_
  rintro ⟨⟩
  dsimp only [nilS]
  refine TC_seq ?_
  refine TC_seq ?_
  refine TC_reg ?_
  refine TL_q rfl rfl (QT_move rfl rfl rfl) ?_
  refine TL_q rfl rfl (QT_move rfl rfl rfl) ?_
  refine TL_q rfl rfl (QT_len rfl rfl Tryd.underlying43 rfl) ?_
  refine TL_q rfl rfl (QT_lss rfl rfl rfl rfl) ?_
  refine TL_nil ?_
  refine TX_then ?_
  refine TC_cond rfl (fun h => absurd (h.symm.trans ((show (_ : Bool) = false by rfl))) (by decide)) (fun _ => ?_)
  refine TC_exit ?_
  refine TX_then_exit ?_
  refine TX_then_exit ?_
  refine TX_block_here ?_
  exact TX_ret (.inr rfl) (res0 rfl) ⟨_, ⟨rfl, rfl⟩, fun _ h => h⟩
theorem marked_nil_facets (w0 : Base) (η : Heap) : CallsT Tryd.prog 72 [nilS] (St w0 η) fun v A' => v = .bool true ∧ A' = St w0 η := by
  refine CallsT.body Tryd.func72 rfl rfl ?_
  simp only [Tryd.ntmps72, slotsOf, Nat.reduceAdd]
  refine TC_seq ?_
  refine TC_reg ?_
  refine TL_q rfl rfl (QT_assign rfl rfl rfl) ?_
  refine TL_nil ?_
  refine TX_then ?_
  refine TC_seq ?_
  refine TC_seq ?_
  refine TC_reg ?_
  refine TL_q rfl rfl (QT_assign rfl rfl rfl) ?_
  refine TL_nil ?_
  refine TX_then ?_
  refine TC_block ?_
  refine TC_loop (γ := Unit) (fun _ => [(0, true, nilS), (3, true, .int .i64 0)]) (fun _ => St w0 η) (fun _ => 0) () ⟨rfl, rfl, trivial⟩ (fun _ h => h) ?_
  rintro ⟨⟩
  dsimp only [nilS]
  refine TC_seq ?_
  refine TC_seq ?_
  refine TC_reg ?_
  refine TL_q rfl rfl (QT_move rfl rfl rfl) ?_
  refine TL_q rfl rfl (QT_move rfl rfl rfl) ?_
  refine TL_q rfl rfl (QT_len rfl rfl Tryd.underlying43 rfl) ?_
  refine TL_q rfl rfl (QT_lss rfl rfl rfl rfl) ?_
  refine TL_nil ?_
  refine TX_then ?_
  refine TC_cond rfl (fun h => absurd (h.symm.trans ((show (_ : Bool) = false by rfl))) (by decide)) (fun _ => ?_)
  refine TC_exit ?_
  refine TX_then_exit ?_
  refine TX_then_exit ?_
  refine TX_block_here ?_
  refine TX_then ?_
  refine TC_seq ?_
  refine TC_reg ?_
  refine TL_q rfl rfl (QT_assign rfl rfl rfl) ?_
  refine TL_nil ?_
  refine TX_then ?_
  refine TC_ret ?_
  exact TX_ret (.inl rfl) (res1 rfl rfl) ⟨_, ⟨rfl, rfl⟩, fun _ h => h⟩
theorem fill_nil_tokens (w0 : Base) (η : Heap) : CallsT Tryd.prog 47 [nilS] (St w0 η) fun v A' => v = .tuple #[] ∧ A' = St w0 η := by
  refine CallsT.body Tryd.func47 rfl rfl ?_
  simp only [Tryd.ntmps47, slotsOf, Nat.reduceAdd]
  refine TC_seq ?_
  refine TC_reg ?_
  refine TL_q rfl rfl (QT_assign rfl rfl rfl) ?_
  refine TL_nil ?_
  refine TX_then ?_
  refine TC_block ?_
  refine TC_loop (γ := Unit) (fun _ => [(0, true, nilS), (2, true, .int .i64 0)]) (fun _ => St w0 η) (fun _ => 0) () ⟨rfl, rfl, trivial⟩ (fun _ h => h) ?_
  rintro ⟨⟩
  dsimp only [nilS]
  refine TC_seq ?_
  refine TC_seq ?_
  refine TC_reg ?_
  refine TL_q rfl rfl (QT_move rfl rfl rfl) ?_
  refine TL_q rfl rfl (QT_move rfl rfl rfl) ?_
  refine TL_q rfl rfl (QT_len rfl rfl Tryd.underlying44 rfl) ?_
  refine TL_q rfl rfl (QT_lss rfl rfl rfl rfl) ?_
  refine TL_nil ?_
  refine TX_then ?_
  refine TC_cond rfl (fun h => absurd (h.symm.trans ((show (_ : Bool) = false by rfl))) (by decide)) (fun _ => ?_)
  refine TC_exit ?_
  refine TX_then_exit ?_
  refine TX_then_exit ?_
  refine TX_block_here ?_
  exact TX_ret (.inr rfl) (res0 rfl) ⟨_, ⟨rfl, rfl⟩, fun _ h => h⟩
theorem grow_nil_tokens (w0 : Base) (η : Heap) : CallsT Tryd.prog 60 [nilS] (St w0 η) fun v A' => v = .tuple #[] ∧ A' = St w0 η := by
  refine CallsT.body Tryd.func60 rfl rfl ?_
  simp only [Tryd.ntmps60, slotsOf, Nat.reduceAdd]
  refine TC_seq ?_
  refine TC_reg ?_
  refine TL_q rfl rfl (QT_assign rfl rfl rfl) ?_
  refine TL_nil ?_
  refine TX_then ?_
  refine TC_block ?_
  refine TC_loop (γ := Unit) (fun _ => [(0, true, nilS), (2, true, .int .i64 0)]) (fun _ => St w0 η) (fun _ => 0) () ⟨rfl, rfl, trivial⟩ (fun _ h => h) ?_
  rintro ⟨⟩
  dsimp only [nilS]
  refine TC_seq ?_
  refine TC_seq ?_
  refine TC_reg ?_
  refine TL_q rfl rfl (QT_move rfl rfl rfl) ?_
  refine TL_q rfl rfl (QT_move rfl rfl rfl) ?_
  refine TL_q rfl rfl (QT_len rfl rfl Tryd.underlying44 rfl) ?_
  refine TL_q rfl rfl (QT_lss rfl rfl rfl rfl) ?_
  refine TL_nil ?_
  refine TX_then ?_
  refine TC_cond rfl (fun h => absurd (h.symm.trans ((show (_ : Bool) = false by rfl))) (by decide)) (fun _ => ?_)
  refine TC_exit ?_
  refine TX_then_exit ?_
  refine TX_then_exit ?_
  refine TX_block_here ?_
  exact TX_ret (.inr rfl) (res0 rfl) ⟨_, ⟨rfl, rfl⟩, fun _ h => h⟩
theorem marked_nil_tokens (w0 : Base) (η : Heap) : CallsT Tryd.prog 73 [nilS] (St w0 η) fun v A' => v = .bool true ∧ A' = St w0 η := by
  refine CallsT.body Tryd.func73 rfl rfl ?_
  simp only [Tryd.ntmps73, slotsOf, Nat.reduceAdd]
  refine TC_seq ?_
  refine TC_reg ?_
  refine TL_q rfl rfl (QT_assign rfl rfl rfl) ?_
  refine TL_nil ?_
  refine TX_then ?_
  refine TC_seq ?_
  refine TC_seq ?_
  refine TC_reg ?_
  refine TL_q rfl rfl (QT_assign rfl rfl rfl) ?_
  refine TL_nil ?_
  refine TX_then ?_
  refine TC_block ?_
  refine TC_loop (γ := Unit) (fun _ => [(0, true, nilS), (3, true, .int .i64 0)]) (fun _ => St w0 η) (fun _ => 0) () ⟨rfl, rfl, trivial⟩ (fun _ h => h) ?_
  rintro ⟨⟩
  dsimp only [nilS]
  refine TC_seq ?_
  refine TC_seq ?_
  refine TC_reg ?_
  refine TL_q rfl rfl (QT_move rfl rfl rfl) ?_
  refine TL_q rfl rfl (QT_move rfl rfl rfl) ?_
  refine TL_q rfl rfl (QT_len rfl rfl Tryd.underlying44 rfl) ?_
  refine TL_q rfl rfl (QT_lss rfl rfl rfl rfl) ?_
  refine TL_nil ?_
  refine TX_then ?_
  refine TC_cond rfl (fun h => absurd (h.symm.trans ((show (_ : Bool) = false by rfl))) (by decide)) (fun _ => ?_)
  refine TC_exit ?_
  refine TX_then_exit ?_
  refine TX_then_exit ?_
  refine TX_block_here ?_
  refine TX_then ?_
  refine TC_seq ?_
  refine TC_reg ?_
  refine TL_q rfl rfl (QT_assign rfl rfl rfl) ?_
  refine TL_nil ?_
  refine TX_then ?_
  refine TC_ret ?_
  exact TX_ret (.inl rfl) (res1 rfl rfl) ⟨_, ⟨rfl, rfl⟩, fun _ h => h⟩
theorem fill_nil_codes (w0 : Base) (η : Heap) : CallsT Tryd.prog 48 [nilS] (St w0 η) fun v A' => v = .tuple #[] ∧ A' = St w0 η := by
  refine CallsT.body Tryd.func48 rfl rfl ?_
  simp only [Tryd.ntmps48, slotsOf, Nat.reduceAdd]
  refine TC_seq ?_
  refine TC_reg ?_
  refine TL_q rfl rfl (QT_assign rfl rfl rfl) ?_
  refine TL_nil ?_
  refine TX_then ?_
  refine TC_block ?_
  refine TC_loop (γ := Unit) (fun _ => [(0, true, nilS), (2, true, .int .i64 0)]) (fun _ => St w0 η) (fun _ => 0) () ⟨rfl, rfl, trivial⟩ (fun _ h => h) ?_
  rintro ⟨⟩
  dsimp only [nilS]
  refine TC_seq ?_
  refine TC_seq ?_
  refine TC_reg ?_
  refine TL_q rfl rfl (QT_move rfl rfl rfl) ?_
  refine TL_q rfl rfl (QT_move rfl rfl rfl) ?_
  refine TL_q rfl rfl (QT_len rfl rfl Tryd.underlying45 rfl) ?_
  refine TL_q rfl rfl (QT_lss rfl rfl rfl rfl) ?_
  refine TL_nil ?_
  refine TX_then ?_
  refine TC_cond rfl (fun h => absurd (h.symm.trans ((show (_ : Bool) = false by rfl))) (by decide)) (fun _ => ?_)
  refine TC_exit ?_
  refine TX_then_exit ?_
  refine TX_then_exit ?_
  refine TX_block_here ?_
  exact TX_ret (.inr rfl) (res0 rfl) ⟨_, ⟨rfl, rfl⟩, fun _ h => h⟩
theorem grow_nil_codes (w0 : Base) (η : Heap) : CallsT Tryd.prog 61 [nilS] (St w0 η) fun v A' => v = .tuple #[] ∧ A' = St w0 η := by
  refine CallsT.body Tryd.func61 rfl rfl ?_
  simp only [Tryd.ntmps61, slotsOf, Nat.reduceAdd]
  refine TC_seq ?_
  refine TC_reg ?_
  refine TL_q rfl rfl (QT_assign rfl rfl rfl) ?_
  refine TL_nil ?_
  refine TX_then ?_
  refine TC_block ?_
  refine TC_loop (γ := Unit) (fun _ => [(0, true, nilS), (2, true, .int .i64 0)]) (fun _ => St w0 η) (fun _ => 0) () ⟨rfl, rfl, trivial⟩ (fun _ h => h) ?_
  rintro ⟨⟩
  dsimp only [nilS]
  refine TC_seq ?_
  refine TC_seq ?_
  refine TC_reg ?_
  refine TL_q rfl rfl (QT_move rfl rfl rfl) ?_
  refine TL_q rfl rfl (QT_move rfl rfl rfl) ?_
  refine TL_q rfl rfl (QT_len rfl rfl Tryd.underlying45 rfl) ?_
  refine TL_q rfl rfl (QT_lss rfl rfl rfl rfl) ?_
  refine TL_nil ?_
  refine TX_then ?_
  refine TC_cond rfl (fun h => absurd (h.symm.trans ((show (_ : Bool) = false by rfl))) (by decide)) (fun _ => ?_)
  refine TC_exit ?_
  refine TX_then_exit ?_
  refine TX_then_exit ?_
  refine TX_block_here ?_
  exact TX_ret (.inr rfl) (res0 rfl) ⟨_, ⟨rfl, rfl⟩, fun _ h => h⟩
theorem marked_nil_codes (w0 : Base) (η : Heap) : CallsT Tryd.prog 74 [nilS] (St w0 η) fun v A' => v = .bool true ∧ A' = St w0 η := by
  refine CallsT.body Tryd.func74 rfl rfl ?_
  simp only [Tryd.ntmps74, slotsOf, Nat.reduceAdd]
  refine TC_seq ?_
  refine TC_reg ?_
  refine TL_q rfl rfl (QT_assign rfl rfl rfl) ?_
  refine TL_nil ?_
  refine TX_then ?_
  refine TC_seq ?_
  refine TC_seq ?_
  refine TC_reg ?_
  refine TL_q rfl rfl (QT_assign rfl rfl rfl) ?_
  refine TL_nil ?_
  refine TX_then ?_
  refine TC_block ?_
  refine TC_loop (γ := Unit) (fun _ => [(0, true, nilS), (3, true, .int .i64 0)]) (fun _ => St w0 η) (fun _ => 0) () ⟨rfl, rfl, trivial⟩ (fun _ h => h) ?_
  rintro ⟨⟩
  dsimp only [nilS]
  refine TC_seq ?_
  refine TC_seq ?_
  refine TC_reg ?_
  refine TL_q rfl rfl (QT_move rfl rfl rfl) ?_
  refine TL_q rfl rfl (QT_move rfl rfl rfl) ?_
  refine TL_q rfl rfl (QT_len rfl rfl Tryd.underlying45 rfl) ?_
  refine TL_q rfl rfl (QT_lss rfl rfl rfl rfl) ?_
  refine TL_nil ?_
  refine TX_then ?_
  refine TC_cond rfl (fun h => absurd (h.symm.trans ((show (_ : Bool) = false by rfl))) (by decide)) (fun _ => ?_)
  refine TC_exit ?_
  refine TX_then_exit ?_
  refine TX_then_exit ?_
  refine TX_block_here ?_
  refine TX_then ?_
  refine TC_seq ?_
  refine TC_reg ?_
  refine TL_q rfl rfl (QT_assign rfl rfl rfl) ?_
  refine TL_nil ?_
  refine TX_then ?_
  refine TC_ret ?_
  exact TX_ret (.inl rfl) (res1 rfl rfl) ⟨_, ⟨rfl, rfl⟩, fun _ h => h⟩
theorem fill_nil_vals (w0 : Base) (η : Heap) : CallsT Tryd.prog 49 [nilS] (St w0 η) fun v A' => v = .tuple #[] ∧ A' = St w0 η := by
  refine CallsT.body Tryd.func49 rfl rfl ?_
  simp only [Tryd.ntmps49, slotsOf, Nat.reduceAdd]
  refine TC_seq ?_
  refine TC_reg ?_
  refine TL_q rfl rfl (QT_assign rfl rfl rfl) ?_
  refine TL_nil ?_
  refine TX_then ?_
  refine TC_block ?_
  refine TC_loop (γ := Unit) (fun _ => [(0, true, nilS), (2, true, .int .i64 0)]) (fun _ => St w0 η) (fun _ => 0) () ⟨rfl, rfl, trivial⟩ (fun _ h => h) ?_
  rintro ⟨⟩
  dsimp only [nilS]
  refine TC_seq ?_
  refine TC_seq ?_
  refine TC_reg ?_
  refine TL_q rfl rfl (QT_move rfl rfl rfl) ?_
  refine TL_q rfl rfl (QT_move rfl rfl rfl) ?_
  refine TL_q rfl rfl (QT_len rfl rfl Tryd.underlying46 rfl) ?_
  refine TL_q rfl rfl (QT_lss rfl rfl rfl rfl) ?_
  refine TL_nil ?_
  refine TX_then ?_
  refine TC_cond rfl (fun h => absurd (h.symm.trans ((show (_ : Bool) = false by rfl))) (by decide)) (fun _ => ?_)
  refine TC_exit ?_
  refine TX_then_exit ?_
  refine TX_then_exit ?_
  refine TX_block_here ?_
  exact TX_ret (.inr rfl) (res0 rfl) ⟨_, ⟨rfl, rfl⟩, fun _ h => h⟩
theorem grow_nil_vals (w0 : Base) (η : Heap) : CallsT Tryd.prog 62 [nilS] (St w0 η) fun v A' => v = .tuple #[] ∧ A' = St w0 η := by
  refine CallsT.body Tryd.func62 rfl rfl ?_
  simp only [Tryd.ntmps62, slotsOf, Nat.reduceAdd]
  refine TC_seq ?_
  refine TC_reg ?_
  refine TL_q rfl rfl (QT_assign rfl rfl rfl) ?_
  refine TL_nil ?_
  refine TX_then ?_
  refine TC_block ?_
  refine TC_loop (γ := Unit) (fun _ => [(0, true, nilS), (2, true, .int .i64 0)]) (fun _ => St w0 η) (fun _ => 0) () ⟨rfl, rfl, trivial⟩ (fun _ h => h) ?_
  rintro ⟨⟩
  dsimp only [nilS]
  refine TC_seq ?_
  refine TC_seq ?_
  refine TC_reg ?_
  refine TL_q rfl rfl (QT_move rfl rfl rfl) ?_
  refine TL_q rfl rfl (QT_move rfl rfl rfl) ?_
  refine TL_q rfl rfl (QT_len rfl rfl Tryd.underlying46 rfl) ?_
  refine TL_q rfl rfl (QT_lss rfl rfl rfl rfl) ?_
  refine TL_nil ?_
  refine TX_then ?_
  refine TC_cond rfl (fun h => absurd (h.symm.trans ((show (_ : Bool) = false by rfl))) (by decide)) (fun _ => ?_)
  refine TC_exit ?_
  refine TX_then_exit ?_
  refine TX_then_exit ?_
  refine TX_block_here ?_
  exact TX_ret (.inr rfl) (res0 rfl) ⟨_, ⟨rfl, rfl⟩, fun _ h => h⟩
theorem marked_nil_vals (w0 : Base) (η : Heap) : CallsT Tryd.prog 75 [nilS] (St w0 η) fun v A' => v = .bool true ∧ A' = St w0 η := by
  refine CallsT.body Tryd.func75 rfl rfl ?_
  simp only [Tryd.ntmps75, slotsOf, Nat.reduceAdd]
  refine TC_seq ?_
  refine TC_reg ?_
  refine TL_q rfl rfl (QT_assign rfl rfl rfl) ?_
  refine TL_nil ?_
  refine TX_then ?_
  refine TC_seq ?_
  refine TC_seq ?_
  refine TC_reg ?_
  refine TL_q rfl rfl (QT_assign rfl rfl rfl) ?_
  refine TL_nil ?_
  refine TX_then ?_
  refine TC_block ?_
  refine TC_loop (γ := Unit) (fun _ => [(0, true, nilS), (3, true, .int .i64 0)]) (fun _ => St w0 η) (fun _ => 0) () ⟨rfl, rfl, trivial⟩ (fun _ h => h) ?_
  rintro ⟨⟩
  dsimp only [nilS]
  refine TC_seq ?_
  refine TC_seq ?_
  refine TC_reg ?_
  refine TL_q rfl rfl (QT_move rfl rfl rfl) ?_
  refine TL_q rfl rfl (QT_move rfl rfl rfl) ?_
  refine TL_q rfl rfl (QT_len rfl rfl Tryd.underlying46 rfl) ?_
  refine TL_q rfl rfl (QT_lss rfl rfl rfl rfl) ?_
  refine TL_nil ?_
  refine TX_then ?_
  refine TC_cond rfl (fun h => absurd (h.symm.trans ((show (_ : Bool) = false by rfl))) (by decide)) (fun _ => ?_)
  refine TC_exit ?_
  refine TX_then_exit ?_
  refine TX_then_exit ?_
  refine TX_block_here ?_
  refine TX_then ?_
  refine TC_seq ?_
  refine TC_reg ?_
  refine TL_q rfl rfl (QT_assign rfl rfl rfl) ?_
  refine TL_nil ?_
  refine TX_then ?_
  refine TC_ret ?_
  exact TX_ret (.inl rfl) (res1 rfl rfl) ⟨_, ⟨rfl, rfl⟩, fun _ h => h⟩
theorem fill_nil_spots (w0 : Base) (η : Heap) : CallsT Tryd.prog 50 [nilS] (St w0 η) fun v A' => v = .tuple #[] ∧ A' = St w0 η := by
  refine CallsT.body Tryd.func50 rfl rfl ?_
  simp only [Tryd.ntmps50, slotsOf, Nat.reduceAdd]
  refine TC_seq ?_
  refine TC_reg ?_
  refine TL_q rfl rfl (QT_assign rfl rfl rfl) ?_
  refine TL_nil ?_
  refine TX_then ?_
  refine TC_block ?_
  refine TC_loop (γ := Unit) (fun _ => [(0, true, nilS), (2, true, .int .i64 0)]) (fun _ => St w0 η) (fun _ => 0) () ⟨rfl, rfl, trivial⟩ (fun _ h => h) ?_
  rintro ⟨⟩
  dsimp only [nilS]
  refine TC_seq ?_
  refine TC_seq ?_
  refine TC_reg ?_
  refine TL_q rfl rfl (QT_move rfl rfl rfl) ?_
  refine TL_q rfl rfl (QT_move rfl rfl rfl) ?_
  refine TL_q rfl rfl (QT_len rfl rfl Tryd.underlying47 rfl) ?_
  refine TL_q rfl rfl (QT_lss rfl rfl rfl rfl) ?_
  refine TL_nil ?_
  refine TX_then ?_
  refine TC_cond rfl (fun h => absurd (h.symm.trans ((show (_ : Bool) = false by rfl))) (by decide)) (fun _ => ?_)
  refine TC_exit ?_
  refine TX_then_exit ?_
  refine TX_then_exit ?_
  refine TX_block_here ?_
  exact TX_ret (.inr rfl) (res0 rfl) ⟨_, ⟨rfl, rfl⟩, fun _ h => h⟩
theorem grow_nil_spots (w0 : Base) (η : Heap) : CallsT Tryd.prog 63 [nilS] (St w0 η) fun v A' => v = .tuple #[] ∧ A' = St w0 η := by
  refine CallsT.body Tryd.func63 rfl rfl ?_
  simp only [Tryd.ntmps63, slotsOf, Nat.reduceAdd]
  refine TC_seq ?_
  refine TC_reg ?_
  refine TL_q rfl rfl (QT_assign rfl rfl rfl) ?_
  refine TL_nil ?_
  refine TX_then ?_
  refine TC_block ?_
  refine TC_loop (γ := Unit) (fun _ => [(0, true, nilS), (2, true, .int .i64 0)]) (fun _ => St w0 η) (fun _ => 0) () ⟨rfl, rfl, trivial⟩ (fun _ h => h) ?_
  rintro ⟨⟩
  dsimp only [nilS]
  refine TC_seq ?_
  refine TC_seq ?_
  refine TC_reg ?_
  refine TL_q rfl rfl (QT_move rfl rfl rfl) ?_
  refine TL_q rfl rfl (QT_move rfl rfl rfl) ?_
  refine TL_q rfl rfl (QT_len rfl rfl Tryd.underlying47 rfl) ?_
  refine TL_q rfl rfl (QT_lss rfl rfl rfl rfl) ?_
  refine TL_nil ?_
  refine TX_then ?_
  refine TC_cond rfl (fun h => absurd (h.symm.trans ((show (_ : Bool) = false by rfl))) (by decide)) (fun _ => ?_)
  refine TC_exit ?_
  refine TX_then_exit ?_
  refine TX_then_exit ?_
  refine TX_block_here ?_
  exact TX_ret (.inr rfl) (res0 rfl) ⟨_, ⟨rfl, rfl⟩, fun _ h => h⟩
theorem marked_nil_spots (w0 : Base) (η : Heap) : CallsT Tryd.prog 76 [nilS] (St w0 η) fun v A' => v = .bool true ∧ A' = St w0 η := by
  refine CallsT.body Tryd.func76 rfl rfl ?_
  simp only [Tryd.ntmps76, slotsOf, Nat.reduceAdd]
  refine TC_seq ?_
  refine TC_reg ?_
  refine TL_q rfl rfl (QT_assign rfl rfl rfl) ?_
  refine TL_nil ?_
  refine TX_then ?_
  refine TC_seq ?_
  refine TC_seq ?_
  refine TC_reg ?_
  refine TL_q rfl rfl (QT_assign rfl rfl rfl) ?_
  refine TL_nil ?_
  refine TX_then ?_
  refine TC_block ?_
  refine TC_loop (γ := Unit) (fun _ => [(0, true, nilS), (3, true, .int .i64 0)]) (fun _ => St w0 η) (fun _ => 0) () ⟨rfl, rfl, trivial⟩ (fun _ h => h) ?_
  rintro ⟨⟩
  dsimp only [nilS]
  refine TC_seq ?_
  refine TC_seq ?_
  refine TC_reg ?_
  refine TL_q rfl rfl (QT_move rfl rfl rfl) ?_
  refine TL_q rfl rfl (QT_move rfl rfl rfl) ?_
  refine TL_q rfl rfl (QT_len rfl rfl Tryd.underlying47 rfl) ?_
  refine TL_q rfl rfl (QT_lss rfl rfl rfl rfl) ?_
  refine TL_nil ?_
  refine TX_then ?_
  refine TC_cond rfl (fun h => absurd (h.symm.trans ((show (_ : Bool) = false by rfl))) (by decide)) (fun _ => ?_)
  refine TC_exit ?_
  refine TX_then_exit ?_
  refine TX_then_exit ?_
  refine TX_block_here ?_
  refine TX_then ?_
  refine TC_seq ?_
  refine TC_reg ?_
  refine TL_q rfl rfl (QT_assign rfl rfl rfl) ?_
  refine TL_nil ?_
  refine TX_then ?_
  refine TC_ret ?_
  exact TX_ret (.inl rfl) (res1 rfl rfl) ⟨_, ⟨rfl, rfl⟩, fun _ h => h⟩
theorem apart_spec (w0 : Base) (η : Heap) (kb : Nat) (k : Bk) (h0 : 0 ≤ k.many ∧ k.many ≤ 250) (ss_bytes : List Strip) (H_bytes : Heap) (hF_bytes : Frag 94 3 k.bytes ss_bytes.length (arrOf ss_bytes) H_bytes) (hs_bytes : ∀ s ∈ ss_bytes, s.ok 5 1 byteK) (ss_recs : List Strip) (H_recs : Heap) (hF_recs : Frag 96 9 k.recs ss_recs.length (arrOf ss_recs) H_recs) (hs_recs : ∀ s ∈ ss_recs, s.ok 67 7 recK) (hn_bits : k.bits = nilS) (hn_fixes : k.fixes = nilS) (hn_tris : k.tris = nilS) (hn_sheets : k.sheets = nilS) (hn_tiles : k.tiles = nilS) (hn_dots : k.dots = nilS) (hn_facets : k.facets = nilS) (hn_tokens : k.tokens = nilS) (hn_codes : k.codes = nilS) (hn_vals : k.vals = nilS) (hn_spots : k.spots = nilS) :
    CallsT Tryd.prog 17 [.pointer (some ⟨kb, 0, none⟩)] (St w0 ((kb, 49, k.cells) :: (H_bytes ++ (H_recs ++ (heapOf ss_bytes ++ (heapOf ss_recs ++ (η))))))) fun v A' => v = .bool true ∧ A' = St w0 η := by
  obtain ⟨many, kbytes, kbits, kfixes, krecs, ktris, ksheets, ktiles, kdots, kfacets, ktokens, kcodes, kvals, kspots⟩ := k
  dsimp only at h0 hF_bytes hF_recs hn_bits hn_fixes hn_tris hn_sheets hn_tiles hn_dots hn_facets hn_tokens hn_codes hn_vals hn_spots
  subst hn_bits hn_fixes hn_tris hn_sheets hn_tiles hn_dots hn_facets hn_tokens hn_codes hn_vals hn_spots
  have hFf_bytes : Frag 94 3 kbytes (ss_bytes.map (fillS 1)).length (arrOf (ss_bytes.map (fillS 1))) H_bytes := by rw [List.length_map, arrOf_fill]; exact hF_bytes
  have hsf_bytes : ∀ s ∈ ss_bytes.map (fillS 1), s.ok 5 1 byteK ∧ s.xs = marks s.n s.mark := fun s h => by
    obtain ⟨s', h1, rfl⟩ := List.mem_map.1 h
    exact ⟨fillS_ok (hs_bytes s' h1) rfl, rfl⟩
  have hFf_recs : Frag 96 9 krecs (ss_recs.map (fillS 7)).length (arrOf (ss_recs.map (fillS 7))) H_recs := by rw [List.length_map, arrOf_fill]; exact hF_recs
  have hsf_recs : ∀ s ∈ ss_recs.map (fillS 7), s.ok 67 7 recK ∧ s.xs = marks s.n s.mark := fun s h => by
    obtain ⟨s', h1, rfl⟩ := List.mem_map.1 h
    exact ⟨fillS_ok (hs_recs s' h1) rfl, rfl⟩
  refine CallsT.body Tryd.func17 rfl rfl ?_
  simp only [Tryd.ntmps17, slotsOf, Nat.reduceAdd]
  refine TC_seq ?_
  refine TC_reg ?_
  refine TL_q rfl rfl (QT_assign rfl rfl rfl) ?_
  refine TL_nil ?_
  refine TX_then ?_
  refine TC_seq ?_
  refine TC_seq ?_
  refine TC_reg ?_
  refine TL_q rfl rfl (QT_move rfl rfl rfl) ?_
  refine TL_q rfl rfl (QT_nilCheck rfl rfl rfl) ?_
  refine TL_q rfl rfl (QT_field rfl rfl YtjehicncbpljaaaDoorF.fld_49_0 rfl) ?_
  first
    | refine TL_q rfl rfl (QT_load 0 rfl rfl Tryd.underlying3 rfl rfl rfl (fun _ => rfl)) ?_
    | refine TL_q rfl rfl (QT_load 1 rfl rfl Tryd.underlying3 rfl rfl rfl (fun _ => rfl)) ?_
    | refine TL_q rfl rfl (QT_load 2 rfl rfl Tryd.underlying3 rfl rfl rfl (fun _ => rfl)) ?_
  refine TL_q rfl rfl (QT_gtr rfl rfl rfl rfl) ?_
  refine TL_nil ?_
  refine TX_then ?_
  refine TC_cond rfl (fun h => absurd (h.symm.trans ((show decide _ = false by simp; omega))) (by decide)) (fun _ => ?_)
  refine TC_skip ?_
  refine TX_then ?_
  refine TC_seq ?_
  refine TC_reg ?_
  refine TL_q rfl rfl (QT_move rfl rfl rfl) ?_
  refine TL_q rfl rfl (QT_nilCheck rfl rfl rfl) ?_
  refine TL_q rfl rfl (QT_field rfl rfl YtjehicncbpljaaaDoorF.fld_49_1 rfl) ?_
  first
    | refine TL_q rfl rfl (QT_load 0 rfl rfl Tryd.underlying35 rfl rfl rfl (fun _ => rfl)) ?_
    | refine TL_q rfl rfl (QT_load 1 rfl rfl Tryd.underlying35 rfl rfl rfl (fun _ => rfl)) ?_
    | refine TL_q rfl rfl (QT_load 2 rfl rfl Tryd.underlying35 rfl rfl rfl (fun _ => rfl)) ?_
  refine TL_A (St w0 (heapOf (ss_bytes) ++ ((kb, 49, Bk.cells ⟨many, kbytes, nilS, nilS, krecs, nilS, nilS, nilS, nilS, nilS, nilS, nilS, nilS, nilS⟩) :: (H_bytes ++ (H_recs ++ (heapOf (ss_recs) ++ (η))))))) (fun _ h => h.cnt fun p => by simp only [List.countP_append, List.countP_cons, List.countP_nil]; omega) ?_
  refine TL_e rfl rfl rfl (rfl) (ET_call rfl YtjehicncbpljaaaDoorF.cal_38 rfl (fill_Byte w0 _ _ ss_bytes hs_bytes ((hF_bytes.sla (η := [])).mono (fun _ h => h.cnt fun p => by simp only [List.countP_append, List.countP_cons, List.countP_nil]; omega)))) ?_
  rintro _ _ rfl
  refine TL_nil ?_
  refine TX_then ?_
  refine TC_seq ?_
  refine TC_A (St w0 ((kb, 49, Bk.cells ⟨many, kbytes, nilS, nilS, krecs, nilS, nilS, nilS, nilS, nilS, nilS, nilS, nilS, nilS⟩) :: (H_bytes ++ (H_recs ++ (heapOf (ss_bytes.map (fillS 1)) ++ (heapOf (ss_recs) ++ (η))))))) (fun _ h => h.cnt fun p => by simp only [List.countP_append, List.countP_cons, List.countP_nil]; omega) ?_
  refine TC_reg ?_
  refine TL_q rfl rfl (QT_move rfl rfl rfl) ?_
  refine TL_q rfl rfl (QT_nilCheck rfl rfl rfl) ?_
  refine TL_q rfl rfl (QT_field rfl rfl YtjehicncbpljaaaDoorF.fld_49_2 rfl) ?_
  first
    | refine TL_q rfl rfl (QT_load 0 rfl rfl Tryd.underlying36 rfl rfl rfl (fun _ => rfl)) ?_
    | refine TL_q rfl rfl (QT_load 1 rfl rfl Tryd.underlying36 rfl rfl rfl (fun _ => rfl)) ?_
    | refine TL_q rfl rfl (QT_load 2 rfl rfl Tryd.underlying36 rfl rfl rfl (fun _ => rfl)) ?_
  refine TL_cq rfl rfl rfl rfl YtjehicncbpljaaaDoorF.cal_39 rfl (fun _ => fill_nil_bits w0 _) ?_
  refine TL_nil ?_
  refine TX_then ?_
  refine TC_seq ?_
  refine TC_reg ?_
  refine TL_q rfl rfl (QT_move rfl rfl rfl) ?_
  refine TL_q rfl rfl (QT_nilCheck rfl rfl rfl) ?_
  refine TL_q rfl rfl (QT_field rfl rfl YtjehicncbpljaaaDoorF.fld_49_3 rfl) ?_
  first
    | refine TL_q rfl rfl (QT_load 0 rfl rfl Tryd.underlying37 rfl rfl rfl (fun _ => rfl)) ?_
    | refine TL_q rfl rfl (QT_load 1 rfl rfl Tryd.underlying37 rfl rfl rfl (fun _ => rfl)) ?_
    | refine TL_q rfl rfl (QT_load 2 rfl rfl Tryd.underlying37 rfl rfl rfl (fun _ => rfl)) ?_
  refine TL_cq rfl rfl rfl rfl YtjehicncbpljaaaDoorF.cal_40 rfl (fun _ => fill_nil_fixes w0 _) ?_
  refine TL_nil ?_
  refine TX_then ?_
  refine TC_seq ?_
  refine TC_reg ?_
  refine TL_q rfl rfl (QT_move rfl rfl rfl) ?_
  refine TL_q rfl rfl (QT_nilCheck rfl rfl rfl) ?_
  refine TL_q rfl rfl (QT_field rfl rfl YtjehicncbpljaaaDoorF.fld_49_4 rfl) ?_
  first
    | refine TL_q rfl rfl (QT_load 0 rfl rfl Tryd.underlying38 rfl rfl rfl (fun _ => rfl)) ?_
    | refine TL_q rfl rfl (QT_load 1 rfl rfl Tryd.underlying38 rfl rfl rfl (fun _ => rfl)) ?_
    | refine TL_q rfl rfl (QT_load 2 rfl rfl Tryd.underlying38 rfl rfl rfl (fun _ => rfl)) ?_
  refine TL_A (St w0 (heapOf (ss_recs) ++ ((kb, 49, Bk.cells ⟨many, kbytes, nilS, nilS, krecs, nilS, nilS, nilS, nilS, nilS, nilS, nilS, nilS, nilS⟩) :: (H_bytes ++ (H_recs ++ (heapOf (ss_bytes.map (fillS 1)) ++ (η))))))) (fun _ h => h.cnt fun p => by simp only [List.countP_append, List.countP_cons, List.countP_nil]; omega) ?_
  refine TL_e rfl rfl rfl (rfl) (ET_call rfl YtjehicncbpljaaaDoorF.cal_41 rfl (fill_Rec w0 _ _ ss_recs hs_recs ((hF_recs.sla (η := [])).mono (fun _ h => h.cnt fun p => by simp only [List.countP_append, List.countP_cons, List.countP_nil]; omega)))) ?_
  rintro _ _ rfl
  refine TL_nil ?_
  refine TX_then ?_
  refine TC_seq ?_
  refine TC_A (St w0 ((kb, 49, Bk.cells ⟨many, kbytes, nilS, nilS, krecs, nilS, nilS, nilS, nilS, nilS, nilS, nilS, nilS, nilS⟩) :: (H_bytes ++ (H_recs ++ (heapOf (ss_bytes.map (fillS 1)) ++ (heapOf (ss_recs.map (fillS 7)) ++ (η))))))) (fun _ h => h.cnt fun p => by simp only [List.countP_append, List.countP_cons, List.countP_nil]; omega) ?_
  refine TC_reg ?_
  refine TL_q rfl rfl (QT_move rfl rfl rfl) ?_
  refine TL_q rfl rfl (QT_nilCheck rfl rfl rfl) ?_
  refine TL_q rfl rfl (QT_field rfl rfl YtjehicncbpljaaaDoorF.fld_49_5 rfl) ?_
  first
    | refine TL_q rfl rfl (QT_load 0 rfl rfl Tryd.underlying39 rfl rfl rfl (fun _ => rfl)) ?_
    | refine TL_q rfl rfl (QT_load 1 rfl rfl Tryd.underlying39 rfl rfl rfl (fun _ => rfl)) ?_
    | refine TL_q rfl rfl (QT_load 2 rfl rfl Tryd.underlying39 rfl rfl rfl (fun _ => rfl)) ?_
  refine TL_cq rfl rfl rfl rfl YtjehicncbpljaaaDoorF.cal_42 rfl (fun _ => fill_nil_tris w0 _) ?_
  refine TL_nil ?_
  refine TX_then ?_
  refine TC_seq ?_
  refine TC_reg ?_
  refine TL_q rfl rfl (QT_move rfl rfl rfl) ?_
  refine TL_q rfl rfl (QT_nilCheck rfl rfl rfl) ?_
  refine TL_q rfl rfl (QT_field rfl rfl YtjehicncbpljaaaDoorF.fld_49_6 rfl) ?_
  first
    | refine TL_q rfl rfl (QT_load 0 rfl rfl Tryd.underlying40 rfl rfl rfl (fun _ => rfl)) ?_
    | refine TL_q rfl rfl (QT_load 1 rfl rfl Tryd.underlying40 rfl rfl rfl (fun _ => rfl)) ?_
    | refine TL_q rfl rfl (QT_load 2 rfl rfl Tryd.underlying40 rfl rfl rfl (fun _ => rfl)) ?_
  refine TL_cq rfl rfl rfl rfl YtjehicncbpljaaaDoorF.cal_43 rfl (fun _ => fill_nil_sheets w0 _) ?_
  refine TL_nil ?_
  refine TX_then ?_
  refine TC_seq ?_
  refine TC_reg ?_
  refine TL_q rfl rfl (QT_move rfl rfl rfl) ?_
  refine TL_q rfl rfl (QT_nilCheck rfl rfl rfl) ?_
  refine TL_q rfl rfl (QT_field rfl rfl YtjehicncbpljaaaDoorF.fld_49_7 rfl) ?_
  first
    | refine TL_q rfl rfl (QT_load 0 rfl rfl Tryd.underlying41 rfl rfl rfl (fun _ => rfl)) ?_
    | refine TL_q rfl rfl (QT_load 1 rfl rfl Tryd.underlying41 rfl rfl rfl (fun _ => rfl)) ?_
    | refine TL_q rfl rfl (QT_load 2 rfl rfl Tryd.underlying41 rfl rfl rfl (fun _ => rfl)) ?_
  refine TL_cq rfl rfl rfl rfl YtjehicncbpljaaaDoorF.cal_44 rfl (fun _ => fill_nil_tiles w0 _) ?_
  refine TL_nil ?_
  refine TX_then ?_
  refine TC_seq ?_
  refine TC_reg ?_
  refine TL_q rfl rfl (QT_move rfl rfl rfl) ?_
  refine TL_q rfl rfl (QT_nilCheck rfl rfl rfl) ?_
  refine TL_q rfl rfl (QT_field rfl rfl YtjehicncbpljaaaDoorF.fld_49_8 rfl) ?_
  first
    | refine TL_q rfl rfl (QT_load 0 rfl rfl Tryd.underlying42 rfl rfl rfl (fun _ => rfl)) ?_
    | refine TL_q rfl rfl (QT_load 1 rfl rfl Tryd.underlying42 rfl rfl rfl (fun _ => rfl)) ?_
    | refine TL_q rfl rfl (QT_load 2 rfl rfl Tryd.underlying42 rfl rfl rfl (fun _ => rfl)) ?_
  refine TL_cq rfl rfl rfl rfl YtjehicncbpljaaaDoorF.cal_45 rfl (fun _ => fill_nil_dots w0 _) ?_
  refine TL_nil ?_
  refine TX_then ?_
  refine TC_seq ?_
  refine TC_reg ?_
  refine TL_q rfl rfl (QT_move rfl rfl rfl) ?_
  refine TL_q rfl rfl (QT_nilCheck rfl rfl rfl) ?_
  refine TL_q rfl rfl (QT_field rfl rfl YtjehicncbpljaaaDoorF.fld_49_9 rfl) ?_
  first
    | refine TL_q rfl rfl (QT_load 0 rfl rfl Tryd.underlying43 rfl rfl rfl (fun _ => rfl)) ?_
    | refine TL_q rfl rfl (QT_load 1 rfl rfl Tryd.underlying43 rfl rfl rfl (fun _ => rfl)) ?_
    | refine TL_q rfl rfl (QT_load 2 rfl rfl Tryd.underlying43 rfl rfl rfl (fun _ => rfl)) ?_
  refine TL_cq rfl rfl rfl rfl YtjehicncbpljaaaDoorF.cal_46 rfl (fun _ => fill_nil_facets w0 _) ?_
  refine TL_nil ?_
  refine TX_then ?_
  refine TC_seq ?_
  refine TC_reg ?_
  refine TL_q rfl rfl (QT_move rfl rfl rfl) ?_
  refine TL_q rfl rfl (QT_nilCheck rfl rfl rfl) ?_
  refine TL_q rfl rfl (QT_field rfl rfl YtjehicncbpljaaaDoorF.fld_49_10 rfl) ?_
  first
    | refine TL_q rfl rfl (QT_load 0 rfl rfl Tryd.underlying44 rfl rfl rfl (fun _ => rfl)) ?_
    | refine TL_q rfl rfl (QT_load 1 rfl rfl Tryd.underlying44 rfl rfl rfl (fun _ => rfl)) ?_
    | refine TL_q rfl rfl (QT_load 2 rfl rfl Tryd.underlying44 rfl rfl rfl (fun _ => rfl)) ?_
  refine TL_cq rfl rfl rfl rfl YtjehicncbpljaaaDoorF.cal_47 rfl (fun _ => fill_nil_tokens w0 _) ?_
  refine TL_nil ?_
  refine TX_then ?_
  refine TC_seq ?_
  refine TC_reg ?_
  refine TL_q rfl rfl (QT_move rfl rfl rfl) ?_
  refine TL_q rfl rfl (QT_nilCheck rfl rfl rfl) ?_
  refine TL_q rfl rfl (QT_field rfl rfl YtjehicncbpljaaaDoorF.fld_49_11 rfl) ?_
  first
    | refine TL_q rfl rfl (QT_load 0 rfl rfl Tryd.underlying45 rfl rfl rfl (fun _ => rfl)) ?_
    | refine TL_q rfl rfl (QT_load 1 rfl rfl Tryd.underlying45 rfl rfl rfl (fun _ => rfl)) ?_
    | refine TL_q rfl rfl (QT_load 2 rfl rfl Tryd.underlying45 rfl rfl rfl (fun _ => rfl)) ?_
  refine TL_cq rfl rfl rfl rfl YtjehicncbpljaaaDoorF.cal_48 rfl (fun _ => fill_nil_codes w0 _) ?_
  refine TL_nil ?_
  refine TX_then ?_
  refine TC_seq ?_
  refine TC_reg ?_
  refine TL_q rfl rfl (QT_move rfl rfl rfl) ?_
  refine TL_q rfl rfl (QT_nilCheck rfl rfl rfl) ?_
  refine TL_q rfl rfl (QT_field rfl rfl YtjehicncbpljaaaDoorF.fld_49_12 rfl) ?_
  first
    | refine TL_q rfl rfl (QT_load 0 rfl rfl Tryd.underlying46 rfl rfl rfl (fun _ => rfl)) ?_
    | refine TL_q rfl rfl (QT_load 1 rfl rfl Tryd.underlying46 rfl rfl rfl (fun _ => rfl)) ?_
    | refine TL_q rfl rfl (QT_load 2 rfl rfl Tryd.underlying46 rfl rfl rfl (fun _ => rfl)) ?_
  refine TL_cq rfl rfl rfl rfl YtjehicncbpljaaaDoorF.cal_49 rfl (fun _ => fill_nil_vals w0 _) ?_
  refine TL_nil ?_
  refine TX_then ?_
  refine TC_seq ?_
  refine TC_reg ?_
  refine TL_q rfl rfl (QT_move rfl rfl rfl) ?_
  refine TL_q rfl rfl (QT_nilCheck rfl rfl rfl) ?_
  refine TL_q rfl rfl (QT_field rfl rfl YtjehicncbpljaaaDoorF.fld_49_13 rfl) ?_
  first
    | refine TL_q rfl rfl (QT_load 0 rfl rfl Tryd.underlying47 rfl rfl rfl (fun _ => rfl)) ?_
    | refine TL_q rfl rfl (QT_load 1 rfl rfl Tryd.underlying47 rfl rfl rfl (fun _ => rfl)) ?_
    | refine TL_q rfl rfl (QT_load 2 rfl rfl Tryd.underlying47 rfl rfl rfl (fun _ => rfl)) ?_
  refine TL_cq rfl rfl rfl rfl YtjehicncbpljaaaDoorF.cal_50 rfl (fun _ => fill_nil_spots w0 _) ?_
  refine TL_nil ?_
  refine TX_then ?_
  refine TC_seq ?_
  refine TC_reg ?_
  refine TL_q rfl rfl (QT_move rfl rfl rfl) ?_
  refine TL_q rfl rfl (QT_nilCheck rfl rfl rfl) ?_
  refine TL_q rfl rfl (QT_field rfl rfl YtjehicncbpljaaaDoorF.fld_49_1 rfl) ?_
  first
    | refine TL_q rfl rfl (QT_load 0 rfl rfl Tryd.underlying35 rfl rfl rfl (fun _ => rfl)) ?_
    | refine TL_q rfl rfl (QT_load 1 rfl rfl Tryd.underlying35 rfl rfl rfl (fun _ => rfl)) ?_
    | refine TL_q rfl rfl (QT_load 2 rfl rfl Tryd.underlying35 rfl rfl rfl (fun _ => rfl)) ?_
  refine TL_A (St w0 (H_bytes ++ (heapOf (ss_bytes.map (fillS 1)) ++ ((kb, 49, Bk.cells ⟨many, kbytes, nilS, nilS, krecs, nilS, nilS, nilS, nilS, nilS, nilS, nilS, nilS, nilS⟩) :: (H_recs ++ (heapOf (ss_recs.map (fillS 7)) ++ (η))))))) (fun _ h => h.cnt fun p => by simp only [List.countP_append, List.countP_cons, List.countP_nil]; omega) ?_
  refine TL_e rfl rfl rfl (rfl) (ET_call rfl YtjehicncbpljaaaDoorF.cal_51 rfl (grow_Byte w0 _ _ _ _ hsf_bytes hFf_bytes)) ?_
  rintro _ _ ⟨g_bytes, G_bytes, hl_bytes, hg_bytes, hG_bytes, rfl⟩
  refine TL_nil ?_
  refine TX_then ?_
  refine TC_seq ?_
  refine TC_A (St w0 ((kb, 49, Bk.cells ⟨many, kbytes, nilS, nilS, krecs, nilS, nilS, nilS, nilS, nilS, nilS, nilS, nilS, nilS⟩) :: (G_bytes ++ (H_recs ++ (heapOf (g_bytes) ++ (heapOf (ss_recs.map (fillS 7)) ++ (η))))))) (fun _ h => h.cnt fun p => by simp only [List.countP_append, List.countP_cons, List.countP_nil]; omega) ?_
  refine TC_reg ?_
  refine TL_q rfl rfl (QT_move rfl rfl rfl) ?_
  refine TL_q rfl rfl (QT_nilCheck rfl rfl rfl) ?_
  refine TL_q rfl rfl (QT_field rfl rfl YtjehicncbpljaaaDoorF.fld_49_2 rfl) ?_
  first
    | refine TL_q rfl rfl (QT_load 0 rfl rfl Tryd.underlying36 rfl rfl rfl (fun _ => rfl)) ?_
    | refine TL_q rfl rfl (QT_load 1 rfl rfl Tryd.underlying36 rfl rfl rfl (fun _ => rfl)) ?_
    | refine TL_q rfl rfl (QT_load 2 rfl rfl Tryd.underlying36 rfl rfl rfl (fun _ => rfl)) ?_
  refine TL_cq rfl rfl rfl rfl YtjehicncbpljaaaDoorF.cal_52 rfl (fun _ => grow_nil_bits w0 _) ?_
  refine TL_nil ?_
  refine TX_then ?_
  refine TC_seq ?_
  refine TC_reg ?_
  refine TL_q rfl rfl (QT_move rfl rfl rfl) ?_
  refine TL_q rfl rfl (QT_nilCheck rfl rfl rfl) ?_
  refine TL_q rfl rfl (QT_field rfl rfl YtjehicncbpljaaaDoorF.fld_49_3 rfl) ?_
  first
    | refine TL_q rfl rfl (QT_load 0 rfl rfl Tryd.underlying37 rfl rfl rfl (fun _ => rfl)) ?_
    | refine TL_q rfl rfl (QT_load 1 rfl rfl Tryd.underlying37 rfl rfl rfl (fun _ => rfl)) ?_
    | refine TL_q rfl rfl (QT_load 2 rfl rfl Tryd.underlying37 rfl rfl rfl (fun _ => rfl)) ?_
  refine TL_cq rfl rfl rfl rfl YtjehicncbpljaaaDoorF.cal_53 rfl (fun _ => grow_nil_fixes w0 _) ?_
  refine TL_nil ?_
  refine TX_then ?_
  refine TC_seq ?_
  refine TC_reg ?_
  refine TL_q rfl rfl (QT_move rfl rfl rfl) ?_
  refine TL_q rfl rfl (QT_nilCheck rfl rfl rfl) ?_
  refine TL_q rfl rfl (QT_field rfl rfl YtjehicncbpljaaaDoorF.fld_49_4 rfl) ?_
  first
    | refine TL_q rfl rfl (QT_load 0 rfl rfl Tryd.underlying38 rfl rfl rfl (fun _ => rfl)) ?_
    | refine TL_q rfl rfl (QT_load 1 rfl rfl Tryd.underlying38 rfl rfl rfl (fun _ => rfl)) ?_
    | refine TL_q rfl rfl (QT_load 2 rfl rfl Tryd.underlying38 rfl rfl rfl (fun _ => rfl)) ?_
  refine TL_A (St w0 (H_recs ++ (heapOf (ss_recs.map (fillS 7)) ++ ((kb, 49, Bk.cells ⟨many, kbytes, nilS, nilS, krecs, nilS, nilS, nilS, nilS, nilS, nilS, nilS, nilS, nilS⟩) :: (G_bytes ++ (heapOf (g_bytes) ++ (η))))))) (fun _ h => h.cnt fun p => by simp only [List.countP_append, List.countP_cons, List.countP_nil]; omega) ?_
  refine TL_e rfl rfl rfl (rfl) (ET_call rfl YtjehicncbpljaaaDoorF.cal_54 rfl (grow_Rec w0 _ _ _ _ hsf_recs hFf_recs)) ?_
  rintro _ _ ⟨g_recs, G_recs, hl_recs, hg_recs, hG_recs, rfl⟩
  refine TL_nil ?_
  refine TX_then ?_
  refine TC_seq ?_
  refine TC_A (St w0 ((kb, 49, Bk.cells ⟨many, kbytes, nilS, nilS, krecs, nilS, nilS, nilS, nilS, nilS, nilS, nilS, nilS, nilS⟩) :: (G_bytes ++ (G_recs ++ (heapOf (g_bytes) ++ (heapOf (g_recs) ++ (η))))))) (fun _ h => h.cnt fun p => by simp only [List.countP_append, List.countP_cons, List.countP_nil]; omega) ?_
  refine TC_reg ?_
  refine TL_q rfl rfl (QT_move rfl rfl rfl) ?_
  refine TL_q rfl rfl (QT_nilCheck rfl rfl rfl) ?_
  refine TL_q rfl rfl (QT_field rfl rfl YtjehicncbpljaaaDoorF.fld_49_5 rfl) ?_
  first
    | refine TL_q rfl rfl (QT_load 0 rfl rfl Tryd.underlying39 rfl rfl rfl (fun _ => rfl)) ?_
    | refine TL_q rfl rfl (QT_load 1 rfl rfl Tryd.underlying39 rfl rfl rfl (fun _ => rfl)) ?_
    | refine TL_q rfl rfl (QT_load 2 rfl rfl Tryd.underlying39 rfl rfl rfl (fun _ => rfl)) ?_
  refine TL_cq rfl rfl rfl rfl YtjehicncbpljaaaDoorF.cal_55 rfl (fun _ => grow_nil_tris w0 _) ?_
  refine TL_nil ?_
  refine TX_then ?_
  refine TC_seq ?_
  refine TC_reg ?_
  refine TL_q rfl rfl (QT_move rfl rfl rfl) ?_
  refine TL_q rfl rfl (QT_nilCheck rfl rfl rfl) ?_
  refine TL_q rfl rfl (QT_field rfl rfl YtjehicncbpljaaaDoorF.fld_49_6 rfl) ?_
  first
    | refine TL_q rfl rfl (QT_load 0 rfl rfl Tryd.underlying40 rfl rfl rfl (fun _ => rfl)) ?_
    | refine TL_q rfl rfl (QT_load 1 rfl rfl Tryd.underlying40 rfl rfl rfl (fun _ => rfl)) ?_
    | refine TL_q rfl rfl (QT_load 2 rfl rfl Tryd.underlying40 rfl rfl rfl (fun _ => rfl)) ?_
  refine TL_cq rfl rfl rfl rfl YtjehicncbpljaaaDoorF.cal_56 rfl (fun _ => grow_nil_sheets w0 _) ?_
  refine TL_nil ?_
  refine TX_then ?_
  refine TC_seq ?_
  refine TC_reg ?_
  refine TL_q rfl rfl (QT_move rfl rfl rfl) ?_
  refine TL_q rfl rfl (QT_nilCheck rfl rfl rfl) ?_
  refine TL_q rfl rfl (QT_field rfl rfl YtjehicncbpljaaaDoorF.fld_49_7 rfl) ?_
  first
    | refine TL_q rfl rfl (QT_load 0 rfl rfl Tryd.underlying41 rfl rfl rfl (fun _ => rfl)) ?_
    | refine TL_q rfl rfl (QT_load 1 rfl rfl Tryd.underlying41 rfl rfl rfl (fun _ => rfl)) ?_
    | refine TL_q rfl rfl (QT_load 2 rfl rfl Tryd.underlying41 rfl rfl rfl (fun _ => rfl)) ?_
  refine TL_cq rfl rfl rfl rfl YtjehicncbpljaaaDoorF.cal_57 rfl (fun _ => grow_nil_tiles w0 _) ?_
  refine TL_nil ?_
  refine TX_then ?_
  refine TC_seq ?_
  refine TC_reg ?_
  refine TL_q rfl rfl (QT_move rfl rfl rfl) ?_
  refine TL_q rfl rfl (QT_nilCheck rfl rfl rfl) ?_
  refine TL_q rfl rfl (QT_field rfl rfl YtjehicncbpljaaaDoorF.fld_49_8 rfl) ?_
  first
    | refine TL_q rfl rfl (QT_load 0 rfl rfl Tryd.underlying42 rfl rfl rfl (fun _ => rfl)) ?_
    | refine TL_q rfl rfl (QT_load 1 rfl rfl Tryd.underlying42 rfl rfl rfl (fun _ => rfl)) ?_
    | refine TL_q rfl rfl (QT_load 2 rfl rfl Tryd.underlying42 rfl rfl rfl (fun _ => rfl)) ?_
  refine TL_cq rfl rfl rfl rfl YtjehicncbpljaaaDoorF.cal_58 rfl (fun _ => grow_nil_dots w0 _) ?_
  refine TL_nil ?_
  refine TX_then ?_
  refine TC_seq ?_
  refine TC_reg ?_
  refine TL_q rfl rfl (QT_move rfl rfl rfl) ?_
  refine TL_q rfl rfl (QT_nilCheck rfl rfl rfl) ?_
  refine TL_q rfl rfl (QT_field rfl rfl YtjehicncbpljaaaDoorF.fld_49_9 rfl) ?_
  first
    | refine TL_q rfl rfl (QT_load 0 rfl rfl Tryd.underlying43 rfl rfl rfl (fun _ => rfl)) ?_
    | refine TL_q rfl rfl (QT_load 1 rfl rfl Tryd.underlying43 rfl rfl rfl (fun _ => rfl)) ?_
    | refine TL_q rfl rfl (QT_load 2 rfl rfl Tryd.underlying43 rfl rfl rfl (fun _ => rfl)) ?_
  refine TL_cq rfl rfl rfl rfl YtjehicncbpljaaaDoorF.cal_59 rfl (fun _ => grow_nil_facets w0 _) ?_
  refine TL_nil ?_
  refine TX_then ?_
  refine TC_seq ?_
  refine TC_reg ?_
  refine TL_q rfl rfl (QT_move rfl rfl rfl) ?_
  refine TL_q rfl rfl (QT_nilCheck rfl rfl rfl) ?_
  refine TL_q rfl rfl (QT_field rfl rfl YtjehicncbpljaaaDoorF.fld_49_10 rfl) ?_
  first
    | refine TL_q rfl rfl (QT_load 0 rfl rfl Tryd.underlying44 rfl rfl rfl (fun _ => rfl)) ?_
    | refine TL_q rfl rfl (QT_load 1 rfl rfl Tryd.underlying44 rfl rfl rfl (fun _ => rfl)) ?_
    | refine TL_q rfl rfl (QT_load 2 rfl rfl Tryd.underlying44 rfl rfl rfl (fun _ => rfl)) ?_
  refine TL_cq rfl rfl rfl rfl YtjehicncbpljaaaDoorF.cal_60 rfl (fun _ => grow_nil_tokens w0 _) ?_
  refine TL_nil ?_
  refine TX_then ?_
  refine TC_seq ?_
  refine TC_reg ?_
  refine TL_q rfl rfl (QT_move rfl rfl rfl) ?_
  refine TL_q rfl rfl (QT_nilCheck rfl rfl rfl) ?_
  refine TL_q rfl rfl (QT_field rfl rfl YtjehicncbpljaaaDoorF.fld_49_11 rfl) ?_
  first
    | refine TL_q rfl rfl (QT_load 0 rfl rfl Tryd.underlying45 rfl rfl rfl (fun _ => rfl)) ?_
    | refine TL_q rfl rfl (QT_load 1 rfl rfl Tryd.underlying45 rfl rfl rfl (fun _ => rfl)) ?_
    | refine TL_q rfl rfl (QT_load 2 rfl rfl Tryd.underlying45 rfl rfl rfl (fun _ => rfl)) ?_
  refine TL_cq rfl rfl rfl rfl YtjehicncbpljaaaDoorF.cal_61 rfl (fun _ => grow_nil_codes w0 _) ?_
  refine TL_nil ?_
  refine TX_then ?_
  refine TC_seq ?_
  refine TC_reg ?_
  refine TL_q rfl rfl (QT_move rfl rfl rfl) ?_
  refine TL_q rfl rfl (QT_nilCheck rfl rfl rfl) ?_
  refine TL_q rfl rfl (QT_field rfl rfl YtjehicncbpljaaaDoorF.fld_49_12 rfl) ?_
  first
    | refine TL_q rfl rfl (QT_load 0 rfl rfl Tryd.underlying46 rfl rfl rfl (fun _ => rfl)) ?_
    | refine TL_q rfl rfl (QT_load 1 rfl rfl Tryd.underlying46 rfl rfl rfl (fun _ => rfl)) ?_
    | refine TL_q rfl rfl (QT_load 2 rfl rfl Tryd.underlying46 rfl rfl rfl (fun _ => rfl)) ?_
  refine TL_cq rfl rfl rfl rfl YtjehicncbpljaaaDoorF.cal_62 rfl (fun _ => grow_nil_vals w0 _) ?_
  refine TL_nil ?_
  refine TX_then ?_
  refine TC_seq ?_
  refine TC_reg ?_
  refine TL_q rfl rfl (QT_move rfl rfl rfl) ?_
  refine TL_q rfl rfl (QT_nilCheck rfl rfl rfl) ?_
  refine TL_q rfl rfl (QT_field rfl rfl YtjehicncbpljaaaDoorF.fld_49_13 rfl) ?_
  first
    | refine TL_q rfl rfl (QT_load 0 rfl rfl Tryd.underlying47 rfl rfl rfl (fun _ => rfl)) ?_
    | refine TL_q rfl rfl (QT_load 1 rfl rfl Tryd.underlying47 rfl rfl rfl (fun _ => rfl)) ?_
    | refine TL_q rfl rfl (QT_load 2 rfl rfl Tryd.underlying47 rfl rfl rfl (fun _ => rfl)) ?_
  refine TL_cq rfl rfl rfl rfl YtjehicncbpljaaaDoorF.cal_63 rfl (fun _ => grow_nil_spots w0 _) ?_
  refine TL_nil ?_
  refine TX_then ?_
  refine TC_seq ?_
  refine TC_reg ?_
  refine TL_q rfl rfl (QT_move rfl rfl rfl) ?_
  refine TL_q rfl rfl (QT_nilCheck rfl rfl rfl) ?_
  refine TL_q rfl rfl (QT_field rfl rfl YtjehicncbpljaaaDoorF.fld_49_1 rfl) ?_
  first
    | refine TL_q rfl rfl (QT_load 0 rfl rfl Tryd.underlying35 rfl rfl rfl (fun _ => rfl)) ?_
    | refine TL_q rfl rfl (QT_load 1 rfl rfl Tryd.underlying35 rfl rfl rfl (fun _ => rfl)) ?_
    | refine TL_q rfl rfl (QT_load 2 rfl rfl Tryd.underlying35 rfl rfl rfl (fun _ => rfl)) ?_
  refine TL_cq rfl rfl rfl rfl YtjehicncbpljaaaDoorF.cal_64 rfl (fun _ => marked_Byte w0 _ _ g_bytes (fun s h => (hg_bytes s h).mono (fun _ h => h.cnt fun p => by simp only [List.countP_append, List.countP_cons, List.countP_nil]; omega)) ((hG_bytes.sla (η := [])).mono (fun _ h => h.cnt fun p => by simp only [List.countP_append, List.countP_cons, List.countP_nil]; omega))) ?_
  refine TL_q rfl rfl (QT_move rfl rfl rfl) ?_
  refine TL_q rfl rfl (QT_move rfl rfl rfl) ?_
  refine TL_q rfl rfl (QT_nilCheck rfl rfl rfl) ?_
  refine TL_q rfl rfl (QT_field rfl rfl YtjehicncbpljaaaDoorF.fld_49_2 rfl) ?_
  first
    | refine TL_q rfl rfl (QT_load 0 rfl rfl Tryd.underlying36 rfl rfl rfl (fun _ => rfl)) ?_
    | refine TL_q rfl rfl (QT_load 1 rfl rfl Tryd.underlying36 rfl rfl rfl (fun _ => rfl)) ?_
    | refine TL_q rfl rfl (QT_load 2 rfl rfl Tryd.underlying36 rfl rfl rfl (fun _ => rfl)) ?_
  refine TL_cq rfl rfl rfl rfl YtjehicncbpljaaaDoorF.cal_65 rfl (fun _ => marked_nil_bits w0 _) ?_
  refine TL_q rfl rfl (QT_and rfl rfl rfl rfl) ?_
  refine TL_q rfl rfl (QT_move rfl rfl rfl) ?_
  refine TL_q rfl rfl (QT_move rfl rfl rfl) ?_
  refine TL_q rfl rfl (QT_nilCheck rfl rfl rfl) ?_
  refine TL_q rfl rfl (QT_field rfl rfl YtjehicncbpljaaaDoorF.fld_49_3 rfl) ?_
  first
    | refine TL_q rfl rfl (QT_load 0 rfl rfl Tryd.underlying37 rfl rfl rfl (fun _ => rfl)) ?_
    | refine TL_q rfl rfl (QT_load 1 rfl rfl Tryd.underlying37 rfl rfl rfl (fun _ => rfl)) ?_
    | refine TL_q rfl rfl (QT_load 2 rfl rfl Tryd.underlying37 rfl rfl rfl (fun _ => rfl)) ?_
  refine TL_cq rfl rfl rfl rfl YtjehicncbpljaaaDoorF.cal_66 rfl (fun _ => marked_nil_fixes w0 _) ?_
  refine TL_q rfl rfl (QT_and rfl rfl rfl rfl) ?_
  refine TL_q rfl rfl (QT_move rfl rfl rfl) ?_
  refine TL_q rfl rfl (QT_move rfl rfl rfl) ?_
  refine TL_q rfl rfl (QT_nilCheck rfl rfl rfl) ?_
  refine TL_q rfl rfl (QT_field rfl rfl YtjehicncbpljaaaDoorF.fld_49_4 rfl) ?_
  first
    | refine TL_q rfl rfl (QT_load 0 rfl rfl Tryd.underlying38 rfl rfl rfl (fun _ => rfl)) ?_
    | refine TL_q rfl rfl (QT_load 1 rfl rfl Tryd.underlying38 rfl rfl rfl (fun _ => rfl)) ?_
    | refine TL_q rfl rfl (QT_load 2 rfl rfl Tryd.underlying38 rfl rfl rfl (fun _ => rfl)) ?_
  refine TL_cq rfl rfl rfl rfl YtjehicncbpljaaaDoorF.cal_67 rfl (fun _ => marked_Rec w0 _ _ g_recs (fun s h => (hg_recs s h).mono (fun _ h => h.cnt fun p => by simp only [List.countP_append, List.countP_cons, List.countP_nil]; omega)) ((hG_recs.sla (η := [])).mono (fun _ h => h.cnt fun p => by simp only [List.countP_append, List.countP_cons, List.countP_nil]; omega))) ?_
  refine TL_q rfl rfl (QT_and rfl rfl rfl rfl) ?_
  refine TL_q rfl rfl (QT_move rfl rfl rfl) ?_
  refine TL_q rfl rfl (QT_move rfl rfl rfl) ?_
  refine TL_q rfl rfl (QT_nilCheck rfl rfl rfl) ?_
  refine TL_q rfl rfl (QT_field rfl rfl YtjehicncbpljaaaDoorF.fld_49_5 rfl) ?_
  first
    | refine TL_q rfl rfl (QT_load 0 rfl rfl Tryd.underlying39 rfl rfl rfl (fun _ => rfl)) ?_
    | refine TL_q rfl rfl (QT_load 1 rfl rfl Tryd.underlying39 rfl rfl rfl (fun _ => rfl)) ?_
    | refine TL_q rfl rfl (QT_load 2 rfl rfl Tryd.underlying39 rfl rfl rfl (fun _ => rfl)) ?_
  refine TL_cq rfl rfl rfl rfl YtjehicncbpljaaaDoorF.cal_68 rfl (fun _ => marked_nil_tris w0 _) ?_
  refine TL_q rfl rfl (QT_and rfl rfl rfl rfl) ?_
  refine TL_q rfl rfl (QT_move rfl rfl rfl) ?_
  refine TL_q rfl rfl (QT_move rfl rfl rfl) ?_
  refine TL_q rfl rfl (QT_nilCheck rfl rfl rfl) ?_
  refine TL_q rfl rfl (QT_field rfl rfl YtjehicncbpljaaaDoorF.fld_49_6 rfl) ?_
  first
    | refine TL_q rfl rfl (QT_load 0 rfl rfl Tryd.underlying40 rfl rfl rfl (fun _ => rfl)) ?_
    | refine TL_q rfl rfl (QT_load 1 rfl rfl Tryd.underlying40 rfl rfl rfl (fun _ => rfl)) ?_
    | refine TL_q rfl rfl (QT_load 2 rfl rfl Tryd.underlying40 rfl rfl rfl (fun _ => rfl)) ?_
  refine TL_cq rfl rfl rfl rfl YtjehicncbpljaaaDoorF.cal_69 rfl (fun _ => marked_nil_sheets w0 _) ?_
  refine TL_q rfl rfl (QT_and rfl rfl rfl rfl) ?_
  refine TL_q rfl rfl (QT_move rfl rfl rfl) ?_
  refine TL_q rfl rfl (QT_move rfl rfl rfl) ?_
  refine TL_q rfl rfl (QT_nilCheck rfl rfl rfl) ?_
  refine TL_q rfl rfl (QT_field rfl rfl YtjehicncbpljaaaDoorF.fld_49_7 rfl) ?_
  first
    | refine TL_q rfl rfl (QT_load 0 rfl rfl Tryd.underlying41 rfl rfl rfl (fun _ => rfl)) ?_
    | refine TL_q rfl rfl (QT_load 1 rfl rfl Tryd.underlying41 rfl rfl rfl (fun _ => rfl)) ?_
    | refine TL_q rfl rfl (QT_load 2 rfl rfl Tryd.underlying41 rfl rfl rfl (fun _ => rfl)) ?_
  refine TL_cq rfl rfl rfl rfl YtjehicncbpljaaaDoorF.cal_70 rfl (fun _ => marked_nil_tiles w0 _) ?_
  refine TL_q rfl rfl (QT_and rfl rfl rfl rfl) ?_
  refine TL_q rfl rfl (QT_move rfl rfl rfl) ?_
  refine TL_q rfl rfl (QT_move rfl rfl rfl) ?_
  refine TL_q rfl rfl (QT_nilCheck rfl rfl rfl) ?_
  refine TL_q rfl rfl (QT_field rfl rfl YtjehicncbpljaaaDoorF.fld_49_8 rfl) ?_
  first
    | refine TL_q rfl rfl (QT_load 0 rfl rfl Tryd.underlying42 rfl rfl rfl (fun _ => rfl)) ?_
    | refine TL_q rfl rfl (QT_load 1 rfl rfl Tryd.underlying42 rfl rfl rfl (fun _ => rfl)) ?_
    | refine TL_q rfl rfl (QT_load 2 rfl rfl Tryd.underlying42 rfl rfl rfl (fun _ => rfl)) ?_
  refine TL_cq rfl rfl rfl rfl YtjehicncbpljaaaDoorF.cal_71 rfl (fun _ => marked_nil_dots w0 _) ?_
  refine TL_q rfl rfl (QT_and rfl rfl rfl rfl) ?_
  refine TL_q rfl rfl (QT_move rfl rfl rfl) ?_
  refine TL_q rfl rfl (QT_move rfl rfl rfl) ?_
  refine TL_q rfl rfl (QT_nilCheck rfl rfl rfl) ?_
  refine TL_q rfl rfl (QT_field rfl rfl YtjehicncbpljaaaDoorF.fld_49_9 rfl) ?_
  first
    | refine TL_q rfl rfl (QT_load 0 rfl rfl Tryd.underlying43 rfl rfl rfl (fun _ => rfl)) ?_
    | refine TL_q rfl rfl (QT_load 1 rfl rfl Tryd.underlying43 rfl rfl rfl (fun _ => rfl)) ?_
    | refine TL_q rfl rfl (QT_load 2 rfl rfl Tryd.underlying43 rfl rfl rfl (fun _ => rfl)) ?_
  refine TL_cq rfl rfl rfl rfl YtjehicncbpljaaaDoorF.cal_72 rfl (fun _ => marked_nil_facets w0 _) ?_
  refine TL_q rfl rfl (QT_and rfl rfl rfl rfl) ?_
  refine TL_q rfl rfl (QT_move rfl rfl rfl) ?_
  refine TL_q rfl rfl (QT_move rfl rfl rfl) ?_
  refine TL_q rfl rfl (QT_nilCheck rfl rfl rfl) ?_
  refine TL_q rfl rfl (QT_field rfl rfl YtjehicncbpljaaaDoorF.fld_49_10 rfl) ?_
  first
    | refine TL_q rfl rfl (QT_load 0 rfl rfl Tryd.underlying44 rfl rfl rfl (fun _ => rfl)) ?_
    | refine TL_q rfl rfl (QT_load 1 rfl rfl Tryd.underlying44 rfl rfl rfl (fun _ => rfl)) ?_
    | refine TL_q rfl rfl (QT_load 2 rfl rfl Tryd.underlying44 rfl rfl rfl (fun _ => rfl)) ?_
  refine TL_cq rfl rfl rfl rfl YtjehicncbpljaaaDoorF.cal_73 rfl (fun _ => marked_nil_tokens w0 _) ?_
  refine TL_q rfl rfl (QT_and rfl rfl rfl rfl) ?_
  refine TL_q rfl rfl (QT_move rfl rfl rfl) ?_
  refine TL_q rfl rfl (QT_move rfl rfl rfl) ?_
  refine TL_q rfl rfl (QT_nilCheck rfl rfl rfl) ?_
  refine TL_q rfl rfl (QT_field rfl rfl YtjehicncbpljaaaDoorF.fld_49_11 rfl) ?_
  first
    | refine TL_q rfl rfl (QT_load 0 rfl rfl Tryd.underlying45 rfl rfl rfl (fun _ => rfl)) ?_
    | refine TL_q rfl rfl (QT_load 1 rfl rfl Tryd.underlying45 rfl rfl rfl (fun _ => rfl)) ?_
    | refine TL_q rfl rfl (QT_load 2 rfl rfl Tryd.underlying45 rfl rfl rfl (fun _ => rfl)) ?_
  refine TL_cq rfl rfl rfl rfl YtjehicncbpljaaaDoorF.cal_74 rfl (fun _ => marked_nil_codes w0 _) ?_
  refine TL_q rfl rfl (QT_and rfl rfl rfl rfl) ?_
  refine TL_q rfl rfl (QT_move rfl rfl rfl) ?_
  refine TL_q rfl rfl (QT_move rfl rfl rfl) ?_
  refine TL_q rfl rfl (QT_nilCheck rfl rfl rfl) ?_
  refine TL_q rfl rfl (QT_field rfl rfl YtjehicncbpljaaaDoorF.fld_49_12 rfl) ?_
  first
    | refine TL_q rfl rfl (QT_load 0 rfl rfl Tryd.underlying46 rfl rfl rfl (fun _ => rfl)) ?_
    | refine TL_q rfl rfl (QT_load 1 rfl rfl Tryd.underlying46 rfl rfl rfl (fun _ => rfl)) ?_
    | refine TL_q rfl rfl (QT_load 2 rfl rfl Tryd.underlying46 rfl rfl rfl (fun _ => rfl)) ?_
  refine TL_cq rfl rfl rfl rfl YtjehicncbpljaaaDoorF.cal_75 rfl (fun _ => marked_nil_vals w0 _) ?_
  refine TL_q rfl rfl (QT_and rfl rfl rfl rfl) ?_
  refine TL_q rfl rfl (QT_move rfl rfl rfl) ?_
  refine TL_q rfl rfl (QT_move rfl rfl rfl) ?_
  refine TL_q rfl rfl (QT_nilCheck rfl rfl rfl) ?_
  refine TL_q rfl rfl (QT_field rfl rfl YtjehicncbpljaaaDoorF.fld_49_13 rfl) ?_
  first
    | refine TL_q rfl rfl (QT_load 0 rfl rfl Tryd.underlying47 rfl rfl rfl (fun _ => rfl)) ?_
    | refine TL_q rfl rfl (QT_load 1 rfl rfl Tryd.underlying47 rfl rfl rfl (fun _ => rfl)) ?_
    | refine TL_q rfl rfl (QT_load 2 rfl rfl Tryd.underlying47 rfl rfl rfl (fun _ => rfl)) ?_
  refine TL_cq rfl rfl rfl rfl YtjehicncbpljaaaDoorF.cal_76 rfl (fun _ => marked_nil_spots w0 _) ?_
  refine TL_q rfl rfl (QT_and rfl rfl rfl rfl) ?_
  refine TL_q rfl rfl (QT_assign rfl rfl rfl) ?_
  refine TL_nil ?_
  refine TX_then ?_
  refine TC_ret ?_
  exact TX_ret (.inl rfl) (res1 rfl rfl) ⟨_, ⟨rfl, rfl⟩, (fun _ h => h.cnt fun p => by simp only [List.countP_append, List.countP_cons, List.countP_nil]; omega)⟩
end Go.Proofs.YtjehicncbpljaaaDoor

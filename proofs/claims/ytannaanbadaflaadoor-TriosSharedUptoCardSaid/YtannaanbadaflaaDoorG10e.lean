/- THE BOOK: are all its lists apart? Laid by a program of this work. -/
import Derived.Test.YtannaanbadaflaaDoorG01d
namespace Go.Proofs.YtannaanbadaflaaDoor
open Go Go.Gx Go.RowKit
set_option maxRecDepth 100000

theorem fill_nil_bytes (w0 : World) (η : Heap) : CallsT Tryd.prog 29 [nilS] (St w0 η) fun v A' => v = .tuple #[] ∧ A' = St w0 η := by
  refine CallsT.body Tryd.func29 rfl rfl ?_
  simp only [Tryd.ntmps29, slotsOf, Nat.reduceAdd]
  refine TC_seq ?_
  refine TC_reg ?_
  refine TL_q rfl rfl (QT_assign rfl rfl rfl) ?_
  refine TL_nil ?_
  refine TX_then ?_
  refine TC_block ?_
  refine TC_loop (γ := Unit) (fun _ => [(0, true, nilS), (2, true, .int .i64 0)]) (fun _ => St w0 η) (fun _ => 0) () ⟨rfl, rfl, trivial⟩ (fun _ h => h) ?_
  rintro ⟨⟩
  dsimp only [nilS]
  refine TC_seq ?_
  refine TC_seq ?_
  refine TC_reg ?_
  refine TL_q rfl rfl (QT_move rfl rfl rfl) ?_
  refine TL_q rfl rfl (QT_move rfl rfl rfl) ?_
  refine TL_q rfl rfl (QT_len rfl rfl Tryd.underlying35 rfl) ?_
  refine TL_q rfl rfl (QT_lss rfl rfl rfl rfl) ?_
  refine TL_nil ?_
  refine TX_then ?_
  refine TC_cond rfl (fun h => absurd (h.symm.trans ((show (_ : Bool) = false by rfl))) (by decide)) (fun _ => ?_)
  refine TC_exit ?_
  refine TX_then_exit ?_
  refine TX_then_exit ?_
  refine TX_block_here ?_
  exact TX_ret (.inr rfl) (res0 rfl) ⟨_, ⟨rfl, rfl⟩, fun _ h => h⟩
theorem grow_nil_bytes (w0 : World) (η : Heap) : CallsT Tryd.prog 42 [nilS] (St w0 η) fun v A' => v = .tuple #[] ∧ A' = St w0 η := by
  refine CallsT.body Tryd.func42 rfl rfl ?_
  simp only [Tryd.ntmps42, slotsOf, Nat.reduceAdd]
  refine TC_seq ?_
  refine TC_reg ?_
  refine TL_q rfl rfl (QT_assign rfl rfl rfl) ?_
  refine TL_nil ?_
  refine TX_then ?_
  refine TC_block ?_
  refine TC_loop (γ := Unit) (fun _ => [(0, true, nilS), (2, true, .int .i64 0)]) (fun _ => St w0 η) (fun _ => 0) () ⟨rfl, rfl, trivial⟩ (fun _ h => h) ?_
  rintro ⟨⟩
  dsimp only [nilS]
  refine TC_seq ?_
  refine TC_seq ?_
  refine TC_reg ?_
  refine TL_q rfl rfl (QT_move rfl rfl rfl) ?_
  refine TL_q rfl rfl (QT_move rfl rfl rfl) ?_
  refine TL_q rfl rfl (QT_len rfl rfl Tryd.underlying35 rfl) ?_
  refine TL_q rfl rfl (QT_lss rfl rfl rfl rfl) ?_
  refine TL_nil ?_
  refine TX_then ?_
  refine TC_cond rfl (fun h => absurd (h.symm.trans ((show (_ : Bool) = false by rfl))) (by decide)) (fun _ => ?_)
  refine TC_exit ?_
  refine TX_then_exit ?_
  refine TX_then_exit ?_
  refine TX_block_here ?_
  exact TX_ret (.inr rfl) (res0 rfl) ⟨_, ⟨rfl, rfl⟩, fun _ h => h⟩
theorem marked_nil_bytes (w0 : World) (η : Heap) : CallsT Tryd.prog 55 [nilS] (St w0 η) fun v A' => v = .bool true ∧ A' = St w0 η := by
  refine CallsT.body Tryd.func55 rfl rfl ?_
  simp only [Tryd.ntmps55, slotsOf, Nat.reduceAdd]
  refine TC_seq ?_
  refine TC_reg ?_
  refine TL_q rfl rfl (QT_assign rfl rfl rfl) ?_
  refine TL_nil ?_
  refine TX_then ?_
  refine TC_seq ?_
  refine TC_seq ?_
  refine TC_reg ?_
  refine TL_q rfl rfl (QT_assign rfl rfl rfl) ?_
  refine TL_nil ?_
  refine TX_then ?_
  refine TC_block ?_
  refine TC_loop (γ := Unit) (fun _ => [(0, true, nilS), (3, true, .int .i64 0)]) (fun _ => St w0 η) (fun _ => 0) () ⟨rfl, rfl, trivial⟩ (fun _ h => h) ?_
  rintro ⟨⟩
  dsimp only [nilS]
  refine TC_seq ?_
  refine TC_seq ?_
  refine TC_reg ?_
  refine TL_q rfl rfl (QT_move rfl rfl rfl) ?_
  refine TL_q rfl rfl (QT_move rfl rfl rfl) ?_
  refine TL_q rfl rfl (QT_len rfl rfl Tryd.underlying35 rfl) ?_
  refine TL_q rfl rfl (QT_lss rfl rfl rfl rfl) ?_
  refine TL_nil ?_
  refine TX_then ?_
  refine TC_cond rfl (fun h => absurd (h.symm.trans ((show (_ : Bool) = false by rfl))) (by decide)) (fun _ => ?_)
  refine TC_exit ?_
  refine TX_then_exit ?_
  refine TX_then_exit ?_
  refine TX_block_here ?_
  refine TX_then ?_
  refine TC_seq ?_
  refine TC_reg ?_
  refine TL_q rfl rfl (QT_assign rfl rfl rfl) ?_
  refine TL_nil ?_
  refine TX_then ?_
  refine TC_ret ?_
  exact TX_ret (.inl rfl) (res1 rfl rfl) ⟨_, ⟨rfl, rfl⟩, fun _ h => h⟩
theorem fill_nil_bits (w0 : World) (η : Heap) : CallsT Tryd.prog 30 [nilS] (St w0 η) fun v A' => v = .tuple #[] ∧ A' = St w0 η := by
  refine CallsT.body Tryd.func30 rfl rfl ?_
  simp only [Tryd.ntmps30, slotsOf, Nat.reduceAdd]
  refine TC_seq ?_
  refine TC_reg ?_
  refine TL_q rfl rfl (QT_assign rfl rfl rfl) ?_
  refine TL_nil ?_
  refine TX_then ?_
  refine TC_block ?_
  refine TC_loop (γ := Unit) (fun _ => [(0, true, nilS), (2, true, .int .i64 0)]) (fun _ => St w0 η) (fun _ => 0) () ⟨rfl, rfl, trivial⟩ (fun _ h => h) ?_
  rintro ⟨⟩
  dsimp only [nilS]
  refine TC_seq ?_
  refine TC_seq ?_
  refine TC_reg ?_
  refine TL_q rfl rfl (QT_move rfl rfl rfl) ?_
  refine TL_q rfl rfl (QT_move rfl rfl rfl) ?_
  refine TL_q rfl rfl (QT_len rfl rfl Tryd.underlying36 rfl) ?_
  refine TL_q rfl rfl (QT_lss rfl rfl rfl rfl) ?_
  refine TL_nil ?_
  refine TX_then ?_
  refine TC_cond rfl (fun h => absurd (h.symm.trans ((show (_ : Bool) = false by rfl))) (by decide)) (fun _ => ?_)
  refine TC_exit ?_
  refine TX_then_exit ?_
  refine TX_then_exit ?_
  refine TX_block_here ?_
  exact TX_ret (.inr rfl) (res0 rfl) ⟨_, ⟨rfl, rfl⟩, fun _ h => h⟩
theorem grow_nil_bits (w0 : World) (η : Heap) : CallsT Tryd.prog 43 [nilS] (St w0 η) fun v A' => v = .tuple #[] ∧ A' = St w0 η := by
  refine CallsT.body Tryd.func43 rfl rfl ?_
  simp only [Tryd.ntmps43, slotsOf, Nat.reduceAdd]
  refine TC_seq ?_
  refine TC_reg ?_
  refine TL_q rfl rfl (QT_assign rfl rfl rfl) ?_
  refine TL_nil ?_
  refine TX_then ?_
  refine TC_block ?_
  refine TC_loop (γ := Unit) (fun _ => [(0, true, nilS), (2, true, .int .i64 0)]) (fun _ => St w0 η) (fun _ => 0) () ⟨rfl, rfl, trivial⟩ (fun _ h => h) ?_
  rintro ⟨⟩
  dsimp only [nilS]
  refine TC_seq ?_
  refine TC_seq ?_
  refine TC_reg ?_
  refine TL_q rfl rfl (QT_move rfl rfl rfl) ?_
  refine TL_q rfl rfl (QT_move rfl rfl rfl) ?_
  refine TL_q rfl rfl (QT_len rfl rfl Tryd.underlying36 rfl) ?_
  refine TL_q rfl rfl (QT_lss rfl rfl rfl rfl) ?_
  refine TL_nil ?_
  refine TX_then ?_
  refine TC_cond rfl (fun h => absurd (h.symm.trans ((show (_ : Bool) = false by rfl))) (by decide)) (fun _ => ?_)
  refine TC_exit ?_
  refine TX_then_exit ?_
  refine TX_then_exit ?_
  refine TX_block_here ?_
  exact TX_ret (.inr rfl) (res0 rfl) ⟨_, ⟨rfl, rfl⟩, fun _ h => h⟩
theorem marked_nil_bits (w0 : World) (η : Heap) : CallsT Tryd.prog 56 [nilS] (St w0 η) fun v A' => v = .bool true ∧ A' = St w0 η := by
  refine CallsT.body Tryd.func56 rfl rfl ?_
  simp only [Tryd.ntmps56, slotsOf, Nat.reduceAdd]
  refine TC_seq ?_
  refine TC_reg ?_
  refine TL_q rfl rfl (QT_assign rfl rfl rfl) ?_
  refine TL_nil ?_
  refine TX_then ?_
  refine TC_seq ?_
  refine TC_seq ?_
  refine TC_reg ?_
  refine TL_q rfl rfl (QT_assign rfl rfl rfl) ?_
  refine TL_nil ?_
  refine TX_then ?_
  refine TC_block ?_
  refine TC_loop (γ := Unit) (fun _ => [(0, true, nilS), (3, true, .int .i64 0)]) (fun _ => St w0 η) (fun _ => 0) () ⟨rfl, rfl, trivial⟩ (fun _ h => h) ?_
  rintro ⟨⟩
  dsimp only [nilS]
  refine TC_seq ?_
  refine TC_seq ?_
  refine TC_reg ?_
  refine TL_q rfl rfl (QT_move rfl rfl rfl) ?_
  refine TL_q rfl rfl (QT_move rfl rfl rfl) ?_
  refine TL_q rfl rfl (QT_len rfl rfl Tryd.underlying36 rfl) ?_
  refine TL_q rfl rfl (QT_lss rfl rfl rfl rfl) ?_
  refine TL_nil ?_
  refine TX_then ?_
  refine TC_cond rfl (fun h => absurd (h.symm.trans ((show (_ : Bool) = false by rfl))) (by decide)) (fun _ => ?_)
  refine TC_exit ?_
  refine TX_then_exit ?_
  refine TX_then_exit ?_
  refine TX_block_here ?_
  refine TX_then ?_
  refine TC_seq ?_
  refine TC_reg ?_
  refine TL_q rfl rfl (QT_assign rfl rfl rfl) ?_
  refine TL_nil ?_
  refine TX_then ?_
  refine TC_ret ?_
  exact TX_ret (.inl rfl) (res1 rfl rfl) ⟨_, ⟨rfl, rfl⟩, fun _ h => h⟩
theorem fill_nil_fixes (w0 : World) (η : Heap) : CallsT Tryd.prog 31 [nilS] (St w0 η) fun v A' => v = .tuple #[] ∧ A' = St w0 η := by
  refine CallsT.body Tryd.func31 rfl rfl ?_
  simp only [Tryd.ntmps31, slotsOf, Nat.reduceAdd]
  refine TC_seq ?_
  refine TC_reg ?_
  refine TL_q rfl rfl (QT_assign rfl rfl rfl) ?_
  refine TL_nil ?_
  refine TX_then ?_
  refine TC_block ?_
  refine TC_loop (γ := Unit) (fun _ => [(0, true, nilS), (2, true, .int .i64 0)]) (fun _ => St w0 η) (fun _ => 0) () ⟨rfl, rfl, trivial⟩ (fun _ h => h) ?_
  rintro ⟨⟩
  dsimp only [nilS]
  refine TC_seq ?_
  refine TC_seq ?_
  refine TC_reg ?_
  refine TL_q rfl rfl (QT_move rfl rfl rfl) ?_
  refine TL_q rfl rfl (QT_move rfl rfl rfl) ?_
  refine TL_q rfl rfl (QT_len rfl rfl Tryd.underlying37 rfl) ?_
  refine TL_q rfl rfl (QT_lss rfl rfl rfl rfl) ?_
  refine TL_nil ?_
  refine TX_then ?_
  refine TC_cond rfl (fun h => absurd (h.symm.trans ((show (_ : Bool) = false by rfl))) (by decide)) (fun _ => ?_)
  refine TC_exit ?_
  refine TX_then_exit ?_
  refine TX_then_exit ?_
  refine TX_block_here ?_
  exact TX_ret (.inr rfl) (res0 rfl) ⟨_, ⟨rfl, rfl⟩, fun _ h => h⟩
theorem grow_nil_fixes (w0 : World) (η : Heap) : CallsT Tryd.prog 44 [nilS] (St w0 η) fun v A' => v = .tuple #[] ∧ A' = St w0 η := by
  refine CallsT.body Tryd.func44 rfl rfl ?_
  simp only [Tryd.ntmps44, slotsOf, Nat.reduceAdd]
  refine TC_seq ?_
  refine TC_reg ?_
  refine TL_q rfl rfl (QT_assign rfl rfl rfl) ?_
  refine TL_nil ?_
  refine TX_then ?_
  refine TC_block ?_
  refine TC_loop (γ := Unit) (fun _ => [(0, true, nilS), (2, true, .int .i64 0)]) (fun _ => St w0 η) (fun _ => 0) () ⟨rfl, rfl, trivial⟩ (fun _ h => h) ?_
  rintro ⟨⟩
  dsimp only [nilS]
  refine TC_seq ?_
  refine TC_seq ?_
  refine TC_reg ?_
  refine TL_q rfl rfl (QT_move rfl rfl rfl) ?_
  refine TL_q rfl rfl (QT_move rfl rfl rfl) ?_
  refine TL_q rfl rfl (QT_len rfl rfl Tryd.underlying37 rfl) ?_
  refine TL_q rfl rfl (QT_lss rfl rfl rfl rfl) ?_
  refine TL_nil ?_
  refine TX_then ?_
  refine TC_cond rfl (fun h => absurd (h.symm.trans ((show (_ : Bool) = false by rfl))) (by decide)) (fun _ => ?_)
  refine TC_exit ?_
  refine TX_then_exit ?_
  refine TX_then_exit ?_
  refine TX_block_here ?_
  exact TX_ret (.inr rfl) (res0 rfl) ⟨_, ⟨rfl, rfl⟩, fun _ h => h⟩
theorem marked_nil_fixes (w0 : World) (η : Heap) : CallsT Tryd.prog 57 [nilS] (St w0 η) fun v A' => v = .bool true ∧ A' = St w0 η := by
  refine CallsT.body Tryd.func57 rfl rfl ?_
  simp only [Tryd.ntmps57, slotsOf, Nat.reduceAdd]
  refine TC_seq ?_
  refine TC_reg ?_
  refine TL_q rfl rfl (QT_assign rfl rfl rfl) ?_
  refine TL_nil ?_
  refine TX_then ?_
  refine TC_seq ?_
  refine TC_seq ?_
  refine TC_reg ?_
  refine TL_q rfl rfl (QT_assign rfl rfl rfl) ?_
  refine TL_nil ?_
  refine TX_then ?_
  refine TC_block ?_
  refine TC_loop (γ := Unit) (fun _ => [(0, true, nilS), (3, true, .int .i64 0)]) (fun _ => St w0 η) (fun _ => 0) () ⟨rfl, rfl, trivial⟩ (fun _ h => h) ?_
  rintro ⟨⟩
  dsimp only [nilS]
  refine TC_seq ?_
  refine TC_seq ?_
  refine TC_reg ?_
  refine TL_q rfl rfl (QT_move rfl rfl rfl) ?_
  refine TL_q rfl rfl (QT_move rfl rfl rfl) ?_
  refine TL_q rfl rfl (QT_len rfl rfl Tryd.underlying37 rfl) ?_
  refine TL_q rfl rfl (QT_lss rfl rfl rfl rfl) ?_
  refine TL_nil ?_
  refine TX_then ?_
  refine TC_cond rfl (fun h => absurd (h.symm.trans ((show (_ : Bool) = false by rfl))) (by decide)) (fun _ => ?_)
  refine TC_exit ?_
  refine TX_then_exit ?_
  refine TX_then_exit ?_
  refine TX_block_here ?_
  refine TX_then ?_
  refine TC_seq ?_
  refine TC_reg ?_
  refine TL_q rfl rfl (QT_assign rfl rfl rfl) ?_
  refine TL_nil ?_
  refine TX_then ?_
  refine TC_ret ?_
  exact TX_ret (.inl rfl) (res1 rfl rfl) ⟨_, ⟨rfl, rfl⟩, fun _ h => h⟩
theorem fill_nil_sheets (w0 : World) (η : Heap) : CallsT Tryd.prog 34 [nilS] (St w0 η) fun v A' => v = .tuple #[] ∧ A' = St w0 η := by
  refine CallsT.body Tryd.func34 rfl rfl ?_
  simp only [Tryd.ntmps34, slotsOf, Nat.reduceAdd]
  refine TC_seq ?_
  refine TC_reg ?_
  refine TL_q rfl rfl (QT_assign rfl rfl rfl) ?_
  refine TL_nil ?_
  refine TX_then ?_
  refine TC_block ?_
  refine TC_loop (γ := Unit) (fun _ => [(0, true, nilS), (2, true, .int .i64 0)]) (fun _ => St w0 η) (fun _ => 0) () ⟨rfl, rfl, trivial⟩ (fun _ h => h) ?_
  rintro ⟨⟩
  dsimp only [nilS]
  refine TC_seq ?_
  refine TC_seq ?_
  refine TC_reg ?_
  refine TL_q rfl rfl (QT_move rfl rfl rfl) ?_
  refine TL_q rfl rfl (QT_move rfl rfl rfl) ?_
  refine TL_q rfl rfl (QT_len rfl rfl Tryd.underlying40 rfl) ?_
  refine TL_q rfl rfl (QT_lss rfl rfl rfl rfl) ?_
  refine TL_nil ?_
  refine TX_then ?_
  refine TC_cond rfl (fun h => absurd (h.symm.trans ((show (_ : Bool) = false by rfl))) (by decide)) (fun _ => ?_)
  refine TC_exit ?_
  refine TX_then_exit ?_
  refine TX_then_exit ?_
  refine TX_block_here ?_
  exact TX_ret (.inr rfl) (res0 rfl) ⟨_, ⟨rfl, rfl⟩, fun _ h => h⟩
theorem grow_nil_sheets (w0 : World) (η : Heap) : CallsT Tryd.prog 47 [nilS] (St w0 η) fun v A' => v = .tuple #[] ∧ A' = St w0 η := by
  refine CallsT.body Tryd.func47 rfl rfl ?_
  simp only [Tryd.ntmps47, slotsOf, Nat.reduceAdd]
  refine TC_seq ?_
  refine TC_reg ?_
  refine TL_q rfl rfl (QT_assign rfl rfl rfl) ?_
  refine TL_nil ?_
  refine TX_then ?_
  refine TC_block ?_
  refine TC_loop (γ := Unit) (fun _ => [(0, true, nilS), (2, true, .int .i64 0)]) (fun _ => St w0 η) (fun _ => 0) () ⟨rfl, rfl, trivial⟩ (fun _ h => h) ?_
  rintro ⟨⟩
  dsimp only [nilS]
  refine TC_seq ?_
  refine TC_seq ?_
  refine TC_reg ?_
  refine TL_q rfl rfl (QT_move rfl rfl rfl) ?_
  refine TL_q rfl rfl (QT_move rfl rfl rfl) ?_
  refine TL_q rfl rfl (QT_len rfl rfl Tryd.underlying40 rfl) ?_
  refine TL_q rfl rfl (QT_lss rfl rfl rfl rfl) ?_
  refine TL_nil ?_
  refine TX_then ?_
  refine TC_cond rfl (fun h => absurd (h.symm.trans ((show (_ : Bool) = false by rfl))) (by decide)) (fun _ => ?_)
  refine TC_exit ?_
  refine TX_then_exit ?_
  refine TX_then_exit ?_
  refine TX_block_here ?_
  exact TX_ret (.inr rfl) (res0 rfl) ⟨_, ⟨rfl, rfl⟩, fun _ h => h⟩
theorem marked_nil_sheets (w0 : World) (η : Heap) : CallsT Tryd.prog 60 [nilS] (St w0 η) fun v A' => v = .bool true ∧ A' = St w0 η := by
  refine CallsT.body Tryd.func60 rfl rfl ?_
  simp only [Tryd.ntmps60, slotsOf, Nat.reduceAdd]
  refine TC_seq ?_
  refine TC_reg ?_
  refine TL_q rfl rfl (QT_assign rfl rfl rfl) ?_
  refine TL_nil ?_
  refine TX_then ?_
  refine TC_seq ?_
  refine TC_seq ?_
  refine TC_reg ?_
  refine TL_q rfl rfl (QT_assign rfl rfl rfl) ?_
  refine TL_nil ?_
  refine TX_then ?_
  refine TC_block ?_
  refine TC_loop (γ := Unit) (fun _ => [(0, true, nilS), (3, true, .int .i64 0)]) (fun _ => St w0 η) (fun _ => 0) () ⟨rfl, rfl, trivial⟩ (fun _ h => h) ?_
  rintro ⟨⟩
  dsimp only [nilS]
  refine TC_seq ?_
  refine TC_seq ?_
  refine TC_reg ?_
  refine TL_q rfl rfl (QT_move rfl rfl rfl) ?_
  refine TL_q rfl rfl (QT_move rfl rfl rfl) ?_
  refine TL_q rfl rfl (QT_len rfl rfl Tryd.underlying40 rfl) ?_
  refine TL_q rfl rfl (QT_lss rfl rfl rfl rfl) ?_
  refine TL_nil ?_
  refine TX_then ?_
  refine TC_cond rfl (fun h => absurd (h.symm.trans ((show (_ : Bool) = false by rfl))) (by decide)) (fun _ => ?_)
  refine TC_exit ?_
  refine TX_then_exit ?_
  refine TX_then_exit ?_
  refine TX_block_here ?_
  refine TX_then ?_
  refine TC_seq ?_
  refine TC_reg ?_
  refine TL_q rfl rfl (QT_assign rfl rfl rfl) ?_
  refine TL_nil ?_
  refine TX_then ?_
  refine TC_ret ?_
  exact TX_ret (.inl rfl) (res1 rfl rfl) ⟨_, ⟨rfl, rfl⟩, fun _ h => h⟩
theorem fill_nil_tiles (w0 : World) (η : Heap) : CallsT Tryd.prog 35 [nilS] (St w0 η) fun v A' => v = .tuple #[] ∧ A' = St w0 η := by
  refine CallsT.body Tryd.func35 rfl rfl ?_
  simp only [Tryd.ntmps35, slotsOf, Nat.reduceAdd]
  refine TC_seq ?_
  refine TC_reg ?_
  refine TL_q rfl rfl (QT_assign rfl rfl rfl) ?_
  refine TL_nil ?_
  refine TX_then ?_
  refine TC_block ?_
  refine TC_loop (γ := Unit) (fun _ => [(0, true, nilS), (2, true, .int .i64 0)]) (fun _ => St w0 η) (fun _ => 0) () ⟨rfl, rfl, trivial⟩ (fun _ h => h) ?_
  rintro ⟨⟩
  dsimp only [nilS]
  refine TC_seq ?_
  refine TC_seq ?_
  refine TC_reg ?_
  refine TL_q rfl rfl (QT_move rfl rfl rfl) ?_
  refine TL_q rfl rfl (QT_move rfl rfl rfl) ?_
  refine TL_q rfl rfl (QT_len rfl rfl Tryd.underlying41 rfl) ?_
  refine TL_q rfl rfl (QT_lss rfl rfl rfl rfl) ?_
  refine TL_nil ?_
  refine TX_then ?_
  refine TC_cond rfl (fun h => absurd (h.symm.trans ((show (_ : Bool) = false by rfl))) (by decide)) (fun _ => ?_)
  refine TC_exit ?_
  refine TX_then_exit ?_
  refine TX_then_exit ?_
  refine TX_block_here ?_
  exact TX_ret (.inr rfl) (res0 rfl) ⟨_, ⟨rfl, rfl⟩, fun _ h => h⟩
theorem grow_nil_tiles (w0 : World) (η : Heap) : CallsT Tryd.prog 48 [nilS] (St w0 η) fun v A' => v = .tuple #[] ∧ A' = St w0 η := by
  refine CallsT.body Tryd.func48 rfl rfl ?_
  simp only [Tryd.ntmps48, slotsOf, Nat.reduceAdd]
  refine TC_seq ?_
  refine TC_reg ?_
  refine TL_q rfl rfl (QT_assign rfl rfl rfl) ?_
  refine TL_nil ?_
  refine TX_then ?_
  refine TC_block ?_
  refine TC_loop (γ := Unit) (fun _ => [(0, true, nilS), (2, true, .int .i64 0)]) (fun _ => St w0 η) (fun _ => 0) () ⟨rfl, rfl, trivial⟩ (fun _ h => h) ?_
  rintro ⟨⟩
  dsimp only [nilS]
  refine TC_seq ?_
  refine TC_seq ?_
  refine TC_reg ?_
  refine TL_q rfl rfl (QT_move rfl rfl rfl) ?_
  refine TL_q rfl rfl (QT_move rfl rfl rfl) ?_
  refine TL_q rfl rfl (QT_len rfl rfl Tryd.underlying41 rfl) ?_
  refine TL_q rfl rfl (QT_lss rfl rfl rfl rfl) ?_
  refine TL_nil ?_
  refine TX_then ?_
  refine TC_cond rfl (fun h => absurd (h.symm.trans ((show (_ : Bool) = false by rfl))) (by decide)) (fun _ => ?_)
  refine TC_exit ?_
  refine TX_then_exit ?_
  refine TX_then_exit ?_
  refine TX_block_here ?_
  exact TX_ret (.inr rfl) (res0 rfl) ⟨_, ⟨rfl, rfl⟩, fun _ h => h⟩
theorem marked_nil_tiles (w0 : World) (η : Heap) : CallsT Tryd.prog 61 [nilS] (St w0 η) fun v A' => v = .bool true ∧ A' = St w0 η := by
  refine CallsT.body Tryd.func61 rfl rfl ?_
  simp only [Tryd.ntmps61, slotsOf, Nat.reduceAdd]
  refine TC_seq ?_
  refine TC_reg ?_
  refine TL_q rfl rfl (QT_assign rfl rfl rfl) ?_
  refine TL_nil ?_
  refine TX_then ?_
  refine TC_seq ?_
  refine TC_seq ?_
  refine TC_reg ?_
  refine TL_q rfl rfl (QT_assign rfl rfl rfl) ?_
  refine TL_nil ?_
  refine TX_then ?_
  refine TC_block ?_
  refine TC_loop (γ := Unit) (fun _ => [(0, true, nilS), (3, true, .int .i64 0)]) (fun _ => St w0 η) (fun _ => 0) () ⟨rfl, rfl, trivial⟩ (fun _ h => h) ?_
  rintro ⟨⟩
  dsimp only [nilS]
  refine TC_seq ?_
  refine TC_seq ?_
  refine TC_reg ?_
  refine TL_q rfl rfl (QT_move rfl rfl rfl) ?_
  refine TL_q rfl rfl (QT_move rfl rfl rfl) ?_
  refine TL_q rfl rfl (QT_len rfl rfl Tryd.underlying41 rfl) ?_
  refine TL_q rfl rfl (QT_lss rfl rfl rfl rfl) ?_
  refine TL_nil ?_
  refine TX_then ?_
  refine TC_cond rfl (fun h => absurd (h.symm.trans ((show (_ : Bool) = false by rfl))) (by decide)) (fun _ => ?_)
  refine TC_exit ?_
  refine TX_then_exit ?_
  refine TX_then_exit ?_
  refine TX_block_here ?_
  refine TX_then ?_
  refine TC_seq ?_
  refine TC_reg ?_
  refine TL_q rfl rfl (QT_assign rfl rfl rfl) ?_
  refine TL_nil ?_
  refine TX_then ?_
  refine TC_ret ?_
  exact TX_ret (.inl rfl) (res1 rfl rfl) ⟨_, ⟨rfl, rfl⟩, fun _ h => h⟩
theorem fill_nil_dots (w0 : World) (η : Heap) : CallsT Tryd.prog 36 [nilS] (St w0 η) fun v A' => v = .tuple #[] ∧ A' = St w0 η := by
  refine CallsT.body Tryd.func36 rfl rfl ?_
  simp only [Tryd.ntmps36, slotsOf, Nat.reduceAdd]
  refine TC_seq ?_
  refine TC_reg ?_
  refine TL_q rfl rfl (QT_assign rfl rfl rfl) ?_
  refine TL_nil ?_
  refine TX_then ?_
  refine TC_block ?_
  refine TC_loop (γ := Unit) (fun _ => [(0, true, nilS), (2, true, .int .i64 0)]) (fun _ => St w0 η) (fun _ => 0) () ⟨rfl, rfl, trivial⟩ (fun _ h => h) ?_
  rintro ⟨⟩
  dsimp only [nilS]
  refine TC_seq ?_
  refine TC_seq ?_
  refine TC_reg ?_
  refine TL_q rfl rfl (QT_move rfl rfl rfl) ?_
  refine TL_q rfl rfl (QT_move rfl rfl rfl) ?_
  refine TL_q rfl rfl (QT_len rfl rfl Tryd.underlying42 rfl) ?_
  refine TL_q rfl rfl (QT_lss rfl rfl rfl rfl) ?_
  refine TL_nil ?_
  refine TX_then ?_
  refine TC_cond rfl (fun h => absurd (h.symm.trans ((show (_ : Bool) = false by rfl))) (by decide)) (fun _ => ?_)
  refine TC_exit ?_
  refine TX_then_exit ?_
  refine TX_then_exit ?_
  refine TX_block_here ?_
  exact TX_ret (.inr rfl) (res0 rfl) ⟨_, ⟨rfl, rfl⟩, fun _ h => h⟩
theorem grow_nil_dots (w0 : World) (η : Heap) : CallsT Tryd.prog 49 [nilS] (St w0 η) fun v A' => v = .tuple #[] ∧ A' = St w0 η := by
  refine CallsT.body Tryd.func49 rfl rfl ?_
  simp only [Tryd.ntmps49, slotsOf, Nat.reduceAdd]
  refine TC_seq ?_
  refine TC_reg ?_
  refine TL_q rfl rfl (QT_assign rfl rfl rfl) ?_
  refine TL_nil ?_
  refine TX_then ?_
  refine TC_block ?_
  refine TC_loop (γ := Unit) (fun _ => [(0, true, nilS), (2, true, .int .i64 0)]) (fun _ => St w0 η) (fun _ => 0) () ⟨rfl, rfl, trivial⟩ (fun _ h => h) ?_
  rintro ⟨⟩
  dsimp only [nilS]
  refine TC_seq ?_
  refine TC_seq ?_
  refine TC_reg ?_
  refine TL_q rfl rfl (QT_move rfl rfl rfl) ?_
  refine TL_q rfl rfl (QT_move rfl rfl rfl) ?_
  refine TL_q rfl rfl (QT_len rfl rfl Tryd.underlying42 rfl) ?_
  refine TL_q rfl rfl (QT_lss rfl rfl rfl rfl) ?_
  refine TL_nil ?_
  refine TX_then ?_
  refine TC_cond rfl (fun h => absurd (h.symm.trans ((show (_ : Bool) = false by rfl))) (by decide)) (fun _ => ?_)
  refine TC_exit ?_
  refine TX_then_exit ?_
  refine TX_then_exit ?_
  refine TX_block_here ?_
  exact TX_ret (.inr rfl) (res0 rfl) ⟨_, ⟨rfl, rfl⟩, fun _ h => h⟩
theorem marked_nil_dots (w0 : World) (η : Heap) : CallsT Tryd.prog 62 [nilS] (St w0 η) fun v A' => v = .bool true ∧ A' = St w0 η := by
  refine CallsT.body Tryd.func62 rfl rfl ?_
  simp only [Tryd.ntmps62, slotsOf, Nat.reduceAdd]
  refine TC_seq ?_
  refine TC_reg ?_
  refine TL_q rfl rfl (QT_assign rfl rfl rfl) ?_
  refine TL_nil ?_
  refine TX_then ?_
  refine TC_seq ?_
  refine TC_seq ?_
  refine TC_reg ?_
  refine TL_q rfl rfl (QT_assign rfl rfl rfl) ?_
  refine TL_nil ?_
  refine TX_then ?_
  refine TC_block ?_
  refine TC_loop (γ := Unit) (fun _ => [(0, true, nilS), (3, true, .int .i64 0)]) (fun _ => St w0 η) (fun _ => 0) () ⟨rfl, rfl, trivial⟩ (fun _ h => h) ?_
  rintro ⟨⟩
  dsimp only [nilS]
  refine TC_seq ?_
  refine TC_seq ?_
  refine TC_reg ?_
  refine TL_q rfl rfl (QT_move rfl rfl rfl) ?_
  refine TL_q rfl rfl (QT_move rfl rfl rfl) ?_
  refine TL_q rfl rfl (QT_len rfl rfl Tryd.underlying42 rfl) ?_
  refine TL_q rfl rfl (QT_lss rfl rfl rfl rfl) ?_
  refine TL_nil ?_
  refine TX_then ?_
  refine TC_cond rfl (fun h => absurd (h.symm.trans ((show (_ : Bool) = false by rfl))) (by decide)) (fun _ => ?_)
  refine TC_exit ?_
  refine TX_then_exit ?_
  refine TX_then_exit ?_
  refine TX_block_here ?_
  refine TX_then ?_
  refine TC_seq ?_
  refine TC_reg ?_
  refine TL_q rfl rfl (QT_assign rfl rfl rfl) ?_
  refine TL_nil ?_
  refine TX_then ?_
  refine TC_ret ?_
  exact TX_ret (.inl rfl) (res1 rfl rfl) ⟨_, ⟨rfl, rfl⟩, fun _ h => h⟩
theorem fill_nil_facets (w0 : World) (η : Heap) : CallsT Tryd.prog 37 [nilS] (St w0 η) fun v A' => v = .tuple #[] ∧ A' = St w0 η := by
  refine CallsT.body Tryd.func37 rfl rfl ?_
  simp only [Tryd.ntmps37, slotsOf, Nat.reduceAdd]
  refine TC_seq ?_
  refine TC_reg ?_
  refine TL_q rfl rfl (QT_assign rfl rfl rfl) ?_
  refine TL_nil ?_
  refine TX_then ?_
  refine TC_block ?_
  refine TC_loop (γ := Unit) (fun _ => [(0, true, nilS), (2, true, .int .i64 0)]) (fun _ => St w0 η) (fun _ => 0) () ⟨rfl, rfl, trivial⟩ (fun _ h => h) ?_
  rintro ⟨⟩
  dsimp only [nilS]
  refine TC_seq ?_
  refine TC_seq ?_
  refine TC_reg ?_
  refine TL_q rfl rfl (QT_move rfl rfl rfl) ?_
  refine TL_q rfl rfl (QT_move rfl rfl rfl) ?_
  refine TL_q rfl rfl (QT_len rfl rfl Tryd.underlying43 rfl) ?_
  refine TL_q rfl rfl (QT_lss rfl rfl rfl rfl) ?_
  refine TL_nil ?_
  refine TX_then ?_
  refine TC_cond rfl (fun h => absurd (h.symm.trans ((show (_ : Bool) = false by rfl))) (by decide)) (fun _ => ?_)
  refine TC_exit ?_
  refine TX_then_exit ?_
  refine TX_then_exit ?_
  refine TX_block_here ?_
  exact TX_ret (.inr rfl) (res0 rfl) ⟨_, ⟨rfl, rfl⟩, fun _ h => h⟩
theorem grow_nil_facets (w0 : World) (η : Heap) : CallsT Tryd.prog 50 [nilS] (St w0 η) fun v A' => v = .tuple #[] ∧ A' = St w0 η := by
  refine CallsT.body Tryd.func50 rfl rfl ?_
  simp only [Tryd.ntmps50, slotsOf, Nat.reduceAdd]
  refine TC_seq ?_
  refine TC_reg ?_
  refine TL_q rfl rfl (QT_assign rfl rfl rfl) ?_
  refine TL_nil ?_
  refine TX_then ?_
  refine TC_block ?_
  refine TC_loop (γ := Unit) (fun _ => [(0, true, nilS), (2, true, .int .i64 0)]) (fun _ => St w0 η) (fun _ => 0) () ⟨rfl, rfl, trivial⟩ (fun _ h => h) ?_
  rintro ⟨⟩
  dsimp only [nilS]
  refine TC_seq ?_
  refine TC_seq ?_
  refine TC_reg ?_
  refine TL_q rfl rfl (QT_move rfl rfl rfl) ?_
  refine TL_q rfl rfl (QT_move rfl rfl rfl) ?_
  refine TL_q rfl rfl (QT_len rfl rfl Tryd.underlying43 rfl) ?_
  refine TL_q rfl rfl (QT_lss rfl rfl rfl rfl) ?_
  refine TL_nil ?_
  refine TX_then ?_
  refine TC_cond rfl (fun h => absurd (h.symm.trans ((show (_ : Bool) = false by rfl))) (by decide)) (fun _ => ?_)
  refine TC_exit ?_
  refine TX_then_exit ?_
  refine TX_then_exit ?_
  refine TX_block_here ?_
  exact TX_ret (.inr rfl) (res0 rfl) ⟨_, ⟨rfl, rfl⟩, fun _ h => h⟩
theorem marked_nil_facets (w0 : World) (η : Heap) : CallsT Tryd.prog 63 [nilS] (St w0 η) fun v A' => v = .bool true ∧ A' = St w0 η := by
  refine CallsT.body Tryd.func63 rfl rfl ?_
  simp only [Tryd.ntmps63, slotsOf, Nat.reduceAdd]
  refine TC_seq ?_
  refine TC_reg ?_
  refine TL_q rfl rfl (QT_assign rfl rfl rfl) ?_
  refine TL_nil ?_
  refine TX_then ?_
  refine TC_seq ?_
  refine TC_seq ?_
  refine TC_reg ?_
  refine TL_q rfl rfl (QT_assign rfl rfl rfl) ?_
  refine TL_nil ?_
  refine TX_then ?_
  refine TC_block ?_
  refine TC_loop (γ := Unit) (fun _ => [(0, true, nilS), (3, true, .int .i64 0)]) (fun _ => St w0 η) (fun _ => 0) () ⟨rfl, rfl, trivial⟩ (fun _ h => h) ?_
  rintro ⟨⟩
  dsimp only [nilS]
  refine TC_seq ?_
  refine TC_seq ?_
  refine TC_reg ?_
  refine TL_q rfl rfl (QT_move rfl rfl rfl) ?_
  refine TL_q rfl rfl (QT_move rfl rfl rfl) ?_
  refine TL_q rfl rfl (QT_len rfl rfl Tryd.underlying43 rfl) ?_
  refine TL_q rfl rfl (QT_lss rfl rfl rfl rfl) ?_
  refine TL_nil ?_
  refine TX_then ?_
  refine TC_cond rfl (fun h => absurd (h.symm.trans ((show (_ : Bool) = false by rfl))) (by decide)) (fun _ => ?_)
  refine TC_exit ?_
  refine TX_then_exit ?_
  refine TX_then_exit ?_
  refine TX_block_here ?_
  refine TX_then ?_
  refine TC_seq ?_
  refine TC_reg ?_
  refine TL_q rfl rfl (QT_assign rfl rfl rfl) ?_
  refine TL_nil ?_
  refine TX_then ?_
  refine TC_ret ?_
  exact TX_ret (.inl rfl) (res1 rfl rfl) ⟨_, ⟨rfl, rfl⟩, fun _ h => h⟩
theorem fill_nil_tokens (w0 : World) (η : Heap) : CallsT Tryd.prog 38 [nilS] (St w0 η) fun v A' => v = .tuple #[] ∧ A' = St w0 η := by
  refine CallsT.body Tryd.func38 rfl rfl ?_
  simp only [Tryd.ntmps38, slotsOf, Nat.reduceAdd]
  refine TC_seq ?_
  refine TC_reg ?_
  refine TL_q rfl rfl (QT_assign rfl rfl rfl) ?_
  refine TL_nil ?_
  refine TX_then ?_
  refine TC_block ?_
  refine TC_loop (γ := Unit) (fun _ => [(0, true, nilS), (2, true, .int .i64 0)]) (fun _ => St w0 η) (fun _ => 0) () ⟨rfl, rfl, trivial⟩ (fun _ h => h) ?_
  rintro ⟨⟩
  dsimp only [nilS]
  refine TC_seq ?_
  refine TC_seq ?_
  refine TC_reg ?_
  refine TL_q rfl rfl (QT_move rfl rfl rfl) ?_
  refine TL_q rfl rfl (QT_move rfl rfl rfl) ?_
  refine TL_q rfl rfl (QT_len rfl rfl Tryd.underlying44 rfl) ?_
  refine TL_q rfl rfl (QT_lss rfl rfl rfl rfl) ?_
  refine TL_nil ?_
  refine TX_then ?_
  refine TC_cond rfl (fun h => absurd (h.symm.trans ((show (_ : Bool) = false by rfl))) (by decide)) (fun _ => ?_)
  refine TC_exit ?_
  refine TX_then_exit ?_
  refine TX_then_exit ?_
  refine TX_block_here ?_
  exact TX_ret (.inr rfl) (res0 rfl) ⟨_, ⟨rfl, rfl⟩, fun _ h => h⟩
theorem grow_nil_tokens (w0 : World) (η : Heap) : CallsT Tryd.prog 51 [nilS] (St w0 η) fun v A' => v = .tuple #[] ∧ A' = St w0 η := by
  refine CallsT.body Tryd.func51 rfl rfl ?_
  simp only [Tryd.ntmps51, slotsOf, Nat.reduceAdd]
  refine TC_seq ?_
  refine TC_reg ?_
  refine TL_q rfl rfl (QT_assign rfl rfl rfl) ?_
  refine TL_nil ?_
  refine TX_then ?_
  refine TC_block ?_
  refine TC_loop (γ := Unit) (fun _ => [(0, true, nilS), (2, true, .int .i64 0)]) (fun _ => St w0 η) (fun _ => 0) () ⟨rfl, rfl, trivial⟩ (fun _ h => h) ?_
  rintro ⟨⟩
  dsimp only [nilS]
  refine TC_seq ?_
  refine TC_seq ?_
  refine TC_reg ?_
  refine TL_q rfl rfl (QT_move rfl rfl rfl) ?_
  refine TL_q rfl rfl (QT_move rfl rfl rfl) ?_
  refine TL_q rfl rfl (QT_len rfl rfl Tryd.underlying44 rfl) ?_
  refine TL_q rfl rfl (QT_lss rfl rfl rfl rfl) ?_
  refine TL_nil ?_
  refine TX_then ?_
  refine TC_cond rfl (fun h => absurd (h.symm.trans ((show (_ : Bool) = false by rfl))) (by decide)) (fun _ => ?_)
  refine TC_exit ?_
  refine TX_then_exit ?_
  refine TX_then_exit ?_
  refine TX_block_here ?_
  exact TX_ret (.inr rfl) (res0 rfl) ⟨_, ⟨rfl, rfl⟩, fun _ h => h⟩
theorem marked_nil_tokens (w0 : World) (η : Heap) : CallsT Tryd.prog 64 [nilS] (St w0 η) fun v A' => v = .bool true ∧ A' = St w0 η := by
  refine CallsT.body Tryd.func64 rfl rfl ?_
  simp only [Tryd.ntmps64, slotsOf, Nat.reduceAdd]
  refine TC_seq ?_
  refine TC_reg ?_
  refine TL_q rfl rfl (QT_assign rfl rfl rfl) ?_
  refine TL_nil ?_
  refine TX_then ?_
  refine TC_seq ?_
  refine TC_seq ?_
  refine TC_reg ?_
  refine TL_q rfl rfl (QT_assign rfl rfl rfl) ?_
  refine TL_nil ?_
  refine TX_then ?_
  refine TC_block ?_
  refine TC_loop (γ := Unit) (fun _ => [(0, true, nilS), (3, true, .int .i64 0)]) (fun _ => St w0 η) (fun _ => 0) () ⟨rfl, rfl, trivial⟩ (fun _ h => h) ?_
  rintro ⟨⟩
  dsimp only [nilS]
  refine TC_seq ?_
  refine TC_seq ?_
  refine TC_reg ?_
  refine TL_q rfl rfl (QT_move rfl rfl rfl) ?_
  refine TL_q rfl rfl (QT_move rfl rfl rfl) ?_
  refine TL_q rfl rfl (QT_len rfl rfl Tryd.underlying44 rfl) ?_
  refine TL_q rfl rfl (QT_lss rfl rfl rfl rfl) ?_
  refine TL_nil ?_
  refine TX_then ?_
  refine TC_cond rfl (fun h => absurd (h.symm.trans ((show (_ : Bool) = false by rfl))) (by decide)) (fun _ => ?_)
  refine TC_exit ?_
  refine TX_then_exit ?_
  refine TX_then_exit ?_
  refine TX_block_here ?_
  refine TX_then ?_
  refine TC_seq ?_
  refine TC_reg ?_
  refine TL_q rfl rfl (QT_assign rfl rfl rfl) ?_
  refine TL_nil ?_
  refine TX_then ?_
  refine TC_ret ?_
  exact TX_ret (.inl rfl) (res1 rfl rfl) ⟨_, ⟨rfl, rfl⟩, fun _ h => h⟩
theorem fill_nil_codes (w0 : World) (η : Heap) : CallsT Tryd.prog 39 [nilS] (St w0 η) fun v A' => v = .tuple #[] ∧ A' = St w0 η := by
  refine CallsT.body Tryd.func39 rfl rfl ?_
  simp only [Tryd.ntmps39, slotsOf, Nat.reduceAdd]
  refine TC_seq ?_
  refine TC_reg ?_
  refine TL_q rfl rfl (QT_assign rfl rfl rfl) ?_
  refine TL_nil ?_
  refine TX_then ?_
  refine TC_block ?_
  refine TC_loop (γ := Unit) (fun _ => [(0, true, nilS), (2, true, .int .i64 0)]) (fun _ => St w0 η) (fun _ => 0) () ⟨rfl, rfl, trivial⟩ (fun _ h => h) ?_
  rintro ⟨⟩
  dsimp only [nilS]
  refine TC_seq ?_
  refine TC_seq ?_
  refine TC_reg ?_
  refine TL_q rfl rfl (QT_move rfl rfl rfl) ?_
  refine TL_q rfl rfl (QT_move rfl rfl rfl) ?_
  refine TL_q rfl rfl (QT_len rfl rfl Tryd.underlying45 rfl) ?_
  refine TL_q rfl rfl (QT_lss rfl rfl rfl rfl) ?_
  refine TL_nil ?_
  refine TX_then ?_
  refine TC_cond rfl (fun h => absurd (h.symm.trans ((show (_ : Bool) = false by rfl))) (by decide)) (fun _ => ?_)
  refine TC_exit ?_
  refine TX_then_exit ?_
  refine TX_then_exit ?_
  refine TX_block_here ?_
  exact TX_ret (.inr rfl) (res0 rfl) ⟨_, ⟨rfl, rfl⟩, fun _ h => h⟩
theorem grow_nil_codes (w0 : World) (η : Heap) : CallsT Tryd.prog 52 [nilS] (St w0 η) fun v A' => v = .tuple #[] ∧ A' = St w0 η := by
  refine CallsT.body Tryd.func52 rfl rfl ?_
  simp only [Tryd.ntmps52, slotsOf, Nat.reduceAdd]
  refine TC_seq ?_
  refine TC_reg ?_
  refine TL_q rfl rfl (QT_assign rfl rfl rfl) ?_
  refine TL_nil ?_
  refine TX_then ?_
  refine TC_block ?_
  refine TC_loop (γ := Unit) (fun _ => [(0, true, nilS), (2, true, .int .i64 0)]) (fun _ => St w0 η) (fun _ => 0) () ⟨rfl, rfl, trivial⟩ (fun _ h => h) ?_
  rintro ⟨⟩
  dsimp only [nilS]
  refine TC_seq ?_
  refine TC_seq ?_
  refine TC_reg ?_
  refine TL_q rfl rfl (QT_move rfl rfl rfl) ?_
  refine TL_q rfl rfl (QT_move rfl rfl rfl) ?_
  refine TL_q rfl rfl (QT_len rfl rfl Tryd.underlying45 rfl) ?_
  refine TL_q rfl rfl (QT_lss rfl rfl rfl rfl) ?_
  refine TL_nil ?_
  refine TX_then ?_
  refine TC_cond rfl (fun h => absurd (h.symm.trans ((show (_ : Bool) = false by rfl))) (by decide)) (fun _ => ?_)
  refine TC_exit ?_
  refine TX_then_exit ?_
  refine TX_then_exit ?_
  refine TX_block_here ?_
  exact TX_ret (.inr rfl) (res0 rfl) ⟨_, ⟨rfl, rfl⟩, fun _ h => h⟩
theorem marked_nil_codes (w0 : World) (η : Heap) : CallsT Tryd.prog 65 [nilS] (St w0 η) fun v A' => v = .bool true ∧ A' = St w0 η := by
  refine CallsT.body Tryd.func65 rfl rfl ?_
  simp only [Tryd.ntmps65, slotsOf, Nat.reduceAdd]
  refine TC_seq ?_
  refine TC_reg ?_
  refine TL_q rfl rfl (QT_assign rfl rfl rfl) ?_
  refine TL_nil ?_
  refine TX_then ?_
  refine TC_seq ?_
  refine TC_seq ?_
  refine TC_reg ?_
  refine TL_q rfl rfl (QT_assign rfl rfl rfl) ?_
  refine TL_nil ?_
  refine TX_then ?_
  refine TC_block ?_
  refine TC_loop (γ := Unit) (fun _ => [(0, true, nilS), (3, true, .int .i64 0)]) (fun _ => St w0 η) (fun _ => 0) () ⟨rfl, rfl, trivial⟩ (fun _ h => h) ?_
  rintro ⟨⟩
  dsimp only [nilS]
  refine TC_seq ?_
  refine TC_seq ?_
  refine TC_reg ?_
  refine TL_q rfl rfl (QT_move rfl rfl rfl) ?_
  refine TL_q rfl rfl (QT_move rfl rfl rfl) ?_
  refine TL_q rfl rfl (QT_len rfl rfl Tryd.underlying45 rfl) ?_
  refine TL_q rfl rfl (QT_lss rfl rfl rfl rfl) ?_
  refine TL_nil ?_
  refine TX_then ?_
  refine TC_cond rfl (fun h => absurd (h.symm.trans ((show (_ : Bool) = false by rfl))) (by decide)) (fun _ => ?_)
  refine TC_exit ?_
  refine TX_then_exit ?_
  refine TX_then_exit ?_
  refine TX_block_here ?_
  refine TX_then ?_
  refine TC_seq ?_
  refine TC_reg ?_
  refine TL_q rfl rfl (QT_assign rfl rfl rfl) ?_
  refine TL_nil ?_
  refine TX_then ?_
  refine TC_ret ?_
  exact TX_ret (.inl rfl) (res1 rfl rfl) ⟨_, ⟨rfl, rfl⟩, fun _ h => h⟩
theorem fill_nil_vals (w0 : World) (η : Heap) : CallsT Tryd.prog 40 [nilS] (St w0 η) fun v A' => v = .tuple #[] ∧ A' = St w0 η := by
  refine CallsT.body Tryd.func40 rfl rfl ?_
  simp only [Tryd.ntmps40, slotsOf, Nat.reduceAdd]
  refine TC_seq ?_
  refine TC_reg ?_
  refine TL_q rfl rfl (QT_assign rfl rfl rfl) ?_
  refine TL_nil ?_
  refine TX_then ?_
  refine TC_block ?_
  refine TC_loop (γ := Unit) (fun _ => [(0, true, nilS), (2, true, .int .i64 0)]) (fun _ => St w0 η) (fun _ => 0) () ⟨rfl, rfl, trivial⟩ (fun _ h => h) ?_
  rintro ⟨⟩
  dsimp only [nilS]
  refine TC_seq ?_
  refine TC_seq ?_
  refine TC_reg ?_
  refine TL_q rfl rfl (QT_move rfl rfl rfl) ?_
  refine TL_q rfl rfl (QT_move rfl rfl rfl) ?_
  refine TL_q rfl rfl (QT_len rfl rfl Tryd.underlying46 rfl) ?_
  refine TL_q rfl rfl (QT_lss rfl rfl rfl rfl) ?_
  refine TL_nil ?_
  refine TX_then ?_
  refine TC_cond rfl (fun h => absurd (h.symm.trans ((show (_ : Bool) = false by rfl))) (by decide)) (fun _ => ?_)
  refine TC_exit ?_
  refine TX_then_exit ?_
  refine TX_then_exit ?_
  refine TX_block_here ?_
  exact TX_ret (.inr rfl) (res0 rfl) ⟨_, ⟨rfl, rfl⟩, fun _ h => h⟩
theorem grow_nil_vals (w0 : World) (η : Heap) : CallsT Tryd.prog 53 [nilS] (St w0 η) fun v A' => v = .tuple #[] ∧ A' = St w0 η := by
  refine CallsT.body Tryd.func53 rfl rfl ?_
  simp only [Tryd.ntmps53, slotsOf, Nat.reduceAdd]
  refine TC_seq ?_
  refine TC_reg ?_
  refine TL_q rfl rfl (QT_assign rfl rfl rfl) ?_
  refine TL_nil ?_
  refine TX_then ?_
  refine TC_block ?_
  refine TC_loop (γ := Unit) (fun _ => [(0, true, nilS), (2, true, .int .i64 0)]) (fun _ => St w0 η) (fun _ => 0) () ⟨rfl, rfl, trivial⟩ (fun _ h => h) ?_
  rintro ⟨⟩
  dsimp only [nilS]
  refine TC_seq ?_
  refine TC_seq ?_
  refine TC_reg ?_
  refine TL_q rfl rfl (QT_move rfl rfl rfl) ?_
  refine TL_q rfl rfl (QT_move rfl rfl rfl) ?_
  refine TL_q rfl rfl (QT_len rfl rfl Tryd.underlying46 rfl) ?_
  refine TL_q rfl rfl (QT_lss rfl rfl rfl rfl) ?_
  refine TL_nil ?_
  refine TX_then ?_
  refine TC_cond rfl (fun h => absurd (h.symm.trans ((show (_ : Bool) = false by rfl))) (by decide)) (fun _ => ?_)
  refine TC_exit ?_
  refine TX_then_exit ?_
  refine TX_then_exit ?_
  refine TX_block_here ?_
  exact TX_ret (.inr rfl) (res0 rfl) ⟨_, ⟨rfl, rfl⟩, fun _ h => h⟩
theorem marked_nil_vals (w0 : World) (η : Heap) : CallsT Tryd.prog 66 [nilS] (St w0 η) fun v A' => v = .bool true ∧ A' = St w0 η := by
  refine CallsT.body Tryd.func66 rfl rfl ?_
  simp only [Tryd.ntmps66, slotsOf, Nat.reduceAdd]
  refine TC_seq ?_
  refine TC_reg ?_
  refine TL_q rfl rfl (QT_assign rfl rfl rfl) ?_
  refine TL_nil ?_
  refine TX_then ?_
  refine TC_seq ?_
  refine TC_seq ?_
  refine TC_reg ?_
  refine TL_q rfl rfl (QT_assign rfl rfl rfl) ?_
  refine TL_nil ?_
  refine TX_then ?_
  refine TC_block ?_
  refine TC_loop (γ := Unit) (fun _ => [(0, true, nilS), (3, true, .int .i64 0)]) (fun _ => St w0 η) (fun _ => 0) () ⟨rfl, rfl, trivial⟩ (fun _ h => h) ?_
  rintro ⟨⟩
  dsimp only [nilS]
  refine TC_seq ?_
  refine TC_seq ?_
  refine TC_reg ?_
  refine TL_q rfl rfl (QT_move rfl rfl rfl) ?_
  refine TL_q rfl rfl (QT_move rfl rfl rfl) ?_
  refine TL_q rfl rfl (QT_len rfl rfl Tryd.underlying46 rfl) ?_
  refine TL_q rfl rfl (QT_lss rfl rfl rfl rfl) ?_
  refine TL_nil ?_
  refine TX_then ?_
  refine TC_cond rfl (fun h => absurd (h.symm.trans ((show (_ : Bool) = false by rfl))) (by decide)) (fun _ => ?_)
  refine TC_exit ?_
  refine TX_then_exit ?_
  refine TX_then_exit ?_
  refine TX_block_here ?_
  refine TX_then ?_
  refine TC_seq ?_
  refine TC_reg ?_
  refine TL_q rfl rfl (QT_assign rfl rfl rfl) ?_
  refine TL_nil ?_
  refine TX_then ?_
  refine TC_ret ?_
  exact TX_ret (.inl rfl) (res1 rfl rfl) ⟨_, ⟨rfl, rfl⟩, fun _ h => h⟩
theorem fill_nil_spots (w0 : World) (η : Heap) : CallsT Tryd.prog 41 [nilS] (St w0 η) fun v A' => v = .tuple #[] ∧ A' = St w0 η := by
  refine CallsT.body Tryd.func41 rfl rfl ?_
  simp only [Tryd.ntmps41, slotsOf, Nat.reduceAdd]
  refine TC_seq ?_
  refine TC_reg ?_
  refine TL_q rfl rfl (QT_assign rfl rfl rfl) ?_
  refine TL_nil ?_
  refine TX_then ?_
  refine TC_block ?_
  refine TC_loop (γ := Unit) (fun _ => [(0, true, nilS), (2, true, .int .i64 0)]) (fun _ => St w0 η) (fun _ => 0) () ⟨rfl, rfl, trivial⟩ (fun _ h => h) ?_
  rintro ⟨⟩
  dsimp only [nilS]
  refine TC_seq ?_
  refine TC_seq ?_
  refine TC_reg ?_
  refine TL_q rfl rfl (QT_move rfl rfl rfl) ?_
  refine TL_q rfl rfl (QT_move rfl rfl rfl) ?_
  refine TL_q rfl rfl (QT_len rfl rfl Tryd.underlying47 rfl) ?_
  refine TL_q rfl rfl (QT_lss rfl rfl rfl rfl) ?_
  refine TL_nil ?_
  refine TX_then ?_
  refine TC_cond rfl (fun h => absurd (h.symm.trans ((show (_ : Bool) = false by rfl))) (by decide)) (fun _ => ?_)
  refine TC_exit ?_
  refine TX_then_exit ?_
  refine TX_then_exit ?_
  refine TX_block_here ?_
  exact TX_ret (.inr rfl) (res0 rfl) ⟨_, ⟨rfl, rfl⟩, fun _ h => h⟩
theorem grow_nil_spots (w0 : World) (η : Heap) : CallsT Tryd.prog 54 [nilS] (St w0 η) fun v A' => v = .tuple #[] ∧ A' = St w0 η := by
  refine CallsT.body Tryd.func54 rfl rfl ?_
  simp only [Tryd.ntmps54, slotsOf, Nat.reduceAdd]
  refine TC_seq ?_
  refine TC_reg ?_
  refine TL_q rfl rfl (QT_assign rfl rfl rfl) ?_
  refine TL_nil ?_
  refine TX_then ?_
  refine TC_block ?_
  refine TC_loop (γ := Unit) (fun _ => [(0, true, nilS), (2, true, .int .i64 0)]) (fun _ => St w0 η) (fun _ => 0) () ⟨rfl, rfl, trivial⟩ (fun _ h => h) ?_
  rintro ⟨⟩
  dsimp only [nilS]
  refine TC_seq ?_
  refine TC_seq ?_
  refine TC_reg ?_
  refine TL_q rfl rfl (QT_move rfl rfl rfl) ?_
  refine TL_q rfl rfl (QT_move rfl rfl rfl) ?_
  refine TL_q rfl rfl (QT_len rfl rfl Tryd.underlying47 rfl) ?_
  refine TL_q rfl rfl (QT_lss rfl rfl rfl rfl) ?_
  refine TL_nil ?_
  refine TX_then ?_
  refine TC_cond rfl (fun h => absurd (h.symm.trans ((show (_ : Bool) = false by rfl))) (by decide)) (fun _ => ?_)
  refine TC_exit ?_
  refine TX_then_exit ?_
  refine TX_then_exit ?_
  refine TX_block_here ?_
  exact TX_ret (.inr rfl) (res0 rfl) ⟨_, ⟨rfl, rfl⟩, fun _ h => h⟩
theorem marked_nil_spots (w0 : World) (η : Heap) : CallsT Tryd.prog 67 [nilS] (St w0 η) fun v A' => v = .bool true ∧ A' = St w0 η := by
  refine CallsT.body Tryd.func67 rfl rfl ?_
  simp only [Tryd.ntmps67, slotsOf, Nat.reduceAdd]
  refine TC_seq ?_
  refine TC_reg ?_
  refine TL_q rfl rfl (QT_assign rfl rfl rfl) ?_
  refine TL_nil ?_
  refine TX_then ?_
  refine TC_seq ?_
  refine TC_seq ?_
  refine TC_reg ?_
  refine TL_q rfl rfl (QT_assign rfl rfl rfl) ?_
  refine TL_nil ?_
  refine TX_then ?_
  refine TC_block ?_
  refine TC_loop (γ := Unit) (fun _ => [(0, true, nilS), (3, true, .int .i64 0)]) (fun _ => St w0 η) (fun _ => 0) () ⟨rfl, rfl, trivial⟩ (fun _ h => h) ?_
  rintro ⟨⟩
  dsimp only [nilS]
  refine TC_seq ?_
  refine TC_seq ?_
  refine TC_reg ?_
  refine TL_q rfl rfl (QT_move rfl rfl rfl) ?_
  refine TL_q rfl rfl (QT_move rfl rfl rfl) ?_
  refine TL_q rfl rfl (QT_len rfl rfl Tryd.underlying47 rfl) ?_
  refine TL_q rfl rfl (QT_lss rfl rfl rfl rfl) ?_
  refine TL_nil ?_
  refine TX_then ?_
  refine TC_cond rfl (fun h => absurd (h.symm.trans ((show (_ : Bool) = false by rfl))) (by decide)) (fun _ => ?_)
  refine TC_exit ?_
  refine TX_then_exit ?_
  refine TX_then_exit ?_
  refine TX_block_here ?_
  refine TX_then ?_
  refine TC_seq ?_
  refine TC_reg ?_
  refine TL_q rfl rfl (QT_assign rfl rfl rfl) ?_
  refine TL_nil ?_
  refine TX_then ?_
  refine TC_ret ?_
  exact TX_ret (.inl rfl) (res1 rfl rfl) ⟨_, ⟨rfl, rfl⟩, fun _ h => h⟩
theorem apart_spec (w0 : World) (η : Heap) (kb : Nat) (k : Bk) (h0 : 0 ≤ k.many ∧ k.many ≤ 250) (ss_recs : List Strip) (H_recs : Heap) (hF_recs : Frag 75 9 k.recs ss_recs.length (arrOf ss_recs) H_recs) (hs_recs : ∀ s ∈ ss_recs, s.ok 63 7 recK) (ss_tris : List Strip) (H_tris : Heap) (hF_tris : Frag 77 23 k.tris ss_tris.length (arrOf ss_tris) H_tris) (hs_tris : ∀ s ∈ ss_tris, s.ok 65 21 triK) (hn_bytes : k.bytes = nilS) (hn_bits : k.bits = nilS) (hn_fixes : k.fixes = nilS) (hn_sheets : k.sheets = nilS) (hn_tiles : k.tiles = nilS) (hn_dots : k.dots = nilS) (hn_facets : k.facets = nilS) (hn_tokens : k.tokens = nilS) (hn_codes : k.codes = nilS) (hn_vals : k.vals = nilS) (hn_spots : k.spots = nilS) :
    CallsT Tryd.prog 16 [.pointer (some ⟨kb, 0, none⟩)] (St w0 ((kb, 49, k.cells) :: (H_recs ++ (H_tris ++ (heapOf ss_recs ++ (heapOf ss_tris ++ (η))))))) fun v A' => v = .bool true ∧ A' = St w0 η := by
  obtain ⟨many, kbytes, kbits, kfixes, krecs, ktris, ksheets, ktiles, kdots, kfacets, ktokens, kcodes, kvals, kspots⟩ := k
  dsimp only at h0 hF_recs hF_tris hn_bytes hn_bits hn_fixes hn_sheets hn_tiles hn_dots hn_facets hn_tokens hn_codes hn_vals hn_spots
  subst hn_bytes hn_bits hn_fixes hn_sheets hn_tiles hn_dots hn_facets hn_tokens hn_codes hn_vals hn_spots
  have hFf_recs : Frag 75 9 krecs (ss_recs.map (fillS 7)).length (arrOf (ss_recs.map (fillS 7))) H_recs := by rw [List.length_map, arrOf_fill]; exact hF_recs
  have hsf_recs : ∀ s ∈ ss_recs.map (fillS 7), s.ok 63 7 recK ∧ s.xs = marks s.n s.mark := fun s h => by
    obtain ⟨s', h1, rfl⟩ := List.mem_map.1 h
    exact ⟨fillS_ok (hs_recs s' h1) rfl, rfl⟩
  have hFf_tris : Frag 77 23 ktris (ss_tris.map (fillS 21)).length (arrOf (ss_tris.map (fillS 21))) H_tris := by rw [List.length_map, arrOf_fill]; exact hF_tris
  have hsf_tris : ∀ s ∈ ss_tris.map (fillS 21), s.ok 65 21 triK ∧ s.xs = marks s.n s.mark := fun s h => by
    obtain ⟨s', h1, rfl⟩ := List.mem_map.1 h
    exact ⟨fillS_ok (hs_tris s' h1) rfl, rfl⟩
  refine CallsT.body Tryd.func16 rfl rfl ?_
  simp only [Tryd.ntmps16, slotsOf, Nat.reduceAdd]
  refine TC_seq ?_
  refine TC_reg ?_
  refine TL_q rfl rfl (QT_assign rfl rfl rfl) ?_
  refine TL_nil ?_
  refine TX_then ?_
  refine TC_seq ?_
  refine TC_seq ?_
  refine TC_reg ?_
  refine TL_q rfl rfl (QT_move rfl rfl rfl) ?_
  refine TL_q rfl rfl (QT_nilCheck rfl rfl rfl) ?_
  refine TL_q rfl rfl (QT_field rfl rfl YtannaanbadaflaaDoorF.fld_49_0 rfl) ?_
  first
    | refine TL_q rfl rfl (QT_load 0 rfl rfl Tryd.underlying3 rfl rfl rfl (fun _ => rfl)) ?_
    | refine TL_q rfl rfl (QT_load 1 rfl rfl Tryd.underlying3 rfl rfl rfl (fun _ => rfl)) ?_
    | refine TL_q rfl rfl (QT_load 2 rfl rfl Tryd.underlying3 rfl rfl rfl (fun _ => rfl)) ?_
  refine TL_q rfl rfl (QT_gtr rfl rfl rfl rfl) ?_
  refine TL_nil ?_
  refine TX_then ?_
  refine TC_cond rfl (fun h => absurd (h.symm.trans ((show decide _ = false by simp; omega))) (by decide)) (fun _ => ?_)
  refine TC_skip ?_
  refine TX_then ?_
  refine TC_seq ?_
  refine TC_reg ?_
  refine TL_q rfl rfl (QT_move rfl rfl rfl) ?_
  refine TL_q rfl rfl (QT_nilCheck rfl rfl rfl) ?_
  refine TL_q rfl rfl (QT_field rfl rfl YtannaanbadaflaaDoorF.fld_49_1 rfl) ?_
  first
    | refine TL_q rfl rfl (QT_load 0 rfl rfl Tryd.underlying35 rfl rfl rfl (fun _ => rfl)) ?_
    | refine TL_q rfl rfl (QT_load 1 rfl rfl Tryd.underlying35 rfl rfl rfl (fun _ => rfl)) ?_
    | refine TL_q rfl rfl (QT_load 2 rfl rfl Tryd.underlying35 rfl rfl rfl (fun _ => rfl)) ?_
  refine TL_cq rfl rfl rfl rfl YtannaanbadaflaaDoorF.cal_29 rfl (fun _ => fill_nil_bytes w0 _) ?_
  refine TL_nil ?_
  refine TX_then ?_
  refine TC_seq ?_
  refine TC_reg ?_
  refine TL_q rfl rfl (QT_move rfl rfl rfl) ?_
  refine TL_q rfl rfl (QT_nilCheck rfl rfl rfl) ?_
  refine TL_q rfl rfl (QT_field rfl rfl YtannaanbadaflaaDoorF.fld_49_2 rfl) ?_
  first
    | refine TL_q rfl rfl (QT_load 0 rfl rfl Tryd.underlying36 rfl rfl rfl (fun _ => rfl)) ?_
    | refine TL_q rfl rfl (QT_load 1 rfl rfl Tryd.underlying36 rfl rfl rfl (fun _ => rfl)) ?_
    | refine TL_q rfl rfl (QT_load 2 rfl rfl Tryd.underlying36 rfl rfl rfl (fun _ => rfl)) ?_
  refine TL_cq rfl rfl rfl rfl YtannaanbadaflaaDoorF.cal_30 rfl (fun _ => fill_nil_bits w0 _) ?_
  refine TL_nil ?_
  refine TX_then ?_
  refine TC_seq ?_
  refine TC_reg ?_
  refine TL_q rfl rfl (QT_move rfl rfl rfl) ?_
  refine TL_q rfl rfl (QT_nilCheck rfl rfl rfl) ?_
  refine TL_q rfl rfl (QT_field rfl rfl YtannaanbadaflaaDoorF.fld_49_3 rfl) ?_
  first
    | refine TL_q rfl rfl (QT_load 0 rfl rfl Tryd.underlying37 rfl rfl rfl (fun _ => rfl)) ?_
    | refine TL_q rfl rfl (QT_load 1 rfl rfl Tryd.underlying37 rfl rfl rfl (fun _ => rfl)) ?_
    | refine TL_q rfl rfl (QT_load 2 rfl rfl Tryd.underlying37 rfl rfl rfl (fun _ => rfl)) ?_
  refine TL_cq rfl rfl rfl rfl YtannaanbadaflaaDoorF.cal_31 rfl (fun _ => fill_nil_fixes w0 _) ?_
  refine TL_nil ?_
  refine TX_then ?_
  refine TC_seq ?_
  refine TC_reg ?_
  refine TL_q rfl rfl (QT_move rfl rfl rfl) ?_
  refine TL_q rfl rfl (QT_nilCheck rfl rfl rfl) ?_
  refine TL_q rfl rfl (QT_field rfl rfl YtannaanbadaflaaDoorF.fld_49_4 rfl) ?_
  first
    | refine TL_q rfl rfl (QT_load 0 rfl rfl Tryd.underlying38 rfl rfl rfl (fun _ => rfl)) ?_
    | refine TL_q rfl rfl (QT_load 1 rfl rfl Tryd.underlying38 rfl rfl rfl (fun _ => rfl)) ?_
    | refine TL_q rfl rfl (QT_load 2 rfl rfl Tryd.underlying38 rfl rfl rfl (fun _ => rfl)) ?_
  refine TL_A (St w0 (heapOf (ss_recs) ++ ((kb, 49, Bk.cells ⟨many, nilS, nilS, nilS, krecs, ktris, nilS, nilS, nilS, nilS, nilS, nilS, nilS, nilS⟩) :: (H_recs ++ (H_tris ++ (heapOf (ss_tris) ++ (η))))))) (fun _ h => h.cnt fun p => by simp only [List.countP_append, List.countP_cons, List.countP_nil]; omega) ?_
  refine TL_e rfl rfl rfl (rfl) (ET_call rfl YtannaanbadaflaaDoorF.cal_32 rfl (fill_Rec w0 _ _ ss_recs hs_recs ((hF_recs.sla (η := [])).mono (fun _ h => h.cnt fun p => by simp only [List.countP_append, List.countP_cons, List.countP_nil]; omega)))) ?_
  rintro _ _ rfl
  refine TL_nil ?_
  refine TX_then ?_
  refine TC_seq ?_
  refine TC_A (St w0 ((kb, 49, Bk.cells ⟨many, nilS, nilS, nilS, krecs, ktris, nilS, nilS, nilS, nilS, nilS, nilS, nilS, nilS⟩) :: (H_recs ++ (H_tris ++ (heapOf (ss_recs.map (fillS 7)) ++ (heapOf (ss_tris) ++ (η))))))) (fun _ h => h.cnt fun p => by simp only [List.countP_append, List.countP_cons, List.countP_nil]; omega) ?_
  refine TC_reg ?_
  refine TL_q rfl rfl (QT_move rfl rfl rfl) ?_
  refine TL_q rfl rfl (QT_nilCheck rfl rfl rfl) ?_
  refine TL_q rfl rfl (QT_field rfl rfl YtannaanbadaflaaDoorF.fld_49_5 rfl) ?_
  first
    | refine TL_q rfl rfl (QT_load 0 rfl rfl Tryd.underlying39 rfl rfl rfl (fun _ => rfl)) ?_
    | refine TL_q rfl rfl (QT_load 1 rfl rfl Tryd.underlying39 rfl rfl rfl (fun _ => rfl)) ?_
    | refine TL_q rfl rfl (QT_load 2 rfl rfl Tryd.underlying39 rfl rfl rfl (fun _ => rfl)) ?_
  refine TL_A (St w0 (heapOf (ss_tris) ++ ((kb, 49, Bk.cells ⟨many, nilS, nilS, nilS, krecs, ktris, nilS, nilS, nilS, nilS, nilS, nilS, nilS, nilS⟩) :: (H_recs ++ (H_tris ++ (heapOf (ss_recs.map (fillS 7)) ++ (η))))))) (fun _ h => h.cnt fun p => by simp only [List.countP_append, List.countP_cons, List.countP_nil]; omega) ?_
  refine TL_e rfl rfl rfl (rfl) (ET_call rfl YtannaanbadaflaaDoorF.cal_33 rfl (fill_Tri w0 _ _ ss_tris hs_tris ((hF_tris.sla (η := [])).mono (fun _ h => h.cnt fun p => by simp only [List.countP_append, List.countP_cons, List.countP_nil]; omega)))) ?_
  rintro _ _ rfl
  refine TL_nil ?_
  refine TX_then ?_
  refine TC_seq ?_
  refine TC_A (St w0 ((kb, 49, Bk.cells ⟨many, nilS, nilS, nilS, krecs, ktris, nilS, nilS, nilS, nilS, nilS, nilS, nilS, nilS⟩) :: (H_recs ++ (H_tris ++ (heapOf (ss_recs.map (fillS 7)) ++ (heapOf (ss_tris.map (fillS 21)) ++ (η))))))) (fun _ h => h.cnt fun p => by simp only [List.countP_append, List.countP_cons, List.countP_nil]; omega) ?_
  refine TC_reg ?_
  refine TL_q rfl rfl (QT_move rfl rfl rfl) ?_
  refine TL_q rfl rfl (QT_nilCheck rfl rfl rfl) ?_
  refine TL_q rfl rfl (QT_field rfl rfl YtannaanbadaflaaDoorF.fld_49_6 rfl) ?_
  first
    | refine TL_q rfl rfl (QT_load 0 rfl rfl Tryd.underlying40 rfl rfl rfl (fun _ => rfl)) ?_
    | refine TL_q rfl rfl (QT_load 1 rfl rfl Tryd.underlying40 rfl rfl rfl (fun _ => rfl)) ?_
    | refine TL_q rfl rfl (QT_load 2 rfl rfl Tryd.underlying40 rfl rfl rfl (fun _ => rfl)) ?_
  refine TL_cq rfl rfl rfl rfl YtannaanbadaflaaDoorF.cal_34 rfl (fun _ => fill_nil_sheets w0 _) ?_
  refine TL_nil ?_
  refine TX_then ?_
  refine TC_seq ?_
  refine TC_reg ?_
  refine TL_q rfl rfl (QT_move rfl rfl rfl) ?_
  refine TL_q rfl rfl (QT_nilCheck rfl rfl rfl) ?_
  refine TL_q rfl rfl (QT_field rfl rfl YtannaanbadaflaaDoorF.fld_49_7 rfl) ?_
  first
    | refine TL_q rfl rfl (QT_load 0 rfl rfl Tryd.underlying41 rfl rfl rfl (fun _ => rfl)) ?_
    | refine TL_q rfl rfl (QT_load 1 rfl rfl Tryd.underlying41 rfl rfl rfl (fun _ => rfl)) ?_
    | refine TL_q rfl rfl (QT_load 2 rfl rfl Tryd.underlying41 rfl rfl rfl (fun _ => rfl)) ?_
  refine TL_cq rfl rfl rfl rfl YtannaanbadaflaaDoorF.cal_35 rfl (fun _ => fill_nil_tiles w0 _) ?_
  refine TL_nil ?_
  refine TX_then ?_
  refine TC_seq ?_
  refine TC_reg ?_
  refine TL_q rfl rfl (QT_move rfl rfl rfl) ?_
  refine TL_q rfl rfl (QT_nilCheck rfl rfl rfl) ?_
  refine TL_q rfl rfl (QT_field rfl rfl YtannaanbadaflaaDoorF.fld_49_8 rfl) ?_
  first
    | refine TL_q rfl rfl (QT_load 0 rfl rfl Tryd.underlying42 rfl rfl rfl (fun _ => rfl)) ?_
    | refine TL_q rfl rfl (QT_load 1 rfl rfl Tryd.underlying42 rfl rfl rfl (fun _ => rfl)) ?_
    | refine TL_q rfl rfl (QT_load 2 rfl rfl Tryd.underlying42 rfl rfl rfl (fun _ => rfl)) ?_
  refine TL_cq rfl rfl rfl rfl YtannaanbadaflaaDoorF.cal_36 rfl (fun _ => fill_nil_dots w0 _) ?_
  refine TL_nil ?_
  refine TX_then ?_
  refine TC_seq ?_
  refine TC_reg ?_
  refine TL_q rfl rfl (QT_move rfl rfl rfl) ?_
  refine TL_q rfl rfl (QT_nilCheck rfl rfl rfl) ?_
  refine TL_q rfl rfl (QT_field rfl rfl YtannaanbadaflaaDoorF.fld_49_9 rfl) ?_
  first
    | refine TL_q rfl rfl (QT_load 0 rfl rfl Tryd.underlying43 rfl rfl rfl (fun _ => rfl)) ?_
    | refine TL_q rfl rfl (QT_load 1 rfl rfl Tryd.underlying43 rfl rfl rfl (fun _ => rfl)) ?_
    | refine TL_q rfl rfl (QT_load 2 rfl rfl Tryd.underlying43 rfl rfl rfl (fun _ => rfl)) ?_
  refine TL_cq rfl rfl rfl rfl YtannaanbadaflaaDoorF.cal_37 rfl (fun _ => fill_nil_facets w0 _) ?_
  refine TL_nil ?_
  refine TX_then ?_
  refine TC_seq ?_
  refine TC_reg ?_
  refine TL_q rfl rfl (QT_move rfl rfl rfl) ?_
  refine TL_q rfl rfl (QT_nilCheck rfl rfl rfl) ?_
  refine TL_q rfl rfl (QT_field rfl rfl YtannaanbadaflaaDoorF.fld_49_10 rfl) ?_
  first
    | refine TL_q rfl rfl (QT_load 0 rfl rfl Tryd.underlying44 rfl rfl rfl (fun _ => rfl)) ?_
    | refine TL_q rfl rfl (QT_load 1 rfl rfl Tryd.underlying44 rfl rfl rfl (fun _ => rfl)) ?_
    | refine TL_q rfl rfl (QT_load 2 rfl rfl Tryd.underlying44 rfl rfl rfl (fun _ => rfl)) ?_
  refine TL_cq rfl rfl rfl rfl YtannaanbadaflaaDoorF.cal_38 rfl (fun _ => fill_nil_tokens w0 _) ?_
  refine TL_nil ?_
  refine TX_then ?_
  refine TC_seq ?_
  refine TC_reg ?_
  refine TL_q rfl rfl (QT_move rfl rfl rfl) ?_
  refine TL_q rfl rfl (QT_nilCheck rfl rfl rfl) ?_
  refine TL_q rfl rfl (QT_field rfl rfl YtannaanbadaflaaDoorF.fld_49_11 rfl) ?_
  first
    | refine TL_q rfl rfl (QT_load 0 rfl rfl Tryd.underlying45 rfl rfl rfl (fun _ => rfl)) ?_
    | refine TL_q rfl rfl (QT_load 1 rfl rfl Tryd.underlying45 rfl rfl rfl (fun _ => rfl)) ?_
    | refine TL_q rfl rfl (QT_load 2 rfl rfl Tryd.underlying45 rfl rfl rfl (fun _ => rfl)) ?_
  refine TL_cq rfl rfl rfl rfl YtannaanbadaflaaDoorF.cal_39 rfl (fun _ => fill_nil_codes w0 _) ?_
  refine TL_nil ?_
  refine TX_then ?_
  refine TC_seq ?_
  refine TC_reg ?_
  refine TL_q rfl rfl (QT_move rfl rfl rfl) ?_
  refine TL_q rfl rfl (QT_nilCheck rfl rfl rfl) ?_
  refine TL_q rfl rfl (QT_field rfl rfl YtannaanbadaflaaDoorF.fld_49_12 rfl) ?_
  first
    | refine TL_q rfl rfl (QT_load 0 rfl rfl Tryd.underlying46 rfl rfl rfl (fun _ => rfl)) ?_
    | refine TL_q rfl rfl (QT_load 1 rfl rfl Tryd.underlying46 rfl rfl rfl (fun _ => rfl)) ?_
    | refine TL_q rfl rfl (QT_load 2 rfl rfl Tryd.underlying46 rfl rfl rfl (fun _ => rfl)) ?_
  refine TL_cq rfl rfl rfl rfl YtannaanbadaflaaDoorF.cal_40 rfl (fun _ => fill_nil_vals w0 _) ?_
  refine TL_nil ?_
  refine TX_then ?_
  refine TC_seq ?_
  refine TC_reg ?_
  refine TL_q rfl rfl (QT_move rfl rfl rfl) ?_
  refine TL_q rfl rfl (QT_nilCheck rfl rfl rfl) ?_
  refine TL_q rfl rfl (QT_field rfl rfl YtannaanbadaflaaDoorF.fld_49_13 rfl) ?_
  first
    | refine TL_q rfl rfl (QT_load 0 rfl rfl Tryd.underlying47 rfl rfl rfl (fun _ => rfl)) ?_
    | refine TL_q rfl rfl (QT_load 1 rfl rfl Tryd.underlying47 rfl rfl rfl (fun _ => rfl)) ?_
    | refine TL_q rfl rfl (QT_load 2 rfl rfl Tryd.underlying47 rfl rfl rfl (fun _ => rfl)) ?_
  refine TL_cq rfl rfl rfl rfl YtannaanbadaflaaDoorF.cal_41 rfl (fun _ => fill_nil_spots w0 _) ?_
  refine TL_nil ?_
  refine TX_then ?_
  refine TC_seq ?_
  refine TC_reg ?_
  refine TL_q rfl rfl (QT_move rfl rfl rfl) ?_
  refine TL_q rfl rfl (QT_nilCheck rfl rfl rfl) ?_
  refine TL_q rfl rfl (QT_field rfl rfl YtannaanbadaflaaDoorF.fld_49_1 rfl) ?_
  first
    | refine TL_q rfl rfl (QT_load 0 rfl rfl Tryd.underlying35 rfl rfl rfl (fun _ => rfl)) ?_
    | refine TL_q rfl rfl (QT_load 1 rfl rfl Tryd.underlying35 rfl rfl rfl (fun _ => rfl)) ?_
    | refine TL_q rfl rfl (QT_load 2 rfl rfl Tryd.underlying35 rfl rfl rfl (fun _ => rfl)) ?_
  refine TL_cq rfl rfl rfl rfl YtannaanbadaflaaDoorF.cal_42 rfl (fun _ => grow_nil_bytes w0 _) ?_
  refine TL_nil ?_
  refine TX_then ?_
  refine TC_seq ?_
  refine TC_reg ?_
  refine TL_q rfl rfl (QT_move rfl rfl rfl) ?_
  refine TL_q rfl rfl (QT_nilCheck rfl rfl rfl) ?_
  refine TL_q rfl rfl (QT_field rfl rfl YtannaanbadaflaaDoorF.fld_49_2 rfl) ?_
  first
    | refine TL_q rfl rfl (QT_load 0 rfl rfl Tryd.underlying36 rfl rfl rfl (fun _ => rfl)) ?_
    | refine TL_q rfl rfl (QT_load 1 rfl rfl Tryd.underlying36 rfl rfl rfl (fun _ => rfl)) ?_
    | refine TL_q rfl rfl (QT_load 2 rfl rfl Tryd.underlying36 rfl rfl rfl (fun _ => rfl)) ?_
  refine TL_cq rfl rfl rfl rfl YtannaanbadaflaaDoorF.cal_43 rfl (fun _ => grow_nil_bits w0 _) ?_
  refine TL_nil ?_
  refine TX_then ?_
  refine TC_seq ?_
  refine TC_reg ?_
  refine TL_q rfl rfl (QT_move rfl rfl rfl) ?_
  refine TL_q rfl rfl (QT_nilCheck rfl rfl rfl) ?_
  refine TL_q rfl rfl (QT_field rfl rfl YtannaanbadaflaaDoorF.fld_49_3 rfl) ?_
  first
    | refine TL_q rfl rfl (QT_load 0 rfl rfl Tryd.underlying37 rfl rfl rfl (fun _ => rfl)) ?_
    | refine TL_q rfl rfl (QT_load 1 rfl rfl Tryd.underlying37 rfl rfl rfl (fun _ => rfl)) ?_
    | refine TL_q rfl rfl (QT_load 2 rfl rfl Tryd.underlying37 rfl rfl rfl (fun _ => rfl)) ?_
  refine TL_cq rfl rfl rfl rfl YtannaanbadaflaaDoorF.cal_44 rfl (fun _ => grow_nil_fixes w0 _) ?_
  refine TL_nil ?_
  refine TX_then ?_
  refine TC_seq ?_
  refine TC_reg ?_
  refine TL_q rfl rfl (QT_move rfl rfl rfl) ?_
  refine TL_q rfl rfl (QT_nilCheck rfl rfl rfl) ?_
  refine TL_q rfl rfl (QT_field rfl rfl YtannaanbadaflaaDoorF.fld_49_4 rfl) ?_
  first
    | refine TL_q rfl rfl (QT_load 0 rfl rfl Tryd.underlying38 rfl rfl rfl (fun _ => rfl)) ?_
    | refine TL_q rfl rfl (QT_load 1 rfl rfl Tryd.underlying38 rfl rfl rfl (fun _ => rfl)) ?_
    | refine TL_q rfl rfl (QT_load 2 rfl rfl Tryd.underlying38 rfl rfl rfl (fun _ => rfl)) ?_
  refine TL_A (St w0 (H_recs ++ (heapOf (ss_recs.map (fillS 7)) ++ ((kb, 49, Bk.cells ⟨many, nilS, nilS, nilS, krecs, ktris, nilS, nilS, nilS, nilS, nilS, nilS, nilS, nilS⟩) :: (H_tris ++ (heapOf (ss_tris.map (fillS 21)) ++ (η))))))) (fun _ h => h.cnt fun p => by simp only [List.countP_append, List.countP_cons, List.countP_nil]; omega) ?_
  refine TL_e rfl rfl rfl (rfl) (ET_call rfl YtannaanbadaflaaDoorF.cal_45 rfl (grow_Rec w0 _ _ _ _ hsf_recs hFf_recs)) ?_
  rintro _ _ ⟨g_recs, G_recs, hl_recs, hg_recs, hG_recs, rfl⟩
  refine TL_nil ?_
  refine TX_then ?_
  refine TC_seq ?_
  refine TC_A (St w0 ((kb, 49, Bk.cells ⟨many, nilS, nilS, nilS, krecs, ktris, nilS, nilS, nilS, nilS, nilS, nilS, nilS, nilS⟩) :: (G_recs ++ (H_tris ++ (heapOf (g_recs) ++ (heapOf (ss_tris.map (fillS 21)) ++ (η))))))) (fun _ h => h.cnt fun p => by simp only [List.countP_append, List.countP_cons, List.countP_nil]; omega) ?_
  refine TC_reg ?_
  refine TL_q rfl rfl (QT_move rfl rfl rfl) ?_
  refine TL_q rfl rfl (QT_nilCheck rfl rfl rfl) ?_
  refine TL_q rfl rfl (QT_field rfl rfl YtannaanbadaflaaDoorF.fld_49_5 rfl) ?_
  first
    | refine TL_q rfl rfl (QT_load 0 rfl rfl Tryd.underlying39 rfl rfl rfl (fun _ => rfl)) ?_
    | refine TL_q rfl rfl (QT_load 1 rfl rfl Tryd.underlying39 rfl rfl rfl (fun _ => rfl)) ?_
    | refine TL_q rfl rfl (QT_load 2 rfl rfl Tryd.underlying39 rfl rfl rfl (fun _ => rfl)) ?_
  refine TL_A (St w0 (H_tris ++ (heapOf (ss_tris.map (fillS 21)) ++ ((kb, 49, Bk.cells ⟨many, nilS, nilS, nilS, krecs, ktris, nilS, nilS, nilS, nilS, nilS, nilS, nilS, nilS⟩) :: (G_recs ++ (heapOf (g_recs) ++ (η))))))) (fun _ h => h.cnt fun p => by simp only [List.countP_append, List.countP_cons, List.countP_nil]; omega) ?_
  refine TL_e rfl rfl rfl (rfl) (ET_call rfl YtannaanbadaflaaDoorF.cal_46 rfl (grow_Tri w0 _ _ _ _ hsf_tris hFf_tris)) ?_
  rintro _ _ ⟨g_tris, G_tris, hl_tris, hg_tris, hG_tris, rfl⟩
  refine TL_nil ?_
  refine TX_then ?_
  refine TC_seq ?_
  refine TC_A (St w0 ((kb, 49, Bk.cells ⟨many, nilS, nilS, nilS, krecs, ktris, nilS, nilS, nilS, nilS, nilS, nilS, nilS, nilS⟩) :: (G_recs ++ (G_tris ++ (heapOf (g_recs) ++ (heapOf (g_tris) ++ (η))))))) (fun _ h => h.cnt fun p => by simp only [List.countP_append, List.countP_cons, List.countP_nil]; omega) ?_
  refine TC_reg ?_
  refine TL_q rfl rfl (QT_move rfl rfl rfl) ?_
  refine TL_q rfl rfl (QT_nilCheck rfl rfl rfl) ?_
  refine TL_q rfl rfl (QT_field rfl rfl YtannaanbadaflaaDoorF.fld_49_6 rfl) ?_
  first
    | refine TL_q rfl rfl (QT_load 0 rfl rfl Tryd.underlying40 rfl rfl rfl (fun _ => rfl)) ?_
    | refine TL_q rfl rfl (QT_load 1 rfl rfl Tryd.underlying40 rfl rfl rfl (fun _ => rfl)) ?_
    | refine TL_q rfl rfl (QT_load 2 rfl rfl Tryd.underlying40 rfl rfl rfl (fun _ => rfl)) ?_
  refine TL_cq rfl rfl rfl rfl YtannaanbadaflaaDoorF.cal_47 rfl (fun _ => grow_nil_sheets w0 _) ?_
  refine TL_nil ?_
  refine TX_then ?_
  refine TC_seq ?_
  refine TC_reg ?_
  refine TL_q rfl rfl (QT_move rfl rfl rfl) ?_
  refine TL_q rfl rfl (QT_nilCheck rfl rfl rfl) ?_
  refine TL_q rfl rfl (QT_field rfl rfl YtannaanbadaflaaDoorF.fld_49_7 rfl) ?_
  first
    | refine TL_q rfl rfl (QT_load 0 rfl rfl Tryd.underlying41 rfl rfl rfl (fun _ => rfl)) ?_
    | refine TL_q rfl rfl (QT_load 1 rfl rfl Tryd.underlying41 rfl rfl rfl (fun _ => rfl)) ?_
    | refine TL_q rfl rfl (QT_load 2 rfl rfl Tryd.underlying41 rfl rfl rfl (fun _ => rfl)) ?_
  refine TL_cq rfl rfl rfl rfl YtannaanbadaflaaDoorF.cal_48 rfl (fun _ => grow_nil_tiles w0 _) ?_
  refine TL_nil ?_
  refine TX_then ?_
  refine TC_seq ?_
  refine TC_reg ?_
  refine TL_q rfl rfl (QT_move rfl rfl rfl) ?_
  refine TL_q rfl rfl (QT_nilCheck rfl rfl rfl) ?_
  refine TL_q rfl rfl (QT_field rfl rfl YtannaanbadaflaaDoorF.fld_49_8 rfl) ?_
  first
    | refine TL_q rfl rfl (QT_load 0 rfl rfl Tryd.underlying42 rfl rfl rfl (fun _ => rfl)) ?_
    | refine TL_q rfl rfl (QT_load 1 rfl rfl Tryd.underlying42 rfl rfl rfl (fun _ => rfl)) ?_
    | refine TL_q rfl rfl (QT_load 2 rfl rfl Tryd.underlying42 rfl rfl rfl (fun _ => rfl)) ?_
  refine TL_cq rfl rfl rfl rfl YtannaanbadaflaaDoorF.cal_49 rfl (fun _ => grow_nil_dots w0 _) ?_
  refine TL_nil ?_
  refine TX_then ?_
  refine TC_seq ?_
  refine TC_reg ?_
  refine TL_q rfl rfl (QT_move rfl rfl rfl) ?_
  refine TL_q rfl rfl (QT_nilCheck rfl rfl rfl) ?_
  refine TL_q rfl rfl (QT_field rfl rfl YtannaanbadaflaaDoorF.fld_49_9 rfl) ?_
  first
    | refine TL_q rfl rfl (QT_load 0 rfl rfl Tryd.underlying43 rfl rfl rfl (fun _ => rfl)) ?_
    | refine TL_q rfl rfl (QT_load 1 rfl rfl Tryd.underlying43 rfl rfl rfl (fun _ => rfl)) ?_
    | refine TL_q rfl rfl (QT_load 2 rfl rfl Tryd.underlying43 rfl rfl rfl (fun _ => rfl)) ?_
  refine TL_cq rfl rfl rfl rfl YtannaanbadaflaaDoorF.cal_50 rfl (fun _ => grow_nil_facets w0 _) ?_
  refine TL_nil ?_
  refine TX_then ?_
  refine TC_seq ?_
  refine TC_reg ?_
  refine TL_q rfl rfl (QT_move rfl rfl rfl) ?_
  refine TL_q rfl rfl (QT_nilCheck rfl rfl rfl) ?_
  refine TL_q rfl rfl (QT_field rfl rfl YtannaanbadaflaaDoorF.fld_49_10 rfl) ?_
  first
    | refine TL_q rfl rfl (QT_load 0 rfl rfl Tryd.underlying44 rfl rfl rfl (fun _ => rfl)) ?_
    | refine TL_q rfl rfl (QT_load 1 rfl rfl Tryd.underlying44 rfl rfl rfl (fun _ => rfl)) ?_
    | refine TL_q rfl rfl (QT_load 2 rfl rfl Tryd.underlying44 rfl rfl rfl (fun _ => rfl)) ?_
  refine TL_cq rfl rfl rfl rfl YtannaanbadaflaaDoorF.cal_51 rfl (fun _ => grow_nil_tokens w0 _) ?_
  refine TL_nil ?_
  refine TX_then ?_
  refine TC_seq ?_
  refine TC_reg ?_
  refine TL_q rfl rfl (QT_move rfl rfl rfl) ?_
  refine TL_q rfl rfl (QT_nilCheck rfl rfl rfl) ?_
  refine TL_q rfl rfl (QT_field rfl rfl YtannaanbadaflaaDoorF.fld_49_11 rfl) ?_
  first
    | refine TL_q rfl rfl (QT_load 0 rfl rfl Tryd.underlying45 rfl rfl rfl (fun _ => rfl)) ?_
    | refine TL_q rfl rfl (QT_load 1 rfl rfl Tryd.underlying45 rfl rfl rfl (fun _ => rfl)) ?_
    | refine TL_q rfl rfl (QT_load 2 rfl rfl Tryd.underlying45 rfl rfl rfl (fun _ => rfl)) ?_
  refine TL_cq rfl rfl rfl rfl YtannaanbadaflaaDoorF.cal_52 rfl (fun _ => grow_nil_codes w0 _) ?_
  refine TL_nil ?_
  refine TX_then ?_
  refine TC_seq ?_
  refine TC_reg ?_
  refine TL_q rfl rfl (QT_move rfl rfl rfl) ?_
  refine TL_q rfl rfl (QT_nilCheck rfl rfl rfl) ?_
  refine TL_q rfl rfl (QT_field rfl rfl YtannaanbadaflaaDoorF.fld_49_12 rfl) ?_
  first
    | refine TL_q rfl rfl (QT_load 0 rfl rfl Tryd.underlying46 rfl rfl rfl (fun _ => rfl)) ?_
    | refine TL_q rfl rfl (QT_load 1 rfl rfl Tryd.underlying46 rfl rfl rfl (fun _ => rfl)) ?_
    | refine TL_q rfl rfl (QT_load 2 rfl rfl Tryd.underlying46 rfl rfl rfl (fun _ => rfl)) ?_
  refine TL_cq rfl rfl rfl rfl YtannaanbadaflaaDoorF.cal_53 rfl (fun _ => grow_nil_vals w0 _) ?_
  refine TL_nil ?_
  refine TX_then ?_
  refine TC_seq ?_
  refine TC_reg ?_
  refine TL_q rfl rfl (QT_move rfl rfl rfl) ?_
  refine TL_q rfl rfl (QT_nilCheck rfl rfl rfl) ?_
  refine TL_q rfl rfl (QT_field rfl rfl YtannaanbadaflaaDoorF.fld_49_13 rfl) ?_
  first
    | refine TL_q rfl rfl (QT_load 0 rfl rfl Tryd.underlying47 rfl rfl rfl (fun _ => rfl)) ?_
    | refine TL_q rfl rfl (QT_load 1 rfl rfl Tryd.underlying47 rfl rfl rfl (fun _ => rfl)) ?_
    | refine TL_q rfl rfl (QT_load 2 rfl rfl Tryd.underlying47 rfl rfl rfl (fun _ => rfl)) ?_
  refine TL_cq rfl rfl rfl rfl YtannaanbadaflaaDoorF.cal_54 rfl (fun _ => grow_nil_spots w0 _) ?_
  refine TL_nil ?_
  refine TX_then ?_
  refine TC_seq ?_
  refine TC_reg ?_
  refine TL_q rfl rfl (QT_move rfl rfl rfl) ?_
  refine TL_q rfl rfl (QT_nilCheck rfl rfl rfl) ?_
  refine TL_q rfl rfl (QT_field rfl rfl YtannaanbadaflaaDoorF.fld_49_1 rfl) ?_
  first
    | refine TL_q rfl rfl (QT_load 0 rfl rfl Tryd.underlying35 rfl rfl rfl (fun _ => rfl)) ?_
    | refine TL_q rfl rfl (QT_load 1 rfl rfl Tryd.underlying35 rfl rfl rfl (fun _ => rfl)) ?_
    | refine TL_q rfl rfl (QT_load 2 rfl rfl Tryd.underlying35 rfl rfl rfl (fun _ => rfl)) ?_
  refine TL_cq rfl rfl rfl rfl YtannaanbadaflaaDoorF.cal_55 rfl (fun _ => marked_nil_bytes w0 _) ?_
  refine TL_q rfl rfl (QT_move rfl rfl rfl) ?_
  refine TL_q rfl rfl (QT_move rfl rfl rfl) ?_
  refine TL_q rfl rfl (QT_nilCheck rfl rfl rfl) ?_
  refine TL_q rfl rfl (QT_field rfl rfl YtannaanbadaflaaDoorF.fld_49_2 rfl) ?_
  first
    | refine TL_q rfl rfl (QT_load 0 rfl rfl Tryd.underlying36 rfl rfl rfl (fun _ => rfl)) ?_
    | refine TL_q rfl rfl (QT_load 1 rfl rfl Tryd.underlying36 rfl rfl rfl (fun _ => rfl)) ?_
    | refine TL_q rfl rfl (QT_load 2 rfl rfl Tryd.underlying36 rfl rfl rfl (fun _ => rfl)) ?_
  refine TL_cq rfl rfl rfl rfl YtannaanbadaflaaDoorF.cal_56 rfl (fun _ => marked_nil_bits w0 _) ?_
  refine TL_q rfl rfl (QT_and rfl rfl rfl rfl) ?_
  refine TL_q rfl rfl (QT_move rfl rfl rfl) ?_
  refine TL_q rfl rfl (QT_move rfl rfl rfl) ?_
  refine TL_q rfl rfl (QT_nilCheck rfl rfl rfl) ?_
  refine TL_q rfl rfl (QT_field rfl rfl YtannaanbadaflaaDoorF.fld_49_3 rfl) ?_
  first
    | refine TL_q rfl rfl (QT_load 0 rfl rfl Tryd.underlying37 rfl rfl rfl (fun _ => rfl)) ?_
    | refine TL_q rfl rfl (QT_load 1 rfl rfl Tryd.underlying37 rfl rfl rfl (fun _ => rfl)) ?_
    | refine TL_q rfl rfl (QT_load 2 rfl rfl Tryd.underlying37 rfl rfl rfl (fun _ => rfl)) ?_
  refine TL_cq rfl rfl rfl rfl YtannaanbadaflaaDoorF.cal_57 rfl (fun _ => marked_nil_fixes w0 _) ?_
  refine TL_q rfl rfl (QT_and rfl rfl rfl rfl) ?_
  refine TL_q rfl rfl (QT_move rfl rfl rfl) ?_
  refine TL_q rfl rfl (QT_move rfl rfl rfl) ?_
  refine TL_q rfl rfl (QT_nilCheck rfl rfl rfl) ?_
  refine TL_q rfl rfl (QT_field rfl rfl YtannaanbadaflaaDoorF.fld_49_4 rfl) ?_
  first
    | refine TL_q rfl rfl (QT_load 0 rfl rfl Tryd.underlying38 rfl rfl rfl (fun _ => rfl)) ?_
    | refine TL_q rfl rfl (QT_load 1 rfl rfl Tryd.underlying38 rfl rfl rfl (fun _ => rfl)) ?_
    | refine TL_q rfl rfl (QT_load 2 rfl rfl Tryd.underlying38 rfl rfl rfl (fun _ => rfl)) ?_
  refine TL_cq rfl rfl rfl rfl YtannaanbadaflaaDoorF.cal_58 rfl (fun _ => marked_Rec w0 _ _ g_recs (fun s h => (hg_recs s h).mono (fun _ h => h.cnt fun p => by simp only [List.countP_append, List.countP_cons, List.countP_nil]; omega)) ((hG_recs.sla (η := [])).mono (fun _ h => h.cnt fun p => by simp only [List.countP_append, List.countP_cons, List.countP_nil]; omega))) ?_
  refine TL_q rfl rfl (QT_and rfl rfl rfl rfl) ?_
  refine TL_q rfl rfl (QT_move rfl rfl rfl) ?_
  refine TL_q rfl rfl (QT_move rfl rfl rfl) ?_
  refine TL_q rfl rfl (QT_nilCheck rfl rfl rfl) ?_
  refine TL_q rfl rfl (QT_field rfl rfl YtannaanbadaflaaDoorF.fld_49_5 rfl) ?_
  first
    | refine TL_q rfl rfl (QT_load 0 rfl rfl Tryd.underlying39 rfl rfl rfl (fun _ => rfl)) ?_
    | refine TL_q rfl rfl (QT_load 1 rfl rfl Tryd.underlying39 rfl rfl rfl (fun _ => rfl)) ?_
    | refine TL_q rfl rfl (QT_load 2 rfl rfl Tryd.underlying39 rfl rfl rfl (fun _ => rfl)) ?_
  refine TL_cq rfl rfl rfl rfl YtannaanbadaflaaDoorF.cal_59 rfl (fun _ => marked_Tri w0 _ _ g_tris (fun s h => (hg_tris s h).mono (fun _ h => h.cnt fun p => by simp only [List.countP_append, List.countP_cons, List.countP_nil]; omega)) ((hG_tris.sla (η := [])).mono (fun _ h => h.cnt fun p => by simp only [List.countP_append, List.countP_cons, List.countP_nil]; omega))) ?_
  refine TL_q rfl rfl (QT_and rfl rfl rfl rfl) ?_
  refine TL_q rfl rfl (QT_move rfl rfl rfl) ?_
  refine TL_q rfl rfl (QT_move rfl rfl rfl) ?_
  refine TL_q rfl rfl (QT_nilCheck rfl rfl rfl) ?_
  refine TL_q rfl rfl (QT_field rfl rfl YtannaanbadaflaaDoorF.fld_49_6 rfl) ?_
  first
    | refine TL_q rfl rfl (QT_load 0 rfl rfl Tryd.underlying40 rfl rfl rfl (fun _ => rfl)) ?_
    | refine TL_q rfl rfl (QT_load 1 rfl rfl Tryd.underlying40 rfl rfl rfl (fun _ => rfl)) ?_
    | refine TL_q rfl rfl (QT_load 2 rfl rfl Tryd.underlying40 rfl rfl rfl (fun _ => rfl)) ?_
  refine TL_cq rfl rfl rfl rfl YtannaanbadaflaaDoorF.cal_60 rfl (fun _ => marked_nil_sheets w0 _) ?_
  refine TL_q rfl rfl (QT_and rfl rfl rfl rfl) ?_
  refine TL_q rfl rfl (QT_move rfl rfl rfl) ?_
  refine TL_q rfl rfl (QT_move rfl rfl rfl) ?_
  refine TL_q rfl rfl (QT_nilCheck rfl rfl rfl) ?_
  refine TL_q rfl rfl (QT_field rfl rfl YtannaanbadaflaaDoorF.fld_49_7 rfl) ?_
  first
    | refine TL_q rfl rfl (QT_load 0 rfl rfl Tryd.underlying41 rfl rfl rfl (fun _ => rfl)) ?_
    | refine TL_q rfl rfl (QT_load 1 rfl rfl Tryd.underlying41 rfl rfl rfl (fun _ => rfl)) ?_
    | refine TL_q rfl rfl (QT_load 2 rfl rfl Tryd.underlying41 rfl rfl rfl (fun _ => rfl)) ?_
  refine TL_cq rfl rfl rfl rfl YtannaanbadaflaaDoorF.cal_61 rfl (fun _ => marked_nil_tiles w0 _) ?_
  refine TL_q rfl rfl (QT_and rfl rfl rfl rfl) ?_
  refine TL_q rfl rfl (QT_move rfl rfl rfl) ?_
  refine TL_q rfl rfl (QT_move rfl rfl rfl) ?_
  refine TL_q rfl rfl (QT_nilCheck rfl rfl rfl) ?_
  refine TL_q rfl rfl (QT_field rfl rfl YtannaanbadaflaaDoorF.fld_49_8 rfl) ?_
  first
    | refine TL_q rfl rfl (QT_load 0 rfl rfl Tryd.underlying42 rfl rfl rfl (fun _ => rfl)) ?_
    | refine TL_q rfl rfl (QT_load 1 rfl rfl Tryd.underlying42 rfl rfl rfl (fun _ => rfl)) ?_
    | refine TL_q rfl rfl (QT_load 2 rfl rfl Tryd.underlying42 rfl rfl rfl (fun _ => rfl)) ?_
  refine TL_cq rfl rfl rfl rfl YtannaanbadaflaaDoorF.cal_62 rfl (fun _ => marked_nil_dots w0 _) ?_
  refine TL_q rfl rfl (QT_and rfl rfl rfl rfl) ?_
  refine TL_q rfl rfl (QT_move rfl rfl rfl) ?_
  refine TL_q rfl rfl (QT_move rfl rfl rfl) ?_
  refine TL_q rfl rfl (QT_nilCheck rfl rfl rfl) ?_
  refine TL_q rfl rfl (QT_field rfl rfl YtannaanbadaflaaDoorF.fld_49_9 rfl) ?_
  first
    | refine TL_q rfl rfl (QT_load 0 rfl rfl Tryd.underlying43 rfl rfl rfl (fun _ => rfl)) ?_
    | refine TL_q rfl rfl (QT_load 1 rfl rfl Tryd.underlying43 rfl rfl rfl (fun _ => rfl)) ?_
    | refine TL_q rfl rfl (QT_load 2 rfl rfl Tryd.underlying43 rfl rfl rfl (fun _ => rfl)) ?_
  refine TL_cq rfl rfl rfl rfl YtannaanbadaflaaDoorF.cal_63 rfl (fun _ => marked_nil_facets w0 _) ?_
  refine TL_q rfl rfl (QT_and rfl rfl rfl rfl) ?_
  refine TL_q rfl rfl (QT_move rfl rfl rfl) ?_
  refine TL_q rfl rfl (QT_move rfl rfl rfl) ?_
  refine TL_q rfl rfl (QT_nilCheck rfl rfl rfl) ?_
  refine TL_q rfl rfl (QT_field rfl rfl YtannaanbadaflaaDoorF.fld_49_10 rfl) ?_
  first
    | refine TL_q rfl rfl (QT_load 0 rfl rfl Tryd.underlying44 rfl rfl rfl (fun _ => rfl)) ?_
    | refine TL_q rfl rfl (QT_load 1 rfl rfl Tryd.underlying44 rfl rfl rfl (fun _ => rfl)) ?_
    | refine TL_q rfl rfl (QT_load 2 rfl rfl Tryd.underlying44 rfl rfl rfl (fun _ => rfl)) ?_
  refine TL_cq rfl rfl rfl rfl YtannaanbadaflaaDoorF.cal_64 rfl (fun _ => marked_nil_tokens w0 _) ?_
  refine TL_q rfl rfl (QT_and rfl rfl rfl rfl) ?_
  refine TL_q rfl rfl (QT_move rfl rfl rfl) ?_
  refine TL_q rfl rfl (QT_move rfl rfl rfl) ?_
  refine TL_q rfl rfl (QT_nilCheck rfl rfl rfl) ?_
  refine TL_q rfl rfl (QT_field rfl rfl YtannaanbadaflaaDoorF.fld_49_11 rfl) ?_
  first
    | refine TL_q rfl rfl (QT_load 0 rfl rfl Tryd.underlying45 rfl rfl rfl (fun _ => rfl)) ?_
    | refine TL_q rfl rfl (QT_load 1 rfl rfl Tryd.underlying45 rfl rfl rfl (fun _ => rfl)) ?_
    | refine TL_q rfl rfl (QT_load 2 rfl rfl Tryd.underlying45 rfl rfl rfl (fun _ => rfl)) ?_
  refine TL_cq rfl rfl rfl rfl YtannaanbadaflaaDoorF.cal_65 rfl (fun _ => marked_nil_codes w0 _) ?_
  refine TL_q rfl rfl (QT_and rfl rfl rfl rfl) ?_
  refine TL_q rfl rfl (QT_move rfl rfl rfl) ?_
  refine TL_q rfl rfl (QT_move rfl rfl rfl) ?_
  refine TL_q rfl rfl (QT_nilCheck rfl rfl rfl) ?_
  refine TL_q rfl rfl (QT_field rfl rfl YtannaanbadaflaaDoorF.fld_49_12 rfl) ?_
  first
    | refine TL_q rfl rfl (QT_load 0 rfl rfl Tryd.underlying46 rfl rfl rfl (fun _ => rfl)) ?_
    | refine TL_q rfl rfl (QT_load 1 rfl rfl Tryd.underlying46 rfl rfl rfl (fun _ => rfl)) ?_
    | refine TL_q rfl rfl (QT_load 2 rfl rfl Tryd.underlying46 rfl rfl rfl (fun _ => rfl)) ?_
  refine TL_cq rfl rfl rfl rfl YtannaanbadaflaaDoorF.cal_66 rfl (fun _ => marked_nil_vals w0 _) ?_
  refine TL_q rfl rfl (QT_and rfl rfl rfl rfl) ?_
  refine TL_q rfl rfl (QT_move rfl rfl rfl) ?_
  refine TL_q rfl rfl (QT_move rfl rfl rfl) ?_
  refine TL_q rfl rfl (QT_nilCheck rfl rfl rfl) ?_
  refine TL_q rfl rfl (QT_field rfl rfl YtannaanbadaflaaDoorF.fld_49_13 rfl) ?_
  first
    | refine TL_q rfl rfl (QT_load 0 rfl rfl Tryd.underlying47 rfl rfl rfl (fun _ => rfl)) ?_
    | refine TL_q rfl rfl (QT_load 1 rfl rfl Tryd.underlying47 rfl rfl rfl (fun _ => rfl)) ?_
    | refine TL_q rfl rfl (QT_load 2 rfl rfl Tryd.underlying47 rfl rfl rfl (fun _ => rfl)) ?_
  refine TL_cq rfl rfl rfl rfl YtannaanbadaflaaDoorF.cal_67 rfl (fun _ => marked_nil_spots w0 _) ?_
  refine TL_q rfl rfl (QT_and rfl rfl rfl rfl) ?_
  refine TL_q rfl rfl (QT_assign rfl rfl rfl) ?_
  refine TL_nil ?_
  refine TX_then ?_
  refine TC_ret ?_
  exact TX_ret (.inl rfl) (res1 rfl rfl) ⟨_, ⟨rfl, rfl⟩, (fun _ h => h.cnt fun p => by simp only [List.countP_append, List.countP_cons, List.countP_nil]; omega)⟩
end Go.Proofs.YtannaanbadaflaaDoor

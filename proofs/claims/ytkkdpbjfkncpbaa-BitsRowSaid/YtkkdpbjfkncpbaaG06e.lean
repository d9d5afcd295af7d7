/- THE BOOK: are all its lists apart? Laid by a program of this work. -/
import Derived.Test.YtkkdpbjfkncpbaaG01d
import Derived.Test.YtkkdpbjfkncpbaaP01d
namespace Go.Proofs.Ytkkdpbjfkncpbaa
open Go Go.Gx Go.RowKit
set_option maxRecDepth 100000

theorem fill_nil_bits (w0 : World) (η : Heap) : CallsT Try.prog 40 [nilS] (St w0 η) fun v A' => v = .tuple #[] ∧ A' = St w0 η := by
  refine CallsT.body Try.func40 rfl rfl ?_
  simp only [Try.ntmps40, slotsOf, Nat.reduceAdd]
  refine TC_seq ?_
  refine TC_reg ?_
  refine TL_q rfl rfl (QT_assign rfl rfl rfl) ?_
  refine TL_nil ?_
  refine TX_then ?_
  refine TC_block ?_
  refine TC_loop (γ := Unit) (fun _ => [(0, true, nilS), (2, true, .int .i64 0)]) (fun _ => St w0 η) (fun _ => 0) () ⟨rfl, rfl, trivial⟩ (fun _ h => h) ?_
  rintro ⟨⟩
  dsimp only [nilS]
  refine TC_seq ?_
  refine TC_seq ?_
  refine TC_reg ?_
  refine TL_q rfl rfl (QT_move rfl rfl rfl) ?_
  refine TL_q rfl rfl (QT_move rfl rfl rfl) ?_
  refine TL_q rfl rfl (QT_len rfl rfl Try.underlying37 rfl) ?_
  refine TL_q rfl rfl (QT_lss rfl rfl rfl rfl) ?_
  refine TL_nil ?_
  refine TX_then ?_
  refine TC_cond rfl (fun h => absurd (h.symm.trans ((show (_ : Bool) = false by rfl))) (by decide)) (fun _ => ?_)
  refine TC_exit ?_
  refine TX_then_exit ?_
  refine TX_then_exit ?_
  refine TX_block_here ?_
  exact TX_ret (.inr rfl) (res0 rfl) ⟨_, ⟨rfl, rfl⟩, fun _ h => h⟩
theorem grow_nil_bits (w0 : World) (η : Heap) : CallsT Try.prog 53 [nilS] (St w0 η) fun v A' => v = .tuple #[] ∧ A' = St w0 η := by
  refine CallsT.body Try.func53 rfl rfl ?_
  simp only [Try.ntmps53, slotsOf, Nat.reduceAdd]
  refine TC_seq ?_
  refine TC_reg ?_
  refine TL_q rfl rfl (QT_assign rfl rfl rfl) ?_
  refine TL_nil ?_
  refine TX_then ?_
  refine TC_block ?_
  refine TC_loop (γ := Unit) (fun _ => [(0, true, nilS), (2, true, .int .i64 0)]) (fun _ => St w0 η) (fun _ => 0) () ⟨rfl, rfl, trivial⟩ (fun _ h => h) ?_
  rintro ⟨⟩
  dsimp only [nilS]
  refine TC_seq ?_
  refine TC_seq ?_
  refine TC_reg ?_
  refine TL_q rfl rfl (QT_move rfl rfl rfl) ?_
  refine TL_q rfl rfl (QT_move rfl rfl rfl) ?_
  refine TL_q rfl rfl (QT_len rfl rfl Try.underlying37 rfl) ?_
  refine TL_q rfl rfl (QT_lss rfl rfl rfl rfl) ?_
  refine TL_nil ?_
  refine TX_then ?_
  refine TC_cond rfl (fun h => absurd (h.symm.trans ((show (_ : Bool) = false by rfl))) (by decide)) (fun _ => ?_)
  refine TC_exit ?_
  refine TX_then_exit ?_
  refine TX_then_exit ?_
  refine TX_block_here ?_
  exact TX_ret (.inr rfl) (res0 rfl) ⟨_, ⟨rfl, rfl⟩, fun _ h => h⟩
theorem marked_nil_bits (w0 : World) (η : Heap) : CallsT Try.prog 66 [nilS] (St w0 η) fun v A' => v = .bool true ∧ A' = St w0 η := by
  refine CallsT.body Try.func66 rfl rfl ?_
  simp only [Try.ntmps66, slotsOf, Nat.reduceAdd]
  refine TC_seq ?_
  refine TC_reg ?_
  refine TL_q rfl rfl (QT_assign rfl rfl rfl) ?_
  refine TL_nil ?_
  refine TX_then ?_
  refine TC_seq ?_
  refine TC_seq ?_
  refine TC_reg ?_
  refine TL_q rfl rfl (QT_assign rfl rfl rfl) ?_
  refine TL_nil ?_
  refine TX_then ?_
  refine TC_block ?_
  refine TC_loop (γ := Unit) (fun _ => [(0, true, nilS), (3, true, .int .i64 0)]) (fun _ => St w0 η) (fun _ => 0) () ⟨rfl, rfl, trivial⟩ (fun _ h => h) ?_
  rintro ⟨⟩
  dsimp only [nilS]
  refine TC_seq ?_
  refine TC_seq ?_
  refine TC_reg ?_
  refine TL_q rfl rfl (QT_move rfl rfl rfl) ?_
  refine TL_q rfl rfl (QT_move rfl rfl rfl) ?_
  refine TL_q rfl rfl (QT_len rfl rfl Try.underlying37 rfl) ?_
  refine TL_q rfl rfl (QT_lss rfl rfl rfl rfl) ?_
  refine TL_nil ?_
  refine TX_then ?_
  refine TC_cond rfl (fun h => absurd (h.symm.trans ((show (_ : Bool) = false by rfl))) (by decide)) (fun _ => ?_)
  refine TC_exit ?_
  refine TX_then_exit ?_
  refine TX_then_exit ?_
  refine TX_block_here ?_
  refine TX_then ?_
  refine TC_seq ?_
  refine TC_reg ?_
  refine TL_q rfl rfl (QT_assign rfl rfl rfl) ?_
  refine TL_nil ?_
  refine TX_then ?_
  refine TC_ret ?_
  exact TX_ret (.inl rfl) (res1 rfl rfl) ⟨_, ⟨rfl, rfl⟩, fun _ h => h⟩
theorem fill_nil_fixes (w0 : World) (η : Heap) : CallsT Try.prog 41 [nilS] (St w0 η) fun v A' => v = .tuple #[] ∧ A' = St w0 η := by
  refine CallsT.body Try.func41 rfl rfl ?_
  simp only [Try.ntmps41, slotsOf, Nat.reduceAdd]
  refine TC_seq ?_
  refine TC_reg ?_
  refine TL_q rfl rfl (QT_assign rfl rfl rfl) ?_
  refine TL_nil ?_
  refine TX_then ?_
  refine TC_block ?_
  refine TC_loop (γ := Unit) (fun _ => [(0, true, nilS), (2, true, .int .i64 0)]) (fun _ => St w0 η) (fun _ => 0) () ⟨rfl, rfl, trivial⟩ (fun _ h => h) ?_
  rintro ⟨⟩
  dsimp only [nilS]
  refine TC_seq ?_
  refine TC_seq ?_
  refine TC_reg ?_
  refine TL_q rfl rfl (QT_move rfl rfl rfl) ?_
  refine TL_q rfl rfl (QT_move rfl rfl rfl) ?_
  refine TL_q rfl rfl (QT_len rfl rfl Try.underlying38 rfl) ?_
  refine TL_q rfl rfl (QT_lss rfl rfl rfl rfl) ?_
  refine TL_nil ?_
  refine TX_then ?_
  refine TC_cond rfl (fun h => absurd (h.symm.trans ((show (_ : Bool) = false by rfl))) (by decide)) (fun _ => ?_)
  refine TC_exit ?_
  refine TX_then_exit ?_
  refine TX_then_exit ?_
  refine TX_block_here ?_
  exact TX_ret (.inr rfl) (res0 rfl) ⟨_, ⟨rfl, rfl⟩, fun _ h => h⟩
theorem grow_nil_fixes (w0 : World) (η : Heap) : CallsT Try.prog 54 [nilS] (St w0 η) fun v A' => v = .tuple #[] ∧ A' = St w0 η := by
  refine CallsT.body Try.func54 rfl rfl ?_
  simp only [Try.ntmps54, slotsOf, Nat.reduceAdd]
  refine TC_seq ?_
  refine TC_reg ?_
  refine TL_q rfl rfl (QT_assign rfl rfl rfl) ?_
  refine TL_nil ?_
  refine TX_then ?_
  refine TC_block ?_
  refine TC_loop (γ := Unit) (fun _ => [(0, true, nilS), (2, true, .int .i64 0)]) (fun _ => St w0 η) (fun _ => 0) () ⟨rfl, rfl, trivial⟩ (fun _ h => h) ?_
  rintro ⟨⟩
  dsimp only [nilS]
  refine TC_seq ?_
  refine TC_seq ?_
  refine TC_reg ?_
  refine TL_q rfl rfl (QT_move rfl rfl rfl) ?_
  refine TL_q rfl rfl (QT_move rfl rfl rfl) ?_
  refine TL_q rfl rfl (QT_len rfl rfl Try.underlying38 rfl) ?_
  refine TL_q rfl rfl (QT_lss rfl rfl rfl rfl) ?_
  refine TL_nil ?_
  refine TX_then ?_
  refine TC_cond rfl (fun h => absurd (h.symm.trans ((show (_ : Bool) = false by rfl))) (by decide)) (fun _ => ?_)
  refine TC_exit ?_
  refine TX_then_exit ?_
  refine TX_then_exit ?_
  refine TX_block_here ?_
  exact TX_ret (.inr rfl) (res0 rfl) ⟨_, ⟨rfl, rfl⟩, fun _ h => h⟩
theorem marked_nil_fixes (w0 : World) (η : Heap) : CallsT Try.prog 67 [nilS] (St w0 η) fun v A' => v = .bool true ∧ A' = St w0 η := by
  refine CallsT.body Try.func67 rfl rfl ?_
  simp only [Try.ntmps67, slotsOf, Nat.reduceAdd]
  refine TC_seq ?_
  refine TC_reg ?_
  refine TL_q rfl rfl (QT_assign rfl rfl rfl) ?_
  refine TL_nil ?_
  refine TX_then ?_
  refine TC_seq ?_
  refine TC_seq ?_
  refine TC_reg ?_
  refine TL_q rfl rfl (QT_assign rfl rfl rfl) ?_
  refine TL_nil ?_
  refine TX_then ?_
  refine TC_block ?_
  refine TC_loop (γ := Unit) (fun _ => [(0, true, nilS), (3, true, .int .i64 0)]) (fun _ => St w0 η) (fun _ => 0) () ⟨rfl, rfl, trivial⟩ (fun _ h => h) ?_
  rintro ⟨⟩
  dsimp only [nilS]
  refine TC_seq ?_
  refine TC_seq ?_
  refine TC_reg ?_
  refine TL_q rfl rfl (QT_move rfl rfl rfl) ?_
  refine TL_q rfl rfl (QT_move rfl rfl rfl) ?_
  refine TL_q rfl rfl (QT_len rfl rfl Try.underlying38 rfl) ?_
  refine TL_q rfl rfl (QT_lss rfl rfl rfl rfl) ?_
  refine TL_nil ?_
  refine TX_then ?_
  refine TC_cond rfl (fun h => absurd (h.symm.trans ((show (_ : Bool) = false by rfl))) (by decide)) (fun _ => ?_)
  refine TC_exit ?_
  refine TX_then_exit ?_
  refine TX_then_exit ?_
  refine TX_block_here ?_
  refine TX_then ?_
  refine TC_seq ?_
  refine TC_reg ?_
  refine TL_q rfl rfl (QT_assign rfl rfl rfl) ?_
  refine TL_nil ?_
  refine TX_then ?_
  refine TC_ret ?_
  exact TX_ret (.inl rfl) (res1 rfl rfl) ⟨_, ⟨rfl, rfl⟩, fun _ h => h⟩
theorem fill_nil_recs (w0 : World) (η : Heap) : CallsT Try.prog 42 [nilS] (St w0 η) fun v A' => v = .tuple #[] ∧ A' = St w0 η := by
  refine CallsT.body Try.func42 rfl rfl ?_
  simp only [Try.ntmps42, slotsOf, Nat.reduceAdd]
  refine TC_seq ?_
  refine TC_reg ?_
  refine TL_q rfl rfl (QT_assign rfl rfl rfl) ?_
  refine TL_nil ?_
  refine TX_then ?_
  refine TC_block ?_
  refine TC_loop (γ := Unit) (fun _ => [(0, true, nilS), (2, true, .int .i64 0)]) (fun _ => St w0 η) (fun _ => 0) () ⟨rfl, rfl, trivial⟩ (fun _ h => h) ?_
  rintro ⟨⟩
  dsimp only [nilS]
  refine TC_seq ?_
  refine TC_seq ?_
  refine TC_reg ?_
  refine TL_q rfl rfl (QT_move rfl rfl rfl) ?_
  refine TL_q rfl rfl (QT_move rfl rfl rfl) ?_
  refine TL_q rfl rfl (QT_len rfl rfl Try.underlying39 rfl) ?_
  refine TL_q rfl rfl (QT_lss rfl rfl rfl rfl) ?_
  refine TL_nil ?_
  refine TX_then ?_
  refine TC_cond rfl (fun h => absurd (h.symm.trans ((show (_ : Bool) = false by rfl))) (by decide)) (fun _ => ?_)
  refine TC_exit ?_
  refine TX_then_exit ?_
  refine TX_then_exit ?_
  refine TX_block_here ?_
  exact TX_ret (.inr rfl) (res0 rfl) ⟨_, ⟨rfl, rfl⟩, fun _ h => h⟩
theorem grow_nil_recs (w0 : World) (η : Heap) : CallsT Try.prog 55 [nilS] (St w0 η) fun v A' => v = .tuple #[] ∧ A' = St w0 η := by
  refine CallsT.body Try.func55 rfl rfl ?_
  simp only [Try.ntmps55, slotsOf, Nat.reduceAdd]
  refine TC_seq ?_
  refine TC_reg ?_
  refine TL_q rfl rfl (QT_assign rfl rfl rfl) ?_
  refine TL_nil ?_
  refine TX_then ?_
  refine TC_block ?_
  refine TC_loop (γ := Unit) (fun _ => [(0, true, nilS), (2, true, .int .i64 0)]) (fun _ => St w0 η) (fun _ => 0) () ⟨rfl, rfl, trivial⟩ (fun _ h => h) ?_
  rintro ⟨⟩
  dsimp only [nilS]
  refine TC_seq ?_
  refine TC_seq ?_
  refine TC_reg ?_
  refine TL_q rfl rfl (QT_move rfl rfl rfl) ?_
  refine TL_q rfl rfl (QT_move rfl rfl rfl) ?_
  refine TL_q rfl rfl (QT_len rfl rfl Try.underlying39 rfl) ?_
  refine TL_q rfl rfl (QT_lss rfl rfl rfl rfl) ?_
  refine TL_nil ?_
  refine TX_then ?_
  refine TC_cond rfl (fun h => absurd (h.symm.trans ((show (_ : Bool) = false by rfl))) (by decide)) (fun _ => ?_)
  refine TC_exit ?_
  refine TX_then_exit ?_
  refine TX_then_exit ?_
  refine TX_block_here ?_
  exact TX_ret (.inr rfl) (res0 rfl) ⟨_, ⟨rfl, rfl⟩, fun _ h => h⟩
theorem marked_nil_recs (w0 : World) (η : Heap) : CallsT Try.prog 68 [nilS] (St w0 η) fun v A' => v = .bool true ∧ A' = St w0 η := by
  refine CallsT.body Try.func68 rfl rfl ?_
  simp only [Try.ntmps68, slotsOf, Nat.reduceAdd]
  refine TC_seq ?_
  refine TC_reg ?_
  refine TL_q rfl rfl (QT_assign rfl rfl rfl) ?_
  refine TL_nil ?_
  refine TX_then ?_
  refine TC_seq ?_
  refine TC_seq ?_
  refine TC_reg ?_
  refine TL_q rfl rfl (QT_assign rfl rfl rfl) ?_
  refine TL_nil ?_
  refine TX_then ?_
  refine TC_block ?_
  refine TC_loop (γ := Unit) (fun _ => [(0, true, nilS), (3, true, .int .i64 0)]) (fun _ => St w0 η) (fun _ => 0) () ⟨rfl, rfl, trivial⟩ (fun _ h => h) ?_
  rintro ⟨⟩
  dsimp only [nilS]
  refine TC_seq ?_
  refine TC_seq ?_
  refine TC_reg ?_
  refine TL_q rfl rfl (QT_move rfl rfl rfl) ?_
  refine TL_q rfl rfl (QT_move rfl rfl rfl) ?_
  refine TL_q rfl rfl (QT_len rfl rfl Try.underlying39 rfl) ?_
  refine TL_q rfl rfl (QT_lss rfl rfl rfl rfl) ?_
  refine TL_nil ?_
  refine TX_then ?_
  refine TC_cond rfl (fun h => absurd (h.symm.trans ((show (_ : Bool) = false by rfl))) (by decide)) (fun _ => ?_)
  refine TC_exit ?_
  refine TX_then_exit ?_
  refine TX_then_exit ?_
  refine TX_block_here ?_
  refine TX_then ?_
  refine TC_seq ?_
  refine TC_reg ?_
  refine TL_q rfl rfl (QT_assign rfl rfl rfl) ?_
  refine TL_nil ?_
  refine TX_then ?_
  refine TC_ret ?_
  exact TX_ret (.inl rfl) (res1 rfl rfl) ⟨_, ⟨rfl, rfl⟩, fun _ h => h⟩
theorem fill_nil_tris (w0 : World) (η : Heap) : CallsT Try.prog 43 [nilS] (St w0 η) fun v A' => v = .tuple #[] ∧ A' = St w0 η := by
  refine CallsT.body Try.func43 rfl rfl ?_
  simp only [Try.ntmps43, slotsOf, Nat.reduceAdd]
  refine TC_seq ?_
  refine TC_reg ?_
  refine TL_q rfl rfl (QT_assign rfl rfl rfl) ?_
  refine TL_nil ?_
  refine TX_then ?_
  refine TC_block ?_
  refine TC_loop (γ := Unit) (fun _ => [(0, true, nilS), (2, true, .int .i64 0)]) (fun _ => St w0 η) (fun _ => 0) () ⟨rfl, rfl, trivial⟩ (fun _ h => h) ?_
  rintro ⟨⟩
  dsimp only [nilS]
  refine TC_seq ?_
  refine TC_seq ?_
  refine TC_reg ?_
  refine TL_q rfl rfl (QT_move rfl rfl rfl) ?_
  refine TL_q rfl rfl (QT_move rfl rfl rfl) ?_
  refine TL_q rfl rfl (QT_len rfl rfl Try.underlying40 rfl) ?_
  refine TL_q rfl rfl (QT_lss rfl rfl rfl rfl) ?_
  refine TL_nil ?_
  refine TX_then ?_
  refine TC_cond rfl (fun h => absurd (h.symm.trans ((show (_ : Bool) = false by rfl))) (by decide)) (fun _ => ?_)
  refine TC_exit ?_
  refine TX_then_exit ?_
  refine TX_then_exit ?_
  refine TX_block_here ?_
  exact TX_ret (.inr rfl) (res0 rfl) ⟨_, ⟨rfl, rfl⟩, fun _ h => h⟩
theorem grow_nil_tris (w0 : World) (η : Heap) : CallsT Try.prog 56 [nilS] (St w0 η) fun v A' => v = .tuple #[] ∧ A' = St w0 η := by
  refine CallsT.body Try.func56 rfl rfl ?_
  simp only [Try.ntmps56, slotsOf, Nat.reduceAdd]
  refine TC_seq ?_
  refine TC_reg ?_
  refine TL_q rfl rfl (QT_assign rfl rfl rfl) ?_
  refine TL_nil ?_
  refine TX_then ?_
  refine TC_block ?_
  refine TC_loop (γ := Unit) (fun _ => [(0, true, nilS), (2, true, .int .i64 0)]) (fun _ => St w0 η) (fun _ => 0) () ⟨rfl, rfl, trivial⟩ (fun _ h => h) ?_
  rintro ⟨⟩
  dsimp only [nilS]
  refine TC_seq ?_
  refine TC_seq ?_
  refine TC_reg ?_
  refine TL_q rfl rfl (QT_move rfl rfl rfl) ?_
  refine TL_q rfl rfl (QT_move rfl rfl rfl) ?_
  refine TL_q rfl rfl (QT_len rfl rfl Try.underlying40 rfl) ?_
  refine TL_q rfl rfl (QT_lss rfl rfl rfl rfl) ?_
  refine TL_nil ?_
  refine TX_then ?_
  refine TC_cond rfl (fun h => absurd (h.symm.trans ((show (_ : Bool) = false by rfl))) (by decide)) (fun _ => ?_)
  refine TC_exit ?_
  refine TX_then_exit ?_
  refine TX_then_exit ?_
  refine TX_block_here ?_
  exact TX_ret (.inr rfl) (res0 rfl) ⟨_, ⟨rfl, rfl⟩, fun _ h => h⟩
theorem marked_nil_tris (w0 : World) (η : Heap) : CallsT Try.prog 69 [nilS] (St w0 η) fun v A' => v = .bool true ∧ A' = St w0 η := by
  refine CallsT.body Try.func69 rfl rfl ?_
  simp only [Try.ntmps69, slotsOf, Nat.reduceAdd]
  refine TC_seq ?_
  refine TC_reg ?_
  refine TL_q rfl rfl (QT_assign rfl rfl rfl) ?_
  refine TL_nil ?_
  refine TX_then ?_
  refine TC_seq ?_
  refine TC_seq ?_
  refine TC_reg ?_
  refine TL_q rfl rfl (QT_assign rfl rfl rfl) ?_
  refine TL_nil ?_
  refine TX_then ?_
  refine TC_block ?_
  refine TC_loop (γ := Unit) (fun _ => [(0, true, nilS), (3, true, .int .i64 0)]) (fun _ => St w0 η) (fun _ => 0) () ⟨rfl, rfl, trivial⟩ (fun _ h => h) ?_
  rintro ⟨⟩
  dsimp only [nilS]
  refine TC_seq ?_
  refine TC_seq ?_
  refine TC_reg ?_
  refine TL_q rfl rfl (QT_move rfl rfl rfl) ?_
  refine TL_q rfl rfl (QT_move rfl rfl rfl) ?_
  refine TL_q rfl rfl (QT_len rfl rfl Try.underlying40 rfl) ?_
  refine TL_q rfl rfl (QT_lss rfl rfl rfl rfl) ?_
  refine TL_nil ?_
  refine TX_then ?_
  refine TC_cond rfl (fun h => absurd (h.symm.trans ((show (_ : Bool) = false by rfl))) (by decide)) (fun _ => ?_)
  refine TC_exit ?_
  refine TX_then_exit ?_
  refine TX_then_exit ?_
  refine TX_block_here ?_
  refine TX_then ?_
  refine TC_seq ?_
  refine TC_reg ?_
  refine TL_q rfl rfl (QT_assign rfl rfl rfl) ?_
  refine TL_nil ?_
  refine TX_then ?_
  refine TC_ret ?_
  exact TX_ret (.inl rfl) (res1 rfl rfl) ⟨_, ⟨rfl, rfl⟩, fun _ h => h⟩
theorem fill_nil_sheets (w0 : World) (η : Heap) : CallsT Try.prog 44 [nilS] (St w0 η) fun v A' => v = .tuple #[] ∧ A' = St w0 η := by
  refine CallsT.body Try.func44 rfl rfl ?_
  simp only [Try.ntmps44, slotsOf, Nat.reduceAdd]
  refine TC_seq ?_
  refine TC_reg ?_
  refine TL_q rfl rfl (QT_assign rfl rfl rfl) ?_
  refine TL_nil ?_
  refine TX_then ?_
  refine TC_block ?_
  refine TC_loop (γ := Unit) (fun _ => [(0, true, nilS), (2, true, .int .i64 0)]) (fun _ => St w0 η) (fun _ => 0) () ⟨rfl, rfl, trivial⟩ (fun _ h => h) ?_
  rintro ⟨⟩
  dsimp only [nilS]
  refine TC_seq ?_
  refine TC_seq ?_
  refine TC_reg ?_
  refine TL_q rfl rfl (QT_move rfl rfl rfl) ?_
  refine TL_q rfl rfl (QT_move rfl rfl rfl) ?_
  refine TL_q rfl rfl (QT_len rfl rfl Try.underlying41 rfl) ?_
  refine TL_q rfl rfl (QT_lss rfl rfl rfl rfl) ?_
  refine TL_nil ?_
  refine TX_then ?_
  refine TC_cond rfl (fun h => absurd (h.symm.trans ((show (_ : Bool) = false by rfl))) (by decide)) (fun _ => ?_)
  refine TC_exit ?_
  refine TX_then_exit ?_
  refine TX_then_exit ?_
  refine TX_block_here ?_
  exact TX_ret (.inr rfl) (res0 rfl) ⟨_, ⟨rfl, rfl⟩, fun _ h => h⟩
theorem grow_nil_sheets (w0 : World) (η : Heap) : CallsT Try.prog 57 [nilS] (St w0 η) fun v A' => v = .tuple #[] ∧ A' = St w0 η := by
  refine CallsT.body Try.func57 rfl rfl ?_
  simp only [Try.ntmps57, slotsOf, Nat.reduceAdd]
  refine TC_seq ?_
  refine TC_reg ?_
  refine TL_q rfl rfl (QT_assign rfl rfl rfl) ?_
  refine TL_nil ?_
  refine TX_then ?_
  refine TC_block ?_
  refine TC_loop (γ := Unit) (fun _ => [(0, true, nilS), (2, true, .int .i64 0)]) (fun _ => St w0 η) (fun _ => 0) () ⟨rfl, rfl, trivial⟩ (fun _ h => h) ?_
  rintro ⟨⟩
  dsimp only [nilS]
  refine TC_seq ?_
  refine TC_seq ?_
  refine TC_reg ?_
  refine TL_q rfl rfl (QT_move rfl rfl rfl) ?_
  refine TL_q rfl rfl (QT_move rfl rfl rfl) ?_
  refine TL_q rfl rfl (QT_len rfl rfl Try.underlying41 rfl) ?_
  refine TL_q rfl rfl (QT_lss rfl rfl rfl rfl) ?_
  refine TL_nil ?_
  refine TX_then ?_
  refine TC_cond rfl (fun h => absurd (h.symm.trans ((show (_ : Bool) = false by rfl))) (by decide)) (fun _ => ?_)
  refine TC_exit ?_
  refine TX_then_exit ?_
  refine TX_then_exit ?_
  refine TX_block_here ?_
  exact TX_ret (.inr rfl) (res0 rfl) ⟨_, ⟨rfl, rfl⟩, fun _ h => h⟩
theorem marked_nil_sheets (w0 : World) (η : Heap) : CallsT Try.prog 70 [nilS] (St w0 η) fun v A' => v = .bool true ∧ A' = St w0 η := by
  refine CallsT.body Try.func70 rfl rfl ?_
  simp only [Try.ntmps70, slotsOf, Nat.reduceAdd]
  refine TC_seq ?_
  refine TC_reg ?_
  refine TL_q rfl rfl (QT_assign rfl rfl rfl) ?_
  refine TL_nil ?_
  refine TX_then ?_
  refine TC_seq ?_
  refine TC_seq ?_
  refine TC_reg ?_
  refine TL_q rfl rfl (QT_assign rfl rfl rfl) ?_
  refine TL_nil ?_
  refine TX_then ?_
  refine TC_block ?_
  refine TC_loop (γ := Unit) (fun _ => [(0, true, nilS), (3, true, .int .i64 0)]) (fun _ => St w0 η) (fun _ => 0) () ⟨rfl, rfl, trivial⟩ (fun _ h => h) ?_
  rintro ⟨⟩
  dsimp only [nilS]
  refine TC_seq ?_
  refine TC_seq ?_
  refine TC_reg ?_
  refine TL_q rfl rfl (QT_move rfl rfl rfl) ?_
  refine TL_q rfl rfl (QT_move rfl rfl rfl) ?_
  refine TL_q rfl rfl (QT_len rfl rfl Try.underlying41 rfl) ?_
  refine TL_q rfl rfl (QT_lss rfl rfl rfl rfl) ?_
  refine TL_nil ?_
  refine TX_then ?_
  refine TC_cond rfl (fun h => absurd (h.symm.trans ((show (_ : Bool) = false by rfl))) (by decide)) (fun _ => ?_)
  refine TC_exit ?_
  refine TX_then_exit ?_
  refine TX_then_exit ?_
  refine TX_block_here ?_
  refine TX_then ?_
  refine TC_seq ?_
  refine TC_reg ?_
  refine TL_q rfl rfl (QT_assign rfl rfl rfl) ?_
  refine TL_nil ?_
  refine TX_then ?_
  refine TC_ret ?_
  exact TX_ret (.inl rfl) (res1 rfl rfl) ⟨_, ⟨rfl, rfl⟩, fun _ h => h⟩
theorem fill_nil_tiles (w0 : World) (η : Heap) : CallsT Try.prog 45 [nilS] (St w0 η) fun v A' => v = .tuple #[] ∧ A' = St w0 η := by
  refine CallsT.body Try.func45 rfl rfl ?_
  simp only [Try.ntmps45, slotsOf, Nat.reduceAdd]
  refine TC_seq ?_
  refine TC_reg ?_
  refine TL_q rfl rfl (QT_assign rfl rfl rfl) ?_
  refine TL_nil ?_
  refine TX_then ?_
  refine TC_block ?_
  refine TC_loop (γ := Unit) (fun _ => [(0, true, nilS), (2, true, .int .i64 0)]) (fun _ => St w0 η) (fun _ => 0) () ⟨rfl, rfl, trivial⟩ (fun _ h => h) ?_
  rintro ⟨⟩
  dsimp only [nilS]
  refine TC_seq ?_
  refine TC_seq ?_
  refine TC_reg ?_
  refine TL_q rfl rfl (QT_move rfl rfl rfl) ?_
  refine TL_q rfl rfl (QT_move rfl rfl rfl) ?_
  refine TL_q rfl rfl (QT_len rfl rfl Try.underlying42 rfl) ?_
  refine TL_q rfl rfl (QT_lss rfl rfl rfl rfl) ?_
  refine TL_nil ?_
  refine TX_then ?_
  refine TC_cond rfl (fun h => absurd (h.symm.trans ((show (_ : Bool) = false by rfl))) (by decide)) (fun _ => ?_)
  refine TC_exit ?_
  refine TX_then_exit ?_
  refine TX_then_exit ?_
  refine TX_block_here ?_
  exact TX_ret (.inr rfl) (res0 rfl) ⟨_, ⟨rfl, rfl⟩, fun _ h => h⟩
theorem grow_nil_tiles (w0 : World) (η : Heap) : CallsT Try.prog 58 [nilS] (St w0 η) fun v A' => v = .tuple #[] ∧ A' = St w0 η := by
  refine CallsT.body Try.func58 rfl rfl ?_
  simp only [Try.ntmps58, slotsOf, Nat.reduceAdd]
  refine TC_seq ?_
  refine TC_reg ?_
  refine TL_q rfl rfl (QT_assign rfl rfl rfl) ?_
  refine TL_nil ?_
  refine TX_then ?_
  refine TC_block ?_
  refine TC_loop (γ := Unit) (fun _ => [(0, true, nilS), (2, true, .int .i64 0)]) (fun _ => St w0 η) (fun _ => 0) () ⟨rfl, rfl, trivial⟩ (fun _ h => h) ?_
  rintro ⟨⟩
  dsimp only [nilS]
  refine TC_seq ?_
  refine TC_seq ?_
  refine TC_reg ?_
  refine TL_q rfl rfl (QT_move rfl rfl rfl) ?_
  refine TL_q rfl rfl (QT_move rfl rfl rfl) ?_
  refine TL_q rfl rfl (QT_len rfl rfl Try.underlying42 rfl) ?_
  refine TL_q rfl rfl (QT_lss rfl rfl rfl rfl) ?_
  refine TL_nil ?_
  refine TX_then ?_
  refine TC_cond rfl (fun h => absurd (h.symm.trans ((show (_ : Bool) = false by rfl))) (by decide)) (fun _ => ?_)
  refine TC_exit ?_
  refine TX_then_exit ?_
  refine TX_then_exit ?_
  refine TX_block_here ?_
  exact TX_ret (.inr rfl) (res0 rfl) ⟨_, ⟨rfl, rfl⟩, fun _ h => h⟩
theorem marked_nil_tiles (w0 : World) (η : Heap) : CallsT Try.prog 71 [nilS] (St w0 η) fun v A' => v = .bool true ∧ A' = St w0 η := by
  refine CallsT.body Try.func71 rfl rfl ?_
  simp only [Try.ntmps71, slotsOf, Nat.reduceAdd]
  refine TC_seq ?_
  refine TC_reg ?_
  refine TL_q rfl rfl (QT_assign rfl rfl rfl) ?_
  refine TL_nil ?_
  refine TX_then ?_
  refine TC_seq ?_
  refine TC_seq ?_
  refine TC_reg ?_
  refine TL_q rfl rfl (QT_assign rfl rfl rfl) ?_
  refine TL_nil ?_
  refine TX_then ?_
  refine TC_block ?_
  refine TC_loop (γ := Unit) (fun _ => [(0, true, nilS), (3, true, .int .i64 0)]) (fun _ => St w0 η) (fun _ => 0) () ⟨rfl, rfl, trivial⟩ (fun _ h => h) ?_
  rintro ⟨⟩
  dsimp only [nilS]
  refine TC_seq ?_
  refine TC_seq ?_
  refine TC_reg ?_
  refine TL_q rfl rfl (QT_move rfl rfl rfl) ?_
  refine TL_q rfl rfl (QT_move rfl rfl rfl) ?_
  refine TL_q rfl rfl (QT_len rfl rfl Try.underlying42 rfl) ?_
  refine TL_q rfl rfl (QT_lss rfl rfl rfl rfl) ?_
  refine TL_nil ?_
  refine TX_then ?_
  refine TC_cond rfl (fun h => absurd (h.symm.trans ((show (_ : Bool) = false by rfl))) (by decide)) (fun _ => ?_)
  refine TC_exit ?_
  refine TX_then_exit ?_
  refine TX_then_exit ?_
  refine TX_block_here ?_
  refine TX_then ?_
  refine TC_seq ?_
  refine TC_reg ?_
  refine TL_q rfl rfl (QT_assign rfl rfl rfl) ?_
  refine TL_nil ?_
  refine TX_then ?_
  refine TC_ret ?_
  exact TX_ret (.inl rfl) (res1 rfl rfl) ⟨_, ⟨rfl, rfl⟩, fun _ h => h⟩
theorem fill_nil_dots (w0 : World) (η : Heap) : CallsT Try.prog 46 [nilS] (St w0 η) fun v A' => v = .tuple #[] ∧ A' = St w0 η := by
  refine CallsT.body Try.func46 rfl rfl ?_
  simp only [Try.ntmps46, slotsOf, Nat.reduceAdd]
  refine TC_seq ?_
  refine TC_reg ?_
  refine TL_q rfl rfl (QT_assign rfl rfl rfl) ?_
  refine TL_nil ?_
  refine TX_then ?_
  refine TC_block ?_
  refine TC_loop (γ := Unit) (fun _ => [(0, true, nilS), (2, true, .int .i64 0)]) (fun _ => St w0 η) (fun _ => 0) () ⟨rfl, rfl, trivial⟩ (fun _ h => h) ?_
  rintro ⟨⟩
  dsimp only [nilS]
  refine TC_seq ?_
  refine TC_seq ?_
  refine TC_reg ?_
  refine TL_q rfl rfl (QT_move rfl rfl rfl) ?_
  refine TL_q rfl rfl (QT_move rfl rfl rfl) ?_
  refine TL_q rfl rfl (QT_len rfl rfl Try.underlying43 rfl) ?_
  refine TL_q rfl rfl (QT_lss rfl rfl rfl rfl) ?_
  refine TL_nil ?_
  refine TX_then ?_
  refine TC_cond rfl (fun h => absurd (h.symm.trans ((show (_ : Bool) = false by rfl))) (by decide)) (fun _ => ?_)
  refine TC_exit ?_
  refine TX_then_exit ?_
  refine TX_then_exit ?_
  refine TX_block_here ?_
  exact TX_ret (.inr rfl) (res0 rfl) ⟨_, ⟨rfl, rfl⟩, fun _ h => h⟩
theorem grow_nil_dots (w0 : World) (η : Heap) : CallsT Try.prog 59 [nilS] (St w0 η) fun v A' => v = .tuple #[] ∧ A' = St w0 η := by
  refine CallsT.body Try.func59 rfl rfl ?_
  simp only [Try.ntmps59, slotsOf, Nat.reduceAdd]
  refine TC_seq ?_
  refine TC_reg ?_
  refine TL_q rfl rfl (QT_assign rfl rfl rfl) ?_
  refine TL_nil ?_
  refine TX_then ?_
  refine TC_block ?_
  refine TC_loop (γ := Unit) (fun _ => [(0, true, nilS), (2, true, .int .i64 0)]) (fun _ => St w0 η) (fun _ => 0) () ⟨rfl, rfl, trivial⟩ (fun _ h => h) ?_
  rintro ⟨⟩
  dsimp only [nilS]
  refine TC_seq ?_
  refine TC_seq ?_
  refine TC_reg ?_
  refine TL_q rfl rfl (QT_move rfl rfl rfl) ?_
  refine TL_q rfl rfl (QT_move rfl rfl rfl) ?_
  refine TL_q rfl rfl (QT_len rfl rfl Try.underlying43 rfl) ?_
  refine TL_q rfl rfl (QT_lss rfl rfl rfl rfl) ?_
  refine TL_nil ?_
  refine TX_then ?_
  refine TC_cond rfl (fun h => absurd (h.symm.trans ((show (_ : Bool) = false by rfl))) (by decide)) (fun _ => ?_)
  refine TC_exit ?_
  refine TX_then_exit ?_
  refine TX_then_exit ?_
  refine TX_block_here ?_
  exact TX_ret (.inr rfl) (res0 rfl) ⟨_, ⟨rfl, rfl⟩, fun _ h => h⟩
theorem marked_nil_dots (w0 : World) (η : Heap) : CallsT Try.prog 72 [nilS] (St w0 η) fun v A' => v = .bool true ∧ A' = St w0 η := by
  refine CallsT.body Try.func72 rfl rfl ?_
  simp only [Try.ntmps72, slotsOf, Nat.reduceAdd]
  refine TC_seq ?_
  refine TC_reg ?_
  refine TL_q rfl rfl (QT_assign rfl rfl rfl) ?_
  refine TL_nil ?_
  refine TX_then ?_
  refine TC_seq ?_
  refine TC_seq ?_
  refine TC_reg ?_
  refine TL_q rfl rfl (QT_assign rfl rfl rfl) ?_
  refine TL_nil ?_
  refine TX_then ?_
  refine TC_block ?_
  refine TC_loop (γ := Unit) (fun _ => [(0, true, nilS), (3, true, .int .i64 0)]) (fun _ => St w0 η) (fun _ => 0) () ⟨rfl, rfl, trivial⟩ (fun _ h => h) ?_
  rintro ⟨⟩
  dsimp only [nilS]
  refine TC_seq ?_
  refine TC_seq ?_
  refine TC_reg ?_
  refine TL_q rfl rfl (QT_move rfl rfl rfl) ?_
  refine TL_q rfl rfl (QT_move rfl rfl rfl) ?_
  refine TL_q rfl rfl (QT_len rfl rfl Try.underlying43 rfl) ?_
  refine TL_q rfl rfl (QT_lss rfl rfl rfl rfl) ?_
  refine TL_nil ?_
  refine TX_then ?_
  refine TC_cond rfl (fun h => absurd (h.symm.trans ((show (_ : Bool) = false by rfl))) (by decide)) (fun _ => ?_)
  refine TC_exit ?_
  refine TX_then_exit ?_
  refine TX_then_exit ?_
  refine TX_block_here ?_
  refine TX_then ?_
  refine TC_seq ?_
  refine TC_reg ?_
  refine TL_q rfl rfl (QT_assign rfl rfl rfl) ?_
  refine TL_nil ?_
  refine TX_then ?_
  refine TC_ret ?_
  exact TX_ret (.inl rfl) (res1 rfl rfl) ⟨_, ⟨rfl, rfl⟩, fun _ h => h⟩
theorem fill_nil_facets (w0 : World) (η : Heap) : CallsT Try.prog 47 [nilS] (St w0 η) fun v A' => v = .tuple #[] ∧ A' = St w0 η := by
  refine CallsT.body Try.func47 rfl rfl ?_
  simp only [Try.ntmps47, slotsOf, Nat.reduceAdd]
  refine TC_seq ?_
  refine TC_reg ?_
  refine TL_q rfl rfl (QT_assign rfl rfl rfl) ?_
  refine TL_nil ?_
  refine TX_then ?_
  refine TC_block ?_
  refine TC_loop (γ := Unit) (fun _ => [(0, true, nilS), (2, true, .int .i64 0)]) (fun _ => St w0 η) (fun _ => 0) () ⟨rfl, rfl, trivial⟩ (fun _ h => h) ?_
  rintro ⟨⟩
  dsimp only [nilS]
  refine TC_seq ?_
  refine TC_seq ?_
  refine TC_reg ?_
  refine TL_q rfl rfl (QT_move rfl rfl rfl) ?_
  refine TL_q rfl rfl (QT_move rfl rfl rfl) ?_
  refine TL_q rfl rfl (QT_len rfl rfl Try.underlying44 rfl) ?_
  refine TL_q rfl rfl (QT_lss rfl rfl rfl rfl) ?_
  refine TL_nil ?_
  refine TX_then ?_
  refine TC_cond rfl (fun h => absurd (h.symm.trans ((show (_ : Bool) = false by rfl))) (by decide)) (fun _ => ?_)
  refine TC_exit ?_
  refine TX_then_exit ?_
  refine TX_then_exit ?_
  refine TX_block_here ?_
  exact TX_ret (.inr rfl) (res0 rfl) ⟨_, ⟨rfl, rfl⟩, fun _ h => h⟩
theorem grow_nil_facets (w0 : World) (η : Heap) : CallsT Try.prog 60 [nilS] (St w0 η) fun v A' => v = .tuple #[] ∧ A' = St w0 η := by
  refine CallsT.body Try.func60 rfl rfl ?_
  simp only [Try.ntmps60, slotsOf, Nat.reduceAdd]
  refine TC_seq ?_
  refine TC_reg ?_
  refine TL_q rfl rfl (QT_assign rfl rfl rfl) ?_
  refine TL_nil ?_
  refine TX_then ?_
  refine TC_block ?_
  refine TC_loop (γ := Unit) (fun _ => [(0, true, nilS), (2, true, .int .i64 0)]) (fun _ => St w0 η) (fun _ => 0) () ⟨rfl, rfl, trivial⟩ (fun _ h => h) ?_
  rintro ⟨⟩
  dsimp only [nilS]
  refine TC_seq ?_
  refine TC_seq ?_
  refine TC_reg ?_
  refine TL_q rfl rfl (QT_move rfl rfl rfl) ?_
  refine TL_q rfl rfl (QT_move rfl rfl rfl) ?_
  refine TL_q rfl rfl (QT_len rfl rfl Try.underlying44 rfl) ?_
  refine TL_q rfl rfl (QT_lss rfl rfl rfl rfl) ?_
  refine TL_nil ?_
  refine TX_then ?_
  refine TC_cond rfl (fun h => absurd (h.symm.trans ((show (_ : Bool) = false by rfl))) (by decide)) (fun _ => ?_)
  refine TC_exit ?_
  refine TX_then_exit ?_
  refine TX_then_exit ?_
  refine TX_block_here ?_
  exact TX_ret (.inr rfl) (res0 rfl) ⟨_, ⟨rfl, rfl⟩, fun _ h => h⟩
theorem marked_nil_facets (w0 : World) (η : Heap) : CallsT Try.prog 73 [nilS] (St w0 η) fun v A' => v = .bool true ∧ A' = St w0 η := by
  refine CallsT.body Try.func73 rfl rfl ?_
  simp only [Try.ntmps73, slotsOf, Nat.reduceAdd]
  refine TC_seq ?_
  refine TC_reg ?_
  refine TL_q rfl rfl (QT_assign rfl rfl rfl) ?_
  refine TL_nil ?_
  refine TX_then ?_
  refine TC_seq ?_
  refine TC_seq ?_
  refine TC_reg ?_
  refine TL_q rfl rfl (QT_assign rfl rfl rfl) ?_
  refine TL_nil ?_
  refine TX_then ?_
  refine TC_block ?_
  refine TC_loop (γ := Unit) (fun _ => [(0, true, nilS), (3, true, .int .i64 0)]) (fun _ => St w0 η) (fun _ => 0) () ⟨rfl, rfl, trivial⟩ (fun _ h => h) ?_
  rintro ⟨⟩
  dsimp only [nilS]
  refine TC_seq ?_
  refine TC_seq ?_
  refine TC_reg ?_
  refine TL_q rfl rfl (QT_move rfl rfl rfl) ?_
  refine TL_q rfl rfl (QT_move rfl rfl rfl) ?_
  refine TL_q rfl rfl (QT_len rfl rfl Try.underlying44 rfl) ?_
  refine TL_q rfl rfl (QT_lss rfl rfl rfl rfl) ?_
  refine TL_nil ?_
  refine TX_then ?_
  refine TC_cond rfl (fun h => absurd (h.symm.trans ((show (_ : Bool) = false by rfl))) (by decide)) (fun _ => ?_)
  refine TC_exit ?_
  refine TX_then_exit ?_
  refine TX_then_exit ?_
  refine TX_block_here ?_
  refine TX_then ?_
  refine TC_seq ?_
  refine TC_reg ?_
  refine TL_q rfl rfl (QT_assign rfl rfl rfl) ?_
  refine TL_nil ?_
  refine TX_then ?_
  refine TC_ret ?_
  exact TX_ret (.inl rfl) (res1 rfl rfl) ⟨_, ⟨rfl, rfl⟩, fun _ h => h⟩
theorem fill_nil_tokens (w0 : World) (η : Heap) : CallsT Try.prog 48 [nilS] (St w0 η) fun v A' => v = .tuple #[] ∧ A' = St w0 η := by
  refine CallsT.body Try.func48 rfl rfl ?_
  simp only [Try.ntmps48, slotsOf, Nat.reduceAdd]
  refine TC_seq ?_
  refine TC_reg ?_
  refine TL_q rfl rfl (QT_assign rfl rfl rfl) ?_
  refine TL_nil ?_
  refine TX_then ?_
  refine TC_block ?_
  refine TC_loop (γ := Unit) (fun _ => [(0, true, nilS), (2, true, .int .i64 0)]) (fun _ => St w0 η) (fun _ => 0) () ⟨rfl, rfl, trivial⟩ (fun _ h => h) ?_
  rintro ⟨⟩
  dsimp only [nilS]
  refine TC_seq ?_
  refine TC_seq ?_
  refine TC_reg ?_
  refine TL_q rfl rfl (QT_move rfl rfl rfl) ?_
  refine TL_q rfl rfl (QT_move rfl rfl rfl) ?_
  refine TL_q rfl rfl (QT_len rfl rfl Try.underlying45 rfl) ?_
  refine TL_q rfl rfl (QT_lss rfl rfl rfl rfl) ?_
  refine TL_nil ?_
  refine TX_then ?_
  refine TC_cond rfl (fun h => absurd (h.symm.trans ((show (_ : Bool) = false by rfl))) (by decide)) (fun _ => ?_)
  refine TC_exit ?_
  refine TX_then_exit ?_
  refine TX_then_exit ?_
  refine TX_block_here ?_
  exact TX_ret (.inr rfl) (res0 rfl) ⟨_, ⟨rfl, rfl⟩, fun _ h => h⟩
theorem grow_nil_tokens (w0 : World) (η : Heap) : CallsT Try.prog 61 [nilS] (St w0 η) fun v A' => v = .tuple #[] ∧ A' = St w0 η := by
  refine CallsT.body Try.func61 rfl rfl ?_
  simp only [Try.ntmps61, slotsOf, Nat.reduceAdd]
  refine TC_seq ?_
  refine TC_reg ?_
  refine TL_q rfl rfl (QT_assign rfl rfl rfl) ?_
  refine TL_nil ?_
  refine TX_then ?_
  refine TC_block ?_
  refine TC_loop (γ := Unit) (fun _ => [(0, true, nilS), (2, true, .int .i64 0)]) (fun _ => St w0 η) (fun _ => 0) () ⟨rfl, rfl, trivial⟩ (fun _ h => h) ?_
  rintro ⟨⟩
  dsimp only [nilS]
  refine TC_seq ?_
  refine TC_seq ?_
  refine TC_reg ?_
  refine TL_q rfl rfl (QT_move rfl rfl rfl) ?_
  refine TL_q rfl rfl (QT_move rfl rfl rfl) ?_
  refine TL_q rfl rfl (QT_len rfl rfl Try.underlying45 rfl) ?_
  refine TL_q rfl rfl (QT_lss rfl rfl rfl rfl) ?_
  refine TL_nil ?_
  refine TX_then ?_
  refine TC_cond rfl (fun h => absurd (h.symm.trans ((show (_ : Bool) = false by rfl))) (by decide)) (fun _ => ?_)
  refine TC_exit ?_
  refine TX_then_exit ?_
  refine TX_then_exit ?_
  refine TX_block_here ?_
  exact TX_ret (.inr rfl) (res0 rfl) ⟨_, ⟨rfl, rfl⟩, fun _ h => h⟩
theorem marked_nil_tokens (w0 : World) (η : Heap) : CallsT Try.prog 74 [nilS] (St w0 η) fun v A' => v = .bool true ∧ A' = St w0 η := by
  refine CallsT.body Try.func74 rfl rfl ?_
  simp only [Try.ntmps74, slotsOf, Nat.reduceAdd]
  refine TC_seq ?_
  refine TC_reg ?_
  refine TL_q rfl rfl (QT_assign rfl rfl rfl) ?_
  refine TL_nil ?_
  refine TX_then ?_
  refine TC_seq ?_
  refine TC_seq ?_
  refine TC_reg ?_
  refine TL_q rfl rfl (QT_assign rfl rfl rfl) ?_
  refine TL_nil ?_
  refine TX_then ?_
  refine TC_block ?_
  refine TC_loop (γ := Unit) (fun _ => [(0, true, nilS), (3, true, .int .i64 0)]) (fun _ => St w0 η) (fun _ => 0) () ⟨rfl, rfl, trivial⟩ (fun _ h => h) ?_
  rintro ⟨⟩
  dsimp only [nilS]
  refine TC_seq ?_
  refine TC_seq ?_
  refine TC_reg ?_
  refine TL_q rfl rfl (QT_move rfl rfl rfl) ?_
  refine TL_q rfl rfl (QT_move rfl rfl rfl) ?_
  refine TL_q rfl rfl (QT_len rfl rfl Try.underlying45 rfl) ?_
  refine TL_q rfl rfl (QT_lss rfl rfl rfl rfl) ?_
  refine TL_nil ?_
  refine TX_then ?_
  refine TC_cond rfl (fun h => absurd (h.symm.trans ((show (_ : Bool) = false by rfl))) (by decide)) (fun _ => ?_)
  refine TC_exit ?_
  refine TX_then_exit ?_
  refine TX_then_exit ?_
  refine TX_block_here ?_
  refine TX_then ?_
  refine TC_seq ?_
  refine TC_reg ?_
  refine TL_q rfl rfl (QT_assign rfl rfl rfl) ?_
  refine TL_nil ?_
  refine TX_then ?_
  refine TC_ret ?_
  exact TX_ret (.inl rfl) (res1 rfl rfl) ⟨_, ⟨rfl, rfl⟩, fun _ h => h⟩
theorem fill_nil_codes (w0 : World) (η : Heap) : CallsT Try.prog 49 [nilS] (St w0 η) fun v A' => v = .tuple #[] ∧ A' = St w0 η := by
  refine CallsT.body Try.func49 rfl rfl ?_
  simp only [Try.ntmps49, slotsOf, Nat.reduceAdd]
  refine TC_seq ?_
  refine TC_reg ?_
  refine TL_q rfl rfl (QT_assign rfl rfl rfl) ?_
  refine TL_nil ?_
  refine TX_then ?_
  refine TC_block ?_
  refine TC_loop (γ := Unit) (fun _ => [(0, true, nilS), (2, true, .int .i64 0)]) (fun _ => St w0 η) (fun _ => 0) () ⟨rfl, rfl, trivial⟩ (fun _ h => h) ?_
  rintro ⟨⟩
  dsimp only [nilS]
  refine TC_seq ?_
  refine TC_seq ?_
  refine TC_reg ?_
  refine TL_q rfl rfl (QT_move rfl rfl rfl) ?_
  refine TL_q rfl rfl (QT_move rfl rfl rfl) ?_
  refine TL_q rfl rfl (QT_len rfl rfl Try.underlying46 rfl) ?_
  refine TL_q rfl rfl (QT_lss rfl rfl rfl rfl) ?_
  refine TL_nil ?_
  refine TX_then ?_
  refine TC_cond rfl (fun h => absurd (h.symm.trans ((show (_ : Bool) = false by rfl))) (by decide)) (fun _ => ?_)
  refine TC_exit ?_
  refine TX_then_exit ?_
  refine TX_then_exit ?_
  refine TX_block_here ?_
  exact TX_ret (.inr rfl) (res0 rfl) ⟨_, ⟨rfl, rfl⟩, fun _ h => h⟩
theorem grow_nil_codes (w0 : World) (η : Heap) : CallsT Try.prog 62 [nilS] (St w0 η) fun v A' => v = .tuple #[] ∧ A' = St w0 η := by
  refine CallsT.body Try.func62 rfl rfl ?_
  simp only [Try.ntmps62, slotsOf, Nat.reduceAdd]
  refine TC_seq ?_
  refine TC_reg ?_
  refine TL_q rfl rfl (QT_assign rfl rfl rfl) ?_
  refine TL_nil ?_
  refine TX_then ?_
  refine TC_block ?_
  refine TC_loop (γ := Unit) (fun _ => [(0, true, nilS), (2, true, .int .i64 0)]) (fun _ => St w0 η) (fun _ => 0) () ⟨rfl, rfl, trivial⟩ (fun _ h => h) ?_
  rintro ⟨⟩
  dsimp only [nilS]
  refine TC_seq ?_
  refine TC_seq ?_
  refine TC_reg ?_
  refine TL_q rfl rfl (QT_move rfl rfl rfl) ?_
  refine TL_q rfl rfl (QT_move rfl rfl rfl) ?_
  refine TL_q rfl rfl (QT_len rfl rfl Try.underlying46 rfl) ?_
  refine TL_q rfl rfl (QT_lss rfl rfl rfl rfl) ?_
  refine TL_nil ?_
  refine TX_then ?_
  refine TC_cond rfl (fun h => absurd (h.symm.trans ((show (_ : Bool) = false by rfl))) (by decide)) (fun _ => ?_)
  refine TC_exit ?_
  refine TX_then_exit ?_
  refine TX_then_exit ?_
  refine TX_block_here ?_
  exact TX_ret (.inr rfl) (res0 rfl) ⟨_, ⟨rfl, rfl⟩, fun _ h => h⟩
theorem marked_nil_codes (w0 : World) (η : Heap) : CallsT Try.prog 75 [nilS] (St w0 η) fun v A' => v = .bool true ∧ A' = St w0 η := by
  refine CallsT.body Try.func75 rfl rfl ?_
  simp only [Try.ntmps75, slotsOf, Nat.reduceAdd]
  refine TC_seq ?_
  refine TC_reg ?_
  refine TL_q rfl rfl (QT_assign rfl rfl rfl) ?_
  refine TL_nil ?_
  refine TX_then ?_
  refine TC_seq ?_
  refine TC_seq ?_
  refine TC_reg ?_
  refine TL_q rfl rfl (QT_assign rfl rfl rfl) ?_
  refine TL_nil ?_
  refine TX_then ?_
  refine TC_block ?_
  refine TC_loop (γ := Unit) (fun _ => [(0, true, nilS), (3, true, .int .i64 0)]) (fun _ => St w0 η) (fun _ => 0) () ⟨rfl, rfl, trivial⟩ (fun _ h => h) ?_
  rintro ⟨⟩
  dsimp only [nilS]
  refine TC_seq ?_
  refine TC_seq ?_
  refine TC_reg ?_
  refine TL_q rfl rfl (QT_move rfl rfl rfl) ?_
  refine TL_q rfl rfl (QT_move rfl rfl rfl) ?_
  refine TL_q rfl rfl (QT_len rfl rfl Try.underlying46 rfl) ?_
  refine TL_q rfl rfl (QT_lss rfl rfl rfl rfl) ?_
  refine TL_nil ?_
  refine TX_then ?_
  refine TC_cond rfl (fun h => absurd (h.symm.trans ((show (_ : Bool) = false by rfl))) (by decide)) (fun _ => ?_)
  refine TC_exit ?_
  refine TX_then_exit ?_
  refine TX_then_exit ?_
  refine TX_block_here ?_
  refine TX_then ?_
  refine TC_seq ?_
  refine TC_reg ?_
  refine TL_q rfl rfl (QT_assign rfl rfl rfl) ?_
  refine TL_nil ?_
  refine TX_then ?_
  refine TC_ret ?_
  exact TX_ret (.inl rfl) (res1 rfl rfl) ⟨_, ⟨rfl, rfl⟩, fun _ h => h⟩
theorem fill_nil_vals (w0 : World) (η : Heap) : CallsT Try.prog 50 [nilS] (St w0 η) fun v A' => v = .tuple #[] ∧ A' = St w0 η := by
  refine CallsT.body Try.func50 rfl rfl ?_
  simp only [Try.ntmps50, slotsOf, Nat.reduceAdd]
  refine TC_seq ?_
  refine TC_reg ?_
  refine TL_q rfl rfl (QT_assign rfl rfl rfl) ?_
  refine TL_nil ?_
  refine TX_then ?_
  refine TC_block ?_
  refine TC_loop (γ := Unit) (fun _ => [(0, true, nilS), (2, true, .int .i64 0)]) (fun _ => St w0 η) (fun _ => 0) () ⟨rfl, rfl, trivial⟩ (fun _ h => h) ?_
  rintro ⟨⟩
  dsimp only [nilS]
  refine TC_seq ?_
  refine TC_seq ?_
  refine TC_reg ?_
  refine TL_q rfl rfl (QT_move rfl rfl rfl) ?_
  refine TL_q rfl rfl (QT_move rfl rfl rfl) ?_
  refine TL_q rfl rfl (QT_len rfl rfl Try.underlying47 rfl) ?_
  refine TL_q rfl rfl (QT_lss rfl rfl rfl rfl) ?_
  refine TL_nil ?_
  refine TX_then ?_
  refine TC_cond rfl (fun h => absurd (h.symm.trans ((show (_ : Bool) = false by rfl))) (by decide)) (fun _ => ?_)
  refine TC_exit ?_
  refine TX_then_exit ?_
  refine TX_then_exit ?_
  refine TX_block_here ?_
  exact TX_ret (.inr rfl) (res0 rfl) ⟨_, ⟨rfl, rfl⟩, fun _ h => h⟩
theorem grow_nil_vals (w0 : World) (η : Heap) : CallsT Try.prog 63 [nilS] (St w0 η) fun v A' => v = .tuple #[] ∧ A' = St w0 η := by
  refine CallsT.body Try.func63 rfl rfl ?_
  simp only [Try.ntmps63, slotsOf, Nat.reduceAdd]
  refine TC_seq ?_
  refine TC_reg ?_
  refine TL_q rfl rfl (QT_assign rfl rfl rfl) ?_
  refine TL_nil ?_
  refine TX_then ?_
  refine TC_block ?_
  refine TC_loop (γ := Unit) (fun _ => [(0, true, nilS), (2, true, .int .i64 0)]) (fun _ => St w0 η) (fun _ => 0) () ⟨rfl, rfl, trivial⟩ (fun _ h => h) ?_
  rintro ⟨⟩
  dsimp only [nilS]
  refine TC_seq ?_
  refine TC_seq ?_
  refine TC_reg ?_
  refine TL_q rfl rfl (QT_move rfl rfl rfl) ?_
  refine TL_q rfl rfl (QT_move rfl rfl rfl) ?_
  refine TL_q rfl rfl (QT_len rfl rfl Try.underlying47 rfl) ?_
  refine TL_q rfl rfl (QT_lss rfl rfl rfl rfl) ?_
  refine TL_nil ?_
  refine TX_then ?_
  refine TC_cond rfl (fun h => absurd (h.symm.trans ((show (_ : Bool) = false by rfl))) (by decide)) (fun _ => ?_)
  refine TC_exit ?_
  refine TX_then_exit ?_
  refine TX_then_exit ?_
  refine TX_block_here ?_
  exact TX_ret (.inr rfl) (res0 rfl) ⟨_, ⟨rfl, rfl⟩, fun _ h => h⟩
theorem marked_nil_vals (w0 : World) (η : Heap) : CallsT Try.prog 76 [nilS] (St w0 η) fun v A' => v = .bool true ∧ A' = St w0 η := by
  refine CallsT.body Try.func76 rfl rfl ?_
  simp only [Try.ntmps76, slotsOf, Nat.reduceAdd]
  refine TC_seq ?_
  refine TC_reg ?_
  refine TL_q rfl rfl (QT_assign rfl rfl rfl) ?_
  refine TL_nil ?_
  refine TX_then ?_
  refine TC_seq ?_
  refine TC_seq ?_
  refine TC_reg ?_
  refine TL_q rfl rfl (QT_assign rfl rfl rfl) ?_
  refine TL_nil ?_
  refine TX_then ?_
  refine TC_block ?_
  refine TC_loop (γ := Unit) (fun _ => [(0, true, nilS), (3, true, .int .i64 0)]) (fun _ => St w0 η) (fun _ => 0) () ⟨rfl, rfl, trivial⟩ (fun _ h => h) ?_
  rintro ⟨⟩
  dsimp only [nilS]
  refine TC_seq ?_
  refine TC_seq ?_
  refine TC_reg ?_
  refine TL_q rfl rfl (QT_move rfl rfl rfl) ?_
  refine TL_q rfl rfl (QT_move rfl rfl rfl) ?_
  refine TL_q rfl rfl (QT_len rfl rfl Try.underlying47 rfl) ?_
  refine TL_q rfl rfl (QT_lss rfl rfl rfl rfl) ?_
  refine TL_nil ?_
  refine TX_then ?_
  refine TC_cond rfl (fun h => absurd (h.symm.trans ((show (_ : Bool) = false by rfl))) (by decide)) (fun _ => ?_)
  refine TC_exit ?_
  refine TX_then_exit ?_
  refine TX_then_exit ?_
  refine TX_block_here ?_
  refine TX_then ?_
  refine TC_seq ?_
  refine TC_reg ?_
  refine TL_q rfl rfl (QT_assign rfl rfl rfl) ?_
  refine TL_nil ?_
  refine TX_then ?_
  refine TC_ret ?_
  exact TX_ret (.inl rfl) (res1 rfl rfl) ⟨_, ⟨rfl, rfl⟩, fun _ h => h⟩
theorem fill_nil_spots (w0 : World) (η : Heap) : CallsT Try.prog 51 [nilS] (St w0 η) fun v A' => v = .tuple #[] ∧ A' = St w0 η := by
  refine CallsT.body Try.func51 rfl rfl ?_
  simp only [Try.ntmps51, slotsOf, Nat.reduceAdd]
  refine TC_seq ?_
  refine TC_reg ?_
  refine TL_q rfl rfl (QT_assign rfl rfl rfl) ?_
  refine TL_nil ?_
  refine TX_then ?_
  refine TC_block ?_
  refine TC_loop (γ := Unit) (fun _ => [(0, true, nilS), (2, true, .int .i64 0)]) (fun _ => St w0 η) (fun _ => 0) () ⟨rfl, rfl, trivial⟩ (fun _ h => h) ?_
  rintro ⟨⟩
  dsimp only [nilS]
  refine TC_seq ?_
  refine TC_seq ?_
  refine TC_reg ?_
  refine TL_q rfl rfl (QT_move rfl rfl rfl) ?_
  refine TL_q rfl rfl (QT_move rfl rfl rfl) ?_
  refine TL_q rfl rfl (QT_len rfl rfl Try.underlying48 rfl) ?_
  refine TL_q rfl rfl (QT_lss rfl rfl rfl rfl) ?_
  refine TL_nil ?_
  refine TX_then ?_
  refine TC_cond rfl (fun h => absurd (h.symm.trans ((show (_ : Bool) = false by rfl))) (by decide)) (fun _ => ?_)
  refine TC_exit ?_
  refine TX_then_exit ?_
  refine TX_then_exit ?_
  refine TX_block_here ?_
  exact TX_ret (.inr rfl) (res0 rfl) ⟨_, ⟨rfl, rfl⟩, fun _ h => h⟩
theorem grow_nil_spots (w0 : World) (η : Heap) : CallsT Try.prog 64 [nilS] (St w0 η) fun v A' => v = .tuple #[] ∧ A' = St w0 η := by
  refine CallsT.body Try.func64 rfl rfl ?_
  simp only [Try.ntmps64, slotsOf, Nat.reduceAdd]
  refine TC_seq ?_
  refine TC_reg ?_
  refine TL_q rfl rfl (QT_assign rfl rfl rfl) ?_
  refine TL_nil ?_
  refine TX_then ?_
  refine TC_block ?_
  refine TC_loop (γ := Unit) (fun _ => [(0, true, nilS), (2, true, .int .i64 0)]) (fun _ => St w0 η) (fun _ => 0) () ⟨rfl, rfl, trivial⟩ (fun _ h => h) ?_
  rintro ⟨⟩
  dsimp only [nilS]
  refine TC_seq ?_
  refine TC_seq ?_
  refine TC_reg ?_
  refine TL_q rfl rfl (QT_move rfl rfl rfl) ?_
  refine TL_q rfl rfl (QT_move rfl rfl rfl) ?_
  refine TL_q rfl rfl (QT_len rfl rfl Try.underlying48 rfl) ?_
  refine TL_q rfl rfl (QT_lss rfl rfl rfl rfl) ?_
  refine TL_nil ?_
  refine TX_then ?_
  refine TC_cond rfl (fun h => absurd (h.symm.trans ((show (_ : Bool) = false by rfl))) (by decide)) (fun _ => ?_)
  refine TC_exit ?_
  refine TX_then_exit ?_
  refine TX_then_exit ?_
  refine TX_block_here ?_
  exact TX_ret (.inr rfl) (res0 rfl) ⟨_, ⟨rfl, rfl⟩, fun _ h => h⟩
theorem marked_nil_spots (w0 : World) (η : Heap) : CallsT Try.prog 77 [nilS] (St w0 η) fun v A' => v = .bool true ∧ A' = St w0 η := by
  refine CallsT.body Try.func77 rfl rfl ?_
  simp only [Try.ntmps77, slotsOf, Nat.reduceAdd]
  refine TC_seq ?_
  refine TC_reg ?_
  refine TL_q rfl rfl (QT_assign rfl rfl rfl) ?_
  refine TL_nil ?_
  refine TX_then ?_
  refine TC_seq ?_
  refine TC_seq ?_
  refine TC_reg ?_
  refine TL_q rfl rfl (QT_assign rfl rfl rfl) ?_
  refine TL_nil ?_
  refine TX_then ?_
  refine TC_block ?_
  refine TC_loop (γ := Unit) (fun _ => [(0, true, nilS), (3, true, .int .i64 0)]) (fun _ => St w0 η) (fun _ => 0) () ⟨rfl, rfl, trivial⟩ (fun _ h => h) ?_
  rintro ⟨⟩
  dsimp only [nilS]
  refine TC_seq ?_
  refine TC_seq ?_
  refine TC_reg ?_
  refine TL_q rfl rfl (QT_move rfl rfl rfl) ?_
  refine TL_q rfl rfl (QT_move rfl rfl rfl) ?_
  refine TL_q rfl rfl (QT_len rfl rfl Try.underlying48 rfl) ?_
  refine TL_q rfl rfl (QT_lss rfl rfl rfl rfl) ?_
  refine TL_nil ?_
  refine TX_then ?_
  refine TC_cond rfl (fun h => absurd (h.symm.trans ((show (_ : Bool) = false by rfl))) (by decide)) (fun _ => ?_)
  refine TC_exit ?_
  refine TX_then_exit ?_
  refine TX_then_exit ?_
  refine TX_block_here ?_
  refine TX_then ?_
  refine TC_seq ?_
  refine TC_reg ?_
  refine TL_q rfl rfl (QT_assign rfl rfl rfl) ?_
  refine TL_nil ?_
  refine TX_then ?_
  refine TC_ret ?_
  exact TX_ret (.inl rfl) (res1 rfl rfl) ⟨_, ⟨rfl, rfl⟩, fun _ h => h⟩
theorem apart_spec (w0 : World) (η : Heap) (kb : Nat) (k : Bk) (h0 : 0 ≤ k.many ∧ k.many ≤ 250) (ss_bytes : List Strip) (H_bytes : Heap) (hF_bytes : Frag 82 3 k.bytes ss_bytes.length (arrOf ss_bytes) H_bytes) (hs_bytes : ∀ s ∈ ss_bytes, s.ok 5 1 byteK) (hn_bits : k.bits = nilS) (hn_fixes : k.fixes = nilS) (hn_recs : k.recs = nilS) (hn_tris : k.tris = nilS) (hn_sheets : k.sheets = nilS) (hn_tiles : k.tiles = nilS) (hn_dots : k.dots = nilS) (hn_facets : k.facets = nilS) (hn_tokens : k.tokens = nilS) (hn_codes : k.codes = nilS) (hn_vals : k.vals = nilS) (hn_spots : k.spots = nilS) :
    CallsT Try.prog 27 [.pointer (some ⟨kb, 0, none⟩)] (St w0 ((kb, 50, k.cells) :: (H_bytes ++ (heapOf ss_bytes ++ (η))))) fun v A' => v = .bool true ∧ A' = St w0 η := by
  obtain ⟨many, kbytes, kbits, kfixes, krecs, ktris, ksheets, ktiles, kdots, kfacets, ktokens, kcodes, kvals, kspots⟩ := k
  dsimp only at h0 hF_bytes hn_bits hn_fixes hn_recs hn_tris hn_sheets hn_tiles hn_dots hn_facets hn_tokens hn_codes hn_vals hn_spots
  subst hn_bits hn_fixes hn_recs hn_tris hn_sheets hn_tiles hn_dots hn_facets hn_tokens hn_codes hn_vals hn_spots
  have hFf_bytes : Frag 82 3 kbytes (ss_bytes.map (fillS 1)).length (arrOf (ss_bytes.map (fillS 1))) H_bytes := by rw [List.length_map, arrOf_fill]; exact hF_bytes
  have hsf_bytes : ∀ s ∈ ss_bytes.map (fillS 1), s.ok 5 1 byteK ∧ s.xs = marks s.n s.mark := fun s h => by
    obtain ⟨s', h1, rfl⟩ := List.mem_map.1 h
    exact ⟨fillS_ok (hs_bytes s' h1) rfl, rfl⟩
  refine CallsT.body Try.func27 rfl rfl ?_
  simp only [Try.ntmps27, slotsOf, Nat.reduceAdd]
  refine TC_seq ?_
  refine TC_reg ?_
  refine TL_q rfl rfl (QT_assign rfl rfl rfl) ?_
  refine TL_nil ?_
  refine TX_then ?_
  refine TC_seq ?_
  refine TC_seq ?_
  refine TC_reg ?_
  refine TL_q rfl rfl (QT_move rfl rfl rfl) ?_
  refine TL_q rfl rfl (QT_nilCheck rfl rfl rfl) ?_
  refine TL_q rfl rfl (QT_field rfl rfl YtkkdpbjfkncpbaaF.fld_50_0 rfl) ?_
  first
    | refine TL_q rfl rfl (QT_load 0 rfl rfl Try.underlying3 rfl rfl rfl (fun _ => rfl)) ?_
    | refine TL_q rfl rfl (QT_load 1 rfl rfl Try.underlying3 rfl rfl rfl (fun _ => rfl)) ?_
    | refine TL_q rfl rfl (QT_load 2 rfl rfl Try.underlying3 rfl rfl rfl (fun _ => rfl)) ?_
  refine TL_q rfl rfl (QT_gtr rfl rfl rfl rfl) ?_
  refine TL_nil ?_
  refine TX_then ?_
  refine TC_cond rfl (fun h => absurd (h.symm.trans ((show decide _ = false by simp; omega))) (by decide)) (fun _ => ?_)
  refine TC_skip ?_
  refine TX_then ?_
  refine TC_seq ?_
  refine TC_reg ?_
  refine TL_q rfl rfl (QT_move rfl rfl rfl) ?_
  refine TL_q rfl rfl (QT_nilCheck rfl rfl rfl) ?_
  refine TL_q rfl rfl (QT_field rfl rfl YtkkdpbjfkncpbaaF.fld_50_1 rfl) ?_
  first
    | refine TL_q rfl rfl (QT_load 0 rfl rfl Try.underlying36 rfl rfl rfl (fun _ => rfl)) ?_
    | refine TL_q rfl rfl (QT_load 1 rfl rfl Try.underlying36 rfl rfl rfl (fun _ => rfl)) ?_
    | refine TL_q rfl rfl (QT_load 2 rfl rfl Try.underlying36 rfl rfl rfl (fun _ => rfl)) ?_
  refine TL_A (St w0 (heapOf (ss_bytes) ++ ((kb, 50, Bk.cells ⟨many, kbytes, nilS, nilS, nilS, nilS, nilS, nilS, nilS, nilS, nilS, nilS, nilS, nilS⟩) :: (H_bytes ++ (η))))) (fun _ h => h.cnt fun p => by simp only [List.countP_append, List.countP_cons, List.countP_nil]; omega) ?_
  refine TL_e rfl rfl rfl (rfl) (ET_call rfl YtkkdpbjfkncpbaaF.cal_39 rfl (fill_Byte w0 _ _ ss_bytes hs_bytes ((hF_bytes.sla (η := [])).mono (fun _ h => h.cnt fun p => by simp only [List.countP_append, List.countP_cons, List.countP_nil]; omega)))) ?_
  rintro _ _ rfl
  refine TL_nil ?_
  refine TX_then ?_
  refine TC_seq ?_
  refine TC_A (St w0 ((kb, 50, Bk.cells ⟨many, kbytes, nilS, nilS, nilS, nilS, nilS, nilS, nilS, nilS, nilS, nilS, nilS, nilS⟩) :: (H_bytes ++ (heapOf (ss_bytes.map (fillS 1)) ++ (η))))) (fun _ h => h.cnt fun p => by simp only [List.countP_append, List.countP_cons, List.countP_nil]; omega) ?_
  refine TC_reg ?_
  refine TL_q rfl rfl (QT_move rfl rfl rfl) ?_
  refine TL_q rfl rfl (QT_nilCheck rfl rfl rfl) ?_
  refine TL_q rfl rfl (QT_field rfl rfl YtkkdpbjfkncpbaaF.fld_50_2 rfl) ?_
  first
    | refine TL_q rfl rfl (QT_load 0 rfl rfl Try.underlying37 rfl rfl rfl (fun _ => rfl)) ?_
    | refine TL_q rfl rfl (QT_load 1 rfl rfl Try.underlying37 rfl rfl rfl (fun _ => rfl)) ?_
    | refine TL_q rfl rfl (QT_load 2 rfl rfl Try.underlying37 rfl rfl rfl (fun _ => rfl)) ?_
  refine TL_cq rfl rfl rfl rfl YtkkdpbjfkncpbaaF.cal_40 rfl (fun _ => fill_nil_bits w0 _) ?_
  refine TL_nil ?_
  refine TX_then ?_
  refine TC_seq ?_
  refine TC_reg ?_
  refine TL_q rfl rfl (QT_move rfl rfl rfl) ?_
  refine TL_q rfl rfl (QT_nilCheck rfl rfl rfl) ?_
  refine TL_q rfl rfl (QT_field rfl rfl YtkkdpbjfkncpbaaF.fld_50_3 rfl) ?_
  first
    | refine TL_q rfl rfl (QT_load 0 rfl rfl Try.underlying38 rfl rfl rfl (fun _ => rfl)) ?_
    | refine TL_q rfl rfl (QT_load 1 rfl rfl Try.underlying38 rfl rfl rfl (fun _ => rfl)) ?_
    | refine TL_q rfl rfl (QT_load 2 rfl rfl Try.underlying38 rfl rfl rfl (fun _ => rfl)) ?_
  refine TL_cq rfl rfl rfl rfl YtkkdpbjfkncpbaaF.cal_41 rfl (fun _ => fill_nil_fixes w0 _) ?_
  refine TL_nil ?_
  refine TX_then ?_
  refine TC_seq ?_
  refine TC_reg ?_
  refine TL_q rfl rfl (QT_move rfl rfl rfl) ?_
  refine TL_q rfl rfl (QT_nilCheck rfl rfl rfl) ?_
  refine TL_q rfl rfl (QT_field rfl rfl YtkkdpbjfkncpbaaF.fld_50_4 rfl) ?_
  first
    | refine TL_q rfl rfl (QT_load 0 rfl rfl Try.underlying39 rfl rfl rfl (fun _ => rfl)) ?_
    | refine TL_q rfl rfl (QT_load 1 rfl rfl Try.underlying39 rfl rfl rfl (fun _ => rfl)) ?_
    | refine TL_q rfl rfl (QT_load 2 rfl rfl Try.underlying39 rfl rfl rfl (fun _ => rfl)) ?_
  refine TL_cq rfl rfl rfl rfl YtkkdpbjfkncpbaaF.cal_42 rfl (fun _ => fill_nil_recs w0 _) ?_
  refine TL_nil ?_
  refine TX_then ?_
  refine TC_seq ?_
  refine TC_reg ?_
  refine TL_q rfl rfl (QT_move rfl rfl rfl) ?_
  refine TL_q rfl rfl (QT_nilCheck rfl rfl rfl) ?_
  refine TL_q rfl rfl (QT_field rfl rfl YtkkdpbjfkncpbaaF.fld_50_5 rfl) ?_
  first
    | refine TL_q rfl rfl (QT_load 0 rfl rfl Try.underlying40 rfl rfl rfl (fun _ => rfl)) ?_
    | refine TL_q rfl rfl (QT_load 1 rfl rfl Try.underlying40 rfl rfl rfl (fun _ => rfl)) ?_
    | refine TL_q rfl rfl (QT_load 2 rfl rfl Try.underlying40 rfl rfl rfl (fun _ => rfl)) ?_
  refine TL_cq rfl rfl rfl rfl YtkkdpbjfkncpbaaF.cal_43 rfl (fun _ => fill_nil_tris w0 _) ?_
  refine TL_nil ?_
  refine TX_then ?_
  refine TC_seq ?_
  refine TC_reg ?_
  refine TL_q rfl rfl (QT_move rfl rfl rfl) ?_
  refine TL_q rfl rfl (QT_nilCheck rfl rfl rfl) ?_
  refine TL_q rfl rfl (QT_field rfl rfl YtkkdpbjfkncpbaaF.fld_50_6 rfl) ?_
  first
    | refine TL_q rfl rfl (QT_load 0 rfl rfl Try.underlying41 rfl rfl rfl (fun _ => rfl)) ?_
    | refine TL_q rfl rfl (QT_load 1 rfl rfl Try.underlying41 rfl rfl rfl (fun _ => rfl)) ?_
    | refine TL_q rfl rfl (QT_load 2 rfl rfl Try.underlying41 rfl rfl rfl (fun _ => rfl)) ?_
  refine TL_cq rfl rfl rfl rfl YtkkdpbjfkncpbaaF.cal_44 rfl (fun _ => fill_nil_sheets w0 _) ?_
  refine TL_nil ?_
  refine TX_then ?_
  refine TC_seq ?_
  refine TC_reg ?_
  refine TL_q rfl rfl (QT_move rfl rfl rfl) ?_
  refine TL_q rfl rfl (QT_nilCheck rfl rfl rfl) ?_
  refine TL_q rfl rfl (QT_field rfl rfl YtkkdpbjfkncpbaaF.fld_50_7 rfl) ?_
  first
    | refine TL_q rfl rfl (QT_load 0 rfl rfl Try.underlying42 rfl rfl rfl (fun _ => rfl)) ?_
    | refine TL_q rfl rfl (QT_load 1 rfl rfl Try.underlying42 rfl rfl rfl (fun _ => rfl)) ?_
    | refine TL_q rfl rfl (QT_load 2 rfl rfl Try.underlying42 rfl rfl rfl (fun _ => rfl)) ?_
  refine TL_cq rfl rfl rfl rfl YtkkdpbjfkncpbaaF.cal_45 rfl (fun _ => fill_nil_tiles w0 _) ?_
  refine TL_nil ?_
  refine TX_then ?_
  refine TC_seq ?_
  refine TC_reg ?_
  refine TL_q rfl rfl (QT_move rfl rfl rfl) ?_
  refine TL_q rfl rfl (QT_nilCheck rfl rfl rfl) ?_
  refine TL_q rfl rfl (QT_field rfl rfl YtkkdpbjfkncpbaaF.fld_50_8 rfl) ?_
  first
    | refine TL_q rfl rfl (QT_load 0 rfl rfl Try.underlying43 rfl rfl rfl (fun _ => rfl)) ?_
    | refine TL_q rfl rfl (QT_load 1 rfl rfl Try.underlying43 rfl rfl rfl (fun _ => rfl)) ?_
    | refine TL_q rfl rfl (QT_load 2 rfl rfl Try.underlying43 rfl rfl rfl (fun _ => rfl)) ?_
  refine TL_cq rfl rfl rfl rfl YtkkdpbjfkncpbaaF.cal_46 rfl (fun _ => fill_nil_dots w0 _) ?_
  refine TL_nil ?_
  refine TX_then ?_
  refine TC_seq ?_
  refine TC_reg ?_
  refine TL_q rfl rfl (QT_move rfl rfl rfl) ?_
  refine TL_q rfl rfl (QT_nilCheck rfl rfl rfl) ?_
  refine TL_q rfl rfl (QT_field rfl rfl YtkkdpbjfkncpbaaF.fld_50_9 rfl) ?_
  first
    | refine TL_q rfl rfl (QT_load 0 rfl rfl Try.underlying44 rfl rfl rfl (fun _ => rfl)) ?_
    | refine TL_q rfl rfl (QT_load 1 rfl rfl Try.underlying44 rfl rfl rfl (fun _ => rfl)) ?_
    | refine TL_q rfl rfl (QT_load 2 rfl rfl Try.underlying44 rfl rfl rfl (fun _ => rfl)) ?_
  refine TL_cq rfl rfl rfl rfl YtkkdpbjfkncpbaaF.cal_47 rfl (fun _ => fill_nil_facets w0 _) ?_
  refine TL_nil ?_
  refine TX_then ?_
  refine TC_seq ?_
  refine TC_reg ?_
  refine TL_q rfl rfl (QT_move rfl rfl rfl) ?_
  refine TL_q rfl rfl (QT_nilCheck rfl rfl rfl) ?_
  refine TL_q rfl rfl (QT_field rfl rfl YtkkdpbjfkncpbaaF.fld_50_10 rfl) ?_
  first
    | refine TL_q rfl rfl (QT_load 0 rfl rfl Try.underlying45 rfl rfl rfl (fun _ => rfl)) ?_
    | refine TL_q rfl rfl (QT_load 1 rfl rfl Try.underlying45 rfl rfl rfl (fun _ => rfl)) ?_
    | refine TL_q rfl rfl (QT_load 2 rfl rfl Try.underlying45 rfl rfl rfl (fun _ => rfl)) ?_
  refine TL_cq rfl rfl rfl rfl YtkkdpbjfkncpbaaF.cal_48 rfl (fun _ => fill_nil_tokens w0 _) ?_
  refine TL_nil ?_
  refine TX_then ?_
  refine TC_seq ?_
  refine TC_reg ?_
  refine TL_q rfl rfl (QT_move rfl rfl rfl) ?_
  refine TL_q rfl rfl (QT_nilCheck rfl rfl rfl) ?_
  refine TL_q rfl rfl (QT_field rfl rfl YtkkdpbjfkncpbaaF.fld_50_11 rfl) ?_
  first
    | refine TL_q rfl rfl (QT_load 0 rfl rfl Try.underlying46 rfl rfl rfl (fun _ => rfl)) ?_
    | refine TL_q rfl rfl (QT_load 1 rfl rfl Try.underlying46 rfl rfl rfl (fun _ => rfl)) ?_
    | refine TL_q rfl rfl (QT_load 2 rfl rfl Try.underlying46 rfl rfl rfl (fun _ => rfl)) ?_
  refine TL_cq rfl rfl rfl rfl YtkkdpbjfkncpbaaF.cal_49 rfl (fun _ => fill_nil_codes w0 _) ?_
  refine TL_nil ?_
  refine TX_then ?_
  refine TC_seq ?_
  refine TC_reg ?_
  refine TL_q rfl rfl (QT_move rfl rfl rfl) ?_
  refine TL_q rfl rfl (QT_nilCheck rfl rfl rfl) ?_
  refine TL_q rfl rfl (QT_field rfl rfl YtkkdpbjfkncpbaaF.fld_50_12 rfl) ?_
  first
    | refine TL_q rfl rfl (QT_load 0 rfl rfl Try.underlying47 rfl rfl rfl (fun _ => rfl)) ?_
    | refine TL_q rfl rfl (QT_load 1 rfl rfl Try.underlying47 rfl rfl rfl (fun _ => rfl)) ?_
    | refine TL_q rfl rfl (QT_load 2 rfl rfl Try.underlying47 rfl rfl rfl (fun _ => rfl)) ?_
  refine TL_cq rfl rfl rfl rfl YtkkdpbjfkncpbaaF.cal_50 rfl (fun _ => fill_nil_vals w0 _) ?_
  refine TL_nil ?_
  refine TX_then ?_
  refine TC_seq ?_
  refine TC_reg ?_
  refine TL_q rfl rfl (QT_move rfl rfl rfl) ?_
  refine TL_q rfl rfl (QT_nilCheck rfl rfl rfl) ?_
  refine TL_q rfl rfl (QT_field rfl rfl YtkkdpbjfkncpbaaF.fld_50_13 rfl) ?_
  first
    | refine TL_q rfl rfl (QT_load 0 rfl rfl Try.underlying48 rfl rfl rfl (fun _ => rfl)) ?_
    | refine TL_q rfl rfl (QT_load 1 rfl rfl Try.underlying48 rfl rfl rfl (fun _ => rfl)) ?_
    | refine TL_q rfl rfl (QT_load 2 rfl rfl Try.underlying48 rfl rfl rfl (fun _ => rfl)) ?_
  refine TL_cq rfl rfl rfl rfl YtkkdpbjfkncpbaaF.cal_51 rfl (fun _ => fill_nil_spots w0 _) ?_
  refine TL_nil ?_
  refine TX_then ?_
  refine TC_seq ?_
  refine TC_reg ?_
  refine TL_q rfl rfl (QT_move rfl rfl rfl) ?_
  refine TL_q rfl rfl (QT_nilCheck rfl rfl rfl) ?_
  refine TL_q rfl rfl (QT_field rfl rfl YtkkdpbjfkncpbaaF.fld_50_1 rfl) ?_
  first
    | refine TL_q rfl rfl (QT_load 0 rfl rfl Try.underlying36 rfl rfl rfl (fun _ => rfl)) ?_
    | refine TL_q rfl rfl (QT_load 1 rfl rfl Try.underlying36 rfl rfl rfl (fun _ => rfl)) ?_
    | refine TL_q rfl rfl (QT_load 2 rfl rfl Try.underlying36 rfl rfl rfl (fun _ => rfl)) ?_
  refine TL_A (St w0 (H_bytes ++ (heapOf (ss_bytes.map (fillS 1)) ++ ((kb, 50, Bk.cells ⟨many, kbytes, nilS, nilS, nilS, nilS, nilS, nilS, nilS, nilS, nilS, nilS, nilS, nilS⟩) :: (η))))) (fun _ h => h.cnt fun p => by simp only [List.countP_append, List.countP_cons, List.countP_nil]; omega) ?_
  refine TL_e rfl rfl rfl (rfl) (ET_call rfl YtkkdpbjfkncpbaaF.cal_52 rfl (grow_Byte w0 _ _ _ _ hsf_bytes hFf_bytes)) ?_
  rintro _ _ ⟨g_bytes, G_bytes, hl_bytes, hg_bytes, hG_bytes, rfl⟩
  refine TL_nil ?_
  refine TX_then ?_
  refine TC_seq ?_
  refine TC_A (St w0 ((kb, 50, Bk.cells ⟨many, kbytes, nilS, nilS, nilS, nilS, nilS, nilS, nilS, nilS, nilS, nilS, nilS, nilS⟩) :: (G_bytes ++ (heapOf (g_bytes) ++ (η))))) (fun _ h => h.cnt fun p => by simp only [List.countP_append, List.countP_cons, List.countP_nil]; omega) ?_
  refine TC_reg ?_
  refine TL_q rfl rfl (QT_move rfl rfl rfl) ?_
  refine TL_q rfl rfl (QT_nilCheck rfl rfl rfl) ?_
  refine TL_q rfl rfl (QT_field rfl rfl YtkkdpbjfkncpbaaF.fld_50_2 rfl) ?_
  first
    | refine TL_q rfl rfl (QT_load 0 rfl rfl Try.underlying37 rfl rfl rfl (fun _ => rfl)) ?_
    | refine TL_q rfl rfl (QT_load 1 rfl rfl Try.underlying37 rfl rfl rfl (fun _ => rfl)) ?_
    | refine TL_q rfl rfl (QT_load 2 rfl rfl Try.underlying37 rfl rfl rfl (fun _ => rfl)) ?_
  refine TL_cq rfl rfl rfl rfl YtkkdpbjfkncpbaaF.cal_53 rfl (fun _ => grow_nil_bits w0 _) ?_
  refine TL_nil ?_
  refine TX_then ?_
  refine TC_seq ?_
  refine TC_reg ?_
  refine TL_q rfl rfl (QT_move rfl rfl rfl) ?_
  refine TL_q rfl rfl (QT_nilCheck rfl rfl rfl) ?_
  refine TL_q rfl rfl (QT_field rfl rfl YtkkdpbjfkncpbaaF.fld_50_3 rfl) ?_
  first
    | refine TL_q rfl rfl (QT_load 0 rfl rfl Try.underlying38 rfl rfl rfl (fun _ => rfl)) ?_
    | refine TL_q rfl rfl (QT_load 1 rfl rfl Try.underlying38 rfl rfl rfl (fun _ => rfl)) ?_
    | refine TL_q rfl rfl (QT_load 2 rfl rfl Try.underlying38 rfl rfl rfl (fun _ => rfl)) ?_
  refine TL_cq rfl rfl rfl rfl YtkkdpbjfkncpbaaF.cal_54 rfl (fun _ => grow_nil_fixes w0 _) ?_
  refine TL_nil ?_
  refine TX_then ?_
  refine TC_seq ?_
  refine TC_reg ?_
  refine TL_q rfl rfl (QT_move rfl rfl rfl) ?_
  refine TL_q rfl rfl (QT_nilCheck rfl rfl rfl) ?_
  refine TL_q rfl rfl (QT_field rfl rfl YtkkdpbjfkncpbaaF.fld_50_4 rfl) ?_
  first
    | refine TL_q rfl rfl (QT_load 0 rfl rfl Try.underlying39 rfl rfl rfl (fun _ => rfl)) ?_
    | refine TL_q rfl rfl (QT_load 1 rfl rfl Try.underlying39 rfl rfl rfl (fun _ => rfl)) ?_
    | refine TL_q rfl rfl (QT_load 2 rfl rfl Try.underlying39 rfl rfl rfl (fun _ => rfl)) ?_
  refine TL_cq rfl rfl rfl rfl YtkkdpbjfkncpbaaF.cal_55 rfl (fun _ => grow_nil_recs w0 _) ?_
  refine TL_nil ?_
  refine TX_then ?_
  refine TC_seq ?_
  refine TC_reg ?_
  refine TL_q rfl rfl (QT_move rfl rfl rfl) ?_
  refine TL_q rfl rfl (QT_nilCheck rfl rfl rfl) ?_
  refine TL_q rfl rfl (QT_field rfl rfl YtkkdpbjfkncpbaaF.fld_50_5 rfl) ?_
  first
    | refine TL_q rfl rfl (QT_load 0 rfl rfl Try.underlying40 rfl rfl rfl (fun _ => rfl)) ?_
    | refine TL_q rfl rfl (QT_load 1 rfl rfl Try.underlying40 rfl rfl rfl (fun _ => rfl)) ?_
    | refine TL_q rfl rfl (QT_load 2 rfl rfl Try.underlying40 rfl rfl rfl (fun _ => rfl)) ?_
  refine TL_cq rfl rfl rfl rfl YtkkdpbjfkncpbaaF.cal_56 rfl (fun _ => grow_nil_tris w0 _) ?_
  refine TL_nil ?_
  refine TX_then ?_
  refine TC_seq ?_
  refine TC_reg ?_
  refine TL_q rfl rfl (QT_move rfl rfl rfl) ?_
  refine TL_q rfl rfl (QT_nilCheck rfl rfl rfl) ?_
  refine TL_q rfl rfl (QT_field rfl rfl YtkkdpbjfkncpbaaF.fld_50_6 rfl) ?_
  first
    | refine TL_q rfl rfl (QT_load 0 rfl rfl Try.underlying41 rfl rfl rfl (fun _ => rfl)) ?_
    | refine TL_q rfl rfl (QT_load 1 rfl rfl Try.underlying41 rfl rfl rfl (fun _ => rfl)) ?_
    | refine TL_q rfl rfl (QT_load 2 rfl rfl Try.underlying41 rfl rfl rfl (fun _ => rfl)) ?_
  refine TL_cq rfl rfl rfl rfl YtkkdpbjfkncpbaaF.cal_57 rfl (fun _ => grow_nil_sheets w0 _) ?_
  refine TL_nil ?_
  refine TX_then ?_
  refine TC_seq ?_
  refine TC_reg ?_
  refine TL_q rfl rfl (QT_move rfl rfl rfl) ?_
  refine TL_q rfl rfl (QT_nilCheck rfl rfl rfl) ?_
  refine TL_q rfl rfl (QT_field rfl rfl YtkkdpbjfkncpbaaF.fld_50_7 rfl) ?_
  first
    | refine TL_q rfl rfl (QT_load 0 rfl rfl Try.underlying42 rfl rfl rfl (fun _ => rfl)) ?_
    | refine TL_q rfl rfl (QT_load 1 rfl rfl Try.underlying42 rfl rfl rfl (fun _ => rfl)) ?_
    | refine TL_q rfl rfl (QT_load 2 rfl rfl Try.underlying42 rfl rfl rfl (fun _ => rfl)) ?_
  refine TL_cq rfl rfl rfl rfl YtkkdpbjfkncpbaaF.cal_58 rfl (fun _ => grow_nil_tiles w0 _) ?_
  refine TL_nil ?_
  refine TX_then ?_
  refine TC_seq ?_
  refine TC_reg ?_
  refine TL_q rfl rfl (QT_move rfl rfl rfl) ?_
  refine TL_q rfl rfl (QT_nilCheck rfl rfl rfl) ?_
  refine TL_q rfl rfl (QT_field rfl rfl YtkkdpbjfkncpbaaF.fld_50_8 rfl) ?_
  first
    | refine TL_q rfl rfl (QT_load 0 rfl rfl Try.underlying43 rfl rfl rfl (fun _ => rfl)) ?_
    | refine TL_q rfl rfl (QT_load 1 rfl rfl Try.underlying43 rfl rfl rfl (fun _ => rfl)) ?_
    | refine TL_q rfl rfl (QT_load 2 rfl rfl Try.underlying43 rfl rfl rfl (fun _ => rfl)) ?_
  refine TL_cq rfl rfl rfl rfl YtkkdpbjfkncpbaaF.cal_59 rfl (fun _ => grow_nil_dots w0 _) ?_
  refine TL_nil ?_
  refine TX_then ?_
  refine TC_seq ?_
  refine TC_reg ?_
  refine TL_q rfl rfl (QT_move rfl rfl rfl) ?_
  refine TL_q rfl rfl (QT_nilCheck rfl rfl rfl) ?_
  refine TL_q rfl rfl (QT_field rfl rfl YtkkdpbjfkncpbaaF.fld_50_9 rfl) ?_
  first
    | refine TL_q rfl rfl (QT_load 0 rfl rfl Try.underlying44 rfl rfl rfl (fun _ => rfl)) ?_
    | refine TL_q rfl rfl (QT_load 1 rfl rfl Try.underlying44 rfl rfl rfl (fun _ => rfl)) ?_
    | refine TL_q rfl rfl (QT_load 2 rfl rfl Try.underlying44 rfl rfl rfl (fun _ => rfl)) ?_
  refine TL_cq rfl rfl rfl rfl YtkkdpbjfkncpbaaF.cal_60 rfl (fun _ => grow_nil_facets w0 _) ?_
  refine TL_nil ?_
  refine TX_then ?_
  refine TC_seq ?_
  refine TC_reg ?_
  refine TL_q rfl rfl (QT_move rfl rfl rfl) ?_
  refine TL_q rfl rfl (QT_nilCheck rfl rfl rfl) ?_
  refine TL_q rfl rfl (QT_field rfl rfl YtkkdpbjfkncpbaaF.fld_50_10 rfl) ?_
  first
    | refine TL_q rfl rfl (QT_load 0 rfl rfl Try.underlying45 rfl rfl rfl (fun _ => rfl)) ?_
    | refine TL_q rfl rfl (QT_load 1 rfl rfl Try.underlying45 rfl rfl rfl (fun _ => rfl)) ?_
    | refine TL_q rfl rfl (QT_load 2 rfl rfl Try.underlying45 rfl rfl rfl (fun _ => rfl)) ?_
  refine TL_cq rfl rfl rfl rfl YtkkdpbjfkncpbaaF.cal_61 rfl (fun _ => grow_nil_tokens w0 _) ?_
  refine TL_nil ?_
  refine TX_then ?_
  refine TC_seq ?_
  refine TC_reg ?_
  refine TL_q rfl rfl (QT_move rfl rfl rfl) ?_
  refine TL_q rfl rfl (QT_nilCheck rfl rfl rfl) ?_
  refine TL_q rfl rfl (QT_field rfl rfl YtkkdpbjfkncpbaaF.fld_50_11 rfl) ?_
  first
    | refine TL_q rfl rfl (QT_load 0 rfl rfl Try.underlying46 rfl rfl rfl (fun _ => rfl)) ?_
    | refine TL_q rfl rfl (QT_load 1 rfl rfl Try.underlying46 rfl rfl rfl (fun _ => rfl)) ?_
    | refine TL_q rfl rfl (QT_load 2 rfl rfl Try.underlying46 rfl rfl rfl (fun _ => rfl)) ?_
  refine TL_cq rfl rfl rfl rfl YtkkdpbjfkncpbaaF.cal_62 rfl (fun _ => grow_nil_codes w0 _) ?_
  refine TL_nil ?_
  refine TX_then ?_
  refine TC_seq ?_
  refine TC_reg ?_
  refine TL_q rfl rfl (QT_move rfl rfl rfl) ?_
  refine TL_q rfl rfl (QT_nilCheck rfl rfl rfl) ?_
  refine TL_q rfl rfl (QT_field rfl rfl YtkkdpbjfkncpbaaF.fld_50_12 rfl) ?_
  first
    | refine TL_q rfl rfl (QT_load 0 rfl rfl Try.underlying47 rfl rfl rfl (fun _ => rfl)) ?_
    | refine TL_q rfl rfl (QT_load 1 rfl rfl Try.underlying47 rfl rfl rfl (fun _ => rfl)) ?_
    | refine TL_q rfl rfl (QT_load 2 rfl rfl Try.underlying47 rfl rfl rfl (fun _ => rfl)) ?_
  refine TL_cq rfl rfl rfl rfl YtkkdpbjfkncpbaaF.cal_63 rfl (fun _ => grow_nil_vals w0 _) ?_
  refine TL_nil ?_
  refine TX_then ?_
  refine TC_seq ?_
  refine TC_reg ?_
  refine TL_q rfl rfl (QT_move rfl rfl rfl) ?_
  refine TL_q rfl rfl (QT_nilCheck rfl rfl rfl) ?_
  refine TL_q rfl rfl (QT_field rfl rfl YtkkdpbjfkncpbaaF.fld_50_13 rfl) ?_
  first
    | refine TL_q rfl rfl (QT_load 0 rfl rfl Try.underlying48 rfl rfl rfl (fun _ => rfl)) ?_
    | refine TL_q rfl rfl (QT_load 1 rfl rfl Try.underlying48 rfl rfl rfl (fun _ => rfl)) ?_
    | refine TL_q rfl rfl (QT_load 2 rfl rfl Try.underlying48 rfl rfl rfl (fun _ => rfl)) ?_
  refine TL_cq rfl rfl rfl rfl YtkkdpbjfkncpbaaF.cal_64 rfl (fun _ => grow_nil_spots w0 _) ?_
  refine TL_nil ?_
  refine TX_then ?_
  refine TC_seq ?_
  refine TC_reg ?_
  refine TL_q rfl rfl (QT_move rfl rfl rfl) ?_
  refine TL_q rfl rfl (QT_nilCheck rfl rfl rfl) ?_
  refine TL_q rfl rfl (QT_field rfl rfl YtkkdpbjfkncpbaaF.fld_50_1 rfl) ?_
  first
    | refine TL_q rfl rfl (QT_load 0 rfl rfl Try.underlying36 rfl rfl rfl (fun _ => rfl)) ?_
    | refine TL_q rfl rfl (QT_load 1 rfl rfl Try.underlying36 rfl rfl rfl (fun _ => rfl)) ?_
    | refine TL_q rfl rfl (QT_load 2 rfl rfl Try.underlying36 rfl rfl rfl (fun _ => rfl)) ?_
  refine TL_cq rfl rfl rfl rfl YtkkdpbjfkncpbaaF.cal_65 rfl (fun _ => marked_Byte w0 _ _ g_bytes (fun s h => (hg_bytes s h).mono (fun _ h => h.cnt fun p => by simp only [List.countP_append, List.countP_cons, List.countP_nil]; omega)) ((hG_bytes.sla (η := [])).mono (fun _ h => h.cnt fun p => by simp only [List.countP_append, List.countP_cons, List.countP_nil]; omega))) ?_
  refine TL_q rfl rfl (QT_move rfl rfl rfl) ?_
  refine TL_q rfl rfl (QT_move rfl rfl rfl) ?_
  refine TL_q rfl rfl (QT_nilCheck rfl rfl rfl) ?_
  refine TL_q rfl rfl (QT_field rfl rfl YtkkdpbjfkncpbaaF.fld_50_2 rfl) ?_
  first
    | refine TL_q rfl rfl (QT_load 0 rfl rfl Try.underlying37 rfl rfl rfl (fun _ => rfl)) ?_
    | refine TL_q rfl rfl (QT_load 1 rfl rfl Try.underlying37 rfl rfl rfl (fun _ => rfl)) ?_
    | refine TL_q rfl rfl (QT_load 2 rfl rfl Try.underlying37 rfl rfl rfl (fun _ => rfl)) ?_
  refine TL_cq rfl rfl rfl rfl YtkkdpbjfkncpbaaF.cal_66 rfl (fun _ => marked_nil_bits w0 _) ?_
  refine TL_q rfl rfl (QT_and rfl rfl rfl rfl) ?_
  refine TL_q rfl rfl (QT_move rfl rfl rfl) ?_
  refine TL_q rfl rfl (QT_move rfl rfl rfl) ?_
  refine TL_q rfl rfl (QT_nilCheck rfl rfl rfl) ?_
  refine TL_q rfl rfl (QT_field rfl rfl YtkkdpbjfkncpbaaF.fld_50_3 rfl) ?_
  first
    | refine TL_q rfl rfl (QT_load 0 rfl rfl Try.underlying38 rfl rfl rfl (fun _ => rfl)) ?_
    | refine TL_q rfl rfl (QT_load 1 rfl rfl Try.underlying38 rfl rfl rfl (fun _ => rfl)) ?_
    | refine TL_q rfl rfl (QT_load 2 rfl rfl Try.underlying38 rfl rfl rfl (fun _ => rfl)) ?_
  refine TL_cq rfl rfl rfl rfl YtkkdpbjfkncpbaaF.cal_67 rfl (fun _ => marked_nil_fixes w0 _) ?_
  refine TL_q rfl rfl (QT_and rfl rfl rfl rfl) ?_
  refine TL_q rfl rfl (QT_move rfl rfl rfl) ?_
  refine TL_q rfl rfl (QT_move rfl rfl rfl) ?_
  refine TL_q rfl rfl (QT_nilCheck rfl rfl rfl) ?_
  refine TL_q rfl rfl (QT_field rfl rfl YtkkdpbjfkncpbaaF.fld_50_4 rfl) ?_
  first
    | refine TL_q rfl rfl (QT_load 0 rfl rfl Try.underlying39 rfl rfl rfl (fun _ => rfl)) ?_
    | refine TL_q rfl rfl (QT_load 1 rfl rfl Try.underlying39 rfl rfl rfl (fun _ => rfl)) ?_
    | refine TL_q rfl rfl (QT_load 2 rfl rfl Try.underlying39 rfl rfl rfl (fun _ => rfl)) ?_
  refine TL_cq rfl rfl rfl rfl YtkkdpbjfkncpbaaF.cal_68 rfl (fun _ => marked_nil_recs w0 _) ?_
  refine TL_q rfl rfl (QT_and rfl rfl rfl rfl) ?_
  refine TL_q rfl rfl (QT_move rfl rfl rfl) ?_
  refine TL_q rfl rfl (QT_move rfl rfl rfl) ?_
  refine TL_q rfl rfl (QT_nilCheck rfl rfl rfl) ?_
  refine TL_q rfl rfl (QT_field rfl rfl YtkkdpbjfkncpbaaF.fld_50_5 rfl) ?_
  first
    | refine TL_q rfl rfl (QT_load 0 rfl rfl Try.underlying40 rfl rfl rfl (fun _ => rfl)) ?_
    | refine TL_q rfl rfl (QT_load 1 rfl rfl Try.underlying40 rfl rfl rfl (fun _ => rfl)) ?_
    | refine TL_q rfl rfl (QT_load 2 rfl rfl Try.underlying40 rfl rfl rfl (fun _ => rfl)) ?_
  refine TL_cq rfl rfl rfl rfl YtkkdpbjfkncpbaaF.cal_69 rfl (fun _ => marked_nil_tris w0 _) ?_
  refine TL_q rfl rfl (QT_and rfl rfl rfl rfl) ?_
  refine TL_q rfl rfl (QT_move rfl rfl rfl) ?_
  refine TL_q rfl rfl (QT_move rfl rfl rfl) ?_
  refine TL_q rfl rfl (QT_nilCheck rfl rfl rfl) ?_
  refine TL_q rfl rfl (QT_field rfl rfl YtkkdpbjfkncpbaaF.fld_50_6 rfl) ?_
  first
    | refine TL_q rfl rfl (QT_load 0 rfl rfl Try.underlying41 rfl rfl rfl (fun _ => rfl)) ?_
    | refine TL_q rfl rfl (QT_load 1 rfl rfl Try.underlying41 rfl rfl rfl (fun _ => rfl)) ?_
    | refine TL_q rfl rfl (QT_load 2 rfl rfl Try.underlying41 rfl rfl rfl (fun _ => rfl)) ?_
  refine TL_cq rfl rfl rfl rfl YtkkdpbjfkncpbaaF.cal_70 rfl (fun _ => marked_nil_sheets w0 _) ?_
  refine TL_q rfl rfl (QT_and rfl rfl rfl rfl) ?_
  refine TL_q rfl rfl (QT_move rfl rfl rfl) ?_
  refine TL_q rfl rfl (QT_move rfl rfl rfl) ?_
  refine TL_q rfl rfl (QT_nilCheck rfl rfl rfl) ?_
  refine TL_q rfl rfl (QT_field rfl rfl YtkkdpbjfkncpbaaF.fld_50_7 rfl) ?_
  first
    | refine TL_q rfl rfl (QT_load 0 rfl rfl Try.underlying42 rfl rfl rfl (fun _ => rfl)) ?_
    | refine TL_q rfl rfl (QT_load 1 rfl rfl Try.underlying42 rfl rfl rfl (fun _ => rfl)) ?_
    | refine TL_q rfl rfl (QT_load 2 rfl rfl Try.underlying42 rfl rfl rfl (fun _ => rfl)) ?_
  refine TL_cq rfl rfl rfl rfl YtkkdpbjfkncpbaaF.cal_71 rfl (fun _ => marked_nil_tiles w0 _) ?_
  refine TL_q rfl rfl (QT_and rfl rfl rfl rfl) ?_
  refine TL_q rfl rfl (QT_move rfl rfl rfl) ?_
  refine TL_q rfl rfl (QT_move rfl rfl rfl) ?_
  refine TL_q rfl rfl (QT_nilCheck rfl rfl rfl) ?_
  refine TL_q rfl rfl (QT_field rfl rfl YtkkdpbjfkncpbaaF.fld_50_8 rfl) ?_
  first
    | refine TL_q rfl rfl (QT_load 0 rfl rfl Try.underlying43 rfl rfl rfl (fun _ => rfl)) ?_
    | refine TL_q rfl rfl (QT_load 1 rfl rfl Try.underlying43 rfl rfl rfl (fun _ => rfl)) ?_
    | refine TL_q rfl rfl (QT_load 2 rfl rfl Try.underlying43 rfl rfl rfl (fun _ => rfl)) ?_
  refine TL_cq rfl rfl rfl rfl YtkkdpbjfkncpbaaF.cal_72 rfl (fun _ => marked_nil_dots w0 _) ?_
  refine TL_q rfl rfl (QT_and rfl rfl rfl rfl) ?_
  refine TL_q rfl rfl (QT_move rfl rfl rfl) ?_
  refine TL_q rfl rfl (QT_move rfl rfl rfl) ?_
  refine TL_q rfl rfl (QT_nilCheck rfl rfl rfl) ?_
  refine TL_q rfl rfl (QT_field rfl rfl YtkkdpbjfkncpbaaF.fld_50_9 rfl) ?_
  first
    | refine TL_q rfl rfl (QT_load 0 rfl rfl Try.underlying44 rfl rfl rfl (fun _ => rfl)) ?_
    | refine TL_q rfl rfl (QT_load 1 rfl rfl Try.underlying44 rfl rfl rfl (fun _ => rfl)) ?_
    | refine TL_q rfl rfl (QT_load 2 rfl rfl Try.underlying44 rfl rfl rfl (fun _ => rfl)) ?_
  refine TL_cq rfl rfl rfl rfl YtkkdpbjfkncpbaaF.cal_73 rfl (fun _ => marked_nil_facets w0 _) ?_
  refine TL_q rfl rfl (QT_and rfl rfl rfl rfl) ?_
  refine TL_q rfl rfl (QT_move rfl rfl rfl) ?_
  refine TL_q rfl rfl (QT_move rfl rfl rfl) ?_
  refine TL_q rfl rfl (QT_nilCheck rfl rfl rfl) ?_
  refine TL_q rfl rfl (QT_field rfl rfl YtkkdpbjfkncpbaaF.fld_50_10 rfl) ?_
  first
    | refine TL_q rfl rfl (QT_load 0 rfl rfl Try.underlying45 rfl rfl rfl (fun _ => rfl)) ?_
    | refine TL_q rfl rfl (QT_load 1 rfl rfl Try.underlying45 rfl rfl rfl (fun _ => rfl)) ?_
    | refine TL_q rfl rfl (QT_load 2 rfl rfl Try.underlying45 rfl rfl rfl (fun _ => rfl)) ?_
  refine TL_cq rfl rfl rfl rfl YtkkdpbjfkncpbaaF.cal_74 rfl (fun _ => marked_nil_tokens w0 _) ?_
  refine TL_q rfl rfl (QT_and rfl rfl rfl rfl) ?_
  refine TL_q rfl rfl (QT_move rfl rfl rfl) ?_
  refine TL_q rfl rfl (QT_move rfl rfl rfl) ?_
  refine TL_q rfl rfl (QT_nilCheck rfl rfl rfl) ?_
  refine TL_q rfl rfl (QT_field rfl rfl YtkkdpbjfkncpbaaF.fld_50_11 rfl) ?_
  first
    | refine TL_q rfl rfl (QT_load 0 rfl rfl Try.underlying46 rfl rfl rfl (fun _ => rfl)) ?_
    | refine TL_q rfl rfl (QT_load 1 rfl rfl Try.underlying46 rfl rfl rfl (fun _ => rfl)) ?_
    | refine TL_q rfl rfl (QT_load 2 rfl rfl Try.underlying46 rfl rfl rfl (fun _ => rfl)) ?_
  refine TL_cq rfl rfl rfl rfl YtkkdpbjfkncpbaaF.cal_75 rfl (fun _ => marked_nil_codes w0 _) ?_
  refine TL_q rfl rfl (QT_and rfl rfl rfl rfl) ?_
  refine TL_q rfl rfl (QT_move rfl rfl rfl) ?_
  refine TL_q rfl rfl (QT_move rfl rfl rfl) ?_
  refine TL_q rfl rfl (QT_nilCheck rfl rfl rfl) ?_
  refine TL_q rfl rfl (QT_field rfl rfl YtkkdpbjfkncpbaaF.fld_50_12 rfl) ?_
  first
    | refine TL_q rfl rfl (QT_load 0 rfl rfl Try.underlying47 rfl rfl rfl (fun _ => rfl)) ?_
    | refine TL_q rfl rfl (QT_load 1 rfl rfl Try.underlying47 rfl rfl rfl (fun _ => rfl)) ?_
    | refine TL_q rfl rfl (QT_load 2 rfl rfl Try.underlying47 rfl rfl rfl (fun _ => rfl)) ?_
  refine TL_cq rfl rfl rfl rfl YtkkdpbjfkncpbaaF.cal_76 rfl (fun _ => marked_nil_vals w0 _) ?_
  refine TL_q rfl rfl (QT_and rfl rfl rfl rfl) ?_
  refine TL_q rfl rfl (QT_move rfl rfl rfl) ?_
  refine TL_q rfl rfl (QT_move rfl rfl rfl) ?_
  refine TL_q rfl rfl (QT_nilCheck rfl rfl rfl) ?_
  refine TL_q rfl rfl (QT_field rfl rfl YtkkdpbjfkncpbaaF.fld_50_13 rfl) ?_
  first
    | refine TL_q rfl rfl (QT_load 0 rfl rfl Try.underlying48 rfl rfl rfl (fun _ => rfl)) ?_
    | refine TL_q rfl rfl (QT_load 1 rfl rfl Try.underlying48 rfl rfl rfl (fun _ => rfl)) ?_
    | refine TL_q rfl rfl (QT_load 2 rfl rfl Try.underlying48 rfl rfl rfl (fun _ => rfl)) ?_
  refine TL_cq rfl rfl rfl rfl YtkkdpbjfkncpbaaF.cal_77 rfl (fun _ => marked_nil_spots w0 _) ?_
  refine TL_q rfl rfl (QT_and rfl rfl rfl rfl) ?_
  refine TL_q rfl rfl (QT_assign rfl rfl rfl) ?_
  refine TL_nil ?_
  refine TX_then ?_
  refine TC_ret ?_
  exact TX_ret (.inl rfl) (res1 rfl rfl) ⟨_, ⟨rfl, rfl⟩, (fun _ h => h.cnt fun p => by simp only [List.countP_append, List.countP_cons, List.countP_nil]; omega)⟩
end Go.Proofs.Ytkkdpbjfkncpbaa

/- FACTS ON THE TYPES AND FUNCTIONS OF THIS TRANSLATION, each closed by the kernel; laid by a program of this work. -/
import Derived.Test.YtlipbopmdfpobaaDoorC
import Derived.Test.YtlipbopmdfpobaaDoorProg
import Derived.KernelRfl
namespace Go.Proofs.YtlipbopmdfpobaaDoorF
open Go Go.Gx

theorem sz_3 : Sz Tryd.prog 3 1 := by unfold Sz; kernel_rfl
theorem sz_22 : Sz Tryd.prog 22 1 := by unfold Sz; kernel_rfl
theorem sz_24 : Sz Tryd.prog 24 2 := by unfold Sz; kernel_rfl
theorem sz_25 : Sz Tryd.prog 25 8 := by unfold Sz; kernel_rfl
theorem sz_27 : Sz Tryd.prog 27 18 := by unfold Sz; kernel_rfl
theorem sz_37 : Sz Tryd.prog 37 1 := by unfold Sz; kernel_rfl
theorem sz_41 : Sz Tryd.prog 41 1 := by unfold Sz; kernel_rfl
theorem sz_42 : Sz Tryd.prog 42 3 := by unfold Sz; kernel_rfl
theorem fld_24_0 : FieldOk Tryd.prog 24 0 0 := ⟨_, _, 0, Tryd.underlying24, rfl, rfl, by unfold Sz; kernel_rfl⟩
theorem fld_24_1 : FieldOk Tryd.prog 24 1 1 := ⟨_, _, 0, Tryd.underlying24, rfl, rfl, by unfold Sz; kernel_rfl⟩
theorem fld_27_0 : FieldOk Tryd.prog 27 0 0 := ⟨_, _, 0, Tryd.underlying27, rfl, rfl, by unfold Sz; kernel_rfl⟩
theorem fld_27_1 : FieldOk Tryd.prog 27 1 1 := ⟨_, _, 0, Tryd.underlying27, rfl, rfl, by unfold Sz; kernel_rfl⟩
theorem fld_27_2 : FieldOk Tryd.prog 27 2 2 := ⟨_, _, 0, Tryd.underlying27, rfl, rfl, by unfold Sz; kernel_rfl⟩
theorem fld_27_3 : FieldOk Tryd.prog 27 3 3 := ⟨_, _, 0, Tryd.underlying27, rfl, rfl, by unfold Sz; kernel_rfl⟩
theorem fld_27_4 : FieldOk Tryd.prog 27 4 4 := ⟨_, _, 0, Tryd.underlying27, rfl, rfl, by unfold Sz; kernel_rfl⟩
theorem fld_27_5 : FieldOk Tryd.prog 27 5 5 := ⟨_, _, 0, Tryd.underlying27, rfl, rfl, by unfold Sz; kernel_rfl⟩
theorem fld_27_6 : FieldOk Tryd.prog 27 6 6 := ⟨_, _, 1, Tryd.underlying27, rfl, rfl, by unfold Sz; kernel_rfl⟩
theorem fld_27_7 : FieldOk Tryd.prog 27 7 8 := ⟨_, _, 1, Tryd.underlying27, rfl, rfl, by unfold Sz; kernel_rfl⟩
theorem fld_27_8 : FieldOk Tryd.prog 27 8 10 := ⟨_, _, 7, Tryd.underlying27, rfl, rfl, by unfold Sz; kernel_rfl⟩
theorem pl_24 : placesOk Tryd.prog 24 [(0, 1), (1, 1)] := ⟨_, Tryd.underlying24, by kernel_rfl⟩
theorem pl_27 : placesOk Tryd.prog 27 [(0, 1), (1, 1), (2, 1), (3, 1), (4, 1), (5, 1), (6, 2), (8, 2), (10, 8)] := ⟨_, Tryd.underlying27, by kernel_rfl⟩
theorem zero_3 : ZeroOk Tryd.prog 3 (.int .i64 0) := by unfold ZeroOk; kernel_rfl
theorem zero_24 : ZeroOk Tryd.prog 24 (.agg #[.int .i32 0, .int .i32 0]) := by unfold ZeroOk; kernel_rfl
theorem zero_27 : ZeroOk Tryd.prog 27 (.agg #[.int .i64 0, .int .i64 0, .int .i64 0, .int .i64 0, .int .i64 0, .int .i64 0, .int .i32 0, .int .i32 0, .int .i32 0, .int .i32 0, .int .i32 0, .int .i32 0, .int .i32 0, .int .i32 0, .int .i32 0, .int .i32 0, .int .i32 0, .int .i32 0]) := by unfold ZeroOk; kernel_rfl
theorem zero_37 : ZeroOk Tryd.prog 37 (.slice none 0 0) := by unfold ZeroOk; kernel_rfl
theorem cal_3 : CalleeOk Tryd.prog 3 := ⟨_, Tryd.func3, rfl, by kernel_rfl⟩
theorem cal_4 : CalleeOk Tryd.prog 4 := ⟨_, Tryd.func4, rfl, by kernel_rfl⟩
theorem cal_5 : CalleeOk Tryd.prog 5 := ⟨_, Tryd.func5, rfl, by kernel_rfl⟩
theorem cal_6 : CalleeOk Tryd.prog 6 := ⟨_, Tryd.func6, rfl, by kernel_rfl⟩
theorem cal_7 : CalleeOk Tryd.prog 7 := ⟨_, Tryd.func7, rfl, by kernel_rfl⟩
theorem cal_8 : CalleeOk Tryd.prog 8 := ⟨_, Tryd.func8, rfl, by kernel_rfl⟩
theorem cal_9 : CalleeOk Tryd.prog 9 := ⟨_, Tryd.func9, rfl, by kernel_rfl⟩
theorem cal_10 : CalleeOk Tryd.prog 10 := ⟨_, Tryd.func10, rfl, by kernel_rfl⟩
theorem cal_11 : CalleeOk Tryd.prog 11 := ⟨_, Tryd.func11, rfl, by kernel_rfl⟩
theorem cal_12 : CalleeOk Tryd.prog 12 := ⟨_, Tryd.func12, rfl, by kernel_rfl⟩
theorem cal_13 : CalleeOk Tryd.prog 13 := ⟨_, Tryd.func13, rfl, by kernel_rfl⟩
theorem cal_14 : CalleeOk Tryd.prog 14 := ⟨_, Tryd.func14, rfl, by kernel_rfl⟩
theorem cal_15 : CalleeOk Tryd.prog 15 := ⟨_, Tryd.func15, rfl, by kernel_rfl⟩
theorem cal_16 : CalleeOk Tryd.prog 16 := ⟨_, Tryd.func16, rfl, by kernel_rfl⟩
theorem mixed : Tryd.prog.follows .mixedOrders = true := by kernel_rfl
end Go.Proofs.YtlipbopmdfpobaaDoorF

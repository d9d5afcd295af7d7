/- WHAT THE ROWS OF THE SHEETS ARE OPENED BY: the sets of numbers of bits; a parameter of bytes, of sheets. -/
import Derived.Test.YtlmbpdlobpcahaaDoorL08o
import Derived.Test.YtlmbpdlobpcahaaDoorS11j
namespace Go.Proofs.YtlmbpdlobpcahaaDoor
open Go Go.Gx Go.RowKit Go.ChangeShapes Go.WideShapes Go.ChangeAt
set_option maxRecDepth 100000

def laid11 : List (String × DataW Unit) := [("gouache/layouts.sets", Rows.laid_gouache_layouts_sets)]
theorem laid11_met {W : World} (h : laidMetH Tryd.prog laid11 W) : laidMet Tryd.prog laid11 W := by
  rw [MakeChecks.laidMetH_plain _ _ _ (by kernel_rfl)] at h
  exact h
theorem door11 (os : Os) (args : Array Value) : laidMetH Tryd.prog laid11 ((World.doorLaid Tryd.prog 400 os).forCall (fun _ _ => 0) ⟨#[], args, []⟩).memory :=
  laidMetH_of_parts3 (fuel := 8) (laidMet_of_run' 8 (by kernel_rfl) (by kernel_rfl)) (by kernel_rfl) (by kernel_rfl)
theorem sets11 {W : World} (h : laidMetH Tryd.prog laid11 W) : Sets W := sets_of (laid11_met h) (List.mem_cons_self ..)
theorem flat_Byte : flat Tryd.prog 8 5 = some byteK := by kernel_rfl
theorem open_bytesB {H : Type} {enc : TypeId × Value → H} {W : World} {base b0 : Nat} {spare : Nat → Bool} {held : Bool} {r : Reach} {v : Value} {d : DataW H} {p : List MemPlace}
    (hv : Value.okWide Tryd.prog W r b0 28 v) (h : DataW.Trod enc Tryd.prog W base spare held 28 v d p) (hw : ∀ m ∈ d.weights Tryd.prog 28, m ≤ reachBytes) :
    ∃ bs : List Nat, SlA (St W []) v 1 bs.length (byV bs) ∧ (∀ c ∈ bs, c < 256) ∧ bs.length ≤ 140737488351232 := by
  obtain ⟨n, xs, hs, hi, hn⟩ := open_slw Tryd.underlying28 flat_Byte (by decide) (show Tryd.prog.bytesOf 5 = 1 by kernel_rfl) hv h hw
  obtain ⟨bs, rfl, rfl, hb⟩ := byV_of hi
  exact ⟨bs, hs, hb, by omega⟩
theorem flat_Sheet : flat Tryd.prog 8 71 = some sheetK := by kernel_rfl
theorem wfU {k : IntKind} {z : Int} (hk : k = .u8 ∨ k = .u16 ∨ k = .u32) (h : (Lit.int k z).wf = true) : ∃ x : Nat, z = (x : Int) ∧ x < (if k = .u8 then 256 else if k = .u16 then 65536 else 4294967296) := by
  simp only [Lit.wf, Bool.and_eq_true, decide_eq_true_eq] at h
  rcases hk with rfl | rfl | rfl
  · have h1 : IntKind.u8.min = 0 := rfl
    have h2 : IntKind.u8.max = 255 := rfl
    exact ⟨z.toNat, by omega, by rw [if_pos rfl]; omega⟩
  · have h1 : IntKind.u16.min = 0 := rfl
    have h2 : IntKind.u16.max = 65535 := rfl
    exact ⟨z.toNat, by omega, by rw [if_neg (by decide), if_pos rfl]; omega⟩
  · have h1 : IntKind.u32.min = 0 := rfl
    have h2 : IntKind.u32.max = 4294967295 := rfl
    exact ⟨z.toNat, by omega, by rw [if_neg (by decide), if_neg (by decide)]; omega⟩
theorem ints_nat : ∀ {ks : List IntKind} {cs : List Value}, (∀ k ∈ ks, k = .u8 ∨ k = .u16 ∨ k = .u32) → Ints ks cs →
    ∃ xs : List Nat, xs.length = ks.length ∧ cs = List.zipWith (fun (k : IntKind) (x : Nat) => Value.int k (x : Int)) ks xs ∧ ∀ (p : Nat) (k : IntKind) (x : Nat), ks[p]? = some k → xs[p]? = some x → x < (if k = .u8 then 256 else if k = .u16 then 65536 else 4294967296)
  | [], cs, _, h => ⟨[], rfl, by rw [h.inv_nil]; rfl, fun p k x h => by simp at h⟩
  | k :: ks, cs, hk, h => by
    obtain ⟨z, cs', rfl, hw, hr⟩ := h.inv
    clear h
    obtain ⟨x, rfl, hx⟩ := wfU (hk k (List.mem_cons_self ..)) hw
    obtain ⟨xs, h1, rfl, h3⟩ := ints_nat (fun q hq => hk q (List.mem_cons_of_mem _ hq)) hr
    refine ⟨x :: xs, by simp [h1], rfl, fun p => ?_⟩
    cases p with
    | zero => intro k' x' e1 e2; cases e1; cases e2; exact hx
    | succ p => intro k' x' e1 e2; exact h3 p k' x' e1 e2
theorem sheet_of {cs : List Value} (h : Ints sheetK cs) : ∃ y, ShF y ∧ cs = shV y := by
  obtain ⟨xs, h1, rfl, h3⟩ := ints_nat (ks := sheetK) (by decide) h
  rw [sheetK_len] at h1
  obtain ⟨x0, X, rfl⟩ : ∃ x0 X, xs = x0 :: X := by
    cases xs with
    | nil => simp at h1
    | cons a b => exact ⟨a, b, rfl⟩
  rw [List.length_cons] at h1
  refine ⟨_, ⟨x0, X, rfl, ?_, ⟨by omega, fun {p x} hx hp => ?_, fun {p x} hx hp => ?_⟩⟩, rfl⟩
  · exact h3 0 .u8 x0 rfl rfl
  · have := h3 (p + 1) (skK (p + 1)) x (sheetK_at (by omega)) (by rw [List.getElem?_cons_succ]; exact hx)
    rw [show skK (p + 1) = .u32 by unfold skK; rw [if_neg (by omega), if_pos (by omega)]] at this
    simpa using this
  · have hl := (List.getElem?_eq_some_iff.1 hx).1
    have := h3 (p + 1) (skK (p + 1)) x (sheetK_at (by omega)) (by rw [List.getElem?_cons_succ]; exact hx)
    rw [show skK (p + 1) = .u16 by unfold skK; rw [if_neg (by omega), if_neg (by omega)]] at this
    simpa using this
theorem sheets_of : ∀ {n : Nat} {xs : List Value}, Ints (rep n sheetK) xs → ∃ ys : List (List Nat), ys.length = n ∧ xs = flatS ys ∧ ∀ y ∈ ys, ShF y
  | 0, xs, h => by
    obtain rfl := Ints.inv_nil (show Ints [] xs from h)
    exact ⟨[], rfl, rfl, fun _ h => absurd h List.not_mem_nil⟩
  | n + 1, xs, h => by
    have e : rep (n + 1) sheetK = sheetK ++ rep n sheetK := by simp [rep, List.replicate_succ]
    rw [e] at h
    obtain ⟨h1, h2⟩ := h.split
    obtain ⟨y, hy, e1⟩ := sheet_of h1
    obtain ⟨ys, hl, e2, hys⟩ := sheets_of h2
    refine ⟨y :: ys, by simp [hl], ?_, fun z hz => ?_⟩
    · have : flatS (y :: ys) = shV y ++ flatS ys := by simp [flatS]
      rw [this, ← e1, ← e2, List.take_append_drop]
    · rcases List.mem_cons.1 hz with rfl | hz
      · exact hy
      · exact hys z hz
theorem flatS_ints : ∀ {ys : List (List Nat)}, (∀ y ∈ ys, ShF y) → Ints (rep ys.length sheetK) (flatS ys)
  | [], _ => .nil
  | y :: ys, h => by
    have e : flatS (y :: ys) = shV y ++ flatS ys := by simp [flatS]
    have e2 : rep (y :: ys).length sheetK = sheetK ++ rep ys.length sheetK := by simp [rep, List.replicate_succ]
    rw [e, e2]
    exact (shV_ints (h y (List.mem_cons_self ..))).append (flatS_ints fun z hz => h z (List.mem_cons_of_mem _ hz))
theorem open_sheets {w0 : World} {sv : Value} {n : Nat} {xs : List Value} (hs : SlA (St w0 []) sv 49 n xs) (hi : Ints (rep n sheetK) xs) : ∃ ys, ys.length = n ∧ SlA (St w0 []) sv 49 ys.length (flatS ys) ∧ ∀ y ∈ ys, ShF y := by
  obtain ⟨ys, hl, rfl, ha⟩ := sheets_of hi
  exact ⟨ys, hl, by rw [hl]; exact hs, ha⟩
end Go.Proofs.YtlmbpdlobpcahaaDoor

/- WHAT THE ROWS OF THE RECORDS ARE OPENED BY: the sets of numbers of bits; a parameter of bytes, of records. -/
import Derived.Test.YtjehicncbpljaaaDoorL08o
import Derived.Test.YtjehicncbpljaaaDoorS09h
namespace Go.Proofs.YtjehicncbpljaaaDoor
open Go Go.Gx Go.RowKit Go.ChangeShapes Go.WideShapes Go.ChangeAt
set_option maxRecDepth 100000

def laid09 : List (String × DataW Unit) := [("gouache/layouts.sets", Rows.laid_gouache_layouts_sets)]
theorem laid09_met {W : World} (h : laidMetH Tryd.prog laid09 W) : laidMet Tryd.prog laid09 W := by
  rw [MakeChecks.laidMetH_plain _ _ _ (by kernel_rfl)] at h
  exact h
theorem door09 (os : Os) (args : Array Value) : laidMetH Tryd.prog laid09 ((World.doorLaid Tryd.prog 400 os).forCall (fun _ _ => 0) ⟨#[], args, []⟩).memory :=
  laidMetH_of_parts3 (fuel := 8) (laidMet_of_run' 8 (by kernel_rfl) (by kernel_rfl)) (by kernel_rfl) (by kernel_rfl)
theorem sets09 {W : World} (h : laidMetH Tryd.prog laid09 W) : Sets W := sets_of (laid09_met h) (List.mem_cons_self ..)
theorem flat_ByteR : flat Tryd.prog 8 5 = some byteK := by kernel_rfl
theorem open_bytesR {H : Type} {enc : TypeId × Value → H} {W : World} {base b0 : Nat} {spare : Nat → Bool} {held : Bool} {r : Reach} {v : Value} {d : DataW H} {p : List MemPlace}
    (hv : Value.okWide Tryd.prog W r b0 28 v) (h : DataW.Trod enc Tryd.prog W base spare held 28 v d p) (hw : ∀ m ∈ d.weights Tryd.prog 28, m ≤ reachBytes) :
    ∃ bs : List Nat, SlA (St W []) v 1 bs.length (byV bs) ∧ (∀ c ∈ bs, c < 256) ∧ bs.length ≤ 140737488351232 := by
  obtain ⟨n, xs, hs, hi, hn⟩ := open_slw Tryd.underlying28 flat_ByteR (by decide) (show Tryd.prog.bytesOf 5 = 1 by kernel_rfl) hv h hw
  obtain ⟨bs, rfl, rfl, hb⟩ := byV_of hi
  exact ⟨bs, hs, hb, by omega⟩
theorem flat_RecR : flat Tryd.prog 8 67 = some recK := by kernel_rfl
theorem wfUR {k : IntKind} {z : Int} (hk : k = .u8 ∨ k = .u16 ∨ k = .u32) (h : (Lit.int k z).wf = true) : ∃ x : Nat, z = (x : Int) ∧ x < (if k = .u8 then 256 else if k = .u16 then 65536 else 4294967296) := by
  simp only [Lit.wf, Bool.and_eq_true, decide_eq_true_eq] at h
  rcases hk with rfl | rfl | rfl
  · have h1 : IntKind.u8.min = 0 := rfl
    have h2 : IntKind.u8.max = 255 := rfl
    exact ⟨z.toNat, by omega, by rw [if_pos rfl]; omega⟩
  · have h1 : IntKind.u16.min = 0 := rfl
    have h2 : IntKind.u16.max = 65535 := rfl
    exact ⟨z.toNat, by omega, by rw [if_neg (by decide), if_pos rfl]; omega⟩
  · have h1 : IntKind.u32.min = 0 := rfl
    have h2 : IntKind.u32.max = 4294967295 := rfl
    exact ⟨z.toNat, by omega, by rw [if_neg (by decide), if_neg (by decide)]; omega⟩
theorem ints_natR : ∀ {ks : List IntKind} {cs : List Value}, (∀ k ∈ ks, k = .u8 ∨ k = .u16 ∨ k = .u32) → Ints ks cs →
    ∃ xs : List Nat, xs.length = ks.length ∧ cs = List.zipWith (fun (k : IntKind) (x : Nat) => Value.int k (x : Int)) ks xs ∧ ∀ (p : Nat) (k : IntKind) (x : Nat), ks[p]? = some k → xs[p]? = some x → x < (if k = .u8 then 256 else if k = .u16 then 65536 else 4294967296)
  | [], cs, _, h => ⟨[], rfl, by rw [h.inv_nil]; rfl, fun p k x h => by simp at h⟩
  | k :: ks, cs, hk, h => by
    obtain ⟨z, cs', rfl, hw, hr⟩ := h.inv
    clear h
    obtain ⟨x, rfl, hx⟩ := wfUR (hk k (List.mem_cons_self ..)) hw
    obtain ⟨xs, h1, rfl, h3⟩ := ints_natR (fun q hq => hk q (List.mem_cons_of_mem _ hq)) hr
    refine ⟨x :: xs, by simp [h1], rfl, fun p => ?_⟩
    cases p with
    | zero => intro k' x' e1 e2; cases e1; cases e2; exact hx
    | succ p => intro k' x' e1 e2; exact h3 p k' x' e1 e2
theorem rec_ofR {cs : List Value} (h : Ints recK cs) : ∃ r, RcF r ∧ cs = rvV r := by
  obtain ⟨xs, h1, rfl, h3⟩ := ints_natR (ks := recK) (by decide) h
  rw [recK_len] at h1
  refine ⟨xs, ⟨h1, fun {p x} hx => ?_⟩, rfl⟩
  have hp : p < 7 := by rw [← h1]; exact (List.getElem?_eq_some_iff.1 hx).1
  have := h3 p _ x (recK_at hp) hx
  unfold rkM
  unfold rkK at this
  by_cases e0 : p = 0
  · rw [if_pos e0] at this ⊢; exact this
  · rw [if_neg e0] at this ⊢
    by_cases e1 : p < 3
    · rw [if_pos e1] at this ⊢; exact this
    · rw [if_neg e1] at this ⊢; exact this
theorem recs_ofR : ∀ {n : Nat} {xs : List Value}, Ints (rep n recK) xs → ∃ rs : List (List Nat), rs.length = n ∧ xs = flatR rs ∧ ∀ r ∈ rs, RcF r
  | 0, xs, h => by
    obtain rfl := Ints.inv_nil (show Ints [] xs from h)
    exact ⟨[], rfl, rfl, fun _ h => absurd h List.not_mem_nil⟩
  | n + 1, xs, h => by
    have e : rep (n + 1) recK = recK ++ rep n recK := by simp [rep, List.replicate_succ]
    rw [e] at h
    obtain ⟨h1, h2⟩ := h.split
    obtain ⟨y, hy, e1⟩ := rec_ofR h1
    obtain ⟨ys, hl, e2, hys⟩ := recs_ofR h2
    refine ⟨y :: ys, by simp [hl], ?_, fun z hz => ?_⟩
    · rw [flatR_cons, ← e1, ← e2, List.take_append_drop]
    · rcases List.mem_cons.1 hz with rfl | hz
      · exact hy
      · exact hys z hz
theorem open_recsR {w0 : Base} {sv : Value} {n : Nat} {xs : List Value} (hs : SlA (St w0 []) sv 7 n xs) (hi : Ints (rep n recK) xs) : ∃ rs, rs.length = n ∧ SlA (St w0 []) sv 7 rs.length (flatR rs) ∧ ∀ r ∈ rs, RcF r := by
  obtain ⟨rs, hl, rfl, ha⟩ := recs_ofR hi
  exact ⟨rs, hl, by rw [hl]; exact hs, ha⟩
end Go.Proofs.YtjehicncbpljaaaDoor

/- WHAT A PATCH HAS: its points and colours, one by one. -/
import Derived.Test.YtjipbndjcefbbaaDoorT12d
namespace Go.Proofs.YtjipbndjcefbbaaDoor
open Go Go.Gx Go.RowKit
set_option maxRecDepth 100000

theorem wh_sp {pts f k : Nat} {s ah : List Value} (hs : s.length = 49) (ha : ah.length = 48) (hp : pts = 12 ∨ pts = 16) (hf : f = 1 ∨ f = 2 ∨ f = 3) (hk : k < 4) : spC (wholeC pts f s ah) k = spC ah (eP f k) := by
  refine map_at (m := 4) (F := fun k => spC (wholeC pts f s ah) k) (G := fun k => spC ah (eP f k)) ?_ hk
  obtain ⟨g, rfl⟩ := tab' (.bool false) s hs
  obtain ⟨h, rfl⟩ := tab' (.bool false) ah ha
  rcases hp with rfl | rfl <;> rcases hf with rfl | rfl | rfl <;> kernel_rfl
theorem wh_co {pts f k : Nat} {s ah : List Value} (hs : s.length = 49) (ha : ah.length = 48) (hp : pts = 12 ∨ pts = 16) (hf : f = 1 ∨ f = 2 ∨ f = 3) (hk : k < 2) : coC (wholeC pts f s ah) k = coC ah (eC f k) := by
  refine map_at (m := 2) (F := fun k => coC (wholeC pts f s ah) k) (G := fun k => coC ah (eC f k)) ?_ hk
  obtain ⟨g, rfl⟩ := tab' (.bool false) s hs
  obtain ⟨h, rfl⟩ := tab' (.bool false) ah ha
  rcases hp with rfl | rfl <;> rcases hf with rfl | rfl | rfl <;> kernel_rfl
def spS (s : List Value) (k : Nat) : List Value := (s.drop (1 + k * 2)).take 2
def coS (s : List Value) (k : Nat) : List Value := (s.drop (33 + k * 4)).take 4
theorem wh_own {pts f j : Nat} {s ah : List Value} (hs : s.length = 49) (ha : ah.length = 48) (hp : pts = 12 ∨ pts = 16) (hf : f = 0 ∨ f = 1 ∨ f = 2 ∨ f = 3) (hj : j < npN pts f) : spC (wholeC pts f s ah) (atN f + j) = spS s j := by
  refine map_at (F := fun j => spC (wholeC pts f s ah) (atN f + j)) ?_ hj
  obtain ⟨g, rfl⟩ := tab' (.bool false) s hs
  obtain ⟨h, rfl⟩ := tab' (.bool false) ah ha
  rcases hp with rfl | rfl <;> rcases hf with rfl | rfl | rfl | rfl <;> kernel_rfl
theorem wh_none {pts f j : Nat} {s ah : List Value} (hs : s.length = 49) (ha : ah.length = 48) (hp : pts = 12 ∨ pts = 16) (hf : f = 0 ∨ f = 1 ∨ f = 2 ∨ f = 3) (hj : j < 16 - pts) : spC (wholeC pts f s ah) (pts + j) = [.int .u32 0, .int .u32 0] := by
  refine map_at (F := fun j => spC (wholeC pts f s ah) (pts + j)) (G := fun _ => [.int .u32 0, .int .u32 0]) ?_ hj
  obtain ⟨g, rfl⟩ := tab' (.bool false) s hs
  obtain ⟨h, rfl⟩ := tab' (.bool false) ah ha
  rcases hp with rfl | rfl <;> rcases hf with rfl | rfl | rfl | rfl <;> kernel_rfl
theorem wh_cols {pts f j : Nat} {s ah : List Value} (hs : s.length = 49) (ha : ah.length = 48) (hp : pts = 12 ∨ pts = 16) (hf : f = 0 ∨ f = 1 ∨ f = 2 ∨ f = 3) (hj : j < ncN f) : coC (wholeC pts f s ah) (hvN f + j) = coS s j := by
  refine map_at (F := fun j => coC (wholeC pts f s ah) (hvN f + j)) ?_ hj
  obtain ⟨g, rfl⟩ := tab' (.bool false) s hs
  obtain ⟨h, rfl⟩ := tab' (.bool false) ah ha
  rcases hp with rfl | rfl <;> rcases hf with rfl | rfl | rfl | rfl <;> kernel_rfl

theorem spC_ints : ∀ {k : Nat} {p : List Value}, Ints patchK p → k < 16 → Ints spotK (spC p k) := by
  intro k p h hk
  have e : (patchK.drop (k * 2)).take 2 = spotK := by
    refine map_at (m := 16) (F := fun k => (patchK.drop (k * 2)).take 2) (G := fun _ => spotK) (by decide) hk
  have := (h.drop (k * 2)).take 2
  rwa [e] at this
theorem coC_ints : ∀ {k : Nat} {p : List Value}, Ints patchK p → k < 4 → Ints colK (coC p k) := by
  intro k p h hk
  have e : (patchK.drop (32 + k * 4)).take 4 = colK := by
    refine map_at (m := 4) (F := fun k => (patchK.drop (32 + k * 4)).take 4) (G := fun _ => colK) (by decide) hk
  have := (h.drop (32 + k * 4)).take 4
  rwa [e] at this
theorem spS_ints : ∀ {k : Nat} {p : List Value}, Ints sheetK p → k < 16 → Ints spotK (spS p k) := by
  intro k p h hk
  have e : (sheetK.drop (1 + k * 2)).take 2 = spotK := by
    refine map_at (m := 16) (F := fun k => (sheetK.drop (1 + k * 2)).take 2) (G := fun _ => spotK) (by decide) hk
  have := (h.drop (1 + k * 2)).take 2
  rwa [e] at this
theorem coS_ints : ∀ {k : Nat} {p : List Value}, Ints sheetK p → k < 4 → Ints colK (coS p k) := by
  intro k p h hk
  have e : (sheetK.drop (33 + k * 4)).take 4 = colK := by
    refine map_at (m := 4) (F := fun k => (sheetK.drop (33 + k * 4)).take 4) (G := fun _ => colK) (by decide) hk
  have := (h.drop (33 + k * 4)).take 4
  rwa [e] at this
theorem take_len {pts N : Nat} {xs : List Value} (hl : ∀ j, j ≤ N → (tileB pts xs j).length = 48) : ∀ m, m ≤ N → (tilesC pts xs m).length = m * 48
  | 0, _ => rfl
  | m + 1, h => by rw [tilesC, List.length_append, take_len hl m (by omega), hl _ h]; omega
theorem take_elem {pts N : Nat} {xs : List Value} (hl : ∀ j, j ≤ N → (tileB pts xs j).length = 48) : ∀ n i, n ≤ N → i < n → elem (tilesC pts xs n) 48 i = tileB pts xs (i + 1)
  | 0, i, _, h => absurd h (Nat.not_lt_zero i)
  | n + 1, i, hN, h => by
    have hlen := take_len hl n (by omega)
    unfold elem tilesC
    by_cases hi : i < n
    · have h1 : (i + 1) * 48 ≤ n * 48 := Nat.mul_le_mul_right _ hi
      rw [List.drop_append_of_le_length (by omega), List.take_append_of_le_length (by rw [List.length_drop]; omega)]
      exact take_elem hl n i (by omega) hi
    · obtain rfl : i = n := by omega
      rw [← hlen, List.drop_left, List.take_of_length_le (by rw [hl _ hN]; omega)]
theorem whole_len {pts f : Nat} {s ah : List Value} (hs : s.length = 49) (ha : ah.length = 48) (hp : pts = 12 ∨ pts = 16) (hf : f = 0 ∨ f = 1 ∨ f = 2 ∨ f = 3) : (wholeC pts f s ah).length = 48 := by
  obtain ⟨g, rfl⟩ := tab' (.bool false) s hs
  obtain ⟨h, rfl⟩ := tab' (.bool false) ah ha
  rcases hp with rfl | rfl <;> rcases hf with rfl | rfl | rfl | rfl <;> kernel_rfl
theorem part48 (T : List Value) (i o m : Nat) (h : o + m ≤ 48) : (T.drop (i * 48 + o)).take m = ((elem T 48 i).drop o).take m := by
  unfold elem
  rw [List.drop_take, List.drop_drop, List.take_take, Nat.min_eq_left (by omega)]
end Go.Proofs.YtjipbndjcefbbaaDoor

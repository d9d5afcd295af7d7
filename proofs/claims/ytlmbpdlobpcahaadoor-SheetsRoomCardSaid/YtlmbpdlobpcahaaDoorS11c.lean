/- A SHEET's numbers; how many it tells; a number of another kind through a hand. -/
import Derived.Test.YtlmbpdlobpcahaaDoorS11b
import Derived.Test.YtlmbpdlobpcahaaDoorG01a
namespace Go.Proofs.YtlmbpdlobpcahaaDoor
open Go Go.Gx Go.RowKit
set_option maxRecDepth 100000
def skK (p : Nat) : IntKind := if p = 0 then .u8 else if p < 33 then .u32 else .u16
theorem sheetK_at {p : Nat} (h : p < 49) : sheetK[p]? = some (skK p) := (show ∀ p : Fin 49, sheetK[p.1]? = some (skK p.1) by decide) ⟨p, h⟩
theorem sheetK_len : sheetK.length = 49 := by decide
def shV (xs : List Nat) : List Value := List.zipWith (fun (k : IntKind) (x : Nat) => Value.int k (x : Int)) sheetK xs
theorem shV_len {xs : List Nat} (h : xs.length = 49) : (shV xs).length = 49 := by rw [shV, List.length_zipWith, sheetK_len, h]; rfl
theorem shV_at {xs : List Nat} {p x : Nat} (hp : p < 49) (h : xs[p]? = some x) : (shV xs)[p]? = some (.int (skK p) (x : Int)) := by
  rw [shV, List.getElem?_zipWith, sheetK_at hp, h]
theorem shV_set {xs : List Nat} {p v : Nat} (hp : p < 49) : (shV xs).set p (.int (skK p) (v : Int)) = shV (xs.set p v) := by
  apply List.ext_getElem?
  intro k
  rw [List.getElem?_set]
  by_cases e : p = k
  · subst e
    rw [if_pos rfl]
    by_cases hl : p < xs.length
    · rw [if_pos (by rw [shV, List.length_zipWith, sheetK_len]; omega), shV_at (x := v) hp (by rw [List.getElem?_set, if_pos rfl, if_pos hl])]
    · rw [if_neg (by rw [shV, List.length_zipWith]; omega), shV, List.getElem?_zipWith, List.getElem?_eq_none (l := xs.set p v) (by rw [List.length_set]; omega), sheetK_at hp]
  · rw [if_neg e, shV, shV, List.getElem?_zipWith, List.getElem?_zipWith, List.getElem?_set, if_neg e]
theorem shV_mid {f k v : Nat} {a X : List Nat} (ha : a.length = k) (hx : k < X.length) (hk : k < 48) : setAt (shV (f :: (a ++ X.drop k))) (k + 1) [.int (skK (k + 1)) (v : Int)] = shV (f :: ((a ++ [v]) ++ X.drop (k + 1))) := by
  show (shV (f :: (a ++ X.drop k))).set (k + 1) _ = _
  rw [shV_set (by omega), List.drop_eq_getElem_cons hx]
  subst ha
  rw [List.set_cons_succ, List.set_append_right _ _ (Nat.le_refl _), Nat.sub_self, List.set_cons_zero, List.append_assoc]
  rfl
theorem shV_mid_at {f k x : Nat} {a X : List Nat} (ha : a.length = k) (hx : X[k]? = some x) (hk : k < 48) : (shV (f :: (a ++ X.drop k)))[k + 1]? = some (.int (skK (k + 1)) (x : Int)) := by
  refine shV_at (by omega) ?_
  rw [List.getElem?_cons_succ, List.getElem?_append_right (by omega), ha, Nat.sub_self, List.getElem?_drop]
  simpa using hx
/-- how wide a sheet's numbers are -/
def ptN (L : Lay) (f : Nat) : Nat := (ptsZ L (f : Int)).toNat
def clN (L : Lay) (f : Nat) : Nat := (colZ L (f : Int)).toNat
theorem ptN_bd (L : Lay) (f : Nat) : 1 ≤ ptN L f ∧ ptN L f ≤ 16 ∧ ptsZ L (f : Int) = (ptN L f : Int) := by
  have : 1 ≤ ptsZ L (f : Int) ∧ ptsZ L (f : Int) ≤ 16 := by unfold ptsZ; grind
  unfold ptN; omega
theorem clN_bd (L : Lay) (f : Nat) : 1 ≤ clN L f ∧ clN L f ≤ 4 ∧ colZ L (f : Int) = (clN L f : Int) := by
  have : 1 ≤ colZ L (f : Int) ∧ colZ L (f : Int) ≤ 4 := by unfold colZ; grind
  unfold clN; omega
def wPt (L : Lay) (f i : Nat) : Nat := if i < ptN L f then L.co.toNat else 0
def wCl (L : Lay) (f j : Nat) : Nat := if j / 4 < clN L f ∧ j % 4 < L.cs.toNat then L.cm.toNat else 0
def wS (L : Lay) (f : Nat) : Ws := (List.range 48).map fun p => if p < 32 then (wPt L f (p / 2), 4294967296) else (wCl L f (p - 32), 65536)
theorem wS_len (L : Lay) (f : Nat) : (wS L f).length = 48 := by simp [wS]
theorem wS_at {L : Lay} {f p : Nat} (h : p < 48) : (wS L f)[p]? = some (if p < 32 then (wPt L f (p / 2), 4294967296) else (wCl L f (p - 32), 65536)) := by
  rw [wS, List.getElem?_map, List.getElem?_range h]; rfl
theorem wS_pt {L : Lay} {f i p : Nat} (hi : i < 16) (hp : p = 2 * i ∨ p = 2 * i + 1) : (wS L f)[p]? = some (wPt L f i, 4294967296) := by
  rw [wS_at (by omega), if_pos (by omega), show p / 2 = i by omega]
theorem wS_cl {L : Lay} {f j : Nat} (hj : j < 16) : (wS L f)[32 + j]? = some (wCl L f j, 65536) := by
  rw [wS_at (by omega), if_neg (by omega), show 32 + j - 32 = j by omega]
theorem wPt_le {L : Lay} (h : okB L = true) (f i : Nat) : wPt L f i ≤ 32 := by
  have := (okB_bounds h).1
  unfold wPt; split <;> omega
theorem wCl_le {L : Lay} (h : okB L = true) (f j : Nat) : wCl L f j ≤ 16 := by
  have := (okB_bounds h).2.1
  unfold wCl; split <;> omega
theorem wS_le {L : Lay} (h : okB L = true) (f : Nat) : ∀ p ∈ wS L f, p.1 ≤ 32 := by
  intro p hp
  obtain ⟨k, _, rfl⟩ := List.mem_map.1 hp
  split
  · exact wPt_le h ..
  · exact Nat.le_trans (wCl_le h ..) (by decide)
theorem wS_m (L : Lay) (f : Nat) : ∀ p ∈ wS L f, 0 < p.2 := by
  intro p hp
  obtain ⟨k, _, rfl⟩ := List.mem_map.1 hp
  split
  · show (0 : Nat) < 4294967296; decide
  · show (0 : Nat) < 65536; decide
theorem wS_mm {L : Lay} (h : okB L = true) (f : Nat) : ∀ p ∈ wS L f, 2 ^ p.1 ≤ p.2 := by
  intro p hp
  obtain ⟨k, _, rfl⟩ := List.mem_map.1 hp
  split
  · exact Nat.le_trans (Nat.pow_le_pow_right (by decide) (wPt_le h ..)) (show 2 ^ 32 ≤ 4294967296 by decide)
  · exact Nat.le_trans (Nat.pow_le_pow_right (by decide) (wCl_le h ..)) (show 2 ^ 16 ≤ 65536 by decide)
/-- the numbers of a sheet, but its flag -/
structure Sh (X : List Nat) : Prop where
  len : X.length = 48
  pt : ∀ {p x}, X[p]? = some x → p < 32 → x < 4294967296
  cl : ∀ {p x}, X[p]? = some x → 32 ≤ p → x < 65536
theorem Und_of : ∀ {ws : Ws} {xs : List Nat}, ws.length = xs.length → (∀ (k w m x : Nat), ws[k]? = some (w, m) → xs[k]? = some x → x < m) → Und ws xs
  | [], [], _, _ => trivial
  | [], _ :: _, h, _ => by simp at h
  | _ :: _, [], h, _ => by simp at h
  | (w, m) :: ws, x :: xs, h, hk => ⟨hk 0 w m x rfl rfl, Und_of (by simpa using h) fun k w m x h1 h2 => hk (k + 1) w m x h1 h2⟩
theorem Und.at : ∀ {ws : Ws} {xs : List Nat}, Und ws xs → ∀ {k w m x : Nat}, ws[k]? = some (w, m) → xs[k]? = some x → x < m
  | [], [], _, k, w, m, x, h, _ => by simp at h
  | [], _ :: _, h, _, _, _, _, _, _ => h.elim
  | _ :: _, [], h, _, _, _, _, _, _ => h.elim
  | (w, m) :: ws, x :: xs, h, 0, _, _, _, h1, h2 => by cases h1; cases h2; exact h.1
  | (w, m) :: ws, x :: xs, h, k + 1, _, _, _, h1, h2 => Und.at h.2 h1 h2
theorem Sh.und {X : List Nat} (h : Sh X) (L : Lay) (f : Nat) : Und (wS L f) X := by
  refine Und_of (by rw [wS_len, h.len]) fun k w m x h1 h2 => ?_
  have hk : k < 48 := by rw [← h.len]; exact (List.getElem?_eq_some_iff.1 h2).1
  rw [wS_at hk] at h1
  by_cases hc : k < 32
  · rw [if_pos hc] at h1; cases h1; exact h.pt h2 hc
  · rw [if_neg hc] at h1; cases h1; exact h.cl h2 (by omega)
theorem Und.sh {X : List Nat} {L : Lay} {f : Nat} (h : Und (wS L f) X) : Sh X := by
  have hl := h.len
  rw [wS_len] at hl
  refine ⟨hl.symm, fun {p x} hx hp => ?_, fun {p x} hx hp => ?_⟩
  · exact h.at (k := p) (w := wPt L f (p / 2)) (m := 4294967296) (by rw [wS_at (by omega), if_pos hp]) hx
  · have hk : p < 48 := by rw [hl]; exact (List.getElem?_eq_some_iff.1 hx).1
    exact h.at (k := p) (w := wCl L f (p - 32)) (m := 65536) (by rw [wS_at hk, if_neg (by omega)]) hx
/-- a whole sheet through a hand -/
def thr {S : Type} (go : S → Nat → Nat → Nat × S) (L : Lay) (x0 : Nat) (X : List Nat) (s : S) : List Nat × S :=
  ((go s x0 L.fl.toNat).1 % 256 :: (run go (wS L ((go s x0 L.fl.toNat).1 % 256)) X (go s x0 L.fl.toNat).2).1, (run go (wS L ((go s x0 L.fl.toNat).1 % 256)) X (go s x0 L.fl.toNat).2).2)
theorem wrapN8 (x : Nat) : IntKind.u8.wrap (x : Int) = ((x % 256 : Nat) : Int) := by
  show (x : Int) % 256 = _
  omega
theorem wrapN16 (x : Nat) : IntKind.u16.wrap (x : Int) = ((x % 65536 : Nat) : Int) := by
  show (x : Int) % 65536 = _
  omega
theorem told_spec (w0 : World) (η : Heap) (L : Lay) (f : Nat) (hf : f < 256) (hty : L.ty = 6 ∨ L.ty = 7) :
    CallsT Tryd.prog 90 [L.val, .int .u8 (f : Int)] (St w0 η) fun v A' => v = .tuple #[.int .i64 (ptN L f : Int), .int .i64 (clN L f : Int)] ∧ A' = St w0 η := by
  have hp := (ptN_bd L f).2.2
  have hc := (clN_bd L f).2.2
  unfold ptsZ at hp
  unfold colZ at hc
  refine CallsT.body Tryd.func90 rfl rfl ?_
  simp only [Tryd.ntmps90, slotsOf, Nat.reduceAdd]
  refine TC_seq ?_
  refine TC_reg ?_
  refine TL_e rfl rfl rfl (rfl) (ET_box rfl rfl) ?_
  rintro _ _ ⟨b2, rfl, rfl⟩
  refine TL_q rfl rfl (QT_assign rfl rfl rfl) ?_
  refine TL_q rfl rfl (QT_assign rfl rfl rfl) ?_
  refine TL_nil ?_
  refine TX_then ?_
  refine TC_seq ?_
  refine TC_reg ?_
  refine TL_q rfl rfl (QT_assign rfl rfl rfl) ?_
  refine TL_q rfl rfl (QT_assign rfl rfl rfl) ?_
  refine TL_nil ?_
  refine TX_then ?_
  refine TC_seq ?_
  refine TC_seq ?_
  refine TC_reg ?_
  refine TL_q rfl rfl (QT_move rfl rfl rfl) ?_
  refine TL_q rfl rfl (QT_eql rfl rfl rfl rfl) ?_
  refine TL_nil ?_
  refine TX_then ?_
  first
    | refine TC_cond_dec rfl (fun h7 => ?_) (fun h7 => ?_)
    | refine TC_cond rfl (fun h7 => ?_) (fun h7 => ?_)
  ·
    refine TC_reg ?_
    refine TL_q rfl rfl (QT_assign rfl rfl rfl) ?_
    refine TL_q rfl rfl (QT_assign rfl rfl rfl) ?_
    refine TL_nil ?_
    refine TX_then ?_
    refine TC_seq ?_
    refine TC_reg ?_
    refine TL_q rfl rfl (QT_move rfl rfl rfl) ?_
    refine TL_q rfl rfl (QT_field rfl rfl YtlmbpdlobpcahaaDoorF.fld_27_0 rfl) ?_
    first
      | refine TL_q rfl rfl (QT_load 0 rfl rfl Tryd.underlying3 rfl rfl rfl (fun _ => rfl)) ?_
      | refine TL_q rfl rfl (QT_load 1 rfl rfl Tryd.underlying3 rfl rfl rfl (fun _ => rfl)) ?_
      | refine TL_q rfl rfl (QT_load 2 rfl rfl Tryd.underlying3 rfl rfl rfl (fun _ => rfl)) ?_
    refine TL_q rfl rfl (QT_sub rfl rfl rfl rfl (fun _ => ⟨by omega, by omega⟩)) ?_
    refine TL_q rfl rfl (QT_mul rfl rfl rfl rfl (fun _ => ⟨by omega, by omega⟩)) ?_
    refine TL_q rfl rfl (QT_add rfl rfl rfl rfl (fun _ => ⟨by omega, by omega⟩)) ?_
    refine TL_q rfl rfl (QT_move rfl rfl rfl) ?_
    refine TL_q rfl rfl (QT_assign rfl rfl rfl) ?_
    refine TL_q rfl rfl (QT_assign rfl rfl rfl) ?_
    refine TL_nil ?_
    refine TX_then ?_
    refine TC_ret ?_
    exact TX_ret (.inl rfl) (res2 rfl rfl rfl) ⟨_, ⟨by
      have e1 : (12 : Int) + 4 * (L.ty - 6) = (ptN L f : Int) := by rw [← hp]; rcases hty with h | h <;> simp [h, h7]
      have e2 : (4 : Int) = (clN L f : Int) := by rw [← hc]; rcases hty with h | h <;> simp [h, h7]
      rw [← e1, ← e2], rfl⟩, fun _ h => h.tail⟩
  ·
    refine TC_skip ?_
    refine TX_then ?_
    refine TC_seq ?_
    refine TC_reg ?_
    refine TL_q rfl rfl (QT_move rfl rfl rfl) ?_
    refine TL_q rfl rfl (QT_field rfl rfl YtlmbpdlobpcahaaDoorF.fld_27_0 rfl) ?_
    first
      | refine TL_q rfl rfl (QT_load 0 rfl rfl Tryd.underlying3 rfl rfl rfl (fun _ => rfl)) ?_
      | refine TL_q rfl rfl (QT_load 1 rfl rfl Tryd.underlying3 rfl rfl rfl (fun _ => rfl)) ?_
      | refine TL_q rfl rfl (QT_load 2 rfl rfl Tryd.underlying3 rfl rfl rfl (fun _ => rfl)) ?_
    refine TL_q rfl rfl (QT_sub rfl rfl rfl rfl (fun _ => ⟨by omega, by omega⟩)) ?_
    refine TL_q rfl rfl (QT_mul rfl rfl rfl rfl (fun _ => ⟨by omega, by omega⟩)) ?_
    refine TL_q rfl rfl (QT_add rfl rfl rfl rfl (fun _ => ⟨by omega, by omega⟩)) ?_
    refine TL_q rfl rfl (QT_move rfl rfl rfl) ?_
    refine TL_q rfl rfl (QT_assign rfl rfl rfl) ?_
    refine TL_q rfl rfl (QT_assign rfl rfl rfl) ?_
    refine TL_nil ?_
    refine TX_then ?_
    refine TC_ret ?_
    exact TX_ret (.inl rfl) (res2 rfl rfl rfl) ⟨_, ⟨by
      have h8 : ¬ f = 0 := by omega
      have e1 : (8 : Int) + 4 * (L.ty - 6) = (ptN L f : Int) := by rw [← hp]; rcases hty with h | h <;> simp [h, h8]
      have e2 : (2 : Int) = (clN L f : Int) := by rw [← hc]; rcases hty with h | h <;> simp [h, h8]
      rw [← e1, ← e2], rfl⟩, fun _ h => h.tail⟩
theorem within_spec (w0 : World) (A : World → Prop) (b : Bool) (m : Int) :
    CallsT Tryd.prog 91 [.bool b, .int .i64 m] A fun v A' => v = .int .i64 (if b = true then m else 0) ∧ A' = A := by
  refine CallsT.body Tryd.func91 rfl rfl ?_
  simp only [Tryd.ntmps91, slotsOf, Nat.reduceAdd]
  refine TC_seq ?_
  refine TC_reg ?_
  refine TL_q rfl rfl (QT_assign rfl rfl rfl) ?_
  refine TL_nil ?_
  refine TX_then ?_
  refine TC_seq ?_
  refine TC_seq ?_
  refine TC_reg ?_
  refine TL_q rfl rfl (QT_move rfl rfl rfl) ?_
  refine TL_nil ?_
  refine TX_then ?_
  first
    | refine TC_cond_dec rfl (fun h5 => ?_) (fun h5 => ?_)
    | refine TC_cond rfl (fun h5 => ?_) (fun h5 => ?_)
  ·
    refine TC_seq ?_
    refine TC_reg ?_
    refine TL_q rfl rfl (QT_move rfl rfl rfl) ?_
    refine TL_q rfl rfl (QT_assign rfl rfl rfl) ?_
    refine TL_nil ?_
    refine TX_then ?_
    refine TC_ret ?_
    refine TX_then_ret ?_
    exact TX_ret (.inl rfl) (res1 rfl rfl) ⟨_, ⟨by rw [if_pos h5], rfl⟩, fun _ h => h⟩
  ·
    refine TC_skip ?_
    refine TX_then ?_
    refine TC_seq ?_
    refine TC_reg ?_
    refine TL_q rfl rfl (QT_assign rfl rfl rfl) ?_
    refine TL_nil ?_
    refine TX_then ?_
    refine TC_ret ?_
    exact TX_ret (.inl rfl) (res1 rfl rfl) ⟨_, ⟨by rw [if_neg (by rw [h5]; decide)], rfl⟩, fun _ h => h⟩
section
variable {w0 : World} {S : Type} {t : TypeId} {r : Value} {f : FuncId} {go : S → Nat → Nat → Nat × S} {sz : S → Nat} {Rep : S → Heap → Prop} {Ok : Heap → Prop}
theorem bent_uint8 (h : HandOk w0 t r f go sz Rep Ok) (X η K : Heap) (s : S) (pb : Nat) (tt : TypeId) (cells : List Value) (off v w : Nat) (hO : Ok η) (hK : Rep s K) (hs : sz s ≤ 100000) (hc : cells[off]? = some (.int .u8 (v : Int))) (hv : v < 256) (hw : w ≤ 32) :
    CallsT Tryd.prog 89 [.iface t r, .pointer (some ⟨pb, off, none⟩), .int .i64 (w : Int)] (St w0 ((pb, tt, cells) :: (X ++ (K ++ η)))) fun z A' => z = .tuple #[] ∧ ∃ K', Rep (go s v w).2 K' ∧ A' = St w0 ((pb, tt, setAt cells off [.int .u8 (((go s v w).1 % 256 : Nat) : Int)]) :: (X ++ (K' ++ η))) := by
  have hlt := cells_lt hc
  refine CallsT.body Tryd.func89 rfl rfl ?_
  simp only [Tryd.ntmps89, slotsOf, Nat.reduceAdd]
  refine TC_seq ?_
  refine TC_reg ?_
  refine TL_q rfl rfl (QT_move rfl rfl rfl) ?_
  refine TL_q rfl rfl (QT_nilCheck rfl rfl rfl) ?_
  refine TL_q rfl rfl (QT_load 0 rfl rfl Tryd.underlying5 rfl rfl rfl (fun _ => hc)) ?_
  refine TL_q rfl rfl (QT_convN rfl rfl Tryd.underlying5 Tryd.underlying62 rfl (IntWalk.u32_in _ ⟨by omega, by omega⟩)) ?_
  refine TL_e rfl rfl rfl (rfl) (ET_alloc rfl YtlmbpdlobpcahaaDoorF.zero_62) ?_
  rintro _ _ ⟨b6, rfl, rfl⟩
  first
    | refine TL_e0 rfl rfl (rfl) (ET_store 0 rfl rfl rfl rfl YtlmbpdlobpcahaaDoorF.sz_62 rfl rfl rfl) ?_
    | refine TL_e0 rfl rfl (rfl) (ET_store 1 rfl rfl rfl rfl YtlmbpdlobpcahaaDoorF.sz_62 rfl rfl rfl) ?_
    | refine TL_e0 rfl rfl (rfl) (ET_store 2 rfl rfl rfl rfl YtlmbpdlobpcahaaDoorF.sz_62 rfl rfl rfl) ?_
  rintro _ _ ⟨rfl, rfl⟩
  refine TL_nil ?_
  refine TX_then ?_
  refine TC_seq ?_
  refine TC_reg ?_
  refine TL_q rfl rfl (QT_move rfl rfl rfl) ?_
  refine TL_q rfl rfl (QT_move rfl rfl rfl) ?_
  refine TL_e rfl rfl rfl (rfl) (ET_goes (Goes.invoke rfl rfl h.met h.cal rfl) (h.deep ((pb, tt, cells) :: X) η K s b6 62 [.int .u32 (v : Int)] 0 v w hO hK hs rfl (by omega) hw)) ?_
  rintro _ _ ⟨rfl, K', hK', rfl⟩
  refine TL_nil ?_
  refine TX_then ?_
  refine TC_reg ?_
  refine TL_q rfl rfl (QT_move rfl rfl rfl) ?_
  first
    | refine TL_q rfl rfl (QT_load 0 rfl rfl Tryd.underlying62 rfl rfl rfl (fun _ => rfl)) ?_
    | refine TL_q rfl rfl (QT_load 1 rfl rfl Tryd.underlying62 rfl rfl rfl (fun _ => rfl)) ?_
    | refine TL_q rfl rfl (QT_load 2 rfl rfl Tryd.underlying62 rfl rfl rfl (fun _ => rfl)) ?_
  refine TL_q rfl rfl (QT_convN rfl rfl Tryd.underlying62 Tryd.underlying5 rfl (wrapN8 _)) ?_
  refine TL_q rfl rfl (QT_nilCheck rfl rfl rfl) ?_
  refine TL_e0 rfl rfl (rfl) (ET_store (vs := [.int .u8 (((go s v w).1 % 256 : Nat) : Int)]) 1 rfl rfl rfl rfl YtlmbpdlobpcahaaDoorF.sz_5 rfl rfl hlt) ?_
  rintro _ _ ⟨rfl, rfl⟩
  refine TL_nil ?_
  exact TX_ret (.inr rfl) (res0 rfl) ⟨_, ⟨rfl, K', hK', rfl⟩, fun _ h => h.tail⟩
theorem bent_uint16 (h : HandOk w0 t r f go sz Rep Ok) (X η K : Heap) (s : S) (pb : Nat) (tt : TypeId) (cells : List Value) (off v w : Nat) (hO : Ok η) (hK : Rep s K) (hs : sz s ≤ 100000) (hc : cells[off]? = some (.int .u16 (v : Int))) (hv : v < 65536) (hw : w ≤ 32) :
    CallsT Tryd.prog 92 [.iface t r, .pointer (some ⟨pb, off, none⟩), .int .i64 (w : Int)] (St w0 ((pb, tt, cells) :: (X ++ (K ++ η)))) fun z A' => z = .tuple #[] ∧ ∃ K', Rep (go s v w).2 K' ∧ A' = St w0 ((pb, tt, setAt cells off [.int .u16 (((go s v w).1 % 65536 : Nat) : Int)]) :: (X ++ (K' ++ η))) := by
  have hlt := cells_lt hc
  refine CallsT.body Tryd.func92 rfl rfl ?_
  simp only [Tryd.ntmps92, slotsOf, Nat.reduceAdd]
  refine TC_seq ?_
  refine TC_reg ?_
  refine TL_q rfl rfl (QT_move rfl rfl rfl) ?_
  refine TL_q rfl rfl (QT_nilCheck rfl rfl rfl) ?_
  refine TL_q rfl rfl (QT_load 0 rfl rfl Tryd.underlying66 rfl rfl rfl (fun _ => hc)) ?_
  refine TL_q rfl rfl (QT_convN rfl rfl Tryd.underlying66 Tryd.underlying62 rfl (IntWalk.u32_in _ ⟨by omega, by omega⟩)) ?_
  refine TL_e rfl rfl rfl (rfl) (ET_alloc rfl YtlmbpdlobpcahaaDoorF.zero_62) ?_
  rintro _ _ ⟨b6, rfl, rfl⟩
  first
    | refine TL_e0 rfl rfl (rfl) (ET_store 0 rfl rfl rfl rfl YtlmbpdlobpcahaaDoorF.sz_62 rfl rfl rfl) ?_
    | refine TL_e0 rfl rfl (rfl) (ET_store 1 rfl rfl rfl rfl YtlmbpdlobpcahaaDoorF.sz_62 rfl rfl rfl) ?_
    | refine TL_e0 rfl rfl (rfl) (ET_store 2 rfl rfl rfl rfl YtlmbpdlobpcahaaDoorF.sz_62 rfl rfl rfl) ?_
  rintro _ _ ⟨rfl, rfl⟩
  refine TL_nil ?_
  refine TX_then ?_
  refine TC_seq ?_
  refine TC_reg ?_
  refine TL_q rfl rfl (QT_move rfl rfl rfl) ?_
  refine TL_q rfl rfl (QT_move rfl rfl rfl) ?_
  refine TL_e rfl rfl rfl (rfl) (ET_goes (Goes.invoke rfl rfl h.met h.cal rfl) (h.deep ((pb, tt, cells) :: X) η K s b6 62 [.int .u32 (v : Int)] 0 v w hO hK hs rfl (by omega) hw)) ?_
  rintro _ _ ⟨rfl, K', hK', rfl⟩
  refine TL_nil ?_
  refine TX_then ?_
  refine TC_reg ?_
  refine TL_q rfl rfl (QT_move rfl rfl rfl) ?_
  first
    | refine TL_q rfl rfl (QT_load 0 rfl rfl Tryd.underlying62 rfl rfl rfl (fun _ => rfl)) ?_
    | refine TL_q rfl rfl (QT_load 1 rfl rfl Tryd.underlying62 rfl rfl rfl (fun _ => rfl)) ?_
    | refine TL_q rfl rfl (QT_load 2 rfl rfl Tryd.underlying62 rfl rfl rfl (fun _ => rfl)) ?_
  refine TL_q rfl rfl (QT_convN rfl rfl Tryd.underlying62 Tryd.underlying66 rfl (wrapN16 _)) ?_
  refine TL_q rfl rfl (QT_nilCheck rfl rfl rfl) ?_
  refine TL_e0 rfl rfl (rfl) (ET_store (vs := [.int .u16 (((go s v w).1 % 65536 : Nat) : Int)]) 1 rfl rfl rfl rfl YtlmbpdlobpcahaaDoorF.sz_66 rfl rfl hlt) ?_
  rintro _ _ ⟨rfl, rfl⟩
  refine TL_nil ?_
  exact TX_ret (.inr rfl) (res0 rfl) ⟨_, ⟨rfl, K', hK', rfl⟩, fun _ h => h.tail⟩
end
end Go.Proofs.YtlmbpdlobpcahaaDoor

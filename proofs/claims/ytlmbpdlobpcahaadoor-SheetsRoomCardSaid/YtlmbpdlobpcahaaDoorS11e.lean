/- SHEETS OF BYTES, and bytes of sheets, by definition. Plain. -/
import Derived.Test.YtlmbpdlobpcahaaDoorS11d
namespace Go.Proofs.YtlmbpdlobpcahaaDoor
open Go Go.Gx
set_option maxRecDepth 100000
theorem sum_if (c : Nat → Bool) (a : Nat) : ∀ l : List Nat, (l.map fun p => if c p = true then a else 0).sum = (l.filter c).length * a
  | [] => by simp
  | p :: l => by
    rw [List.map_cons, List.sum_cons, sum_if c a l, List.filter_cons]
    by_cases h : c p = true
    · rw [if_pos h, if_pos h, List.length_cons, Nat.add_mul]; omega
    · rw [if_neg h, if_neg h]; omega
theorem cnt_pt : ∀ n : Fin 17, ((List.range 32).filter fun p => decide (p / 2 < n.1)).length = 2 * n.1 := by decide
theorem cnt_cl : ∀ c k : Fin 5, ((List.range 16).filter fun j => decide (j / 4 < c.1 ∧ j % 4 < k.1)).length = c.1 * k.1 := by decide
theorem range48 : List.range 48 = List.range 32 ++ (List.range 16).map (32 + ·) := by decide
theorem cnt_pt' {n : Nat} (h : n < 17) : ((List.range 32).filter fun p => decide (p / 2 < n)).length = 2 * n := cnt_pt ⟨n, h⟩
theorem cnt_cl' {c k : Nat} (h : c < 5) (hk : k < 5) : ((List.range 16).filter fun j => decide (j / 4 < c ∧ j % 4 < k)).length = c * k := cnt_cl ⟨c, h⟩ ⟨k, hk⟩
theorem sum_pt (l : List Nat) (n a : Nat) : (l.map fun p => if p / 2 < n then a else 0).sum = (l.filter fun p => decide (p / 2 < n)).length * a := by
  have := sum_if (fun p => decide (p / 2 < n)) a l
  simpa only [decide_eq_true_eq] using this
theorem sum_cl (l : List Nat) (c k a : Nat) : (l.map fun j => if j / 4 < c ∧ j % 4 < k then a else 0).sum = (l.filter fun j => decide (j / 4 < c ∧ j % 4 < k)).length * a := by
  have := sum_if (fun j => decide (j / 4 < c ∧ j % 4 < k)) a l
  simpa only [decide_eq_true_eq] using this
theorem tot_split (u v : Nat → Nat) : tot ((List.range 48).map fun p => if p < 32 then (u (p / 2), 4294967296) else (v (p - 32), 65536)) = ((List.range 32).map fun p => u (p / 2)).sum + ((List.range 16).map v).sum := by
  unfold tot
  rw [range48, List.map_append, List.map_append, List.sum_append]
  refine congr (congrArg HAdd.hAdd (congrArg List.sum ?_)) (congrArg List.sum ?_)
  · rw [List.map_map]
    exact List.map_congr_left fun p hp => by
      have : p < 32 := List.mem_range.1 hp
      simp [this]
  · rw [List.map_map, List.map_map]
    exact List.map_congr_left fun p hp => by
      have : ¬ 32 + p < 32 := by omega
      simp [this]
theorem tot_wS {L : Lay} (h : okB L = true) (f : Nat) : tot (wS L f) = 2 * ptN L f * L.co.toNat + clN L f * L.cs.toNat * L.cm.toNat := by
  have hp := ptN_bd L f
  have hc := clN_bd L f
  have hs := (okB_bounds h).2.2.1
  have e1 := (sum_pt (List.range 32) (ptN L f) L.co.toNat).trans (congrArg (· * L.co.toNat) (cnt_pt' (by omega)))
  have e2 := (sum_cl (List.range 16) (clN L f) L.cs.toNat L.cm.toNat).trans (congrArg (· * L.cm.toNat) (cnt_cl' (by omega) (by omega)))
  refine (tot_split (fun i => wPt L f i) (fun j => wCl L f j)).trans ?_
  unfold wPt wCl
  rw [e1, e2]
/-- a record's numbers: its flag, and the others -/
def fS (L : Lay) (f : Nat) : Ws := (L.fl.toNat, 256) :: wS L f
def szN (L : Lay) (f : Nat) : Nat := (tot (fS L f) + 7) / 8
theorem fS_le {L : Lay} (h : okB L = true) (hty : L.ty = 6 ∨ L.ty = 7) (f : Nat) : ∀ p ∈ fS L f, p.1 ≤ 32 := by
  intro p hp
  have := (okB_bounds h).2.2.2.2.2 (by omega)
  rcases List.mem_cons.1 hp with rfl | hp
  · show L.fl.toNat ≤ 32; omega
  · exact wS_le h f p hp
theorem fS_mm {L : Lay} (h : okB L = true) (hty : L.ty = 6 ∨ L.ty = 7) (f : Nat) : ∀ p ∈ fS L f, 2 ^ p.1 ≤ p.2 := by
  intro p hp
  have := (okB_bounds h).2.2.2.2.2 (by omega)
  rcases List.mem_cons.1 hp with rfl | hp
  · exact Nat.le_trans (Nat.pow_le_pow_right (by decide) (show L.fl.toNat ≤ 8 by omega)) (show 2 ^ 8 ≤ 256 by decide)
  · exact wS_mm h f p hp
theorem bits_eq {L : Lay} (h : okB L = true) (hty : L.ty = 6 ∨ L.ty = 7) (f : Nat) : bitsZ L (f : Int) = (tot (fS L f) : Int) := by
  have hp := (ptN_bd L f).2.2
  have hc := (clN_bd L f).2.2
  have hb := okB_bounds h
  have hfl := hb.2.2.2.2.2 (by omega)
  have e1 : L.fl = (L.fl.toNat : Int) := by omega
  have e2 : L.co = (L.co.toNat : Int) := by omega
  have e3 : L.cm = (L.cm.toNat : Int) := by omega
  have e4 : L.cs = (L.cs.toNat : Int) := by omega
  rw [fS, tot_cons, tot_wS h f]
  unfold bitsZ flb
  rw [if_neg (by omega), hp, hc]
  show L.fl + _ = _
  rw [Int.natCast_add, Int.natCast_add, Int.natCast_mul, Int.natCast_mul, Int.natCast_mul, Int.natCast_mul, ← e1, ← e2, ← e3, ← e4]
  rfl
theorem size_eq {L : Lay} (h : okB L = true) (hty : L.ty = 6 ∨ L.ty = 7) (f : Nat) : sizeZ L (f : Int) = (szN L f : Int) := by
  unfold sizeZ szN
  rw [if_pos h, bits_eq h hty]
  omega
theorem tot_le {k : Nat} : ∀ {ws : Ws}, (∀ p ∈ ws, p.1 ≤ k) → tot ws ≤ k * ws.length
  | [], _ => by simp [tot]
  | p :: ws, h => by
    rw [tot_cons, List.length_cons, Nat.mul_add]
    have := h p (List.mem_cons_self ..)
    have := tot_le fun q hq => h q (List.mem_cons_of_mem _ hq)
    omega
theorem fS_tot {L : Lay} (h : okB L = true) (hty : L.ty = 6 ∨ L.ty = 7) (f : Nat) : L.fl.toNat ≤ tot (fS L f) ∧ tot (fS L f) ≤ 1568 ∧ 2 ≤ tot (fS L f) ∧ L.fl.toNat ≤ 8 := by
  have h1 := tot_le (fS_le h hty f)
  have h2 : (fS L f).length = 49 := by rw [fS, List.length_cons, wS_len]
  have hfl := (okB_bounds h).2.2.2.2.2 (by omega)
  rw [h2] at h1
  have h3 : tot (fS L f) = L.fl.toNat + tot (wS L f) := tot_cons _ _
  omega
theorem szN_pos {L : Lay} (h : okB L = true) (hty : L.ty = 6 ∨ L.ty = 7) (f : Nat) : 1 ≤ szN L f ∧ szN L f ≤ 196 := by
  have := fS_tot h hty f
  unfold szN; omega
def zer : List Nat := List.replicate 48 0
theorem zer_sh : Sh zer := ⟨rfl, fun {p x} h _ => by
    have : x = 0 := List.eq_of_mem_replicate (List.mem_of_getElem? h)
    omega, fun {p x} h _ => by
    have : x = 0 := List.eq_of_mem_replicate (List.mem_of_getElem? h)
    omega⟩
/-- a sheet's numbers -/
def ShF (ys : List Nat) : Prop := ∃ x0 X, ys = x0 :: X ∧ x0 < 256 ∧ Sh X
def flB (L : Lay) (l : List Bool) : Nat := num (l.take L.fl.toNat) % 256
def dcS (L : Lay) (l : List Bool) : List Nat := dec (fS L (flB L l)) l
theorem dcS_eq (L : Lay) (l : List Bool) : dcS L l = flB L l :: dec (wS L (flB L l)) (l.drop L.fl.toNat) := rfl
theorem dcS_shf (L : Lay) (l : List Bool) : ShF (dcS L l) := ⟨_, _, dcS_eq L l, Nat.mod_lt _ (by decide), Und.sh (L := L) (f := flB L l) (dec_und _ (wS_m L _))⟩
/-- a whole sheet read -/
theorem thr_R_ok {L : Lay} (h : okB L = true) (hty : L.ty = 6 ∨ L.ty = 7) {bs : List Nat} (hl : tot (fS L (flB L (byB bs))) ≤ 8 * bs.length) :
    thr (goR bs) L 0 zer (0, 0) = (dcS L (byB bs), (tot (fS L (flB L (byB bs))), 0)) := by
  have ht := fS_tot h hty (flB L (byB bs))
  have h3 : tot (fS L (flB L (byB bs))) = L.fl.toNat + tot (wS L (flB L (byB bs))) := tot_cons _ _
  have e0 : goR bs ((0 : Nat), (0 : Int)) 0 L.fl.toNat = (num ((byB bs).take L.fl.toNat), (L.fl.toNat, 0)) := by
    rw [goR_ok (by omega) (by omega), List.drop_zero, Nat.zero_add]
  have e1 := run_goR_ok (bs := bs) (a := L.fl.toNat) (wS_le h (flB L (byB bs))) (by omega) (show (wS L (flB L (byB bs))).length = zer.length by rw [wS_len]; rfl)
  unfold thr
  rw [e0]
  show (flB L (byB bs) :: (run (goR bs) (wS L (flB L (byB bs))) zer (L.fl.toNat, 0)).1, (run (goR bs) (wS L (flB L (byB bs))) zer (L.fl.toNat, 0)).2) = _
  rw [e1, dcS_eq, h3]
theorem thr_R_bad {L : Lay} (h : okB L = true) (hty : L.ty = 6 ∨ L.ty = 7) {bs : List Nat} (h0 : bs ≠ []) (hl : 8 * bs.length < tot (fS L (flB L (byB bs)))) :
    (thr (goR bs) L 0 zer (0, 0)).2.2 ≠ 0 := by
  have ht := fS_tot h hty (flB L (byB bs))
  have hb : 0 < bs.length := List.length_pos_iff.2 h0
  have h3 : tot (fS L (flB L (byB bs))) = L.fl.toNat + tot (wS L (flB L (byB bs))) := tot_cons _ _
  have e0 : goR bs ((0 : Nat), (0 : Int)) 0 L.fl.toNat = (num ((byB bs).take L.fl.toNat), (L.fl.toNat, 0)) := by
    rw [goR_ok (by omega) (by omega), List.drop_zero, Nat.zero_add]
  unfold thr
  rw [e0]
  show (run (goR bs) (wS L (flB L (byB bs))) zer (L.fl.toNat, 0)).2.2 ≠ 0
  exact run_goR_bad (wS_le h _) (by omega) (by omega) (by rw [wS_len]; rfl)
/-- a whole sheet laid -/
theorem thr_L {L : Lay} (h : okB L = true) (hty : L.ty = 6 ∨ L.ty = 7) {x0 : Nat} {X : List Nat} (h0 : x0 < 256) (hX : Sh X) :
    (thr goL L x0 X ([], 0)).1 = x0 :: X ∧ (if fitB (fS L x0) (x0 :: X) = true then (thr goL L x0 X ([], 0)).2 = (enc (fS L x0) (x0 :: X), 0) else (thr goL L x0 X ([], 0)).2.2 = 1) := by
  have ht := fS_tot h hty x0
  have h3 : tot (fS L x0) = L.fl.toNat + tot (wS L x0) := tot_cons _ _
  have em : (goL (([] : List Bool), (0 : Int)) x0 L.fl.toNat).1 % 256 = x0 := Nat.mod_eq_of_lt h0
  have hlen : (wS L x0).length = X.length := by rw [wS_len, hX.len]
  constructor
  · unfold thr; rw [em, run_goL_vals (hX.und L x0)]
  · unfold thr
    rw [em]
    by_cases hc : x0 < 2 ^ L.fl.toNat
    · rw [goL_ok (by omega) hc (by show 0 + _ ≤ _; omega), List.nil_append]
      have hbl : (bitsN L.fl.toNat x0).length = L.fl.toNat := bitsN_len ..
      have ef : fitB (fS L x0) (x0 :: X) = fitB (wS L x0) X := by rw [fS, fitB]; simp [hc]
      rw [ef]
      split
      · rename_i hf
        exact run_goL_ok (wS_le h _) (by omega) hlen hf
      · rename_i hf
        exact run_goL_bad (wS_le h _) (by omega) hlen (by simpa using hf)
    · have ef : fitB (fS L x0) (x0 :: X) = false := by rw [fS, fitB]; simp [hc]
      rw [ef, if_neg (by decide)]
      have e : (goL (([] : List Bool), (0 : Int)) x0 L.fl.toNat).2 = (putL [] x0 L.fl.toNat, 1) := by
        unfold goL; rw [if_pos rfl, putE_one hc]
      rw [e]
      show (run goL (wS L x0) X (putL [] x0 L.fl.toNat, 1)).2.2 = 1
      rw [run_goL_err (show (1 : Int) ≠ 0 by decide)]
/-- sheets of bytes -/
def gets (L : Lay) : Nat → List Nat → Option (List (List Nat))
  | 0, bs => if bs = [] then some [] else none
  | k + 1, bs => if bs = [] then some [] else
      if 8 * bs.length < tot (fS L (flB L (byB bs))) then none else (gets L k (bs.drop (szN L (flB L (byB bs))))).map (dcS L (byB bs) :: ·)
theorem gets_fuel {L : Lay} (h : okB L = true) (hty : L.ty = 6 ∨ L.ty = 7) : ∀ (k m : Nat) (bs : List Nat), bs.length ≤ k → bs.length ≤ m → gets L k bs = gets L m bs
  | 0, 0, _, _, _ => rfl
  | 0, m + 1, bs, hk, _ => by
    obtain rfl : bs = [] := List.length_eq_zero_iff.1 (by omega)
    simp [gets]
  | k + 1, 0, bs, _, hm => by
    obtain rfl : bs = [] := List.length_eq_zero_iff.1 (by omega)
    simp [gets]
  | k + 1, m + 1, bs, hk, hm => by
    rw [gets, gets]
    have h1 := (szN_pos h hty (flB L (byB bs))).1
    by_cases h0 : bs = []
    · rw [if_pos h0, if_pos h0]
    · have : 0 < bs.length := List.length_pos_iff.2 h0
      rw [if_neg h0, if_neg h0, gets_fuel h hty k m _ (by rw [List.length_drop]; omega) (by rw [List.length_drop]; omega)]
def getS (L : Lay) (bs : List Nat) : Option (List (List Nat)) := gets L bs.length bs
theorem getS_nil (L : Lay) : getS L [] = some [] := rfl
theorem getS_cons {L : Lay} (h : okB L = true) (hty : L.ty = 6 ∨ L.ty = 7) {bs : List Nat} (h0 : bs ≠ []) :
    getS L bs = if 8 * bs.length < tot (fS L (flB L (byB bs))) then none else (getS L (bs.drop (szN L (flB L (byB bs))))).map (dcS L (byB bs) :: ·) := by
  unfold getS
  have hb : 0 < bs.length := List.length_pos_iff.2 h0
  obtain ⟨k, hk⟩ : ∃ k, bs.length = k + 1 := ⟨bs.length - 1, by omega⟩
  have h1 := (szN_pos h hty (flB L (byB bs))).1
  rw [gets_fuel h hty (bs.drop (szN L (flB L (byB bs)))).length k _ (Nat.le_refl _) (by rw [List.length_drop]; omega)]
  rw [show gets L bs.length bs = gets L (k + 1) bs by rw [hk], gets, if_neg h0]
def errG (L : Lay) (bs : List Nat) : Int := if okB L = true ∧ 6 ≤ L.ty then (if 65536 < bs.length then 3 else match getS L bs with | none => 5 | some _ => 0) else 4
def outG (L : Lay) (bs : List Nat) : List (List Nat) := if errG L bs = 0 then (getS L bs).getD [] else []
theorem ty67 {L : Lay} (h : okB L = true ∧ 6 ≤ L.ty) : L.ty = 6 ∨ L.ty = 7 := by
  have := (okB_bounds h.1).2.2.2.1
  omega
theorem errG_ok {L : Lay} {bs : List Nat} (h : okB L = true ∧ 6 ≤ L.ty) (hl : ¬ 65536 < bs.length) {ys : List (List Nat)} (hy : getS L bs = some ys) : errG L bs = 0 ∧ outG L bs = ys := by
  have e : errG L bs = 0 := by unfold errG; rw [if_pos h, if_neg hl, hy]
  exact ⟨e, by unfold outG; rw [if_pos e, hy]; rfl⟩
theorem errG_none {L : Lay} {bs : List Nat} (h : okB L = true ∧ 6 ≤ L.ty) (hl : ¬ 65536 < bs.length) (hy : getS L bs = none) : errG L bs = 5 := by
  unfold errG; rw [if_pos h, if_neg hl, hy]
theorem outG_bad {L : Lay} {bs : List Nat} (h : errG L bs ≠ 0) : outG L bs = [] := by unfold outG; rw [if_neg h]
theorem gets_shf {L : Lay} : ∀ (k : Nat) (bs : List Nat) (ys : List (List Nat)), gets L k bs = some ys → ∀ y ∈ ys, ShF y
  | 0, bs, ys, h, y, hy => by
    unfold gets at h
    split at h
    · cases h; exact absurd hy List.not_mem_nil
    · cases h
  | k + 1, bs, ys, h, y, hy => by
    rw [gets] at h
    split at h
    · cases h; exact absurd hy List.not_mem_nil
    · split at h
      · cases h
      · obtain ⟨zs, hz, rfl⟩ := Option.map_eq_some_iff.1 h
        rcases List.mem_cons.1 hy with rfl | hy
        · exact dcS_shf ..
        · exact gets_shf k _ zs hz y hy
theorem outG_shf {L : Lay} {bs : List Nat} : ∀ y ∈ outG L bs, ShF y := by
  intro y hy
  unfold outG at hy
  split at hy
  · cases hg : getS L bs with
    | none => rw [hg] at hy; exact absurd hy List.not_mem_nil
    | some ys => rw [hg] at hy; exact gets_shf _ _ _ hg y hy
  · exact absurd hy List.not_mem_nil
theorem ShF.len {y : List Nat} (h : ShF y) : y.length = 49 := by
  obtain ⟨x0, X, rfl, _, hX⟩ := h
  rw [List.length_cons, hX.len]
theorem zip_ints : ∀ {ks : List IntKind} {xs : List Nat}, ks.length = xs.length → (∀ (p : Nat) (k : IntKind) (x : Nat), ks[p]? = some k → xs[p]? = some x → (Lit.int k (x : Int)).wf = true) → Ints ks (List.zipWith (fun (k : IntKind) (x : Nat) => Value.int k (x : Int)) ks xs)
  | [], [], _, _ => .nil
  | [], _ :: _, h, _ => by simp at h
  | _ :: _, [], h, _ => by simp at h
  | k :: ks, x :: xs, h, hw => .cons (hw 0 k x rfl rfl) (zip_ints (by simpa using h) fun p k x h1 h2 => hw (p + 1) k x h1 h2)
theorem shV_ints {y : List Nat} (h : ShF y) : Ints sheetK (shV y) := by
  have hl := h.len
  obtain ⟨x0, X, rfl, h0, hX⟩ := h
  refine zip_ints (by rw [sheetK_len, hl]) fun p k x hk hv => ?_
  have hp : p < 49 := by rw [← sheetK_len]; exact (List.getElem?_eq_some_iff.1 hk).1
  rw [sheetK_at hp] at hk
  cases hk
  unfold skK
  cases p with
  | zero =>
    cases hv
    have h1 : IntKind.u8.min = 0 := rfl
    have h2 : IntKind.u8.max = 255 := rfl
    simp only [if_pos, Lit.wf, Bool.and_eq_true, decide_eq_true_eq]
    omega
  | succ p =>
    rw [List.getElem?_cons_succ] at hv
    rw [if_neg (by omega)]
    by_cases hc : p + 1 < 33
    · have := hX.pt hv (by omega)
      have h1 : IntKind.u32.min = 0 := rfl
      have h2 : IntKind.u32.max = 4294967295 := rfl
      rw [if_pos hc]
      simp only [Lit.wf, Bool.and_eq_true, decide_eq_true_eq]
      omega
    · have := hX.cl hv (by omega)
      have h1 : IntKind.u16.min = 0 := rfl
      have h2 : IntKind.u16.max = 65535 := rfl
      rw [if_neg hc]
      simp only [Lit.wf, Bool.and_eq_true, decide_eq_true_eq]
      omega
end Go.Proofs.YtlmbpdlobpcahaaDoor

/- A WHOLE SHEET through a hand. SHEETS OF BYTES, and bytes of sheets, by definition. Plain. SHEETS OF BYTES: the walk. BYTES OF SHEETS: by definition, and the walk. THE DOCUMENT's CHECK, and its ROOM. THE DOCUMENT's SHEETS OF BYTES: the walk. THE DOCUMENT's BYTES OF SHEETS: the walk. SHEETS AND BYTES: what is put is got, and back. Plain. THE CHAPTER's EXAMPLES. WHAT THE ROWS OF THE SHEETS ARE OPENED BY: the sets of numbers of bits; a parameter of bytes, of sheets. (the book's Apart stands in a later text) THE LAWS OF THE SHEETS that ask the document's answer. THE LAW: bytes that are got are put as bytes that are got as the same. TRIANGLES OF VERTICES: vertices as lists of cells; a triangle without flags; copies. TRIANGLES OF VERTICES OF TYPE 4: what the program's strip answers. TRIANGLES OF VERTICES OF TYPE 5: rows of the program, cells of the document. TRIANGLES OF VERTICES OF TYPE 5: the document's cells. TRIANGLES OF VERTICES: the program's answer, and the document's. -/
import Derived.Test.YtjdaglmkljbfkaaGreatDoorME04
namespace Go.Proofs.YtjdaglmkljbfkaaGreatDoor
open Go Go.Gx Go.RowKit
set_option maxRecDepth 100000
section
variable {w0 : Base} {S : Type} {t : TypeId} {r : Value} {f : FuncId} {go : S → Nat → Nat → Nat × S} {sz : S → Nat} {Rep : S → Heap → Prop} {Ok : Heap → Prop}
theorem run_grow (hg : ∀ s v w, sz (go s v w).2 ≤ sz s + w) : ∀ (ws : Ws) (xs : List Nat) (s : S), (∀ p ∈ ws, p.1 ≤ 32) → sz (run go ws xs s).2 ≤ sz s + 32 * ws.length
 | [], _, s, _ => by unfold run; exact Nat.le_add_right ..
 | _ :: _, [], s, _ => by unfold run; exact Nat.le_add_right ..
 | (w, m) :: ws, x :: xs, s, h => by
  rw [run]
  have h1 := hg s x w
  have h2 := run_grow hg ws xs (go s x w).2 fun p hp => h p (List.mem_cons_of_mem _ hp)
  have h3 : w ≤ 32 := h _ (List.mem_cons_self ..)
  rw [List.length_cons]
  show sz (run go ws xs (go s x w).2).2 ≤ _
  omega
/-- when k of the numbers behind the flag are through -/
def rk (go : S → Nat → Nat → Nat × S) (L : Lay) (fl : Nat) (X : List Nat) (s : S) (k : Nat) : List Nat × S := run go ((wS L fl).take k) (X.take k) s
def cellsK (go : S → Nat → Nat → Nat × S) (L : Lay) (fl : Nat) (X : List Nat) (s : S) (k : Nat) : List Value := shV (fl :: ((rk go L fl X s k).1 ++ X.drop k))
theorem rk_len {L : Lay} {fl k : Nat} {X : List Nat} {s : S} (h : X.length = 48) (hk : k ≤ 48) : (rk go L fl X s k).1.length = k := by
 rw [rk, run_len (by rw [List.length_take, List.length_take, wS_len, h]), List.length_take, h]; omega
theorem rk_sz (hg : ∀ s v w, sz (go s v w).2 ≤ sz s + w) {L : Lay} (hk : okB L = true) (fl k : Nat) (X : List Nat) (s : S) : sz (rk go L fl X s k).2 ≤ sz s + 1536 := by
 have := run_grow hg ((wS L fl).take k) (X.take k) s fun p hp => wS_le hk fl p (List.mem_of_mem_take hp)
 have h2 : ((wS L fl).take k).length ≤ 48 := by rw [List.length_take, wS_len]; omega
 unfold rk
 omega
theorem rk_zero {L : Lay} {fl : Nat} {X : List Nat} {s : S} : rk go L fl X s 0 = ([], s) := by unfold rk; rw [List.take_zero]; rfl
theorem cellsK_zero {L : Lay} {fl : Nat} {X : List Nat} {s : S} : cellsK go L fl X s 0 = shV (fl :: X) := by unfold cellsK; rw [rk_zero]; rfl
theorem cellsK_all {L : Lay} {fl : Nat} {X : List Nat} {s : S} (h : X.length = 48) : cellsK go L fl X s 48 = shV (fl :: (run go (wS L fl) X s).1) := by
 unfold cellsK rk
 rw [List.take_of_length_le (by rw [wS_len]; exact Nat.le_refl _), List.take_of_length_le (by omega), List.drop_eq_nil_of_le (by omega), List.append_nil]
theorem rk_all {L : Lay} {fl : Nat} {X : List Nat} {s : S} (h : X.length = 48) : rk go L fl X s 48 = run go (wS L fl) X s := by
 unfold rk
 rw [List.take_of_length_le (by rw [wS_len]; exact Nat.le_refl _), List.take_of_length_le (by omega)]
theorem rk_step {L : Lay} {fl k w m x : Nat} {X : List Nat} {s : S} (h : X.length = 48) (hw : (wS L fl)[k]? = some (w, m)) (hx : X[k]? = some x) :
    (rk go L fl X s (k + 1)).2 = (go (rk go L fl X s k).2 x w).2 ∧ setAt (cellsK go L fl X s k) (k + 1) [.int (skK (k + 1)) (((go (rk go L fl X s k).2 x w).1 % m : Nat) : Int)] = cellsK go L fl X s (k + 1) := by
  have hk : k < X.length := (List.getElem?_eq_some_iff.1 hx).1
  have e := run_step (go := go) (s := s) hw hx
  constructor
  · show (run go ((wS L fl).take (k + 1)) (X.take (k + 1)) s).2 = _
    rw [e]; rfl
  · unfold cellsK
    rw [shV_mid (rk_len h (by omega)) hk (by omega)]
    show _ = shV (fl :: ((run go ((wS L fl).take (k + 1)) (X.take (k + 1)) s).1 ++ X.drop (k + 1)))
    rw [e]; rfl
theorem cellsK_at {L : Lay} {fl k x : Nat} {X : List Nat} {s : S} (h : X.length = 48) (hx : X[k]? = some x) : (cellsK go L fl X s k)[k + 1]? = some (.int (skK (k + 1)) (x : Int)) := by
 have hk : k < X.length := (List.getElem?_eq_some_iff.1 hx).1
 exact shV_mid_at (rk_len h (by omega)) hx (by omega)
theorem get48 {X : List Nat} (h : X.length = 48) {k : Nat} (hk : k < 48) : ∃ x, X[k]? = some x := ⟨_, List.getElem?_eq_getElem (by omega)⟩
/-- a point's number -/
theorem go_pt (h : HandOk w0 t r f go sz Rep Ok) {L : Lay} (hok : okB L = true) (Z η K : Heap) {fl : Nat} {X : List Nat} (hX : Sh X) (s : S) (sb i k off : Nat) (hi : i < 16) (hk : k = 2 * i ∨ k = 2 * i + 1) (ho : off = k + 1) (hO : Ok η) (hK : Rep (rk go L fl X s k).2 K) (hs : sz s ≤ 2000) :
    CallsT Tryz.prog f [r, .pointer (some ⟨sb, off, none⟩), .int .i64 (wPt L fl i : Int)] (St w0 ((sb, 102, cellsK go L fl X s k) :: (Z ++ (K ++ η)))) fun z A' => z = .tuple #[] ∧ ∃ K', Rep (rk go L fl X s (k + 1)).2 K' ∧ A' = St w0 ((sb, 102, cellsK go L fl X s (k + 1)) :: (Z ++ (K' ++ η))) := by
  subst ho
  obtain ⟨x, hx⟩ := get48 hX.len (show k < 48 by omega)
  have hu : skK (k + 1) = .u32 := by unfold skK; rw [if_neg (by omega), if_pos (by omega)]
  have hat := cellsK_at (go := go) (L := L) (fl := fl) (s := s) hX.len hx
  rw [hu] at hat
  have hx32 := hX.pt hx (by omega)
  have hsz := rk_sz h.grow hok fl k X s
  obtain ⟨e1, e2⟩ := rk_step (go := go) (s := s) hX.len (wS_pt (L := L) (f := fl) hi hk) hx
  rw [hu, Nat.mod_eq_of_lt (h.lt _ _ _ hx32)] at e2
  refine (h.deep Z η K _ sb 102 _ (k + 1) x (wPt L fl i) hO hK (by omega) hat hx32 (wPt_le hok ..)).mono ?_
  rintro z A' ⟨hz, K', hK', rfl⟩
  exact ⟨_, ⟨hz, K', by rw [e1]; exact hK', rfl⟩, fun w h => by rw [e2] at h; exact h⟩
/-- a colour's number -/
theorem go_cl (h : HandOk w0 t r f go sz Rep Ok) {L : Lay} (hok : okB L = true) (Z η K : Heap) {fl : Nat} {X : List Nat} (hX : Sh X) (s : S) (sb j k off : Nat) (hj : j < 16) (hk : k = 32 + j) (ho : off = k + 1) (hO : Ok η) (hK : Rep (rk go L fl X s k).2 K) (hs : sz s ≤ 2000) :
    CallsT Tryz.prog 165 [.iface t r, .pointer (some ⟨sb, off, none⟩), .int .i64 (wCl L fl j : Int)] (St w0 ((sb, 102, cellsK go L fl X s k) :: (Z ++ (K ++ η)))) fun z A' => z = .tuple #[] ∧ ∃ K', Rep (rk go L fl X s (k + 1)).2 K' ∧ A' = St w0 ((sb, 102, cellsK go L fl X s (k + 1)) :: (Z ++ (K' ++ η))) := by
  subst ho
  subst hk
  obtain ⟨x, hx⟩ := get48 hX.len (show 32 + j < 48 by omega)
  have hu : skK (32 + j + 1) = .u16 := by unfold skK; rw [if_neg (by omega), if_neg (by omega)]
  have hat := cellsK_at (go := go) (L := L) (fl := fl) (s := s) hX.len hx
  rw [hu] at hat
  have hx16 := hX.cl hx (by omega)
  have hsz := rk_sz h.grow hok fl (32 + j) X s
  obtain ⟨e1, e2⟩ := rk_step (go := go) (s := s) hX.len (wS_cl (L := L) (f := fl) hj) hx
  rw [hu] at e2
  refine (bent_uint16 h Z η K _ sb 102 _ (32 + j + 1) x (wCl L fl j) hO hK (by omega) hat hx16 (Nat.le_trans (wCl_le hok ..) (by decide))).mono ?_
  rintro z A' ⟨hz, K', hK', rfl⟩
  exact ⟨_, ⟨hz, K', by rw [e1]; exact hK', rfl⟩, fun w h => by rw [e2] at h; exact h⟩
theorem fl_set {x0 v : Nat} {X : List Nat} : setAt (shV (x0 :: X)) 0 [.int .u8 (v : Int)] = shV (v :: X) := shV_set (xs := x0 :: X) (p := 0) (by decide)
set_option maxHeartbeats 1000000 in
theorem through_spec (h : HandOk w0 t r f go sz Rep Ok) (η K : Heap) (L : Lay) (hok : okB L = true) (hty : L.ty = 6 ∨ L.ty = 7) (s : S) (sb x0 : Nat) (X : List Nat) (h0 : x0 < 256) (hX : Sh X) (hO : Ok η) (hK : Rep s K) (hs : sz s ≤ 1000) :
    CallsT Tryz.prog 146 [L.val, .pointer (some ⟨sb, 0, none⟩), .iface t r] (St w0 ((sb, 102, shV (x0 :: X)) :: (K ++ η))) fun z A' => z = .tuple #[] ∧ ∃ K', Rep (thr go L x0 X s).2 K' ∧ A' = St w0 ((sb, 102, shV (thr go L x0 X s).1) :: (K' ++ η)) := by
  have hbd := okB_bounds hok
  have hfl : (L.fl.toNat : Int) = L.fl := by have := hbd.2.2.2.2.2 (by omega); omega
  have hco : (L.co.toNat : Int) = L.co := by have := hbd.1; omega
  have hcm : (L.cm.toNat : Int) = L.cm := by have := hbd.2.1; omega
  have hcs : (L.cs.toNat : Int) = L.cs := by have := hbd.2.2.1; omega
  have hfl8 : L.fl.toNat ≤ 8 := by have := hbd.2.2.2.2.2 (by omega); omega
  have hbent := fun b => bent_uint8 h [(b, 27, L.cells)] η K s sb 102 (shV (x0 :: X)) 0 x0 L.fl.toNat hO hK (by omega) (shV_at (xs := x0 :: X) (p := 0) (by decide) rfl) h0 (by omega)
  have hg := h.grow s x0 L.fl.toNat
  generalize hgo : go s x0 L.fl.toNat = g at hbent hg
  obtain ⟨v1, s1⟩ := g
  obtain ⟨fl, hflag⟩ : ∃ fl, fl = v1 % 256 := ⟨_, rfl⟩
  have hfl256 : fl < 256 := by rw [hflag]; exact Nat.mod_lt _ (by decide)
  have ethr : thr go L x0 X s = (fl :: (run go (wS L fl) X s1).1, (run go (wS L fl) X s1).2) := by
    unfold thr; rw [hgo, hflag]
  rw [ethr]
  have hs1 : sz s1 ≤ 2000 := by simp only at hg; omega
  dsimp only at hbent
  rw [← hflag] at hbent
  simp only [fl_set, hfl] at hbent
  refine CallsT.body Tryz.func146 rfl rfl ?_
  simp only [Tryz.ntmps146, slotsOf, Nat.reduceAdd]
  refine Qe (Qg ?_)
  refine TL_e rfl rfl rfl (rfl) (ET_box rfl rfl) ?_
  rintro _ _ ⟨b3, rfl, rfl⟩
  refine Qf (Qb (Qe ?_))
  refine TC_A (St w0 ((sb, 102, shV (x0 :: X)) :: (b3, 27, L.cells) :: (K ++ η))) (fun w h => h.swap) ?_
  refine TC_draw [(0, 0), (1, 0), (2, 0), (3, 0), (4, 0), (5, 0), (6, 1)] KF.mixed (by kernel_rfl) (St.calm _ _) ?_
  refine Qk rfl rfl rfl (fun _ => Qc rfl rfl rfl) ?_
  refine Qk rfl rfl rfl (fun _ => Qc rfl rfl rfl) ?_
  refine Qk rfl rfl rfl (fun _ => Qv rfl rfl rfl) ?_
  refine Qk rfl rfl rfl (fun _ => Qh rfl rfl KF.fld_102_0 rfl) ?_
  refine Qk rfl rfl rfl (fun _ => Qh rfl rfl KF.fld_27_3 rfl) ?_
  refine Qz rfl rfl rfl (Qj 1 rfl rfl Tryz.underlying3 rfl rfl rfl (fun _ => rfl)) ?_
  refine TV_e rfl rfl rfl rfl (rfl) (ET_call rfl KF.cal_162 rfl (hbent b3)) ?_
  rintro _ _ ⟨rfl, K1, hK1, rfl⟩
  refine ⟨_, .drop (by kernel_rfl) (.nil), ?_⟩
  refine TV_end (Qb (Qe ?_))
  refine TC_draw [(0, 0), (1, 0), (2, 0), (3, 0), (4, 0), (5, 1), (6, 0), (7, 0), (8, 0), (9, 0), (10, 0)] KF.mixed (by kernel_rfl) (St.calm _ _) ?_
  refine Qz rfl rfl rfl (Ql 1 rfl rfl Tryz.underlying27 rfl rfl rfl KF.sz_27) ?_
  refine Qk rfl rfl rfl (fun _ => Qc rfl rfl rfl) ?_
  refine Qk rfl rfl rfl (fun _ => Qv rfl rfl rfl) ?_
  refine Qk rfl rfl rfl (fun _ => Qh rfl rfl KF.fld_102_0 rfl) ?_
  refine Qz rfl rfl rfl (Qj 0 rfl rfl Tryz.underlying5 rfl rfl rfl (fun _ => shV_at (xs := fl :: X) (p := 0) (by decide) rfl)) ?_
  refine TV_cq rfl rfl rfl rfl rfl KF.cal_163 rfl (fun _ => told_spec w0 _ L fl hfl256 hty) (.drop (by kernel_rfl) (.drop (by kernel_rfl) (.nil))) ?_
  refine Qk rfl rfl rfl (fun _ => Qc rfl rfl rfl) ?_
  refine Qk rfl rfl rfl (fun _ => Qx rfl rfl rfl rfl) ?_
  refine Qk rfl rfl rfl (fun _ => Qx rfl rfl rfl rfl) ?_
  refine Qk rfl rfl rfl (fun _ => Qd rfl rfl rfl) ?_
  refine Qk rfl rfl rfl (fun _ => Qd rfl rfl rfl) ?_
  refine TV_end (Qb (Qe (Qg ?_)))
  refine Qa rfl rfl (Qd rfl rfl rfl) ?_
  refine Qf (Qb (Qe (Qe (Qg ?_))))
  refine Qa rfl rfl (Qc rfl rfl rfl) ?_
  refine Qf (Qb (Qr ?_))
  refine TC_loop (γ := { t : Nat × Heap // t.1 ≤ 16 ∧ Rep (rk go L fl X s1 (2 * t.1)).2 t.2 }) (fun u => [(1, true, .pointer (some ⟨sb, 0, none⟩)), (2, true, .iface t r), (3, true, .pointer (some ⟨b3, 0, none⟩)), (6, true, .int .i64 (ptN L fl : Int)), (7, true, .int .i64 (clN L fl : Int)), (8, true, .func (.func 164) #[] #[]), (29, true, .int .i64 (u.1.1 : Int))]) (fun u => St w0 ((sb, 102, cellsK go L fl X s1 (2 * u.1.1)) :: (b3, 27, L.cells) :: (u.1.2 ++ η))) (fun u => 16 - u.1.1) ⟨(0, K1), by show 0 ≤ 16; decide, by show Rep (rk go L fl X s1 0).2 K1; rw [rk_zero]; exact hK1⟩ ⟨rfl, rfl, rfl, rfl, rfl, rfl, rfl, trivial⟩ (fun w h => by show St w0 ((sb, 102, cellsK go L fl X s1 0) :: (b3, 27, L.cells) :: (K1 ++ η)) w; rw [cellsK_zero]; exact h) ?_
  rintro ⟨⟨i, K2⟩, hi, hK2⟩
  dsimp only at hi hK2 ⊢
  refine Qe (Qg ?_)
  refine Qa rfl rfl (QT_lss rfl rfl rfl rfl) ?_
  refine Qf (Qb (Qe ?_))
  refine Qm rfl (fun h30 => ?_) (fun h30 => ?_)
  ·
    have hi16 : i < 16 := by omega
    have hwd : (if decide ((i : Int) < (ptN L fl : Int)) = true then L.co else 0) = (wPt L fl i : Int) := by
      unfold wPt
      by_cases hc : i < ptN L fl
      · rw [if_pos hc, if_pos (by simpa using hc), hco]
      · rw [if_neg hc, if_neg (by simpa using hc)]; rfl
    refine Qt (Qb (Qe (Qr (Qe (Qg ?_)))))
    refine Qa rfl rfl (Qc rfl rfl rfl) ?_
    refine Qa rfl rfl (Qd rfl rfl rfl) ?_
    refine Qf (Qb (Qe (Qg ?_)))
    refine Qa rfl rfl (Qc rfl rfl rfl) ?_
    refine Qa rfl rfl (Qc rfl rfl rfl) ?_
    refine Qa rfl rfl (Qc rfl rfl rfl) ?_
    refine Qa rfl rfl (QT_lss rfl rfl rfl rfl) ?_
    refine Qa rfl rfl (Qh rfl rfl KF.fld_27_1 rfl) ?_
    refine Qa rfl rfl (Qj 1 rfl rfl Tryz.underlying3 rfl rfl rfl (fun _ => rfl)) ?_
    refine TL_gq rfl rfl rfl (fun _ => Goes.value rfl rfl KF.cal_164 rfl) (fun _ => hwd ▸ within_spec w0 _ _ L.co) ?_
    refine Qa rfl rfl (Qd rfl rfl rfl) ?_
    refine Qf (Qb (Qe ?_))
    refine TC_draw [(0, 0), (1, 0), (2, 0), (3, 0), (4, 0), (5, 0), (6, 0), (7, 0), (8, 0), (9, 0), (10, 0), (11, 1)] KF.mixed (by kernel_rfl) (St.calm _ _) ?_
    refine Qk rfl rfl rfl (fun _ => Qc rfl rfl rfl) ?_
    refine Qk rfl rfl rfl (fun _ => Qc rfl rfl rfl) ?_
    refine Qk rfl rfl rfl (fun _ => Qc rfl rfl rfl) ?_
    refine Qk rfl rfl rfl (fun _ => Qv rfl rfl rfl) ?_
    refine Qk rfl rfl rfl (fun _ => Qh rfl rfl KF.fld_102_1 rfl) ?_
    refine Qk rfl rfl rfl (fun _ => QT_indexArr i rfl rfl Tryz.underlying99 KF.sz_72 rfl rfl rfl (fun _ => hi16)) ?_
    refine Qk rfl rfl rfl (fun _ => Qh rfl rfl KF.fld_72_0 rfl) ?_
    refine Qk rfl rfl rfl (fun _ => Qc rfl rfl rfl) ?_
    refine Qk rfl rfl rfl (fun _ => QT_makeFunc rfl rfl rfl rfl) ?_
    refine Qk rfl rfl rfl (fun _ => QT_nilCheckM rfl rfl rfl h.nil) ?_
    refine Qk rfl rfl rfl (fun _ => Qc rfl rfl rfl) ?_
    refine TV_e rfl rfl rfl rfl (rfl) (ET_goes (Goes.invoke rfl rfl h.met h.cal rfl) (go_pt h hok [(b3, 27, L.cells)] η K2 hX s1 sb i (2 * i) _ hi16 (.inl rfl) (by omega) hO hK2 hs1)) ?_
    rintro _ _ ⟨rfl, K3, hK3, rfl⟩
    refine ⟨_, .nil, ?_⟩
    refine TV_end (Qb ?_)
    refine TC_draw [(0, 0), (1, 0), (2, 0), (3, 0), (4, 0), (5, 0), (6, 0), (7, 0), (8, 0), (9, 0), (10, 0), (11, 1)] KF.mixed (by kernel_rfl) (St.calm _ _) ?_
    refine Qk rfl rfl rfl (fun _ => Qc rfl rfl rfl) ?_
    refine Qk rfl rfl rfl (fun _ => Qc rfl rfl rfl) ?_
    refine Qk rfl rfl rfl (fun _ => Qc rfl rfl rfl) ?_
    refine Qk rfl rfl rfl (fun _ => Qv rfl rfl rfl) ?_
    refine Qk rfl rfl rfl (fun _ => Qh rfl rfl KF.fld_102_1 rfl) ?_
    refine Qk rfl rfl rfl (fun _ => QT_indexArr i rfl rfl Tryz.underlying99 KF.sz_72 rfl rfl rfl (fun _ => hi16)) ?_
    refine Qk rfl rfl rfl (fun _ => Qh rfl rfl KF.fld_72_1 rfl) ?_
    refine Qk rfl rfl rfl (fun _ => Qc rfl rfl rfl) ?_
    refine Qk rfl rfl rfl (fun _ => QT_makeFunc rfl rfl rfl rfl) ?_
    refine Qk rfl rfl rfl (fun _ => QT_nilCheckM rfl rfl rfl h.nil) ?_
    refine Qk rfl rfl rfl (fun _ => Qc rfl rfl rfl) ?_
    refine TV_e rfl rfl rfl rfl (rfl) (ET_goes (Goes.invoke rfl rfl h.met h.cal rfl) (go_pt h hok [(b3, 27, L.cells)] η K3 hX s1 sb i (2 * i + 1) _ hi16 (.inr rfl) (by omega) hO hK3 hs1)) ?_
    rintro _ _ ⟨rfl, K4, hK4, rfl⟩
    refine ⟨_, .nil, ?_⟩
    refine TV_end ?_
    refine Qo ?_
    refine Qb (Qg ?_)
    refine Qa rfl rfl (Zb rfl rfl rfl rfl (fun _ => ⟨by omega, by omega⟩)) ?_
    refine Qa rfl rfl (Qc rfl rfl rfl) ?_
    refine Qf ?_
    exact TX_round ⟨(i + 1, K4), by show i + 1 ≤ 16; omega, hK4⟩ (by show 16 - (i + 1) < 16 - i; omega) ⟨rfl, rfl, rfl, rfl, rfl, rfl, rfl, trivial⟩ (fun _ h => h)
  ·
    refine Zd ?_
    refine Qi (Qi ?_)
    refine Qp ?_
    refine Qb (Qe ?_)
    obtain rfl : i = 16 := by omega
    refine Qg ?_
    refine Qa rfl rfl (Qc rfl rfl rfl) ?_
    refine Qf (Qb (Qr ?_))
    refine TC_loop (γ := { t : Nat × Heap // t.1 ≤ 4 ∧ Rep (rk go L fl X s1 (32 + 4 * t.1)).2 t.2 }) (fun u => [(1, true, .pointer (some ⟨sb, 0, none⟩)), (2, true, .iface t r), (3, true, .pointer (some ⟨b3, 0, none⟩)), (7, true, .int .i64 (clN L fl : Int)), (8, true, .func (.func 164) #[] #[]), (64, true, .int .i64 (u.1.1 : Int))]) (fun u => St w0 ((sb, 102, cellsK go L fl X s1 (32 + 4 * u.1.1)) :: (b3, 27, L.cells) :: (u.1.2 ++ η))) (fun u => 4 - u.1.1) ⟨(0, K2), by show 0 ≤ 4; decide, hK2⟩ ⟨rfl, rfl, rfl, rfl, rfl, rfl, trivial⟩ (fun w h => h) ?_
    rintro ⟨⟨c, K5⟩, hc, hK5⟩
    dsimp only at hc hK5 ⊢
    refine Qe (Qg ?_)
    refine Qa rfl rfl (QT_lss rfl rfl rfl rfl) ?_
    refine Qf (Qb (Qe ?_))
    refine Qm rfl (fun h65 => ?_) (fun h65 => ?_)
    ·
      have hc4 : c < 4 := by omega
      refine Qt (Qb (Qe (Qr (Qe (Qg ?_)))))
      refine Qa rfl rfl (Qc rfl rfl rfl) ?_
      refine Qa rfl rfl (Qd rfl rfl rfl) ?_
      refine Qf (Qb (Qe (Qg ?_)))
      refine Qa rfl rfl (Qc rfl rfl rfl) ?_
      refine Qf (Qb (Qr ?_))
      refine TC_loop (γ := { t : Nat × Heap // t.1 ≤ 4 ∧ Rep (rk go L fl X s1 (32 + 4 * c + t.1)).2 t.2 }) (fun u => [(1, true, .pointer (some ⟨sb, 0, none⟩)), (2, true, .iface t r), (3, true, .pointer (some ⟨b3, 0, none⟩)), (7, true, .int .i64 (clN L fl : Int)), (8, true, .func (.func 164) #[] #[]), (11, true, .int .i64 (c : Int)), (64, true, .int .i64 (c : Int)), (67, true, .int .i64 (u.1.1 : Int))]) (fun u => St w0 ((sb, 102, cellsK go L fl X s1 (32 + 4 * c + u.1.1)) :: (b3, 27, L.cells) :: (u.1.2 ++ η))) (fun u => 4 - u.1.1) ⟨(0, K5), by show 0 ≤ 4; decide, hK5⟩ ⟨rfl, rfl, rfl, rfl, rfl, rfl, rfl, rfl, trivial⟩ (fun w h => h) ?_
      rintro ⟨⟨d, K6⟩, hd, hK6⟩
      dsimp only at hd hK6 ⊢
      refine Qe (Qg ?_)
      refine Qa rfl rfl (QT_lss rfl rfl rfl rfl) ?_
      refine Qf (Qb (Qe ?_))
      refine Qm rfl (fun h68 => ?_) (fun h68 => ?_)
      ·
        have hd4 : d < 4 := by omega
        have hwd : (if (decide ((c : Int) < (clN L fl : Int)) && decide ((d : Int) < L.cs)) = true then L.cm else 0) = (wCl L fl (4 * c + d) : Int) := by
          unfold wCl
          rw [show (4 * c + d) / 4 = c by omega, show (4 * c + d) % 4 = d by omega]
          by_cases hq : c < clN L fl ∧ d < L.cs.toNat
          · rw [if_pos hq, if_pos (by simp only [Bool.and_eq_true, decide_eq_true_eq]; omega), hcm]
          · rw [if_neg hq, if_neg (by simp only [Bool.and_eq_true, decide_eq_true_eq]; omega)]; rfl
        refine Qt (Qb (Qe (Qr (Qe (Qg ?_)))))
        refine Qa rfl rfl (Qc rfl rfl rfl) ?_
        refine Qa rfl rfl (Qd rfl rfl rfl) ?_
        refine Qf (Qb ?_)
        refine TC_draw [(0, 0), (1, 0), (2, 0), (3, 0), (4, 0), (5, 0), (6, 0), (7, 0), (8, 0), (9, 0), (10, 0), (11, 0), (12, 0), (13, 0), (14, 0), (15, 0), (16, 0), (17, 0), (18, 0), (19, 0), (20, 1), (21, 1)] KF.mixed (by kernel_rfl) (St.calm _ _) ?_
        refine Qk rfl rfl rfl (fun _ => Qc rfl rfl rfl) ?_
        refine Qk rfl rfl rfl (fun _ => Qc rfl rfl rfl) ?_
        refine Qk rfl rfl rfl (fun _ => Qc rfl rfl rfl) ?_
        refine Qk rfl rfl rfl (fun _ => Qc rfl rfl rfl) ?_
        refine Qk rfl rfl rfl (fun _ => Qv rfl rfl rfl) ?_
        refine Qk rfl rfl rfl (fun _ => Qh rfl rfl KF.fld_102_2 rfl) ?_
        refine Qk rfl rfl rfl (fun _ => QT_indexArr c rfl rfl Tryz.underlying100 KF.sz_75 rfl rfl rfl (fun _ => hc4)) ?_
        refine Qk rfl rfl rfl (fun _ => QT_indexArr d rfl rfl Tryz.underlying75 KF.sz_73 rfl rfl rfl (fun _ => hd4)) ?_
        refine Qk rfl rfl rfl (fun _ => Qc rfl rfl rfl) ?_
        refine Qk rfl rfl rfl (fun _ => Qc rfl rfl rfl) ?_
        refine Qk rfl rfl rfl (fun _ => Qc rfl rfl rfl) ?_
        refine Qk rfl rfl rfl (fun _ => QT_lss rfl rfl rfl rfl) ?_
        refine Qk rfl rfl rfl (fun _ => Qc rfl rfl rfl) ?_
        refine Qk rfl rfl rfl (fun _ => Qc rfl rfl rfl) ?_
        refine Qk rfl rfl rfl (fun _ => Qh rfl rfl KF.fld_27_4 rfl) ?_
        refine Qz rfl rfl rfl (Qj 1 rfl rfl Tryz.underlying3 rfl rfl rfl (fun _ => rfl)) ?_
        refine Qk rfl rfl rfl (fun _ => QT_lss rfl rfl rfl rfl) ?_
        refine Qk rfl rfl rfl (fun _ => QT_and rfl rfl rfl rfl) ?_
        refine Qk rfl rfl rfl (fun _ => Qh rfl rfl KF.fld_27_2 rfl) ?_
        refine Qz rfl rfl rfl (Qj 1 rfl rfl Tryz.underlying3 rfl rfl rfl (fun _ => rfl)) ?_
        refine TV_gq rfl rfl rfl rfl (fun _ => Goes.value rfl rfl KF.cal_164 rfl) (fun _ => hwd ▸ within_spec w0 _ _ L.cm) (.drop (by kernel_rfl) (.keep (by kernel_rfl) rfl (by first | exact Qj 0 rfl rfl Tryz.underlying3 rfl rfl rfl (fun _ => rfl) | exact Qj 1 rfl rfl Tryz.underlying3 rfl rfl rfl (fun _ => rfl) | exact Qj 2 rfl rfl Tryz.underlying3 rfl rfl rfl (fun _ => rfl)) (.nil))) ?_
        refine TV_e rfl rfl rfl rfl (rfl) (ET_call rfl KF.cal_165 rfl (go_cl h hok [(b3, 27, L.cells)] η K6 hX s1 sb (4 * c + d) (32 + 4 * c + d) _ (by omega) (by omega) (by omega) hO hK6 hs1)) ?_
        rintro _ _ ⟨rfl, K7, hK7, rfl⟩
        refine ⟨_, .keep (by kernel_rfl) rfl (by first | exact Qj 0 rfl rfl Tryz.underlying3 rfl rfl rfl (fun _ => rfl) | exact Qj 1 rfl rfl Tryz.underlying3 rfl rfl rfl (fun _ => rfl) | exact Qj 2 rfl rfl Tryz.underlying3 rfl rfl rfl (fun _ => rfl)) (.nil), ?_⟩
        refine TV_end ?_
        refine Qo ?_
        refine Qb (Qg ?_)
        refine Qa rfl rfl (Zb rfl rfl rfl rfl (fun _ => ⟨by omega, by omega⟩)) ?_
        refine Qa rfl rfl (Qc rfl rfl rfl) ?_
        refine Qf ?_
        exact TX_round ⟨(d + 1, K7), by show d + 1 ≤ 4; omega, hK7⟩ (by show 4 - (d + 1) < 4 - d; omega) ⟨rfl, rfl, rfl, rfl, rfl, rfl, rfl, rfl, trivial⟩ (fun _ h => h)
      ·
        refine Zd ?_
        refine Qi (Qi ?_)
        refine Qp ?_
        refine Qo ?_
        refine Qb ?_
        obtain rfl : d = 4 := by omega
        refine Qg ?_
        refine Qa rfl rfl (Zb rfl rfl rfl rfl (fun _ => ⟨by omega, by omega⟩)) ?_
        refine Qa rfl rfl (Qc rfl rfl rfl) ?_
        refine Qf ?_
        exact TX_round ⟨(c + 1, K6), by show c + 1 ≤ 4; omega, hK6⟩ (by show 4 - (c + 1) < 4 - c; omega) ⟨rfl, rfl, rfl, rfl, rfl, rfl, trivial⟩ (fun _ h => h)
    ·
      refine Zd ?_
      refine Qi (Qi ?_)
      refine Qp ?_
      obtain rfl : c = 4 := by omega
      refine Qs (.inr rfl) (res0 rfl) ⟨_, ⟨rfl, K5, ?_, rfl⟩, fun w h => ?_⟩
      · have := rk_all (go := go) (L := L) (fl := fl) (s := s1) hX.len
        rw [← this]; exact hK5
      · have := cellsK_all (go := go) (L := L) (fl := fl) (s := s1) hX.len
        rw [← this]; exact (show St w0 ((sb, 102, cellsK go L fl X s1 48) :: (b3, 27, L.cells) :: (K5 ++ η)) w from h).cnt fun p => by simp only [List.countP_append, List.countP_cons]; omega
end
end Go.Proofs.YtjdaglmkljbfkaaGreatDoor
namespace Go.Proofs.YtjdaglmkljbfkaaGreatDoor
open Go Go.Gx
set_option maxRecDepth 100000
/-- a record's numbers: its flag, and the others -/
def fS (L : Lay) (f : Nat) : Ws := (L.fl.toNat, 256) :: wS L f
def szN (L : Lay) (f : Nat) : Nat := (tot (fS L f) + 7) / 8
theorem fS_le {L : Lay} (h : okB L = true) (hty : L.ty = 6 ∨ L.ty = 7) (f : Nat) : ∀ p ∈ fS L f, p.1 ≤ 32 := by
 intro p hp
 have := (okB_bounds h).2.2.2.2.2 (by omega)
 rcases List.mem_cons.1 hp with rfl | hp
 · show L.fl.toNat ≤ 32; omega
 · exact wS_le h f p hp
theorem tot_le {k : Nat} : ∀ {ws : Ws}, (∀ p ∈ ws, p.1 ≤ k) → tot ws ≤ k * ws.length
 | [], _ => by simp [tot]
 | p :: ws, h => by
  rw [tot_cons, List.length_cons, Nat.mul_add]
  have := h p (List.mem_cons_self ..)
  have := tot_le fun q hq => h q (List.mem_cons_of_mem _ hq)
  omega
theorem fS_tot {L : Lay} (h : okB L = true) (hty : L.ty = 6 ∨ L.ty = 7) (f : Nat) : L.fl.toNat ≤ tot (fS L f) ∧ tot (fS L f) ≤ 1568 ∧ 2 ≤ tot (fS L f) ∧ L.fl.toNat ≤ 8 := by
 have h1 := tot_le (fS_le h hty f)
 have h2 : (fS L f).length = 49 := by rw [fS, List.length_cons, wS_len]
 have hfl := (okB_bounds h).2.2.2.2.2 (by omega)
 rw [h2] at h1
 have h3 : tot (fS L f) = L.fl.toNat + tot (wS L f) := tot_cons _ _
 omega
theorem szN_pos {L : Lay} (h : okB L = true) (hty : L.ty = 6 ∨ L.ty = 7) (f : Nat) : 1 ≤ szN L f ∧ szN L f ≤ 196 := by
 have := fS_tot h hty f
 unfold szN; omega
/-- a sheet's numbers -/
def ShF (ys : List Nat) : Prop := ∃ x0 X, ys = x0 :: X ∧ x0 < 256 ∧ Sh X
def flB (L : Lay) (l : List Bool) : Nat := num (l.take L.fl.toNat) % 256
def dcS (L : Lay) (l : List Bool) : List Nat := dec (fS L (flB L l)) l
/-- a whole sheet laid -/
theorem thr_L {L : Lay} (h : okB L = true) (hty : L.ty = 6 ∨ L.ty = 7) {x0 : Nat} {X : List Nat} (h0 : x0 < 256) (hX : Sh X) :
    (thr goL L x0 X ([], 0)).1 = x0 :: X ∧ (if fitB (fS L x0) (x0 :: X) = true then (thr goL L x0 X ([], 0)).2 = (enc (fS L x0) (x0 :: X), 0) else (thr goL L x0 X ([], 0)).2.2 = 1) := by
  have ht := fS_tot h hty x0
  have h3 : tot (fS L x0) = L.fl.toNat + tot (wS L x0) := tot_cons _ _
  have em : (goL (([] : List Bool), (0 : Int)) x0 L.fl.toNat).1 % 256 = x0 := Nat.mod_eq_of_lt h0
  have hlen : (wS L x0).length = X.length := by rw [wS_len, hX.len]
  constructor
  · unfold thr; rw [em, run_goL_vals (hX.und L x0)]
  · unfold thr
    rw [em]
    by_cases hc : x0 < 2 ^ L.fl.toNat
    · rw [goL_ok (by omega) hc (by show 0 + _ ≤ _; omega), List.nil_append]
      have hbl : (bitsN L.fl.toNat x0).length = L.fl.toNat := bitsN_len ..
      have ef : fitB (fS L x0) (x0 :: X) = fitB (wS L x0) X := by rw [fS, fitB]; simp [hc]
      rw [ef]
      split
      · rename_i hf
        exact run_goL_ok (wS_le h _) (by omega) hlen hf
      · rename_i hf
        exact run_goL_bad (wS_le h _) (by omega) hlen (by simpa using hf)
    · have ef : fitB (fS L x0) (x0 :: X) = false := by rw [fS, fitB]; simp [hc]
      rw [ef, if_neg (by decide)]
      have e : (goL (([] : List Bool), (0 : Int)) x0 L.fl.toNat).2 = (putL [] x0 L.fl.toNat, 1) := by
        unfold goL; rw [if_pos rfl, putE_one hc]
      rw [e]
      show (run goL (wS L x0) X (putL [] x0 L.fl.toNat, 1)).2.2 = 1
      rw [run_goL_err (show (1 : Int) ≠ 0 by decide)]
/-- sheets of bytes -/
def gets (L : Lay) : Nat → List Nat → Option (List (List Nat))
  | 0, bs => if bs = [] then some [] else none
  | k + 1, bs => if bs = [] then some [] else
      if 8 * bs.length < tot (fS L (flB L (byB bs))) then none else (gets L k (bs.drop (szN L (flB L (byB bs))))).map (dcS L (byB bs) :: ·)
def getS (L : Lay) (bs : List Nat) : Option (List (List Nat)) := gets L bs.length bs
def errG (L : Lay) (bs : List Nat) : Int := if okB L = true ∧ 6 ≤ L.ty then (if 65536 < bs.length then 3 else match getS L bs with | none => 5 | some _ => 0) else 4
theorem ty67 {L : Lay} (h : okB L = true ∧ 6 ≤ L.ty) : L.ty = 6 ∨ L.ty = 7 := by
 have := (okB_bounds h.1).2.2.2.1
 omega
theorem ShF.len {y : List Nat} (h : ShF y) : y.length = 49 := by
 obtain ⟨x0, X, rfl, _, hX⟩ := h
 rw [List.length_cons, hX.len]
theorem zip_ints : ∀ {ks : List IntKind} {xs : List Nat}, ks.length = xs.length → (∀ (p : Nat) (k : IntKind) (x : Nat), ks[p]? = some k → xs[p]? = some x → (Lit.int k (x : Int)).wf = true) → Ints ks (List.zipWith (fun (k : IntKind) (x : Nat) => Value.int k (x : Int)) ks xs)
 | [], [], _, _ => .nil
 | [], _ :: _, h, _ => by simp at h
 | _ :: _, [], h, _ => by simp at h
 | k :: ks, x :: xs, h, hw => .cons (hw 0 k x rfl rfl) (zip_ints (by simpa using h) fun p k x h1 h2 => hw (p + 1) k x h1 h2)
theorem shV_ints {y : List Nat} (h : ShF y) : Ints sheetK (shV y) := by
  have hl := h.len
  obtain ⟨x0, X, rfl, h0, hX⟩ := h
  refine zip_ints (by rw [sheetK_len, hl]) fun p k x hk hv => ?_
  have hp : p < 49 := by rw [← sheetK_len]; exact (List.getElem?_eq_some_iff.1 hk).1
  rw [sheetK_at hp] at hk
  cases hk
  unfold skK
  cases p with
  | zero =>
    cases hv
    have h1 : IntKind.u8.min = 0 := rfl
    have h2 : IntKind.u8.max = 255 := rfl
    simp only [if_pos, Lit.wf, Bool.and_eq_true, decide_eq_true_eq]
    omega
  | succ p =>
    rw [List.getElem?_cons_succ] at hv
    rw [if_neg (by omega)]
    by_cases hc : p + 1 < 33
    · have := hX.pt hv (by omega)
      have h1 : IntKind.u32.min = 0 := rfl
      have h2 : IntKind.u32.max = 4294967295 := rfl
      rw [if_pos hc]
      simp only [Lit.wf, Bool.and_eq_true, decide_eq_true_eq]
      omega
    · have := hX.cl hv (by omega)
      have h1 : IntKind.u16.min = 0 := rfl
      have h2 : IntKind.u16.max = 65535 := rfl
      rw [if_neg hc]
      simp only [Lit.wf, Bool.and_eq_true, decide_eq_true_eq]
      omega
end Go.Proofs.YtjdaglmkljbfkaaGreatDoor
namespace Go.Proofs.YtjdaglmkljbfkaaGreatDoor
open Go Go.Gx Go.RowKit
set_option maxRecDepth 100000
def errC (L : Lay) : Int := if okB L = true ∧ 6 ≤ L.ty then 0 else 4
theorem scheck_spec (w0 : Base) (η : Heap) (hG : Sets w0) (L : Lay) :
  CallsT Tryz.prog 145 [L.val] (St w0 η) fun v A' => v = .int .i64 (errC L) ∧ A' = St w0 η := by
 refine CallsT.body Tryz.func145 rfl rfl ?_
 simp only [Tryz.ntmps145, slotsOf, Nat.reduceAdd]
 refine Qe (Qg ?_)
 refine TL_e rfl rfl rfl (rfl) (ET_box rfl rfl) ?_
 rintro _ _ ⟨b1, rfl, rfl⟩
 refine Qa rfl rfl (Qd rfl rfl rfl) ?_
 refine Qf (Qb (Qe (Qe (Qg ?_))))
 refine Qa rfl rfl (Ql 0 rfl rfl Tryz.underlying27 rfl rfl rfl KF.sz_27) ?_
 refine TL_cq rfl rfl rfl rfl KF.cal_26 rfl (fun _ => check_spec w0 _ hG L) ?_
 refine Qa rfl rfl (QT_neq rfl rfl rfl rfl) ?_
 refine Qa rfl rfl (Qc rfl rfl rfl) ?_
 refine Qa rfl rfl (Qh rfl rfl KF.fld_27_0 rfl) ?_
 refine Qa rfl rfl (Qj 0 rfl rfl Tryz.underlying3 rfl rfl rfl (fun _ => rfl)) ?_
 refine Qa rfl rfl (QT_lss rfl rfl rfl rfl) ?_
 refine Qa rfl rfl (QT_or rfl rfl rfl rfl) ?_
 refine Qf (Qb ?_)
 refine TC_cond rfl (fun h10 => ?_) (fun h10 => ?_)
 ·
  refine Qe (Qg ?_)
  refine Qa rfl rfl (Qd rfl rfl rfl) ?_
  refine Qf (Qb ?_)
  refine Qu ?_
  refine Qn ?_
  refine Qs (.inl rfl) (res1 rfl rfl) ⟨_, ⟨?_, rfl⟩, fun _ h => h.tail⟩
  have e : errC L = 4 := by
   simp only [Bool.or_eq_true, decide_eq_true_eq] at h10
   unfold errC
   rw [if_neg]
   rintro ⟨h1, h2⟩
   unfold errOf at h10
   rw [if_pos h1] at h10
   omega
  rw [e]
 ·
  refine Qt (Qb (Qe (Qg ?_)))
  refine Qa rfl rfl (Qd rfl rfl rfl) ?_
  refine Qf (Qb ?_)
  refine Qu ?_
  refine Qs (.inl rfl) (res1 rfl rfl) ⟨_, ⟨?_, rfl⟩, fun _ h => h.tail⟩
  have e : errC L = 0 := by
   simp only [Bool.or_eq_false_iff, decide_eq_false_iff_not] at h10
   unfold errC
   rw [if_pos]
   unfold errOf at h10
   refine ⟨?_, by omega⟩
   by_cases h1 : okB L = true
   · exact h1
   · rw [if_neg h1] at h10; omega
  rw [e]
/-- sheets, one behind the other, in memory -/
def flatS (ys : List (List Nat)) : List Value := (ys.map shV).flatten
theorem errC_ok {L : Lay} (h : errC L = 0) : okB L = true ∧ 6 ≤ L.ty := by
 unfold errC at h
 split at h
 · assumption
 · exact absurd h (by decide)
theorem errC_bad {L : Lay} (h : errC L ≠ 0) : errC L = 4 ∧ ∀ bs, errG L bs = 4 := by
  unfold errC at h ⊢
  split at h
  · exact absurd rfl h
  · rename_i hn
    rw [if_neg hn]
    exact ⟨rfl, fun bs => by unfold errG; rw [if_neg hn]⟩
end Go.Proofs.YtjdaglmkljbfkaaGreatDoor
namespace Go.Proofs.YtjdaglmkljbfkaaGreatDoor
open Go Go.Gx Go.RowKit
set_option maxRecDepth 100000
def fitS (L : Lay) (y : List Nat) : Bool := fitB (fS L (y.headD 0)) y
def encS (L : Lay) (y : List Nat) : List Bool := enc (fS L (y.headD 0)) y
def packS (L : Lay) (y : List Nat) : List Nat := packB (encS L y)
def bytesS (L : Lay) (ys : List (List Nat)) : List Nat := ys.flatMap (packS L)
def errP (L : Lay) (ys : List (List Nat)) : Int := if okB L = true ∧ 6 ≤ L.ty then (if ys.all (fitS L) = true then (if 65536 < (bytesS L ys).length then 3 else 0) else 1) else 4
def outP (L : Lay) (ys : List (List Nat)) : List Nat := if errP L ys = 0 then bytesS L ys else []
theorem bytesS_append (L : Lay) (a b : List (List Nat)) : bytesS L (a ++ b) = bytesS L a ++ bytesS L b := by simp [bytesS]
theorem bytesS_lt (L : Lay) (ys : List (List Nat)) : ∀ c ∈ bytesS L ys, c < 256 := by
 intro c hc
 obtain ⟨y, _, h⟩ := List.mem_flatMap.1 hc
 exact packB_lt _ c h
theorem encS_len {L : Lay} {y : List Nat} (h : ShF y) : (encS L y).length = tot (fS L (y.headD 0)) := by
 refine enc_len ?_
 rw [fS, List.length_cons, wS_len, h.len]
theorem packS_len {L : Lay} {y : List Nat} (h : ShF y) : (packS L y).length = szN L (y.headD 0) := by
 rw [packS, packB_len, encS_len h]; rfl
theorem bytesS_bd {L : Lay} (hk : okB L = true) (hty : L.ty = 6 ∨ L.ty = 7) : ∀ {ys : List (List Nat)}, (∀ y ∈ ys, ShF y) → (bytesS L ys).length ≤ 196 * ys.length
 | [], _ => by simp [bytesS]
 | y :: ys, h => by
  have h1 := packS_len (L := L) (h y (List.mem_cons_self ..))
  have h2 := (szN_pos hk hty (y.headD 0)).2
  have h3 := bytesS_bd hk hty (ys := ys) fun z hz => h z (List.mem_cons_of_mem _ hz)
  have e : bytesS L (y :: ys) = packS L y ++ bytesS L ys := by simp [bytesS]
  rw [e, List.length_append, List.length_cons]
  omega
theorem errP_bad {L : Lay} {ys : List (List Nat)} (h : errP L ys ≠ 0) : outP L ys = [] := by unfold outP; rw [if_neg h]
theorem fragNoneB {L : Lay} {ys : List (List Nat)} {e : Int} (h : errP L ys = e) (h0 : e ≠ 0) : Frag 5 1 (.slice none 0 0) (outP L ys).length (byV (outP L ys)) [] := by
 rw [errP_bad (by rw [h]; exact h0)]
 exact Frag.nil _ _
theorem flatS_at : ∀ {ys : List (List Nat)}, (∀ y ∈ ys, ShF y) → ∀ {i : Nat} {y : List Nat}, ys[i]? = some y → i * 49 + 49 ≤ (flatS ys).length ∧ ((flatS ys).drop (i * 49)).take 49 = shV y
 | [], _, i, y, hi => by simp at hi
 | z :: ys, h, 0, y, hi => by
  obtain rfl : z = y := by simpa using hi
  have h1 := shV_len (h z (List.mem_cons_self ..)).len
  have e : flatS (z :: ys) = shV z ++ flatS ys := by simp [flatS]
  rw [e, List.length_append, h1, Nat.zero_mul, List.drop_zero, List.take_append_of_le_length (by omega), List.take_of_length_le (by omega)]
  exact ⟨by omega, rfl⟩
 | z :: ys, h, i + 1, y, hi => by
  have h1 := shV_len (h z (List.mem_cons_self ..)).len
  have e : flatS (z :: ys) = shV z ++ flatS ys := by simp [flatS]
  obtain ⟨h2, h3⟩ := flatS_at (ys := ys) (fun w hw => h w (List.mem_cons_of_mem _ hw)) (i := i) (y := y) (by simpa using hi)
  rw [e, List.length_append, h1]
  refine ⟨by omega, ?_⟩
  rw [List.drop_append, List.drop_eq_nil_of_le (by omega), h1, List.nil_append, show (i + 1) * 49 - 49 = i * 49 by omega, h3]
set_option maxHeartbeats 1000000 in
theorem sput_spec (w0 : Base) (η : Heap) (hG : Sets w0) (L : Lay) (sv : Value) (ys : List (List Nat)) (hs : SlA (St w0 η) sv 49 ys.length (flatS ys)) (hy : ∀ y ∈ ys, ShF y) (hn : ys.length ≤ 100000000) :
    CallsT Tryz.prog 132 [L.val, sv] (St w0 η) fun v A' => ∃ bv H, v = .tuple #[bv, .int .i64 (errP L ys)] ∧ Frag 5 1 bv (outP L ys).length (byV (outP L ys)) H ∧ A' = St w0 (H ++ η) := by
  obtain ⟨hfl, ad, cap, sb, so, rfl, hcap, had, hrd⟩ := hs.some
  refine CallsT.body Tryz.func132 rfl rfl ?_
  simp only [Tryz.ntmps132, slotsOf, Nat.reduceAdd]
  refine Qe (Qg ?_)
  refine TL_e rfl rfl rfl (rfl) (ET_box rfl rfl) ?_
  rintro _ _ ⟨b2, rfl, rfl⟩
  refine Qa rfl rfl (Qd rfl rfl rfl) ?_
  refine Qa rfl rfl (Qd rfl rfl rfl) ?_
  refine Qf (Qb (Qe (Qe (Qg ?_))))
  refine Qa rfl rfl (Ql 0 rfl rfl Tryz.underlying27 rfl rfl rfl KF.sz_27) ?_
  refine TL_cq rfl rfl rfl rfl KF.cal_145 rfl (fun _ => scheck_spec w0 _ hG L) ?_
  refine Qa rfl rfl (Qd rfl rfl rfl) ?_
  refine Qf (Qb (Qe (Qg ?_)))
  refine Qa rfl rfl (Qc rfl rfl rfl) ?_
  refine Qa rfl rfl (QT_neq rfl rfl rfl rfl) ?_
  refine Qf (Qb ?_)
  refine Qm rfl (fun h14 => ?_) (fun h14 => ?_)
  ·
    refine Qe (Qg ?_)
    refine Qa rfl rfl (Qc rfl rfl rfl) ?_
    refine Qa rfl rfl (Qd rfl rfl rfl) ?_
    refine Qa rfl rfl (Qd rfl rfl rfl) ?_
    refine Qf (Qb ?_)
    refine Qu ?_
    refine Qn ?_
    have e4 := (errC_bad h14).1
    have eP : errP L ys = 4 := by
      unfold errP; rw [if_neg]
      intro hc
      exact h14 (by unfold errC; rw [if_pos hc])
    exact Qs (.inl rfl) (res2 rfl rfl rfl) ⟨_, ⟨_, [], by rw [eP, e4], fragNoneB eP (by decide), rfl⟩, fun _ h => h.tail⟩
  ·
    refine Qt (Qb (Qe ?_))
    have hc := errC_ok (Classical.not_not.1 h14)
    have hty := ty67 hc
    refine Qg ?_
    refine Qa rfl rfl (Qd rfl rfl rfl) ?_
    refine Qf (Qb (Qe (Qe (Qg ?_))))
    refine Qa rfl rfl (Qc rfl rfl rfl) ?_
    refine Qa rfl rfl (Za rfl rfl Tryz.underlying32 rfl) ?_
    refine Qa rfl rfl (Qc rfl rfl rfl) ?_
    refine Qf (Qb (Qr ?_))
    refine TC_loop (γ := { t : Nat × Value × Heap // t.1 ≤ ys.length ∧ Frag 5 1 t.2.1 (bytesS L (ys.take t.1)).length (byV (bytesS L (ys.take t.1))) t.2.2 ∧ (ys.take t.1).all (fitS L) = true }) (fun u => [(2, true, .pointer (some ⟨b2, 0, none⟩)), (7, true, u.1.2.1), (16, true, .slice ad ys.length cap), (17, true, .int .i64 (ys.length : Int)), (18, true, .int .i64 (u.1.1 : Int))]) (fun u => St w0 ((b2, 27, L.cells) :: (u.1.2.2 ++ η))) (fun u => ys.length - u.1.1) ⟨(0, .slice none 0 0, []), Nat.zero_le _, Frag.nil _ _, rfl⟩ ⟨rfl, rfl, rfl, rfl, rfl, trivial⟩ (fun _ h => h) ?_
    rintro ⟨⟨i, bv, H⟩, hin, hF, hfit⟩
    dsimp only at hin hF hfit ⊢
    refine Qe (Qg ?_)
    refine Qa rfl rfl (QT_lss rfl rfl rfl rfl) ?_
    refine Qf (Qb (Qe ?_))
    refine Qm rfl (fun h19 => ?_) (fun h19 => ?_)
    ·
      have hi' : i < ys.length := by omega
      obtain ⟨y, hyi⟩ : ∃ y, ys[i]? = some y := ⟨_, List.getElem?_eq_getElem hi'⟩
      have hyF := hy y (List.mem_of_getElem? hyi)
      obtain ⟨hat1, hat2⟩ := flatS_at hy hyi
      obtain ⟨y0, Y, hyeq, h0, hY⟩ := id hyF
      have htk : ys.take (i + 1) = ys.take i ++ [y] := by rw [List.take_add_one, hyi]; rfl
      have hyl : (shV y).length = 49 := shV_len hyF.len
      have hyz : Sz Tryz.prog 102 (shV y).length := by rw [hyl]; exact KF.sz_102
      have hyi2 := shV_ints hyF
      have hb196 := bytesS_bd hc.1 hty (ys := ys.take i) fun z hz => hy z (List.mem_of_mem_take hz)
      have htl : (ys.take i).length = i := by rw [List.length_take]; omega
      rw [htl] at hb196
      have hsz2 := (szN_pos hc.1 hty y0).2
      have hpl : (packS L y).length ≤ 196 := by rw [packS_len hyF, hyeq]; exact hsz2
      have hthr := thr_L hc.1 hty h0 hY
      have hel : (encS L y).length ≤ 1568 := by rw [encS_len hyF]; exact (fS_tot hc.1 hty _).2.1
      have hfy : fitS L y = fitB (fS L y0) (y0 :: Y) := by rw [hyeq]; rfl
      have hey : encS L y = enc (fS L y0) (y0 :: Y) := by rw [hyeq]; rfl
      rw [← hfy, ← hey] at hthr
      have hspec := fun b9 b24 rb K0 (hK : RowAt rb [] K0) => through_spec (layer_ok w0 b24 rb) ((b2, 27, L.cells) :: (H ++ η)) ((b24, 267, [.pointer (some ⟨rb, 0, none⟩), .int .i64 0]) :: K0) L hc.1 hty ([], 0) b9 y0 Y h0 hY trivial ⟨K0, hK, rfl⟩ (by decide)
      rw [← hyeq] at hspec hthr
      obtain ⟨G, hGd⟩ : ∃ G, G = thr goL L y0 Y ([], 0) := ⟨_, rfl⟩
      rw [← hGd] at hthr hspec
      obtain ⟨zs, l, e⟩ := G
      obtain ⟨hz, hthr⟩ := hthr
      dsimp only at hz
      subst hz
      clear hGd hyeq
      refine Qt (Qb (Qe (Qr (Qe (Qg ?_)))))
      refine Qa rfl rfl (QT_indexG i rfl rfl Tryz.underlying32 KF.sz_102 rfl rfl rfl (fun _ => hi') (fun _ => had (by omega))) ?_
      refine Qa rfl rfl (Qy (out := shV zs) (i * 49) rfl rfl Tryz.underlying102 rfl KF.sz_102 (hrd.mono fun _ h => h.tail.app_right) rfl (fun _ => hat1) (fun _ => hat2)) ?_
      refine TL_e rfl rfl rfl (rfl) (ET_alloc rfl KF.zero_102) ?_
      rintro _ _ ⟨b9, rfl, rfl⟩
      refine TL_e0 rfl rfl (rfl) (ET_storeW (vs := shV zs) 0 rfl rfl rfl hyz rfl (List.all_eq_true.2 hyi2.oneCell) (by rw [hyl]; rfl)) ?_
      rintro _ _ ⟨rfl, rfl⟩
      refine Qf (Qb (Qe (Qg ?_)))
      refine TL_e rfl rfl rfl (rfl) (ET_call rfl KF.cal_141 rfl (newRowS w0 _)) ?_
      rintro _ _ ⟨rb, K0, rfl, hK0, rfl⟩
      refine Qa rfl rfl (QT_build rfl rfl KF.zero_267 KF.pl_267 rfl rfl rfl) ?_
      refine TL_e rfl rfl rfl (rfl) (ET_box rfl rfl) ?_
      rintro _ _ ⟨b24, rfl, rfl⟩
      refine Qa rfl rfl (Qd rfl rfl rfl) ?_
      refine Qf (Qb (Qe (Qe ?_)))
      refine TC_A (St w0 ((b9, 102, shV zs) :: (((b24, 267, [.pointer (some ⟨rb, 0, none⟩), .int .i64 0]) :: K0) ++ ((b2, 27, L.cells) :: (H ++ η))))) (fun w h => (show St w0 ((b24, 267, [.pointer (some ⟨rb, 0, none⟩), .int .i64 0]) :: (K0 ++ ((b9, 102, shV zs) :: (b2, 27, L.cells) :: (H ++ η)))) w from h).cnt fun p => by simp only [List.countP_append, List.countP_cons]; omega) ?_
      refine Qg ?_
      refine Qa rfl rfl (Qy (cs := L.cells) (out := L.cells) 0 rfl rfl Tryz.underlying27 rfl KF.sz_27 ((Rd.own (w0 := w0) (η := [(b2, 27, L.cells)]) 0 rfl).mono fun w h => h.cnt fun p => by simp only [List.countP_append, List.countP_cons, List.countP_nil]; omega) rfl (fun _ => Nat.le_refl 18) (fun _ => rfl)) ?_
      refine Qa rfl rfl (Qc rfl rfl rfl) ?_
      refine Qa rfl rfl (QT_makeIface rfl rfl Tryz.underlying265 rfl rfl) ?_
      refine TL_e rfl rfl rfl (rfl) (ET_call rfl KF.cal_146 rfl (hspec b9 b24 rb K0 hK0)) ?_
      rintro _ _ ⟨rfl, K', hK', rfl⟩
      refine Qf (Qb (Qe ?_))
      obtain ⟨K1, hK1, rfl⟩ := hK'
      dsimp only at hK1
      refine Qg ?_
      refine Qa rfl rfl (Qc rfl rfl rfl) ?_
      refine Qa rfl rfl (Qv rfl rfl rfl) ?_
      refine Qa rfl rfl (Qh rfl rfl KF.fld_267_1 rfl) ?_
      refine Qa rfl rfl (Qj (v := .int .i64 e) 1 rfl rfl Tryz.underlying35 rfl rfl rfl (fun _ => rfl)) ?_
      refine Qa rfl rfl (QT_neq rfl rfl rfl rfl) ?_
      refine Qf (Qb ?_)
      refine Qm rfl (fun h33 => ?_) (fun h33 => ?_)
      ·
        refine Qe ?_
        refine TC_draw [(0, 0), (1, 0), (2, 0), (3, 0), (4, 0), (5, 0)] KF.mixed (by kernel_rfl) (St.calm _ _) ?_
        refine Qk rfl rfl rfl (fun _ => Qc rfl rfl rfl) ?_
        refine Qk rfl rfl rfl (fun _ => Qv rfl rfl rfl) ?_
        refine Qk rfl rfl rfl (fun _ => Qh rfl rfl KF.fld_267_1 rfl) ?_
        refine Qz rfl rfl rfl (Qj (v := .int .i64 e) 1 rfl rfl Tryz.underlying35 rfl rfl rfl (fun _ => rfl)) ?_
        refine Qk rfl rfl rfl (fun _ => Qd rfl rfl rfl) ?_
        refine Qk rfl rfl rfl (fun _ => Qd rfl rfl rfl) ?_
        refine TV_end (Qb ?_)
        refine Qu ?_
        refine Qn ?_
        refine Zc ?_
        refine Qn ?_
        refine Qn ?_
        refine Zc ?_
        refine Qn ?_
        have hbad : fitS L zs = false := by
          cases hf : fitS L zs with
          | false => rfl
          | true =>
            rw [hf, if_pos rfl] at hthr
            simp only [Prod.mk.injEq] at hthr
            exact absurd hthr.2 h33
        rw [hbad, if_neg (by decide)] at hthr
        have e1 : e = 1 := hthr
        have eP : errP L ys = 1 := by
          unfold errP
          rw [if_pos hc, if_neg]
          intro ha
          have := List.all_eq_true.1 ha zs (List.mem_of_getElem? hyi)
          rw [hbad] at this
          exact absurd this (by decide)
        exact Qs (.inl rfl) (res2 rfl rfl rfl) ⟨_, ⟨_, [], by rw [eP, e1], fragNoneB eP (by decide), rfl⟩, fun w h => h.cnt fun p => by simp only [List.countP_append, List.countP_cons, List.countP_nil]; omega⟩
      ·
        refine Qt (Qb ?_)
        have hok1 : fitS L zs = true := by
          cases hf : fitS L zs with
          | true => rfl
          | false =>
            rw [hf, if_neg (by decide)] at hthr
            have e1 : e = 1 := hthr
            rw [e1] at h33
            exact absurd (Classical.not_not.1 h33) (by decide)
        rw [hok1, if_pos rfl] at hthr
        simp only [Prod.mk.injEq] at hthr
        obtain ⟨rfl, rfl⟩ := hthr
        have hbx := RowAt.bytesX (w0 := w0) [(b9, 102, shV zs), (b24, 267, [.pointer (some ⟨rb, 0, none⟩), .int .i64 0])] ((b2, 27, L.cells) :: (H ++ η)) hK1 (by omega)
        rw [show packB (encS L zs) = packS L zs from rfl] at hbx
        refine Qg ?_
        refine Qa rfl rfl (Qc rfl rfl rfl) ?_
        refine Qa rfl rfl (Qc rfl rfl rfl) ?_
        refine Qa rfl rfl (Qv rfl rfl rfl) ?_
        refine Qa rfl rfl (Qh rfl rfl KF.fld_267_0 rfl) ?_
        refine Qa rfl rfl (Qj (v := .pointer (some ⟨rb, 0, none⟩)) 1 rfl rfl Tryz.underlying258 rfl rfl rfl (fun _ => rfl)) ?_
        refine TL_e rfl rfl rfl (rfl) (ET_call rfl KF.cal_143 rfl (hbx)) ?_
        rintro nv _ ⟨H2, hF2, rfl⟩
        refine TL_e rfl rfl rfl (rfl) (ET_appendL (η := η) (L := H2 ++ [(b2, 27, L.cells)]) rfl Tryz.underlying28 el_Byte rfl rfl hF (fun w h => h.cnt fun p => by simp only [List.countP_append, List.countP_cons, List.countP_nil]; omega) (hF2.within fun p => by simp only [List.countP_append]; omega) (byV_ints (packB_lt _)).oneCell (by omega) (by omega)) ?_
        rintro bv2 _ ⟨H', hF', rfl⟩
        refine Qa rfl rfl (Qd rfl rfl rfl) ?_
        refine Qf ?_
        refine Qo ?_
        refine Qb (Qg ?_)
        refine Qa rfl rfl (Zb rfl rfl rfl rfl (fun _ => ⟨by omega, by omega⟩)) ?_
        refine Qa rfl rfl (Qc rfl rfl rfl) ?_
        refine Qf ?_
        refine TX_round ⟨(i + 1, bv2, H'), hi', ?_, ?_⟩ (by show ys.length - (i + 1) < ys.length - i; omega) ⟨rfl, rfl, rfl, rfl, rfl, trivial⟩ (fun w h => h.cnt fun p => by simp only [List.countP_append, List.countP_cons, List.countP_nil]; omega)
        · have e : bytesS L (ys.take (i + 1)) = bytesS L (ys.take i) ++ packS L zs := by rw [htk, bytesS_append]; simp [bytesS]
          show Frag _ 1 _ (bytesS L (ys.take (i + 1))).length (byV (bytesS L (ys.take (i + 1)))) H'
          rw [e, List.length_append, byV_append]
          exact hF'
        · show (ys.take (i + 1)).all (fitS L) = true
          rw [htk, List.all_append, hfit]
          simp [hok1]
    ·
      refine Zd ?_
      refine Qi (Qi ?_)
      refine Qp ?_
      refine Qb (Qe (Qe ?_))
      obtain rfl : i = ys.length := by omega
      rw [List.take_of_length_le (Nat.le_refl _)] at hF hfit
      have hbl := bytesS_bd hc.1 hty hy
      obtain ⟨bad, bcap, rfl, _, _⟩ := hF.slice
      refine Qg ?_
      refine Qa rfl rfl (Qc rfl rfl rfl) ?_
      refine Qa rfl rfl (Za rfl rfl Tryz.underlying28 rfl) ?_
      refine Qa rfl rfl (QT_gtr rfl rfl rfl rfl) ?_
      refine Qf (Qb ?_)
      refine Qm rfl (fun h48 => ?_) (fun h48 => ?_)
      ·
        refine Qe (Qg ?_)
        refine Qa rfl rfl (Qd rfl rfl rfl) ?_
        refine Qa rfl rfl (Qd rfl rfl rfl) ?_
        refine Qf (Qb ?_)
        refine Qu ?_
        refine Qn ?_
        have eP : errP L ys = 3 := by unfold errP; rw [if_pos hc, if_pos hfit, if_pos (by omega)]
        exact Qs (.inl rfl) (res2 rfl rfl rfl) ⟨_, ⟨_, [], by rw [eP], fragNoneB eP (by decide), rfl⟩, fun w h => h.tail.app_right⟩
      ·
        refine Qt (Qb (Qe (Qg ?_)))
        refine Qa rfl rfl (Qc rfl rfl rfl) ?_
        refine TL_A (St w0 (H ++ η)) (fun _ h => h.tail) ?_
        refine TL_e rfl rfl rfl (rfl) (ET_call rfl KF.cal_144 rfl (clipB_spec w0 η H _ _ _ hF)) ?_
        rintro cv _ ⟨hF2, rfl⟩
        refine Qa rfl rfl (Qd rfl rfl rfl) ?_
        refine Qa rfl rfl (Qd rfl rfl rfl) ?_
        refine Qf (Qb ?_)
        refine Qu ?_
        have eP : errP L ys = 0 := by unfold errP; rw [if_pos hc, if_pos hfit, if_neg (by omega)]
        exact Qs (.inl rfl) (res2 rfl rfl rfl) ⟨_, ⟨cv, H, by rw [eP], by unfold outP; rw [if_pos eP]; exact hF2, rfl⟩, fun _ h => h⟩
end Go.Proofs.YtjdaglmkljbfkaaGreatDoor
namespace Go.Proofs.YtjdaglmkljbfkaaGreatDoor
open Go Go.Gx Go.RowKit
set_option maxRecDepth 100000
theorem QT_v {P : Program} {n : Nat} {ops : Array Oper} {o : Oper} {σ : Slots} {A : World → Prop} {g : Bool} {v v' : Value} (h : QT P n ops o σ A g v) (e : v = v') : QT P n ops o σ A g v' := e ▸ h
theorem slotV {σ : Slots} {t : Nat} {c : Bool} {v v' : Value} (hl : Go.Gx.look σ t = some (c, v)) (h : v = v') : Go.Gx.look σ t = some (c, v') := h ▸ hl
def okS (L : Lay) : Bool := decide (okB L = true ∧ 6 ≤ L.ty)
theorem rscheck_spec (w0 : Base) (η : Heap) (L : Lay) :
    CallsT Tryz.prog 108 [L.val] (St w0 η) fun v A' => v = .bool (okS L) ∧ A' = St w0 η := by
  refine CallsT.body Tryz.func108 rfl rfl ?_
  simp only [Tryz.ntmps108, slotsOf, Nat.reduceAdd]
  refine Qe (Qg ?_)
  refine TL_e rfl rfl rfl (rfl) (ET_box rfl rfl) ?_
  rintro _ _ ⟨b1, rfl, rfl⟩
  refine Qa rfl rfl (Qd rfl rfl rfl) ?_
  refine Qf (Qb (Qe (Qg ?_)))
  refine Qa rfl rfl (Ql 0 rfl rfl Tryz.underlying27 rfl rfl rfl KF.sz_27) ?_
  refine TL_cq rfl rfl rfl rfl KF.cal_28 rfl (fun _ => rcheck_spec w0 _ L) ?_
  refine Qa rfl rfl (QT_eql rfl rfl rfl rfl) ?_
  refine Qa rfl rfl (Qc rfl rfl rfl) ?_
  refine Qa rfl rfl (Qh rfl rfl KF.fld_27_0 rfl) ?_
  refine Qa rfl rfl (Qj 0 rfl rfl Tryz.underlying3 rfl rfl rfl (fun _ => rfl)) ?_
  refine Qa rfl rfl (QT_eql rfl rfl rfl rfl) ?_
  refine Qa rfl rfl (Qc rfl rfl rfl) ?_
  refine Qa rfl rfl (Qh rfl rfl KF.fld_27_0 rfl) ?_
  refine Qa rfl rfl (Qj 0 rfl rfl Tryz.underlying3 rfl rfl rfl (fun _ => rfl)) ?_
  refine Qa rfl rfl (QT_eql rfl rfl rfl rfl) ?_
  refine Qa rfl rfl (QT_or rfl rfl rfl rfl) ?_
  refine Qa rfl rfl (QT_and rfl rfl rfl rfl) ?_
  refine Qa rfl rfl (Qd rfl rfl rfl) ?_
  refine Qf (Qb ?_)
  refine Qu ?_
  exact Qs (.inl rfl) (res1 rfl rfl) ⟨_, ⟨by
    unfold okS errOf
    by_cases h : okB L = true
    · have := (okB_bounds h).2.2.2.1
      rw [if_pos h]
      congr 1
      rw [Bool.eq_iff_iff]
      simp [h]
      omega
    · simp [h], rfl⟩, (fun _ h => by first | exact h | exact h.tail | exact h.tail.tail | exact h.tail.tail.tail | exact h.tail.tail.tail.tail | exact h.tail.tail.tail.tail.tail | exact h.tail.tail.tail.tail.tail.tail | exact h.tail.tail.tail.tail.tail.tail.tail | exact h.tail.tail.tail.tail.tail.tail.tail.tail | exact h.tail.tail.tail.tail.tail.tail.tail.tail.tail | exact h.tail.tail.tail.tail.tail.tail.tail.tail.tail.tail | exact h.tail.tail.tail.tail.tail.tail.tail.tail.tail.tail.tail | exact h.tail.tail.tail.tail.tail.tail.tail.tail.tail.tail.tail.tail | exact h.tail.tail.tail.tail.tail.tail.tail.tail.tail.tail.tail.tail.tail)⟩
theorem shr_zero {v : Nat} {n : Int} (hv : v < 4294967296) (h0 : 0 ≤ n) : decide ((v : Int).fdiv (2 ^ (min n.toNat IntKind.u64.bits)) = 0) = decide (v < 2 ^ n.toNat) := by
 rw [shr64 hv h0, Bool.eq_iff_iff, decide_eq_true_eq, decide_eq_true_eq, show ((v / 2 ^ n.toNat : Nat) : Int) = 0 ↔ v / 2 ^ n.toNat = 0 by omega, Nat.div_eq_zero_iff]
 have := Nat.two_pow_pos n.toNat
 omega
theorem fitB_append : ∀ {a b : Ws} {xs zs : List Nat}, a.length = xs.length → fitB (a ++ b) (xs ++ zs) = (fitB a xs && fitB b zs)
 | [], b, [], zs, _ => by simp [fitB]
 | [], _, _ :: _, _, h => by simp at h
 | _ :: _, _, [], _, h => by simp at h
 | (w, m) :: a, b, x :: xs, zs, h => by
  simp only [List.cons_append, fitB]
  rw [fitB_append (by simpa using h), Bool.and_assoc]
def rmB (L : Lay) (x0 : Nat) (X : List Nat) (k : Nat) : Bool := decide (x0 < 2 ^ L.fl.toNat) && fitB ((wS L x0).take k) (X.take k)
theorem rmB_step {L : Lay} {x0 k w m x : Nat} {X : List Nat} (hw : (wS L x0)[k]? = some (w, m)) (hx : X[k]? = some x) : rmB L x0 X (k + 1) = (rmB L x0 X k && decide (x < 2 ^ w)) := by
 have h1 : k < (wS L x0).length := (List.getElem?_eq_some_iff.1 hw).1
 have h2 : k < X.length := (List.getElem?_eq_some_iff.1 hx).1
 unfold rmB
 rw [List.take_add_one, List.take_add_one, hw, hx]
 show (_ && fitB ((wS L x0).take k ++ [(w, m)]) (X.take k ++ [x])) = _
 rw [fitB_append (by rw [List.length_take, List.length_take]; omega), ← Bool.and_assoc]
 simp [fitB]
theorem rmB_all {L : Lay} {x0 : Nat} {X : List Nat} (h : X.length = 48) : rmB L x0 X 48 = fitS L (x0 :: X) := by
 unfold rmB fitS
 rw [List.take_of_length_le (by rw [wS_len]; exact Nat.le_refl _), List.take_of_length_le (by omega)]
 rfl
theorem eq0 : EqOk Tryz.prog 72 spotK := ⟨by kernel_rfl, by kernel_rfl, by kernel_rfl, by kernel_rfl⟩
theorem spot0 {a b : Nat} : eqC [.int .u32 (a : Int), .int .u32 (b : Int)] [.int .u32 0, .int .u32 0] = (decide (a < 2 ^ 0) && decide (b < 2 ^ 0)) := by
 rw [Bool.eq_iff_iff]
 simp [eqC, litOf]
set_option maxHeartbeats 1000000 in
theorem room_spec (w0 : Base) (η : Heap) (L : Lay) (hok : okB L = true) (hty : L.ty = 6 ∨ L.ty = 7) (y : List Nat) (hy : ShF y) :
    CallsT Tryz.prog 117 [L.val, .agg (shV y).toArray] (St w0 η) fun v A' => v = .bool (fitS L y) ∧ A' = St w0 η := by
  obtain ⟨x0, X, rfl, h0, hX⟩ := hy
  have hbd := okB_bounds hok
  have hfl := hbd.2.2.2.2.2 (by omega)
  have hp := (ptN_bd L x0).2.2
  have hc := (clN_bd L x0).2.2
  have hparts := fun A => parts_spec w0 A L (x0 : Int) (by omega)
  rw [hp, hc] at hparts
  refine CallsT.body Tryz.func117 rfl rfl ?_
  simp only [Tryz.ntmps117, slotsOf, Nat.reduceAdd]
  refine Qe (Qg ?_)
  refine TL_e rfl rfl rfl (rfl) (ET_box rfl rfl) ?_
  rintro _ _ ⟨b2, rfl, rfl⟩
  refine TL_e rfl rfl rfl (rfl) (ET_box rfl rfl) ?_
  rintro _ _ ⟨b3, rfl, rfl⟩
  refine Qa rfl rfl (Qd rfl rfl rfl) ?_
  refine Qf (Qb (Qe ?_))
  refine TC_A (St w0 ((b3, 102, shV (x0 :: X)) :: (b2, 27, L.cells) :: η)) (fun _ h => h) ?_
  refine Qg ?_
  refine Qa rfl rfl (Ql 1 rfl rfl Tryz.underlying27 rfl rfl rfl KF.sz_27) ?_
  refine Qa rfl rfl (Qh rfl rfl KF.fld_102_0 rfl) ?_
  refine Qa rfl rfl (Qj (v := .int .u8 (x0 : Int)) 0 rfl rfl Tryz.underlying5 rfl rfl rfl (fun _ => shV_at (xs := x0 :: X) (p := 0) (by decide) rfl)) ?_
  refine TL_cq rfl rfl rfl rfl KF.cal_110 rfl (fun _ => hparts _) ?_
  refine Qa rfl rfl (Qc rfl rfl rfl) ?_
  refine Qa rfl rfl (Qx rfl rfl rfl rfl) ?_
  refine Qa rfl rfl (Qx rfl rfl rfl rfl) ?_
  refine Qa rfl rfl (Qd rfl rfl rfl) ?_
  refine Qa rfl rfl (Qd rfl rfl rfl) ?_
  refine Qf (Qb (Qe (Qg ?_)))
  refine Qa rfl rfl (Qh rfl rfl KF.fld_102_0 rfl) ?_
  refine Qa rfl rfl (Qj (v := .int .u8 (x0 : Int)) 0 rfl rfl Tryz.underlying5 rfl rfl rfl (fun _ => shV_at (xs := x0 :: X) (p := 0) (by decide) rfl)) ?_
  refine Qa rfl rfl (QT_convN rfl rfl Tryz.underlying5 Tryz.underlying230 rfl (IntWalk.u64_in _ ⟨by omega, by omega⟩)) ?_
  refine Qa rfl rfl (Qh rfl rfl KF.fld_27_3 rfl) ?_
  refine Qa rfl rfl (Qj 1 rfl rfl Tryz.underlying3 rfl rfl rfl (fun _ => rfl)) ?_
  refine Qa rfl rfl (QT_shr rfl rfl rfl rfl (fun _ => by omega)) ?_
  refine Qa rfl rfl (QT_v (QT_eql rfl rfl rfl rfl) (congrArg Value.bool (shr_zero (v := x0) (by omega) (by omega)))) ?_
  refine Qa rfl rfl (Qd rfl rfl rfl) ?_
  refine Qf (Qb (Qe (Qe (Qg ?_))))
  refine Qa rfl rfl (Qd rfl rfl rfl) ?_
  refine Qf (Qb (Qr ?_))
  refine TC_loop (γ := { i : Nat // i ≤ 16 }) (fun u => [(2, true, .pointer (some ⟨b2, 0, none⟩)), (3, true, .pointer (some ⟨b3, 0, none⟩)), (5, true, .int .i64 (ptN L x0 : Int)), (6, true, .int .i64 (clN L x0 : Int)), (7, true, .bool (rmB L x0 X (2 * u.1))), (8, true, .int .i64 (u.1 : Int))]) (fun _ => St w0 ((b3, 102, shV (x0 :: X)) :: (b2, 27, L.cells) :: η)) (fun u => 16 - u.1) ⟨0, by decide⟩ ⟨rfl, rfl, rfl, rfl, slotV rfl (by show Value.bool _ = .bool (rmB L x0 X 0); unfold rmB; simp [fitB]), rfl, trivial⟩ (fun _ h => h) ?_
  rintro ⟨i, hi⟩
  dsimp only
  refine Qe (Qe (Qg ?_))
  refine Qa rfl rfl (Qc rfl rfl rfl) ?_
  refine Qa rfl rfl (QT_lss rfl rfl rfl rfl) ?_
  refine Qf (Qb ?_)
  refine Qm rfl (fun h26 => ?_) (fun h26 => ?_)
  ·
    have hi16 : i < 16 := by omega
    obtain ⟨a, ha⟩ := get48 hX.len (show 2 * i < 48 by omega)
    obtain ⟨b, hb⟩ := get48 hX.len (show 2 * i + 1 < 48 by omega)
    have ha32 := hX.pt ha (by omega)
    have hb32 := hX.pt hb (by omega)
    have hu1 : skK (2 * i + 1) = .u32 := by unfold skK; rw [if_neg (by omega), if_pos (by omega)]
    have hu2 : skK (2 * i + 2) = .u32 := by unfold skK; rw [if_neg (by omega), if_pos (by omega)]
    have hva := shV_at (xs := x0 :: X) (p := 2 * i + 1) (by omega) (by rw [List.getElem?_cons_succ]; exact ha)
    have hvb := shV_at (xs := x0 :: X) (p := 2 * i + 2) (by omega) (by rw [List.getElem?_cons_succ]; exact hb)
    rw [hu1] at hva
    rw [hu2] at hvb
    have e1 := rmB_step (L := L) (x0 := x0) (wS_pt hi16 (.inl rfl)) ha
    have e2 := rmB_step (L := L) (x0 := x0) (wS_pt hi16 (.inr rfl)) hb
    refine Qt (Qb (Qe (Qr (Qe (Qg ?_)))))
    refine Qa rfl rfl (Qc rfl rfl rfl) ?_
    refine Qa rfl rfl (Qc rfl rfl rfl) ?_
    refine Qa rfl rfl (QT_lss rfl rfl rfl rfl) ?_
    refine Qf (Qb ?_)
    refine Qm rfl (fun h31 => ?_) (fun h31 => ?_)
    ·
      have hw : wPt L x0 i = L.co.toNat := by unfold wPt; rw [if_pos (by omega)]
      rw [hw] at e1 e2
      refine TC_draw [(0, 0), (1, 0), (2, 0), (3, 0), (4, 0), (5, 0), (6, 0), (7, 0), (8, 0), (9, 0), (10, 0), (11, 0), (12, 0), (13, 0), (14, 0), (15, 0), (16, 0), (17, 0), (18, 0), (19, 0), (20, 0), (21, 0), (22, 0), (23, 0), (24, 0), (25, 0)] KF.mixed (by kernel_rfl) (St.calm _ _) ?_
      refine Qk rfl rfl rfl (fun _ => Qc rfl rfl rfl) ?_
      refine Qk rfl rfl rfl (fun _ => Qc rfl rfl rfl) ?_
      refine Qk rfl rfl rfl (fun _ => Qc rfl rfl rfl) ?_
      refine Qk rfl rfl rfl (fun _ => Qh rfl rfl KF.fld_102_1 rfl) ?_
      refine Qk rfl rfl rfl (fun _ => QT_indexArr i rfl rfl Tryz.underlying99 KF.sz_72 rfl rfl rfl (fun _ => hi16)) ?_
      refine Qk rfl rfl rfl (fun _ => Qh rfl rfl KF.fld_72_0 rfl) ?_
      refine Qz rfl rfl rfl (Qw (v := .int .u32 (a : Int)) (2 * i + 1) rfl rfl Tryz.underlying70 rfl (Rd.own 0 rfl) rfl (fun _ => hva)) ?_
      refine Qk rfl rfl rfl (fun _ => QT_convN rfl rfl Tryz.underlying70 Tryz.underlying230 rfl (IntWalk.u64_in _ ⟨by omega, by omega⟩)) ?_
      refine Qk rfl rfl rfl (fun _ => Qh rfl rfl KF.fld_27_1 rfl) ?_
      refine Qz rfl rfl rfl (Qj 1 rfl rfl Tryz.underlying3 rfl rfl rfl (fun _ => rfl)) ?_
      refine Qk rfl rfl rfl (fun _ => QT_shr rfl rfl rfl rfl (fun _ => by omega)) ?_
      refine Qk rfl rfl rfl (fun _ => QT_v (QT_eql rfl rfl rfl rfl) (congrArg Value.bool (shr_zero (v := a) ha32 (by omega)))) ?_
      refine Qk rfl rfl rfl (fun _ => QT_and rfl rfl rfl rfl) ?_
      refine Qk rfl rfl rfl (fun _ => Qc rfl rfl rfl) ?_
      refine Qk rfl rfl rfl (fun _ => Qc rfl rfl rfl) ?_
      refine Qk rfl rfl rfl (fun _ => Qh rfl rfl KF.fld_102_1 rfl) ?_
      refine Qk rfl rfl rfl (fun _ => QT_indexArr i rfl rfl Tryz.underlying99 KF.sz_72 rfl rfl rfl (fun _ => hi16)) ?_
      refine Qk rfl rfl rfl (fun _ => Qh rfl rfl KF.fld_72_1 rfl) ?_
      refine Qz rfl rfl rfl (Qw (v := .int .u32 (b : Int)) (2 * i + 2) rfl rfl Tryz.underlying70 rfl (Rd.own 0 rfl) rfl (fun _ => hvb)) ?_
      refine Qk rfl rfl rfl (fun _ => QT_convN rfl rfl Tryz.underlying70 Tryz.underlying230 rfl (IntWalk.u64_in _ ⟨by omega, by omega⟩)) ?_
      refine Qk rfl rfl rfl (fun _ => Qh rfl rfl KF.fld_27_1 rfl) ?_
      refine Qz rfl rfl rfl (Qj 1 rfl rfl Tryz.underlying3 rfl rfl rfl (fun _ => rfl)) ?_
      refine Qk rfl rfl rfl (fun _ => QT_shr rfl rfl rfl rfl (fun _ => by omega)) ?_
      refine Qk rfl rfl rfl (fun _ => QT_v (QT_eql rfl rfl rfl rfl) (congrArg Value.bool (shr_zero (v := b) hb32 (by omega)))) ?_
      refine Qk rfl rfl rfl (fun _ => QT_and rfl rfl rfl rfl) ?_
      refine Qk rfl rfl rfl (fun _ => Qd rfl rfl rfl) ?_
      refine TV_end ?_
      refine Qo ?_
      refine Qb (Qg ?_)
      refine Qa rfl rfl (Qc rfl rfl rfl) ?_
      refine Qa rfl rfl (Zb rfl rfl rfl rfl (fun _ => ⟨by omega, by omega⟩)) ?_
      refine Qa rfl rfl (Qd rfl rfl rfl) ?_
      refine Qf ?_
      exact TX_round ⟨i + 1, hi16⟩ (by show 16 - (i + 1) < 16 - i; omega) ⟨rfl, rfl, rfl, rfl, slotV rfl (by show Value.bool _ = .bool (rmB L x0 X (2 * i + 1 + 1)); rw [e2, e1]; try rw [Bool.and_assoc]), rfl, trivial⟩ (fun _ h => h)
    ·
      have hw : wPt L x0 i = 0 := by unfold wPt; rw [if_neg (by omega)]
      rw [hw] at e1 e2
      have hpart : ((shV (x0 :: X)).drop (2 * i + 1)).take 2 = [.int .u32 (a : Int), .int .u32 (b : Int)] := by
        apply List.ext_getElem?
        intro k
        rw [List.getElem?_take]
        match k with
        | 0 => rw [if_pos (by decide), List.getElem?_drop]; exact hva
        | 1 => rw [if_pos (by decide), List.getElem?_drop]; exact hvb
        | k + 2 => rw [if_neg (by omega)]; rfl
      have hlen : 2 * i + 1 + 2 ≤ (shV (x0 :: X)).length := by rw [shV_len (by rw [List.length_cons, hX.len])]; omega
      have hab : Ints spotK [.int .u32 (a : Int), .int .u32 (b : Int)] := by
        have h1 : IntKind.u32.min = 0 := rfl
        have h2 : IntKind.u32.max = 4294967295 := rfl
        exact .cons (by simp only [Lit.wf, Bool.and_eq_true, decide_eq_true_eq]; omega) (.cons (by simp only [Lit.wf, Bool.and_eq_true, decide_eq_true_eq]; omega) .nil)
      refine Qg ?_
      refine Qa rfl rfl (Qc rfl rfl rfl) ?_
      refine Qa rfl rfl (Qc rfl rfl rfl) ?_
      refine Qa rfl rfl (Qc rfl rfl rfl) ?_
      refine Qa rfl rfl (Qh rfl rfl KF.fld_102_1 rfl) ?_
      refine Qa rfl rfl (QT_indexArr i rfl rfl Tryz.underlying99 KF.sz_72 rfl rfl rfl (fun _ => hi16)) ?_
      refine Qa rfl rfl (Qy (out := [.int .u32 (a : Int), .int .u32 (b : Int)]) (2 * i + 1) rfl rfl Tryz.underlying72 rfl KF.sz_72 (Rd.own 0 rfl) rfl (fun _ => hlen) (fun _ => hpart)) ?_
      refine Qa rfl rfl (QT_build rfl rfl KF.zero_72 KF.pl_72 rfl rfl rfl) ?_
      refine Qa rfl rfl (QT_v (QT_eqA (ks := spotK) (ys := [.int .u32 0, .int .u32 0]) rfl rfl eq0 rfl rfl (fun _ => hab) (fun _ => .cons rfl (.cons rfl .nil))) (congrArg Value.bool spot0)) ?_
      refine Qa rfl rfl (QT_and rfl rfl rfl rfl) ?_
      refine Qa rfl rfl (Qd rfl rfl rfl) ?_
      refine Qf ?_
      refine Qo ?_
      refine Qb (Qg ?_)
      refine Qa rfl rfl (Qc rfl rfl rfl) ?_
      refine Qa rfl rfl (Zb rfl rfl rfl rfl (fun _ => ⟨by omega, by omega⟩)) ?_
      refine Qa rfl rfl (Qd rfl rfl rfl) ?_
      refine Qf ?_
      exact TX_round ⟨i + 1, hi16⟩ (by show 16 - (i + 1) < 16 - i; omega) ⟨rfl, rfl, rfl, rfl, slotV rfl (by show Value.bool _ = .bool (rmB L x0 X (2 * i + 1 + 1)); rw [e2, e1]; try rw [Bool.and_assoc]), rfl, trivial⟩ (fun _ h => h)
  ·
    refine Zd ?_
    refine Qi (Qi ?_)
    refine Qp ?_
    refine Qb (Qe (Qe ?_))
    obtain rfl : i = 16 := by omega
    refine Qg ?_
    refine Qa rfl rfl (Qd rfl rfl rfl) ?_
    refine Qf (Qb (Qr ?_))
    refine TC_loop (γ := { i : Nat // i ≤ 4 }) (fun u => [(2, true, .pointer (some ⟨b2, 0, none⟩)), (3, true, .pointer (some ⟨b3, 0, none⟩)), (6, true, .int .i64 (clN L x0 : Int)), (7, true, .bool (rmB L x0 X (32 + 4 * u.1))), (9, true, .int .i64 (u.1 : Int))]) (fun _ => St w0 ((b3, 102, shV (x0 :: X)) :: (b2, 27, L.cells) :: η)) (fun u => 4 - u.1) ⟨0, by decide⟩ ⟨rfl, rfl, rfl, rfl, rfl, trivial⟩ (fun _ h => h) ?_
    rintro ⟨c, hcc⟩
    dsimp only
    refine Qe (Qe (Qg ?_))
    refine Qa rfl rfl (Qc rfl rfl rfl) ?_
    refine Qa rfl rfl (QT_lss rfl rfl rfl rfl) ?_
    refine Qf (Qb ?_)
    refine Qm rfl (fun h67 => ?_) (fun h67 => ?_)
    ·
      have hc4 : c < 4 := by omega
      refine Qt (Qb (Qe (Qr (Qe (Qg ?_)))))
      refine Qa rfl rfl (Qd rfl rfl rfl) ?_
      refine Qf (Qb (Qr ?_))
      refine TC_loop (γ := { i : Nat // i ≤ 4 }) (fun u => [(2, true, .pointer (some ⟨b2, 0, none⟩)), (3, true, .pointer (some ⟨b3, 0, none⟩)), (6, true, .int .i64 (clN L x0 : Int)), (7, true, .bool (rmB L x0 X (32 + 4 * c + u.1))), (9, true, .int .i64 (c : Int)), (10, true, .int .i64 (u.1 : Int))]) (fun _ => St w0 ((b3, 102, shV (x0 :: X)) :: (b2, 27, L.cells) :: η)) (fun u => 4 - u.1) ⟨0, by decide⟩ ⟨rfl, rfl, rfl, rfl, rfl, rfl, trivial⟩ (fun _ h => h) ?_
      rintro ⟨d, hdd⟩
      dsimp only
      refine Qe (Qe (Qg ?_))
      refine Qa rfl rfl (Qc rfl rfl rfl) ?_
      refine Qa rfl rfl (QT_lss rfl rfl rfl rfl) ?_
      refine Qf (Qb ?_)
      refine Qm rfl (fun h71 => ?_) (fun h71 => ?_)
      ·
        have hd4 : d < 4 := by omega
        obtain ⟨a, ha⟩ := get48 hX.len (show 32 + 4 * c + d < 48 by omega)
        have ha16 := hX.cl ha (by omega)
        have hu1 : skK (32 + 4 * c + d + 1) = .u16 := by unfold skK; rw [if_neg (by omega), if_neg (by omega)]
        have hva := shV_at (xs := x0 :: X) (p := 32 + 4 * c + d + 1) (by omega) (by rw [List.getElem?_cons_succ]; exact ha)
        rw [hu1] at hva
        have e1 := rmB_step (L := L) (x0 := x0) (show (wS L x0)[32 + 4 * c + d]? = some (wCl L x0 (4 * c + d), 65536) by rw [Nat.add_assoc]; exact wS_cl (by omega)) ha
        have hwc : wCl L x0 (4 * c + d) = if c < clN L x0 ∧ d < L.cs.toNat then L.cm.toNat else 0 := by
          unfold wCl; rw [show (4 * c + d) / 4 = c by omega, show (4 * c + d) % 4 = d by omega]
        refine Qt (Qb (Qe (Qr (Qe (Qg ?_)))))
        refine Qa rfl rfl (Qc rfl rfl rfl) ?_
        refine Qa rfl rfl (Qc rfl rfl rfl) ?_
        refine Qa rfl rfl (QT_lss rfl rfl rfl rfl) ?_
        refine Qa rfl rfl (Qc rfl rfl rfl) ?_
        refine Qa rfl rfl (Qc rfl rfl rfl) ?_
        refine Qa rfl rfl (Qh rfl rfl KF.fld_27_4 rfl) ?_
        refine Qa rfl rfl (Qj 1 rfl rfl Tryz.underlying3 rfl rfl rfl (fun _ => rfl)) ?_
        refine Qa rfl rfl (QT_lss rfl rfl rfl rfl) ?_
        refine Qa rfl rfl (QT_and rfl rfl rfl rfl) ?_
        refine Qf (Qb ?_)
        refine TC_cond rfl (fun h82 => ?_) (fun h82 => ?_)
        ·
          simp only [Bool.and_eq_true, decide_eq_true_eq] at h82
          rw [hwc, if_pos (by omega)] at e1
          refine TC_draw [(0, 0), (1, 0), (2, 0), (3, 0), (4, 0), (5, 0), (6, 0), (7, 0), (8, 0), (9, 0), (10, 0), (11, 0), (12, 0), (13, 0), (14, 0)] KF.mixed (by kernel_rfl) (St.calm _ _) ?_
          refine Qk rfl rfl rfl (fun _ => Qc rfl rfl rfl) ?_
          refine Qk rfl rfl rfl (fun _ => Qc rfl rfl rfl) ?_
          refine Qk rfl rfl rfl (fun _ => Qc rfl rfl rfl) ?_
          refine Qk rfl rfl rfl (fun _ => Qc rfl rfl rfl) ?_
          refine Qk rfl rfl rfl (fun _ => Qh rfl rfl KF.fld_102_2 rfl) ?_
          refine Qk rfl rfl rfl (fun _ => QT_indexArr c rfl rfl Tryz.underlying100 KF.sz_75 rfl rfl rfl (fun _ => hc4)) ?_
          refine Qk rfl rfl rfl (fun _ => QT_indexArr d rfl rfl Tryz.underlying75 KF.sz_73 rfl rfl rfl (fun _ => hd4)) ?_
          refine Qz rfl rfl rfl (Qw (v := .int .u16 (a : Int)) (32 + 4 * c + d + 1) rfl rfl Tryz.underlying73 rfl (Rd.own 0 rfl) rfl (fun _ => hva)) ?_
          refine Qk rfl rfl rfl (fun _ => QT_convN rfl rfl Tryz.underlying73 Tryz.underlying230 rfl (IntWalk.u64_in _ ⟨by omega, by omega⟩)) ?_
          refine Qk rfl rfl rfl (fun _ => Qh rfl rfl KF.fld_27_2 rfl) ?_
          refine Qz rfl rfl rfl (Qj 1 rfl rfl Tryz.underlying3 rfl rfl rfl (fun _ => rfl)) ?_
          refine Qk rfl rfl rfl (fun _ => QT_shr rfl rfl rfl rfl (fun _ => by omega)) ?_
          refine Qk rfl rfl rfl (fun _ => QT_v (QT_eql rfl rfl rfl rfl) (congrArg Value.bool (shr_zero (v := a) (by omega) (by omega)))) ?_
          refine Qk rfl rfl rfl (fun _ => QT_and rfl rfl rfl rfl) ?_
          refine Qk rfl rfl rfl (fun _ => Qd rfl rfl rfl) ?_
          refine TV_end ?_
          refine Qo ?_
          refine Qb (Qg ?_)
          refine Qa rfl rfl (Qc rfl rfl rfl) ?_
          refine Qa rfl rfl (Zb rfl rfl rfl rfl (fun _ => ⟨by omega, by omega⟩)) ?_
          refine Qa rfl rfl (Qd rfl rfl rfl) ?_
          refine Qf ?_
          exact TX_round ⟨d + 1, hd4⟩ (by show 4 - (d + 1) < 4 - d; omega) ⟨rfl, rfl, rfl, slotV rfl (by show Value.bool _ = .bool (rmB L x0 X (32 + 4 * c + d + 1)); rw [e1]), rfl, rfl, trivial⟩ (fun _ h => h)
        ·
          rw [hwc, if_neg (by simp only [Bool.and_eq_false_iff, decide_eq_false_iff_not] at h82; omega)] at e1
          have hz : decide ((a : Int) = 0) = decide (a < 2 ^ 0) := by rw [Bool.eq_iff_iff]; simp
          refine Qg ?_
          refine Qa rfl rfl (Qc rfl rfl rfl) ?_
          refine Qa rfl rfl (Qc rfl rfl rfl) ?_
          refine Qa rfl rfl (Qc rfl rfl rfl) ?_
          refine Qa rfl rfl (Qc rfl rfl rfl) ?_
          refine Qa rfl rfl (Qh rfl rfl KF.fld_102_2 rfl) ?_
          refine Qa rfl rfl (QT_indexArr c rfl rfl Tryz.underlying100 KF.sz_75 rfl rfl rfl (fun _ => hc4)) ?_
          refine Qa rfl rfl (QT_indexArr d rfl rfl Tryz.underlying75 KF.sz_73 rfl rfl rfl (fun _ => hd4)) ?_
          refine Qa rfl rfl (Qw (v := .int .u16 (a : Int)) (32 + 4 * c + d + 1) rfl rfl Tryz.underlying73 rfl (Rd.own 0 rfl) rfl (fun _ => hva)) ?_
          refine Qa rfl rfl (QT_v (QT_eql rfl rfl rfl rfl) (congrArg Value.bool hz)) ?_
          refine Qa rfl rfl (QT_and rfl rfl rfl rfl) ?_
          refine Qa rfl rfl (Qd rfl rfl rfl) ?_
          refine Qf ?_
          refine Qo ?_
          refine Qb (Qg ?_)
          refine Qa rfl rfl (Qc rfl rfl rfl) ?_
          refine Qa rfl rfl (Zb rfl rfl rfl rfl (fun _ => ⟨by omega, by omega⟩)) ?_
          refine Qa rfl rfl (Qd rfl rfl rfl) ?_
          refine Qf ?_
          exact TX_round ⟨d + 1, hd4⟩ (by show 4 - (d + 1) < 4 - d; omega) ⟨rfl, rfl, rfl, slotV rfl (by show Value.bool _ = .bool (rmB L x0 X (32 + 4 * c + d + 1)); rw [e1]), rfl, rfl, trivial⟩ (fun _ h => h)
      ·
        refine Zd ?_
        refine Qi (Qi ?_)
        refine Qp ?_
        refine Qo ?_
        refine Qb ?_
        obtain rfl : d = 4 := by omega
        refine Qg ?_
        refine Qa rfl rfl (Qc rfl rfl rfl) ?_
        refine Qa rfl rfl (Zb rfl rfl rfl rfl (fun _ => ⟨by omega, by omega⟩)) ?_
        refine Qa rfl rfl (Qd rfl rfl rfl) ?_
        refine Qf ?_
        exact TX_round ⟨c + 1, hc4⟩ (by show 4 - (c + 1) < 4 - c; omega) ⟨rfl, rfl, rfl, rfl, rfl, trivial⟩ (fun _ h => h)
    ·
      refine Zd ?_
      refine Qi (Qi ?_)
      refine Qp ?_
      refine Qb (Qe (Qg ?_))
      refine Qa rfl rfl (Qc rfl rfl rfl) ?_
      refine Qa rfl rfl (Qd rfl rfl rfl) ?_
      refine Qf (Qb ?_)
      refine Qu ?_
      obtain rfl : c = 4 := by omega
      exact Qs (.inl rfl) (res1 rfl rfl) ⟨_, ⟨congrArg Value.bool (rmB_all hX.len), rfl⟩, (fun _ h => by first | exact h | exact h.tail | exact h.tail.tail | exact h.tail.tail.tail | exact h.tail.tail.tail.tail | exact h.tail.tail.tail.tail.tail | exact h.tail.tail.tail.tail.tail.tail | exact h.tail.tail.tail.tail.tail.tail.tail | exact h.tail.tail.tail.tail.tail.tail.tail.tail | exact h.tail.tail.tail.tail.tail.tail.tail.tail.tail | exact h.tail.tail.tail.tail.tail.tail.tail.tail.tail.tail | exact h.tail.tail.tail.tail.tail.tail.tail.tail.tail.tail.tail | exact h.tail.tail.tail.tail.tail.tail.tail.tail.tail.tail.tail.tail | exact h.tail.tail.tail.tail.tail.tail.tail.tail.tail.tail.tail.tail.tail)⟩
end Go.Proofs.YtjdaglmkljbfkaaGreatDoor
namespace Go.Proofs.YtjdaglmkljbfkaaGreatDoor
open Go Go.Gx Go.RowKit
set_option maxRecDepth 100000
theorem tot_take (ws : Ws) (k : Nat) : tot (ws.take k) ≤ tot ws := by
 have := tot_append (ws.take k) (ws.drop k)
 rw [List.take_append_drop] at this
 omega
section
variable {L : Lay} {bs : List Nat} {f a0 : Nat}
theorem skip_pt {p : Nat} (h1 : 2 * ptN L f ≤ p) (h2 : p < 32) : ∃ m, (wS L f)[p]? = some (0, m) :=
 ⟨_, by rw [wS_at (by omega), if_pos h2]; unfold wPt; rw [if_neg (by omega)]⟩
theorem skip_cl {p c : Nat} (hp : 32 ≤ p) (h2 : p < 48) (h : clN L f ≤ (p - 32) / 4 ∨ L.cs.toNat ≤ (p - 32) % 4) : ∃ m, (wS L f)[p]? = some (0, m) :=
 ⟨_, by rw [wS_at (by omega), if_neg (by omega)]; unfold wCl; rw [if_neg (by omega)]⟩
end
theorem lay_at {L : Lay} {k : Nat} {z : Int} {n : Nat} (h : L.cells[k]? = some (.int .i64 z)) (e : (n : Int) = z) : L.cells[k]? = some (.int .i64 (n : Int)) := by rw [e]; exact h
end Go.Proofs.YtjdaglmkljbfkaaGreatDoor
namespace Go.Proofs.YtjdaglmkljbfkaaGreatDoor
open Go Go.Gx Go.RowKit
set_option maxRecDepth 100000
theorem fitB_at : ∀ {ws : Ws} {xs : List Nat}, fitB ws xs = true → ∀ {k w m x : Nat}, ws[k]? = some (w, m) → xs[k]? = some x → x < 2 ^ w
 | [], _, _, k, w, m, x, h, _ => by simp at h
 | _ :: _, [], _, k, w, m, x, _, h => by simp at h
 | (w, m) :: ws, x :: xs, h, 0, _, _, _, h1, h2 => by
  cases h1; cases h2
  simp only [fitB, Bool.and_eq_true, decide_eq_true_eq] at h
  exact h.1
 | (w, m) :: ws, x :: xs, h, k + 1, _, _, _, h1, h2 => by
  simp only [fitB, Bool.and_eq_true, decide_eq_true_eq] at h
  exact fitB_at h.2 h1 h2
theorem enc_append : ∀ {a b : Ws} {xs zs : List Nat}, a.length = xs.length → enc (a ++ b) (xs ++ zs) = enc a xs ++ enc b zs
 | [], b, [], zs, _ => by simp [enc]
 | [], _, _ :: _, _, h => by simp at h
 | _ :: _, _, [], _, h => by simp at h
 | (w, m) :: a, b, x :: xs, zs, h => by
  simp only [List.cons_append, enc]
  rw [enc_append (by simpa using h), List.append_assoc]
/-- the bits when the flag and k other numbers are put -/
def eK (L : Lay) (x0 : Nat) (X : List Nat) (k : Nat) : List Bool := bitsN L.fl.toNat x0 ++ enc ((wS L x0).take k) (X.take k)
theorem eK_step {L : Lay} {x0 k w m x : Nat} {X : List Nat} (hw : (wS L x0)[k]? = some (w, m)) (hx : X[k]? = some x) : eK L x0 X (k + 1) = eK L x0 X k ++ bitsN w x := by
 have h1 : k < (wS L x0).length := (List.getElem?_eq_some_iff.1 hw).1
 have h2 : k < X.length := (List.getElem?_eq_some_iff.1 hx).1
 unfold eK
 rw [List.take_add_one, List.take_add_one, hw, hx]
 show _ ++ enc ((wS L x0).take k ++ [(w, m)]) (X.take k ++ [x]) = _
 rw [enc_append (by rw [List.length_take, List.length_take]; omega), ← List.append_assoc]
 simp [enc]
theorem eK_skip {L : Lay} {x0 : Nat} {X : List Nat} (hX : X.length = 48) (k : Nat) : ∀ n, k + n ≤ 48 → (∀ p, k ≤ p → p < k + n → ∃ m, (wS L x0)[p]? = some (0, m)) → eK L x0 X (k + n) = eK L x0 X k
 | 0, _, _ => rfl
 | n + 1, hn, h => by
  obtain ⟨m, hm⟩ := h (k + n) (by omega) (by omega)
  obtain ⟨x, hx⟩ := get48 hX (show k + n < 48 by omega)
  rw [← Nat.add_assoc, eK_step hm hx, eK_skip hX k n (by omega) fun p h1 h2 => h p h1 (by omega)]
  simp [bitsN]
theorem eK_all {L : Lay} {x0 : Nat} {X : List Nat} (hX : X.length = 48) : eK L x0 X 48 = encS L (x0 :: X) := by
 unfold eK
 rw [List.take_of_length_le (by rw [wS_len]; exact Nat.le_refl _), List.take_of_length_le (by omega)]
 rfl
theorem eK_len {L : Lay} (hok : okB L = true) (hty : L.ty = 6 ∨ L.ty = 7) {x0 : Nat} {X : List Nat} (hX : X.length = 48) {k : Nat} (hk : k ≤ 48) : (eK L x0 X k).length ≤ 1568 := by
 have h1 := fS_tot hok hty x0
 have h2 : tot (fS L x0) = L.fl.toNat + tot (wS L x0) := tot_cons _ _
 have h3 := tot_take (wS L x0) k
 unfold eK
 rw [List.length_append, bitsN_len, enc_len (by rw [List.length_take, List.length_take, wS_len, hX])]
 omega
theorem putL_ok {l : List Bool} {v w : Nat} (hw : w ≤ 32) (hv : v < 2 ^ w) (h : l.length + w ≤ 524288) : putL l v w = l ++ bitsN w v := by
 unfold putL
 rw [if_pos (putE_zero hw hv h), Int.toNat_natCast]
theorem flatS_elem {ys : List (List Nat)} (h : ∀ y ∈ ys, ShF y) {i p : Nat} {y : List Nat} (hi : ys[i]? = some y) (hp : p < 49) : (flatS ys)[i * 49 + p]? = (shV y)[p]? := by
 rw [← (flatS_at h hi).2, List.getElem?_take, if_pos hp, List.getElem?_drop]
set_option maxHeartbeats 2000000 in
theorem rsput_spec (w0 : Base) (η : Heap) (L : Lay) (sv : Value) (ys : List (List Nat)) (hs : SlA (St w0 η) sv 49 ys.length (flatS ys)) (hy : ∀ y ∈ ys, ShF y) (hn : ys.length ≤ 100000000) :
    CallsT Tryz.prog 80 [L.val, sv] (St w0 η) fun v A' => ∃ bv H, v = .tuple #[bv, .int .i64 (errP L ys)] ∧ Frag 5 1 bv (outP L ys).length (byV (outP L ys)) H ∧ A' = St w0 (H ++ η) := by
  obtain ⟨hfl0, ad, cap, sb, so, rfl, hcap, had, hrd⟩ := hs.some
  refine CallsT.body Tryz.func80 rfl rfl ?_
  simp only [Tryz.ntmps80, slotsOf, Nat.reduceAdd]
  refine Qe (Qg ?_)
  refine TL_e rfl rfl rfl (rfl) (ET_box rfl rfl) ?_
  rintro _ _ ⟨b2, rfl, rfl⟩
  refine Qa rfl rfl (Qd rfl rfl rfl) ?_
  refine Qa rfl rfl (Qd rfl rfl rfl) ?_
  refine Qf (Qb (Qe (Qe (Qg ?_))))
  refine Qa rfl rfl (Ql 0 rfl rfl Tryz.underlying27 rfl rfl rfl KF.sz_27) ?_
  refine TL_cq rfl rfl rfl rfl KF.cal_108 rfl (fun _ => rscheck_spec w0 _ L) ?_
  refine Qa rfl rfl (QT_not rfl rfl rfl) ?_
  refine Qf (Qb ?_)
  refine TC_cond rfl (fun h17 => ?_) (fun h17 => ?_)
  ·
    refine Qe (Qg ?_)
    refine Qa rfl rfl (Qd rfl rfl rfl) ?_
    refine Qa rfl rfl (Qd rfl rfl rfl) ?_
    refine Qf (Qb ?_)
    refine Qu ?_
    refine Qn ?_
    have eP : errP L ys = 4 := by
      unfold errP; rw [if_neg]
      intro hc
      unfold okS at h17
      simp [hc.1, hc.2] at h17
    exact Qs (.inl rfl) (res2 rfl rfl rfl) ⟨_, ⟨_, [], by rw [eP], fragNoneB eP (by decide), rfl⟩, fun _ h => h.tail⟩
  ·
    refine Qt (Qb (Qe (Qe ?_)))
    have hc : okB L = true ∧ 6 ≤ L.ty := by
      unfold okS at h17
      simpa using h17
    have hty := ty67 hc
    have hbd := okB_bounds hc.1
    have hfl : (L.fl.toNat : Int) = L.fl := by have := hbd.2.2.2.2.2 (by omega); omega
    have hco : (L.co.toNat : Int) = L.co := by have := hbd.1; omega
    have hcm : (L.cm.toNat : Int) = L.cm := by have := hbd.2.1; omega
    have hcs : (L.cs.toNat : Int) = L.cs := by have := hbd.2.2.1; omega
    have hfl8 : L.fl.toNat ≤ 8 := by have := hbd.2.2.2.2.2 (by omega); omega
    have hco32 : L.co.toNat ≤ 32 := by have := hbd.1; omega
    have hcm16 : L.cm.toNat ≤ 16 := by have := hbd.2.1; omega
    have hcs4 : 1 ≤ L.cs.toNat ∧ L.cs.toNat ≤ 4 := by have := hbd.2.2.1; omega
    have lfl : L.cells[0 + 3]? = some (.int .i64 (L.fl.toNat : Int)) := lay_at rfl hfl
    have lco : L.cells[0 + 1]? = some (.int .i64 (L.co.toNat : Int)) := lay_at rfl hco
    have lcm : L.cells[0 + 2]? = some (.int .i64 (L.cm.toNat : Int)) := lay_at rfl hcm
    have lcs : L.cells[0 + 4]? = some (.int .i64 (L.cs.toNat : Int)) := lay_at rfl hcs
    generalize hFL : L.fl.toNat = FL at lfl hfl8
    generalize hCO : L.co.toNat = CO at lco hco32
    generalize hCM : L.cm.toNat = CM at lcm hcm16
    generalize hCS : L.cs.toNat = CS at lcs hcs4
    refine Qg ?_
    refine Qa rfl rfl (Qd rfl rfl rfl) ?_
    refine Qf (Qb (Qr ?_))
    refine TC_loop (γ := { i : Nat // i ≤ ys.length ∧ (ys.take i).all (fitS L) = true }) (fun u => [(1, true, .slice ad ys.length cap), (2, true, .pointer (some ⟨b2, 0, none⟩)), (6, true, .int .i64 (u.1 : Int))]) (fun u => St w0 ((b2, 27, L.cells) :: η)) (fun u => ys.length - u.1) ⟨0, Nat.zero_le _, rfl⟩ ⟨rfl, rfl, rfl, trivial⟩ (fun _ h => h) ?_
    rintro ⟨i, hin, hfit⟩
    dsimp only
    refine Qe (Qe (Qg ?_))
    refine Qa rfl rfl (Qc rfl rfl rfl) ?_
    refine Qa rfl rfl (Qc rfl rfl rfl) ?_
    refine Qa rfl rfl (Za rfl rfl Tryz.underlying32 rfl) ?_
    refine Qa rfl rfl (QT_lss rfl rfl rfl rfl) ?_
    refine Qf (Qb ?_)
    refine Qm rfl (fun h21 => ?_) (fun h21 => ?_)
    ·
      have hi' : i < ys.length := by omega
      obtain ⟨y, hyi⟩ : ∃ y, ys[i]? = some y := ⟨_, List.getElem?_eq_getElem hi'⟩
      have hyF := hy y (List.mem_of_getElem? hyi)
      obtain ⟨hat1, hat2⟩ := flatS_at hy hyi
      have htk : ys.take (i + 1) = ys.take i ++ [y] := by rw [List.take_add_one, hyi]; rfl
      refine Qt (Qb (Qe (Qr (Qe ?_))))
      refine TC_draw [(0, 0), (1, 0), (2, 0), (3, 0), (4, 0), (5, 1), (6, 0)] KF.mixed (by kernel_rfl) (St.calm _ _) ?_
      refine Qz rfl rfl rfl (Ql (cs := L.cells) 0 rfl rfl Tryz.underlying27 rfl rfl rfl KF.sz_27) ?_
      refine Qk rfl rfl rfl (fun _ => Qc rfl rfl rfl) ?_
      refine Qk rfl rfl rfl (fun _ => Qc rfl rfl rfl) ?_
      refine Qk rfl rfl rfl (fun _ => QT_indexG i rfl rfl Tryz.underlying32 KF.sz_102 rfl rfl rfl (fun _ => hi') (fun _ => had (by omega))) ?_
      refine Qz rfl rfl rfl (Qy (out := shV y) (i * 49) rfl rfl Tryz.underlying102 rfl KF.sz_102 (hrd.mono fun _ h => h.tail) rfl (fun _ => hat1) (fun _ => hat2)) ?_
      refine TV_cq rfl rfl rfl rfl rfl KF.cal_117 rfl (fun _ => room_spec w0 _ L hc.1 hty y hyF) (.drop (by kernel_rfl) (.drop (by kernel_rfl) (.nil))) ?_
      refine Qk rfl rfl rfl (fun _ => QT_not rfl rfl rfl) ?_
      refine TV_end (Qb ?_)
      refine TC_cond rfl (fun h30 => ?_) (fun h30 => ?_)
      ·
        refine Qe (Qg ?_)
        refine Qa rfl rfl (Qd rfl rfl rfl) ?_
        refine Qa rfl rfl (Qd rfl rfl rfl) ?_
        refine Qf (Qb ?_)
        refine Qu ?_
        refine Zc ?_
        refine Qn ?_
        refine Qn ?_
        refine Zc ?_
        refine Qn ?_
        have eP : errP L ys = 1 := by
          unfold errP
          rw [if_pos hc, if_neg]
          intro ha
          have := List.all_eq_true.1 ha y (List.mem_of_getElem? hyi)
          rw [this] at h30
          exact absurd h30 (by decide)
        exact Qs (.inl rfl) (res2 rfl rfl rfl) ⟨_, ⟨_, [], by rw [eP], fragNoneB eP (by decide), rfl⟩, fun _ h => h.tail⟩
      ·
        refine Qt ?_
        refine Qo ?_
        refine Qb (Qg ?_)
        refine Qa rfl rfl (Qc rfl rfl rfl) ?_
        refine Qa rfl rfl (Zb rfl rfl rfl rfl (fun _ => ⟨by omega, by omega⟩)) ?_
        refine Qa rfl rfl (Qd rfl rfl rfl) ?_
        refine Qf ?_
        refine TX_round ⟨i + 1, hi', ?_⟩ (by show ys.length - (i + 1) < ys.length - i; omega) ⟨rfl, rfl, rfl, trivial⟩ (fun _ h => h)
        rw [htk, List.all_append, hfit]
        simpa using h30
    ·
      refine Zd ?_
      refine Qi (Qi ?_)
      refine Qp ?_
      refine Qb (Qe ?_)
      obtain rfl : i = ys.length := by omega
      rw [List.take_of_length_le (Nat.le_refl _)] at hfit
      have hfit1 := List.all_eq_true.1 hfit
      refine Qg ?_
      refine Qa rfl rfl (Qd rfl rfl rfl) ?_
      refine Qf (Qb (Qe (Qe (Qg ?_))))
      refine Qa rfl rfl (Qd rfl rfl rfl) ?_
      refine Qf (Qb (Qr ?_))
      refine TC_loop (γ := { t : Nat × Value × Heap // t.1 ≤ ys.length ∧ Frag 5 1 t.2.1 (bytesS L (ys.take t.1)).length (byV (bytesS L (ys.take t.1))) t.2.2 }) (fun u => [(1, true, .slice ad ys.length cap), (2, true, .pointer (some ⟨b2, 0, none⟩)), (7, true, u.1.2.1), (8, true, .int .i64 (u.1.1 : Int))]) (fun u => St w0 ((b2, 27, L.cells) :: (u.1.2.2 ++ η))) (fun u => ys.length - u.1.1) ⟨(0, .slice none 0 0, []), Nat.zero_le _, Frag.nil _ _⟩ ⟨rfl, rfl, rfl, rfl, trivial⟩ (fun _ h => h) ?_
      rintro ⟨⟨i, bv, H⟩, hin, hF⟩
      dsimp only at hin hF ⊢
      refine Qe (Qe (Qg ?_))
      refine Qa rfl rfl (Qc rfl rfl rfl) ?_
      refine Qa rfl rfl (Qc rfl rfl rfl) ?_
      refine Qa rfl rfl (Za rfl rfl Tryz.underlying32 rfl) ?_
      refine Qa rfl rfl (QT_lss rfl rfl rfl rfl) ?_
      refine Qf (Qb ?_)
      refine Qm rfl (fun h34 => ?_) (fun h34 => ?_)
      ·
        have hi' : i < ys.length := by omega
        obtain ⟨y, hyi⟩ : ∃ y, ys[i]? = some y := ⟨_, List.getElem?_eq_getElem hi'⟩
        have hyF := hy y (List.mem_of_getElem? hyi)
        have hyfit := hfit1 y (List.mem_of_getElem? hyi)
        obtain rfl := had (by omega)
        have htk : ys.take (i + 1) = ys.take i ++ [y] := by rw [List.take_add_one, hyi]; rfl
        have hel := fun {p : Nat} (hp : p < 49) => flatS_elem hy hyi hp
        have hpk := packS_len (L := L) hyF
        have hb196 := bytesS_bd hc.1 hty (ys := ys.take i) fun z hz => hy z (List.mem_of_mem_take hz)
        have htl : (ys.take i).length = i := by rw [List.length_take]; omega
        rw [htl] at hb196
        obtain ⟨x0, X, rfl, h0, hX⟩ := hyF
        have hsz2 := (szN_pos hc.1 hty x0).2
        have hpl : (packS L (x0 :: X)).length ≤ 196 := by rw [hpk]; exact hsz2
        have hff : x0 < 2 ^ FL ∧ fitB (wS L x0) X = true := by
          unfold fitS at hyfit
          rw [← hFL]
          simpa only [List.headD_cons, fS, fitB, Bool.and_eq_true, decide_eq_true_eq] using hyfit
        obtain ⟨hff0, hffX⟩ := hff
        have hparts := fun A => parts_spec w0 A L (x0 : Int) (by omega)
        rw [(ptN_bd L x0).2.2, (clN_bd L x0).2.2] at hparts
        have hpt16 := ptN_bd L x0
        have hcl4 := clN_bd L x0
        have e0 : eK L x0 X 0 = bitsN FL x0 := by unfold eK; rw [List.take_zero, List.take_zero, hFL]; simp [enc]
        have hv0 : (flatS ys)[i * 49 + 0]? = some (.int .u8 (x0 : Int)) := by rw [hel (by decide)]; exact shV_at (xs := x0 :: X) (p := 0) (by decide) rfl
        have heL := fun k (hk : k ≤ 48) => eK_len (L := L) hc.1 hty (x0 := x0) hX.len hk
        have hLr := fun (K : Heap) => (Rd.own (w0 := w0) (η := (b2, 27, L.cells) :: (H ++ η)) 0 rfl).mono fun w (h : St w0 (K ++ ((b2, 27, L.cells) :: (H ++ η))) w) => h.app_right
        have hSr := fun (K : Heap) => hrd.mono fun w (h : St w0 (K ++ ((b2, 27, L.cells) :: (H ++ η))) w) => h.app_right.tail.app_right
        refine Qt (Qb (Qe (Qr (Qe (Qg ?_)))))
        refine TL_e rfl rfl rfl (rfl) (ET_call rfl KF.cal_114 rfl (rnew_spec w0 _)) ?_
        rintro _ _ ⟨mb, K, rfl, hK, rfl⟩
        refine Qa rfl rfl (Qd rfl rfl rfl) ?_
        refine Qf (Qb (Qe ?_))
        refine TC_draw [(0, 0), (1, 0), (2, 0), (3, 0), (4, 0), (5, 0), (6, 1), (7, 0), (8, 0), (9, 0), (10, 0), (11, 0)] KF.mixed (by kernel_rfl) (St.calm _ _) ?_
        refine Qz rfl rfl rfl (Qy (cs := L.cells) (out := L.cells) 0 rfl rfl Tryz.underlying27 rfl KF.sz_27 (hLr _) rfl (fun _ => Nat.le_refl 18) (fun _ => rfl)) ?_
        refine Qk rfl rfl rfl (fun _ => Qc rfl rfl rfl) ?_
        refine Qk rfl rfl rfl (fun _ => Qc rfl rfl rfl) ?_
        refine Qk rfl rfl rfl (fun _ => QT_indexG i rfl rfl Tryz.underlying32 KF.sz_102 rfl rfl rfl (fun _ => hi') (fun _ => rfl)) ?_
        refine Qk rfl rfl rfl (fun _ => Qh rfl rfl KF.fld_102_0 rfl) ?_
        refine Qz rfl rfl rfl (Qw (v := .int .u8 (x0 : Int)) (i * 49 + 0) rfl rfl Tryz.underlying5 rfl (hSr _) rfl (fun _ => hv0)) ?_
        refine TV_cq rfl rfl rfl rfl rfl KF.cal_110 rfl (fun _ => hparts _) (.drop (by kernel_rfl) (.drop (by kernel_rfl) (.nil))) ?_
        refine Qk rfl rfl rfl (fun _ => Qc rfl rfl rfl) ?_
        refine Qk rfl rfl rfl (fun _ => Qx rfl rfl rfl rfl) ?_
        refine Qk rfl rfl rfl (fun _ => Qx rfl rfl rfl rfl) ?_
        refine Qk rfl rfl rfl (fun _ => Qd rfl rfl rfl) ?_
        refine Qk rfl rfl rfl (fun _ => Qd rfl rfl rfl) ?_
        refine TV_end (Qb (Qe ?_))
        refine TC_draw [(0, 0), (1, 0), (2, 0), (3, 0), (4, 0), (5, 0), (6, 0), (7, 0), (8, 0), (9, 1)] KF.mixed (by kernel_rfl) (St.calm _ _) ?_
        refine Qk rfl rfl rfl (fun _ => Qc rfl rfl rfl) ?_
        refine Qk rfl rfl rfl (fun _ => Qc rfl rfl rfl) ?_
        refine Qk rfl rfl rfl (fun _ => Qc rfl rfl rfl) ?_
        refine Qk rfl rfl rfl (fun _ => QT_indexG i rfl rfl Tryz.underlying32 KF.sz_102 rfl rfl rfl (fun _ => hi') (fun _ => rfl)) ?_
        refine Qk rfl rfl rfl (fun _ => Qh rfl rfl KF.fld_102_0 rfl) ?_
        refine Qz rfl rfl rfl (Qw (v := .int .u8 (x0 : Int)) (i * 49 + 0) rfl rfl Tryz.underlying5 rfl (hSr _) rfl (fun _ => hv0)) ?_
        refine Qk rfl rfl rfl (fun _ => QT_convN rfl rfl Tryz.underlying5 Tryz.underlying70 rfl (IntWalk.u32_in _ ⟨by omega, by omega⟩)) ?_
        refine Qk rfl rfl rfl (fun _ => Qh rfl rfl KF.fld_27_3 rfl) ?_
        refine Qz rfl rfl rfl (Qw (v := .int .i64 (FL : Int)) 3 rfl rfl Tryz.underlying3 rfl (hLr _) rfl (fun _ => lfl)) ?_
        refine TV_e rfl rfl rfl rfl (rfl) (ET_call rfl KF.cal_115 rfl (rput_spec w0 _ K mb [] x0 FL hK (by omega) ⟨by omega, by omega⟩ (by decide))) ?_
        rintro _ _ ⟨K1, rfl, hK1, rfl⟩
        refine ⟨_, .drop (by kernel_rfl) (.keep (by kernel_rfl) rfl (by first | exact Qw (v := .int .u8 (x0 : Int)) (i * 49 + 0) rfl rfl Tryz.underlying5 rfl (hSr _) rfl (fun _ => hv0)) (.nil)), ?_⟩
        refine TV_end (Qb (Qe (Qe ?_)))
        rw [putL_ok (by omega) hff0 (by show 0 + FL ≤ 524288; omega), List.nil_append, ← e0] at hK1
        refine Qg ?_
        refine Qa rfl rfl (Qd rfl rfl rfl) ?_
        refine Qf (Qb (Qr ?_))
        refine TC_loop (γ := { t : Nat × Heap // t.1 ≤ ptN L x0 ∧ RefAt mb (eK L x0 X (2 * t.1)) t.2 }) (fun u => [(1, true, .slice (some ⟨sb, so, none⟩) ys.length cap), (2, true, .pointer (some ⟨b2, 0, none⟩)), (7, true, bv), (8, true, .int .i64 (i : Int)), (9, true, .pointer (some ⟨mb, 0, none⟩)), (10, true, .int .i64 (ptN L x0 : Int)), (11, true, .int .i64 (clN L x0 : Int)), (12, true, .int .i64 (u.1.1 : Int))]) (fun u => St w0 (u.1.2 ++ ((b2, 27, L.cells) :: (H ++ η)))) (fun u => ptN L x0 - u.1.1) ⟨(0, K1), Nat.zero_le _, hK1⟩ ⟨rfl, rfl, rfl, rfl, rfl, rfl, rfl, rfl, trivial⟩ (fun _ h => h) ?_
        rintro ⟨⟨j, K2⟩, hj, hK2⟩
        dsimp only at hj hK2 ⊢
        refine Qe (Qe (Qg ?_))
        refine Qa rfl rfl (Qc rfl rfl rfl) ?_
        refine Qa rfl rfl (Qc rfl rfl rfl) ?_
        refine Qa rfl rfl (QT_lss rfl rfl rfl rfl) ?_
        refine Qf (Qb ?_)
        refine Qm rfl (fun h60 => ?_) (fun h60 => ?_)
        ·
          have hjp : j < ptN L x0 := by omega
          have hj16 : j < 16 := by omega
          have hw : wPt L x0 j = CO := by unfold wPt; rw [if_pos hjp, hCO]
          have w1 := wS_pt (L := L) (f := x0) hj16 (p := 2 * j) (.inl rfl)
          have w2 := wS_pt (L := L) (f := x0) hj16 (p := 2 * j + 1) (.inr rfl)
          rw [hw] at w1 w2
          obtain ⟨a, ha⟩ := get48 hX.len (show 2 * j < 48 by omega)
          obtain ⟨b, hb⟩ := get48 hX.len (show 2 * j + 1 < 48 by omega)
          have ha32 := hX.pt ha (by omega)
          have hb32 := hX.pt hb (by omega)
          have hfa := fitB_at hffX w1 ha
          have hfb := fitB_at hffX w2 hb
          have s1 := eK_step w1 ha
          have s2 := eK_step w2 hb
          have hu1 : skK (2 * j + 1) = .u32 := by unfold skK; rw [if_neg (by omega), if_pos (by omega)]
          have hu2 : skK (2 * j + 2) = .u32 := by unfold skK; rw [if_neg (by omega), if_pos (by omega)]
          have hva : (flatS ys)[i * 49 + (2 * j + 1)]? = some (.int .u32 (a : Int)) := by
            rw [hel (by omega), ← hu1]
            exact shV_at (xs := x0 :: X) (p := 2 * j + 1) (by omega) (by rw [List.getElem?_cons_succ]; exact ha)
          have hvb : (flatS ys)[i * 49 + (2 * j + 2)]? = some (.int .u32 (b : Int)) := by
            rw [hel (by omega), ← hu2]
            exact shV_at (xs := x0 :: X) (p := 2 * j + 2) (by omega) (by rw [List.getElem?_cons_succ]; exact hb)
          have hl1 := heL (2 * j) (by omega)
          have hl2 := heL (2 * j + 1) (by omega)
          refine Qt (Qb (Qe (Qr (Qe ?_))))
          refine TC_draw [(0, 0), (1, 0), (2, 0), (3, 0), (4, 0), (5, 0), (6, 0), (7, 0), (8, 0), (9, 0), (10, 0), (11, 1)] KF.mixed (by kernel_rfl) (St.calm _ _) ?_
          refine Qk rfl rfl rfl (fun _ => Qc rfl rfl rfl) ?_
          refine Qk rfl rfl rfl (fun _ => Qc rfl rfl rfl) ?_
          refine Qk rfl rfl rfl (fun _ => Qc rfl rfl rfl) ?_
          refine Qk rfl rfl rfl (fun _ => Qc rfl rfl rfl) ?_
          refine Qk rfl rfl rfl (fun _ => QT_indexG i rfl rfl Tryz.underlying32 KF.sz_102 rfl rfl rfl (fun _ => hi') (fun _ => rfl)) ?_
          refine Qk rfl rfl rfl (fun _ => Qh rfl rfl KF.fld_102_1 rfl) ?_
          refine Qk rfl rfl rfl (fun _ => QT_indexArr j rfl rfl Tryz.underlying99 KF.sz_72 rfl rfl rfl (fun _ => hj16)) ?_
          refine Qk rfl rfl rfl (fun _ => Qh rfl rfl KF.fld_72_0 rfl) ?_
          refine Qz rfl rfl rfl (Qw (v := .int .u32 (a : Int)) (i * 49 + (2 * j + 1)) rfl rfl Tryz.underlying70 rfl (hSr _) rfl (fun _ => hva)) ?_
          refine Qk rfl rfl rfl (fun _ => Qh rfl rfl KF.fld_27_1 rfl) ?_
          refine Qz rfl rfl rfl (Qw (v := .int .i64 (CO : Int)) 1 rfl rfl Tryz.underlying3 rfl (hLr _) rfl (fun _ => lco)) ?_
          refine TV_e rfl rfl rfl rfl (rfl) (ET_call rfl KF.cal_115 rfl (rput_spec w0 _ K2 mb _ a CO hK2 ha32 ⟨by omega, by omega⟩ (by omega))) ?_
          rintro _ _ ⟨K3, rfl, hK3, rfl⟩
          refine ⟨_, .drop (by kernel_rfl) (.drop (by kernel_rfl) (.nil)), ?_⟩
          refine TV_end (Qb ?_)
          rw [putL_ok hco32 hfa (by omega), ← s1] at hK3
          refine TC_draw [(0, 0), (1, 0), (2, 0), (3, 0), (4, 0), (5, 0), (6, 0), (7, 0), (8, 0), (9, 0), (10, 0), (11, 1)] KF.mixed (by kernel_rfl) (St.calm _ _) ?_
          refine Qk rfl rfl rfl (fun _ => Qc rfl rfl rfl) ?_
          refine Qk rfl rfl rfl (fun _ => Qc rfl rfl rfl) ?_
          refine Qk rfl rfl rfl (fun _ => Qc rfl rfl rfl) ?_
          refine Qk rfl rfl rfl (fun _ => Qc rfl rfl rfl) ?_
          refine Qk rfl rfl rfl (fun _ => QT_indexG i rfl rfl Tryz.underlying32 KF.sz_102 rfl rfl rfl (fun _ => hi') (fun _ => rfl)) ?_
          refine Qk rfl rfl rfl (fun _ => Qh rfl rfl KF.fld_102_1 rfl) ?_
          refine Qk rfl rfl rfl (fun _ => QT_indexArr j rfl rfl Tryz.underlying99 KF.sz_72 rfl rfl rfl (fun _ => hj16)) ?_
          refine Qk rfl rfl rfl (fun _ => Qh rfl rfl KF.fld_72_1 rfl) ?_
          refine Qz rfl rfl rfl (Qw (v := .int .u32 (b : Int)) (i * 49 + (2 * j + 2)) rfl rfl Tryz.underlying70 rfl (hSr _) rfl (fun _ => hvb)) ?_
          refine Qk rfl rfl rfl (fun _ => Qh rfl rfl KF.fld_27_1 rfl) ?_
          refine Qz rfl rfl rfl (Qw (v := .int .i64 (CO : Int)) 1 rfl rfl Tryz.underlying3 rfl (hLr _) rfl (fun _ => lco)) ?_
          refine TV_e rfl rfl rfl rfl (rfl) (ET_call rfl KF.cal_115 rfl (rput_spec w0 _ K3 mb _ b CO hK3 hb32 ⟨by omega, by omega⟩ (by omega))) ?_
          rintro _ _ ⟨K4, rfl, hK4, rfl⟩
          refine ⟨_, .drop (by kernel_rfl) (.drop (by kernel_rfl) (.nil)), ?_⟩
          refine TV_end ?_
          refine Qo ?_
          refine Qb ?_
          rw [putL_ok hco32 hfb (by omega), ← s2] at hK4
          refine Qg ?_
          refine Qa rfl rfl (Qc rfl rfl rfl) ?_
          refine Qa rfl rfl (Zb rfl rfl rfl rfl (fun _ => ⟨by omega, by omega⟩)) ?_
          refine Qa rfl rfl (Qd rfl rfl rfl) ?_
          refine Qf ?_
          exact TX_round ⟨(j + 1, K4), hjp, hK4⟩ (by show ptN L x0 - (j + 1) < ptN L x0 - j; omega) ⟨rfl, rfl, rfl, rfl, rfl, rfl, rfl, rfl, trivial⟩ (fun _ h => h)
        ·
          refine Zd ?_
          refine Qi (Qi ?_)
          refine Qp ?_
          refine Qb (Qe (Qe ?_))
          obtain rfl : j = ptN L x0 := by omega
          have k1 := eK_skip (L := L) (x0 := x0) hX.len (2 * ptN L x0) (32 - 2 * ptN L x0) (by omega) fun p h1 h2 => skip_pt h1 (by omega)
          rw [show 2 * ptN L x0 + (32 - 2 * ptN L x0) = 32 by omega] at k1
          rw [← k1] at hK2
          refine Qg ?_
          refine Qa rfl rfl (Qd rfl rfl rfl) ?_
          refine Qf (Qb (Qr ?_))
          refine TC_loop (γ := { t : Nat × Heap // t.1 ≤ clN L x0 ∧ RefAt mb (eK L x0 X (32 + 4 * t.1)) t.2 }) (fun u => [(1, true, .slice (some ⟨sb, so, none⟩) ys.length cap), (2, true, .pointer (some ⟨b2, 0, none⟩)), (7, true, bv), (8, true, .int .i64 (i : Int)), (9, true, .pointer (some ⟨mb, 0, none⟩)), (11, true, .int .i64 (clN L x0 : Int)), (13, true, .int .i64 (u.1.1 : Int))]) (fun u => St w0 (u.1.2 ++ ((b2, 27, L.cells) :: (H ++ η)))) (fun u => clN L x0 - u.1.1) ⟨(0, K2), Nat.zero_le _, hK2⟩ ⟨rfl, rfl, rfl, rfl, rfl, rfl, rfl, trivial⟩ (fun _ h => h) ?_
          rintro ⟨⟨c, K5⟩, hcc, hK5⟩
          dsimp only at hcc hK5 ⊢
          refine Qe (Qe (Qg ?_))
          refine Qa rfl rfl (Qc rfl rfl rfl) ?_
          refine Qa rfl rfl (Qc rfl rfl rfl) ?_
          refine Qa rfl rfl (QT_lss rfl rfl rfl rfl) ?_
          refine Qf (Qb ?_)
          refine Qm rfl (fun h89 => ?_) (fun h89 => ?_)
          ·
            have hc4 : c < clN L x0 := by omega
            refine Qt (Qb (Qe (Qr (Qe (Qg ?_)))))
            refine Qa rfl rfl (Qd rfl rfl rfl) ?_
            refine Qf (Qb (Qr ?_))
            refine TC_loop (γ := { t : Nat × Heap // t.1 ≤ CS ∧ RefAt mb (eK L x0 X (32 + 4 * c + t.1)) t.2 }) (fun u => [(1, true, .slice (some ⟨sb, so, none⟩) ys.length cap), (2, true, .pointer (some ⟨b2, 0, none⟩)), (7, true, bv), (8, true, .int .i64 (i : Int)), (9, true, .pointer (some ⟨mb, 0, none⟩)), (11, true, .int .i64 (clN L x0 : Int)), (13, true, .int .i64 (c : Int)), (14, true, .int .i64 (u.1.1 : Int))]) (fun u => St w0 (u.1.2 ++ ((b2, 27, L.cells) :: (H ++ η)))) (fun u => CS - u.1.1) ⟨(0, K5), Nat.zero_le _, hK5⟩ ⟨rfl, rfl, rfl, rfl, rfl, rfl, rfl, rfl, trivial⟩ (fun _ h => h) ?_
            rintro ⟨⟨d, K6⟩, hdd, hK6⟩
            dsimp only at hdd hK6 ⊢
            refine Qe (Qe (Qg ?_))
            refine Qa rfl rfl (Qc rfl rfl rfl) ?_
            refine Qa rfl rfl (Qh rfl rfl KF.fld_27_4 rfl) ?_
            refine Qa rfl rfl (Qw (v := .int .i64 (CS : Int)) 4 rfl rfl Tryz.underlying3 rfl (hLr _) rfl (fun _ => lcs)) ?_
            refine Qa rfl rfl (QT_lss rfl rfl rfl rfl) ?_
            refine Qf (Qb ?_)
            refine Qm rfl (fun h95 => ?_) (fun h95 => ?_)
            ·
              have hd : d < CS := by omega
              have hw : wCl L x0 (4 * c + d) = CM := by unfold wCl; rw [show (4 * c + d) / 4 = c by omega, show (4 * c + d) % 4 = d by omega, if_pos ⟨hc4, by omega⟩, hCM]
              have w1 : (wS L x0)[32 + 4 * c + d]? = some (CM, 65536) := by rw [Nat.add_assoc, wS_cl (by omega), hw]
              obtain ⟨a, ha⟩ := get48 hX.len (show 32 + 4 * c + d < 48 by omega)
              have ha16 := hX.cl ha (by omega)
              have hfa := fitB_at hffX w1 ha
              have s1 := eK_step w1 ha
              have hu1 : skK (32 + 4 * c + d + 1) = .u16 := by unfold skK; rw [if_neg (by omega), if_neg (by omega)]
              have hva : (flatS ys)[i * 49 + (32 + 4 * c + d + 1)]? = some (.int .u16 (a : Int)) := by
                rw [hel (by omega), ← hu1]
                exact shV_at (xs := x0 :: X) (p := 32 + 4 * c + d + 1) (by omega) (by rw [List.getElem?_cons_succ]; exact ha)
              have hl1 := heL (32 + 4 * c + d) (by omega)
              refine Qt (Qb (Qe (Qr ?_)))
              refine TC_draw [(0, 0), (1, 0), (2, 0), (3, 0), (4, 0), (5, 0), (6, 0), (7, 0), (8, 0), (9, 0), (10, 0), (11, 0), (12, 0), (13, 1)] KF.mixed (by kernel_rfl) (St.calm _ _) ?_
              refine Qk rfl rfl rfl (fun _ => Qc rfl rfl rfl) ?_
              refine Qk rfl rfl rfl (fun _ => Qc rfl rfl rfl) ?_
              refine Qk rfl rfl rfl (fun _ => Qc rfl rfl rfl) ?_
              refine Qk rfl rfl rfl (fun _ => Qc rfl rfl rfl) ?_
              refine Qk rfl rfl rfl (fun _ => Qc rfl rfl rfl) ?_
              refine Qk rfl rfl rfl (fun _ => QT_indexG i rfl rfl Tryz.underlying32 KF.sz_102 rfl rfl rfl (fun _ => hi') (fun _ => rfl)) ?_
              refine Qk rfl rfl rfl (fun _ => Qh rfl rfl KF.fld_102_2 rfl) ?_
              refine Qk rfl rfl rfl (fun _ => QT_indexArr c rfl rfl Tryz.underlying100 KF.sz_75 rfl rfl rfl (fun _ => by omega)) ?_
              refine Qk rfl rfl rfl (fun _ => QT_indexArr d rfl rfl Tryz.underlying75 KF.sz_73 rfl rfl rfl (fun _ => by omega)) ?_
              refine Qz rfl rfl rfl (Qw (v := .int .u16 (a : Int)) (i * 49 + (32 + 4 * c + d + 1)) rfl rfl Tryz.underlying73 rfl (hSr _) rfl (fun _ => hva)) ?_
              refine Qk rfl rfl rfl (fun _ => QT_convN rfl rfl Tryz.underlying73 Tryz.underlying70 rfl (IntWalk.u32_in _ ⟨by omega, by omega⟩)) ?_
              refine Qk rfl rfl rfl (fun _ => Qh rfl rfl KF.fld_27_2 rfl) ?_
              refine Qz rfl rfl rfl (Qw (v := .int .i64 (CM : Int)) 2 rfl rfl Tryz.underlying3 rfl (hLr _) rfl (fun _ => lcm)) ?_
              refine TV_e rfl rfl rfl rfl (rfl) (ET_call rfl KF.cal_115 rfl (rput_spec w0 _ K6 mb _ a CM hK6 (by omega) ⟨by omega, by omega⟩ (by omega))) ?_
              rintro _ _ ⟨K7, rfl, hK7, rfl⟩
              refine ⟨_, .drop (by kernel_rfl) (.keep (by kernel_rfl) rfl (by first | exact Qw (v := .int .u16 (a : Int)) (i * 49 + (32 + 4 * c + d + 1)) rfl rfl Tryz.underlying73 rfl (hSr _) rfl (fun _ => hva)) (.nil)), ?_⟩
              refine TV_end ?_
              refine Qo ?_
              refine Qb ?_
              rw [putL_ok (by omega) hfa (by omega), ← s1] at hK7
              refine Qg ?_
              refine Qa rfl rfl (Qc rfl rfl rfl) ?_
              refine Qa rfl rfl (Zb rfl rfl rfl rfl (fun _ => ⟨by omega, by omega⟩)) ?_
              refine Qa rfl rfl (Qd rfl rfl rfl) ?_
              refine Qf ?_
              exact TX_round ⟨(d + 1, K7), hd, hK7⟩ (by show CS - (d + 1) < CS - d; omega) ⟨rfl, rfl, rfl, rfl, rfl, rfl, rfl, rfl, trivial⟩ (fun _ h => h)
            ·
              refine Zd ?_
              refine Qi (Qi ?_)
              refine Qp ?_
              refine Qo ?_
              refine Qb ?_
              obtain rfl : d = CS := by omega
              have k3 := eK_skip (L := L) (x0 := x0) hX.len (32 + 4 * c + d) (4 - d) (by omega) fun p h1 h2 => skip_cl (c := c) (by omega) (by omega) (.inr (by omega))
              rw [show 32 + 4 * c + d + (4 - d) = 32 + 4 * (c + 1) by omega] at k3
              rw [← k3] at hK6
              refine Qg ?_
              refine Qa rfl rfl (Qc rfl rfl rfl) ?_
              refine Qa rfl rfl (Zb rfl rfl rfl rfl (fun _ => ⟨by omega, by omega⟩)) ?_
              refine Qa rfl rfl (Qd rfl rfl rfl) ?_
              refine Qf ?_
              exact TX_round ⟨(c + 1, K6), hc4, hK6⟩ (by show clN L x0 - (c + 1) < clN L x0 - c; omega) ⟨rfl, rfl, rfl, rfl, rfl, rfl, rfl, trivial⟩ (fun _ h => h)
          ·
            refine Zd ?_
            refine Qi (Qi ?_)
            refine Qp ?_
            refine Qb ?_
            obtain rfl : c = clN L x0 := by omega
            have k5 := eK_skip (L := L) (x0 := x0) hX.len (32 + 4 * clN L x0) (48 - (32 + 4 * clN L x0)) (by omega) fun p h1 h2 => skip_cl (c := 0) (by omega) (by omega) (.inl (by omega))
            rw [show 32 + 4 * clN L x0 + (48 - (32 + 4 * clN L x0)) = 48 by omega, eK_all hX.len] at k5
            rw [← k5] at hK5
            have hl5 : (encS L (x0 :: X)).length ≤ 1568 := by rw [← eK_all hX.len]; exact heL 48 (Nat.le_refl _)
            have hbx := RefAt.bytesX (w0 := w0) ((b2, 27, L.cells) :: (H ++ η)) hK5 (by omega)
            rw [show packB (encS L (x0 :: X)) = packS L (x0 :: X) from rfl] at hbx
            refine Qg ?_
            refine Qa rfl rfl (Qc rfl rfl rfl) ?_
            refine Qa rfl rfl (Qc rfl rfl rfl) ?_
            refine TL_e rfl rfl rfl (rfl) (ET_call rfl KF.cal_116 rfl (hbx)) ?_
            rintro nv _ ⟨H2, hF2, rfl⟩
            refine TL_e rfl rfl rfl (rfl) (ET_appendL (η := η) (L := H2 ++ [(b2, 27, L.cells)]) rfl Tryz.underlying28 el_Byte rfl rfl hF (fun w h => h.cnt fun p => by simp only [List.countP_append, List.countP_cons, List.countP_nil]; omega) (hF2.within fun p => by simp only [List.countP_append]; omega) (byV_ints (packB_lt _)).oneCell (by omega) (by omega)) ?_
            rintro bv2 _ ⟨H', hF', rfl⟩
            refine Qa rfl rfl (Qd rfl rfl rfl) ?_
            refine Qf ?_
            refine Qo ?_
            refine Qb (Qg ?_)
            refine Qa rfl rfl (Qc rfl rfl rfl) ?_
            refine Qa rfl rfl (Zb rfl rfl rfl rfl (fun _ => ⟨by omega, by omega⟩)) ?_
            refine Qa rfl rfl (Qd rfl rfl rfl) ?_
            refine Qf ?_
            refine TX_round ⟨(i + 1, bv2, H'), hi', ?_⟩ (by show ys.length - (i + 1) < ys.length - i; omega) ⟨rfl, rfl, rfl, rfl, trivial⟩ (fun w h => h.cnt fun p => by simp only [List.countP_append, List.countP_cons, List.countP_nil]; omega)
            have e : bytesS L (ys.take (i + 1)) = bytesS L (ys.take i) ++ packS L (x0 :: X) := by rw [htk, bytesS_append]; simp [bytesS]
            show Frag _ 1 _ (bytesS L (ys.take (i + 1))).length (byV (bytesS L (ys.take (i + 1)))) H'
            rw [e, List.length_append, byV_append]
            exact hF'
      ·
        refine Zd ?_
        refine Qi (Qi ?_)
        refine Qp ?_
        refine Qb (Qe (Qe ?_))
        obtain rfl : i = ys.length := by omega
        rw [List.take_of_length_le (Nat.le_refl _)] at hF
        obtain ⟨bad, bcap, rfl, _, _⟩ := hF.slice
        refine Qg ?_
        refine Qa rfl rfl (Qc rfl rfl rfl) ?_
        refine Qa rfl rfl (Za rfl rfl Tryz.underlying28 rfl) ?_
        refine Qa rfl rfl (QT_gtr rfl rfl rfl rfl) ?_
        refine Qf (Qb ?_)
        refine Qm rfl (fun h118 => ?_) (fun h118 => ?_)
        ·
          refine Qe (Qg ?_)
          refine Qa rfl rfl (Qd rfl rfl rfl) ?_
          refine Qa rfl rfl (Qd rfl rfl rfl) ?_
          refine Qf (Qb ?_)
          refine Qu ?_
          refine Qn ?_
          have eP : errP L ys = 3 := by unfold errP; rw [if_pos hc, if_pos hfit, if_pos (by omega)]
          exact Qs (.inl rfl) (res2 rfl rfl rfl) ⟨_, ⟨_, [], by rw [eP], fragNoneB eP (by decide), rfl⟩, fun w h => h.tail.app_right⟩
        ·
          refine Qt (Qb (Qe (Qg ?_)))
          refine Qa rfl rfl (Qc rfl rfl rfl) ?_
          refine Qa rfl rfl (Qd rfl rfl rfl) ?_
          refine Qa rfl rfl (Qd rfl rfl rfl) ?_
          refine Qf (Qb ?_)
          refine Qu ?_
          have eP : errP L ys = 0 := by unfold errP; rw [if_pos hc, if_pos hfit, if_neg (by omega)]
          exact Qs (.inl rfl) (res2 rfl rfl rfl) ⟨_, ⟨_, H, by rw [eP], by unfold outP; rw [if_pos eP]; exact hF, rfl⟩, fun _ h => h.tail⟩
end Go.Proofs.YtjdaglmkljbfkaaGreatDoor
namespace Go.Proofs.YtjdaglmkljbfkaaGreatDoor
open Go Go.Gx
set_option maxRecDepth 100000
section
variable {L : Lay}
end
section
variable {L : Lay} (hok : okB L = true) (hty : L.ty = 6 ∨ L.ty = 7)
include hok hty
end
end Go.Proofs.YtjdaglmkljbfkaaGreatDoor
namespace Go.Proofs.YtjdaglmkljbfkaaGreatDoor
open Go Go.Gx Go.RowKit
set_option maxRecDepth 100000
end Go.Proofs.YtjdaglmkljbfkaaGreatDoor
namespace Go.Proofs.YtjdaglmkljbfkaaGreatDoor
open Go Go.Gx Go.RowKit Go.ChangeShapes Go.WideShapes Go.ChangeAt
set_option maxRecDepth 100000
theorem flat_Sheet : flat Tryz.prog 8 102 = some sheetK := by kernel_rfl
theorem wfU {k : IntKind} {z : Int} (hk : k = .u8 ∨ k = .u16 ∨ k = .u32) (h : (Lit.int k z).wf = true) : ∃ x : Nat, z = (x : Int) ∧ x < (if k = .u8 then 256 else if k = .u16 then 65536 else 4294967296) := by
  simp only [Lit.wf, Bool.and_eq_true, decide_eq_true_eq] at h
  rcases hk with rfl | rfl | rfl
  · have h1 : IntKind.u8.min = 0 := rfl
    have h2 : IntKind.u8.max = 255 := rfl
    exact ⟨z.toNat, by omega, by rw [if_pos rfl]; omega⟩
  · have h1 : IntKind.u16.min = 0 := rfl
    have h2 : IntKind.u16.max = 65535 := rfl
    exact ⟨z.toNat, by omega, by rw [if_neg (by decide), if_pos rfl]; omega⟩
  · have h1 : IntKind.u32.min = 0 := rfl
    have h2 : IntKind.u32.max = 4294967295 := rfl
    exact ⟨z.toNat, by omega, by rw [if_neg (by decide), if_neg (by decide)]; omega⟩
theorem ints_nat : ∀ {ks : List IntKind} {cs : List Value}, (∀ k ∈ ks, k = .u8 ∨ k = .u16 ∨ k = .u32) → Ints ks cs →
  ∃ xs : List Nat, xs.length = ks.length ∧ cs = List.zipWith (fun (k : IntKind) (x : Nat) => Value.int k (x : Int)) ks xs ∧ ∀ (p : Nat) (k : IntKind) (x : Nat), ks[p]? = some k → xs[p]? = some x → x < (if k = .u8 then 256 else if k = .u16 then 65536 else 4294967296)
 | [], cs, _, h => ⟨[], rfl, by rw [h.inv_nil]; rfl, fun p k x h => by simp at h⟩
 | k :: ks, cs, hk, h => by
  obtain ⟨z, cs', rfl, hw, hr⟩ := h.inv
  clear h
  obtain ⟨x, rfl, hx⟩ := wfU (hk k (List.mem_cons_self ..)) hw
  obtain ⟨xs, h1, rfl, h3⟩ := ints_nat (fun q hq => hk q (List.mem_cons_of_mem _ hq)) hr
  refine ⟨x :: xs, by simp [h1], rfl, fun p => ?_⟩
  cases p with
  | zero => intro k' x' e1 e2; cases e1; cases e2; exact hx
  | succ p => intro k' x' e1 e2; exact h3 p k' x' e1 e2
theorem sheet_of {cs : List Value} (h : Ints sheetK cs) : ∃ y, ShF y ∧ cs = shV y := by
  obtain ⟨xs, h1, rfl, h3⟩ := ints_nat (ks := sheetK) (by decide) h
  rw [sheetK_len] at h1
  obtain ⟨x0, X, rfl⟩ : ∃ x0 X, xs = x0 :: X := by
    cases xs with
    | nil => simp at h1
    | cons a b => exact ⟨a, b, rfl⟩
  rw [List.length_cons] at h1
  refine ⟨_, ⟨x0, X, rfl, ?_, ⟨by omega, fun {p x} hx hp => ?_, fun {p x} hx hp => ?_⟩⟩, rfl⟩
  · exact h3 0 .u8 x0 rfl rfl
  · have := h3 (p + 1) (skK (p + 1)) x (sheetK_at (by omega)) (by rw [List.getElem?_cons_succ]; exact hx)
    rw [show skK (p + 1) = .u32 by unfold skK; rw [if_neg (by omega), if_pos (by omega)]] at this
    simpa using this
  · have hl := (List.getElem?_eq_some_iff.1 hx).1
    have := h3 (p + 1) (skK (p + 1)) x (sheetK_at (by omega)) (by rw [List.getElem?_cons_succ]; exact hx)
    rw [show skK (p + 1) = .u16 by unfold skK; rw [if_neg (by omega), if_neg (by omega)]] at this
    simpa using this
theorem sheets_of : ∀ {n : Nat} {xs : List Value}, Ints (rep n sheetK) xs → ∃ ys : List (List Nat), ys.length = n ∧ xs = flatS ys ∧ ∀ y ∈ ys, ShF y
  | 0, xs, h => by
    obtain rfl := Ints.inv_nil (show Ints [] xs from h)
    exact ⟨[], rfl, rfl, fun _ h => absurd h List.not_mem_nil⟩
  | n + 1, xs, h => by
    have e : rep (n + 1) sheetK = sheetK ++ rep n sheetK := by simp [rep, List.replicate_succ]
    rw [e] at h
    obtain ⟨h1, h2⟩ := h.split
    obtain ⟨y, hy, e1⟩ := sheet_of h1
    obtain ⟨ys, hl, e2, hys⟩ := sheets_of h2
    refine ⟨y :: ys, by simp [hl], ?_, fun z hz => ?_⟩
    · have : flatS (y :: ys) = shV y ++ flatS ys := by simp [flatS]
      rw [this, ← e1, ← e2, List.take_append_drop]
    · rcases List.mem_cons.1 hz with rfl | hz
      · exact hy
      · exact hys z hz
theorem flatS_ints : ∀ {ys : List (List Nat)}, (∀ y ∈ ys, ShF y) → Ints (rep ys.length sheetK) (flatS ys)
 | [], _ => .nil
 | y :: ys, h => by
  have e : flatS (y :: ys) = shV y ++ flatS ys := by simp [flatS]
  have e2 : rep (y :: ys).length sheetK = sheetK ++ rep ys.length sheetK := by simp [rep, List.replicate_succ]
  rw [e, e2]
  exact (shV_ints (h y (List.mem_cons_self ..))).append (flatS_ints fun z hz => h z (List.mem_cons_of_mem _ hz))
theorem open_sheets {w0 : Base} {sv : Value} {n : Nat} {xs : List Value} (hs : SlA (St w0 []) sv 49 n xs) (hi : Ints (rep n sheetK) xs) : ∃ ys, ys.length = n ∧ SlA (St w0 []) sv 49 ys.length (flatS ys) ∧ ∀ y ∈ ys, ShF y := by
 obtain ⟨ys, hl, rfl, ha⟩ := sheets_of hi
 exact ⟨ys, hl, by rw [hl]; exact hs, ha⟩
end Go.Proofs.YtjdaglmkljbfkaaGreatDoor
namespace Go.Proofs.YtjdaglmkljbfkaaGreatDoor
end Go.Proofs.YtjdaglmkljbfkaaGreatDoor
namespace Go.Proofs.YtjdaglmkljbfkaaGreatDoor
open Go Go.Gx Go.RowKit
set_option maxRecDepth 100000
theorem twinFragS {e b n : Nat} {xs mk : List Value} (hx : xs.length = n * 49) (hm : mk.length = 49) (hn : n ≤ 1000000) : Frag e 49 (.slice (some ⟨b, 0, none⟩) n (n + 3)) n xs [(b, e, xs ++ (mk ++ (mk ++ mk)))] :=
 ⟨hx, .inr ⟨b, n + 3, mk ++ (mk ++ mk), rfl, ⟨by omega, by omega⟩, by simp only [List.length_append, hx, hm]; omega, rfl⟩⟩
theorem newCells : Bk.new.cells = [.int .i64 0, .slice none 0 0, .slice none 0 0, .slice none 0 0, .slice none 0 0, .slice none 0 0, .slice none 0 0, .slice none 0 0, .slice none 0 0, .slice none 0 0, .slice none 0 0, .slice none 0 0, .slice none 0 0, .slice none 0 0] := rfl
theorem outP_lt (L : Lay) (ys : List (List Nat)) : ∀ c ∈ outP L ys, c < 256 := by
 intro c hc
 unfold outP at hc
 split at hc
 · exact bytesS_lt L ys c hc
 · exact absurd hc List.not_mem_nil
theorem outP_len (L : Lay) (ys : List (List Nat)) : (outP L ys).length ≤ 65536 := by
  unfold outP
  split
  · rename_i h
    unfold errP at h
    split at h
    · split at h
      · split at h
        · exact absurd h (by decide)
        · omega
      · exact absurd h (by decide)
    · exact absurd h (by decide)
  · exact Nat.zero_le _
end Go.Proofs.YtjdaglmkljbfkaaGreatDoor
namespace Go.Proofs.YtjdaglmkljbfkaaGreatDoor
open Go Go.Gx Go.RowKit
set_option maxRecDepth 100000
end Go.Proofs.YtjdaglmkljbfkaaGreatDoor
namespace Go.Proofs.YtjdaglmkljbfkaaGreatDoor
open Go Go.Gx Go.RowKit
set_option maxRecDepth 100000
def All7 (rs : List (List Value)) : Prop := ∀ r ∈ rs, Ints recK r
theorem flat_ints {s : Nat} {ks : List IntKind} : ∀ {rs : List (List Value)}, (∀ r ∈ rs, Ints ks r) → Ints (rep rs.length ks) rs.flatten
 | [], _ => by simpa [rep] using Ints.nil
 | r :: rs, h => by
  rw [List.length_cons, rep_succ, List.flatten_cons]
  exact (h r (List.mem_cons_self ..)).append (flat_ints (s := s) fun x hx => h x (List.mem_cons_of_mem _ hx))
theorem flat_len {s : Nat} : ∀ {rs : List (List Value)}, (∀ r ∈ rs, r.length = s) → rs.flatten.length = rs.length * s
 | [], _ => by simp
 | r :: rs, h => by
  rw [List.flatten_cons, List.length_append, h r (List.mem_cons_self ..), flat_len fun x hx => h x (List.mem_cons_of_mem _ hx), List.length_cons, Nat.add_mul]; omega
theorem flat_at {s : Nat} : ∀ {rs : List (List Value)} {i : Nat} {r : List Value}, (∀ r ∈ rs, r.length = s) → rs[i]? = some r → (rs.flatten.drop (i * s)).take s = r ∧ i * s + s ≤ rs.flatten.length
 | [], i, r, _, h => by simp at h
 | x :: rs, 0, r, hs, h => by
  simp only [List.getElem?_cons_zero, Option.some.injEq] at h
  subst h
  have hl := hs x (List.mem_cons_self ..)
  rw [Nat.zero_mul, List.drop_zero, List.flatten_cons, ← hl, List.take_left]
  exact ⟨rfl, by rw [List.length_append]; omega⟩
 | x :: rs, i + 1, r, hs, h => by
  have hl := hs x (List.mem_cons_self ..)
  have ih := flat_at (rs := rs) (i := i) (r := r) (fun y hy => hs y (List.mem_cons_of_mem _ hy)) (by simpa using h)
  rw [List.flatten_cons, show (i + 1) * s = x.length + i * s by rw [hl, Nat.add_mul]; omega, ← List.drop_drop, List.drop_left]
  exact ⟨ih.1, by rw [List.length_append]; omega⟩
theorem flat_drop {s : Nat} : ∀ {rs : List (List Value)} {k : Nat}, (∀ r ∈ rs, r.length = s) → rs.flatten.drop (k * s) = (rs.drop k).flatten
 | _, 0, _ => by simp
 | [], k + 1, _ => by simp
 | x :: rs, k + 1, hs => by
  have hl := hs x (List.mem_cons_self ..)
  rw [List.flatten_cons, show (k + 1) * s = x.length + k * s by rw [hl, Nat.add_mul]; omega, ← List.drop_drop, List.drop_left, List.drop_succ_cons]
  exact flat_drop fun y hy => hs y (List.mem_cons_of_mem _ hy)
theorem All7.len {rs : List (List Value)} (h : All7 rs) : ∀ r ∈ rs, r.length = 7 := fun r hr => (h r hr).length
/-- a vertex's flag; a vertex without it -/
def flagR (r : List Value) : Nat := match r with
 | .int _ z :: _ => z.toNat
 | _ => 0
def bareR (r : List Value) : List Value := match r with
 | _ :: t => .int .u8 0 :: t
 | [] => []
theorem flagR_spec {r : List Value} (h : Ints recK r) : r[0]? = some (.int .u8 (flagR r : Int)) ∧ flagR r ≤ 255 := by
 obtain ⟨z, cs, rfl, hw, _⟩ := (show Ints (.u8 :: recK.tail) r from h).inv
 have hz := wf_u8 hw
 have hf : flagR (.int .u8 z :: cs) = z.toNat := rfl
 rw [hf]
 refine ⟨?_, by omega⟩
 show some (Value.int .u8 z) = _
 rw [Int.toNat_of_nonneg hz.1]
theorem bareR_ints {r : List Value} (h : Ints recK r) : Ints recK (bareR r) := by
 obtain ⟨z, cs, rfl, hw, h2⟩ := (show Ints (.u8 :: recK.tail) r from h).inv
 exact .cons (by decide) h2
def T3 (a b c : List Value) : List Value := a ++ (b ++ c)
theorem T3_ints {a b c : List Value} (ha : Ints recK a) (hb : Ints recK b) (hc : Ints recK c) : Ints triK (T3 a b c) := by
 have e : triK = recK ++ (recK ++ recK) := by decide
 rw [e]; exact ha.append (hb.append hc)
theorem T3_len {a b c : List Value} (ha : a.length = 7) (hb : b.length = 7) (hc : c.length = 7) : (T3 a b c).length = 21 := by simp [T3, ha, hb, hc]
theorem T3_at {a b c : List Value} (ha : a.length = 7) (hb : b.length = 7) (hc : c.length = 7) : ((T3 a b c).drop (0 * 7)).take 7 = a ∧ ((T3 a b c).drop (1 * 7)).take 7 = b ∧ ((T3 a b c).drop (2 * 7)).take 7 = c := by
 obtain ⟨f, rfl⟩ := tab' (.bool false) a ha
 obtain ⟨g, rfl⟩ := tab' (.bool false) b hb
 obtain ⟨h, rfl⟩ := tab' (.bool false) c hc
 exact ⟨rfl, rfl, rfl⟩
theorem seg3 {a b c zl : List Value} (ha : a.length = 7) (hb : b.length = 7) (hc : c.length = 7) (hz : zl = zs triK) : segs ((List.range 3).map fun i => (i * 7, 7)) zl [(0, .agg a.toArray), (1, .agg b.toArray), (2, .agg c.toArray)] 0 = some (T3 a b c) := by
 subst hz
 obtain ⟨f, rfl⟩ := tab' (.bool false) a ha
 obtain ⟨g, rfl⟩ := tab' (.bool false) b hb
 obtain ⟨h, rfl⟩ := tab' (.bool false) c hc
 kernel_rfl
def bK (t : List Value) : Nat → List Value
 | 0 => t
 | k + 1 => setAt (bK t k) (0 + k * 7 + 0) [.int .u8 0]
theorem bK_len (t : List Value) : ∀ k, (bK t k).length = t.length
 | 0 => rfl
 | k + 1 => by rw [bK, setAt_length, bK_len t k]
theorem bK_eq {a b c : List Value} (ha : a.length = 7) (hb : b.length = 7) (hc : c.length = 7) : bK (T3 a b c) 3 = T3 (bareR a) (bareR b) (bareR c) := by
 obtain ⟨f, rfl⟩ := tab' (.bool false) a ha
 obtain ⟨g, rfl⟩ := tab' (.bool false) b hb
 obtain ⟨h, rfl⟩ := tab' (.bool false) c hc
 kernel_rfl
theorem bare_spec (w0 : Base) (η : Heap) (a b c : List Value) (ha : Ints recK a) (hb : Ints recK b) (hc : Ints recK c) :
  CallsT Tryz.prog 133 [.agg (T3 a b c).toArray] (St w0 η) fun v A' => v = .agg (T3 (bareR a) (bareR b) (bareR c)).toArray ∧ A' = St w0 η := by
 have hTl : (T3 a b c).length = 21 := T3_len ha.length hb.length hc.length
 have hi := T3_ints (bareR_ints ha) (bareR_ints hb) (bareR_ints hc)
 have hsz : Sz Tryz.prog 79 (T3 (bareR a) (bareR b) (bareR c)).length := by rw [hi.length]; exact KF.sz_79
 refine CallsT.body Tryz.func133 rfl rfl ?_
 simp only [Tryz.ntmps133, slotsOf, Nat.reduceAdd]
 refine Qe (Qg ?_)
 refine TL_e rfl rfl rfl (rfl) (ET_box rfl rfl) ?_
 rintro _ _ ⟨b1, rfl, rfl⟩
 refine TL_e rfl rfl rfl (rfl) (ET_alloc rfl KF.zero_79) ?_
 rintro _ _ ⟨b2, rfl, rfl⟩
 refine Qf (Qb (Qe (Qe (Qg ?_))))
 refine Qa rfl rfl (Qc rfl rfl rfl) ?_
 refine Qf (Qb (Qr ?_))
 refine TC_loop (γ := { k : Nat // k ≤ 3 }) (fun t => [(1, true, .pointer (some ⟨b1, 0, none⟩)), (2, true, .pointer (some ⟨b2, 0, none⟩)), (4, true, .int .i64 (t.1 : Int))]) (fun t => St w0 ((b2, 79, zs triK) :: (b1, 79, bK (T3 a b c) t.1) :: η)) (fun t => 3 - t.1) ⟨0, by omega⟩ ⟨rfl, rfl, rfl, trivial⟩ (fun _ h => h) ?_
 rintro ⟨k, hk⟩
 dsimp only
 have hql := bK_len (T3 a b c) k
 refine Qe (Qg ?_)
 refine Qa rfl rfl (QT_lss rfl rfl rfl rfl) ?_
 refine Qf (Qb (Qe ?_))
 refine Qm rfl (fun h5 => ?_) (fun h5 => ?_)
 ·
  refine Qt (Qb (Qe (Qr (Qe (Qg ?_)))))
  refine Qa rfl rfl (Qc rfl rfl rfl) ?_
  refine Qa rfl rfl (Qd rfl rfl rfl) ?_
  refine Qf (Qb (Qg ?_))
  refine Qa rfl rfl (Qc rfl rfl rfl) ?_
  refine Qa rfl rfl (QT_indexArr (k) rfl rfl Tryz.underlying79 KF.sz_77 rfl rfl (rfl) (fun _ => by omega)) ?_
  refine Qa rfl rfl (Qh rfl rfl KF.fld_77_0 rfl) ?_
  refine TL_e0 rfl rfl (rfl) (ET_store (vs := [.int .u8 0]) 1 rfl rfl rfl rfl KF.sz_5 rfl rfl (Nat.ble_eq_true_of_le (by rw [hql, hTl]; show 0 + k * 7 + 0 + 1 ≤ 21; omega))) ?_
  rintro _ _ ⟨rfl, rfl⟩
  refine Qf ?_
  refine Qo ?_
  refine Qb (Qg ?_)
  refine Qa rfl rfl (Zb rfl rfl rfl rfl (fun _ => ⟨by omega, by omega⟩)) ?_
  refine Qa rfl rfl (Qc rfl rfl rfl) ?_
  refine Qf ?_
  exact TX_round ⟨k + 1, by omega⟩ (by show 3 - (k + 1) < 3 - k; omega) ⟨rfl, rfl, rfl, trivial⟩ (fun _ h => h)
 ·
  refine Zd ?_
  refine Qi (Qi ?_)
  refine Qp ?_
  refine Qb (Qe ?_)
  obtain rfl : k = 3 := by omega
  refine TC_A (St w0 ((b2, 79, zs triK) :: (b1, 79, T3 (bareR a) (bareR b) (bareR c)) :: η)) (fun w h => by rw [← bK_eq ha.length hb.length hc.length]; exact h) ?_
  refine Qg ?_
  refine Qa rfl rfl (Ql (cs := T3 (bareR a) (bareR b) (bareR c)) 1 rfl rfl Tryz.underlying79 rfl rfl rfl hsz) ?_
  refine TL_e0 rfl rfl (rfl) (ET_storeW (vs := T3 (bareR a) (bareR b) (bareR c)) 0 rfl rfl rfl hsz rfl (List.all_eq_true.2 hi.oneCell) (by rw [hi.length]; rfl)) ?_
  rintro _ _ ⟨rfl, rfl⟩
  refine Qf (Qb ?_)
  refine Qu ?_
  exact Qs (.inl rfl) (resC 0 rfl rfl Tryz.underlying79 rfl rfl hsz) ⟨_, ⟨rfl, rfl⟩, (fun _ h => by first | exact h | exact h.tail | exact h.tail.tail | exact h.tail.tail.tail | exact h.tail.tail.tail.tail | exact h.tail.tail.tail.tail.tail | exact h.tail.tail.tail.tail.tail.tail | exact h.tail.tail.tail.tail.tail.tail.tail | exact h.tail.tail.tail.tail.tail.tail.tail.tail | exact h.tail.tail.tail.tail.tail.tail.tail.tail.tail | exact h.tail.tail.tail.tail.tail.tail.tail.tail.tail.tail | exact h.tail.tail.tail.tail.tail.tail.tail.tail.tail.tail.tail | exact h.tail.tail.tail.tail.tail.tail.tail.tail.tail.tail.tail.tail | exact h.tail.tail.tail.tail.tail.tail.tail.tail.tail.tail.tail.tail.tail)⟩
theorem plain_spec (w0 : Base) (η : Heap) (r : List Value) (h : Ints recK r) :
  CallsT Tryz.prog 126 [.agg r.toArray] (St w0 η) fun v A' => v = .agg (bareR r).toArray ∧ A' = St w0 η := by
 have hl : r.length = 7 := h.length
 have hi := bareR_ints h
 have hsz : Sz Tryz.prog 77 (bareR r).length := by rw [hi.length]; exact KF.sz_77
 have he : setAt r (0 + 0) [.int .u8 0] = bareR r := by
  obtain ⟨z, cs, rfl, _, _⟩ := (show Ints (.u8 :: recK.tail) r from h).inv
  rfl
 refine CallsT.body Tryz.func126 rfl rfl ?_
 simp only [Tryz.ntmps126, slotsOf, Nat.reduceAdd]
 refine Qe (Qg ?_)
 refine TL_e rfl rfl rfl (rfl) (ET_box rfl rfl) ?_
 rintro _ _ ⟨b1, rfl, rfl⟩
 refine TL_e rfl rfl rfl (rfl) (ET_alloc rfl KF.zero_77) ?_
 rintro _ _ ⟨b2, rfl, rfl⟩
 refine Qf (Qb (Qe (Qg ?_)))
 refine Qa rfl rfl (Qh rfl rfl KF.fld_77_0 rfl) ?_
 refine TL_e0 rfl rfl (rfl) (ET_store (vs := [.int .u8 0]) 1 rfl rfl rfl rfl KF.sz_5 rfl rfl (Nat.ble_eq_true_of_le (show 0 + 0 + 1 ≤ r.length by omega))) ?_
 rintro _ _ ⟨rfl, rfl⟩
 refine Qf (Qb (Qe ?_))
 refine TC_A (St w0 ((b2, 77, zs recK) :: (b1, 77, bareR r) :: η)) (fun w h => by rw [← he]; exact h) ?_
 refine Qg ?_
 refine Qa rfl rfl (Ql (cs := bareR r) 1 rfl rfl Tryz.underlying77 rfl rfl rfl hsz) ?_
 refine TL_e0 rfl rfl (rfl) (ET_storeW (vs := bareR r) 0 rfl rfl rfl hsz rfl (List.all_eq_true.2 hi.oneCell) (by rw [hi.length]; rfl)) ?_
 rintro _ _ ⟨rfl, rfl⟩
 refine Qf (Qb ?_)
 refine Qu ?_
 exact Qs (.inl rfl) (resC 0 rfl rfl Tryz.underlying77 rfl rfl hsz) ⟨_, ⟨rfl, rfl⟩, (fun _ h => by first | exact h | exact h.tail | exact h.tail.tail | exact h.tail.tail.tail | exact h.tail.tail.tail.tail | exact h.tail.tail.tail.tail.tail | exact h.tail.tail.tail.tail.tail.tail | exact h.tail.tail.tail.tail.tail.tail.tail | exact h.tail.tail.tail.tail.tail.tail.tail.tail | exact h.tail.tail.tail.tail.tail.tail.tail.tail.tail | exact h.tail.tail.tail.tail.tail.tail.tail.tail.tail.tail | exact h.tail.tail.tail.tail.tail.tail.tail.tail.tail.tail.tail | exact h.tail.tail.tail.tail.tail.tail.tail.tail.tail.tail.tail.tail | exact h.tail.tail.tail.tail.tail.tail.tail.tail.tail.tail.tail.tail.tail)⟩
theorem clipT_spec (w0 : Base) (η H : Heap) (v : Value) (n : Nat) (xs : List Value) (hF : Frag 79 21 v n xs H) :
    CallsT Tryz.prog 134 [v] (St w0 (H ++ η)) fun v A' => Frag 79 21 v n xs H ∧ A' = St w0 (H ++ η) := by
  obtain ⟨hl, hF⟩ := hF
  rcases hF with ⟨rfl, rfl, rfl⟩ | ⟨b, cap, rest, rfl, hc, hlen, rfl⟩
  · refine CallsT.body Tryz.func134 rfl rfl ?_
    simp only [Tryz.ntmps134, slotsOf, Nat.reduceAdd]
    refine Qe (Qg ?_)
    refine Qa rfl rfl (Qd rfl rfl rfl) ?_
    refine Qf (Qb (Qe (Qg ?_)))
    refine Qa rfl rfl (Qc rfl rfl rfl) ?_
    refine Qa rfl rfl (Qc rfl rfl rfl) ?_
    refine Qa rfl rfl (Za rfl rfl Tryz.underlying61 rfl) ?_
    refine Qa rfl rfl (Qc rfl rfl rfl) ?_
    refine Qa rfl rfl (Za rfl rfl Tryz.underlying61 rfl) ?_
    refine Qa rfl rfl (QT_slcHM (0) (0) rfl rfl rfl Tryz.underlying61 KF.sz_79 rfl rfl rfl rfl rfl (fun _ => ⟨by omega, by omega⟩)) ?_
    refine Qa rfl rfl (Qd rfl rfl rfl) ?_
    refine Qf (Qb ?_)
    refine Qu ?_
    exact Qs (.inl rfl) (res1 rfl rfl) ⟨_, ⟨⟨hl, .inl ⟨rfl, rfl, rfl⟩⟩, rfl⟩, fun _ h => h⟩
  · refine CallsT.body Tryz.func134 rfl rfl ?_
    simp only [Tryz.ntmps134, slotsOf, Nat.reduceAdd]
    refine Qe (Qg ?_)
    refine Qa rfl rfl (Qd rfl rfl rfl) ?_
    refine Qf (Qb (Qe (Qg ?_)))
    refine Qa rfl rfl (Qc rfl rfl rfl) ?_
    refine Qa rfl rfl (Qc rfl rfl rfl) ?_
    refine Qa rfl rfl (Za rfl rfl Tryz.underlying61 rfl) ?_
    refine Qa rfl rfl (Qc rfl rfl rfl) ?_
    refine Qa rfl rfl (Za rfl rfl Tryz.underlying61 rfl) ?_
    refine Qa rfl rfl (QT_slcHM (n) (n) rfl rfl rfl Tryz.underlying61 KF.sz_79 rfl rfl rfl rfl rfl (fun _ => ⟨by omega, by omega⟩)) ?_
    refine Qa rfl rfl (Qd rfl rfl rfl) ?_
    refine Qf (Qb ?_)
    refine Qu ?_
    exact Qs (.inl rfl) (res1 rfl rfl) ⟨_, ⟨⟨hl, .inr ⟨b, n, rest, rfl, ⟨Nat.le_refl _, by omega⟩, Nat.le_trans (Nat.mul_le_mul_right _ hc.1) hlen, rfl⟩⟩, rfl⟩, fun _ h => h⟩
theorem cloneR_spec (w0 : Base) (η : Heap) (sv : Value) (n : Nat) (xs : List Value) (hs : SlA (St w0 η) sv 7 n xs) (hi : Ints (rep n recK) xs) (hn : n * 20 ≤ 140737488355328) :
  CallsT Tryz.prog 118 [sv] (St w0 η) fun v A' => ∃ H, Frag 77 7 v n xs H ∧ A' = St w0 (H ++ η) := by
 have hs0 := hs
 obtain ⟨hl, ad, cap, rfl, hcap, hr⟩ := hs
 refine CallsT.body Tryz.func118 rfl rfl ?_
 simp only [Tryz.ntmps118, slotsOf, Nat.reduceAdd]
 refine Qe (Qg ?_)
 refine Qa rfl rfl (Qd rfl rfl rfl) ?_
 refine Qf (Qb (Qe (Qe (Qg ?_))))
 refine Qa rfl rfl (Qc rfl rfl rfl) ?_
 refine Qa rfl rfl (QT_eqNilS rfl rfl Tryz.underlying31 rfl rfl) ?_
 refine Qf (Qb ?_)
 refine TC_cond rfl (fun h4 => ?_) (fun h4 => ?_)
 ·
  refine Qe (Qg ?_)
  refine Qa rfl rfl (Qd rfl rfl rfl) ?_
  refine Qf (Qb ?_)
  refine Qu ?_
  refine Qn ?_
  have h0 : n = 0 ∧ xs = [] := by
   rcases hr with h | ⟨b, off, rfl, _⟩
   · subst h; exact ⟨rfl, List.eq_nil_of_length_eq_zero (by simpa using hl)⟩
   · simp at h4
  obtain ⟨rfl, rfl⟩ := h0
  exact Qs (.inl rfl) (res1 rfl rfl) ⟨_, ⟨[], Frag.nil _ _, rfl⟩, fun _ h => h⟩
 ·
  refine Qt (Qb (Qe (Qg ?_)))
  refine TL_e rfl rfl rfl (rfl) (ET_buildN [] rfl Tryz.underlying31 KF.sz_77 KF.zero_77 rfl rfl rfl (fun v hv => absurd hv List.not_mem_nil)) ?_
  rintro _ _ ⟨b5, rfl, rfl⟩
  refine Qa rfl rfl (Qc rfl rfl rfl) ?_
  refine TL_e rfl rfl rfl (rfl) (ET_appendL (η := η) (L := []) (H := [(b5, 77, [] ++ [])]) rfl Tryz.underlying31 el_Rec rfl rfl ⟨rfl, .inr ⟨b5, 0, [], rfl, ⟨Nat.le_refl _, by omega⟩, Nat.le_refl _, rfl⟩⟩ (fun _ h => h) hs0.tail hi.oneCell (by omega) (by omega)) ?_
  rintro cv _ ⟨H', hF', rfl⟩
  refine Qa rfl rfl (Qd rfl rfl rfl) ?_
  refine Qf (Qb ?_)
  refine Qu ?_
  rw [Nat.zero_add, List.nil_append] at hF'
  exact Qs (.inl rfl) (res1 rfl rfl) ⟨_, ⟨H', hF', rfl⟩, fun _ h => h⟩
end Go.Proofs.YtjdaglmkljbfkaaGreatDoor
namespace Go.Proofs.YtjdaglmkljbfkaaGreatDoor
open Go Go.Gx Go.RowKit
set_option maxRecDepth 100000
abbrev R := List Value
def B3 (a b c : R) : R := T3 (bareR a) (bareR b) (bareR c)
def stripF : Nat → List R → R → R → R → List R → List R × Int
 | 0, _, _, _, _, out => (out, 0)
 | _ + 1, [], _, _, _, out => (out, 0)
 | f + 1, x :: v, a, b, c, out =>
  if flagR x = 0 then (match v with
   | y :: z :: w => stripF f w x y z (out ++ [B3 x y z])
   | _ => ([], 5))
  else if flagR x = 1 then stripF f v b c x (out ++ [B3 b c x])
  else if flagR x = 2 then stripF f v a c x (out ++ [B3 a c x])
  else ([], 7)
theorem strip_short {f : Nat} {x : R} {v : List R} {a b c : R} {out : List R} (h0 : flagR x = 0) (hv : v.length < 2) : stripF (f + 1) (x :: v) a b c out = ([], 5) := by
 match v, hv with
 | [], _ => simp [stripF, h0]
 | [_], _ => simp [stripF, h0]
 | y :: z :: w, h => simp at h; omega
theorem strip_long {f : Nat} {x y z : R} {w : List R} {a b c : R} {out : List R} (h0 : flagR x = 0) : stripF (f + 1) (x :: y :: z :: w) a b c out = stripF f w x y z (out ++ [B3 x y z]) := by simp [stripF, h0]
theorem strip_one {f : Nat} {x : R} {v : List R} {a b c : R} {out : List R} (h0 : flagR x = 1) : stripF (f + 1) (x :: v) a b c out = stripF f v b c x (out ++ [B3 b c x]) := by simp [stripF, h0]
theorem strip_two {f : Nat} {x : R} {v : List R} {a b c : R} {out : List R} (h0 : flagR x = 2) : stripF (f + 1) (x :: v) a b c out = stripF f v a c x (out ++ [B3 a c x]) := by simp [stripF, h0]
theorem strip_bad {f : Nat} {x : R} {v : List R} {a b c : R} {out : List R} (h0 : flagR x ≠ 0) (h1 : flagR x ≠ 1) (h2 : flagR x ≠ 2) : stripF (f + 1) (x :: v) a b c out = ([], 7) := by simp [stripF, h0, h1, h2]
theorem set3 {a b c x : R} (ha : a.length = 7) (hb : b.length = 7) (hc : c.length = 7) (hx : x.length = 7) : setAt (setAt (T3 a b c) (0 + 1 * 7) c) (0 + 2 * 7) x = T3 a c x := by
 obtain ⟨f, rfl⟩ := tab' (.bool false) a ha
 obtain ⟨g, rfl⟩ := tab' (.bool false) b hb
 obtain ⟨h, rfl⟩ := tab' (.bool false) c hc
 obtain ⟨k, rfl⟩ := tab' (.bool false) x hx
 kernel_rfl
def zR : R := zs recK
theorem zR_ints : Ints recK zR := zs_ints _
/-- what is known at the head of a round -/
structure Stp (w0 : Base) (η : Heap) (n : Nat) (FIN : List R × Int) (rem : List R) (sv : Value) (a b c : R) (out : List R) (fv : Value) (H : Heap) (e : Int) (f : Nat) : Prop where
 sl : SlA (St w0 η) sv 7 rem.length rem.flatten
 all : All7 rem
 ia : Ints recK a
 ib : Ints recK b
 ic : Ints recK c
 io : ∀ t ∈ out, Ints triK t
 fr : Frag 79 21 fv out.length out.flatten H
 few : out.length + rem.length ≤ n
 fin : (e = 0 ∧ stripF f rem a b c out = FIN ∧ rem.length < f) ∨ (e ≠ 0 ∧ FIN = ([], e))
 e64 : e = 0 ∨ e = 5 ∨ e = 7
theorem flatten_snoc (out : List R) (t : R) : (out ++ [t]).flatten = out.flatten ++ t := by simp
set_option maxHeartbeats 1000000 in
theorem strip_spec (w0 : Base) (η : Heap) (sv : Value) (rs : List R) (hs : SlA (St w0 η) sv 7 rs.length rs.flatten) (ha : All7 rs) (hn : rs.length * 60 ≤ 140737488355328) :
    CallsT Tryz.prog 120 [sv] (St w0 η) fun v A' => ∃ pv H, v = .tuple #[pv, .int .i64 (stripF (rs.length + 1) rs zR zR zR []).2] ∧ Frag 79 21 pv (stripF (rs.length + 1) rs zR zR zR []).1.length (stripF (rs.length + 1) rs zR zR zR []).1.flatten H ∧ A' = St w0 (H ++ η) := by
  obtain ⟨FIN, hFIN⟩ : ∃ F, F = stripF (rs.length + 1) rs zR zR zR [] := ⟨_, rfl⟩
  rw [← hFIN]
  refine CallsT.body Tryz.func120 rfl rfl ?_
  simp only [Tryz.ntmps120, slotsOf, Nat.reduceAdd]
  refine Qe (Qg ?_)
  refine Qa rfl rfl (Qd rfl rfl rfl) ?_
  refine Qa rfl rfl (Qd rfl rfl rfl) ?_
  refine Qf (Qb (Qe (Qg ?_)))
  refine TL_e rfl rfl rfl (rfl) (ET_alloc rfl KF.zero_79) ?_
  rintro _ _ ⟨b4, rfl, rfl⟩
  refine Qf (Qb (Qe (Qr ?_)))
  refine TC_loop (γ := { t : List R × Value × R × R × R × List R × Value × Heap × Int × Nat // Stp w0 η rs.length FIN t.1 t.2.1 t.2.2.1 t.2.2.2.1 t.2.2.2.2.1 t.2.2.2.2.2.1 t.2.2.2.2.2.2.1 t.2.2.2.2.2.2.2.1 t.2.2.2.2.2.2.2.2.1 t.2.2.2.2.2.2.2.2.2 }) (fun t => [(0, true, t.1.2.1), (2, true, t.1.2.2.2.2.2.2.1), (3, true, .int .i64 t.1.2.2.2.2.2.2.2.2.1), (4, true, .pointer (some ⟨b4, 0, none⟩))]) (fun t => St w0 ((b4, 79, T3 t.1.2.2.1 t.1.2.2.2.1 t.1.2.2.2.2.1) :: (t.1.2.2.2.2.2.2.2.1 ++ η))) (fun t => t.1.1.length) ⟨(rs, sv, zR, zR, zR, [], .slice none 0 0, [], 0, rs.length + 1), hs, ha, zR_ints, zR_ints, zR_ints, fun t h => absurd h List.not_mem_nil, Frag.nil _ _, by show 0 + rs.length ≤ rs.length; omega, .inl ⟨rfl, hFIN.symm, Nat.lt_succ_self _⟩, .inl rfl⟩ ⟨rfl, rfl, rfl, rfl, trivial⟩ (fun _ h => h) ?_
  rintro ⟨⟨rem, sv, a, b, c, out, fv, H, e, f⟩, hS⟩
  dsimp only at hS ⊢
  obtain ⟨hsl, hall, hia, hib, hic, hio, hfr, hfew, hfin, he64⟩ := hS
  obtain ⟨_, ad, cap, sb, so, rfl, hcap, had, hrd⟩ := hsl.some
  refine Qe (Qe (Qg ?_))
  refine Qa rfl rfl (Qc rfl rfl rfl) ?_
  refine Qa rfl rfl (Za rfl rfl Tryz.underlying31 rfl) ?_
  refine Qa rfl rfl (QT_gtr rfl rfl rfl rfl) ?_
  refine Qa rfl rfl (Qc rfl rfl rfl) ?_
  refine Qa rfl rfl (Qc rfl rfl rfl) ?_
  refine Qa rfl rfl (QT_eql rfl rfl rfl rfl) ?_
  refine Qa rfl rfl (QT_and rfl rfl rfl rfl) ?_
  refine Qf (Qb ?_)
  refine TC_cond rfl (fun h12 => ?_) (fun h12 => ?_)
  ·
    simp only [Bool.and_eq_true, decide_eq_true_eq] at h12
    obtain ⟨h12a, rfl⟩ := h12
    obtain ⟨x, v, rfl⟩ : ∃ x v, rem = x :: v := by
      cases rem with
      | nil => simp at h12a
      | cons x v => exact ⟨x, v, rfl⟩
    obtain ⟨_, hF, hfuel⟩ : (0 : Int) = 0 ∧ stripF f (x :: v) a b c out = FIN ∧ (x :: v).length < f := by
      rcases hfin with h | ⟨h, _⟩
      · exact h
      · exact absurd rfl h
    obtain ⟨f, rfl⟩ : ∃ g, f = g + 1 := ⟨f - 1, by omega⟩
    have hix : Ints recK x := hall x (List.mem_cons_self ..)
    have hxl : x.length = 7 := hix.length
    have hav : All7 v := fun r hr => hall r (List.mem_cons_of_mem _ hr)
    obtain ⟨hx0, hle0⟩ := flat_at (s := 7) (i := 0) hall.len (show (x :: v)[0]? = some x from rfl)
    have hzx : Sz Tryz.prog 77 x.length := by rw [hxl]; exact KF.sz_77
    obtain ⟨hfx, _⟩ := flagR_spec hix
    have hR : ∀ {η' : Heap}, (∀ p : Blk → Bool, η.countP p ≤ η'.countP p) → Rd (St w0 η') sb so (x :: v).flatten := fun h => hrd.mono fun _ hw => hw.cnt h
    have hback := hsl.back (k := 1) (by simp)
    rw [flat_drop (k := 1) hall.len, List.drop_one, List.tail_cons, List.length_cons, Nat.add_sub_cancel] at hback
    refine Qt (Qb (Qr ?_))
    refine TC_scope ?_
    refine Qe (Qg ?_)
    refine Qa rfl rfl (Qc rfl rfl rfl) ?_
    refine Qa rfl rfl (QT_indexG 0 rfl rfl Tryz.underlying31 KF.sz_77 rfl rfl rfl (fun _ => by simp) (fun _ => had (by simp))) ?_
    refine Qa rfl rfl (Qy (0 * 7) rfl rfl Tryz.underlying77 rfl KF.sz_77 (hR fun p => by simp only [List.countP_append, List.countP_cons]; omega) rfl (fun _ => hle0) (fun _ => hx0)) ?_
    refine TL_e rfl rfl rfl (rfl) (ET_alloc rfl KF.zero_77) ?_
    rintro _ _ ⟨b5, rfl, rfl⟩
    refine TL_e0 rfl rfl (rfl) (ET_storeW (vs := x) 0 rfl rfl rfl hzx rfl (List.all_eq_true.2 hix.oneCell) (by rw [hxl]; rfl)) ?_
    rintro _ _ ⟨rfl, rfl⟩
    refine Qf (Qb (Qe (Qg ?_)))
    refine Qa rfl rfl (Qc rfl rfl rfl) ?_
    refine Qa rfl rfl (QT_slcL 1 rfl rfl rfl rfl Tryz.underlying31 KF.sz_77 rfl rfl rfl (fun _ => by simp)) ?_
    refine Qa rfl rfl (Qd rfl rfl rfl) ?_
    refine Qf (Qb (Qe ?_))
    refine TC_label ?_
    refine Qb ?_
    refine TC_cut (γ := { t : List R × Value × R × R × R × Int // ∃ rem' e', rem' = t.1 ∧ e' = t.2.2.2.2.2 ∧ SlA (St w0 η) t.2.1 7 t.1.length t.1.flatten ∧ All7 t.1 ∧ Ints recK t.2.2.1 ∧ Ints recK t.2.2.2.1 ∧ Ints recK t.2.2.2.2.1 ∧ t.1.length ≤ v.length ∧ ((e' = 0 ∧ stripF f rem' t.2.2.1 t.2.2.2.1 t.2.2.2.2.1 (out ++ [B3 t.2.2.1 t.2.2.2.1 t.2.2.2.2.1]) = FIN ∧ rem'.length < f) ∨ (e' ≠ 0 ∧ FIN = ([], e'))) ∧ (e' = 0 ∨ e' = 5 ∨ e' = 7) }) (fun t => [(0, true, t.1.2.1), (2, true, fv), (3, true, .int .i64 t.1.2.2.2.2.2), (4, true, .pointer (some ⟨b4, 0, none⟩))]) (fun t => St w0 ((b4, 79, T3 t.1.2.2.1 t.1.2.2.2.1 t.1.2.2.2.2.1) :: (H ++ η))) ?_ ?_
    ·
      refine Qe ?_
      have hsz5 : v.length = (x :: v).length - 1 := by simp
      obtain ⟨ad1, had1⟩ : ∃ ad1, ad1 = (if cap = 1 then ad else ad.map (·.add (1 * 7))) := ⟨_, rfl⟩
      rw [← had1] at hback
      refine TC_weaken (σ' := [(0, true, .slice ad1 v.length (cap - 1)), (2, true, fv), (3, true, .int .i64 0), (4, true, .pointer (some ⟨b4, 0, none⟩)), (5, true, .pointer (some ⟨b5, 0, none⟩))]) ⟨by rw [had1]; rfl, rfl, rfl, rfl, rfl, trivial⟩ (fun _ h => h) ?_
      obtain ⟨_, ad1', cap1, sb1, so1, heq1, hcap1, hadd1, hrd1⟩ := hback.some
      obtain ⟨rfl, _, rfl⟩ := Value.slice.inj heq1
      have hR1 : ∀ {η' : Heap}, (∀ p : Blk → Bool, η.countP p ≤ η'.countP p) → Rd (St w0 η') sb1 so1 v.flatten := fun h => hrd1.mono fun _ hw => hw.cnt h
      have hTl := T3_len hia.length hib.length hic.length
      obtain ⟨hT0, hT1, hT2⟩ := T3_at hia.length hib.length hic.length
      have hTi := T3_ints hia hib hic
      refine Qg ?_
      refine Qa rfl rfl (Qh rfl rfl KF.fld_77_0 rfl) ?_
      refine Qa rfl rfl (Qj 0 rfl rfl Tryz.underlying5 rfl rfl rfl (fun _ => hfx)) ?_
      refine Qf (Qb (Qr (Qe (Qg ?_))))
      refine Qa rfl rfl (QT_eql rfl rfl rfl rfl) ?_
      refine Qa rfl rfl (Qd rfl rfl rfl) ?_
      refine Qf (Qb ?_)
      refine Qm rfl (fun h20 => ?_) (fun h20 => ?_)
      ·
        refine Qe (Qe (Qg ?_))
        refine Qa rfl rfl (Qc rfl rfl rfl) ?_
        refine Qa rfl rfl (Za rfl rfl Tryz.underlying31 rfl) ?_
        refine Qa rfl rfl (QT_lss rfl rfl rfl rfl) ?_
        refine Qf (Qb ?_)
        refine Qm rfl (fun h24 => ?_) (fun h24 => ?_)
        ·
          refine Qe (Qg ?_)
          refine Qa rfl rfl (Qd rfl rfl rfl) ?_
          refine Qf (Qb ?_)
          refine Zd ?_
          refine Qi ?_
          refine Qp ?_
          exact TX_cut ⟨(v, .slice ad1 v.length (cap - 1), a, b, c, 5), v, 5, rfl, rfl, hback, hav, hia, hib, hic, Nat.le_refl _, .inr ⟨by decide, by rw [← hF, strip_short (by omega) (by omega)]⟩, .inr (.inl rfl)⟩ ⟨rfl, rfl, rfl, rfl, trivial⟩ (fun _ h => h.tail)
        ·
          refine Qt (Qb ?_)
          obtain ⟨y, z, w, rfl⟩ : ∃ y z w, v = y :: z :: w := by
            match v, h24 with
            | [], h => simp at h
            | [_], h => simp at h
            | y :: z :: w, _ => exact ⟨y, z, w, rfl⟩
          have hiy : Ints recK y := hav y (by simp)
          have hiz : Ints recK z := hav z (by simp)
          obtain ⟨hy0, hle1⟩ := flat_at (s := 7) (i := 0) hav.len (show (y :: z :: w)[0]? = some y from rfl)
          obtain ⟨hz0, hle2⟩ := flat_at (s := 7) (i := 1) hav.len (show (y :: z :: w)[1]? = some z from rfl)
          have hback2 := hback.back (k := 2) (by simp)
          rw [flat_drop (k := 2) hav.len] at hback2
          have hbl : (y :: z :: w).length - 2 = w.length := by simp
          have hbd : (y :: z :: w).drop 2 = w := rfl
          rw [hbl, hbd] at hback2
          have hxyz : Ints triK (T3 x y z) := T3_ints hix hiy hiz
          refine TC_draw [(0, 0), (1, 0), (2, 0), (3, 0), (4, 0), (5, 0), (6, 0), (7, 0), (8, 0), (9, 0), (10, 1), (11, 0)] KF.mixed (by kernel_rfl) (St.calm _ _) ?_
          refine Qz rfl rfl rfl (Ql (cs := x) 0 rfl rfl Tryz.underlying77 rfl rfl rfl hzx) ?_
          refine Qk rfl rfl rfl (fun _ => Qc rfl rfl rfl) ?_
          refine Qk rfl rfl rfl (fun _ => QT_indexG 0 rfl rfl Tryz.underlying31 KF.sz_77 rfl rfl rfl (fun _ => by simp) (fun _ => hadd1 (by simp))) ?_
          refine Qz rfl rfl rfl (Qy (0 * 7) rfl rfl Tryz.underlying77 rfl KF.sz_77 (hR1 (η' := (b5, 77, x) :: (b4, 79, T3 a b c) :: (H ++ η)) fun p => by simp only [List.countP_append, List.countP_cons]; omega) rfl (fun _ => hle1) (fun _ => hy0)) ?_
          refine Qk rfl rfl rfl (fun _ => Qc rfl rfl rfl) ?_
          refine Qk rfl rfl rfl (fun _ => QT_indexG 1 rfl rfl Tryz.underlying31 KF.sz_77 rfl rfl rfl (fun _ => by simp) (fun _ => hadd1 (by simp))) ?_
          refine Qz rfl rfl rfl (Qy (1 * 7) rfl rfl Tryz.underlying77 rfl KF.sz_77 (hR1 (η' := (b5, 77, x) :: (b4, 79, T3 a b c) :: (H ++ η)) fun p => by simp only [List.countP_append, List.countP_cons]; omega) rfl (fun _ => hle2) (fun _ => hz0)) ?_
          refine Qk rfl rfl rfl (fun _ => QT_buildArr (out := T3 x y z) rfl rfl KF.zero_79 Tryz.underlying79 KF.sz_77 rfl rfl (seg3 hxl hiy.length hiz.length rfl)) ?_
          refine Qk rfl rfl rfl (fun _ => Qc rfl rfl rfl) ?_
          refine Qk rfl rfl rfl (fun _ => QT_slcL 2 rfl rfl rfl rfl Tryz.underlying31 KF.sz_77 rfl rfl rfl (fun _ => by simp)) ?_
          refine TV_e0 rfl rfl rfl (rfl) (ET_storeW (vs := T3 x y z) 1 rfl rfl rfl (by rw [hxyz.length]; exact KF.sz_79) rfl (List.all_eq_true.2 hxyz.oneCell) (by rw [hxyz.length, hTl]; rfl)) ?_
          rintro _ _ ⟨rfl, rfl⟩
          refine ⟨_, .drop (by kernel_rfl) (.drop (by kernel_rfl) (.drop (by kernel_rfl) (.nil))), ?_⟩
          refine Qk rfl rfl rfl (fun _ => Qd rfl rfl rfl) ?_
          refine TV_end ?_
          refine Qo ?_
          exact TX_cut ⟨(w, .slice (if cap - 1 = 2 then ad1 else ad1.map (·.add (2 * 7))) w.length (cap - 1 - 2), x, y, z, 0), w, 0, rfl, rfl, hback2, fun r hr => hav r (by simp [hr]), hix, hiy, hiz, by have e : (y :: z :: w).length = w.length + 2 := rfl; rw [e]; exact Nat.le_add_right _ _, .inl ⟨rfl, by rw [← hF, strip_long (by omega)], by have e : (x :: y :: z :: w).length = w.length + 3 := rfl; rw [e] at hfuel; omega⟩, .inl rfl⟩ ⟨rfl, rfl, rfl, rfl, trivial⟩ (fun _ h => h.tail)
      ·
        refine Qe (Qg ?_)
        refine Qa rfl rfl (QT_eql rfl rfl rfl rfl) ?_
        refine Qa rfl rfl (Qd rfl rfl rfl) ?_
        refine Qf (Qb ?_)
        refine Qm rfl (fun h35 => ?_) (fun h35 => ?_)
        ·
          refine Qg ?_
          refine Qa rfl rfl (QT_indexArr (1) rfl rfl Tryz.underlying79 KF.sz_77 rfl rfl (rfl) (fun _ => by decide)) ?_
          refine Qa rfl rfl (Qy (out := b) (1 * 7) rfl rfl Tryz.underlying77 rfl KF.sz_77 (Rd.own 1 rfl) rfl (fun _ => by rw [hTl]; decide) (fun _ => hT1)) ?_
          refine Qa rfl rfl (QT_indexArr (2) rfl rfl Tryz.underlying79 KF.sz_77 rfl rfl (rfl) (fun _ => by decide)) ?_
          refine Qa rfl rfl (Qy (out := c) (2 * 7) rfl rfl Tryz.underlying77 rfl KF.sz_77 (Rd.own 1 rfl) rfl (fun _ => by rw [hTl]; decide) (fun _ => hT2)) ?_
          refine Qa rfl rfl (Ql (cs := x) 0 rfl rfl Tryz.underlying77 rfl rfl rfl hzx) ?_
          refine Qa rfl rfl (QT_buildArr (out := T3 b c x) rfl rfl KF.zero_79 Tryz.underlying79 KF.sz_77 rfl rfl (seg3 hib.length hic.length hxl rfl)) ?_
          refine TL_e0 rfl rfl (rfl) (ET_storeW (vs := T3 b c x) 1 rfl rfl rfl (by rw [T3_len hib.length hic.length hxl]; exact KF.sz_79) rfl (List.all_eq_true.2 (T3_ints hib hic hix).oneCell) (by rw [T3_len hib.length hic.length hxl, hTl]; rfl)) ?_
          rintro _ _ ⟨rfl, rfl⟩
          refine Qf ?_
          refine Qo ?_
          exact TX_cut ⟨(v, .slice ad1 v.length (cap - 1), b, c, x, 0), v, 0, rfl, rfl, hback, hav, hib, hic, hix, Nat.le_refl _, .inl ⟨rfl, by rw [← hF, strip_one (by omega)], by simp at hfuel; omega⟩, .inl rfl⟩ ⟨rfl, rfl, rfl, rfl, trivial⟩ (fun _ h => h.tail)
        ·
          refine Qe (Qg ?_)
          refine Qa rfl rfl (QT_eql rfl rfl rfl rfl) ?_
          refine Qa rfl rfl (Qd rfl rfl rfl) ?_
          refine Qf (Qb ?_)
          refine Qm rfl (fun h43 => ?_) (fun h43 => ?_)
          ·
            refine TC_draw [(0, 0), (1, 0), (2, 0), (3, 0), (4, 1), (5, 0), (6, 1)] KF.mixed (by kernel_rfl) (St.calm _ _) ?_
            refine Qk rfl rfl rfl (fun _ => QT_indexArr (2) rfl rfl Tryz.underlying79 KF.sz_77 rfl rfl (rfl) (fun _ => by decide)) ?_
            refine Qz rfl rfl rfl (Qy (out := c) (2 * 7) rfl rfl Tryz.underlying77 rfl KF.sz_77 (Rd.own 1 rfl) rfl (fun _ => by rw [hTl]; decide) (fun _ => hT2)) ?_
            refine Qz rfl rfl rfl (Ql (cs := x) 0 rfl rfl Tryz.underlying77 rfl rfl rfl hzx) ?_
            refine Qk rfl rfl rfl (fun _ => QT_indexArr (1) rfl rfl Tryz.underlying79 KF.sz_77 rfl rfl (rfl) (fun _ => by decide)) ?_
            refine TV_e0 rfl rfl rfl (rfl) (ET_store (vs := c) 1 rfl rfl rfl rfl (by rw [hic.length]; exact KF.sz_77) rfl (List.all_eq_true.2 hic.oneCell) (Nat.ble_eq_true_of_le (by rw [hic.length, hTl]; decide))) ?_
            rintro _ _ ⟨rfl, rfl⟩
            refine ⟨_, .keep (by kernel_rfl) rfl (by first | exact Ql (cs := x) 0 rfl rfl Tryz.underlying77 rfl rfl rfl hzx) (.drop (by kernel_rfl) (.nil)), ?_⟩
            refine Qk rfl rfl rfl (fun _ => QT_indexArr (2) rfl rfl Tryz.underlying79 KF.sz_77 rfl rfl (rfl) (fun _ => by decide)) ?_
            refine TV_e0 rfl rfl rfl (rfl) (ET_store (vs := x) 1 rfl rfl rfl rfl hzx rfl (List.all_eq_true.2 hix.oneCell) (Nat.ble_eq_true_of_le (by rw [hxl, setAt_length, hTl]; decide))) ?_
            rintro _ _ ⟨rfl, rfl⟩
            refine ⟨_, .drop (by kernel_rfl) (.nil), ?_⟩
            refine TV_end ?_
            refine Qo ?_
            exact TX_cut ⟨(v, .slice ad1 v.length (cap - 1), a, c, x, 0), v, 0, rfl, rfl, hback, hav, hia, hic, hix, Nat.le_refl _, .inl ⟨rfl, by rw [← hF, strip_two (by omega)], by simp at hfuel; omega⟩, .inl rfl⟩ ⟨rfl, rfl, rfl, rfl, trivial⟩ (fun w h => by
              rw [← set3 hia.length hib.length hic.length hxl]
              exact h.tail)
          ·
            refine Qg ?_
            refine Qa rfl rfl (Qd rfl rfl rfl) ?_
            refine Qf ?_
            refine Qo ?_
            exact TX_cut ⟨(v, .slice ad1 v.length (cap - 1), a, b, c, 7), v, 7, rfl, rfl, hback, hav, hia, hib, hic, Nat.le_refl _, .inr ⟨by decide, by rw [← hF, strip_bad (by omega) (by omega) (by omega)]⟩, .inr (.inr rfl)⟩ ⟨rfl, rfl, rfl, rfl, trivial⟩ (fun _ h => h.tail)
    try clear hTl hT0 hT1 hT2 hTi hia hib hic hfin a b c
    rintro ⟨⟨rem', sv', a, b, c, e⟩, rem2, e2, h1, h2, hsl', hall', hia, hib, hic, hrl, hfin', he'⟩
    dsimp only at h1 h2 hsl' hall' hia hib hic hrl hfin' he' ⊢
    subst h1 h2
    have hBi : Ints triK (B3 a b c) := T3_ints (bareR_ints hia) (bareR_ints hib) (bareR_ints hic)
    have hTz : Sz Tryz.prog 79 (T3 a b c).length := by rw [T3_len hia.length hib.length hic.length]; exact KF.sz_79
    refine Qg ?_
    refine Qa rfl rfl (Qc rfl rfl rfl) ?_
    refine Qa rfl rfl (Ql (cs := T3 a b c) 0 rfl rfl Tryz.underlying79 rfl rfl rfl hTz) ?_
    refine TL_cq rfl rfl rfl rfl KF.cal_133 rfl (fun _ => bare_spec w0 _ a b c hia hib hic) ?_
    refine TL_e rfl rfl rfl (rfl) (ET_buildN [_] rfl Tryz.underlying61 KF.sz_79 KF.zero_79 rfl rfl rfl (fun v hv => by cases List.mem_singleton.1 hv; exact hBi.length)) ?_
    rintro _ _ ⟨b53, rfl, rfl⟩
    refine TL_e rfl rfl rfl (rfl) (ET_appendL (L := [_, _]) rfl Tryz.underlying61 el_Tri rfl rfl hfr (fun _ h => h) (SlA.own (n := 1) (xs := B3 a b c) 0 rfl (by rw [List.drop_zero, List.take_of_length_le (by simp [Value.cells]; exact Nat.le_of_eq hBi.length)]; simp [Value.cells, B3]) (by simp [Value.cells]; exact Nat.le_of_eq hBi.length.symm) (by omega)) hBi.oneCell (by simp at hfew; omega) (by simp at hfew; omega)) ?_
    rintro fv2 _ ⟨H', hF', rfl⟩
    refine Qa rfl rfl (Qd rfl rfl rfl) ?_
    refine Qf ?_
    refine TX_scope_normal ?_
    refine Qo ?_
    exact TX_round ⟨(rem2, sv', a, b, c, out ++ [B3 a b c], fv2, H', e2, f), hsl', hall', hia, hib, hic, fun t ht => by
      rcases List.mem_append.1 ht with ht | ht
      · exact hio t ht
      · cases List.mem_singleton.1 ht
        exact hBi, by rw [List.length_append, flatten_snoc]; exact hF', by simp at hfew ⊢; omega, hfin', he'⟩ (by show rem2.length < (x :: v).length; simp; omega) ⟨rfl, rfl, rfl, rfl, trivial⟩ (fun _ h => h.tail)
  ·
    refine Zd ?_
    refine Qi (Qi ?_)
    refine Qp ?_
    refine Qb (Qe (Qe (Qg ?_)))
    refine Qa rfl rfl (Qc rfl rfl rfl) ?_
    refine Qa rfl rfl (QT_neq rfl rfl rfl rfl) ?_
    refine Qf (Qb ?_)
    refine Qm rfl (fun h56 => ?_) (fun h56 => ?_)
    ·
      refine Qe (Qg ?_)
      refine Qa rfl rfl (Qc rfl rfl rfl) ?_
      refine Qa rfl rfl (Qd rfl rfl rfl) ?_
      refine Qa rfl rfl (Qd rfl rfl rfl) ?_
      refine Qf (Qb ?_)
      refine Qu ?_
      refine Qn ?_
      have hFe : FIN = ([], e) := by
        rcases hfin with ⟨h, _⟩ | ⟨_, h⟩
        · exact absurd h h56
        · exact h
      rw [hFe]
      exact Qs (.inl rfl) (res2 rfl rfl rfl) ⟨_, ⟨_, [], rfl, Frag.nil _ _, rfl⟩, fun _ h => h.tail.app_right⟩
    ·
      refine Qt (Qb (Qe ?_))
      obtain rfl : e = 0 := Classical.byContradiction h56
      have hr0 : rem = [] := by
        cases rem with
        | nil => rfl
        | cons x v => simp at h12
      subst hr0
      have hFe : FIN = (out, 0) := by
        rcases hfin with ⟨_, h, hf⟩ | ⟨h, _⟩
        · obtain ⟨g, rfl⟩ : ∃ g, f = g + 1 := ⟨f - 1, by simp at hf; omega⟩
          rw [← h, stripF]
        · exact absurd rfl h
      rw [hFe]
      refine TC_A (St w0 (H ++ η)) (fun _ h => h.tail) ?_
      refine Qg ?_
      refine Qa rfl rfl (Qc rfl rfl rfl) ?_
      refine TL_e rfl rfl rfl (rfl) (ET_call rfl KF.cal_134 rfl (clipT_spec w0 η H fv out.length out.flatten hfr)) ?_
      rintro cv _ ⟨hF2, rfl⟩
      refine Qa rfl rfl (Qd rfl rfl rfl) ?_
      refine Qa rfl rfl (Qd rfl rfl rfl) ?_
      refine Qf (Qb ?_)
      refine Qu ?_
      exact Qs (.inl rfl) (res2 rfl rfl rfl) ⟨_, ⟨cv, H, rfl, hF2, rfl⟩, fun _ h => h⟩
end Go.Proofs.YtjdaglmkljbfkaaGreatDoor
namespace Go.Proofs.YtjdaglmkljbfkaaGreatDoor
open Go Go.Gx Go.RowKit
set_option maxRecDepth 100000
def at7 (rs : List R) (i : Nat) : R := rs.getD i zR
theorem at7_some {rs : List R} {i : Nat} (h : i < rs.length) : rs[i]? = some (at7 rs i) := by
 rw [at7, List.getD_eq_getElem?_getD, List.getElem?_eq_getElem h]; rfl
theorem flat_at7 {rs : List R} {i : Nat} (ha : All7 rs) (h : i < rs.length) : (rs.flatten.drop (i * 7)).take 7 = at7 rs i ∧ i * 7 + 7 ≤ rs.flatten.length := flat_at ha.len (at7_some h)
theorem at7_ints {rs : List R} {i : Nat} (ha : All7 rs) (h : i < rs.length) : Ints recK (at7 rs i) := ha _ (List.mem_of_getElem? (at7_some h))
def cellF (rs : List R) (row i : Nat) : List R :=
 if i % row = row - 1 then [] else [B3 (at7 rs i) (at7 rs (i + 1)) (at7 rs (i + row)), B3 (at7 rs (i + 1)) (at7 rs (i + row + 1)) (at7 rs (i + row))]
def outT (rs : List R) (row n : Nat) : List R := (List.range n).flatMap (cellF rs row)
theorem outT_succ (rs : List R) (row n : Nat) : outT rs row (n + 1) = outT rs row n ++ cellF rs row n := by
 simp [outT, List.range_succ, List.flatMap_append]
theorem outT_len (rs : List R) (row : Nat) : ∀ n, (outT rs row n).length ≤ 2 * n
 | 0 => by simp [outT]
 | n + 1 => by
  have h := outT_len rs row n
  have h2 : (cellF rs row n).length ≤ 2 := by unfold cellF; split <;> simp
  rw [outT_succ, List.length_append]; omega
theorem B3_ints {a b c : R} (ha : Ints recK a) (hb : Ints recK b) (hc : Ints recK c) : Ints triK (B3 a b c) := T3_ints (bareR_ints ha) (bareR_ints hb) (bareR_ints hc)
def rowsF (rs : List R) (row : Nat) : List R × Int := if rs.length % row = 0 ∧ 2 ≤ rs.length / row then (outT rs row (rs.length - row), 0) else ([], 5)
theorem icast_mod (a b : Nat) : (a : Int) % (b : Int) = ((a % b : Nat) : Int) := rfl
theorem icast_div (a b : Nat) : (a : Int) / (b : Int) = ((a / b : Nat) : Int) := rfl
theorem icast_mul (a b : Nat) : (a : Int) * (b : Int) = ((a * b : Nat) : Int) := rfl
theorem i64_mul {a b : Nat} (h : a * b ≤ 9223372036854775807) : -9223372036854775808 ≤ (a : Int) * (b : Int) ∧ (a : Int) * (b : Int) ≤ 9223372036854775807 := by
 rw [icast_mul]; omega
theorem two_rows {n row : Nat} (h0 : n % row = 0) (h2 : 2 ≤ n / row) : 2 * row ≤ n ∧ n / row * row = n := by
 have h := Nat.div_mul_cancel (Nat.dvd_of_mod_eq_zero h0)
 refine ⟨?_, h⟩
 calc 2 * row ≤ n / row * row := Nat.mul_le_mul_right _ h2
  _ = n := h
theorem two_own {a b : R} (ha : a.length = 21) (hb : b.length = 21) : ((([Value.agg a.toArray, Value.agg b.toArray].map fun v => v.cells.toList).flatten.drop 0).take (2 * 21)) = a ++ b := by
 rw [List.drop_zero, List.take_of_length_le (by simp [Value.cells, ha, hb])]
 simp [Value.cells]
theorem two_len {a b : R} (ha : a.length = 21) (hb : b.length = 21) : 0 + 2 * 21 ≤ ([Value.agg a.toArray, Value.agg b.toArray].map fun v => v.cells.toList).flatten.length := by
 simp [Value.cells, ha, hb]
theorem one_own {a : R} (ha : a.length = 21) : ((([Value.agg a.toArray].map fun v => v.cells.toList).flatten.drop 0).take (1 * 21)) = a := by
 rw [List.drop_zero, List.take_of_length_le (by simp [Value.cells, ha])]
 simp [Value.cells]
theorem one_len {a : R} (ha : a.length = 21) : 0 + 1 * 21 ≤ ([Value.agg a.toArray].map fun v => v.cells.toList).flatten.length := by
 simp [Value.cells, ha]
set_option maxHeartbeats 1000000 in
theorem rows_spec (w0 : Base) (η : Heap) (sv : Value) (rs : List R) (row : Nat) (hs : SlA (St w0 η) sv 7 rs.length rs.flatten) (ha : All7 rs) (hrow : 1 ≤ row) (hn : rs.length * 120 ≤ 140737488355328) :
    CallsT Tryz.prog 119 [sv, .int .i64 (row : Int)] (St w0 η) fun v A' => ∃ pv H, v = .tuple #[pv, .int .i64 (rowsF rs row).2] ∧ Frag 79 21 pv (rowsF rs row).1.length (rowsF rs row).1.flatten H ∧ A' = St w0 (H ++ η) := by
  obtain ⟨_, ad, cap, sb, so, rfl, hcap, had, hrd⟩ := hs.some
  refine CallsT.body Tryz.func119 rfl rfl ?_
  simp only [Tryz.ntmps119, slotsOf, Nat.reduceAdd]
  refine Qe (Qg ?_)
  refine Qa rfl rfl (Qd rfl rfl rfl) ?_
  refine Qa rfl rfl (Qd rfl rfl rfl) ?_
  refine Qf (Qb ?_)
  refine TC_scope ?_
  refine Qe (Qe (Qg ?_))
  refine Qa rfl rfl (Qc rfl rfl rfl) ?_
  refine Qa rfl rfl (Za rfl rfl Tryz.underlying31 rfl) ?_
  refine Qa rfl rfl (Qc rfl rfl rfl) ?_
  refine Qa rfl rfl (QT_rem rfl rfl rfl rfl (fun _ => ⟨by omega, by omega⟩)) ?_
  refine Qa rfl rfl (QT_neq rfl rfl rfl rfl) ?_
  refine Qa rfl rfl (Qc rfl rfl rfl) ?_
  refine Qa rfl rfl (Qc rfl rfl rfl) ?_
  refine Qa rfl rfl (Za rfl rfl Tryz.underlying31 rfl) ?_
  refine Qa rfl rfl (Qc rfl rfl rfl) ?_
  refine Qa rfl rfl (QT_quo rfl rfl rfl rfl (fun _ => ⟨by omega, by omega, by omega⟩)) ?_
  refine Qa rfl rfl (QT_lss rfl rfl rfl rfl) ?_
  refine Qa rfl rfl (QT_or rfl rfl rfl rfl) ?_
  refine Qf (Qb ?_)
  refine TC_cond rfl (fun h23 => ?_) (fun h23 => ?_)
  ·
    refine Qe (Qg ?_)
    refine Qa rfl rfl (Qd rfl rfl rfl) ?_
    refine Qa rfl rfl (Qd rfl rfl rfl) ?_
    refine Qf (Qb ?_)
    refine Qu ?_
    refine Qn ?_
    refine TX_scope_ret ?_
    have he : rowsF rs row = ([], 5) := by
      rw [rowsF, if_neg]
      rw [icast_mod, icast_div] at h23
      simp only [Bool.or_eq_true, decide_eq_true_eq] at h23
      omega
    rw [he]
    exact Qs (.inl rfl) (res2 rfl rfl rfl) ⟨_, ⟨_, [], rfl, Frag.nil _ _, rfl⟩, (fun _ h => by first | exact h | exact h.tail | exact h.tail.tail | exact h.tail.tail.tail | exact h.tail.tail.tail.tail | exact h.tail.tail.tail.tail.tail | exact h.tail.tail.tail.tail.tail.tail | exact h.tail.tail.tail.tail.tail.tail.tail | exact h.tail.tail.tail.tail.tail.tail.tail.tail | exact h.tail.tail.tail.tail.tail.tail.tail.tail.tail | exact h.tail.tail.tail.tail.tail.tail.tail.tail.tail.tail | exact h.tail.tail.tail.tail.tail.tail.tail.tail.tail.tail.tail | exact h.tail.tail.tail.tail.tail.tail.tail.tail.tail.tail.tail.tail | exact h.tail.tail.tail.tail.tail.tail.tail.tail.tail.tail.tail.tail.tail)⟩
  ·
    refine Qt (Qb (Qe ?_))
    rw [icast_mod, icast_div] at h23
    simp only [Bool.or_eq_false_iff, decide_eq_false_iff_not, ne_eq, Classical.not_not] at h23
    have hm0 : rs.length % row = 0 := by omega
    have hm2 : 2 ≤ rs.length / row := by omega
    obtain ⟨h2r, _⟩ := two_rows hm0 hm2
    have he : rowsF rs row = (outT rs row (rs.length - row), 0) := by rw [rowsF, if_pos ⟨hm0, hm2⟩]
    rw [he]
    clear he h23
    refine Qg ?_
    refine Qa rfl rfl (Qd rfl rfl rfl) ?_
    refine Qf (Qb (Qe ?_))
    refine TC_label ?_
    refine Qb (Qe (Qe (Qg ?_)))
    refine Qa rfl rfl (Qc rfl rfl rfl) ?_
    refine Qa rfl rfl (Za rfl rfl Tryz.underlying31 rfl) ?_
    refine Qa rfl rfl (Qc rfl rfl rfl) ?_
    refine Qa rfl rfl (QT_sub rfl rfl rfl rfl (fun _ => ⟨by omega, by omega⟩)) ?_
    refine Qa rfl rfl (Qc rfl rfl rfl) ?_
    refine Qf (Qb (Qr ?_))
    refine TC_loop (γ := { t : Nat × Value × Heap // t.1 ≤ rs.length - row ∧ Frag 79 21 t.2.1 (outT rs row t.1).length (outT rs row t.1).flatten t.2.2 }) (fun t => [(0, true, .slice ad rs.length cap), (1, true, .int .i64 (row : Int)), (6, true, t.1.2.1), (27, true, .int .i64 ((rs.length : Int) - (row : Int))), (28, true, .int .i64 (t.1.1 : Int))]) (fun t => St w0 (t.1.2.2 ++ η)) (fun t => rs.length - row - t.1.1) ⟨(0, .slice none 0 0, []), Nat.zero_le _, Frag.nil _ _⟩ ⟨rfl, rfl, rfl, rfl, rfl, trivial⟩ (fun _ h => h) ?_
    rintro ⟨⟨i, fv, H⟩, hi, hfr⟩
    dsimp only at hi hfr ⊢
    refine Qe (Qg ?_)
    refine Qa rfl rfl (QT_lss rfl rfl rfl rfl) ?_
    refine Qf (Qb (Qe ?_))
    refine Qm rfl (fun h29 => ?_) (fun h29 => ?_)
    ·
      refine Qt (Qb ?_)
      refine TC_cut (γ := { t : Value × Heap // Frag 79 21 t.1 (outT rs row (i + 1)).length (outT rs row (i + 1)).flatten t.2 }) (fun t => [(0, true, .slice ad rs.length cap), (1, true, .int .i64 (row : Int)), (6, true, t.1.1), (27, true, .int .i64 ((rs.length : Int) - (row : Int))), (28, true, .int .i64 (i : Int))]) (fun t => St w0 (t.1.2 ++ η)) ?_ ?_
      ·
        refine Qr (Qe (Qg ?_))
        refine Qa rfl rfl (Qc rfl rfl rfl) ?_
        refine Qa rfl rfl (Qd rfl rfl rfl) ?_
        refine Qf (Qb (Qe (Qe (Qg ?_))))
        refine Qa rfl rfl (Qc rfl rfl rfl) ?_
        refine Qa rfl rfl (Qc rfl rfl rfl) ?_
        refine Qa rfl rfl (QT_rem rfl rfl rfl rfl (fun _ => ⟨by omega, by omega⟩)) ?_
        refine Qa rfl rfl (Qc rfl rfl rfl) ?_
        refine Qa rfl rfl (QT_sub rfl rfl rfl rfl (fun _ => ⟨by omega, by omega⟩)) ?_
        refine Qa rfl rfl (QT_eql rfl rfl rfl rfl) ?_
        refine Qf (Qb ?_)
        refine Qm rfl (fun h36 => ?_) (fun h36 => ?_)
        ·
          have hc : cellF rs row i = [] := by
            rw [cellF, if_pos]
            rw [icast_mod] at h36
            omega
          refine Zd ?_
          refine Qi ?_
          refine Qp ?_
          exact TX_cut ⟨(fv, H), by rw [outT_succ, hc, List.append_nil]; exact hfr⟩ ⟨rfl, rfl, rfl, rfl, rfl, trivial⟩ (fun _ h => h)
        ·
          have hc : cellF rs row i = [B3 (at7 rs i) (at7 rs (i + 1)) (at7 rs (i + row)), B3 (at7 rs (i + 1)) (at7 rs (i + row + 1)) (at7 rs (i + row))] := by
            rw [cellF, if_neg]
            rw [icast_mod] at h36
            omega
          have hi1 : i < rs.length := by omega
          have hi2 : i + 1 < rs.length := by omega
          have hi3 : i + row < rs.length := by omega
          have hi4 : i + row + 1 < rs.length := by
            refine Nat.lt_of_le_of_ne (by omega) fun e => h36 ?_
            rw [icast_mod]
            have e1 : i = rs.length - row - 1 := by omega
            have e2 : (rs.length - row - 1) % row = row - 1 := by
              obtain ⟨q, hq⟩ := Nat.dvd_of_mod_eq_zero hm0
              obtain ⟨q', rfl⟩ : ∃ q', q = q' + 2 := ⟨q - 2, by
                have := h2r
                rw [hq, Nat.mul_comm 2 row] at this
                have := Nat.le_of_mul_le_mul_left this (by omega)
                omega⟩
              rw [hq, Nat.mul_add, show row * q' + row * 2 - row - 1 = row - 1 + row * q' by omega, Nat.add_mul_mod_self_left, Nat.mod_eq_of_lt (by omega)]
            rw [e1, e2]; omega
          obtain ⟨f1, g1⟩ := flat_at7 ha hi1
          obtain ⟨f2, g2⟩ := flat_at7 ha hi2
          obtain ⟨f3, g3⟩ := flat_at7 ha hi3
          obtain ⟨f4, g4⟩ := flat_at7 ha hi4
          have j1 := at7_ints ha hi1
          have j2 := at7_ints ha hi2
          have j3 := at7_ints ha hi3
          have j4 := at7_ints ha hi4
          have hl := outT_len rs row i
          have z7 : ∀ {x : R}, Ints recK x → Sz Tryz.prog 77 x.length := fun h => by rw [h.length]; exact KF.sz_77
          generalize at7 rs i = xa at *
          generalize at7 rs (i + 1) = xb at *
          generalize at7 rs (i + row) = xc at *
          generalize at7 rs (i + row + 1) = xd at *
          have b1 : (B3 xa xb xc).length = 21 := (B3_ints j1 j2 j3).length
          have b2 : (B3 xb xd xc).length = 21 := (B3_ints j2 j4 j3).length
          refine Qt (Qb (Qe ?_))
          refine TC_draw [(0, 0), (1, 0), (2, 0), (3, 0), (4, 0), (5, 0), (6, 0), (7, 0), (8, 0), (9, 0), (10, 0), (11, 0), (12, 0), (13, 0), (14, 0), (15, 0), (16, 0), (17, 0), (18, 0), (19, 0), (20, 0), (21, 0), (22, 2), (23, 2), (24, 2), (25, 2), (26, 1), (27, 1), (28, 1), (29, 1)] KF.mixed (by kernel_rfl) (St.calm _ _) ?_
          refine Qk rfl rfl rfl (fun _ => Qc rfl rfl rfl) ?_
          refine Qk rfl rfl rfl (fun _ => Qc rfl rfl rfl) ?_
          refine Qk rfl rfl rfl (fun _ => QT_indexG i rfl rfl Tryz.underlying31 KF.sz_77 rfl rfl rfl (fun _ => hi1) (fun _ => had (by omega))) ?_
          refine Qz rfl rfl rfl (Qy (out := xa) (i * 7) rfl rfl Tryz.underlying77 rfl KF.sz_77 (hrd.deep (by intro _ hw; first | exact hw | exact hw.app_right | exact hw.app_right.app_right | exact hw.tail | exact hw.tail.app_right | exact hw.tail.tail | exact hw.tail.tail.app_right | exact hw.tail.tail.tail | exact hw.tail.tail.tail.app_right | exact hw.tail.tail.tail.tail | exact hw.tail.tail.tail.tail.app_right | exact hw.tail.tail.tail.tail.tail | exact hw.tail.tail.tail.tail.tail.app_right | exact hw.tail.tail.tail.tail.tail.tail | exact hw.tail.tail.tail.tail.tail.tail.app_right)) rfl (fun _ => g1) (fun _ => f1)) ?_
          refine Qk rfl rfl rfl (fun _ => Qc rfl rfl rfl) ?_
          refine Qk rfl rfl rfl (fun _ => Qc rfl rfl rfl) ?_
          refine Qk rfl rfl rfl (fun _ => Zb rfl rfl rfl rfl (fun _ => ⟨by omega, by omega⟩)) ?_
          refine Qk rfl rfl rfl (fun _ => QT_indexG (i + 1) rfl rfl Tryz.underlying31 KF.sz_77 rfl rfl rfl (fun _ => hi2) (fun _ => had (by omega))) ?_
          refine Qz rfl rfl rfl (Qy (out := xb) ((i + 1) * 7) rfl rfl Tryz.underlying77 rfl KF.sz_77 (hrd.deep (by intro _ hw; first | exact hw | exact hw.app_right | exact hw.app_right.app_right | exact hw.tail | exact hw.tail.app_right | exact hw.tail.tail | exact hw.tail.tail.app_right | exact hw.tail.tail.tail | exact hw.tail.tail.tail.app_right | exact hw.tail.tail.tail.tail | exact hw.tail.tail.tail.tail.app_right | exact hw.tail.tail.tail.tail.tail | exact hw.tail.tail.tail.tail.tail.app_right | exact hw.tail.tail.tail.tail.tail.tail | exact hw.tail.tail.tail.tail.tail.tail.app_right)) rfl (fun _ => g2) (fun _ => f2)) ?_
          refine Qk rfl rfl rfl (fun _ => Qc rfl rfl rfl) ?_
          refine Qk rfl rfl rfl (fun _ => Qc rfl rfl rfl) ?_
          refine Qk rfl rfl rfl (fun _ => Qc rfl rfl rfl) ?_
          refine Qk rfl rfl rfl (fun _ => Zb rfl rfl rfl rfl (fun _ => ⟨by omega, by omega⟩)) ?_
          refine Qk rfl rfl rfl (fun _ => QT_indexG (i + row) rfl rfl Tryz.underlying31 KF.sz_77 rfl rfl rfl (fun _ => hi3) (fun _ => had (by omega))) ?_
          refine Qz rfl rfl rfl (Qy (out := xc) ((i + row) * 7) rfl rfl Tryz.underlying77 rfl KF.sz_77 (hrd.deep (by intro _ hw; first | exact hw | exact hw.app_right | exact hw.app_right.app_right | exact hw.tail | exact hw.tail.app_right | exact hw.tail.tail | exact hw.tail.tail.app_right | exact hw.tail.tail.tail | exact hw.tail.tail.tail.app_right | exact hw.tail.tail.tail.tail | exact hw.tail.tail.tail.tail.app_right | exact hw.tail.tail.tail.tail.tail | exact hw.tail.tail.tail.tail.tail.app_right | exact hw.tail.tail.tail.tail.tail.tail | exact hw.tail.tail.tail.tail.tail.tail.app_right)) rfl (fun _ => g3) (fun _ => f3)) ?_
          refine Qk rfl rfl rfl (fun _ => Qc rfl rfl rfl) ?_
          refine Qk rfl rfl rfl (fun _ => Qc rfl rfl rfl) ?_
          refine Qk rfl rfl rfl (fun _ => Qc rfl rfl rfl) ?_
          refine Qk rfl rfl rfl (fun _ => Zb rfl rfl rfl rfl (fun _ => ⟨by omega, by omega⟩)) ?_
          refine Qk rfl rfl rfl (fun _ => Zb rfl rfl rfl rfl (fun _ => ⟨by omega, by omega⟩)) ?_
          refine Qk rfl rfl rfl (fun _ => QT_indexG (i + row + 1) rfl rfl Tryz.underlying31 KF.sz_77 rfl rfl rfl (fun _ => hi4) (fun _ => had (by omega))) ?_
          refine Qz rfl rfl rfl (Qy (out := xd) ((i + row + 1) * 7) rfl rfl Tryz.underlying77 rfl KF.sz_77 (hrd.deep (by intro _ hw; first | exact hw | exact hw.app_right | exact hw.app_right.app_right | exact hw.tail | exact hw.tail.app_right | exact hw.tail.tail | exact hw.tail.tail.app_right | exact hw.tail.tail.tail | exact hw.tail.tail.tail.app_right | exact hw.tail.tail.tail.tail | exact hw.tail.tail.tail.tail.app_right | exact hw.tail.tail.tail.tail.tail | exact hw.tail.tail.tail.tail.tail.app_right | exact hw.tail.tail.tail.tail.tail.tail | exact hw.tail.tail.tail.tail.tail.tail.app_right)) rfl (fun _ => g4) (fun _ => f4)) ?_
          refine TV_allocs [⟨22, 8, 77, zv recK⟩, ⟨23, 9, 77, zv recK⟩, ⟨24, 10, 77, zv recK⟩, ⟨25, 11, 77, zv recK⟩] [(26, 1), (27, 1), (28, 1), (29, 1)] (by kernel_rfl) (by decide) ?_ ?_ ?_ ?_
          · intro x hx
            simp only [List.mem_cons, List.not_mem_nil, or_false] at hx
            rcases hx with rfl | rfl | rfl | rfl <;> exact ⟨_, rfl, rfl, rfl, rfl, KF.zero_77, rfl⟩
          · intro x hx
            simp only [List.mem_cons, List.not_mem_nil, or_false] at hx
            rcases hx with rfl | rfl | rfl | rfl <;> rfl
          · intro x hx X
            simp only [List.mem_cons, List.not_mem_nil, or_false] at hx
            rcases hx with rfl | rfl | rfl | rfl <;> exact .keep (by kernel_rfl) rfl (by first | exact Qy (out := xd) ((i + row + 1) * 7) rfl rfl Tryz.underlying77 rfl KF.sz_77 (hrd.deep (by intro _ hw; first | exact hw | exact hw.app_right | exact hw.app_right.app_right | exact hw.tail | exact hw.tail.app_right | exact hw.tail.tail | exact hw.tail.tail.app_right | exact hw.tail.tail.tail | exact hw.tail.tail.tail.app_right | exact hw.tail.tail.tail.tail | exact hw.tail.tail.tail.tail.app_right | exact hw.tail.tail.tail.tail.tail | exact hw.tail.tail.tail.tail.tail.app_right | exact hw.tail.tail.tail.tail.tail.tail | exact hw.tail.tail.tail.tail.tail.tail.app_right)) rfl (fun _ => g4) (fun _ => f4)) (.keep (by kernel_rfl) rfl (by first | exact Qy (out := xc) ((i + row) * 7) rfl rfl Tryz.underlying77 rfl KF.sz_77 (hrd.deep (by intro _ hw; first | exact hw | exact hw.app_right | exact hw.app_right.app_right | exact hw.tail | exact hw.tail.app_right | exact hw.tail.tail | exact hw.tail.tail.app_right | exact hw.tail.tail.tail | exact hw.tail.tail.tail.app_right | exact hw.tail.tail.tail.tail | exact hw.tail.tail.tail.tail.app_right | exact hw.tail.tail.tail.tail.tail | exact hw.tail.tail.tail.tail.tail.app_right | exact hw.tail.tail.tail.tail.tail.tail | exact hw.tail.tail.tail.tail.tail.tail.app_right)) rfl (fun _ => g3) (fun _ => f3)) (.keep (by kernel_rfl) rfl (by first | exact Qy (out := xb) ((i + 1) * 7) rfl rfl Tryz.underlying77 rfl KF.sz_77 (hrd.deep (by intro _ hw; first | exact hw | exact hw.app_right | exact hw.app_right.app_right | exact hw.tail | exact hw.tail.app_right | exact hw.tail.tail | exact hw.tail.tail.app_right | exact hw.tail.tail.tail | exact hw.tail.tail.tail.app_right | exact hw.tail.tail.tail.tail | exact hw.tail.tail.tail.tail.app_right | exact hw.tail.tail.tail.tail.tail | exact hw.tail.tail.tail.tail.tail.app_right | exact hw.tail.tail.tail.tail.tail.tail | exact hw.tail.tail.tail.tail.tail.tail.app_right)) rfl (fun _ => g2) (fun _ => f2)) (.keep (by kernel_rfl) rfl (by first | exact Qy (out := xa) (i * 7) rfl rfl Tryz.underlying77 rfl KF.sz_77 (hrd.deep (by intro _ hw; first | exact hw | exact hw.app_right | exact hw.app_right.app_right | exact hw.tail | exact hw.tail.app_right | exact hw.tail.tail | exact hw.tail.tail.app_right | exact hw.tail.tail.tail | exact hw.tail.tail.tail.app_right | exact hw.tail.tail.tail.tail | exact hw.tail.tail.tail.tail.app_right | exact hw.tail.tail.tail.tail.tail | exact hw.tail.tail.tail.tail.tail.app_right | exact hw.tail.tail.tail.tail.tail.tail | exact hw.tail.tail.tail.tail.tail.tail.app_right)) rfl (fun _ => g1) (fun _ => f1)) (.nil))))
          intro β
          simp only [List.map_cons, List.map_nil, slotA, blkA, List.cons_append, List.nil_append]
          generalize β 8 = b8
          generalize β 9 = b9
          generalize β 10 = b10
          generalize β 11 = b11
          refine TV_e0 rfl rfl rfl (rfl) (ET_storeW (vs := xa) 0 rfl rfl rfl (z7 j1) rfl (List.all_eq_true.2 j1.oneCell) (by rw [j1.length]; rfl)) ?_
          rintro _ _ ⟨rfl, rfl⟩
          refine ⟨_, .keep (by kernel_rfl) rfl (by first | exact Qy (out := xd) ((i + row + 1) * 7) rfl rfl Tryz.underlying77 rfl KF.sz_77 (hrd.deep (by intro _ hw; first | exact hw | exact hw.app_right | exact hw.app_right.app_right | exact hw.tail | exact hw.tail.app_right | exact hw.tail.tail | exact hw.tail.tail.app_right | exact hw.tail.tail.tail | exact hw.tail.tail.tail.app_right | exact hw.tail.tail.tail.tail | exact hw.tail.tail.tail.tail.app_right | exact hw.tail.tail.tail.tail.tail | exact hw.tail.tail.tail.tail.tail.app_right | exact hw.tail.tail.tail.tail.tail.tail | exact hw.tail.tail.tail.tail.tail.tail.app_right)) rfl (fun _ => g4) (fun _ => f4)) (.keep (by kernel_rfl) rfl (by first | exact Qy (out := xc) ((i + row) * 7) rfl rfl Tryz.underlying77 rfl KF.sz_77 (hrd.deep (by intro _ hw; first | exact hw | exact hw.app_right | exact hw.app_right.app_right | exact hw.tail | exact hw.tail.app_right | exact hw.tail.tail | exact hw.tail.tail.app_right | exact hw.tail.tail.tail | exact hw.tail.tail.tail.app_right | exact hw.tail.tail.tail.tail | exact hw.tail.tail.tail.tail.app_right | exact hw.tail.tail.tail.tail.tail | exact hw.tail.tail.tail.tail.tail.app_right | exact hw.tail.tail.tail.tail.tail.tail | exact hw.tail.tail.tail.tail.tail.tail.app_right)) rfl (fun _ => g3) (fun _ => f3)) (.keep (by kernel_rfl) rfl (by first | exact Qy (out := xb) ((i + 1) * 7) rfl rfl Tryz.underlying77 rfl KF.sz_77 (hrd.deep (by intro _ hw; first | exact hw | exact hw.app_right | exact hw.app_right.app_right | exact hw.tail | exact hw.tail.app_right | exact hw.tail.tail | exact hw.tail.tail.app_right | exact hw.tail.tail.tail | exact hw.tail.tail.tail.app_right | exact hw.tail.tail.tail.tail | exact hw.tail.tail.tail.tail.app_right | exact hw.tail.tail.tail.tail.tail | exact hw.tail.tail.tail.tail.tail.app_right | exact hw.tail.tail.tail.tail.tail.tail | exact hw.tail.tail.tail.tail.tail.tail.app_right)) rfl (fun _ => g2) (fun _ => f2)) (.drop (by kernel_rfl) (.nil)))), ?_⟩
          refine TV_e0 rfl rfl rfl (rfl) (ET_storeW (vs := xb) 1 rfl rfl rfl (z7 j2) rfl (List.all_eq_true.2 j2.oneCell) (by rw [j2.length]; rfl)) ?_
          rintro _ _ ⟨rfl, rfl⟩
          refine ⟨_, .keep (by kernel_rfl) rfl (by first | exact Qy (out := xd) ((i + row + 1) * 7) rfl rfl Tryz.underlying77 rfl KF.sz_77 (hrd.deep (by intro _ hw; first | exact hw | exact hw.app_right | exact hw.app_right.app_right | exact hw.tail | exact hw.tail.app_right | exact hw.tail.tail | exact hw.tail.tail.app_right | exact hw.tail.tail.tail | exact hw.tail.tail.tail.app_right | exact hw.tail.tail.tail.tail | exact hw.tail.tail.tail.tail.app_right | exact hw.tail.tail.tail.tail.tail | exact hw.tail.tail.tail.tail.tail.app_right | exact hw.tail.tail.tail.tail.tail.tail | exact hw.tail.tail.tail.tail.tail.tail.app_right)) rfl (fun _ => g4) (fun _ => f4)) (.keep (by kernel_rfl) rfl (by first | exact Qy (out := xc) ((i + row) * 7) rfl rfl Tryz.underlying77 rfl KF.sz_77 (hrd.deep (by intro _ hw; first | exact hw | exact hw.app_right | exact hw.app_right.app_right | exact hw.tail | exact hw.tail.app_right | exact hw.tail.tail | exact hw.tail.tail.app_right | exact hw.tail.tail.tail | exact hw.tail.tail.tail.app_right | exact hw.tail.tail.tail.tail | exact hw.tail.tail.tail.tail.app_right | exact hw.tail.tail.tail.tail.tail | exact hw.tail.tail.tail.tail.tail.app_right | exact hw.tail.tail.tail.tail.tail.tail | exact hw.tail.tail.tail.tail.tail.tail.app_right)) rfl (fun _ => g3) (fun _ => f3)) (.drop (by kernel_rfl) (.nil))), ?_⟩
          refine TV_e0 rfl rfl rfl (rfl) (ET_storeW (vs := xc) 2 rfl rfl rfl (z7 j3) rfl (List.all_eq_true.2 j3.oneCell) (by rw [j3.length]; rfl)) ?_
          rintro _ _ ⟨rfl, rfl⟩
          refine ⟨_, .keep (by kernel_rfl) rfl (by first | exact Qy (out := xd) ((i + row + 1) * 7) rfl rfl Tryz.underlying77 rfl KF.sz_77 (hrd.deep (by intro _ hw; first | exact hw | exact hw.app_right | exact hw.app_right.app_right | exact hw.tail | exact hw.tail.app_right | exact hw.tail.tail | exact hw.tail.tail.app_right | exact hw.tail.tail.tail | exact hw.tail.tail.tail.app_right | exact hw.tail.tail.tail.tail | exact hw.tail.tail.tail.tail.app_right | exact hw.tail.tail.tail.tail.tail | exact hw.tail.tail.tail.tail.tail.app_right | exact hw.tail.tail.tail.tail.tail.tail | exact hw.tail.tail.tail.tail.tail.tail.app_right)) rfl (fun _ => g4) (fun _ => f4)) (.drop (by kernel_rfl) (.nil)), ?_⟩
          refine TV_e0 rfl rfl rfl (rfl) (ET_storeW (vs := xd) 3 rfl rfl rfl (z7 j4) rfl (List.all_eq_true.2 j4.oneCell) (by rw [j4.length]; rfl)) ?_
          rintro _ _ ⟨rfl, rfl⟩
          refine ⟨_, .drop (by kernel_rfl) (.nil), ?_⟩
          refine TV_end (Qb ?_)
          refine TC_draw [(0, 0), (1, 0), (2, 0), (3, 0), (4, 0), (6, 0), (7, 0), (8, 0), (9, 0), (5, 1), (10, 1), (11, 1), (12, 1), (13, 0)] KF.mixed (by kernel_rfl) (St.calm _ _) ?_
          refine Qk rfl rfl rfl (fun _ => Qc rfl rfl rfl) ?_
          refine Qz rfl rfl rfl (Ql (cs := xa) 0 rfl rfl Tryz.underlying77 rfl rfl rfl (z7 j1)) ?_
          refine Qz rfl rfl rfl (Ql (cs := xb) 1 rfl rfl Tryz.underlying77 rfl rfl rfl (z7 j2)) ?_
          refine Qz rfl rfl rfl (Ql (cs := xc) 2 rfl rfl Tryz.underlying77 rfl rfl rfl (z7 j3)) ?_
          refine Qk rfl rfl rfl (fun _ => QT_buildArr (out := T3 xa xb xc) rfl rfl KF.zero_79 Tryz.underlying79 KF.sz_77 rfl rfl (seg3 j1.length j2.length j3.length rfl)) ?_
          refine Qz rfl rfl rfl (Ql (cs := xb) 1 rfl rfl Tryz.underlying77 rfl rfl rfl (z7 j2)) ?_
          refine Qz rfl rfl rfl (Ql (cs := xd) 3 rfl rfl Tryz.underlying77 rfl rfl rfl (z7 j4)) ?_
          refine Qz rfl rfl rfl (Ql (cs := xc) 2 rfl rfl Tryz.underlying77 rfl rfl rfl (z7 j3)) ?_
          refine Qk rfl rfl rfl (fun _ => QT_buildArr (out := T3 xb xd xc) rfl rfl KF.zero_79 Tryz.underlying79 KF.sz_77 rfl rfl (seg3 j2.length j4.length j3.length rfl)) ?_
          refine TV_cq rfl rfl rfl rfl rfl KF.cal_133 rfl (fun _ => bare_spec w0 _ xa xb xc j1 j2 j3) (.keep (by kernel_rfl) rfl (by first | exact Ql (cs := xc) 2 rfl rfl Tryz.underlying77 rfl rfl rfl (z7 j3) | exact Ql (cs := xc) 3 rfl rfl Tryz.underlying77 rfl rfl rfl (z7 j3)) (.keep (by kernel_rfl) rfl (by first | exact Ql (cs := xd) 3 rfl rfl Tryz.underlying77 rfl rfl rfl (z7 j4) | exact Ql (cs := xd) 4 rfl rfl Tryz.underlying77 rfl rfl rfl (z7 j4)) (.keep (by kernel_rfl) rfl (by first | exact Ql (cs := xb) 1 rfl rfl Tryz.underlying77 rfl rfl rfl (z7 j2) | exact Ql (cs := xb) 2 rfl rfl Tryz.underlying77 rfl rfl rfl (z7 j2)) (.keep (by kernel_rfl) rfl (by first | exact Ql (cs := xc) 2 rfl rfl Tryz.underlying77 rfl rfl rfl (z7 j3) | exact Ql (cs := xc) 3 rfl rfl Tryz.underlying77 rfl rfl rfl (z7 j3)) (.keep (by kernel_rfl) rfl (by first | exact Ql (cs := xb) 1 rfl rfl Tryz.underlying77 rfl rfl rfl (z7 j2) | exact Ql (cs := xb) 2 rfl rfl Tryz.underlying77 rfl rfl rfl (z7 j2)) (.keep (by kernel_rfl) rfl (by first | exact Ql (cs := xa) 0 rfl rfl Tryz.underlying77 rfl rfl rfl (z7 j1) | exact Ql (cs := xa) 1 rfl rfl Tryz.underlying77 rfl rfl rfl (z7 j1)) (.nil))))))) ?_
          refine TV_cq rfl rfl rfl rfl rfl KF.cal_133 rfl (fun _ => bare_spec w0 _ xb xd xc j2 j4 j3) (.keep (by kernel_rfl) rfl (by first | exact Ql (cs := xc) 2 rfl rfl Tryz.underlying77 rfl rfl rfl (z7 j3) | exact Ql (cs := xc) 3 rfl rfl Tryz.underlying77 rfl rfl rfl (z7 j3)) (.keep (by kernel_rfl) rfl (by first | exact Ql (cs := xd) 3 rfl rfl Tryz.underlying77 rfl rfl rfl (z7 j4) | exact Ql (cs := xd) 4 rfl rfl Tryz.underlying77 rfl rfl rfl (z7 j4)) (.keep (by kernel_rfl) rfl (by first | exact Ql (cs := xb) 1 rfl rfl Tryz.underlying77 rfl rfl rfl (z7 j2) | exact Ql (cs := xb) 2 rfl rfl Tryz.underlying77 rfl rfl rfl (z7 j2)) (.keep (by kernel_rfl) rfl (by first | exact Ql (cs := xc) 2 rfl rfl Tryz.underlying77 rfl rfl rfl (z7 j3) | exact Ql (cs := xc) 3 rfl rfl Tryz.underlying77 rfl rfl rfl (z7 j3)) (.keep (by kernel_rfl) rfl (by first | exact Ql (cs := xb) 1 rfl rfl Tryz.underlying77 rfl rfl rfl (z7 j2) | exact Ql (cs := xb) 2 rfl rfl Tryz.underlying77 rfl rfl rfl (z7 j2)) (.keep (by kernel_rfl) rfl (by first | exact Ql (cs := xa) 0 rfl rfl Tryz.underlying77 rfl rfl rfl (z7 j1) | exact Ql (cs := xa) 1 rfl rfl Tryz.underlying77 rfl rfl rfl (z7 j1)) (.nil))))))) ?_
          refine TV_e rfl rfl rfl rfl (rfl) (ET_buildN [_, _] rfl Tryz.underlying61 KF.sz_79 KF.zero_79 rfl rfl rfl (fun v hv => by rcases List.mem_cons.1 hv with rfl | hv; exact (B3_ints j1 j2 j3).length; cases List.mem_singleton.1 hv; exact (B3_ints j2 j4 j3).length)) ?_
          rintro _ _ ⟨b70, rfl, rfl⟩
          refine ⟨_, .keep (by kernel_rfl) rfl (by first | exact Ql (cs := xc) 2 rfl rfl Tryz.underlying77 rfl rfl rfl (z7 j3) | exact Ql (cs := xc) 3 rfl rfl Tryz.underlying77 rfl rfl rfl (z7 j3)) (.keep (by kernel_rfl) rfl (by first | exact Ql (cs := xd) 3 rfl rfl Tryz.underlying77 rfl rfl rfl (z7 j4) | exact Ql (cs := xd) 4 rfl rfl Tryz.underlying77 rfl rfl rfl (z7 j4)) (.keep (by kernel_rfl) rfl (by first | exact Ql (cs := xb) 1 rfl rfl Tryz.underlying77 rfl rfl rfl (z7 j2) | exact Ql (cs := xb) 2 rfl rfl Tryz.underlying77 rfl rfl rfl (z7 j2)) (.keep (by kernel_rfl) rfl (by first | exact Ql (cs := xc) 2 rfl rfl Tryz.underlying77 rfl rfl rfl (z7 j3) | exact Ql (cs := xc) 3 rfl rfl Tryz.underlying77 rfl rfl rfl (z7 j3)) (.keep (by kernel_rfl) rfl (by first | exact Ql (cs := xb) 1 rfl rfl Tryz.underlying77 rfl rfl rfl (z7 j2) | exact Ql (cs := xb) 2 rfl rfl Tryz.underlying77 rfl rfl rfl (z7 j2)) (.keep (by kernel_rfl) rfl (by first | exact Ql (cs := xa) 0 rfl rfl Tryz.underlying77 rfl rfl rfl (z7 j1) | exact Ql (cs := xa) 1 rfl rfl Tryz.underlying77 rfl rfl rfl (z7 j1)) (.nil)))))), ?_⟩
          refine TV_e rfl rfl rfl rfl (rfl) (ET_appendL (L := [_, _, _, _, _]) rfl Tryz.underlying61 el_Tri rfl rfl hfr (fun _ h => h) (SlA.own (n := 2) (xs := B3 xa xb xc ++ B3 xb xd xc) 0 rfl (two_own b1 b2).symm (two_len b1 b2) (by omega)) ((B3_ints j1 j2 j3).append (B3_ints j2 j4 j3)).oneCell (by omega) (by omega)) ?_
          rintro fv2 _ ⟨H', hF', rfl⟩
          refine ⟨_, .keep (by kernel_rfl) rfl (by first | exact Ql (cs := xc) 2 rfl rfl Tryz.underlying77 rfl rfl rfl (z7 j3) | exact Ql (cs := xc) 3 rfl rfl Tryz.underlying77 rfl rfl rfl (z7 j3)) (.keep (by kernel_rfl) rfl (by first | exact Ql (cs := xd) 3 rfl rfl Tryz.underlying77 rfl rfl rfl (z7 j4) | exact Ql (cs := xd) 4 rfl rfl Tryz.underlying77 rfl rfl rfl (z7 j4)) (.keep (by kernel_rfl) rfl (by first | exact Ql (cs := xb) 1 rfl rfl Tryz.underlying77 rfl rfl rfl (z7 j2) | exact Ql (cs := xb) 2 rfl rfl Tryz.underlying77 rfl rfl rfl (z7 j2)) (.keep (by kernel_rfl) rfl (by first | exact Ql (cs := xc) 2 rfl rfl Tryz.underlying77 rfl rfl rfl (z7 j3) | exact Ql (cs := xc) 3 rfl rfl Tryz.underlying77 rfl rfl rfl (z7 j3)) (.keep (by kernel_rfl) rfl (by first | exact Ql (cs := xb) 1 rfl rfl Tryz.underlying77 rfl rfl rfl (z7 j2) | exact Ql (cs := xb) 2 rfl rfl Tryz.underlying77 rfl rfl rfl (z7 j2)) (.keep (by kernel_rfl) rfl (by first | exact Ql (cs := xa) 0 rfl rfl Tryz.underlying77 rfl rfl rfl (z7 j1) | exact Ql (cs := xa) 1 rfl rfl Tryz.underlying77 rfl rfl rfl (z7 j1)) (.nil)))))), ?_⟩
          refine Qk rfl rfl rfl (fun _ => Qd rfl rfl rfl) ?_
          refine TV_end ?_
          refine Qo ?_
          exact TX_cut ⟨(fv2, H'), by rw [outT_succ, hc, List.length_append, List.flatten_append]; simpa using hF'⟩ ⟨rfl, rfl, rfl, rfl, rfl, trivial⟩ (fun _ h => h.app_right (X := [_, _, _, _, _]))
      rintro ⟨⟨fv2, H2⟩, hF2⟩
      dsimp only at hF2 ⊢
      refine Qg ?_
      refine Qa rfl rfl (Zb rfl rfl rfl rfl (fun _ => ⟨by omega, by omega⟩)) ?_
      refine Qa rfl rfl (Qc rfl rfl rfl) ?_
      refine Qf ?_
      exact TX_round ⟨(i + 1, fv2, H2), by show i + 1 ≤ rs.length - row; omega, hF2⟩ (by show rs.length - row - (i + 1) < rs.length - row - i; omega) ⟨rfl, rfl, rfl, rfl, rfl, trivial⟩ (fun _ h => h)
    ·
      refine Zd ?_
      refine Qi (Qi ?_)
      refine Qp ?_
      refine Qb (Qe ?_)
      obtain rfl : i = rs.length - row := by omega
      refine Qg ?_
      refine Qa rfl rfl (Qc rfl rfl rfl) ?_
      refine TL_e rfl rfl rfl (rfl) (ET_call rfl KF.cal_134 rfl (clipT_spec w0 η H fv _ _ hfr)) ?_
      rintro cv _ ⟨hF2, rfl⟩
      refine Qa rfl rfl (Qd rfl rfl rfl) ?_
      refine Qa rfl rfl (Qd rfl rfl rfl) ?_
      refine Qf (Qb ?_)
      refine Qu ?_
      refine TX_scope_ret ?_
      exact Qs (.inl rfl) (res2 rfl rfl rfl) ⟨_, ⟨cv, H, rfl, hF2, rfl⟩, fun _ h => h⟩
end Go.Proofs.YtjdaglmkljbfkaaGreatDoor
namespace Go.Proofs.YtjdaglmkljbfkaaGreatDoor
open Go Go.Gx Go.RowKit
set_option maxRecDepth 100000
theorem idx_lt {n row m q j : Nat} (hm : m * row = n) (hq : q + 1 < m) (hj : j + 1 < row) : q * row + j < n ∧ q * row + j + 1 < n ∧ (q + 1) * row + j < n ∧ (q + 1) * row + j + 1 < n ∧ (q + 1) * row + j = q * row + j + row := by
 have h1 : (q + 2) * row ≤ m * row := Nat.mul_le_mul_right _ (by omega)
 have h2 : (q + 2) * row = q * row + 2 * row := by rw [Nat.add_mul]
 have h3 : (q + 1) * row = q * row + row := by rw [Nat.add_mul, Nat.one_mul]
 omega
theorem cellF_in {rs : List R} {row q j : Nat} (hj : j + 1 < row) : cellF rs row (q * row + j) = [B3 (at7 rs (q * row + j)) (at7 rs (q * row + j + 1)) (at7 rs (q * row + j + row)), B3 (at7 rs (q * row + j + 1)) (at7 rs (q * row + j + row + 1)) (at7 rs (q * row + j + row))] := by
 rw [cellF, if_neg]
 rw [Nat.add_comm, Nat.add_mul_mod_self_right, Nat.mod_eq_of_lt (by omega)]; omega
theorem cellF_end {rs : List R} {row q j : Nat} (hj : j + 1 = row) : cellF rs row (q * row + j) = [] := by
 rw [cellF, if_pos]
 rw [Nat.add_comm, Nat.add_mul_mod_self_right, Nat.mod_eq_of_lt (by omega)]; omega
set_option maxHeartbeats 1000000 in
theorem cells_spec (w0 : Base) (η : Heap) (sv : Value) (rs : List R) (row : Nat) (hs : SlA (St w0 η) sv 7 rs.length rs.flatten) (ha : All7 rs) (hrow : 1 ≤ row) (hn : rs.length * 120 ≤ 140737488355328) :
    CallsT Tryz.prog 125 [sv, .int .i64 (row : Int)] (St w0 η) fun v A' => ∃ pv H, v = .tuple #[pv, .int .i64 (rowsF rs row).2] ∧ Frag 79 21 pv (rowsF rs row).1.length (rowsF rs row).1.flatten H ∧ A' = St w0 (H ++ η) := by
  obtain ⟨_, ad, cap, sb, so, rfl, hcap, had, hrd⟩ := hs.some
  have hz7 : ∀ {x : R}, Ints recK x → Sz Tryz.prog 77 x.length := fun h => by rw [h.length]; exact KF.sz_77
  obtain ⟨m, hm⟩ : ∃ m, m = rs.length / row := ⟨_, rfl⟩
  have hml : m * row ≤ rs.length := by rw [hm]; exact Nat.div_mul_le_self _ _
  refine CallsT.body Tryz.func125 rfl rfl ?_
  simp only [Tryz.ntmps125, slotsOf, Nat.reduceAdd]
  refine Qe (Qg ?_)
  refine Qa rfl rfl (Qd rfl rfl rfl) ?_
  refine Qa rfl rfl (Qd rfl rfl rfl) ?_
  refine Qf (Qb (Qe (Qg ?_)))
  refine Qa rfl rfl (Qc rfl rfl rfl) ?_
  refine Qa rfl rfl (Za rfl rfl Tryz.underlying31 rfl) ?_
  refine Qa rfl rfl (Qc rfl rfl rfl) ?_
  refine Qa rfl rfl (QT_quo rfl rfl rfl rfl (fun _ => ⟨by omega, by omega, by omega⟩)) ?_
  refine Qa rfl rfl (Qd rfl rfl rfl) ?_
  refine Qf (Qb (Qe (Qe ?_)))
  refine TC_weaken (σ' := [(0, true, .slice ad rs.length cap), (1, true, .int .i64 (row : Int)), (4, true, .slice none 0 0), (5, true, .int .i64 0), (6, true, .int .i64 (m : Int))]) ⟨rfl, rfl, rfl, rfl, by rw [hm]; rfl, trivial⟩ (fun _ h => h) ?_
  refine Qg ?_
  refine Qa rfl rfl (Qc rfl rfl rfl) ?_
  refine Qa rfl rfl (Qc rfl rfl rfl) ?_
  refine Qa rfl rfl (QT_mul rfl rfl rfl rfl (fun _ => i64_mul (by omega))) ?_
  refine Qa rfl rfl (Qc rfl rfl rfl) ?_
  refine Qa rfl rfl (Za rfl rfl Tryz.underlying31 rfl) ?_
  refine Qa rfl rfl (QT_neq rfl rfl rfl rfl) ?_
  refine Qa rfl rfl (Qc rfl rfl rfl) ?_
  refine Qa rfl rfl (Qc rfl rfl rfl) ?_
  refine Qa rfl rfl (QT_lss rfl rfl rfl rfl) ?_
  refine Qa rfl rfl (QT_or rfl rfl rfl rfl) ?_
  refine Qf (Qb ?_)
  refine TC_cond rfl (fun h27 => ?_) (fun h27 => ?_)
  ·
    refine Qe (Qg ?_)
    refine Qa rfl rfl (Qd rfl rfl rfl) ?_
    refine Qa rfl rfl (Qd rfl rfl rfl) ?_
    refine Qf (Qb ?_)
    refine Qu ?_
    refine Qn ?_
    have he : rowsF rs row = ([], 5) := by
      rw [rowsF, if_neg]
      rintro ⟨h0, h2⟩
      rw [icast_mul] at h27
      simp only [Bool.or_eq_true, decide_eq_true_eq] at h27
      have := (two_rows h0 h2).2
      rw [← hm] at this h2
      omega
    rw [he]
    exact Qs (.inl rfl) (res2 rfl rfl rfl) ⟨_, ⟨_, [], rfl, Frag.nil _ _, rfl⟩, (fun _ h => by first | exact h | exact h.tail | exact h.tail.tail | exact h.tail.tail.tail | exact h.tail.tail.tail.tail | exact h.tail.tail.tail.tail.tail | exact h.tail.tail.tail.tail.tail.tail | exact h.tail.tail.tail.tail.tail.tail.tail | exact h.tail.tail.tail.tail.tail.tail.tail.tail | exact h.tail.tail.tail.tail.tail.tail.tail.tail.tail | exact h.tail.tail.tail.tail.tail.tail.tail.tail.tail.tail | exact h.tail.tail.tail.tail.tail.tail.tail.tail.tail.tail.tail | exact h.tail.tail.tail.tail.tail.tail.tail.tail.tail.tail.tail.tail | exact h.tail.tail.tail.tail.tail.tail.tail.tail.tail.tail.tail.tail.tail)⟩
  ·
    refine Qt (Qb (Qe ?_))
    rw [icast_mul] at h27
    simp only [Bool.or_eq_false_iff, decide_eq_false_iff_not, ne_eq, Classical.not_not] at h27
    have hm2 : 2 ≤ m := by omega
    have hmr : m * row = rs.length := by omega
    have hm0 : rs.length % row = 0 := by rw [← hmr]; exact Nat.mul_mod_left _ _
    have he : rowsF rs row = (outT rs row (rs.length - row), 0) := by rw [rowsF, if_pos ⟨hm0, by omega⟩]
    rw [he]
    have hmn : m ≤ rs.length := by rw [hm]; exact Nat.div_le_self _ _
    have hrn : 2 * row ≤ rs.length := (two_rows hm0 (by omega)).1
    clear he h27
    refine Qg ?_
    refine Qa rfl rfl (Qd rfl rfl rfl) ?_
    refine Qf (Qb (Qe (Qe (Qg ?_))))
    refine Qa rfl rfl (Qd rfl rfl rfl) ?_
    refine Qf (Qb (Qr ?_))
    refine TC_loop (γ := { t : Nat × Value × Heap // t.1 + 1 ≤ m ∧ Frag 79 21 t.2.1 (outT rs row (t.1 * row)).length (outT rs row (t.1 * row)).flatten t.2.2 }) (fun t => [(0, true, .slice ad rs.length cap), (1, true, .int .i64 (row : Int)), (6, true, .int .i64 (m : Int)), (7, true, t.1.2.1), (8, true, .int .i64 (t.1.1 : Int))]) (fun t => St w0 (t.1.2.2 ++ η)) (fun t => m - t.1.1) ⟨(0, .slice none 0 0, []), by show 0 + 1 ≤ m; omega, by simp only [Nat.zero_mul]; exact Frag.nil _ _⟩ ⟨rfl, rfl, rfl, rfl, rfl, trivial⟩ (fun _ h => h) ?_
    rintro ⟨⟨q, fv, H⟩, hq, hfr⟩
    dsimp only at hq hfr ⊢
    have hmr2 := hmr
    refine Qe (Qe (Qg ?_))
    refine Qa rfl rfl (Qc rfl rfl rfl) ?_
    refine Qa rfl rfl (Zb rfl rfl rfl rfl (fun _ => ⟨by omega, by omega⟩)) ?_
    refine Qa rfl rfl (Qc rfl rfl rfl) ?_
    refine Qa rfl rfl (QT_lss rfl rfl rfl rfl) ?_
    refine Qf (Qb ?_)
    refine Qm rfl (fun h31 => ?_) (fun h31 => ?_)
    ·
      refine Qt (Qb (Qe (Qr (Qe (Qg ?_)))))
      refine Qa rfl rfl (Qd rfl rfl rfl) ?_
      refine Qf (Qb (Qr ?_))
      refine TC_loop (γ := { t : Nat × Value × Heap // t.1 + 1 ≤ row ∧ Frag 79 21 t.2.1 (outT rs row (q * row + t.1)).length (outT rs row (q * row + t.1)).flatten t.2.2 }) (fun t => [(0, true, .slice ad rs.length cap), (1, true, .int .i64 (row : Int)), (6, true, .int .i64 (m : Int)), (7, true, t.1.2.1), (8, true, .int .i64 (q : Int)), (9, true, .int .i64 (t.1.1 : Int))]) (fun t => St w0 (t.1.2.2 ++ η)) (fun t => row - t.1.1) ⟨(0, fv, H), by show 0 + 1 ≤ row; omega, hfr⟩ ⟨rfl, rfl, rfl, rfl, rfl, rfl, trivial⟩ (fun _ h => h) ?_
      rintro ⟨⟨j, fv, H⟩, hj, hfr⟩
      dsimp only at hj hfr ⊢
      refine Qe (Qe (Qg ?_))
      refine Qa rfl rfl (Qc rfl rfl rfl) ?_
      refine Qa rfl rfl (Zb rfl rfl rfl rfl (fun _ => ⟨by omega, by omega⟩)) ?_
      refine Qa rfl rfl (Qc rfl rfl rfl) ?_
      refine Qa rfl rfl (QT_lss rfl rfl rfl rfl) ?_
      refine Qf (Qb ?_)
      refine Qm rfl (fun h37 => ?_) (fun h37 => ?_)
      ·
        obtain ⟨hi1, hi2, hi3, hi4, hi5⟩ := idx_lt (n := rs.length) (row := row) (q := q) (j := j) hmr2 (by omega) (by omega)
        have hc := cellF_in (rs := rs) (row := row) (q := q) (j := j) (by omega)
        have hl := outT_len rs row (q * row + j)
        rw [← hi5] at hc
        have hqr1 : q * row ≤ 9223372036854775807 := by omega
        have hqr2 : (q + 1) * row ≤ 9223372036854775807 := by omega
        have e1 : (q : Int) * (row : Int) = ((q * row : Nat) : Int) := rfl
        have e2 : ((q : Int) + 1) * (row : Int) = (((q + 1) * row : Nat) : Int) := rfl
        obtain ⟨f1, g1⟩ := flat_at7 ha hi1
        obtain ⟨f2, g2⟩ := flat_at7 ha hi2
        obtain ⟨f3, g3⟩ := flat_at7 ha hi3
        obtain ⟨f4, g4⟩ := flat_at7 ha hi4
        have j1 := at7_ints ha hi1
        have j2 := at7_ints ha hi2
        have j3 := at7_ints ha hi3
        have j4 := at7_ints ha hi4
        generalize at7 rs (q * row + j) = xa at *
        generalize at7 rs (q * row + j + 1) = xb at *
        generalize at7 rs ((q + 1) * row + j) = xc at *
        generalize at7 rs ((q + 1) * row + j + 1) = xd at *
        have b1 := B3_ints j1 j2 j3
        have b2 := B3_ints j2 j4 j3
        have k1 := bareR_ints j1
        have k2 := bareR_ints j2
        have k3 := bareR_ints j3
        have k4 := bareR_ints j4
        refine Qt (Qb (Qe (Qr (Qe (Qg ?_)))))
        refine Qa rfl rfl (Qc rfl rfl rfl) ?_
        refine Qa rfl rfl (Qc rfl rfl rfl) ?_
        refine Qa rfl rfl (Qc rfl rfl rfl) ?_
        refine Qa rfl rfl (QT_mul rfl rfl rfl rfl (fun _ => i64_mul hqr1)) ?_
        refine Qa rfl rfl (Qc rfl rfl rfl) ?_
        refine Qa rfl rfl (Zb rfl rfl rfl rfl (fun _ => ⟨by omega, by omega⟩)) ?_
        refine Qa rfl rfl (QT_indexG (q * row + j) rfl rfl Tryz.underlying31 KF.sz_77 rfl rfl rfl (fun _ => hi1) (fun _ => had (by omega))) ?_
        refine Qa rfl rfl (Qy (out := xa) ((q * row + j) * 7) rfl rfl Tryz.underlying77 rfl KF.sz_77 (hrd.deep (by intro _ hw; first | exact hw | exact hw.app_right | exact hw.app_right.app_right | exact hw.tail | exact hw.tail.app_right | exact hw.tail.tail | exact hw.tail.tail.app_right | exact hw.tail.tail.tail | exact hw.tail.tail.tail.app_right | exact hw.tail.tail.tail.tail | exact hw.tail.tail.tail.tail.app_right | exact hw.tail.tail.tail.tail.tail | exact hw.tail.tail.tail.tail.tail.app_right | exact hw.tail.tail.tail.tail.tail.tail | exact hw.tail.tail.tail.tail.tail.tail.app_right)) rfl (fun _ => g1) (fun _ => f1)) ?_
        refine TL_cq rfl rfl rfl rfl KF.cal_126 rfl (fun _ => plain_spec w0 _ xa j1) ?_
        refine TL_e rfl rfl rfl (rfl) (ET_alloc rfl KF.zero_77) ?_
        rintro _ _ ⟨b10, rfl, rfl⟩
        refine TL_e0 rfl rfl (rfl) (ET_storeW (vs := bareR xa) 0 rfl rfl rfl (hz7 k1) rfl (List.all_eq_true.2 k1.oneCell) (by rw [k1.length]; rfl)) ?_
        rintro _ _ ⟨rfl, rfl⟩
        refine Qf (Qb (Qe (Qg ?_)))
        refine Qa rfl rfl (Qc rfl rfl rfl) ?_
        refine Qa rfl rfl (Qc rfl rfl rfl) ?_
        refine Qa rfl rfl (Qc rfl rfl rfl) ?_
        refine Qa rfl rfl (QT_mul rfl rfl rfl rfl (fun _ => i64_mul hqr1)) ?_
        refine Qa rfl rfl (Qc rfl rfl rfl) ?_
        refine Qa rfl rfl (Zb rfl rfl rfl rfl (fun _ => ⟨by omega, by omega⟩)) ?_
        refine Qa rfl rfl (Zb rfl rfl rfl rfl (fun _ => ⟨by omega, by omega⟩)) ?_
        refine Qa rfl rfl (QT_indexG (q * row + j + 1) rfl rfl Tryz.underlying31 KF.sz_77 rfl rfl rfl (fun _ => hi2) (fun _ => had (by omega))) ?_
        refine Qa rfl rfl (Qy (out := xb) ((q * row + j + 1) * 7) rfl rfl Tryz.underlying77 rfl KF.sz_77 (hrd.deep (by intro _ hw; first | exact hw | exact hw.app_right | exact hw.app_right.app_right | exact hw.tail | exact hw.tail.app_right | exact hw.tail.tail | exact hw.tail.tail.app_right | exact hw.tail.tail.tail | exact hw.tail.tail.tail.app_right | exact hw.tail.tail.tail.tail | exact hw.tail.tail.tail.tail.app_right | exact hw.tail.tail.tail.tail.tail | exact hw.tail.tail.tail.tail.tail.app_right | exact hw.tail.tail.tail.tail.tail.tail | exact hw.tail.tail.tail.tail.tail.tail.app_right)) rfl (fun _ => g2) (fun _ => f2)) ?_
        refine TL_cq rfl rfl rfl rfl KF.cal_126 rfl (fun _ => plain_spec w0 _ xb j2) ?_
        refine TL_e rfl rfl rfl (rfl) (ET_alloc rfl KF.zero_77) ?_
        rintro _ _ ⟨b11, rfl, rfl⟩
        refine TL_e0 rfl rfl (rfl) (ET_storeW (vs := bareR xb) 0 rfl rfl rfl (hz7 k2) rfl (List.all_eq_true.2 k2.oneCell) (by rw [k2.length]; rfl)) ?_
        rintro _ _ ⟨rfl, rfl⟩
        refine Qf (Qb (Qe (Qg ?_)))
        refine Qa rfl rfl (Qc rfl rfl rfl) ?_
        refine Qa rfl rfl (Qc rfl rfl rfl) ?_
        refine Qa rfl rfl (Zb rfl rfl rfl rfl (fun _ => ⟨by omega, by omega⟩)) ?_
        refine Qa rfl rfl (Qc rfl rfl rfl) ?_
        refine Qa rfl rfl (QT_mul rfl rfl rfl rfl (fun _ => i64_mul (a := q + 1) hqr2)) ?_
        refine Qa rfl rfl (Qc rfl rfl rfl) ?_
        refine Qa rfl rfl (Zb rfl rfl rfl rfl (fun _ => ⟨by omega, by omega⟩)) ?_
        refine Qa rfl rfl (QT_indexG ((q + 1) * row + j) rfl rfl Tryz.underlying31 KF.sz_77 rfl rfl rfl (fun _ => hi3) (fun _ => had (by omega))) ?_
        refine Qa rfl rfl (Qy (out := xc) (((q + 1) * row + j) * 7) rfl rfl Tryz.underlying77 rfl KF.sz_77 (hrd.deep (by intro _ hw; first | exact hw | exact hw.app_right | exact hw.app_right.app_right | exact hw.tail | exact hw.tail.app_right | exact hw.tail.tail | exact hw.tail.tail.app_right | exact hw.tail.tail.tail | exact hw.tail.tail.tail.app_right | exact hw.tail.tail.tail.tail | exact hw.tail.tail.tail.tail.app_right | exact hw.tail.tail.tail.tail.tail | exact hw.tail.tail.tail.tail.tail.app_right | exact hw.tail.tail.tail.tail.tail.tail | exact hw.tail.tail.tail.tail.tail.tail.app_right)) rfl (fun _ => g3) (fun _ => f3)) ?_
        refine TL_cq rfl rfl rfl rfl KF.cal_126 rfl (fun _ => plain_spec w0 _ xc j3) ?_
        refine TL_e rfl rfl rfl (rfl) (ET_alloc rfl KF.zero_77) ?_
        rintro _ _ ⟨b12, rfl, rfl⟩
        refine TL_e0 rfl rfl (rfl) (ET_storeW (vs := bareR xc) 0 rfl rfl rfl (hz7 k3) rfl (List.all_eq_true.2 k3.oneCell) (by rw [k3.length]; rfl)) ?_
        rintro _ _ ⟨rfl, rfl⟩
        refine Qf (Qb (Qe (Qg ?_)))
        refine Qa rfl rfl (Qc rfl rfl rfl) ?_
        refine Qa rfl rfl (Qc rfl rfl rfl) ?_
        refine Qa rfl rfl (Zb rfl rfl rfl rfl (fun _ => ⟨by omega, by omega⟩)) ?_
        refine Qa rfl rfl (Qc rfl rfl rfl) ?_
        refine Qa rfl rfl (QT_mul rfl rfl rfl rfl (fun _ => i64_mul (a := q + 1) hqr2)) ?_
        refine Qa rfl rfl (Qc rfl rfl rfl) ?_
        refine Qa rfl rfl (Zb rfl rfl rfl rfl (fun _ => ⟨by omega, by omega⟩)) ?_
        refine Qa rfl rfl (Zb rfl rfl rfl rfl (fun _ => ⟨by omega, by omega⟩)) ?_
        refine Qa rfl rfl (QT_indexG ((q + 1) * row + j + 1) rfl rfl Tryz.underlying31 KF.sz_77 rfl rfl rfl (fun _ => hi4) (fun _ => had (by omega))) ?_
        refine Qa rfl rfl (Qy (out := xd) (((q + 1) * row + j + 1) * 7) rfl rfl Tryz.underlying77 rfl KF.sz_77 (hrd.deep (by intro _ hw; first | exact hw | exact hw.app_right | exact hw.app_right.app_right | exact hw.tail | exact hw.tail.app_right | exact hw.tail.tail | exact hw.tail.tail.app_right | exact hw.tail.tail.tail | exact hw.tail.tail.tail.app_right | exact hw.tail.tail.tail.tail | exact hw.tail.tail.tail.tail.app_right | exact hw.tail.tail.tail.tail.tail | exact hw.tail.tail.tail.tail.tail.app_right | exact hw.tail.tail.tail.tail.tail.tail | exact hw.tail.tail.tail.tail.tail.tail.app_right)) rfl (fun _ => g4) (fun _ => f4)) ?_
        refine TL_cq rfl rfl rfl rfl KF.cal_126 rfl (fun _ => plain_spec w0 _ xd j4) ?_
        refine TL_e rfl rfl rfl (rfl) (ET_alloc rfl KF.zero_77) ?_
        rintro _ _ ⟨b13, rfl, rfl⟩
        refine TL_e0 rfl rfl (rfl) (ET_storeW (vs := bareR xd) 0 rfl rfl rfl (hz7 k4) rfl (List.all_eq_true.2 k4.oneCell) (by rw [k4.length]; rfl)) ?_
        rintro _ _ ⟨rfl, rfl⟩
        refine Qf (Qb (Qe (Qg ?_)))
        refine Qa rfl rfl (Qc rfl rfl rfl) ?_
        refine Qa rfl rfl (Ql (cs := bareR xa) 3 rfl rfl Tryz.underlying77 rfl rfl rfl (hz7 k1)) ?_
        refine Qa rfl rfl (Ql (cs := bareR xb) 2 rfl rfl Tryz.underlying77 rfl rfl rfl (hz7 k2)) ?_
        refine Qa rfl rfl (Ql (cs := bareR xc) 1 rfl rfl Tryz.underlying77 rfl rfl rfl (hz7 k3)) ?_
        refine Qa rfl rfl (QT_buildArr (out := B3 xa xb xc) rfl rfl KF.zero_79 Tryz.underlying79 KF.sz_77 rfl rfl (seg3 k1.length k2.length k3.length rfl)) ?_
        refine TL_e rfl rfl rfl (rfl) (ET_buildN [_] rfl Tryz.underlying61 KF.sz_79 KF.zero_79 rfl rfl rfl (fun v hv => by cases List.mem_singleton.1 hv; exact b1.length)) ?_
        rintro _ _ ⟨b85, rfl, rfl⟩
        refine TL_e rfl rfl rfl (rfl) (ET_appendL (L := [_, _, _, _, _]) rfl Tryz.underlying61 el_Tri rfl rfl hfr (fun _ h => h) (SlA.own (n := 1) (xs := B3 xa xb xc) 0 rfl (one_own b1.length).symm (one_len b1.length) (by omega)) b1.oneCell (by omega) (by omega)) ?_
        rintro fv1 _ ⟨H1, hF1, rfl⟩
        refine Qa rfl rfl (Qd rfl rfl rfl) ?_
        refine Qf (Qb (Qg ?_))
        refine Qa rfl rfl (Qc rfl rfl rfl) ?_
        refine Qa rfl rfl (Ql (cs := bareR xb) 3 rfl rfl Tryz.underlying77 rfl rfl rfl (hz7 k2)) ?_
        refine Qa rfl rfl (Ql (cs := bareR xd) 1 rfl rfl Tryz.underlying77 rfl rfl rfl (hz7 k4)) ?_
        refine Qa rfl rfl (Ql (cs := bareR xc) 2 rfl rfl Tryz.underlying77 rfl rfl rfl (hz7 k3)) ?_
        refine Qa rfl rfl (QT_buildArr (out := B3 xb xd xc) rfl rfl KF.zero_79 Tryz.underlying79 KF.sz_77 rfl rfl (seg3 k2.length k4.length k3.length rfl)) ?_
        refine TL_e rfl rfl rfl (rfl) (ET_buildN [_] rfl Tryz.underlying61 KF.sz_79 KF.zero_79 rfl rfl rfl (fun v hv => by cases List.mem_singleton.1 hv; exact b2.length)) ?_
        rintro _ _ ⟨b92, rfl, rfl⟩
        refine TL_e rfl rfl rfl (rfl) (ET_appendL (L := [_, _, _, _, _, _]) rfl Tryz.underlying61 el_Tri rfl rfl hF1 (fun _ h => h) (SlA.own (n := 1) (xs := B3 xb xd xc) 0 rfl (one_own b2.length).symm (one_len b2.length) (by omega)) b2.oneCell (by omega) (by omega)) ?_
        rintro fv2 _ ⟨H2, hF2, rfl⟩
        refine Qa rfl rfl (Qd rfl rfl rfl) ?_
        refine Qf ?_
        refine Qo ?_
        refine Qb (Qg ?_)
        refine Qa rfl rfl (Qc rfl rfl rfl) ?_
        refine Qa rfl rfl (Zb rfl rfl rfl rfl (fun _ => ⟨by omega, by omega⟩)) ?_
        refine Qa rfl rfl (Qd rfl rfl rfl) ?_
        refine Qf ?_
        exact TX_round ⟨(j + 1, fv2, H2), by show j + 1 + 1 ≤ row; omega, by
          show Frag _ _ _ (outT rs row (q * row + j + 1)).length (outT rs row (q * row + j + 1)).flatten _
          rw [outT_succ, hc, List.length_append, List.flatten_append]
          simpa [List.append_assoc] using hF2⟩ (by show row - (j + 1) < row - j; omega) ⟨rfl, rfl, rfl, rfl, rfl, rfl, trivial⟩ (fun _ h => h.app_right (X := [_, _, _, _, _, _]))
      ·
        refine Zd ?_
        refine Qi (Qi ?_)
        refine Qp ?_
        refine Qo ?_
        refine Qb (Qg ?_)
        refine Qa rfl rfl (Qc rfl rfl rfl) ?_
        refine Qa rfl rfl (Zb rfl rfl rfl rfl (fun _ => ⟨by omega, by omega⟩)) ?_
        refine Qa rfl rfl (Qd rfl rfl rfl) ?_
        refine Qf ?_
        exact TX_round ⟨(q + 1, fv, H), by show q + 1 + 1 ≤ m; omega, by
          obtain rfl : row = j + 1 := by omega
          show Frag _ _ _ (outT rs (j + 1) ((q + 1) * (j + 1))).length (outT rs (j + 1) ((q + 1) * (j + 1))).flatten _
          rw [show (q + 1) * (j + 1) = q * (j + 1) + j + 1 by rw [Nat.add_mul]; omega, outT_succ, cellF_end rfl, List.append_nil]
          exact hfr⟩ (by show m - (q + 1) < m - q; omega) ⟨rfl, rfl, rfl, rfl, rfl, trivial⟩ (fun _ h => h)
    ·
      refine Zd ?_
      refine Qi (Qi ?_)
      refine Qp ?_
      refine Qb (Qe (Qg ?_))
      refine Qa rfl rfl (Qc rfl rfl rfl) ?_
      refine Qa rfl rfl (Qd rfl rfl rfl) ?_
      refine Qa rfl rfl (Qd rfl rfl rfl) ?_
      refine Qf (Qb ?_)
      refine Qu ?_
      have hqe : q * row = rs.length - row := by
        obtain rfl : m = q + 1 := by omega
        rw [← hmr, Nat.add_mul]; omega
      rw [hqe] at hfr
      exact Qs (.inl rfl) (res2 rfl rfl rfl) ⟨_, ⟨fv, H, rfl, hfr, rfl⟩, fun _ h => h⟩
end Go.Proofs.YtjdaglmkljbfkaaGreatDoor
namespace Go.Proofs.YtjdaglmkljbfkaaGreatDoor
open Go Go.Gx Go.RowKit
set_option maxRecDepth 100000
def headBad (rs : List R) : Prop := match rs with
 | x :: _ => flagR x ≠ 0
 | [] => False
instance (rs : List R) : Decidable (headBad rs) := by unfold headBad; split <;> infer_instance
def strips (rs : List R) : List R × Int := stripF (rs.length + 1) rs zR zR zR []
def trioF (L : Lay) (rs : List R) : List R × Int :=
 if okB L = true ∧ (L.ty = 4 ∨ L.ty = 5) then (if L.ty = 5 then rowsF rs L.ro.toNat else if headBad rs then ([], 6) else strips rs) else ([], 4)
theorem trio4 {L : Lay} {rs : List R} (h : ¬(okB L = true ∧ (L.ty = 4 ∨ L.ty = 5))) : trioF L rs = ([], 4) := by rw [trioF, if_neg h]
theorem trio5 {L : Lay} {rs : List R} (h : okB L = true) (h5 : L.ty = 5) : trioF L rs = rowsF rs L.ro.toNat := by rw [trioF, if_pos ⟨h, .inr h5⟩, if_pos h5]
theorem trio6 {L : Lay} {rs : List R} (h : okB L = true) (h4 : L.ty = 4) (hb : headBad rs) : trioF L rs = ([], 6) := by rw [trioF, if_pos ⟨h, .inl h4⟩, if_neg (by omega), if_pos hb]
theorem trioS {L : Lay} {rs : List R} (h : okB L = true) (h4 : L.ty = 4) (hb : ¬headBad rs) : trioF L rs = strips rs := by rw [trioF, if_pos ⟨h, .inl h4⟩, if_neg (by omega), if_neg hb]
theorem ok_of {L : Lay} (h : ¬errOf L ≠ 0) : okB L = true := by
 by_cases hk : okB L = true
 · exact hk
 · exact absurd (by simp [errOf, hk]) h
theorem head_flag {rs : List R} (ha : All7 rs) (h : 0 < rs.length) : rs.flatten[0 * 7]? = some (.int .u8 (flagR (at7 rs 0) : Int)) := by
 cases rs with
 | nil => simp at h
 | cons x v =>
  have hx := ha x (List.mem_cons_self ..)
  have h1 := (flagR_spec hx).1
  rw [Nat.zero_mul, List.flatten_cons, List.getElem?_append_left (by rw [hx.length]; decide)]
  exact h1
theorem rows_at {r : Int} {row : Nat} (hr : r = (row : Int)) (w0 : Base) (η : Heap) (sv : Value) (rs : List R) (hs : SlA (St w0 η) sv 7 rs.length rs.flatten) (ha : All7 rs) (hrow : 1 ≤ row) (hn : rs.length * 120 ≤ 140737488355328) :
  CallsT Tryz.prog 119 [sv, .int .i64 r] (St w0 η) fun v A' => ∃ pv H, v = .tuple #[pv, .int .i64 (rowsF rs row).2] ∧ Frag 79 21 pv (rowsF rs row).1.length (rowsF rs row).1.flatten H ∧ A' = St w0 (H ++ η) := by
 subst hr; exact rows_spec w0 η sv rs row hs ha hrow hn
theorem cells_at {r : Int} {row : Nat} (hr : r = (row : Int)) (w0 : Base) (η : Heap) (sv : Value) (rs : List R) (hs : SlA (St w0 η) sv 7 rs.length rs.flatten) (ha : All7 rs) (hrow : 1 ≤ row) (hn : rs.length * 120 ≤ 140737488355328) :
  CallsT Tryz.prog 125 [sv, .int .i64 r] (St w0 η) fun v A' => ∃ pv H, v = .tuple #[pv, .int .i64 (rowsF rs row).2] ∧ Frag 79 21 pv (rowsF rs row).1.length (rowsF rs row).1.flatten H ∧ A' = St w0 (H ++ η) := by
 subst hr; exact cells_spec w0 η sv rs row hs ha hrow hn
theorem of_spec (w0 : Base) (η : Heap) (hG : Sets w0) (L : Lay) (sv : Value) (rs : List R) (hs : SlA (St w0 η) sv 7 rs.length rs.flatten) (ha : All7 rs) (hn : rs.length * 120 ≤ 140737488355328) :
  CallsT Tryz.prog 81 [L.val, sv] (St w0 η) fun v A' => ∃ pv H, v = .tuple #[pv, .int .i64 (trioF L rs).2] ∧ Frag 79 21 pv (trioF L rs).1.length (trioF L rs).1.flatten H ∧ ∃ X, A' = St w0 (H ++ (X ++ η)) := by
 refine CallsT.body Tryz.func81 rfl rfl ?_
 simp only [Tryz.ntmps81, slotsOf, Nat.reduceAdd]
 refine Qe (Qg ?_)
 refine TL_e rfl rfl rfl (rfl) (ET_box rfl rfl) ?_
 rintro _ _ ⟨b2, rfl, rfl⟩
 refine Qa rfl rfl (Qd rfl rfl rfl) ?_
 refine Qa rfl rfl (Qd rfl rfl rfl) ?_
 refine Qf (Qb (Qe (Qg ?_)))
 refine Qa rfl rfl (Qc rfl rfl rfl) ?_
 refine TL_e rfl rfl rfl (rfl) (ET_call rfl KF.cal_118 rfl (cloneR_spec w0 _ sv rs.length rs.flatten hs.tail (flat_ints (s := 7) ha) (by omega))) ?_
 rintro cv _ ⟨Hc, hFc, rfl⟩
 refine Qa rfl rfl (Qd rfl rfl rfl) ?_
 refine Qf (Qb (Qe (Qr (Qe ?_))))
 refine TC_A (St w0 ((b2, 27, L.cells) :: (Hc ++ η))) (fun _ h => h.perm List.perm_middle.symm) ?_
 have hsc : SlA (St w0 (Hc ++ η)) cv 7 rs.length rs.flatten := hFc.sla
 obtain ⟨_, ad, cap, sb, so, rfl, hcap, had, hrd⟩ := hsc.some
 refine Qg ?_
 refine Qa rfl rfl (Ql 0 rfl rfl Tryz.underlying27 rfl rfl rfl KF.sz_27) ?_
 refine TL_cq rfl rfl rfl rfl KF.cal_26 rfl (fun _ => check_spec w0 _ hG L) ?_
 refine Qa rfl rfl (QT_neq rfl rfl rfl rfl) ?_
 refine Qa rfl rfl (Qc rfl rfl rfl) ?_
 refine Qa rfl rfl (Qh rfl rfl KF.fld_27_0 rfl) ?_
 refine Qa rfl rfl (Qj 0 rfl rfl Tryz.underlying3 rfl rfl rfl (fun _ => rfl)) ?_
 refine Qa rfl rfl (QT_gtr rfl rfl rfl rfl) ?_
 refine Qa rfl rfl (QT_or rfl rfl rfl rfl) ?_
 refine Qa rfl rfl (Qd rfl rfl rfl) ?_
 refine Qf (Qb ?_)
 refine TC_cond rfl (fun h8 => ?_) (fun h8 => ?_)
 ·
  refine Qe (Qg ?_)
  refine Qa rfl rfl (Qd rfl rfl rfl) ?_
  refine Qa rfl rfl (Qd rfl rfl rfl) ?_
  refine Qf (Qb ?_)
  refine Qu ?_
  refine Zc ?_
  refine Qn ?_
  rw [trio4 (by
   simp only [Bool.or_eq_true, decide_eq_true_eq] at h8
   rintro ⟨h1, h2⟩
   simp [errOf, h1] at h8
   omega)]
  exact Qs (.inl rfl) (res2 rfl rfl rfl) ⟨_, ⟨_, [], rfl, Frag.nil _ _, Hc, rfl⟩, fun _ h => h.tail⟩
 ·
  refine Qe ?_
  simp only [Bool.or_eq_false_iff, decide_eq_false_iff_not] at h8
  have hk : okB L = true := ok_of h8.1
  have hty := (okB_bounds hk).2.2.2.1
  refine Qg ?_
  refine Qa rfl rfl (Qh rfl rfl KF.fld_27_0 rfl) ?_
  refine Qa rfl rfl (Qj 0 rfl rfl Tryz.underlying3 rfl rfl rfl (fun _ => rfl)) ?_
  refine Qa rfl rfl (QT_eql rfl rfl rfl rfl) ?_
  refine Qa rfl rfl (Qd rfl rfl rfl) ?_
  refine Qf (Qb ?_)
  refine Qm rfl (fun h17 => ?_) (fun h17 => ?_)
  ·
   refine Qe ?_
   have h5 : L.ty = 5 := by simpa using h17
   have hro := (okB_bounds hk).2.2.2.2.1 h5
   rw [trio5 hk h5]
   have her : L.ro = ((L.ro.toNat : Nat) : Int) := by omega
   refine Qg ?_
   refine Qa rfl rfl (Qc rfl rfl rfl) ?_
   refine Qa rfl rfl (Qh rfl rfl KF.fld_27_5 rfl) ?_
   refine Qa rfl rfl (Qj 0 rfl rfl Tryz.underlying3 rfl rfl rfl (fun _ => rfl)) ?_
   refine TL_A (St w0 (Hc ++ η)) (fun _ h => h.tail) ?_
   refine TL_e rfl rfl rfl (rfl) (ET_call rfl KF.cal_119 rfl (rows_at her w0 _ _ rs hsc ha (by omega) hn)) ?_
   rintro _ _ ⟨pv, Hr, rfl, hFr, rfl⟩
   refine Qa rfl rfl (Qx rfl rfl rfl rfl) ?_
   refine Qa rfl rfl (Qx rfl rfl rfl rfl) ?_
   refine Qa rfl rfl (Qd rfl rfl rfl) ?_
   refine Qa rfl rfl (Qd rfl rfl rfl) ?_
   refine Qf (Qb ?_)
   refine Qu ?_
   refine Zc ?_
   refine Qn ?_
   exact Qs (.inl rfl) (res2 rfl rfl rfl) ⟨_, ⟨pv, Hr, rfl, hFr, Hc, rfl⟩, fun _ h => h⟩
  ·
   refine Qe ?_
   have h4 : L.ty = 4 := by
    have : L.ty ≠ 5 := by simpa using h17
    omega
   refine Qg ?_
   refine Qa rfl rfl (Qc rfl rfl rfl) ?_
   refine Qa rfl rfl (Za rfl rfl Tryz.underlying31 rfl) ?_
   refine Qa rfl rfl (QT_gtr rfl rfl rfl rfl) ?_
   refine Qa rfl rfl (Qc rfl rfl rfl) ?_
   refine Qa rfl rfl (Qc rfl rfl rfl) ?_
   refine Qa rfl rfl (QT_indexG 0 rfl rfl Tryz.underlying31 KF.sz_77 rfl rfl rfl (fun h => by simpa using h) (fun h => had (by simpa using h))) ?_
   refine Qa rfl rfl (Qh rfl rfl KF.fld_77_0 rfl) ?_
   refine Qa rfl rfl (Qw (v := .int .u8 (flagR (at7 rs 0) : Int)) (0 * 7) rfl rfl Tryz.underlying5 rfl (hrd.deep (by intro _ hw; first | exact hw | exact hw.app_right | exact hw.app_right.app_right | exact hw.tail | exact hw.tail.app_right | exact hw.tail.tail | exact hw.tail.tail.app_right | exact hw.tail.tail.tail | exact hw.tail.tail.tail.app_right | exact hw.tail.tail.tail.tail | exact hw.tail.tail.tail.tail.app_right | exact hw.tail.tail.tail.tail.tail | exact hw.tail.tail.tail.tail.tail.app_right | exact hw.tail.tail.tail.tail.tail.tail | exact hw.tail.tail.tail.tail.tail.tail.app_right)) rfl (fun h => head_flag ha (by simpa using h))) ?_
   refine Qa rfl rfl (QT_neq rfl rfl rfl rfl) ?_
   refine Qa rfl rfl (QT_and rfl rfl rfl rfl) ?_
   refine Qa rfl rfl (Qd rfl rfl rfl) ?_
   refine Qf (Qb ?_)
   refine TC_cond rfl (fun h27 => ?_) (fun h27 => ?_)
   ·
    refine Qe (Qg ?_)
    refine Qa rfl rfl (Qd rfl rfl rfl) ?_
    refine Qa rfl rfl (Qd rfl rfl rfl) ?_
    refine Qf (Qb ?_)
    refine Qu ?_
    refine Zc ?_
    refine Qn ?_
    have hb : headBad rs := by
     simp only [Bool.and_eq_true, decide_eq_true_eq] at h27
     cases rs with
     | nil => simp at h27
     | cons x v =>
      have : at7 (x :: v) 0 = x := rfl
      rw [this] at h27
      intro h0
      rw [h0] at h27
      simp at h27
    rw [trio6 hk h4 hb]
    exact Qs (.inl rfl) (res2 rfl rfl rfl) ⟨_, ⟨_, [], rfl, Frag.nil _ _, Hc, rfl⟩, fun _ h => h.tail⟩
   ·
    refine Qt ?_
    refine Qo ?_
    refine Qb (Qe ?_)
    have hb : ¬headBad rs := by
     simp only [Bool.and_eq_false_iff, decide_eq_false_iff_not] at h27
     cases rs with
     | nil => exact id
     | cons x v =>
      have : at7 (x :: v) 0 = x := rfl
      rw [this] at h27
      intro h0
      simp only [List.length_cons] at h27
      have h0' : flagR x ≠ 0 := h0
      omega
    rw [trioS hk h4 hb]
    refine TC_A (St w0 (Hc ++ η)) (fun _ h => h.tail) ?_
    refine Qg ?_
    refine Qa rfl rfl (Qc rfl rfl rfl) ?_
    refine TL_e rfl rfl rfl (rfl) (ET_call rfl KF.cal_120 rfl (strip_spec w0 _ _ rs hsc ha (by omega))) ?_
    rintro _ _ ⟨pv, Hr, rfl, hFr, rfl⟩
    refine Qa rfl rfl (Qx rfl rfl rfl rfl) ?_
    refine Qa rfl rfl (Qx rfl rfl rfl rfl) ?_
    refine Qa rfl rfl (Qd rfl rfl rfl) ?_
    refine Qa rfl rfl (Qd rfl rfl rfl) ?_
    refine Qf (Qb ?_)
    refine Qu ?_
    exact Qs (.inl rfl) (res2 rfl rfl rfl) ⟨_, ⟨pv, Hr, rfl, hFr, Hc, rfl⟩, fun _ h => h⟩
end Go.Proofs.YtjdaglmkljbfkaaGreatDoor

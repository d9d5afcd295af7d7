/- TRIANGLES OF VERTICES: the document's answer. VERTICES OF A TEXT; letters of triangles; the chapter's answers. LETTERS of triangles; whether a text's triangles are these; the chapter's answers. Are a text's triangles these? The chapter's answers. A PATCH OF A SHEET, WHOLE: what the program's own function makes of a sheet's cells and of the patch's ahead. THE PATCHES OF SHEETS: what the program's own function answers. THE PATCHES OF SHEETS, by the document's answer: the same. WHAT THE ROWS OF THE PATCHES LIST: the sets of numbers of bits, the edges; a parameter of sheets. WHAT THE ROWS OF THE RECORDS ARE OPENED BY: the sets of numbers of bits; a parameter of bytes, of records. THREE EFFECTS OF A DRAWN REGION, in any order; one way on behind all orders. Program-independent. THE BOOK: are all its lists apart? Laid by a program of this work. STREAMS: which functions are for which type; what may be encoded. STREAMS: what may be encoded. STREAMS: records of bytes, refused where their faces are. STREAMS: sheets of bytes, refused where their faces are. STREAMS: bytes of records, of sheets, refused where their faces are. STREAMS: bytes of sheets, refused where their faces are. STREAMS: a mesh of bytes, by type. STREAMS: a mesh of bytes of sheets. STREAMS: bytes of a mesh, by type. -/
import Derived.Test.YtjdaglmkljbfkaaGreatDoorME05
namespace Go.Proofs.YtjdaglmkljbfkaaGreatDoor
open Go Go.Gx Go.RowKit
set_option maxRecDepth 100000
structure Rst (rs : List R) (FIN : List R × Int) (i : Nat) (a b c : R) (out : List R) (fv : Value) (H : Heap) (f : Nat) : Prop where
 le : i ≤ rs.length
 ia : Ints recK a
 ib : Ints recK b
 ic : Ints recK c
 fr : Frag 79 21 fv out.length out.flatten H
 few : out.length ≤ i
 last : 0 < i → ∃ pre, out = pre ++ [B3 a b c] ∧ ∀ t ∈ pre, t.length = 21
 fin : stripF f (rs.drop i) a b c out = FIN
 fuel : rs.length - i < f
theorem Rst.all {rs : List R} {FIN : List R × Int} {i : Nat} {a b c : R} {out : List R} {fv : Value} {H : Heap} {f : Nat} (h : Rst rs FIN i a b c out fv H f) (h0 : out.length ≤ i) (hz : i = 0 → out = []) : ∀ t ∈ out, t.length = 21 := by
  intro t ht
  by_cases hi : i = 0
  · rw [hz hi] at ht; exact absurd ht List.not_mem_nil
  · obtain ⟨pre, rfl, hp⟩ := h.last (by omega)
    rcases List.mem_append.1 ht with ht | ht
    · exact hp t ht
    · cases List.mem_singleton.1 ht
      exact (B3_ints h.ia h.ib h.ic).length
theorem drop_at7 {rs : List R} {i : Nat} (h : i < rs.length) : rs.drop i = at7 rs i :: rs.drop (i + 1) := by
 rw [List.drop_eq_getElem_cons h]
 have := at7_some h
 rw [List.getElem?_eq_getElem h] at this
 rw [Option.some.inj this]
theorem strips_nil {f : Nat} {a b c : R} {out : List R} : stripF f [] a b c out = (out, 0) := by cases f <;> rfl
theorem rec_flag {rs : List R} {i : Nat} (ha : All7 rs) (h : i < rs.length) : rs.flatten[i * 7]? = some (.int .u8 (flagR (at7 rs i) : Int)) := by
 obtain ⟨f1, g1⟩ := flat_at7 ha h
 have h1 := (flagR_spec (at7_ints ha h)).1
 rw [← f1, List.getElem?_take_of_lt (by omega), List.getElem?_drop] at h1
 rw [f1] at h1
 simpa using h1
theorem last_at {pre : List R} {t : R} {rest : List Value} (hp : ∀ t ∈ pre, t.length = 21) (ht : t.length = 21) : (((pre ++ [t]).flatten ++ rest).drop (((pre ++ [t]).length - 1) * 21)).take 21 = t ∧ ((pre ++ [t]).length - 1) * 21 + 21 ≤ ((pre ++ [t]).flatten ++ rest).length := by
 have hl := flat_len hp
 have e : ((pre ++ [t]).flatten ++ rest) = pre.flatten ++ (t ++ rest) := by simp
 rw [e, show (pre ++ [t]).length - 1 = pre.length by simp, ← hl]
 constructor
 · rw [List.drop_left, ← ht, List.take_left]
 · simp [ht]
set_option maxHeartbeats 1000000 in
theorem rof_spec (w0 : Base) (η : Heap) (L : Lay) (sv : Value) (rs : List R) (hs : SlA (St w0 η) sv 7 rs.length rs.flatten) (ha : All7 rs) (hn : rs.length * 120 ≤ 140737488355328) :
    CallsT Tryz.prog 83 [L.val, sv] (St w0 η) fun v A' => ∃ pv H, v = .tuple #[pv, .int .i64 (trioF L rs).2] ∧ Frag 79 21 pv (trioF L rs).1.length (trioF L rs).1.flatten H ∧ A' = St w0 (H ++ η) := by
  obtain ⟨_, ad, cap, sb, so, rfl, hcap, had, hrd⟩ := hs.some
  have hz7 : ∀ {x : R}, Ints recK x → Sz Tryz.prog 77 x.length := fun h => by rw [h.length]; exact KF.sz_77
  refine CallsT.body Tryz.func83 rfl rfl ?_
  simp only [Tryz.ntmps83, slotsOf, Nat.reduceAdd]
  refine Qe (Qg ?_)
  refine TL_e rfl rfl rfl (rfl) (ET_box rfl rfl) ?_
  rintro _ _ ⟨b2, rfl, rfl⟩
  refine Qa rfl rfl (Qd rfl rfl rfl) ?_
  refine Qa rfl rfl (Qd rfl rfl rfl) ?_
  refine Qf (Qb (Qe (Qe (Qg ?_))))
  refine Qa rfl rfl (Ql 0 rfl rfl Tryz.underlying27 rfl rfl rfl KF.sz_27) ?_
  refine TL_cq rfl rfl rfl rfl KF.cal_28 rfl (fun _ => rcheck_spec w0 _ L) ?_
  refine Qa rfl rfl (QT_neq rfl rfl rfl rfl) ?_
  refine Qa rfl rfl (Qc rfl rfl rfl) ?_
  refine Qa rfl rfl (Qh rfl rfl KF.fld_27_0 rfl) ?_
  refine Qa rfl rfl (Qj 0 rfl rfl Tryz.underlying3 rfl rfl rfl (fun _ => rfl)) ?_
  refine Qa rfl rfl (QT_neq rfl rfl rfl rfl) ?_
  refine Qa rfl rfl (Qc rfl rfl rfl) ?_
  refine Qa rfl rfl (Qh rfl rfl KF.fld_27_0 rfl) ?_
  refine Qa rfl rfl (Qj 0 rfl rfl Tryz.underlying3 rfl rfl rfl (fun _ => rfl)) ?_
  refine Qa rfl rfl (QT_neq rfl rfl rfl rfl) ?_
  refine Qa rfl rfl (QT_and rfl rfl rfl rfl) ?_
  refine Qa rfl rfl (QT_or rfl rfl rfl rfl) ?_
  refine Qf (Qb ?_)
  refine TC_cond rfl (fun h23 => ?_) (fun h23 => ?_)
  ·
    refine Qe (Qg ?_)
    refine Qa rfl rfl (Qd rfl rfl rfl) ?_
    refine Qa rfl rfl (Qd rfl rfl rfl) ?_
    refine Qf (Qb ?_)
    refine Qu ?_
    refine Qn ?_
    rw [trio4 (by
      simp only [Bool.or_eq_true, Bool.and_eq_true, decide_eq_true_eq] at h23
      rintro ⟨h1, h2⟩
      simp [errOf, h1] at h23
      omega)]
    exact Qs (.inl rfl) (res2 rfl rfl rfl) ⟨_, ⟨_, [], rfl, Frag.nil _ _, rfl⟩, fun _ h => h.tail⟩
  ·
    refine Qt (Qb (Qe (Qe ?_)))
    simp only [Bool.or_eq_false_iff, Bool.and_eq_false_iff, decide_eq_false_iff_not] at h23
    have hk : okB L = true := ok_of h23.1
    have hty := (okB_bounds hk).2.2.2.1
    refine Qg ?_
    refine Qa rfl rfl (Qh rfl rfl KF.fld_27_0 rfl) ?_
    refine Qa rfl rfl (Qj 0 rfl rfl Tryz.underlying3 rfl rfl rfl (fun _ => rfl)) ?_
    refine Qa rfl rfl (QT_eql rfl rfl rfl rfl) ?_
    refine Qf (Qb ?_)
    refine Qm rfl (fun h26 => ?_) (fun h26 => ?_)
    ·
      refine Qe ?_
      have h5 : L.ty = 5 := by simpa using h26
      have hro := (okB_bounds hk).2.2.2.2.1 h5
      rw [trio5 hk h5]
      have her : L.ro = ((L.ro.toNat : Nat) : Int) := by omega
      refine Qg ?_
      refine Qa rfl rfl (Qc rfl rfl rfl) ?_
      refine Qa rfl rfl (Qh rfl rfl KF.fld_27_5 rfl) ?_
      refine Qa rfl rfl (Qj 0 rfl rfl Tryz.underlying3 rfl rfl rfl (fun _ => rfl)) ?_
      refine TL_A (St w0 η) (fun _ h => h.tail) ?_
      refine TL_e rfl rfl rfl (rfl) (ET_call rfl KF.cal_125 rfl (cells_at her w0 _ _ rs hs ha (by omega) hn)) ?_
      rintro _ _ ⟨pv, Hr, rfl, hFr, rfl⟩
      refine Qa rfl rfl (Qx rfl rfl rfl rfl) ?_
      refine Qa rfl rfl (Qx rfl rfl rfl rfl) ?_
      refine Qa rfl rfl (Qd rfl rfl rfl) ?_
      refine Qa rfl rfl (Qd rfl rfl rfl) ?_
      refine Qf (Qb ?_)
      refine Qu ?_
      refine Qn ?_
      exact Qs (.inl rfl) (res2 rfl rfl rfl) ⟨_, ⟨pv, Hr, rfl, hFr, rfl⟩, fun _ h => h⟩
    ·
      refine Qt (Qb (Qe ?_))
      have h4 : L.ty = 4 := by
        have : L.ty ≠ 5 := by simpa using h26
        omega
      refine TC_A (St w0 η) (fun _ h => h.tail) ?_
      obtain ⟨FIN, hFIN⟩ : ∃ F, F = strips rs := ⟨_, rfl⟩
      refine Qg ?_
      refine Qa rfl rfl (Qd rfl rfl rfl) ?_
      refine Qf (Qb (Qe (Qe (Qg ?_))))
      refine Qa rfl rfl (Qd rfl rfl rfl) ?_
      refine Qf (Qb (Qr ?_))
      refine TC_loop (γ := { t : Nat × R × R × R × List R × Value × Heap × Nat // Rst rs FIN t.1 t.2.1 t.2.2.1 t.2.2.2.1 t.2.2.2.2.1 t.2.2.2.2.2.1 t.2.2.2.2.2.2.1 t.2.2.2.2.2.2.2 ∧ (0 < t.1 → ¬headBad rs) ∧ (t.1 = 0 → t.2.2.2.2.1 = []) }) (fun t => [(1, true, .slice ad rs.length cap), (6, true, t.1.2.2.2.2.2.1), (7, true, .int .i64 (t.1.1 : Int))]) (fun t => St w0 (t.1.2.2.2.2.2.2.1 ++ η)) (fun t => rs.length - t.1.1) ⟨(0, zR, zR, zR, [], .slice none 0 0, [], rs.length + 1), ⟨Nat.zero_le _, zR_ints, zR_ints, zR_ints, Frag.nil _ _, Nat.le_refl _, fun h => absurd h (Nat.lt_irrefl _), hFIN.symm, Nat.lt_succ_of_le (Nat.sub_le _ _)⟩, fun h => absurd h (Nat.lt_irrefl _), fun _ => rfl⟩ ⟨rfl, rfl, rfl, trivial⟩ (fun _ h => h) ?_
      rintro ⟨⟨i, a, b, c, out, fv, H, f⟩, hS, hhb, hz0⟩
      dsimp only at hS hhb hz0 ⊢
      have hall := hS.all hS.few hz0
      obtain ⟨hle, hia, hib, hic, hfr, hfew, hlast, hfin, hfuel⟩ := hS
      refine Qe (Qe (Qg ?_))
      refine Qa rfl rfl (Qc rfl rfl rfl) ?_
      refine Qa rfl rfl (Qc rfl rfl rfl) ?_
      refine Qa rfl rfl (Za rfl rfl Tryz.underlying31 rfl) ?_
      refine Qa rfl rfl (QT_lss rfl rfl rfl rfl) ?_
      refine Qf (Qb ?_)
      refine Qm rfl (fun h36 => ?_) (fun h36 => ?_)
      ·
        have hi : i < rs.length := by omega
        have hx := at7_ints ha hi
        obtain ⟨f1, g1⟩ := flat_at7 ha hi
        have hfx := (flagR_spec hx).2
        have hrf := rec_flag ha hi
        have hdr := drop_at7 hi
        rw [hdr] at hfin
        obtain ⟨f, rfl⟩ : ∃ g, f = g + 1 := ⟨f - 1, by omega⟩
        have hhead : i = 0 → (headBad rs ↔ flagR (at7 rs i) ≠ 0) := by
          rintro rfl
          rw [List.drop_zero] at hdr
          rw [hdr]; exact Iff.rfl
        have hxl : (at7 rs i).length = 7 := hx.length
        obtain ⟨x, hxe⟩ : ∃ x, x = at7 rs i := ⟨_, rfl⟩
        rw [← hxe] at hx f1 hfx hrf hdr hfin hhead hxl
        have hbx := bareR_ints hx
        refine Qt (Qb ?_)
        refine TC_cut (γ := { t : Nat × R × R × R × List R × Value × Heap × Nat // i ≤ t.1 ∧ Rst rs FIN (t.1 + 1) t.2.1 t.2.2.1 t.2.2.2.1 t.2.2.2.2.1 t.2.2.2.2.2.1 t.2.2.2.2.2.2.1 t.2.2.2.2.2.2.2 ∧ ¬headBad rs }) (fun t => [(1, true, .slice ad rs.length cap), (6, true, t.1.2.2.2.2.2.1), (7, true, .int .i64 (t.1.1 : Int))]) (fun t => St w0 (t.1.2.2.2.2.2.2.1 ++ η)) ?_ ?_
        ·
          refine Qr (Qe (Qg ?_))
          refine Qa rfl rfl (Qc rfl rfl rfl) ?_
          refine Qa rfl rfl (Qc rfl rfl rfl) ?_
          refine Qa rfl rfl (QT_indexG i rfl rfl Tryz.underlying31 KF.sz_77 rfl rfl rfl (fun _ => hi) (fun _ => had (by omega))) ?_
          refine Qa rfl rfl (Qh rfl rfl KF.fld_77_0 rfl) ?_
          refine Qa rfl rfl (Qw (v := .int .u8 (flagR x : Int)) (i * 7) rfl rfl Tryz.underlying5 rfl (hrd.deep (by intro _ hw; first | exact hw | exact hw.app_right | exact hw.app_right.app_right | exact hw.tail | exact hw.tail.app_right | exact hw.tail.tail | exact hw.tail.tail.app_right | exact hw.tail.tail.tail | exact hw.tail.tail.tail.app_right | exact hw.tail.tail.tail.tail | exact hw.tail.tail.tail.tail.app_right | exact hw.tail.tail.tail.tail.tail | exact hw.tail.tail.tail.tail.tail.app_right | exact hw.tail.tail.tail.tail.tail.tail | exact hw.tail.tail.tail.tail.tail.tail.app_right)) rfl (fun _ => hrf)) ?_
          refine Qa rfl rfl (Qd rfl rfl rfl) ?_
          refine Qf (Qb (Qe (Qe (Qg ?_))))
          refine Qa rfl rfl (Qc rfl rfl rfl) ?_
          refine Qa rfl rfl (QT_eql rfl rfl rfl rfl) ?_
          refine Qa rfl rfl (Qc rfl rfl rfl) ?_
          refine Qa rfl rfl (Qc rfl rfl rfl) ?_
          refine Qa rfl rfl (QT_neq rfl rfl rfl rfl) ?_
          refine Qa rfl rfl (QT_and rfl rfl rfl rfl) ?_
          refine Qf (Qb ?_)
          refine TC_cond rfl (fun h49 => ?_) (fun h49 => ?_)
          ·
            refine Qe (Qg ?_)
            refine Qa rfl rfl (Qd rfl rfl rfl) ?_
            refine Qa rfl rfl (Qd rfl rfl rfl) ?_
            refine Qf (Qb ?_)
            refine Qu ?_
            refine Qn ?_
            refine Zc ?_
            refine Qn ?_
            refine Qn ?_
            refine Zc ?_
            refine Qn ?_
            simp only [Bool.and_eq_true, decide_eq_true_eq] at h49
            have hi0 : i = 0 := by omega
            rw [trio6 hk h4 ((hhead hi0).2 (by omega))]
            exact Qs (.inl rfl) (res2 rfl rfl rfl) ⟨_, ⟨_, [], rfl, Frag.nil _ _, rfl⟩, fun _ h => h.app_right⟩
          ·
            refine Qt (Qb (Qe (Qe ?_)))
            have hnb : ¬headBad rs := by
              by_cases hi0 : i = 0
              · rw [hhead hi0]
                simp only [Bool.and_eq_false_iff, decide_eq_false_iff_not] at h49
                omega
              · exact hhb (by omega)
            have hFe : trioF L rs = FIN := by rw [hFIN]; exact trioS hk h4 hnb
            have hpos : flagR x ≠ 0 → 0 < i := by
              intro h
              simp only [Bool.and_eq_false_iff, decide_eq_false_iff_not] at h49
              omega
            refine Qg ?_
            refine Qa rfl rfl (Qc rfl rfl rfl) ?_
            refine Qa rfl rfl (QT_gtr rfl rfl rfl rfl) ?_
            refine Qf (Qb ?_)
            refine Qm rfl (fun h51 => ?_) (fun h51 => ?_)
            ·
              refine Qe (Qg ?_)
              refine Qa rfl rfl (Qd rfl rfl rfl) ?_
              refine Qa rfl rfl (Qd rfl rfl rfl) ?_
              refine Qf (Qb ?_)
              refine Qu ?_
              refine Qn ?_
              refine Zc ?_
              refine Qn ?_
              refine Qn ?_
              refine Zc ?_
              refine Qn ?_
              rw [hFe, ← hfin, strip_bad (by omega) (by omega) (by omega)]
              exact Qs (.inl rfl) (res2 rfl rfl rfl) ⟨_, ⟨_, [], rfl, Frag.nil _ _, rfl⟩, fun _ h => h.app_right⟩
            ·
              refine Qt (Qb (Qe (Qe (Qg ?_))))
              refine Qa rfl rfl (Qc rfl rfl rfl) ?_
              refine Qa rfl rfl (QT_eql rfl rfl rfl rfl) ?_
              refine Qf (Qb ?_)
              refine Qm rfl (fun h53 => ?_) (fun h53 => ?_)
              ·
                refine Qe (Qe (Qg ?_))
                refine Qa rfl rfl (Qc rfl rfl rfl) ?_
                refine Qa rfl rfl (Zb rfl rfl rfl rfl (fun _ => ⟨by omega, by omega⟩)) ?_
                refine Qa rfl rfl (Qc rfl rfl rfl) ?_
                refine Qa rfl rfl (Za rfl rfl Tryz.underlying31 rfl) ?_
                refine Qa rfl rfl (QT_geq rfl rfl rfl rfl) ?_
                refine Qf (Qb ?_)
                refine Qm rfl (fun h58 => ?_) (fun h58 => ?_)
                ·
                  refine Qe (Qg ?_)
                  refine Qa rfl rfl (Qd rfl rfl rfl) ?_
                  refine Qa rfl rfl (Qd rfl rfl rfl) ?_
                  refine Qf (Qb ?_)
                  refine Qu ?_
                  refine Qn ?_
                  refine Qn ?_
                  refine Zc ?_
                  refine Qn ?_
                  refine Qn ?_
                  refine Zc ?_
                  refine Qn ?_
                  rw [hFe, ← hfin, strip_short (by omega) (by rw [List.length_drop]; omega)]
                  exact Qs (.inl rfl) (res2 rfl rfl rfl) ⟨_, ⟨_, [], rfl, Frag.nil _ _, rfl⟩, fun _ h => h.app_right⟩
                ·
                  refine Qt (Qb (Qe ?_))
                  have hi1 : i + 1 < rs.length := by omega
                  have hi2 : i + 2 < rs.length := by omega
                  obtain ⟨f2, g2⟩ := flat_at7 ha hi1
                  obtain ⟨f3, g3⟩ := flat_at7 ha hi2
                  have hy := at7_ints ha hi1
                  have hz := at7_ints ha hi2
                  rw [drop_at7 hi1, drop_at7 hi2, strip_long (by omega)] at hfin
                  generalize at7 rs (i + 1) = y at *
                  generalize at7 rs (i + 2) = z at *
                  have hby := bareR_ints hy
                  have hbz := bareR_ints hz
                  have b1 := B3_ints hx hy hz
                  refine TC_draw [(0, 0), (1, 0), (2, 0), (3, 0), (4, 0), (6, 0), (7, 0), (8, 0), (9, 0), (10, 0), (12, 0), (13, 0), (14, 0), (15, 0), (16, 0), (5, 1), (11, 1), (17, 1), (18, 0), (19, 1), (20, 1), (21, 0)] KF.mixed (by kernel_rfl) (St.calm _ _) ?_
                  refine Qk rfl rfl rfl (fun _ => Qc rfl rfl rfl) ?_
                  refine Qk rfl rfl rfl (fun _ => Qc rfl rfl rfl) ?_
                  refine Qk rfl rfl rfl (fun _ => Qc rfl rfl rfl) ?_
                  refine Qk rfl rfl rfl (fun _ => QT_indexG i rfl rfl Tryz.underlying31 KF.sz_77 rfl rfl rfl (fun _ => hi) (fun _ => had (by omega))) ?_
                  refine Qz rfl rfl rfl (Qy (out := x) (i * 7) rfl rfl Tryz.underlying77 rfl KF.sz_77 (hrd.deep (by intro _ hw; first | exact hw | exact hw.app_right | exact hw.app_right.app_right | exact hw.tail | exact hw.tail.app_right | exact hw.tail.tail | exact hw.tail.tail.app_right | exact hw.tail.tail.tail | exact hw.tail.tail.tail.app_right | exact hw.tail.tail.tail.tail | exact hw.tail.tail.tail.tail.app_right | exact hw.tail.tail.tail.tail.tail | exact hw.tail.tail.tail.tail.tail.app_right | exact hw.tail.tail.tail.tail.tail.tail | exact hw.tail.tail.tail.tail.tail.tail.app_right)) rfl (fun _ => g1) (fun _ => f1)) ?_
                  refine Qk rfl rfl rfl (fun _ => Qc rfl rfl rfl) ?_
                  refine Qk rfl rfl rfl (fun _ => Qc rfl rfl rfl) ?_
                  refine Qk rfl rfl rfl (fun _ => Zb rfl rfl rfl rfl (fun _ => ⟨by omega, by omega⟩)) ?_
                  refine Qk rfl rfl rfl (fun _ => QT_indexG (i + 1) rfl rfl Tryz.underlying31 KF.sz_77 rfl rfl rfl (fun _ => hi1) (fun _ => had (by omega))) ?_
                  refine Qz rfl rfl rfl (Qy (out := y) ((i + 1) * 7) rfl rfl Tryz.underlying77 rfl KF.sz_77 (hrd.deep (by intro _ hw; first | exact hw | exact hw.app_right | exact hw.app_right.app_right | exact hw.tail | exact hw.tail.app_right | exact hw.tail.tail | exact hw.tail.tail.app_right | exact hw.tail.tail.tail | exact hw.tail.tail.tail.app_right | exact hw.tail.tail.tail.tail | exact hw.tail.tail.tail.tail.app_right | exact hw.tail.tail.tail.tail.tail | exact hw.tail.tail.tail.tail.tail.app_right | exact hw.tail.tail.tail.tail.tail.tail | exact hw.tail.tail.tail.tail.tail.tail.app_right)) rfl (fun _ => g2) (fun _ => f2)) ?_
                  refine Qk rfl rfl rfl (fun _ => Qc rfl rfl rfl) ?_
                  refine Qk rfl rfl rfl (fun _ => Qc rfl rfl rfl) ?_
                  refine Qk rfl rfl rfl (fun _ => Zb rfl rfl rfl rfl (fun _ => ⟨by omega, by omega⟩)) ?_
                  refine Qk rfl rfl rfl (fun _ => QT_indexG (i + 2) rfl rfl Tryz.underlying31 KF.sz_77 rfl rfl rfl (fun _ => hi2) (fun _ => had (by omega))) ?_
                  refine Qz rfl rfl rfl (Qy (out := z) ((i + 2) * 7) rfl rfl Tryz.underlying77 rfl KF.sz_77 (hrd.deep (by intro _ hw; first | exact hw | exact hw.app_right | exact hw.app_right.app_right | exact hw.tail | exact hw.tail.app_right | exact hw.tail.tail | exact hw.tail.tail.app_right | exact hw.tail.tail.tail | exact hw.tail.tail.tail.app_right | exact hw.tail.tail.tail.tail | exact hw.tail.tail.tail.tail.app_right | exact hw.tail.tail.tail.tail.tail | exact hw.tail.tail.tail.tail.tail.app_right | exact hw.tail.tail.tail.tail.tail.tail | exact hw.tail.tail.tail.tail.tail.tail.app_right)) rfl (fun _ => g3) (fun _ => f3)) ?_
                  refine TV_cq rfl rfl rfl rfl rfl KF.cal_126 rfl (fun _ => plain_spec w0 _ x hx) (.keep (by kernel_rfl) rfl (by first | exact Qy (out := z) ((i + 2) * 7) rfl rfl Tryz.underlying77 rfl KF.sz_77 (hrd.deep (by intro _ hw; first | exact hw | exact hw.app_right | exact hw.app_right.app_right | exact hw.tail | exact hw.tail.app_right | exact hw.tail.tail | exact hw.tail.tail.app_right | exact hw.tail.tail.tail | exact hw.tail.tail.tail.app_right | exact hw.tail.tail.tail.tail | exact hw.tail.tail.tail.tail.app_right | exact hw.tail.tail.tail.tail.tail | exact hw.tail.tail.tail.tail.tail.app_right | exact hw.tail.tail.tail.tail.tail.tail | exact hw.tail.tail.tail.tail.tail.tail.app_right)) rfl (fun _ => g3) (fun _ => f3)) (.keep (by kernel_rfl) rfl (by first | exact Qy (out := y) ((i + 1) * 7) rfl rfl Tryz.underlying77 rfl KF.sz_77 (hrd.deep (by intro _ hw; first | exact hw | exact hw.app_right | exact hw.app_right.app_right | exact hw.tail | exact hw.tail.app_right | exact hw.tail.tail | exact hw.tail.tail.app_right | exact hw.tail.tail.tail | exact hw.tail.tail.tail.app_right | exact hw.tail.tail.tail.tail | exact hw.tail.tail.tail.tail.app_right | exact hw.tail.tail.tail.tail.tail | exact hw.tail.tail.tail.tail.tail.app_right | exact hw.tail.tail.tail.tail.tail.tail | exact hw.tail.tail.tail.tail.tail.tail.app_right)) rfl (fun _ => g2) (fun _ => f2)) (.drop (by kernel_rfl) (.nil)))) ?_
                  refine TV_cq rfl rfl rfl rfl rfl KF.cal_126 rfl (fun _ => plain_spec w0 _ y hy) (.keep (by kernel_rfl) rfl (by first | exact Qy (out := z) ((i + 2) * 7) rfl rfl Tryz.underlying77 rfl KF.sz_77 (hrd.deep (by intro _ hw; first | exact hw | exact hw.app_right | exact hw.app_right.app_right | exact hw.tail | exact hw.tail.app_right | exact hw.tail.tail | exact hw.tail.tail.app_right | exact hw.tail.tail.tail | exact hw.tail.tail.tail.app_right | exact hw.tail.tail.tail.tail | exact hw.tail.tail.tail.tail.app_right | exact hw.tail.tail.tail.tail.tail | exact hw.tail.tail.tail.tail.tail.app_right | exact hw.tail.tail.tail.tail.tail.tail | exact hw.tail.tail.tail.tail.tail.tail.app_right)) rfl (fun _ => g3) (fun _ => f3)) (.drop (by kernel_rfl) (.nil))) ?_
                  refine TV_cq rfl rfl rfl rfl rfl KF.cal_126 rfl (fun _ => plain_spec w0 _ z hz) (.drop (by kernel_rfl) (.nil)) ?_
                  refine Qk rfl rfl rfl (fun _ => QT_buildArr (out := B3 x y z) rfl rfl KF.zero_79 Tryz.underlying79 KF.sz_77 rfl rfl (seg3 hbx.length hby.length hbz.length rfl)) ?_
                  refine TV_e rfl rfl rfl rfl (rfl) (ET_buildN [_] rfl Tryz.underlying61 KF.sz_79 KF.zero_79 rfl rfl rfl (fun v hv => by cases List.mem_singleton.1 hv; exact b1.length)) ?_
                  rintro _ _ ⟨b78, rfl, rfl⟩
                  refine ⟨_, .nil, ?_⟩
                  refine TV_e rfl rfl rfl rfl (rfl) (ET_appendL (L := [_]) rfl Tryz.underlying61 el_Tri rfl rfl hfr (fun _ h => h) (SlA.own (n := 1) (xs := B3 x y z) 0 rfl (one_own b1.length).symm (one_len b1.length) (by omega)) b1.oneCell (by omega) (by omega)) ?_
                  rintro fv2 _ ⟨H2, hF2, rfl⟩
                  refine ⟨_, .nil, ?_⟩
                  refine Qk rfl rfl rfl (fun _ => Qd rfl rfl rfl) ?_
                  refine TV_end (Qb (Qe (Qg ?_)))
                  refine Qa rfl rfl (Qc rfl rfl rfl) ?_
                  refine Qa rfl rfl (Zb rfl rfl rfl rfl (fun _ => ⟨by omega, by omega⟩)) ?_
                  refine Qa rfl rfl (Qd rfl rfl rfl) ?_
                  refine Qf (Qb ?_)
                  refine Zd ?_
                  refine Qi ?_
                  refine Qp ?_
                  exact TX_cut ⟨(i + 2, x, y, z, out ++ [B3 x y z], fv2, H2, f), by show i ≤ i + 2; omega, ⟨by show i + 2 + 1 ≤ rs.length; omega, hx, hy, hz, by rw [List.length_append, flatten_snoc]; exact hF2, by rw [List.length_append]; show _ + 1 ≤ _; omega, fun _ => ⟨out, rfl, hall⟩, hfin, by show rs.length - (i + 2 + 1) < f; omega⟩, hnb⟩ ⟨rfl, rfl, rfl, trivial⟩ (fun _ h => h.app_right (X := [_]))
              ·
                refine Qt (Qb (Qe ?_))
                have hip : 0 < i := hpos (by omega)
                obtain ⟨pre, hpe, hpl⟩ := hlast hip
                have hb0 := B3_ints hia hib hic
                have hfr0 := hfr
                obtain ⟨ad2, cap2, rfl, hcap2, hsl⟩ := hfr.slice
                obtain ⟨b2, rest, rfl, rfl⟩ := hsl (by rw [hpe]; simp)
                obtain ⟨q1, q2⟩ := last_at (rest := rest) hpl hb0.length
                rw [← hpe] at q1 q2
                have hol : 0 < out.length := by rw [hpe]; simp
                obtain ⟨p0, p1, p2⟩ := T3_at (bareR_ints hia).length (bareR_ints hib).length (bareR_ints hic).length
                have hTl : (B3 a b c).length = 21 := hb0.length
                have htz : Sz Tryz.prog 79 (B3 a b c).length := by rw [hTl]; exact KF.sz_79
                refine Qg ?_
                refine Qa rfl rfl (Qc rfl rfl rfl) ?_
                refine Qa rfl rfl (Qc rfl rfl rfl) ?_
                refine Qa rfl rfl (Za rfl rfl Tryz.underlying61 rfl) ?_
                refine Qa rfl rfl (QT_sub rfl rfl rfl rfl (fun _ => ⟨by omega, by omega⟩)) ?_
                refine Qa rfl rfl (QT_indexG (out.length - 1) rfl rfl Tryz.underlying61 KF.sz_79 rfl rfl (by omega) (fun _ => by omega) (fun _ => rfl)) ?_
                refine Qa rfl rfl (Qy (out := B3 a b c) ((out.length - 1) * 21) rfl rfl Tryz.underlying79 rfl KF.sz_79 (Rd.own 0 rfl) rfl (fun _ => q2) (fun _ => q1)) ?_
                refine TL_e rfl rfl rfl (rfl) (ET_alloc rfl KF.zero_79) ?_
                rintro _ _ ⟨b9, rfl, rfl⟩
                refine TL_e0 rfl rfl (rfl) (ET_storeW (vs := B3 a b c) 0 rfl rfl rfl htz rfl (List.all_eq_true.2 hb0.oneCell) (by rw [hTl]; rfl)) ?_
                rintro _ _ ⟨rfl, rfl⟩
                refine Qf (Qb (Qe (Qg ?_)))
                refine Qa rfl rfl (QT_indexArr (0) rfl rfl Tryz.underlying79 KF.sz_77 rfl rfl (rfl) (fun _ => by decide)) ?_
                refine Qa rfl rfl (Qy (out := bareR a) (0 * 7) rfl rfl Tryz.underlying77 rfl KF.sz_77 (Rd.own 0 rfl) rfl (fun _ => by rw [hTl]; decide) (fun _ => p0)) ?_
                refine TL_e rfl rfl rfl (rfl) (ET_alloc rfl KF.zero_77) ?_
                rintro _ _ ⟨b10, rfl, rfl⟩
                refine TL_e0 rfl rfl (rfl) (ET_storeW (vs := bareR a) 0 rfl rfl rfl (hz7 (bareR_ints hia)) rfl (List.all_eq_true.2 (bareR_ints hia).oneCell) (by rw [(bareR_ints hia).length]; rfl)) ?_
                rintro _ _ ⟨rfl, rfl⟩
                refine Qf (Qb ?_)
                refine TC_cut (γ := { t : R // Ints recK t ∧ stripF f (rs.drop (i + 1)) t c x (out ++ [B3 t c x]) = FIN }) (fun t => [(1, true, .slice ad rs.length cap), (6, true, .slice (some ⟨b2, 0, none⟩) out.length cap2), (7, true, .int .i64 (i : Int)), (9, true, .pointer (some ⟨b9, 0, none⟩)), (10, true, .pointer (some ⟨b10, 0, none⟩))]) (fun t => St w0 ((b10, 77, bareR t.1) :: (b9, 79, B3 a b c) :: ([(b2, 79, out.flatten ++ rest)] ++ η))) ?_ ?_
                ·
                  refine Qe (Qg ?_)
                  refine Qa rfl rfl (Qc rfl rfl rfl) ?_
                  refine Qa rfl rfl (QT_eql rfl rfl rfl rfl) ?_
                  refine Qf (Qb ?_)
                  refine Qm rfl (fun h91 => ?_) (fun h91 => ?_)
                  ·
                    refine Qg ?_
                    refine Qa rfl rfl (QT_indexArr (1) rfl rfl Tryz.underlying79 KF.sz_77 rfl rfl (rfl) (fun _ => by decide)) ?_
                    refine Qa rfl rfl (Qy (out := bareR b) (1 * 7) rfl rfl Tryz.underlying77 rfl KF.sz_77 (Rd.own 1 rfl) rfl (fun _ => by rw [hTl]; decide) (fun _ => p1)) ?_
                    refine TL_e0 rfl rfl (rfl) (ET_storeW (vs := bareR b) 0 rfl rfl rfl (hz7 (bareR_ints hib)) rfl (List.all_eq_true.2 (bareR_ints hib).oneCell) (by rw [(bareR_ints hib).length, (bareR_ints hia).length]; rfl)) ?_
                    rintro _ _ ⟨rfl, rfl⟩
                    refine Qf ?_
                    exact TX_cut ⟨b, hib, by rw [← hfin, strip_one (by omega)]⟩ ⟨rfl, rfl, rfl, rfl, rfl, trivial⟩ (fun _ h => h)
                  ·
                    refine Qt ?_
                    exact TX_cut ⟨a, hia, by rw [← hfin, strip_two (by omega)]⟩ ⟨rfl, rfl, rfl, rfl, rfl, trivial⟩ (fun _ h => h)
                rintro ⟨t, hit, hfin2⟩
                dsimp only
                have hbt := bareR_ints hit
                have hbc := bareR_ints hic
                have b3 := B3_ints hit hic hx
                refine TC_draw [(0, 0), (1, 0), (2, 0), (3, 0), (4, 0), (5, 0), (6, 0), (7, 0), (8, 1), (9, 0), (10, 1), (11, 1), (12, 0)] KF.mixed (by kernel_rfl) (St.calm _ _) ?_
                refine Qk rfl rfl rfl (fun _ => Qc rfl rfl rfl) ?_
                refine Qz rfl rfl rfl (Ql (cs := bareR t) 0 rfl rfl Tryz.underlying77 rfl rfl rfl (hz7 hbt)) ?_
                refine Qk rfl rfl rfl (fun _ => QT_indexArr (2) rfl rfl Tryz.underlying79 KF.sz_77 rfl rfl (rfl) (fun _ => by decide)) ?_
                refine Qz rfl rfl rfl (Qy (out := bareR c) (2 * 7) rfl rfl Tryz.underlying77 rfl KF.sz_77 (Rd.own 1 rfl) rfl (fun _ => by rw [hTl]; decide) (fun _ => p2)) ?_
                refine Qk rfl rfl rfl (fun _ => Qc rfl rfl rfl) ?_
                refine Qk rfl rfl rfl (fun _ => Qc rfl rfl rfl) ?_
                refine Qk rfl rfl rfl (fun _ => QT_indexG i rfl rfl Tryz.underlying31 KF.sz_77 rfl rfl rfl (fun _ => hi) (fun _ => had (by omega))) ?_
                refine Qz rfl rfl rfl (Qy (out := x) (i * 7) rfl rfl Tryz.underlying77 rfl KF.sz_77 (hrd.deep (by intro _ hw; first | exact hw | exact hw.app_right | exact hw.app_right.app_right | exact hw.tail | exact hw.tail.app_right | exact hw.tail.tail | exact hw.tail.tail.app_right | exact hw.tail.tail.tail | exact hw.tail.tail.tail.app_right | exact hw.tail.tail.tail.tail | exact hw.tail.tail.tail.tail.app_right | exact hw.tail.tail.tail.tail.tail | exact hw.tail.tail.tail.tail.tail.app_right | exact hw.tail.tail.tail.tail.tail.tail | exact hw.tail.tail.tail.tail.tail.tail.app_right)) rfl (fun _ => g1) (fun _ => f1)) ?_
                refine TV_cq rfl rfl rfl rfl rfl KF.cal_126 rfl (fun _ => plain_spec w0 _ x hx) (.drop (by kernel_rfl) (.keep (by kernel_rfl) rfl (by first | exact Qy (out := bareR c) (2 * 7) rfl rfl Tryz.underlying77 rfl KF.sz_77 (Rd.own 1 rfl) rfl (fun _ => by rw [hTl]; decide) (fun _ => p2) | exact Qy (out := bareR c) (2 * 7) rfl rfl Tryz.underlying77 rfl KF.sz_77 (Rd.own 2 rfl) rfl (fun _ => by rw [hTl]; decide) (fun _ => p2)) (.keep (by kernel_rfl) rfl (by first | exact Ql (cs := bareR t) 0 rfl rfl Tryz.underlying77 rfl rfl rfl (hz7 hbt) | exact Ql (cs := bareR t) 1 rfl rfl Tryz.underlying77 rfl rfl rfl (hz7 hbt)) (.nil)))) ?_
                refine Qk rfl rfl rfl (fun _ => QT_buildArr (out := B3 t c x) rfl rfl KF.zero_79 Tryz.underlying79 KF.sz_77 rfl rfl (seg3 hbt.length hbc.length hbx.length rfl)) ?_
                refine TV_e rfl rfl rfl rfl (rfl) (ET_buildN [_] rfl Tryz.underlying61 KF.sz_79 KF.zero_79 rfl rfl rfl (fun v hv => by cases List.mem_singleton.1 hv; exact b3.length)) ?_
                rintro _ _ ⟨b104, rfl, rfl⟩
                refine ⟨_, .keep (by kernel_rfl) rfl (by first | exact Qy (out := bareR c) (2 * 7) rfl rfl Tryz.underlying77 rfl KF.sz_77 (Rd.own 1 rfl) rfl (fun _ => by rw [hTl]; decide) (fun _ => p2) | exact Qy (out := bareR c) (2 * 7) rfl rfl Tryz.underlying77 rfl KF.sz_77 (Rd.own 2 rfl) rfl (fun _ => by rw [hTl]; decide) (fun _ => p2)) (.keep (by kernel_rfl) rfl (by first | exact Ql (cs := bareR t) 0 rfl rfl Tryz.underlying77 rfl rfl rfl (hz7 hbt) | exact Ql (cs := bareR t) 1 rfl rfl Tryz.underlying77 rfl rfl rfl (hz7 hbt)) (.nil)), ?_⟩
                refine TV_e rfl rfl rfl rfl (rfl) (ET_appendL (L := [_, _, _]) rfl Tryz.underlying61 el_Tri rfl rfl hfr0 (fun _ h => h) (SlA.own (n := 1) (xs := B3 t c x) 0 rfl (one_own b3.length).symm (one_len b3.length) (by omega)) b3.oneCell (by omega) (by omega)) ?_
                rintro fv2 _ ⟨H2, hF2, rfl⟩
                refine ⟨_, .keep (by kernel_rfl) rfl (by first | exact Qy (out := bareR c) (2 * 7) rfl rfl Tryz.underlying77 rfl KF.sz_77 (Rd.own 1 rfl) rfl (fun _ => by rw [hTl]; decide) (fun _ => p2) | exact Qy (out := bareR c) (2 * 7) rfl rfl Tryz.underlying77 rfl KF.sz_77 (Rd.own 2 rfl) rfl (fun _ => by rw [hTl]; decide) (fun _ => p2)) (.keep (by kernel_rfl) rfl (by first | exact Ql (cs := bareR t) 0 rfl rfl Tryz.underlying77 rfl rfl rfl (hz7 hbt) | exact Ql (cs := bareR t) 1 rfl rfl Tryz.underlying77 rfl rfl rfl (hz7 hbt)) (.nil)), ?_⟩
                refine Qk rfl rfl rfl (fun _ => Qd rfl rfl rfl) ?_
                refine TV_end ?_
                refine Qo ?_
                exact TX_cut ⟨(i, t, c, x, out ++ [B3 t c x], fv2, H2, f), Nat.le_refl _, ⟨hi, hit, hic, hx, by rw [List.length_append, flatten_snoc]; exact hF2, by rw [List.length_append]; show _ + 1 ≤ _; omega, fun _ => ⟨out, rfl, hall⟩, hfin2, by show rs.length - (i + 1) < f; omega⟩, hnb⟩ ⟨rfl, rfl, rfl, trivial⟩ (fun _ h => h.app_right (X := [_, _, _]))
        rintro ⟨⟨i2, a2, b2, c2, out2, fv2, H2, f2⟩, hle2, hS2, hnb2⟩
        dsimp only at hle2 hS2 ⊢
        have hle3 := hS2.le
        refine Qg ?_
        refine Qa rfl rfl (Qc rfl rfl rfl) ?_
        refine Qa rfl rfl (Zb rfl rfl rfl rfl (fun _ => ⟨by omega, by omega⟩)) ?_
        refine Qa rfl rfl (Qd rfl rfl rfl) ?_
        refine Qf ?_
        exact TX_round ⟨(i2 + 1, a2, b2, c2, out2, fv2, H2, f2), hS2, fun _ => hnb2, fun h => absurd h (Nat.succ_ne_zero _)⟩ (by show rs.length - (i2 + 1) < rs.length - i; omega) ⟨rfl, rfl, rfl, trivial⟩ (fun _ h => h)
      ·
        refine Zd ?_
        refine Qi (Qi ?_)
        refine Qp ?_
        refine Qb (Qe (Qg ?_))
        refine Qa rfl rfl (Qc rfl rfl rfl) ?_
        refine Qa rfl rfl (Qd rfl rfl rfl) ?_
        refine Qa rfl rfl (Qd rfl rfl rfl) ?_
        refine Qf (Qb ?_)
        refine Qu ?_
        have hie : i = rs.length := by omega
        have hnb : ¬headBad rs := by
          by_cases hi0 : i = 0
          · have : rs = [] := List.eq_nil_of_length_eq_zero (by omega)
            rw [this]; exact id
          · exact hhb (by omega)
        have hFe : trioF L rs = (out, 0) := by
          rw [trioS hk h4 hnb, ← hFIN, ← hfin, hie, List.drop_length, strips_nil]
        rw [hFe]
        exact Qs (.inl rfl) (res2 rfl rfl rfl) ⟨_, ⟨fv, H, rfl, hfr, rfl⟩, fun _ h => h⟩
end Go.Proofs.YtjdaglmkljbfkaaGreatDoor
namespace Go.Proofs.YtjdaglmkljbfkaaGreatDoor
open Go Go.Gx Go.RowKit
set_option maxRecDepth 100000
end Go.Proofs.YtjdaglmkljbfkaaGreatDoor
namespace Go.Proofs.YtjdaglmkljbfkaaGreatDoor
open Go Go.Gx Go.RowKit
set_option maxRecDepth 100000
end Go.Proofs.YtjdaglmkljbfkaaGreatDoor
namespace Go.Proofs.YtjdaglmkljbfkaaGreatDoor
open Go Go.Gx Go.RowKit
set_option maxRecDepth 100000
theorem trio_ints {L : Lay} {rs : List R} (ha : All7 rs) : (∀ t ∈ (trioF L rs).1, Ints triK t) ∧ (trioF L rs).1.length ≤ 2 * rs.length := by
  have strip : ∀ (f : Nat) (rem : List R) (a b c : R) (out : List R), All7 rem → Ints recK a → Ints recK b → Ints recK c → (∀ t ∈ out, Ints triK t) → (∀ t ∈ (stripF f rem a b c out).1, Ints triK t) ∧ (stripF f rem a b c out).1.length ≤ out.length + rem.length := by
    intro f
    induction f with
    | zero => intro rem a b c out _ _ _ _ ho; exact ⟨ho, by simp [stripF]⟩
    | succ f ih =>
      intro rem a b c out hr hia hib hic ho
      cases rem with
      | nil => exact ⟨ho, by simp [stripF]⟩
      | cons x v =>
        have hx := hr x (List.mem_cons_self ..)
        have hv : All7 v := fun r h => hr r (List.mem_cons_of_mem _ h)
        have hsnoc : ∀ {t : R}, Ints triK t → ∀ u ∈ out ++ [t], Ints triK u := fun ht u hu => by
          rcases List.mem_append.1 hu with hu | hu
          · exact ho u hu
          · cases List.mem_singleton.1 hu; exact ht
        by_cases h0 : flagR x = 0
        · match v, hv with
          | [], _ => rw [strip_short h0 (by simp)]; exact ⟨fun t h => absurd h List.not_mem_nil, Nat.zero_le _⟩
          | [_], _ => rw [strip_short h0 (by simp)]; exact ⟨fun t h => absurd h List.not_mem_nil, Nat.zero_le _⟩
          | y :: z :: w, hv =>
            have hy := hv y (by simp)
            have hz := hv z (by simp)
            rw [strip_long h0]
            obtain ⟨h1, h2⟩ := ih w x y z (out ++ [B3 x y z]) (fun r h => hv r (by simp [h])) hx hy hz (hsnoc (B3_ints hx hy hz))
            exact ⟨h1, by simp only [List.length_append, List.length_cons, List.length_nil] at h2 ⊢; omega⟩
        · by_cases h1 : flagR x = 1
          · rw [strip_one h1]
            obtain ⟨h1, h2⟩ := ih v b c x (out ++ [B3 b c x]) hv hib hic hx (hsnoc (B3_ints hib hic hx))
            exact ⟨h1, by simp only [List.length_append, List.length_cons, List.length_nil] at h2 ⊢; omega⟩
          · by_cases h2 : flagR x = 2
            · rw [strip_two h2]
              obtain ⟨h1, h2⟩ := ih v a c x (out ++ [B3 a c x]) hv hia hic hx (hsnoc (B3_ints hia hic hx))
              exact ⟨h1, by simp only [List.length_append, List.length_cons, List.length_nil] at h2 ⊢; omega⟩
            · rw [strip_bad h0 h1 h2]; exact ⟨fun t h => absurd h List.not_mem_nil, Nat.zero_le _⟩
  have hnil : (∀ t ∈ ([] : List R), Ints triK t) := fun t h => absurd h List.not_mem_nil
  unfold trioF
  split
  · split
    · rename_i h5
      unfold rowsF
      split
      · rename_i hr
        refine ⟨fun t ht => ?_, Nat.le_trans (outT_len _ _ _) (by omega)⟩
        obtain ⟨i, hi, ht⟩ := List.mem_flatMap.1 ht
        have hi' := List.mem_range.1 hi
        by_cases hro : L.ro.toNat = 0
        · rw [hro] at hr; simp at hr
        obtain ⟨h2r, _⟩ := two_rows hr.1 hr.2
        unfold cellF at ht
        split at ht
        · exact absurd ht List.not_mem_nil
        · rename_i hne
          have hk : ∀ j, j < rs.length → Ints recK (at7 rs j) := fun j hj => at7_ints ha hj
          have hz : ∀ j, Ints recK (at7 rs j) := fun j => by
            by_cases hj : j < rs.length
            · exact hk j hj
            · rw [at7, List.getD_eq_getElem?_getD, List.getElem?_eq_none (by omega)]; exact zR_ints
          rcases List.mem_cons.1 ht with rfl | ht
          · exact B3_ints (hz _) (hz _) (hz _)
          · cases List.mem_singleton.1 ht
            exact B3_ints (hz _) (hz _) (hz _)
      · exact ⟨hnil, Nat.zero_le _⟩
    · split
      · exact ⟨hnil, Nat.zero_le _⟩
      · obtain ⟨h1, h2⟩ := strip (rs.length + 1) rs zR zR zR [] ha zR_ints zR_ints zR_ints hnil
        exact ⟨h1, by simp only [List.length_nil] at h2; show (stripF (rs.length + 1) rs zR zR zR []).1.length ≤ _; omega⟩
  · exact ⟨hnil, Nat.zero_le _⟩
end Go.Proofs.YtjdaglmkljbfkaaGreatDoor
namespace Go.Proofs.YtjdaglmkljbfkaaGreatDoor.T12
open Go Go.Gx Go.RowKit
set_option maxRecDepth 100000
def zP : List Value := zs patchK
def eP (f k : Nat) : Nat := (3 * f + k) % 12
def eC (f k : Nat) : Nat := (f + k) % 4
def erow (f : Nat) : List Value := [.int .i64 ((eP f 0 : Nat) : Int), .int .i64 ((eP f 1 : Nat) : Int), .int .i64 ((eP f 2 : Nat) : Int), .int .i64 ((eP f 3 : Nat) : Int), .int .i64 ((eC f 0 : Nat) : Int), .int .i64 ((eC f 1 : Nat) : Int)]
def edgesL : List Value := [.int .i64 0, .int .i64 0, .int .i64 0, .int .i64 0, .int .i64 0, .int .i64 0, .int .i64 3, .int .i64 4, .int .i64 5, .int .i64 6, .int .i64 1, .int .i64 2, .int .i64 6, .int .i64 7, .int .i64 8, .int .i64 9, .int .i64 2, .int .i64 3, .int .i64 9, .int .i64 10, .int .i64 11, .int .i64 0, .int .i64 3, .int .i64 0]
def Edges (w0 : Base) : Prop := ∀ j v, edgesL[j]? = some v → w0.cell? ⟨1, 0 + j, none⟩ = some v
theorem edges_row : ∀ f : Nat, 1 ≤ f → f ≤ 3 → (edgesL.drop (f * 6)).take 6 = erow f
 | 1, _, _ => rfl
 | 2, _, _ => rfl
 | 3, _, _ => rfl
def ptsTo (ah : List Value) (f : Nat) : Nat → List Value
 | 0 => zP
 | k + 1 => setAt (ptsTo ah f k) (0 + 0 + k * 2) ((ah.drop (0 + 0 + eP f k * 2)).take 2)
def colTo (ah : List Value) (f : Nat) : Nat → List Value
 | 0 => ptsTo ah f 4
 | k + 1 => setAt (colTo ah f k) (0 + 32 + k * 4) ((ah.drop (0 + 32 + eC f k * 4)).take 4)
theorem ptsTo_len (ah : List Value) (f : Nat) : ∀ k, (ptsTo ah f k).length = 48
 | 0 => rfl
 | k + 1 => by rw [ptsTo, setAt_length, ptsTo_len ah f k]
theorem colTo_len (ah : List Value) (f : Nat) : ∀ k, (colTo ah f k).length = 48
 | 0 => ptsTo_len ah f 4
 | k + 1 => by rw [colTo, setAt_length, colTo_len ah f k]
theorem all_part {ks : List IntKind} {ah : List Value} (h : Ints ks ah) (i m : Nat) : ((ah.drop i).take m).all Value.oneCell' = true :=
 List.all_eq_true.2 fun u hu => h.oneCell u (List.mem_of_mem_drop (List.mem_of_mem_take hu))
theorem part_len (ah : List Value) (i m : Nat) (h : i + m ≤ ah.length) : ((ah.drop i).take m).length = m := by rw [List.length_take, List.length_drop]; omega
theorem eP_lt (f k : Nat) : eP f k < 12 := Nat.mod_lt _ (by decide)
theorem eC_lt (f k : Nat) : eC f k < 4 := Nat.mod_lt _ (by decide)
def spC (ah : List Value) (k : Nat) : List Value := (ah.drop (k * 2)).take 2
def coC (ah : List Value) (k : Nat) : List Value := (ah.drop (32 + k * 4)).take 4
/-- the patch of a sheet's cells, behind a patch's -/
def wholeC (pts f : Nat) (s ah : List Value) : List Value :=
 if f = 0 then (s.drop 1).take (2 * pts) ++ List.replicate (32 - 2 * pts) (.int .u32 0) ++ (s.drop 33).take 16
 else spC ah (eP f 0) ++ spC ah (eP f 1) ++ spC ah (eP f 2) ++ spC ah (eP f 3) ++ (s.drop 1).take (2 * (pts - 4)) ++ List.replicate (32 - 2 * pts) (.int .u32 0) ++ coC ah (eC f 0) ++ coC ah (eC f 1) ++ (s.drop 33).take 8
theorem whole_eq0 {pts : Nat} {s ah : List Value} (hs : s.length = 49) (ha : ah.length = 48) (hp : pts = 12 ∨ pts = 16) :
  setAt (setAt zP (0 + 0 + 0 * 2) (((s.drop (0 + 1)).take (16 * 2)).take (min 16 (pts - 0) * 2))) (0 + 32 + 0 * 4) (((s.drop (0 + 33)).take (4 * 4)).take (min 4 (4 - 0) * 4)) = wholeC pts 0 s ah := by
 obtain ⟨g, rfl⟩ := tab' (.bool false) s hs
 obtain ⟨h, rfl⟩ := tab' (.bool false) ah ha
 rcases hp with rfl | rfl <;> kernel_rfl
theorem whole_eqE {pts f : Nat} {s ah : List Value} (hs : s.length = 49) (ha : ah.length = 48) (hp : pts = 12 ∨ pts = 16) (hf : f = 1 ∨ f = 2 ∨ f = 3) :
  setAt (setAt (colTo ah f 2) (0 + 0 + 4 * 2) (((s.drop (0 + 1)).take (16 * 2)).take (min 16 (pts - 4) * 2))) (0 + 32 + 2 * 4) (((s.drop (0 + 33)).take (4 * 4)).take (min 4 (4 - 2) * 4)) = wholeC pts f s ah := by
 obtain ⟨g, rfl⟩ := tab' (.bool false) s hs
 obtain ⟨h, rfl⟩ := tab' (.bool false) ah ha
 rcases hp with rfl | rfl <;> rcases hf with rfl | rfl | rfl <;> kernel_rfl
theorem whole_ints {pts f : Nat} {s ah : List Value} (hs : Ints sheetK s) (ha : Ints patchK ah) (hp : pts = 12 ∨ pts = 16) (hf : f ≤ 3) : Ints patchK (wholeC pts f s ah) := by
  have z := fun n => Ints.zeros (k := .u32) (by decide) n
  by_cases h0 : f = 0
  · unfold wholeC; rw [if_pos h0]
    have e : patchK = (sheetK.drop 1).take (2 * pts) ++ List.replicate (32 - 2 * pts) .u32 ++ (sheetK.drop 33).take 16 := by rcases hp with rfl | rfl <;> decide
    rw [e]
    exact (((hs.drop 1).take _).append (z _)).append ((hs.drop 33).take 16)
  · unfold wholeC; rw [if_neg h0]
    have e : patchK = (patchK.drop (eP f 0 * 2)).take 2 ++ (patchK.drop (eP f 1 * 2)).take 2 ++ (patchK.drop (eP f 2 * 2)).take 2 ++ (patchK.drop (eP f 3 * 2)).take 2 ++ (sheetK.drop 1).take (2 * (pts - 4)) ++ List.replicate (32 - 2 * pts) .u32 ++ (patchK.drop (32 + eC f 0 * 4)).take 4 ++ (patchK.drop (32 + eC f 1 * 4)).take 4 ++ (sheetK.drop 33).take 8 := by
      have hf' : f = 1 ∨ f = 2 ∨ f = 3 := by omega
      rcases hp with rfl | rfl <;> rcases hf' with rfl | rfl | rfl <;> decide
    rw [e]
    unfold spC coC
    exact (((((((((ha.drop _).take 2).append ((ha.drop _).take 2)).append ((ha.drop _).take 2)).append ((ha.drop _).take 2)).append ((hs.drop 1).take _)).append (z _)).append ((ha.drop _).take 4)).append ((ha.drop _).take 4)).append ((hs.drop 33).take 8)
theorem zP_ints : Ints patchK zP := zs_ints _
theorem whole_0 (w0 : Base) (η : Heap) (s ah : List Value) (pts : Nat) (hs : Ints sheetK s) (ha : Ints patchK ah) (hp : pts = 12 ∨ pts = 16) (hf : s[0]? = some (.int .u8 0)) :
  CallsT Tryz.prog 123 [.agg s.toArray, .agg ah.toArray, .int .i64 (pts : Int)] (St w0 η) fun v A' => v = .agg (wholeC pts 0 s ah).toArray ∧ A' = St w0 η := by
 have hsl : s.length = 49 := hs.length
 have hal : ah.length = 48 := ha.length
 have hzl : zP.length = 48 := rfl
 have hwi := whole_ints hs ha hp (Nat.zero_le 3)
 have hsz : Sz Tryz.prog 112 (wholeC pts 0 s ah).length := by rw [hwi.length]; exact KF.sz_112
 refine CallsT.body Tryz.func123 rfl rfl ?_
 simp only [Tryz.ntmps123, slotsOf, Nat.reduceAdd]
 refine Qe (Qg ?_)
 refine TL_e rfl rfl rfl (rfl) (ET_box rfl rfl) ?_
 rintro _ _ ⟨b3, rfl, rfl⟩
 refine TL_e rfl rfl rfl (rfl) (ET_box rfl rfl) ?_
 rintro _ _ ⟨b4, rfl, rfl⟩
 refine TL_e rfl rfl rfl (rfl) (ET_alloc rfl KF.zero_112) ?_
 rintro _ _ ⟨b6, rfl, rfl⟩
 refine Qf (Qb (Qe (Qg ?_)))
 refine Qa rfl rfl (Qd rfl rfl rfl) ?_
 refine Qa rfl rfl (Qd rfl rfl rfl) ?_
 refine Qf (Qb (Qe (Qe (Qg ?_))))
 refine Qa rfl rfl (Qh rfl rfl KF.fld_102_0 rfl) ?_
 refine Qa rfl rfl (Qj 2 rfl rfl Tryz.underlying5 rfl rfl rfl (fun _ => hf)) ?_
 refine Qa rfl rfl (QT_gtr rfl rfl rfl rfl) ?_
 refine Qf (Qb ?_)
 refine TC_cond rfl (fun h => absurd (h.symm.trans ((show (_ : Bool) = false by rfl))) (by decide)) (fun _ => ?_)
 refine Qt (Qb (Qe ?_))
 refine TC_draw [(0, 0), (1, 0), (2, 0), (3, 0), (4, 0), (5, 0), (6, 1)] KF.mixed (by kernel_rfl) (St.calm _ _) ?_
 refine Qk rfl rfl rfl (fun _ => Qh rfl rfl KF.fld_112_0 rfl) ?_
 refine Qk rfl rfl rfl (fun _ => Qc rfl rfl rfl) ?_
 refine Qk rfl rfl rfl (fun _ => Qc rfl rfl rfl) ?_
 refine Qk rfl rfl rfl (fun _ => QT_slaLH (0) (pts) rfl rfl rfl Tryz.underlying99 KF.sz_72 rfl rfl rfl rfl rfl (fun _ => ⟨by omega, by omega, by omega⟩)) ?_
 refine Qk rfl rfl rfl (fun _ => Qh rfl rfl KF.fld_102_1 rfl) ?_
 refine Qk rfl rfl rfl (fun _ => QT_slaA  rfl rfl rfl rfl rfl Tryz.underlying99 KF.sz_72 rfl ) ?_
 refine TV_e rfl rfl rfl rfl (rfl) (ET_copy (news := (s.drop (0 + 1)).take (16 * 2)) 0 rfl Tryz.underlying244 KF.sz_72 rfl rfl rfl (SlA.own (n := 16) 2 rfl rfl (show 0 + 1 + 16 * 2 ≤ s.length by omega) (by omega)) (fun u hu => hs.oneCell u (List.mem_of_mem_drop (List.mem_of_mem_take hu))) (show 0 + 0 + 0 * 2 + min 16 (pts - 0) * 2 ≤ zP.length by omega)) ?_
 rintro _ _ ⟨rfl, rfl⟩
 refine ⟨_, .nil, ?_⟩
 refine TV_end (Qb (Qe ?_))
 refine TC_draw [(0, 0), (1, 0), (2, 0), (3, 0), (4, 0), (5, 1)] KF.mixed (by kernel_rfl) (St.calm _ _) ?_
 refine Qk rfl rfl rfl (fun _ => Qh rfl rfl KF.fld_112_1 rfl) ?_
 refine Qk rfl rfl rfl (fun _ => Qc rfl rfl rfl) ?_
 refine Qk rfl rfl rfl (fun _ => QT_slaL (0) rfl rfl rfl rfl Tryz.underlying100 KF.sz_75 rfl rfl rfl (fun _ => by omega)) ?_
 refine Qk rfl rfl rfl (fun _ => Qh rfl rfl KF.fld_102_2 rfl) ?_
 refine Qk rfl rfl rfl (fun _ => QT_slaA  rfl rfl rfl rfl rfl Tryz.underlying100 KF.sz_75 rfl ) ?_
 refine TV_e rfl rfl rfl rfl (rfl) (ET_copy (news := (s.drop (0 + 33)).take (4 * 4)) 0 rfl Tryz.underlying245 KF.sz_75 rfl rfl rfl (SlA.own (n := 4) 2 rfl rfl (show 0 + 33 + 4 * 4 ≤ s.length by omega) (by omega)) (fun u hu => hs.oneCell u (List.mem_of_mem_drop (List.mem_of_mem_take hu))) (by rw [setAt_length]; show 0 + 32 + 0 * 4 + min 4 (4 - 0) * 4 ≤ zP.length; omega)) ?_
 rintro _ _ ⟨rfl, rfl⟩
 refine ⟨_, .nil, ?_⟩
 refine TV_end (Qb (Qe ?_))
 refine TC_A (St w0 ((b6, 112, wholeC pts 0 s ah) :: (b4, 112, ah) :: (b3, 102, s) :: η)) (fun w h => by rw [← whole_eq0 hsl hal hp]; exact h) ?_
 refine Qg ?_
 refine Qa rfl rfl (Ql 0 rfl rfl Tryz.underlying112 rfl rfl rfl hsz) ?_
 refine TL_e0 rfl rfl (rfl) (ET_storeW 0 rfl rfl rfl hsz rfl (List.all_eq_true.2 hwi.oneCell) (Nat.beq_refl _)) ?_
 rintro _ _ ⟨rfl, rfl⟩
 refine Qf (Qb ?_)
 refine Qu ?_
 exact Qs (.inl rfl) (resC 0 rfl rfl Tryz.underlying112 rfl rfl hsz) ⟨_, ⟨rfl, rfl⟩, (fun _ h => by first | exact h | exact h.tail | exact h.tail.tail | exact h.tail.tail.tail | exact h.tail.tail.tail.tail | exact h.tail.tail.tail.tail.tail | exact h.tail.tail.tail.tail.tail.tail | exact h.tail.tail.tail.tail.tail.tail.tail | exact h.tail.tail.tail.tail.tail.tail.tail.tail | exact h.tail.tail.tail.tail.tail.tail.tail.tail.tail | exact h.tail.tail.tail.tail.tail.tail.tail.tail.tail.tail | exact h.tail.tail.tail.tail.tail.tail.tail.tail.tail.tail.tail | exact h.tail.tail.tail.tail.tail.tail.tail.tail.tail.tail.tail.tail | exact h.tail.tail.tail.tail.tail.tail.tail.tail.tail.tail.tail.tail.tail)⟩
theorem whole_e (w0 : Base) (η : Heap) (hE : Edges w0) (s ah : List Value) (pts f : Nat) (hs : Ints sheetK s) (ha : Ints patchK ah) (hp : pts = 12 ∨ pts = 16) (hf : s[0]? = some (.int .u8 (f : Int))) (h1 : 1 ≤ f) (h3 : f ≤ 3) :
  CallsT Tryz.prog 123 [.agg s.toArray, .agg ah.toArray, .int .i64 (pts : Int)] (St w0 η) fun v A' => v = .agg (wholeC pts f s ah).toArray ∧ A' = St w0 η := by
 have hsl : s.length = 49 := hs.length
 have hal : ah.length = 48 := ha.length
 have hwi := whole_ints hs ha hp h3
 have hsz : Sz Tryz.prog 112 (wholeC pts f s ah).length := by rw [hwi.length]; exact KF.sz_112
 have hR : ∀ η', Rd (St w0 η') 1 0 edgesL := fun η' => Rd.start hE
 refine CallsT.body Tryz.func123 rfl rfl ?_
 simp only [Tryz.ntmps123, slotsOf, Nat.reduceAdd]
 refine Qe (Qg ?_)
 refine TL_e rfl rfl rfl (rfl) (ET_box rfl rfl) ?_
 rintro _ _ ⟨b3, rfl, rfl⟩
 refine TL_e rfl rfl rfl (rfl) (ET_box rfl rfl) ?_
 rintro _ _ ⟨b4, rfl, rfl⟩
 refine TL_e rfl rfl rfl (rfl) (ET_alloc rfl KF.zero_112) ?_
 rintro _ _ ⟨b6, rfl, rfl⟩
 refine Qf (Qb (Qe (Qg ?_)))
 refine Qa rfl rfl (Qd rfl rfl rfl) ?_
 refine Qa rfl rfl (Qd rfl rfl rfl) ?_
 refine Qf (Qb (Qe (Qe (Qg ?_))))
 refine Qa rfl rfl (Qh rfl rfl KF.fld_102_0 rfl) ?_
 refine Qa rfl rfl (Qj 2 rfl rfl Tryz.underlying5 rfl rfl rfl (fun _ => hf)) ?_
 refine Qa rfl rfl (QT_gtr rfl rfl rfl rfl) ?_
 refine Qf (Qb ?_)
 refine TC_cond rfl (fun _ => ?_) (fun h => absurd (h.symm.trans ((decide_eq_true (by omega)))) (by decide))
 refine Qe (Qg ?_)
 refine Qa rfl rfl (Qh rfl rfl KF.fld_102_0 rfl) ?_
 refine Qa rfl rfl (Qj 2 rfl rfl Tryz.underlying5 rfl rfl rfl (fun _ => hf)) ?_
 refine Qa rfl rfl (QT_indexArr (f) rfl rfl Tryz.underlying243 KF.sz_242 rfl rfl (rfl) (fun _ => by omega)) ?_
 refine Qa rfl rfl (Qy (f * 6) rfl rfl Tryz.underlying242 rfl KF.sz_242 (hR _) rfl (fun _ => show f * 6 + 6 ≤ 24 by omega) (fun _ => edges_row f h1 h3)) ?_
 refine TL_e rfl rfl rfl (rfl) (ET_alloc rfl KF.zero_242) ?_
 rintro _ _ ⟨b9, rfl, rfl⟩
 refine TL_e0 rfl rfl (rfl) (ET_storeW (vs := erow f) 0 rfl rfl rfl KF.sz_242 rfl rfl rfl) ?_
 rintro _ _ ⟨rfl, rfl⟩
 refine Qf (Qb (Qe (Qe (Qg ?_))))
 refine Qa rfl rfl (Qh rfl rfl KF.fld_242_0 rfl) ?_
 refine Qa rfl rfl (Qh rfl rfl KF.fld_239_0 rfl) ?_
 refine Qa rfl rfl (QT_loadA 0 rfl rfl Tryz.underlying237 rfl rfl rfl KF.sz_237 (fun _ => rfl)) ?_
 refine Qa rfl rfl (Qc rfl rfl rfl) ?_
 refine Qf (Qb (Qr ?_))
 refine TC_loop (γ := { i : Nat // i ≤ 4 }) (fun t => [(2, true, .int .i64 (pts : Int)), (3, true, .pointer (some ⟨b3, 0, none⟩)), (4, true, .pointer (some ⟨b4, 0, none⟩)), (6, true, .pointer (some ⟨b6, 0, none⟩)), (9, true, .pointer (some ⟨b9, 0, none⟩)), (23, true, .agg (((erow f).drop (0 + 0 + 0)).take 4).toArray), (24, true, .int .i64 (t.1 : Int))]) (fun t => St w0 ((b9, 242, erow f) :: (b6, 112, ptsTo ah f t.1) :: (b4, 112, ah) :: (b3, 102, s) :: η)) (fun t => 4 - t.1) ⟨0, by omega⟩ ⟨rfl, rfl, rfl, rfl, rfl, rfl, rfl, trivial⟩ (fun _ h => h) ?_
 rintro ⟨i, hi⟩
 dsimp only
 refine Qe (Qg ?_)
 refine Qa rfl rfl (QT_lss rfl rfl rfl rfl) ?_
 refine Qf (Qb (Qe ?_))
 refine Qm rfl (fun h25 => ?_) (fun h25 => ?_)
 ·
  have hi' : i < 4 := by omega
  have hrow : (((erow f).drop (0 + 0 + 0)).take 4)[i]? = some (.int .i64 ((eP f i : Nat) : Int)) := by
   match i, hi' with
   | 0, _ => rfl
   | 1, _ => rfl
   | 2, _ => rfl
   | 3, _ => rfl
  have hel := eP_lt f i
  have hpl := part_len ah (0 + 0 + eP f i * 2) 2 (by omega)
  have hql := ptsTo_len ah f i
  refine Qt (Qb (Qe (Qr (Qe (Qg ?_)))))
  refine Qa rfl rfl (Qc rfl rfl rfl) ?_
  refine Qa rfl rfl (QT_indexV i rfl rfl Tryz.underlying237 Tryz.underlying3 rfl KF.sz_3 rfl rfl rfl (fun _ => hi') (fun _ => hrow)) ?_
  refine Qa rfl rfl (Qd rfl rfl rfl) ?_
  refine Qa rfl rfl (Qd rfl rfl rfl) ?_
  refine Qf (Qb (Qg ?_))
  refine Qa rfl rfl (Qc rfl rfl rfl) ?_
  refine Qa rfl rfl (Qc rfl rfl rfl) ?_
  refine Qa rfl rfl (Qh rfl rfl KF.fld_112_0 rfl) ?_
  refine Qa rfl rfl (QT_indexArr (eP f i) rfl rfl Tryz.underlying99 KF.sz_72 rfl rfl (rfl) (fun _ => by omega)) ?_
  refine Qa rfl rfl (QT_loadA 2 rfl rfl Tryz.underlying72 rfl rfl rfl KF.sz_72 (fun _ => Nat.ble_eq_true_of_le (show 0 + 0 + eP f i * 2 + 2 ≤ ah.length by omega))) ?_
  refine Qa rfl rfl (Qh rfl rfl KF.fld_112_0 rfl) ?_
  refine Qa rfl rfl (QT_indexArr (i) rfl rfl Tryz.underlying99 KF.sz_72 rfl rfl (rfl) (fun _ => by omega)) ?_
  refine TL_e0 rfl rfl (rfl) (ET_store (vs := (ah.drop (0 + 0 + eP f i * 2)).take 2) 1 rfl rfl rfl rfl (by rw [hpl]; exact KF.sz_72) rfl (all_part ha _ _) (Nat.ble_eq_true_of_le (by rw [hpl, hql]; omega))) ?_
  rintro _ _ ⟨rfl, rfl⟩
  refine Qf ?_
  refine Qo ?_
  refine Qb (Qg ?_)
  refine Qa rfl rfl (Zb rfl rfl rfl rfl (fun _ => ⟨by omega, by omega⟩)) ?_
  refine Qa rfl rfl (Qc rfl rfl rfl) ?_
  refine Qf ?_
  exact TX_round ⟨i + 1, by omega⟩ (by show 4 - (i + 1) < 4 - i; omega) ⟨rfl, rfl, rfl, rfl, rfl, rfl, rfl, trivial⟩ (fun _ h => h)
 ·
  refine Zd ?_
  refine Qi (Qi ?_)
  refine Qp ?_
  refine Qb (Qe (Qe ?_))
  obtain rfl : i = 4 := by omega
  refine Qg ?_
  refine Qa rfl rfl (Qh rfl rfl KF.fld_242_1 rfl) ?_
  refine Qa rfl rfl (QT_loadA 0 rfl rfl Tryz.underlying240 rfl rfl rfl KF.sz_240 (fun _ => rfl)) ?_
  refine Qa rfl rfl (Qc rfl rfl rfl) ?_
  refine Qf (Qb (Qr ?_))
  refine TC_loop (γ := { i : Nat // i ≤ 2 }) (fun t => [(2, true, .int .i64 (pts : Int)), (3, true, .pointer (some ⟨b3, 0, none⟩)), (4, true, .pointer (some ⟨b4, 0, none⟩)), (6, true, .pointer (some ⟨b6, 0, none⟩)), (37, true, .agg (((erow f).drop (0 + 4)).take 2).toArray), (38, true, .int .i64 (t.1 : Int))]) (fun t => St w0 ((b9, 242, erow f) :: (b6, 112, colTo ah f t.1) :: (b4, 112, ah) :: (b3, 102, s) :: η)) (fun t => 2 - t.1) ⟨0, by omega⟩ ⟨rfl, rfl, rfl, rfl, rfl, rfl, trivial⟩ (fun _ h => h) ?_
  rintro ⟨i, hi⟩
  dsimp only
  refine Qe (Qg ?_)
  refine Qa rfl rfl (QT_lss rfl rfl rfl rfl) ?_
  refine Qf (Qb (Qe ?_))
  refine Qm rfl (fun h39 => ?_) (fun h39 => ?_)
  ·
   have hi' : i < 2 := by omega
   have hrow : (((erow f).drop (0 + 4)).take 2)[i]? = some (.int .i64 ((eC f i : Nat) : Int)) := by
    match i, hi' with
    | 0, _ => rfl
    | 1, _ => rfl
   have hel := eC_lt f i
   have hpl := part_len ah (0 + 32 + eC f i * 4) 4 (by omega)
   have hql := colTo_len ah f i
   refine Qt (Qb (Qe (Qr (Qe (Qg ?_)))))
   refine Qa rfl rfl (Qc rfl rfl rfl) ?_
   refine Qa rfl rfl (QT_indexV i rfl rfl Tryz.underlying240 Tryz.underlying3 rfl KF.sz_3 rfl rfl rfl (fun _ => hi') (fun _ => hrow)) ?_
   refine Qa rfl rfl (Qd rfl rfl rfl) ?_
   refine Qa rfl rfl (Qd rfl rfl rfl) ?_
   refine Qf (Qb (Qg ?_))
   refine Qa rfl rfl (Qc rfl rfl rfl) ?_
   refine Qa rfl rfl (Qc rfl rfl rfl) ?_
   refine Qa rfl rfl (Qh rfl rfl KF.fld_112_1 rfl) ?_
   refine Qa rfl rfl (QT_indexArr (eC f i) rfl rfl Tryz.underlying100 KF.sz_75 rfl rfl (rfl) (fun _ => by omega)) ?_
   refine Qa rfl rfl (QT_loadA 2 rfl rfl Tryz.underlying75 rfl rfl rfl KF.sz_75 (fun _ => Nat.ble_eq_true_of_le (show 0 + 32 + eC f i * 4 + 4 ≤ ah.length by omega))) ?_
   refine Qa rfl rfl (Qh rfl rfl KF.fld_112_1 rfl) ?_
   refine Qa rfl rfl (QT_indexArr (i) rfl rfl Tryz.underlying100 KF.sz_75 rfl rfl (rfl) (fun _ => by omega)) ?_
   refine TL_e0 rfl rfl (rfl) (ET_store (vs := (ah.drop (0 + 32 + eC f i * 4)).take 4) 1 rfl rfl rfl rfl (by rw [hpl]; exact KF.sz_75) rfl (all_part ha _ _) (Nat.ble_eq_true_of_le (by rw [hpl, hql]; omega))) ?_
   rintro _ _ ⟨rfl, rfl⟩
   refine Qf ?_
   refine Qo ?_
   refine Qb (Qg ?_)
   refine Qa rfl rfl (Zb rfl rfl rfl rfl (fun _ => ⟨by omega, by omega⟩)) ?_
   refine Qa rfl rfl (Qc rfl rfl rfl) ?_
   refine Qf ?_
   exact TX_round ⟨i + 1, by omega⟩ (by show 2 - (i + 1) < 2 - i; omega) ⟨rfl, rfl, rfl, rfl, rfl, rfl, trivial⟩ (fun _ h => h)
  ·
   refine Zd ?_
   refine Qi (Qi ?_)
   refine Qp ?_
   refine Qb ?_
   obtain rfl : i = 2 := by omega
   refine Qg ?_
   refine Qa rfl rfl (Qd rfl rfl rfl) ?_
   refine Qa rfl rfl (Qd rfl rfl rfl) ?_
   refine Qf (Qb (Qe ?_))
   refine TC_draw [(0, 0), (1, 0), (2, 0), (3, 0), (4, 0), (5, 0), (6, 1)] KF.mixed (by kernel_rfl) (St.calm _ _) ?_
   have hcl := colTo_len ah f 2
   refine Qk rfl rfl rfl (fun _ => Qh rfl rfl KF.fld_112_0 rfl) ?_
   refine Qk rfl rfl rfl (fun _ => Qc rfl rfl rfl) ?_
   refine Qk rfl rfl rfl (fun _ => Qc rfl rfl rfl) ?_
   refine Qk rfl rfl rfl (fun _ => QT_slaLH (4) (pts) rfl rfl rfl Tryz.underlying99 KF.sz_72 rfl rfl rfl rfl rfl (fun _ => ⟨by omega, by omega, by omega⟩)) ?_
   refine Qk rfl rfl rfl (fun _ => Qh rfl rfl KF.fld_102_1 rfl) ?_
   refine Qk rfl rfl rfl (fun _ => QT_slaA  rfl rfl rfl rfl rfl Tryz.underlying99 KF.sz_72 rfl ) ?_
   refine TV_e rfl rfl rfl rfl (rfl) (ET_copy (news := (s.drop (0 + 1)).take (16 * 2)) 1 rfl Tryz.underlying244 KF.sz_72 rfl rfl rfl (SlA.own (n := 16) 3 rfl rfl (show 0 + 1 + 16 * 2 ≤ s.length by omega) (by omega)) (fun u hu => hs.oneCell u (List.mem_of_mem_drop (List.mem_of_mem_take hu))) (show 0 + 0 + 4 * 2 + min 16 (pts - 4) * 2 ≤ (colTo ah f 2).length by omega)) ?_
   rintro _ _ ⟨rfl, rfl⟩
   refine ⟨_, .nil, ?_⟩
   refine TV_end (Qb (Qe ?_))
   refine TC_draw [(0, 0), (1, 0), (2, 0), (3, 0), (4, 0), (5, 1)] KF.mixed (by kernel_rfl) (St.calm _ _) ?_
   refine Qk rfl rfl rfl (fun _ => Qh rfl rfl KF.fld_112_1 rfl) ?_
   refine Qk rfl rfl rfl (fun _ => Qc rfl rfl rfl) ?_
   refine Qk rfl rfl rfl (fun _ => QT_slaL (2) rfl rfl rfl rfl Tryz.underlying100 KF.sz_75 rfl rfl rfl (fun _ => by omega)) ?_
   refine Qk rfl rfl rfl (fun _ => Qh rfl rfl KF.fld_102_2 rfl) ?_
   refine Qk rfl rfl rfl (fun _ => QT_slaA  rfl rfl rfl rfl rfl Tryz.underlying100 KF.sz_75 rfl ) ?_
   refine TV_e rfl rfl rfl rfl (rfl) (ET_copy (news := (s.drop (0 + 33)).take (4 * 4)) 1 rfl Tryz.underlying245 KF.sz_75 rfl rfl rfl (SlA.own (n := 4) 3 rfl rfl (show 0 + 33 + 4 * 4 ≤ s.length by omega) (by omega)) (fun u hu => hs.oneCell u (List.mem_of_mem_drop (List.mem_of_mem_take hu))) (by rw [setAt_length]; show 0 + 32 + 2 * 4 + min 4 (4 - 2) * 4 ≤ (colTo ah f 2).length; omega)) ?_
   rintro _ _ ⟨rfl, rfl⟩
   refine ⟨_, .nil, ?_⟩
   refine TV_end (Qb (Qe ?_))
   refine TC_A (St w0 ((b9, 242, erow f) :: (b6, 112, wholeC pts f s ah) :: (b4, 112, ah) :: (b3, 102, s) :: η)) (fun w h => by rw [← whole_eqE hsl hal hp (show f = 1 ∨ f = 2 ∨ f = 3 by omega)]; exact h) ?_
   refine Qg ?_
   refine Qa rfl rfl (Ql 1 rfl rfl Tryz.underlying112 rfl rfl rfl hsz) ?_
   refine TL_e0 rfl rfl (rfl) (ET_storeW 1 rfl rfl rfl hsz rfl (List.all_eq_true.2 hwi.oneCell) (Nat.beq_refl _)) ?_
   rintro _ _ ⟨rfl, rfl⟩
   refine Qf (Qb ?_)
   refine Qu ?_
   exact Qs (.inl rfl) (resC 1 rfl rfl Tryz.underlying112 rfl rfl hsz) ⟨_, ⟨rfl, rfl⟩, (fun _ h => by first | exact h | exact h.tail | exact h.tail.tail | exact h.tail.tail.tail | exact h.tail.tail.tail.tail | exact h.tail.tail.tail.tail.tail | exact h.tail.tail.tail.tail.tail.tail | exact h.tail.tail.tail.tail.tail.tail.tail | exact h.tail.tail.tail.tail.tail.tail.tail.tail | exact h.tail.tail.tail.tail.tail.tail.tail.tail.tail | exact h.tail.tail.tail.tail.tail.tail.tail.tail.tail.tail | exact h.tail.tail.tail.tail.tail.tail.tail.tail.tail.tail.tail | exact h.tail.tail.tail.tail.tail.tail.tail.tail.tail.tail.tail.tail | exact h.tail.tail.tail.tail.tail.tail.tail.tail.tail.tail.tail.tail.tail)⟩
theorem whole_spec (w0 : Base) (η : Heap) (hE : Edges w0) (s ah : List Value) (pts f : Nat) (hs : Ints sheetK s) (ha : Ints patchK ah) (hp : pts = 12 ∨ pts = 16) (hf : s[0]? = some (.int .u8 (f : Int))) (h3 : f ≤ 3) :
  CallsT Tryz.prog 123 [.agg s.toArray, .agg ah.toArray, .int .i64 (pts : Int)] (St w0 η) fun v A' => v = .agg (wholeC pts f s ah).toArray ∧ A' = St w0 η := by
 by_cases h0 : f = 0
 · subst h0; exact whole_0 w0 η s ah pts hs ha hp hf
 · exact whole_e w0 η hE s ah pts f hs ha hp hf (by omega) h3
end Go.Proofs.YtjdaglmkljbfkaaGreatDoor.T12
namespace Go.Proofs.YtjdaglmkljbfkaaGreatDoor.T12
open Go Go.Gx Go.RowKit
set_option maxRecDepth 100000
/-- the i-th sheet's flag -/
def flg (xs : List Value) (i : Nat) : Nat := match xs[i * 49]? with
 | some (.int _ z) => z.toNat
 | _ => 0
theorem flg_spec {n i : Nat} {xs : List Value} (h : Ints (rep n sheetK) xs) (hi : i < n) : xs[i * 49]? = some (.int .u8 (flg xs i : Int)) ∧ (elem xs 49 i)[0]? = some (.int .u8 (flg xs i : Int)) ∧ flg xs i ≤ 255 := by
 have he : Ints sheetK (elem xs 49 i) := h.elem hi
 obtain ⟨z, cs', e, hw, _⟩ := (show Ints (.u8 :: sheetK.tail) (elem xs 49 i) from he).inv
 have h0 : (elem xs 49 i)[0]? = xs[i * 49]? := by
  unfold elem
  rw [List.getElem?_take_of_lt (by decide), List.getElem?_drop, Nat.add_zero]
 have hz := wf_u8 hw
 have h1 : xs[i * 49]? = some (.int .u8 z) := by rw [← h0, e]; rfl
 have hf : flg xs i = z.toNat := by unfold flg; rw [h1]
 have hz2 : (flg xs i : Int) = z := by rw [hf]; omega
 rw [h0, h1, hz2]
 exact ⟨rfl, rfl, by omega⟩
def bigB (xs : List Value) (n : Nat) : Bool := (List.range n).any fun i => decide (4 ≤ flg xs i)
theorem bigB_false {xs : List Value} {n : Nat} (h : bigB xs n = false) : ∀ i, i < n → flg xs i ≤ 3 := by
 intro i hi
 simp only [bigB, List.any_eq_false, List.mem_range, decide_eq_true_eq] at h
 have := h i hi
 omega
theorem bigB_intro {xs : List Value} {n i : Nat} (hi : i < n) (h : 4 ≤ flg xs i) : bigB xs n = true := by
 simp only [bigB, List.any_eq_true, List.mem_range, decide_eq_true_eq]
 exact ⟨i, hi, h⟩
theorem bigB_none {xs : List Value} {n : Nat} (h : ∀ i, i < n → flg xs i ≤ 3) : bigB xs n = false := by
 simp only [bigB, List.any_eq_false, List.mem_range, decide_eq_true_eq]
 intro i hi
 have := h i hi
 omega
def ptsT (L : Lay) : Nat := if L.ty = 7 then 16 else 12
theorem ptsT_or (L : Lay) : ptsT L = 12 ∨ ptsT L = 16 := by unfold ptsT; split <;> simp
/-- the patch ahead of the i-th sheet -/
def tileB (pts : Nat) (xs : List Value) : Nat → List Value
 | 0 => zP
 | i + 1 => wholeC pts (flg xs i) (elem xs 49 i) (tileB pts xs i)
def tilesC (pts : Nat) (xs : List Value) : Nat → List Value
 | 0 => []
 | i + 1 => tilesC pts xs i ++ tileB pts xs (i + 1)
theorem tileB_ints {pts n : Nat} {xs : List Value} (hx : Ints (rep n sheetK) xs) (hp : pts = 12 ∨ pts = 16) (hb : ∀ i, i < n → flg xs i ≤ 3) : ∀ i, i ≤ n → Ints patchK (tileB pts xs i)
 | 0, _ => zP_ints
 | i + 1, h => whole_ints (hx.elem (by omega)) (tileB_ints hx hp hb i (by omega)) hp (hb i (by omega))
theorem rep_succR (n : Nat) (ks : List IntKind) : rep (n + 1) ks = rep n ks ++ ks := by rw [rep_add]; simp [rep]
theorem tilesC_ints {pts n : Nat} {xs : List Value} (hx : Ints (rep n sheetK) xs) (hp : pts = 12 ∨ pts = 16) (hb : ∀ i, i < n → flg xs i ≤ 3) : ∀ i, i ≤ n → Ints (rep i patchK) (tilesC pts xs i)
 | 0, _ => by show Ints (rep 0 patchK) []; simpa [rep] using Ints.nil
 | i + 1, h => by
  rw [rep_succR]
  exact (tilesC_ints hx hp hb i (by omega)).append (tileB_ints hx hp hb (i + 1) h)
def errT (L : Lay) (n : Nat) (xs : List Value) : Int :=
 if okB L = true ∧ 6 ≤ L.ty then (if 0 < n ∧ flg xs 0 ≠ 0 then 6 else if bigB xs n = true then 7 else 0) else 4
def cntT (L : Lay) (n : Nat) (xs : List Value) : Nat := if errT L n xs = 0 then n else 0
def outT (L : Lay) (n : Nat) (xs : List Value) : List Value := if errT L n xs = 0 then tilesC (ptsT L) xs n else []
theorem errT_zero {L : Lay} {n : Nat} {xs : List Value} (h : errT L n xs = 0) : okB L = true ∧ (L.ty = 6 ∨ L.ty = 7) ∧ (0 < n → flg xs 0 = 0) ∧ ∀ i, i < n → flg xs i ≤ 3 := by
  unfold errT at h
  split at h
  · rename_i h1
    split at h
    · cases h
    · rename_i h2
      split at h
      · cases h
      · rename_i h3
        obtain ⟨_, _, _, hty, _⟩ := okB_bounds h1.1
        exact ⟨h1.1, by omega, fun h0 => Classical.byContradiction fun hne => h2 ⟨h0, hne⟩, bigB_false (by simpa using h3)⟩
  · cases h
theorem outT_ints {L : Lay} {n : Nat} {xs : List Value} (hx : Ints (rep n sheetK) xs) : Ints (rep (cntT L n xs) patchK) (outT L n xs) := by
  unfold cntT outT
  by_cases h : errT L n xs = 0
  · rw [if_pos h, if_pos h]
    exact tilesC_ints hx (ptsT_or L) (errT_zero h).2.2.2 n (Nat.le_refl _)
  · rw [if_neg h, if_neg h]; simpa [rep] using Ints.nil
theorem big_spec (w0 : Base) (η : Heap) (s : List Value) (f : Nat) (hf : s[0]? = some (.int .u8 (f : Int))) (h2 : f ≤ 255) :
  CallsT Tryz.prog 122 [.agg s.toArray] (St w0 η) fun v A' => v = .bool (decide (4 ≤ f)) ∧ A' = St w0 η := by
 have hw : IntKind.i64.wrap (f : Int) = (f : Int) := wrap_i64 ⟨by omega, by omega⟩
 refine CallsT.body Tryz.func122 rfl rfl ?_
 simp only [Tryz.ntmps122, slotsOf, Nat.reduceAdd]
 refine Qe (Qg ?_)
 refine TL_e rfl rfl rfl (rfl) (ET_box rfl rfl) ?_
 rintro _ _ ⟨b1, rfl, rfl⟩
 refine Qa rfl rfl (Qd rfl rfl rfl) ?_
 refine Qf (Qb (Qe (Qg ?_)))
 refine Qa rfl rfl (Qh rfl rfl KF.fld_102_0 rfl) ?_
 refine Qa rfl rfl (Qj 0 rfl rfl Tryz.underlying5 rfl rfl rfl (fun _ => hf)) ?_
 refine Qa rfl rfl (QT_conv rfl rfl Tryz.underlying5 Tryz.underlying3 rfl) ?_
 refine Qa rfl rfl (QT_geq rfl rfl rfl rfl) ?_
 refine Qa rfl rfl (Qd rfl rfl rfl) ?_
 refine Qf (Qb ?_)
 refine Qu ?_
 exact Qs (.inl rfl) (res1 rfl rfl) ⟨_, ⟨by rw [hw]; congr 1; rw [Bool.eq_iff_iff]; simp; omega, rfl⟩, (fun _ h => by first | exact h | exact h.tail | exact h.tail.tail | exact h.tail.tail.tail | exact h.tail.tail.tail.tail | exact h.tail.tail.tail.tail.tail | exact h.tail.tail.tail.tail.tail.tail | exact h.tail.tail.tail.tail.tail.tail.tail | exact h.tail.tail.tail.tail.tail.tail.tail.tail | exact h.tail.tail.tail.tail.tail.tail.tail.tail.tail | exact h.tail.tail.tail.tail.tail.tail.tail.tail.tail.tail | exact h.tail.tail.tail.tail.tail.tail.tail.tail.tail.tail.tail | exact h.tail.tail.tail.tail.tail.tail.tail.tail.tail.tail.tail.tail | exact h.tail.tail.tail.tail.tail.tail.tail.tail.tail.tail.tail.tail.tail)⟩
theorem index_spec (w0 : Base) (η : Heap) (sv : Value) (n : Nat) (xs : List Value) (hs : SlA (St w0 η) sv 49 n xs) (hi : Ints (rep n sheetK) xs) :
    CallsT Tryz.prog 135 [sv, .func (.func 122) #[] #[]] (St w0 η) fun v A' => (∃ r : Int, v = .int .i64 r ∧ decide (0 ≤ r) = bigB xs n) ∧ A' = St w0 η := by
  obtain ⟨hl, ad, cap, b, off, rfl, hcap, had, hrd⟩ := hs.some
  refine CallsT.body Tryz.func135 rfl rfl ?_
  simp only [Tryz.ntmps135, slotsOf, Nat.reduceAdd]
  refine Qe (Qg ?_)
  refine Qa rfl rfl (Qd rfl rfl rfl) ?_
  refine Qf (Qb (Qe (Qe (Qg ?_))))
  refine Qa rfl rfl (Qc rfl rfl rfl) ?_
  refine Qa rfl rfl (Za rfl rfl Tryz.underlying32 rfl) ?_
  refine Qa rfl rfl (Qc rfl rfl rfl) ?_
  refine Qf (Qb (Qr ?_))
  refine TC_loop (γ := { i : Nat // i ≤ n ∧ ∀ j, j < i → flg xs j ≤ 3 }) (fun t => [(0, true, .slice ad n cap), (1, true, .func (.func 122) #[] #[]), (7, true, .int .i64 (n : Int)), (8, true, .int .i64 (t.1 : Int))]) (fun _ => St w0 η) (fun t => n - t.1) ⟨0, by omega, fun j h => by omega⟩ ⟨rfl, rfl, rfl, rfl, trivial⟩ (fun _ h => h) ?_
  rintro ⟨i, hin, hx⟩
  dsimp only
  refine Qe (Qg ?_)
  refine Qa rfl rfl (QT_lss rfl rfl rfl rfl) ?_
  refine Qf (Qb (Qe ?_))
  refine Qm rfl (fun h9 => ?_) (fun h9 => ?_)
  ·
    have hi' : i < n := by omega
    obtain ⟨hf1, hf2, hf3⟩ := flg_spec hi hi'
    obtain rfl := had (by omega)
    have hle : i * 49 + 49 ≤ xs.length := by rw [hl]; have : (i + 1) * 49 ≤ n * 49 := Nat.mul_le_mul_right _ hi'; omega
    refine Qt (Qb (Qe (Qr (Qe (Qg ?_)))))
    refine Qa rfl rfl (Qc rfl rfl rfl) ?_
    refine Qa rfl rfl (Qd rfl rfl rfl) ?_
    refine Qf (Qb (Qe (Qg ?_)))
    refine Qa rfl rfl (Qc rfl rfl rfl) ?_
    refine Qa rfl rfl (Qc rfl rfl rfl) ?_
    refine Qa rfl rfl (Qc rfl rfl rfl) ?_
    refine Qa rfl rfl (Qq (i) rfl rfl Tryz.underlying32 KF.sz_102 rfl rfl (rfl) (fun _ => hi')) ?_
    refine Qa rfl rfl (Qy (i * 49) rfl rfl Tryz.underlying102 rfl KF.sz_102 hrd rfl (fun _ => hle) (fun _ => rfl)) ?_
    refine TL_e rfl rfl rfl (rfl) (ET_callV rfl rfl KF.cal_122 rfl (big_spec w0 _ (elem xs 49 i) (flg xs i) hf2 hf3)) ?_
    rintro _ _ ⟨rfl, rfl⟩
    refine Qf (Qb ?_)
    refine Qm rfl (fun h16 => ?_) (fun h16 => ?_)
    ·
      refine Qe (Qg ?_)
      refine Qa rfl rfl (Qc rfl rfl rfl) ?_
      refine Qa rfl rfl (Qd rfl rfl rfl) ?_
      refine Qf (Qb ?_)
      refine Qu ?_
      refine Zc ?_
      refine Qn ?_
      refine Qn ?_
      refine Zc ?_
      refine Qn ?_
      exact Qs (.inl rfl) (res1 rfl rfl) ⟨_, ⟨⟨(i : Int), rfl, by rw [bigB_intro hi' h16]; simp⟩, rfl⟩, fun _ h => h⟩
    ·
      refine Qt ?_
      refine Qo ?_
      refine Qb (Qg ?_)
      refine Qa rfl rfl (Zb rfl rfl rfl rfl (fun _ => ⟨by omega, by omega⟩)) ?_
      refine Qa rfl rfl (Qc rfl rfl rfl) ?_
      refine Qf ?_
      exact TX_round ⟨i + 1, by omega, fun j hj => by
        by_cases h : j < i
        · exact hx j h
        · obtain rfl : j = i := by omega
          omega⟩ (by show n - (i + 1) < n - i; omega) ⟨rfl, rfl, rfl, rfl, trivial⟩ (fun _ h => h)
  ·
    refine Zd ?_
    refine Qi (Qi ?_)
    refine Qp ?_
    refine Qb (Qe (Qg ?_))
    refine Qa rfl rfl (Qd rfl rfl rfl) ?_
    refine Qf (Qb ?_)
    refine Qu ?_
    exact Qs (.inl rfl) (res1 rfl rfl) ⟨_, ⟨⟨-1, rfl, by rw [bigB_none (fun j hj => hx j (by omega))]; rfl⟩, rfl⟩, fun _ h => h⟩
theorem contains_spec (w0 : Base) (η : Heap) (sv : Value) (n : Nat) (xs : List Value) (hs : SlA (St w0 η) sv 49 n xs) (hi : Ints (rep n sheetK) xs) :
  CallsT Tryz.prog 121 [sv, .func (.func 122) #[] #[]] (St w0 η) fun v A' => v = .bool (bigB xs n) ∧ A' = St w0 η := by
 refine CallsT.body Tryz.func121 rfl rfl ?_
 simp only [Tryz.ntmps121, slotsOf, Nat.reduceAdd]
 refine Qe (Qg ?_)
 refine Qa rfl rfl (Qd rfl rfl rfl) ?_
 refine Qf (Qb (Qe (Qg ?_)))
 refine Qa rfl rfl (Qc rfl rfl rfl) ?_
 refine Qa rfl rfl (Qc rfl rfl rfl) ?_
 refine TL_e rfl rfl rfl (rfl) (ET_call rfl KF.cal_135 rfl (index_spec w0 _ sv n xs hs hi)) ?_
 rintro _ _ ⟨⟨r, rfl, hr⟩, rfl⟩
 refine Qa rfl rfl (QT_geq rfl rfl rfl rfl) ?_
 refine Qa rfl rfl (Qd rfl rfl rfl) ?_
 refine Qf (Qb ?_)
 refine Qu ?_
 exact Qs (.inl rfl) (res1 rfl rfl) ⟨_, ⟨by rw [← hr], rfl⟩, fun _ h => h⟩
theorem clip_spec (w0 : Base) (η H : Heap) (v : Value) (n : Nat) (xs : List Value) (hF : Frag 112 48 v n xs H) :
    CallsT Tryz.prog 124 [v] (St w0 (H ++ η)) fun v A' => Frag 112 48 v n xs H ∧ A' = St w0 (H ++ η) := by
  obtain ⟨hl, hF⟩ := hF
  rcases hF with ⟨rfl, rfl, rfl⟩ | ⟨b, cap, rest, rfl, hc, hlen, rfl⟩
  · refine CallsT.body Tryz.func124 rfl rfl ?_
    simp only [Tryz.ntmps124, slotsOf, Nat.reduceAdd]
    refine Qe (Qg ?_)
    refine Qa rfl rfl (Qd rfl rfl rfl) ?_
    refine Qf (Qb (Qe (Qg ?_)))
    refine Qa rfl rfl (Qc rfl rfl rfl) ?_
    refine Qa rfl rfl (Qc rfl rfl rfl) ?_
    refine Qa rfl rfl (Za rfl rfl Tryz.underlying62 rfl) ?_
    refine Qa rfl rfl (Qc rfl rfl rfl) ?_
    refine Qa rfl rfl (Za rfl rfl Tryz.underlying62 rfl) ?_
    refine Qa rfl rfl (QT_slcHM (0) (0) rfl rfl rfl Tryz.underlying62 KF.sz_112 rfl rfl rfl rfl rfl (fun _ => ⟨by omega, by omega⟩)) ?_
    refine Qa rfl rfl (Qd rfl rfl rfl) ?_
    refine Qf (Qb ?_)
    refine Qu ?_
    exact Qs (.inl rfl) (res1 rfl rfl) ⟨_, ⟨⟨hl, .inl ⟨rfl, rfl, rfl⟩⟩, rfl⟩, fun _ h => h⟩
  · refine CallsT.body Tryz.func124 rfl rfl ?_
    simp only [Tryz.ntmps124, slotsOf, Nat.reduceAdd]
    refine Qe (Qg ?_)
    refine Qa rfl rfl (Qd rfl rfl rfl) ?_
    refine Qf (Qb (Qe (Qg ?_)))
    refine Qa rfl rfl (Qc rfl rfl rfl) ?_
    refine Qa rfl rfl (Qc rfl rfl rfl) ?_
    refine Qa rfl rfl (Za rfl rfl Tryz.underlying62 rfl) ?_
    refine Qa rfl rfl (Qc rfl rfl rfl) ?_
    refine Qa rfl rfl (Za rfl rfl Tryz.underlying62 rfl) ?_
    refine Qa rfl rfl (QT_slcHM (n) (n) rfl rfl rfl Tryz.underlying62 KF.sz_112 rfl rfl rfl rfl rfl (fun _ => ⟨by omega, by omega⟩)) ?_
    refine Qa rfl rfl (Qd rfl rfl rfl) ?_
    refine Qf (Qb ?_)
    refine Qu ?_
    exact Qs (.inl rfl) (res1 rfl rfl) ⟨_, ⟨⟨hl, .inr ⟨b, n, rest, rfl, ⟨Nat.le_refl _, by omega⟩, Nat.le_trans (Nat.mul_le_mul_right _ hc.1) hlen, rfl⟩⟩, rfl⟩, fun _ h => h⟩
theorem e4 {L : Lay} {n : Nat} {xs : List Value} (h : (decide (errOf L ≠ 0) || decide (L.ty < 6)) = true) : errT L n xs = 4 := by
 unfold errT
 rw [if_neg]
 rintro ⟨h1, h2⟩
 simp only [errOf, h1, if_true, ne_eq, not_true, decide_false, Bool.false_or, decide_eq_true_eq] at h
 omega
theorem e4' {L : Lay} (h : (decide (errOf L ≠ 0) || decide (L.ty < 6)) = false) : okB L = true ∧ 6 ≤ L.ty := by
 simp only [Bool.or_eq_false_iff, decide_eq_false_iff_not] at h
 refine ⟨Classical.byContradiction fun hn => h.1 ?_, by omega⟩
 unfold errOf; rw [if_neg hn]; decide
theorem e6 {L : Lay} {n : Nat} {xs : List Value} (h1 : okB L = true ∧ 6 ≤ L.ty) (h : (decide ((0 : Int) < (n : Int)) && decide ((flg xs 0 : Int) ≠ 0)) = true) : errT L n xs = 6 := by
 simp only [Bool.and_eq_true, decide_eq_true_eq] at h
 unfold errT
 rw [if_pos h1, if_pos ⟨by omega, by omega⟩]
theorem e6' {n : Nat} {xs : List Value} (h : (decide ((0 : Int) < (n : Int)) && decide ((flg xs 0 : Int) ≠ 0)) = false) : ¬ (0 < n ∧ flg xs 0 ≠ 0) := by
 rintro ⟨a, b⟩
 simp only [Bool.and_eq_false_iff, decide_eq_false_iff_not] at h
 omega
theorem fragErr {L : Lay} {n : Nat} {xs : List Value} {e : Int} (h : errT L n xs = e) (h0 : e ≠ 0) : Frag 112 48 (.slice none 0 0) (cntT L n xs) (outT L n xs) [] := by
 unfold cntT outT
 rw [if_neg (by rw [h]; exact h0), if_neg (by rw [h]; exact h0)]
 exact Frag.nil _ _
theorem of_spec (w0 : Base) (η : Heap) (hG : Sets w0) (hE : Edges w0) (L : Lay) (sv : Value) (n : Nat) (xs : List Value) (hs : SlA (St w0 η) sv 49 n xs) (hi : Ints (rep n sheetK) xs) (hn : n * 160 ≤ 140737488355328) :
  CallsT Tryz.prog 82 [L.val, sv] (St w0 η) fun v A' => ∃ pv H, v = .tuple #[pv, .int .i64 (errT L n xs)] ∧ Frag 112 48 pv (cntT L n xs) (outT L n xs) H ∧ A' = St w0 (H ++ η) := by
 obtain ⟨hl, ad, cap, b, off, rfl, hcap, had, hrd⟩ := hs.some
 refine CallsT.body Tryz.func82 rfl rfl ?_
 simp only [Tryz.ntmps82, slotsOf, Nat.reduceAdd]
 refine Qe (Qg ?_)
 refine TL_e rfl rfl rfl (rfl) (ET_box rfl rfl) ?_
 rintro _ _ ⟨b2, rfl, rfl⟩
 refine Qa rfl rfl (Qd rfl rfl rfl) ?_
 refine Qa rfl rfl (Qd rfl rfl rfl) ?_
 refine Qf (Qb (Qe (Qr (Qe (Qg ?_)))))
 refine Qa rfl rfl (Ql 0 rfl rfl Tryz.underlying27 rfl rfl rfl KF.sz_27) ?_
 refine TL_cq rfl rfl rfl rfl KF.cal_26 rfl (fun _ => check_spec w0 _ hG L) ?_
 refine Qa rfl rfl (QT_neq rfl rfl rfl rfl) ?_
 refine Qa rfl rfl (Qc rfl rfl rfl) ?_
 refine Qa rfl rfl (Qh rfl rfl KF.fld_27_0 rfl) ?_
 refine Qa rfl rfl (Qj 0 rfl rfl Tryz.underlying3 rfl rfl rfl (fun _ => rfl)) ?_
 refine Qa rfl rfl (QT_lss rfl rfl rfl rfl) ?_
 refine Qa rfl rfl (QT_or rfl rfl rfl rfl) ?_
 refine Qa rfl rfl (Qd rfl rfl rfl) ?_
 refine Qf (Qb ?_)
 refine TC_cond rfl (fun h11 => ?_) (fun h11 => ?_)
 ·
  refine Qe (Qg ?_)
  refine Qa rfl rfl (Qd rfl rfl rfl) ?_
  refine Qa rfl rfl (Qd rfl rfl rfl) ?_
  refine Qf (Qb ?_)
  refine Qu ?_
  refine Zc ?_
  refine Qn ?_
  exact Qs (.inl rfl) (res2 rfl rfl rfl) ⟨_, ⟨_, [], by rw [e4 h11], fragErr (e4 h11) (by decide), rfl⟩, (fun _ h => by first | exact h | exact h.tail | exact h.tail.tail | exact h.tail.tail.tail | exact h.tail.tail.tail.tail | exact h.tail.tail.tail.tail.tail | exact h.tail.tail.tail.tail.tail.tail | exact h.tail.tail.tail.tail.tail.tail.tail | exact h.tail.tail.tail.tail.tail.tail.tail.tail | exact h.tail.tail.tail.tail.tail.tail.tail.tail.tail | exact h.tail.tail.tail.tail.tail.tail.tail.tail.tail.tail | exact h.tail.tail.tail.tail.tail.tail.tail.tail.tail.tail.tail | exact h.tail.tail.tail.tail.tail.tail.tail.tail.tail.tail.tail.tail | exact h.tail.tail.tail.tail.tail.tail.tail.tail.tail.tail.tail.tail.tail)⟩
 ·
  refine Qe (Qg ?_)
  refine Qa rfl rfl (Qc rfl rfl rfl) ?_
  refine Qa rfl rfl (Za rfl rfl Tryz.underlying32 rfl) ?_
  refine Qa rfl rfl (QT_gtr rfl rfl rfl rfl) ?_
  refine Qa rfl rfl (Qc rfl rfl rfl) ?_
  refine Qa rfl rfl (Qc rfl rfl rfl) ?_
  refine Qa rfl rfl (QT_indexG 0 rfl rfl Tryz.underlying32 KF.sz_102 rfl rfl rfl (fun h => by simpa using h) (fun h => had (by simpa using h))) ?_
  refine Qa rfl rfl (Qh rfl rfl KF.fld_102_0 rfl) ?_
  refine Qa rfl rfl (Qw (0 * 49) rfl rfl Tryz.underlying5 rfl (hrd.mono fun _ h => h.tail) rfl (fun h => (flg_spec hi (by simpa using h)).1)) ?_
  refine Qa rfl rfl (QT_neq rfl rfl rfl rfl) ?_
  refine Qa rfl rfl (QT_and rfl rfl rfl rfl) ?_
  refine Qa rfl rfl (Qd rfl rfl rfl) ?_
  refine Qf (Qb ?_)
  refine TC_cond rfl (fun h20 => ?_) (fun h20 => ?_)
  ·
   refine Qe (Qg ?_)
   refine Qa rfl rfl (Qd rfl rfl rfl) ?_
   refine Qa rfl rfl (Qd rfl rfl rfl) ?_
   refine Qf (Qb ?_)
   refine Qu ?_
   refine Zc ?_
   refine Qn ?_
   exact Qs (.inl rfl) (res2 rfl rfl rfl) ⟨_, ⟨_, [], by rw [e6 (e4' h11) h20], fragErr (e6 (e4' h11) h20) (by decide), rfl⟩, (fun _ h => by first | exact h | exact h.tail | exact h.tail.tail | exact h.tail.tail.tail | exact h.tail.tail.tail.tail | exact h.tail.tail.tail.tail.tail | exact h.tail.tail.tail.tail.tail.tail | exact h.tail.tail.tail.tail.tail.tail.tail | exact h.tail.tail.tail.tail.tail.tail.tail.tail | exact h.tail.tail.tail.tail.tail.tail.tail.tail.tail | exact h.tail.tail.tail.tail.tail.tail.tail.tail.tail.tail | exact h.tail.tail.tail.tail.tail.tail.tail.tail.tail.tail.tail | exact h.tail.tail.tail.tail.tail.tail.tail.tail.tail.tail.tail.tail | exact h.tail.tail.tail.tail.tail.tail.tail.tail.tail.tail.tail.tail.tail)⟩
  ·
   refine Qe (Qg ?_)
   refine Qa rfl rfl (Qc rfl rfl rfl) ?_
   refine TL_cq rfl rfl rfl rfl KF.cal_121 rfl (fun _ => contains_spec w0 _ _ n xs hs.tail hi) ?_
   refine Qa rfl rfl (Qd rfl rfl rfl) ?_
   refine Qf (Qb ?_)
   refine TC_cond rfl (fun h31 => ?_) (fun h31 => ?_)
   ·
    refine Qe (Qg ?_)
    refine Qa rfl rfl (Qd rfl rfl rfl) ?_
    refine Qa rfl rfl (Qd rfl rfl rfl) ?_
    refine Qf (Qb ?_)
    refine Qu ?_
    refine Zc ?_
    refine Qn ?_
    have e7 : errT L n xs = 7 := by unfold errT; rw [if_pos (e4' h11), if_neg (e6' h20), if_pos h31]
    exact Qs (.inl rfl) (res2 rfl rfl rfl) ⟨_, ⟨_, [], by rw [e7], fragErr e7 (by decide), rfl⟩, (fun _ h => by first | exact h | exact h.tail | exact h.tail.tail | exact h.tail.tail.tail | exact h.tail.tail.tail.tail | exact h.tail.tail.tail.tail.tail | exact h.tail.tail.tail.tail.tail.tail | exact h.tail.tail.tail.tail.tail.tail.tail | exact h.tail.tail.tail.tail.tail.tail.tail.tail | exact h.tail.tail.tail.tail.tail.tail.tail.tail.tail | exact h.tail.tail.tail.tail.tail.tail.tail.tail.tail.tail | exact h.tail.tail.tail.tail.tail.tail.tail.tail.tail.tail.tail | exact h.tail.tail.tail.tail.tail.tail.tail.tail.tail.tail.tail.tail | exact h.tail.tail.tail.tail.tail.tail.tail.tail.tail.tail.tail.tail.tail)⟩
   ·
    refine Qt ?_
    refine Qo ?_
    refine Qb (Qe ?_)
    have e0 : errT L n xs = 0 := by unfold errT; rw [if_pos (e4' h11), if_neg (e6' h20), if_neg (by rw [h31]; decide)]
    refine Qg ?_
    refine Qa rfl rfl (Qd rfl rfl rfl) ?_
    refine Qf (Qb ?_)
    refine TC_cut (γ := Unit) (fun _ => [(1, true, .slice ad n cap), (6, true, .int .i64 ((ptsT L : Nat) : Int))]) (fun _ => St w0 ((b2, 27, L.cells) :: η)) ?_ ?_
    ·
     refine Qe (Qg ?_)
     refine Qa rfl rfl (Qh rfl rfl KF.fld_27_0 rfl) ?_
     refine Qa rfl rfl (Qj 0 rfl rfl Tryz.underlying3 rfl rfl rfl (fun _ => rfl)) ?_
     refine Qa rfl rfl (QT_eql rfl rfl rfl rfl) ?_
     refine Qf (Qb ?_)
     refine Qm rfl (fun h36 => ?_) (fun h36 => ?_)
     ·
      refine Qg ?_
      refine Qa rfl rfl (Qd rfl rfl rfl) ?_
      refine Qf ?_
      exact TX_cut () ⟨rfl, slotI rfl (by unfold ptsT; rw [if_pos h36]; rfl), trivial⟩ (fun _ h => h)
     ·
      refine Qt ?_
      exact TX_cut () ⟨rfl, slotI rfl (by unfold ptsT; rw [if_neg h36]; rfl), trivial⟩ (fun _ h => h)
    rintro ⟨⟩
    have hbf := (errT_zero e0).2.2.2
    refine Qe (Qg ?_)
    refine Qa rfl rfl (Qd rfl rfl rfl) ?_
    refine Qf (Qb (Qe (Qg ?_)))
    refine TL_e rfl rfl rfl (rfl) (ET_alloc rfl KF.zero_112) ?_
    rintro _ _ ⟨b8, rfl, rfl⟩
    refine Qf (Qb (Qe (Qe (Qg ?_))))
    refine Qa rfl rfl (Qc rfl rfl rfl) ?_
    refine Qa rfl rfl (Za rfl rfl Tryz.underlying32 rfl) ?_
    refine Qa rfl rfl (Qc rfl rfl rfl) ?_
    refine Qf (Qb (Qr ?_))
    refine TC_loop (γ := { t : Nat × Value × Heap // t.1 ≤ n ∧ Frag 112 48 t.2.1 t.1 (tilesC (ptsT L) xs t.1) t.2.2 }) (fun t => [(6, true, .int .i64 ((ptsT L : Nat) : Int)), (7, true, t.1.2.1), (8, true, .pointer (some ⟨b8, 0, none⟩)), (37, true, .slice ad n cap), (38, true, .int .i64 (n : Int)), (39, true, .int .i64 (t.1.1 : Int))]) (fun t => St w0 ((b8, 112, tileB (ptsT L) xs t.1.1) :: (t.1.2.2 ++ η))) (fun t => n - t.1.1) ⟨(0, .slice none 0 0, []), Nat.zero_le _, Frag.nil _ _⟩ ⟨rfl, rfl, rfl, rfl, rfl, rfl, trivial⟩ (fun _ h => (St.swap h).tail) ?_
    rintro ⟨⟨i, fv, H⟩, hin, hF⟩
    dsimp only at hin hF ⊢
    refine Qe (Qg ?_)
    refine Qa rfl rfl (QT_lss rfl rfl rfl rfl) ?_
    refine Qf (Qb (Qe ?_))
    refine Qm rfl (fun h40 => ?_) (fun h40 => ?_)
    ·
     have hi' : i < n := by omega
     obtain ⟨hf1, hf2, hf3⟩ := flg_spec hi hi'
     obtain rfl := had (by omega)
     have hle : i * 49 + 49 ≤ xs.length := by rw [hl]; have : (i + 1) * 49 ≤ n * 49 := Nat.mul_le_mul_right _ hi'; omega
     have hei : Ints sheetK (elem xs 49 i) := hi.elem hi'
     have hti := tileB_ints hi (ptsT_or L) hbf i hin
     have hwi : Ints patchK (wholeC (ptsT L) (flg xs i) (elem xs 49 i) (tileB (ptsT L) xs i)) := tileB_ints hi (ptsT_or L) hbf (i + 1) hi'
     have hels : (elem xs 49 i).length = 49 := hei.length
     have htls : (tileB (ptsT L) xs i).length = 48 := hti.length
     have hwls : (wholeC (ptsT L) (flg xs i) (elem xs 49 i) (tileB (ptsT L) xs i)).length = 48 := hwi.length
     have hzs : Sz Tryz.prog 102 (elem xs 49 i).length := by rw [hels]; exact KF.sz_102
     have hzt : Sz Tryz.prog 112 (tileB (ptsT L) xs i).length := by rw [htls]; exact KF.sz_112
     have hzw : Sz Tryz.prog 112 (wholeC (ptsT L) (flg xs i) (elem xs 49 i) (tileB (ptsT L) xs i)).length := by rw [hwls]; exact KF.sz_112
     refine Qt (Qb (Qe (Qr (Qe (Qg ?_)))))
     refine Qa rfl rfl (Qq (i) rfl rfl Tryz.underlying32 KF.sz_102 rfl rfl (rfl) (fun _ => hi')) ?_
     refine Qa rfl rfl (Qy (out := elem xs 49 i) (i * 49) rfl rfl Tryz.underlying102 rfl KF.sz_102 (hrd.mono fun _ h => h.tail.app_right) rfl (fun _ => hle) (fun _ => rfl)) ?_
     refine TL_e rfl rfl rfl (rfl) (ET_alloc rfl KF.zero_102) ?_
     rintro _ _ ⟨b10, rfl, rfl⟩
     refine TL_e0 rfl rfl (rfl) (ET_storeW (vs := elem xs 49 i) 0 rfl rfl rfl hzs rfl (List.all_eq_true.2 hei.oneCell) (by rw [hels]; rfl)) ?_
     rintro _ _ ⟨rfl, rfl⟩
     refine Qf (Qb (Qe (Qg ?_)))
     refine Qa rfl rfl (Ql (cs := elem xs 49 i) 0 rfl rfl Tryz.underlying102 rfl rfl rfl hzs) ?_
     refine Qa rfl rfl (Ql 1 rfl rfl Tryz.underlying112 rfl rfl rfl hzt) ?_
     refine Qa rfl rfl (Qc rfl rfl rfl) ?_
     refine TL_e rfl rfl rfl (rfl) (ET_call rfl KF.cal_123 rfl (whole_spec w0 _ hE (elem xs 49 i) (tileB (ptsT L) xs i) (ptsT L) (flg xs i) hei hti (ptsT_or L) hf2 (hbf i hi'))) ?_
     rintro _ _ ⟨rfl, rfl⟩
     refine TL_e0 rfl rfl (rfl) (ET_storeW (vs := wholeC (ptsT L) (flg xs i) (elem xs 49 i) (tileB (ptsT L) xs i)) 1 rfl rfl rfl hzw rfl (List.all_eq_true.2 hwi.oneCell) (by rw [hwls, htls]; rfl)) ?_
     rintro _ _ ⟨rfl, rfl⟩
     refine Qf (Qb (Qg ?_))
     refine Qa rfl rfl (Qc rfl rfl rfl) ?_
     refine Qa rfl rfl (Ql (cs := wholeC (ptsT L) (flg xs i) (elem xs 49 i) (tileB (ptsT L) xs i)) 1 rfl rfl Tryz.underlying112 rfl rfl rfl hzw) ?_
     refine TL_e rfl rfl rfl (rfl) (ET_buildN [_] rfl Tryz.underlying62 KF.sz_112 KF.zero_112 rfl rfl rfl (fun v hv => by cases List.mem_singleton.1 hv; exact hwls)) ?_
     rintro _ _ ⟨b49, rfl, rfl⟩
     refine TL_e rfl rfl rfl (rfl) (ET_appendL (L := [_, _, _]) rfl Tryz.underlying62 el_Patch rfl rfl hF (fun _ h => h) (SlA.own (n := 1) (xs := wholeC (ptsT L) (flg xs i) (elem xs 49 i) (tileB (ptsT L) xs i)) 0 rfl (by rw [List.drop_zero, List.take_of_length_le (by simp [Value.cells, hwls])]; simp [Value.cells]) (by simp [Value.cells, hwls]) (by omega)) hwi.oneCell (by omega) (by omega)) ?_
     rintro fv2 _ ⟨H', hF', rfl⟩
     refine Qa rfl rfl (Qd rfl rfl rfl) ?_
     refine Qf ?_
     refine Qo ?_
     refine Qb (Qg ?_)
     refine Qa rfl rfl (Zb rfl rfl rfl rfl (fun _ => ⟨by omega, by omega⟩)) ?_
     refine Qa rfl rfl (Qc rfl rfl rfl) ?_
     refine Qf ?_
     exact TX_round ⟨(i + 1, fv2, H'), hi', hF'⟩ (by show n - (i + 1) < n - i; omega) ⟨rfl, rfl, rfl, rfl, rfl, rfl, trivial⟩ (fun _ h => h.tail.tail)
    ·
     refine Zd ?_
     refine Qi (Qi ?_)
     refine Qp ?_
     refine Qb (Qe (Qg ?_))
     refine Qa rfl rfl (Qc rfl rfl rfl) ?_
     refine TL_A (St w0 (H ++ η)) (fun _ h => h.tail) ?_
     refine TL_e rfl rfl rfl (rfl) (ET_call rfl KF.cal_124 rfl (clip_spec w0 η H fv i _ hF)) ?_
     rintro cv _ ⟨hF2, rfl⟩
     refine Qa rfl rfl (Qd rfl rfl rfl) ?_
     refine Qa rfl rfl (Qd rfl rfl rfl) ?_
     refine Qf (Qb ?_)
     refine Qu ?_
     obtain rfl : i = n := by omega
     exact Qs (.inl rfl) (res2 rfl rfl rfl) ⟨_, ⟨cv, H, by rw [e0], by unfold cntT outT; rw [if_pos e0, if_pos e0]; exact hF2, rfl⟩, fun _ h => h⟩
end Go.Proofs.YtjdaglmkljbfkaaGreatDoor.T12
namespace Go.Proofs.YtjdaglmkljbfkaaGreatDoor.T12
open Go Go.Gx Go.RowKit
set_option maxRecDepth 100000
def startP (ah : List Value) (f : Nat) : List Value := if f = 0 then zP else colTo ah f 2
def atN (f : Nat) : Nat := if f = 0 then 0 else 4
def hvN (f : Nat) : Nat := if f = 0 then 0 else 2
def npN (pts f : Nat) : Nat := if f = 0 then pts else pts - 4
def ncN (f : Nat) : Nat := if f = 0 then 4 else 2
def rP (s p0 : List Value) (a : Nat) : Nat → List Value
 | 0 => p0
 | k + 1 => setAt (rP s p0 a k) (0 + 0 + (a + k) * 2) ((s.drop (1 + k * 2)).take 2)
def rC (s p0 : List Value) (a : Nat) : Nat → List Value
 | 0 => p0
 | k + 1 => setAt (rC s p0 a k) (0 + 32 + (a + k) * 4) ((s.drop (33 + k * 4)).take 4)
theorem rP_len (s p0 : List Value) (a : Nat) : ∀ k, (rP s p0 a k).length = p0.length
 | 0 => rfl
 | k + 1 => by rw [rP, setAt_length, rP_len s p0 a k]
theorem rC_len (s p0 : List Value) (a : Nat) : ∀ k, (rC s p0 a k).length = p0.length
 | 0 => rfl
 | k + 1 => by rw [rC, setAt_length, rC_len s p0 a k]
theorem startP_len (ah : List Value) (f : Nat) : (startP ah f).length = 48 := by unfold startP; split; rfl; exact colTo_len ah f 2
theorem ref_eq {pts f : Nat} {s ah : List Value} (hs : s.length = 49) (ha : ah.length = 48) (hp : pts = 12 ∨ pts = 16) (hf : f = 0 ∨ f = 1 ∨ f = 2 ∨ f = 3) :
  rC s (rP s (startP ah f) (atN f) (npN pts f)) (hvN f) (ncN f) = wholeC pts f s ah := by
 obtain ⟨g, rfl⟩ := tab' (.bool false) s hs
 obtain ⟨h, rfl⟩ := tab' (.bool false) ah ha
 rcases hp with rfl | rfl <;> rcases hf with rfl | rfl | rfl | rfl <;> kernel_rfl
theorem pts_eq {L : Lay} {f : Nat} (h : L.ty = 6 ∨ L.ty = 7) : ptsZ L (f : Int) = ((npN (ptsT L) f : Nat) : Int) := by
 unfold ptsZ npN ptsT
 rcases h with h | h <;> rw [h] <;> by_cases hf : f = 0 <;> simp [hf]
theorem col_eq {L : Lay} {f : Nat} (h : L.ty = 6 ∨ L.ty = 7) : colZ L (f : Int) = ((ncN f : Nat) : Int) := by
 unfold colZ ncN
 rcases h with h | h <;> rw [h] <;> by_cases hf : f = 0 <;> simp [hf]
theorem npN_bd {pts f : Nat} (h : pts = 12 ∨ pts = 16) : atN f + npN pts f = pts := by unfold atN npN; split <;> omega
theorem ncN_bd (f : Nat) : hvN f + ncN f = 4 := by unfold hvN ncN; split <;> omega
theorem elem_part (xs : List Value) (i o m : Nat) (h : o + m ≤ 49) : (xs.drop (i * 49 + o)).take m = ((elem xs 49 i).drop o).take m := by
 unfold elem
 rw [List.drop_take, List.drop_drop, List.take_take, Nat.min_eq_left (by omega)]
theorem e4r {L : Lay} {n : Nat} {xs : List Value} (h : (decide (errOf L ≠ 0) || (decide (L.ty ≠ 6) && decide (L.ty ≠ 7))) = true) : errT L n xs = 4 := by
  refine e4 ?_
  by_cases h0 : okB L = true
  · obtain ⟨_, _, _, hty, _⟩ := okB_bounds h0
    simp only [errOf, h0, if_true, ne_eq, not_true, decide_false, Bool.false_or, Bool.and_eq_true, decide_eq_true_eq] at h ⊢
    omega
  · simp [errOf, h0]
theorem e4r' {L : Lay} (h : (decide (errOf L ≠ 0) || (decide (L.ty ≠ 6) && decide (L.ty ≠ 7))) = false) : okB L = true ∧ 6 ≤ L.ty ∧ (L.ty = 6 ∨ L.ty = 7) := by
 simp only [Bool.or_eq_false_iff, Bool.and_eq_false_iff, decide_eq_false_iff_not, ne_eq, Classical.not_not] at h
 refine ⟨Classical.byContradiction fun hn => ?_, by omega, by omega⟩
 have := h.1
 unfold errOf at this
 rw [if_neg hn] at this
 exact absurd this (by decide)
theorem rof_spec (w0 : Base) (η : Heap) (L : Lay) (sv : Value) (n : Nat) (xs : List Value) (hs : SlA (St w0 η) sv 49 n xs) (hi : Ints (rep n sheetK) xs) (hn : n * 160 ≤ 140737488355328) :
    CallsT Tryz.prog 84 [L.val, sv] (St w0 η) fun v A' => ∃ pv H, v = .tuple #[pv, .int .i64 (errT L n xs)] ∧ Frag 112 48 pv (cntT L n xs) (outT L n xs) H ∧ A' = St w0 (H ++ η) := by
  obtain ⟨hl, ad, cap, b, off, rfl, hcap, had, hrd⟩ := hs.some
  refine CallsT.body Tryz.func84 rfl rfl ?_
  simp only [Tryz.ntmps84, slotsOf, Nat.reduceAdd]
  refine Qe (Qg ?_)
  refine TL_e rfl rfl rfl (rfl) (ET_box rfl rfl) ?_
  rintro _ _ ⟨b2, rfl, rfl⟩
  refine Qa rfl rfl (Qd rfl rfl rfl) ?_
  refine Qa rfl rfl (Qd rfl rfl rfl) ?_
  refine Qf (Qb (Qe (Qe (Qg ?_))))
  refine Qa rfl rfl (Ql 0 rfl rfl Tryz.underlying27 rfl rfl rfl KF.sz_27) ?_
  refine TL_cq rfl rfl rfl rfl KF.cal_28 rfl (fun _ => rcheck_spec w0 _ L) ?_
  refine Qa rfl rfl (QT_neq rfl rfl rfl rfl) ?_
  refine Qa rfl rfl (Qc rfl rfl rfl) ?_
  refine Qa rfl rfl (Qh rfl rfl KF.fld_27_0 rfl) ?_
  refine Qa rfl rfl (Qj 0 rfl rfl Tryz.underlying3 rfl rfl rfl (fun _ => rfl)) ?_
  refine Qa rfl rfl (QT_neq rfl rfl rfl rfl) ?_
  refine Qa rfl rfl (Qc rfl rfl rfl) ?_
  refine Qa rfl rfl (Qh rfl rfl KF.fld_27_0 rfl) ?_
  refine Qa rfl rfl (Qj 0 rfl rfl Tryz.underlying3 rfl rfl rfl (fun _ => rfl)) ?_
  refine Qa rfl rfl (QT_neq rfl rfl rfl rfl) ?_
  refine Qa rfl rfl (QT_and rfl rfl rfl rfl) ?_
  refine Qa rfl rfl (QT_or rfl rfl rfl rfl) ?_
  refine Qf (Qb ?_)
  refine TC_cond rfl (fun h30 => ?_) (fun h30 => ?_)
  ·
    refine Qe (Qg ?_)
    refine Qa rfl rfl (Qd rfl rfl rfl) ?_
    refine Qa rfl rfl (Qd rfl rfl rfl) ?_
    refine Qf (Qb ?_)
    refine Qu ?_
    refine Qn ?_
    exact Qs (.inl rfl) (res2 rfl rfl rfl) ⟨_, ⟨_, [], by rw [e4r h30], fragErr (e4r h30) (by decide), rfl⟩, (fun _ h => by first | exact h | exact h.tail | exact h.tail.tail | exact h.tail.tail.tail | exact h.tail.tail.tail.tail | exact h.tail.tail.tail.tail.tail | exact h.tail.tail.tail.tail.tail.tail | exact h.tail.tail.tail.tail.tail.tail.tail | exact h.tail.tail.tail.tail.tail.tail.tail.tail | exact h.tail.tail.tail.tail.tail.tail.tail.tail.tail | exact h.tail.tail.tail.tail.tail.tail.tail.tail.tail.tail | exact h.tail.tail.tail.tail.tail.tail.tail.tail.tail.tail.tail | exact h.tail.tail.tail.tail.tail.tail.tail.tail.tail.tail.tail.tail | exact h.tail.tail.tail.tail.tail.tail.tail.tail.tail.tail.tail.tail.tail)⟩
  ·
    refine Qt (Qb (Qe ?_))
    obtain ⟨hok, h6, hty⟩ := e4r' h30
    refine Qg ?_
    refine Qa rfl rfl (Qd rfl rfl rfl) ?_
    refine Qf (Qb (Qe (Qe (Qg ?_))))
    refine Qa rfl rfl (Qd rfl rfl rfl) ?_
    refine Qf (Qb (Qr ?_))
    refine TC_loop (γ := { t : Nat × Value × Heap // t.1 ≤ n ∧ (∀ j, j < t.1 → flg xs j ≤ 3) ∧ (0 < t.1 → flg xs 0 = 0) ∧ Frag 112 48 t.2.1 t.1 (tilesC (ptsT L) xs t.1) t.2.2 }) (fun t => [(1, true, .slice ad n cap), (2, true, .pointer (some ⟨b2, 0, none⟩)), (6, true, t.1.2.1), (7, true, .int .i64 (t.1.1 : Int))]) (fun t => St w0 ((b2, 27, L.cells) :: (t.1.2.2 ++ η))) (fun t => n - t.1.1) ⟨(0, .slice none 0 0, []), Nat.zero_le _, fun j h => absurd h (Nat.not_lt_zero j), fun h => absurd h (Nat.lt_irrefl 0), Frag.nil _ _⟩ ⟨rfl, rfl, rfl, rfl, trivial⟩ (fun _ h => h) ?_
    rintro ⟨⟨i, fv, H⟩, hin, hbf, hz, hF⟩
    dsimp only at hin hbf hz hF ⊢
    refine Qe (Qe (Qg ?_))
    refine Qa rfl rfl (Qc rfl rfl rfl) ?_
    refine Qa rfl rfl (Qc rfl rfl rfl) ?_
    refine Qa rfl rfl (Za rfl rfl Tryz.underlying32 rfl) ?_
    refine Qa rfl rfl (QT_lss rfl rfl rfl rfl) ?_
    refine Qf (Qb ?_)
    refine Qm rfl (fun h34 => ?_) (fun h34 => ?_)
    ·
      have hi' : i < n := by omega
      obtain ⟨hf1, hf2, hf3⟩ := flg_spec hi hi'
      obtain rfl := had (by omega)
      have hle : i * 49 + 49 ≤ xs.length := by rw [hl]; have : (i + 1) * 49 ≤ n * 49 := Nat.mul_le_mul_right _ hi'; omega
      have hR : ∀ X : Heap, Rd (St w0 (X ++ η)) b off xs := fun X => hrd.mono fun _ h => h.app_right
      refine Qt (Qb (Qe (Qr (Qe (Qe (Qg ?_))))))
      refine Qa rfl rfl (Qc rfl rfl rfl) ?_
      refine Qa rfl rfl (QT_eql rfl rfl rfl rfl) ?_
      refine Qa rfl rfl (Qc rfl rfl rfl) ?_
      refine Qa rfl rfl (Qc rfl rfl rfl) ?_
      refine Qa rfl rfl (Qc rfl rfl rfl) ?_
      refine Qa rfl rfl (Qq (i) rfl rfl Tryz.underlying32 KF.sz_102 rfl rfl (rfl) (fun _ => hi')) ?_
      refine Qa rfl rfl (Qh rfl rfl KF.fld_102_0 rfl) ?_
      refine Qa rfl rfl (Qw (i * 49) rfl rfl Tryz.underlying5 rfl (hR (_ :: H)) rfl (fun _ => hf1)) ?_
      refine Qa rfl rfl (QT_neq rfl rfl rfl rfl) ?_
      refine Qa rfl rfl (QT_and rfl rfl rfl rfl) ?_
      refine Qf (Qb ?_)
      refine TC_cond rfl (fun h46 => ?_) (fun h46 => ?_)
      ·
        refine Qe (Qg ?_)
        refine Qa rfl rfl (Qd rfl rfl rfl) ?_
        refine Qa rfl rfl (Qd rfl rfl rfl) ?_
        refine Qf (Qb ?_)
        refine Qu ?_
        refine Qn ?_
        refine Zc ?_
        refine Qn ?_
        refine Qn ?_
        refine Zc ?_
        refine Qn ?_
        have h46' : i = 0 ∧ flg xs 0 ≠ 0 := by
          have hh := h46
          simp only [Bool.and_eq_true, decide_eq_true_eq] at hh
          have h0 : i = 0 := by omega
          refine ⟨h0, ?_⟩
          subst h0; omega
        have e6 : errT L n xs = 6 := by unfold errT; rw [if_pos ⟨hok, h6⟩, if_pos ⟨by omega, h46'.2⟩]
        exact Qs (.inl rfl) (res2 rfl rfl rfl) ⟨_, ⟨_, [], by rw [e6], fragErr e6 (by decide), rfl⟩, fun _ h => h.tail.app_right⟩
      ·
        refine Qt (Qb (Qe (Qe ?_)))
        have hz0 : ¬ (0 < n ∧ flg xs 0 ≠ 0) := by
          rintro ⟨_, hne⟩
          by_cases h0 : i = 0
          · subst h0
            simp only [Bool.and_eq_false_iff, decide_eq_false_iff_not] at h46
            omega
          · exact hne (hz (by omega))
        refine Qg ?_
        refine Qa rfl rfl (Qc rfl rfl rfl) ?_
        refine Qa rfl rfl (Qc rfl rfl rfl) ?_
        refine Qa rfl rfl (Qq (i) rfl rfl Tryz.underlying32 KF.sz_102 rfl rfl (rfl) (fun _ => hi')) ?_
        refine Qa rfl rfl (Qh rfl rfl KF.fld_102_0 rfl) ?_
        refine Qa rfl rfl (Qw (i * 49) rfl rfl Tryz.underlying5 rfl (hR (_ :: H)) rfl (fun _ => hf1)) ?_
        refine Qa rfl rfl (QT_gtr rfl rfl rfl rfl) ?_
        refine Qf (Qb ?_)
        refine Qm rfl (fun h52 => ?_) (fun h52 => ?_)
        ·
          refine Qe (Qg ?_)
          refine Qa rfl rfl (Qd rfl rfl rfl) ?_
          refine Qa rfl rfl (Qd rfl rfl rfl) ?_
          refine Qf (Qb ?_)
          refine Qu ?_
          refine Qn ?_
          refine Zc ?_
          refine Qn ?_
          refine Qn ?_
          refine Zc ?_
          refine Qn ?_
          have e7 : errT L n xs = 7 := by unfold errT; rw [if_pos ⟨hok, h6⟩, if_neg hz0, if_pos (bigB_intro hi' (by omega))]
          exact Qs (.inl rfl) (res2 rfl rfl rfl) ⟨_, ⟨_, [], by rw [e7], fragErr e7 (by decide), rfl⟩, fun _ h => h.tail.app_right⟩
        ·
          refine Qt (Qb (Qe ?_))
          have hf3' : flg xs i ≤ 3 := by omega
          have hbf2 : ∀ j, j < i + 1 → flg xs j ≤ 3 := fun j hj => by
            by_cases h : j < i
            · exact hbf j h
            · obtain rfl : j = i := by omega
              exact hf3'
          have hei : Ints sheetK (elem xs 49 i) := hi.elem hi'
          have hels : (elem xs 49 i).length = 49 := hei.length
          have hip : Ints (rep (i + 1) sheetK) (xs.take ((i + 1) * 49)) := by
            have e : n = (i + 1) + (n - (i + 1)) := by omega
            have h1 := hi
            rw [e, rep_add] at h1
            have h2 := h1.split.1
            rwa [rep_len] at h2
          have hti : Ints patchK (tileB (ptsT L) xs i) := by
            have : ∀ j, j ≤ i → Ints patchK (tileB (ptsT L) xs j) := by
              intro j
              induction j with
              | zero => intro _; exact zP_ints
              | succ j ih => intro hj; exact whole_ints (hi.elem (by omega)) (ih (by omega)) (ptsT_or L) (hbf j (by omega))
            exact this i (Nat.le_refl _)
          have htls : (tileB (ptsT L) xs i).length = 48 := hti.length
          have hzt : Sz Tryz.prog 112 (tileB (ptsT L) xs i).length := by rw [htls]; exact KF.sz_112
          refine TC_draw [(0, 0), (1, 0), (2, 0), (3, 0), (4, 0), (5, 0), (6, 1), (7, 0), (8, 0), (9, 0), (10, 0), (11, 0)] KF.mixed (by kernel_rfl) (St.calm _ _) ?_
          refine Qz rfl rfl rfl (Ql 0 rfl rfl Tryz.underlying27 rfl rfl rfl KF.sz_27) ?_
          refine Qk rfl rfl rfl (fun _ => Qc rfl rfl rfl) ?_
          refine Qk rfl rfl rfl (fun _ => Qc rfl rfl rfl) ?_
          refine Qk rfl rfl rfl (fun _ => Qq (i) rfl rfl Tryz.underlying32 KF.sz_102 rfl rfl (rfl) (fun _ => hi')) ?_
          refine Qk rfl rfl rfl (fun _ => Qh rfl rfl KF.fld_102_0 rfl) ?_
          refine Qz rfl rfl rfl (Qw (i * 49) rfl rfl Tryz.underlying5 rfl (hR (_ :: H)) rfl (fun _ => hf1)) ?_
          refine TV_cq rfl rfl rfl rfl rfl KF.cal_110 rfl (fun _ => parts_spec w0 _ L (flg xs i : Int) (by omega)) (.drop (by kernel_rfl) (.drop (by kernel_rfl) (.nil))) ?_
          refine Qk rfl rfl rfl (fun _ => Qc rfl rfl rfl) ?_
          refine Qk rfl rfl rfl (fun _ => Qx rfl rfl rfl rfl) ?_
          refine Qk rfl rfl rfl (fun _ => Qx rfl rfl rfl rfl) ?_
          refine Qk rfl rfl rfl (fun _ => Qd rfl rfl rfl) ?_
          refine Qk rfl rfl rfl (fun _ => Qd rfl rfl rfl) ?_
          refine TV_end (Qb (Qe (Qg ?_)))
          refine Qa rfl rfl (QT_build rfl rfl KF.zero_112 KF.pl_112 rfl rfl rfl) ?_
          refine TL_e rfl rfl rfl (rfl) (ET_alloc rfl KF.zero_112) ?_
          rintro _ _ ⟨b10, rfl, rfl⟩
          refine TL_e0 rfl rfl (rfl) (ET_storeW 0 rfl rfl rfl KF.sz_112 rfl rfl rfl) ?_
          rintro _ _ ⟨rfl, rfl⟩
          refine Qf (Qb ?_)
          refine TC_cut (γ := Unit) (fun _ => [(1, true, .slice (some ⟨b, off, none⟩) n cap), (2, true, .pointer (some ⟨b2, 0, none⟩)), (6, true, fv), (7, true, .int .i64 (i : Int)), (8, true, .int .i64 ((npN (ptsT L) (flg xs i) : Nat) : Int)), (9, true, .int .i64 ((ncN (flg xs i) : Nat) : Int)), (10, true, .pointer (some ⟨b10, 0, none⟩))]) (fun _ => St w0 ((b10, 112, startP (tileB (ptsT L) xs i) (flg xs i)) :: (b2, 27, L.cells) :: (H ++ η))) ?_ ?_
          ·
            refine Qe (Qg ?_)
            refine Qa rfl rfl (Qc rfl rfl rfl) ?_
            refine Qa rfl rfl (Qc rfl rfl rfl) ?_
            refine Qa rfl rfl (Qq (i) rfl rfl Tryz.underlying32 KF.sz_102 rfl rfl (rfl) (fun _ => hi')) ?_
            refine Qa rfl rfl (Qh rfl rfl KF.fld_102_0 rfl) ?_
            refine Qa rfl rfl (Qw (i * 49) rfl rfl Tryz.underlying5 rfl (hR (_ :: _ :: H)) rfl (fun _ => hf1)) ?_
            refine Qa rfl rfl (QT_gtr rfl rfl rfl rfl) ?_
            refine Qf (Qb ?_)
            refine Qm rfl (fun h69 => ?_) (fun h69 => ?_)
            ·
              have hne : flg xs i ≠ 0 := by omega
              have hi0 : 0 < i := by
                refine Nat.pos_of_ne_zero fun h0 => ?_
                subst h0
                simp only [Bool.and_eq_false_iff, decide_eq_false_iff_not] at h46
                omega
              have hTl : (tilesC (ptsT L) xs i).length = i * 48 := hF.1
              have hlast : ((tilesC (ptsT L) xs i).drop ((i - 1) * 48)).take 48 = tileB (ptsT L) xs i := by
                obtain ⟨j, rfl⟩ : ∃ j, i = j + 1 := ⟨i - 1, by omega⟩
                have h0 : tilesC (ptsT L) xs (j + 1) = tilesC (ptsT L) xs j ++ tileB (ptsT L) xs (j + 1) := rfl
                have h1 : (tilesC (ptsT L) xs j).length = j * 48 := by
                  have := hTl; rw [h0, List.length_append, htls] at this; omega
                rw [h0, show j + 1 - 1 = j by omega, ← h1, List.drop_left, List.take_of_length_le (by omega)]
              obtain ⟨_, fad, fcap, fb, foff, rfl, hfc, hfad, hfr⟩ := (hF.sla (w0 := w0) (η := [])).some
              obtain rfl := hfad hi0
              have hfr' : ∀ X : Heap, Rd (St w0 (X ++ (H ++ η))) fb foff (tilesC (ptsT L) xs i) := fun X => hfr.mono fun _ h => h.cnt fun p => by simp only [List.countP_append, List.countP_nil]; omega
              have hw : IntKind.i64.wrap (flg xs i : Int) = (flg xs i : Int) := wrap_i64 ⟨by omega, by omega⟩
              refine Qe (Qg ?_)
              refine Qa rfl rfl (Qc rfl rfl rfl) ?_
              refine Qa rfl rfl (Qc rfl rfl rfl) ?_
              refine Qa rfl rfl (QT_sub rfl rfl rfl rfl (fun _ => ⟨by omega, by omega⟩)) ?_
              refine Qa rfl rfl (QT_indexG (i - 1) rfl rfl Tryz.underlying62 KF.sz_112 rfl rfl (by omega) (fun _ => by omega) (fun _ => rfl)) ?_
              refine Qa rfl rfl (Qy ((i - 1) * 48) rfl rfl Tryz.underlying112 rfl KF.sz_112 (hfr' [_, _]) rfl (fun _ => by rw [hTl]; omega) (fun _ => hlast)) ?_
              refine TL_e rfl rfl rfl (rfl) (ET_alloc rfl KF.zero_112) ?_
              rintro _ _ ⟨b11, rfl, rfl⟩
              refine TL_e0 rfl rfl (rfl) (ET_storeW (vs := tileB (ptsT L) xs i) 0 rfl rfl rfl hzt rfl (List.all_eq_true.2 hti.oneCell) (by rw [htls]; rfl)) ?_
              rintro _ _ ⟨rfl, rfl⟩
              refine Qf (Qb (Qe (Qg ?_)))
              refine Qa rfl rfl (Qc rfl rfl rfl) ?_
              refine Qa rfl rfl (Qc rfl rfl rfl) ?_
              refine Qa rfl rfl (Qq (i) rfl rfl Tryz.underlying32 KF.sz_102 rfl rfl (rfl) (fun _ => hi')) ?_
              refine Qa rfl rfl (Qh rfl rfl KF.fld_102_0 rfl) ?_
              refine Qa rfl rfl (Qw (i * 49) rfl rfl Tryz.underlying5 rfl (hR (_ :: _ :: _ :: H)) rfl (fun _ => hf1)) ?_
              refine Qa rfl rfl (QT_conv rfl rfl Tryz.underlying5 Tryz.underlying3 rfl) ?_
              refine Qa rfl rfl (Qd rfl rfl rfl) ?_
              refine Qf (Qb (Qe (Qe (Qg ?_))))
              refine Qa rfl rfl (Qd rfl rfl rfl) ?_
              refine Qf (Qb (Qr ?_))
              refine TC_loop (γ := { k : Nat // k ≤ 4 }) (fun t => [(1, true, .slice (some ⟨b, off, none⟩) n cap), (2, true, .pointer (some ⟨b2, 0, none⟩)), (6, true, .slice (some ⟨fb, foff, none⟩) i fcap), (7, true, .int .i64 (i : Int)), (8, true, .int .i64 ((npN (ptsT L) (flg xs i) : Nat) : Int)), (9, true, .int .i64 ((ncN (flg xs i) : Nat) : Int)), (10, true, .pointer (some ⟨b10, 0, none⟩)), (11, true, .pointer (some ⟨b11, 0, none⟩)), (12, true, .int .i64 (flg xs i : Int)), (13, true, .int .i64 (t.1 : Int))]) (fun t => St w0 ((b11, 112, tileB (ptsT L) xs i) :: (b10, 112, ptsTo (tileB (ptsT L) xs i) (flg xs i) t.1) :: (b2, 27, L.cells) :: (H ++ η))) (fun t => 4 - t.1) ⟨0, by omega⟩ ⟨rfl, rfl, rfl, rfl, slotI rfl (pts_eq hty), slotI rfl (col_eq hty), rfl, rfl, slotI rfl hw, rfl, trivial⟩ (fun _ h => h) ?_
              rintro ⟨k, hk⟩
              dsimp only
              refine Qe (Qe (Qg ?_))
              refine Qa rfl rfl (Qc rfl rfl rfl) ?_
              refine Qa rfl rfl (QT_lss rfl rfl rfl rfl) ?_
              refine Qf (Qb ?_)
              refine Qm rfl (fun h82 => ?_) (fun h82 => ?_)
              ·
                have hk' : k < 4 := by omega
                have hel := eP_lt (flg xs i) k
                have hpl := part_len (tileB (ptsT L) xs i) (0 + 0 + eP (flg xs i) k * 2) 2 (by omega)
                have hql := ptsTo_len (tileB (ptsT L) xs i) (flg xs i) k
                refine Qt (Qb (Qe (Qr (Qg ?_))))
                refine Qa rfl rfl (Qc rfl rfl rfl) ?_
                refine Qa rfl rfl (Qc rfl rfl rfl) ?_
                refine Qa rfl rfl (QT_mul rfl rfl rfl rfl (fun _ => ⟨by omega, by omega⟩)) ?_
                refine Qa rfl rfl (Qc rfl rfl rfl) ?_
                refine Qa rfl rfl (Zb rfl rfl rfl rfl (fun _ => ⟨by omega, by omega⟩)) ?_
                refine Qa rfl rfl (QT_rem rfl rfl rfl rfl (fun _ => ⟨by omega, by omega⟩)) ?_
                refine Qa rfl rfl (Qh rfl rfl KF.fld_112_0 rfl) ?_
                refine Qa rfl rfl (QT_indexArr (eP (flg xs i) k) rfl rfl Tryz.underlying99 KF.sz_72 rfl rfl ((by unfold eP; omega)) (fun _ => by omega)) ?_
                refine Qa rfl rfl (QT_loadA 0 rfl rfl Tryz.underlying72 rfl rfl rfl KF.sz_72 (fun _ => Nat.ble_eq_true_of_le (show 0 + 0 + eP (flg xs i) k * 2 + 2 ≤ (tileB (ptsT L) xs i).length by omega))) ?_
                refine Qa rfl rfl (Qh rfl rfl KF.fld_112_0 rfl) ?_
                refine Qa rfl rfl (QT_indexArr (k) rfl rfl Tryz.underlying99 KF.sz_72 rfl rfl (rfl) (fun _ => by omega)) ?_
                refine TL_e0 rfl rfl (rfl) (ET_store (vs := ((tileB (ptsT L) xs i).drop (0 + 0 + eP (flg xs i) k * 2)).take 2) 1 rfl rfl rfl rfl (by rw [hpl]; exact KF.sz_72) rfl (all_part hti _ _) (Nat.ble_eq_true_of_le (by rw [hpl, hql]; omega))) ?_
                rintro _ _ ⟨rfl, rfl⟩
                refine Qf ?_
                refine Qo ?_
                refine Qb (Qg ?_)
                refine Qa rfl rfl (Qc rfl rfl rfl) ?_
                refine Qa rfl rfl (Zb rfl rfl rfl rfl (fun _ => ⟨by omega, by omega⟩)) ?_
                refine Qa rfl rfl (Qd rfl rfl rfl) ?_
                refine Qf ?_
                exact TX_round ⟨k + 1, by omega⟩ (by show 4 - (k + 1) < 4 - k; omega) ⟨rfl, rfl, rfl, rfl, rfl, rfl, rfl, rfl, rfl, rfl, trivial⟩ (fun _ h => h)
              ·
                refine Zd ?_
                refine Qi (Qi ?_)
                refine Qp ?_
                refine Qb (Qe ?_)
                obtain rfl : k = 4 := by omega
                have hel0 := eC_lt (flg xs i) 0
                have hel1 := eC_lt (flg xs i) 1
                have hql := ptsTo_len (tileB (ptsT L) xs i) (flg xs i) 4
                have hpl0 := part_len (tileB (ptsT L) xs i) (0 + 32 + eC (flg xs i) 0 * 4) 4 (by omega)
                have hpl1 := part_len (tileB (ptsT L) xs i) (0 + 32 + eC (flg xs i) 1 * 4) 4 (by omega)
                refine Qg ?_
                refine Qa rfl rfl (Qc rfl rfl rfl) ?_
                refine Qa rfl rfl (Qh rfl rfl KF.fld_112_1 rfl) ?_
                refine Qa rfl rfl (QT_indexArr (eC (flg xs i) 0) rfl rfl Tryz.underlying100 KF.sz_75 rfl rfl ((by unfold eC; omega)) (fun _ => by omega)) ?_
                refine Qa rfl rfl (QT_loadA 0 rfl rfl Tryz.underlying75 rfl rfl rfl KF.sz_75 (fun _ => Nat.ble_eq_true_of_le (show 0 + 32 + eC (flg xs i) 0 * 4 + 4 ≤ (tileB (ptsT L) xs i).length by omega))) ?_
                refine Qa rfl rfl (Qh rfl rfl KF.fld_112_1 rfl) ?_
                refine Qa rfl rfl (QT_indexArr (0) rfl rfl Tryz.underlying100 KF.sz_75 rfl rfl (rfl) (fun _ => by decide)) ?_
                refine TL_e0 rfl rfl (rfl) (ET_store (vs := ((tileB (ptsT L) xs i).drop (0 + 32 + eC (flg xs i) 0 * 4)).take 4) 1 rfl rfl rfl rfl (by rw [hpl0]; exact KF.sz_75) rfl (all_part hti _ _) (Nat.ble_eq_true_of_le (by rw [hpl0, hql]; decide))) ?_
                rintro _ _ ⟨rfl, rfl⟩
                refine Qf (Qb (Qg ?_))
                refine Qa rfl rfl (Qc rfl rfl rfl) ?_
                refine Qa rfl rfl (Zb rfl rfl rfl rfl (fun _ => ⟨by omega, by omega⟩)) ?_
                refine Qa rfl rfl (QT_rem rfl rfl rfl rfl (fun _ => ⟨by omega, by omega⟩)) ?_
                refine Qa rfl rfl (Qh rfl rfl KF.fld_112_1 rfl) ?_
                refine Qa rfl rfl (QT_indexArr (eC (flg xs i) 1) rfl rfl Tryz.underlying100 KF.sz_75 rfl rfl ((by unfold eC; omega)) (fun _ => by omega)) ?_
                refine Qa rfl rfl (QT_loadA 0 rfl rfl Tryz.underlying75 rfl rfl rfl KF.sz_75 (fun _ => Nat.ble_eq_true_of_le (show 0 + 32 + eC (flg xs i) 1 * 4 + 4 ≤ (tileB (ptsT L) xs i).length by omega))) ?_
                refine Qa rfl rfl (Qh rfl rfl KF.fld_112_1 rfl) ?_
                refine Qa rfl rfl (QT_indexArr (1) rfl rfl Tryz.underlying100 KF.sz_75 rfl rfl (rfl) (fun _ => by decide)) ?_
                refine TL_e0 rfl rfl (rfl) (ET_store (vs := ((tileB (ptsT L) xs i).drop (0 + 32 + eC (flg xs i) 1 * 4)).take 4) 1 rfl rfl rfl rfl (by rw [hpl1]; exact KF.sz_75) rfl (all_part hti _ _) (Nat.ble_eq_true_of_le (by rw [hpl1, setAt_length, hql]; decide))) ?_
                rintro _ _ ⟨rfl, rfl⟩
                refine Qf ?_
                exact TX_cut () ⟨rfl, rfl, rfl, rfl, rfl, rfl, rfl, trivial⟩ (fun w h => by
                  unfold startP; rw [if_neg hne]; exact h.tail)
            ·
              refine Qt ?_
              exact TX_cut () ⟨rfl, rfl, rfl, rfl, slotI rfl (pts_eq hty), slotI rfl (col_eq hty), rfl, trivial⟩ (fun w h => by
                have h0 : flg xs i = 0 := by omega
                unfold startP; rw [if_pos h0]; exact h)
          rintro ⟨⟩
          refine Qe (Qg ?_)
          refine Qa rfl rfl (Qd rfl rfl rfl) ?_
          refine Qf (Qb (Qe (Qg ?_)))
          refine Qa rfl rfl (Qd rfl rfl rfl) ?_
          refine Qf (Qb ?_)
          refine TC_cut (γ := Unit) (fun _ => [(1, true, .slice (some ⟨b, off, none⟩) n cap), (2, true, .pointer (some ⟨b2, 0, none⟩)), (6, true, fv), (7, true, .int .i64 (i : Int)), (8, true, .int .i64 ((npN (ptsT L) (flg xs i) : Nat) : Int)), (9, true, .int .i64 ((ncN (flg xs i) : Nat) : Int)), (10, true, .pointer (some ⟨b10, 0, none⟩)), (14, true, .int .i64 ((atN (flg xs i) : Nat) : Int)), (15, true, .int .i64 ((hvN (flg xs i) : Nat) : Int))]) (fun _ => St w0 ((b10, 112, startP (tileB (ptsT L) xs i) (flg xs i)) :: (b2, 27, L.cells) :: (H ++ η))) ?_ ?_
          ·
            refine Qe (Qg ?_)
            refine Qa rfl rfl (Qc rfl rfl rfl) ?_
            refine Qa rfl rfl (Qc rfl rfl rfl) ?_
            refine Qa rfl rfl (Qq (i) rfl rfl Tryz.underlying32 KF.sz_102 rfl rfl (rfl) (fun _ => hi')) ?_
            refine Qa rfl rfl (Qh rfl rfl KF.fld_102_0 rfl) ?_
            refine Qa rfl rfl (Qw (i * 49) rfl rfl Tryz.underlying5 rfl (hR (_ :: _ :: H)) rfl (fun _ => hf1)) ?_
            refine Qa rfl rfl (QT_gtr rfl rfl rfl rfl) ?_
            refine Qf (Qb ?_)
            refine Qm rfl (fun h115 => ?_) (fun h115 => ?_)
            ·
              refine Qe (Qg ?_)
              refine Qa rfl rfl (Qd rfl rfl rfl) ?_
              refine Qf (Qb (Qg ?_))
              refine Qa rfl rfl (Qd rfl rfl rfl) ?_
              refine Qf ?_
              exact TX_cut () ⟨rfl, rfl, rfl, rfl, rfl, rfl, rfl, slotI rfl (by unfold atN; rw [if_neg (by omega)]; rfl), slotI rfl (by unfold hvN; rw [if_neg (by omega)]; rfl), trivial⟩ (fun _ h => h)
            ·
              refine Qt ?_
              exact TX_cut () ⟨rfl, rfl, rfl, rfl, rfl, rfl, rfl, slotI rfl (by unfold atN; rw [if_pos (by omega)]; rfl), slotI rfl (by unfold hvN; rw [if_pos (by omega)]; rfl), trivial⟩ (fun _ h => h)
          rintro ⟨⟩
          have hb1 := npN_bd (f := flg xs i) (ptsT_or L)
          have hb2 := ncN_bd (flg xs i)
          have hp12 := ptsT_or L
          have hsl := startP_len (tileB (ptsT L) xs i) (flg xs i)
          refine Qe (Qe (Qg ?_))
          refine Qa rfl rfl (Qd rfl rfl rfl) ?_
          refine Qf (Qb (Qr ?_))
          refine TC_loop (γ := { k : Nat // k ≤ npN (ptsT L) (flg xs i) }) (fun t => [(1, true, .slice (some ⟨b, off, none⟩) n cap), (2, true, .pointer (some ⟨b2, 0, none⟩)), (6, true, fv), (7, true, .int .i64 (i : Int)), (8, true, .int .i64 ((npN (ptsT L) (flg xs i) : Nat) : Int)), (9, true, .int .i64 ((ncN (flg xs i) : Nat) : Int)), (10, true, .pointer (some ⟨b10, 0, none⟩)), (14, true, .int .i64 ((atN (flg xs i) : Nat) : Int)), (15, true, .int .i64 ((hvN (flg xs i) : Nat) : Int)), (16, true, .int .i64 (t.1 : Int))]) (fun t => St w0 ((b10, 112, rP (elem xs 49 i) (startP (tileB (ptsT L) xs i) (flg xs i)) (atN (flg xs i)) t.1) :: (b2, 27, L.cells) :: (H ++ η))) (fun t => npN (ptsT L) (flg xs i) - t.1) ⟨0, by omega⟩ ⟨rfl, rfl, rfl, rfl, rfl, rfl, rfl, rfl, rfl, rfl, trivial⟩ (fun _ h => h) ?_
          rintro ⟨k, hk⟩
          dsimp only
          refine Qe (Qe (Qg ?_))
          refine Qa rfl rfl (Qc rfl rfl rfl) ?_
          refine Qa rfl rfl (Qc rfl rfl rfl) ?_
          refine Qa rfl rfl (QT_lss rfl rfl rfl rfl) ?_
          refine Qf (Qb ?_)
          refine Qm rfl (fun h118 => ?_) (fun h118 => ?_)
          ·
            have hk' : k < npN (ptsT L) (flg xs i) := by omega
            have hpl := part_len (elem xs 49 i) (1 + k * 2) 2 (by omega)
            have hql := rP_len (elem xs 49 i) (startP (tileB (ptsT L) xs i) (flg xs i)) (atN (flg xs i)) k
            refine Qt (Qb (Qe (Qr (Qg ?_))))
            refine Qa rfl rfl (Qc rfl rfl rfl) ?_
            refine Qa rfl rfl (Qc rfl rfl rfl) ?_
            refine Qa rfl rfl (Zb rfl rfl rfl rfl (fun _ => ⟨by omega, by omega⟩)) ?_
            refine Qa rfl rfl (Qc rfl rfl rfl) ?_
            refine Qa rfl rfl (Qc rfl rfl rfl) ?_
            refine Qa rfl rfl (Qc rfl rfl rfl) ?_
            refine Qa rfl rfl (Qq (i) rfl rfl Tryz.underlying32 KF.sz_102 rfl rfl (rfl) (fun _ => hi')) ?_
            refine Qa rfl rfl (Qh rfl rfl KF.fld_102_1 rfl) ?_
            refine Qa rfl rfl (QT_indexArr (k) rfl rfl Tryz.underlying99 KF.sz_72 rfl rfl (rfl) (fun _ => by omega)) ?_
            refine Qa rfl rfl (Qy (i * 49 + (1 + k * 2)) rfl rfl Tryz.underlying72 rfl KF.sz_72 (hR (_ :: _ :: H)) rfl (fun _ => by omega) (fun _ => elem_part xs i (1 + k * 2) 2 (by omega))) ?_
            refine Qa rfl rfl (Qh rfl rfl KF.fld_112_0 rfl) ?_
            refine Qa rfl rfl (QT_indexArr (atN (flg xs i) + k) rfl rfl Tryz.underlying99 KF.sz_72 rfl rfl (rfl) (fun _ => by omega)) ?_
            refine TL_e0 rfl rfl (rfl) (ET_store (vs := ((elem xs 49 i).drop (1 + k * 2)).take 2) 0 rfl rfl rfl rfl (by rw [hpl]; exact KF.sz_72) rfl (all_part hei _ _) (Nat.ble_eq_true_of_le (by rw [hpl, hql, hsl]; omega))) ?_
            rintro _ _ ⟨rfl, rfl⟩
            refine Qf ?_
            refine Qo ?_
            refine Qb (Qg ?_)
            refine Qa rfl rfl (Qc rfl rfl rfl) ?_
            refine Qa rfl rfl (Zb rfl rfl rfl rfl (fun _ => ⟨by omega, by omega⟩)) ?_
            refine Qa rfl rfl (Qd rfl rfl rfl) ?_
            refine Qf ?_
            exact TX_round ⟨k + 1, by omega⟩ (by show npN (ptsT L) (flg xs i) - (k + 1) < npN (ptsT L) (flg xs i) - k; omega) ⟨rfl, rfl, rfl, rfl, rfl, rfl, rfl, rfl, rfl, rfl, trivial⟩ (fun _ h => h)
          ·
            refine Zd ?_
            refine Qi (Qi ?_)
            refine Qp ?_
            refine Qb (Qe (Qe (Qg ?_)))
            refine Qa rfl rfl (Qd rfl rfl rfl) ?_
            refine Qf (Qb (Qr ?_))
            obtain rfl : k = npN (ptsT L) (flg xs i) := by omega
            refine TC_loop (γ := { k : Nat // k ≤ ncN (flg xs i) }) (fun t => [(1, true, .slice (some ⟨b, off, none⟩) n cap), (2, true, .pointer (some ⟨b2, 0, none⟩)), (6, true, fv), (7, true, .int .i64 (i : Int)), (9, true, .int .i64 ((ncN (flg xs i) : Nat) : Int)), (10, true, .pointer (some ⟨b10, 0, none⟩)), (15, true, .int .i64 ((hvN (flg xs i) : Nat) : Int)), (17, true, .int .i64 (t.1 : Int))]) (fun t => St w0 ((b10, 112, rC (elem xs 49 i) (rP (elem xs 49 i) (startP (tileB (ptsT L) xs i) (flg xs i)) (atN (flg xs i)) (npN (ptsT L) (flg xs i))) (hvN (flg xs i)) t.1) :: (b2, 27, L.cells) :: (H ++ η))) (fun t => ncN (flg xs i) - t.1) ⟨0, by omega⟩ ⟨rfl, rfl, rfl, rfl, rfl, rfl, rfl, rfl, trivial⟩ (fun _ h => h) ?_
            rintro ⟨m, hm⟩
            dsimp only
            refine Qe (Qe (Qg ?_))
            refine Qa rfl rfl (Qc rfl rfl rfl) ?_
            refine Qa rfl rfl (Qc rfl rfl rfl) ?_
            refine Qa rfl rfl (QT_lss rfl rfl rfl rfl) ?_
            refine Qf (Qb ?_)
            refine Qm rfl (fun h135 => ?_) (fun h135 => ?_)
            ·
              have hm' : m < ncN (flg xs i) := by omega
              have hpl := part_len (elem xs 49 i) (33 + m * 4) 4 (by omega)
              have hql := rC_len (elem xs 49 i) (rP (elem xs 49 i) (startP (tileB (ptsT L) xs i) (flg xs i)) (atN (flg xs i)) (npN (ptsT L) (flg xs i))) (hvN (flg xs i)) m
              have hrl := rP_len (elem xs 49 i) (startP (tileB (ptsT L) xs i) (flg xs i)) (atN (flg xs i)) (npN (ptsT L) (flg xs i))
              refine Qt (Qb (Qe (Qr (Qg ?_))))
              refine Qa rfl rfl (Qc rfl rfl rfl) ?_
              refine Qa rfl rfl (Qc rfl rfl rfl) ?_
              refine Qa rfl rfl (Zb rfl rfl rfl rfl (fun _ => ⟨by omega, by omega⟩)) ?_
              refine Qa rfl rfl (Qc rfl rfl rfl) ?_
              refine Qa rfl rfl (Qc rfl rfl rfl) ?_
              refine Qa rfl rfl (Qc rfl rfl rfl) ?_
              refine Qa rfl rfl (Qq (i) rfl rfl Tryz.underlying32 KF.sz_102 rfl rfl (rfl) (fun _ => hi')) ?_
              refine Qa rfl rfl (Qh rfl rfl KF.fld_102_2 rfl) ?_
              refine Qa rfl rfl (QT_indexArr (m) rfl rfl Tryz.underlying100 KF.sz_75 rfl rfl (rfl) (fun _ => by omega)) ?_
              refine Qa rfl rfl (Qy (i * 49 + (33 + m * 4)) rfl rfl Tryz.underlying75 rfl KF.sz_75 (hR (_ :: _ :: H)) rfl (fun _ => by omega) (fun _ => elem_part xs i (33 + m * 4) 4 (by omega))) ?_
              refine Qa rfl rfl (Qh rfl rfl KF.fld_112_1 rfl) ?_
              refine Qa rfl rfl (QT_indexArr (hvN (flg xs i) + m) rfl rfl Tryz.underlying100 KF.sz_75 rfl rfl (rfl) (fun _ => by omega)) ?_
              refine TL_e0 rfl rfl (rfl) (ET_store (vs := ((elem xs 49 i).drop (33 + m * 4)).take 4) 0 rfl rfl rfl rfl (by rw [hpl]; exact KF.sz_75) rfl (all_part hei _ _) (Nat.ble_eq_true_of_le (by rw [hpl, hql, hrl, hsl]; omega))) ?_
              rintro _ _ ⟨rfl, rfl⟩
              refine Qf ?_
              refine Qo ?_
              refine Qb (Qg ?_)
              refine Qa rfl rfl (Qc rfl rfl rfl) ?_
              refine Qa rfl rfl (Zb rfl rfl rfl rfl (fun _ => ⟨by omega, by omega⟩)) ?_
              refine Qa rfl rfl (Qd rfl rfl rfl) ?_
              refine Qf ?_
              exact TX_round ⟨m + 1, by omega⟩ (by show ncN (flg xs i) - (m + 1) < ncN (flg xs i) - m; omega) ⟨rfl, rfl, rfl, rfl, rfl, rfl, rfl, rfl, trivial⟩ (fun _ h => h)
            ·
              refine Zd ?_
              refine Qi (Qi ?_)
              refine Qp ?_
              refine Qb ?_
              obtain rfl : m = ncN (flg xs i) := by omega
              refine TC_A (St w0 ((b10, 112, wholeC (ptsT L) (flg xs i) (elem xs 49 i) (tileB (ptsT L) xs i)) :: (b2, 27, L.cells) :: (H ++ η))) (fun w h => by rw [← ref_eq hels htls (ptsT_or L) (show flg xs i = 0 ∨ flg xs i = 1 ∨ flg xs i = 2 ∨ flg xs i = 3 by omega)]; exact h) ?_
              have hwi : Ints patchK (wholeC (ptsT L) (flg xs i) (elem xs 49 i) (tileB (ptsT L) xs i)) := whole_ints hei hti (ptsT_or L) hf3'
              have hwls : (wholeC (ptsT L) (flg xs i) (elem xs 49 i) (tileB (ptsT L) xs i)).length = 48 := hwi.length
              have hzw : Sz Tryz.prog 112 (wholeC (ptsT L) (flg xs i) (elem xs 49 i) (tileB (ptsT L) xs i)).length := by rw [hwls]; exact KF.sz_112
              refine Qg ?_
              refine Qa rfl rfl (Qc rfl rfl rfl) ?_
              refine Qa rfl rfl (Ql (cs := wholeC (ptsT L) (flg xs i) (elem xs 49 i) (tileB (ptsT L) xs i)) 0 rfl rfl Tryz.underlying112 rfl rfl rfl hzw) ?_
              refine TL_e rfl rfl rfl (rfl) (ET_buildN [_] rfl Tryz.underlying62 KF.sz_112 KF.zero_112 rfl rfl rfl (fun v hv => by cases List.mem_singleton.1 hv; exact hwls)) ?_
              rintro _ _ ⟨b152, rfl, rfl⟩
              refine TL_e rfl rfl rfl (rfl) (ET_appendL (L := [_, _, _]) rfl Tryz.underlying62 el_Patch rfl rfl hF (fun _ h => h) (SlA.own (n := 1) (xs := wholeC (ptsT L) (flg xs i) (elem xs 49 i) (tileB (ptsT L) xs i)) 0 rfl (by rw [List.drop_zero, List.take_of_length_le (by simp [Value.cells, hwls])]; simp [Value.cells]) (by simp [Value.cells, hwls]) (by omega)) hwi.oneCell (by omega) (by omega)) ?_
              rintro fv2 _ ⟨H', hF', rfl⟩
              refine Qa rfl rfl (Qd rfl rfl rfl) ?_
              refine Qf ?_
              refine Qo ?_
              refine Qb (Qg ?_)
              refine Qa rfl rfl (Qc rfl rfl rfl) ?_
              refine Qa rfl rfl (Zb rfl rfl rfl rfl (fun _ => ⟨by omega, by omega⟩)) ?_
              refine Qa rfl rfl (Qd rfl rfl rfl) ?_
              refine Qf ?_
              exact TX_round ⟨(i + 1, fv2, H'), hi', hbf2, fun _ => Classical.byContradiction fun hne => hz0 ⟨by omega, hne⟩, hF'⟩ (by show n - (i + 1) < n - i; omega) ⟨rfl, rfl, rfl, rfl, trivial⟩ (fun _ h => h.tail.tail)
    ·
      refine Zd ?_
      refine Qi (Qi ?_)
      refine Qp ?_
      refine Qb (Qe (Qg ?_))
      refine Qa rfl rfl (Qc rfl rfl rfl) ?_
      refine Qa rfl rfl (Qd rfl rfl rfl) ?_
      refine Qa rfl rfl (Qd rfl rfl rfl) ?_
      refine Qf (Qb ?_)
      refine Qu ?_
      obtain rfl : i = n := by omega
      have e0 : errT L i xs = 0 := by unfold errT; rw [if_pos ⟨hok, h6⟩, if_neg (fun h => h.2 (hz h.1)), if_neg (by rw [bigB_none hbf]; decide)]
      exact Qs (.inl rfl) (res2 rfl rfl rfl) ⟨_, ⟨fv, H, by rw [e0], by unfold cntT outT; rw [if_pos e0, if_pos e0]; exact hF, rfl⟩, fun _ h => h.tail⟩
end Go.Proofs.YtjdaglmkljbfkaaGreatDoor.T12
namespace Go.Proofs.YtjdaglmkljbfkaaGreatDoor.T12
open Go Go.Gx Go.RowKit Go.ChangeShapes Go.WideShapes Go.ChangeAt
set_option maxRecDepth 100000
def laid12 : List (String × DataW Unit) := [("gouache/layouts.sets", Rows.laid_gouache_layouts_sets), ("gouache/tiles.edges", Rows.laid_gouache_tiles_edges)]
theorem laid12_met {W : World} (h : laidMetH Tryz.prog laid12 W) : laidMet Tryz.prog laid12 W := by
 rw [MakeChecks.laidMetH_plain _ _ _ (by kernel_rfl)] at h
 exact h
theorem door12 (os : Os) (args : Array Value) : laidMetH Tryz.prog laid12 ((World.doorLaid Tryz.prog 400 os).forCall (fun _ _ => 0) ⟨#[], args, []⟩).memory :=
 laidMetH_of_parts3 (fuel := 8) (laidMet_of_run' 8 (by kernel_rfl) (by kernel_rfl)) (by kernel_rfl) (by kernel_rfl)
theorem sets12 {W : World} (h : laidMetH Tryz.prog laid12 W) : Sets W := sets_of (laid12_met h) (List.mem_cons_self ..)
def edgesK : List IntKind := List.replicate 24 .i64
theorem gEdges : Tryz.prog.globalNamed "gouache/tiles.edges" = some 1 := by kernel_rfl
theorem edges12 {W : World} (h : laidMetH Tryz.prog laid12 W) : Edges W :=
 laid_flat (name := "gouache/tiles.edges") (d := Rows.laid_gouache_tiles_edges) (ks := edgesK) (laid12_met h) (List.mem_cons_of_mem _ (List.mem_cons_self ..)) gEdges (by kernel_rfl) (show flat Tryz.prog 8 243 = some edgesK by kernel_rfl) (intsB_ok _ _ (by kernel_rfl)) (by kernel_rfl)
theorem flat_Sheet : flat Tryz.prog 8 102 = some sheetK := by kernel_rfl
end Go.Proofs.YtjdaglmkljbfkaaGreatDoor.T12
namespace Go.Proofs.YtjdaglmkljbfkaaGreatDoor
open Go Go.Gx Go.RowKit Go.ChangeShapes Go.WideShapes Go.ChangeAt
set_option maxRecDepth 100000
theorem flat_RecR : flat Tryz.prog 8 77 = some recK := by kernel_rfl
theorem wfUR {k : IntKind} {z : Int} (hk : k = .u8 ∨ k = .u16 ∨ k = .u32) (h : (Lit.int k z).wf = true) : ∃ x : Nat, z = (x : Int) ∧ x < (if k = .u8 then 256 else if k = .u16 then 65536 else 4294967296) := by
  simp only [Lit.wf, Bool.and_eq_true, decide_eq_true_eq] at h
  rcases hk with rfl | rfl | rfl
  · have h1 : IntKind.u8.min = 0 := rfl
    have h2 : IntKind.u8.max = 255 := rfl
    exact ⟨z.toNat, by omega, by rw [if_pos rfl]; omega⟩
  · have h1 : IntKind.u16.min = 0 := rfl
    have h2 : IntKind.u16.max = 65535 := rfl
    exact ⟨z.toNat, by omega, by rw [if_neg (by decide), if_pos rfl]; omega⟩
  · have h1 : IntKind.u32.min = 0 := rfl
    have h2 : IntKind.u32.max = 4294967295 := rfl
    exact ⟨z.toNat, by omega, by rw [if_neg (by decide), if_neg (by decide)]; omega⟩
theorem ints_natR : ∀ {ks : List IntKind} {cs : List Value}, (∀ k ∈ ks, k = .u8 ∨ k = .u16 ∨ k = .u32) → Ints ks cs →
  ∃ xs : List Nat, xs.length = ks.length ∧ cs = List.zipWith (fun (k : IntKind) (x : Nat) => Value.int k (x : Int)) ks xs ∧ ∀ (p : Nat) (k : IntKind) (x : Nat), ks[p]? = some k → xs[p]? = some x → x < (if k = .u8 then 256 else if k = .u16 then 65536 else 4294967296)
 | [], cs, _, h => ⟨[], rfl, by rw [h.inv_nil]; rfl, fun p k x h => by simp at h⟩
 | k :: ks, cs, hk, h => by
  obtain ⟨z, cs', rfl, hw, hr⟩ := h.inv
  clear h
  obtain ⟨x, rfl, hx⟩ := wfUR (hk k (List.mem_cons_self ..)) hw
  obtain ⟨xs, h1, rfl, h3⟩ := ints_natR (fun q hq => hk q (List.mem_cons_of_mem _ hq)) hr
  refine ⟨x :: xs, by simp [h1], rfl, fun p => ?_⟩
  cases p with
  | zero => intro k' x' e1 e2; cases e1; cases e2; exact hx
  | succ p => intro k' x' e1 e2; exact h3 p k' x' e1 e2
theorem rec_ofR {cs : List Value} (h : Ints recK cs) : ∃ r, RcF r ∧ cs = rvV r := by
  obtain ⟨xs, h1, rfl, h3⟩ := ints_natR (ks := recK) (by decide) h
  rw [recK_len] at h1
  refine ⟨xs, ⟨h1, fun {p x} hx => ?_⟩, rfl⟩
  have hp : p < 7 := by rw [← h1]; exact (List.getElem?_eq_some_iff.1 hx).1
  have := h3 p _ x (recK_at hp) hx
  unfold rkM
  unfold rkK at this
  by_cases e0 : p = 0
  · rw [if_pos e0] at this ⊢; exact this
  · rw [if_neg e0] at this ⊢
    by_cases e1 : p < 3
    · rw [if_pos e1] at this ⊢; exact this
    · rw [if_neg e1] at this ⊢; exact this
theorem recs_ofR : ∀ {n : Nat} {xs : List Value}, Ints (rep n recK) xs → ∃ rs : List (List Nat), rs.length = n ∧ xs = flatR rs ∧ ∀ r ∈ rs, RcF r
  | 0, xs, h => by
    obtain rfl := Ints.inv_nil (show Ints [] xs from h)
    exact ⟨[], rfl, rfl, fun _ h => absurd h List.not_mem_nil⟩
  | n + 1, xs, h => by
    have e : rep (n + 1) recK = recK ++ rep n recK := by simp [rep, List.replicate_succ]
    rw [e] at h
    obtain ⟨h1, h2⟩ := h.split
    obtain ⟨y, hy, e1⟩ := rec_ofR h1
    obtain ⟨ys, hl, e2, hys⟩ := recs_ofR h2
    refine ⟨y :: ys, by simp [hl], ?_, fun z hz => ?_⟩
    · rw [flatR_cons, ← e1, ← e2, List.take_append_drop]
    · rcases List.mem_cons.1 hz with rfl | hz
      · exact hy
      · exact hys z hz
theorem open_recsR {w0 : Base} {sv : Value} {n : Nat} {xs : List Value} (hs : SlA (St w0 []) sv 7 n xs) (hi : Ints (rep n recK) xs) : ∃ rs, rs.length = n ∧ SlA (St w0 []) sv 7 rs.length (flatR rs) ∧ ∀ r ∈ rs, RcF r := by
 obtain ⟨rs, hl, rfl, ha⟩ := recs_ofR hi
 exact ⟨rs, hl, by rw [hl]; exact hs, ha⟩
end Go.Proofs.YtjdaglmkljbfkaaGreatDoor
namespace Go.Gx
open Go Go.RowKit
variable {P : Program} {n : Nat} {ops : Array Oper} {Q : Exit → Act → World → Prop} {σ : Slots} {A : World → Prop}
end Go.Gx
namespace Go.Proofs.YtjdaglmkljbfkaaGreatDoor
open Go Go.Gx Go.RowKit
set_option maxRecDepth 100000
theorem fill_nil_bits (w0 : Base) (η : Heap) : CallsT Tryz.prog 38 [nilS] (St w0 η) fun v A' => v = .tuple #[] ∧ A' = St w0 η := by
 refine CallsT.body Tryz.func38 rfl rfl ?_
 simp only [Tryz.ntmps38, slotsOf, Nat.reduceAdd]
 refine Qe (Qg ?_)
 refine Qa rfl rfl (Qd rfl rfl rfl) ?_
 refine Qf (Qb (Qr ?_))
 refine TC_loop (γ := Unit) (fun _ => [(0, true, nilS), (2, true, .int .i64 0)]) (fun _ => St w0 η) (fun _ => 0) () ⟨rfl, rfl, trivial⟩ (fun _ h => h) ?_
 rintro ⟨⟩
 dsimp only [nilS]
 refine Qe (Qe (Qg ?_))
 refine Qa rfl rfl (Qc rfl rfl rfl) ?_
 refine Qa rfl rfl (Qc rfl rfl rfl) ?_
 refine Qa rfl rfl (Za rfl rfl Tryz.underlying39 rfl) ?_
 refine Qa rfl rfl (QT_lss rfl rfl rfl rfl) ?_
 refine Qf (Qb ?_)
 refine TC_cond rfl (fun h => absurd (h.symm.trans ((show (_ : Bool) = false by rfl))) (by decide)) (fun _ => ?_)
 refine Zd ?_
 refine Qi (Qi ?_)
 refine Qp ?_
 exact Qs (.inr rfl) (res0 rfl) ⟨_, ⟨rfl, rfl⟩, fun _ h => h⟩
theorem grow_nil_bits (w0 : Base) (η : Heap) : CallsT Tryz.prog 51 [nilS] (St w0 η) fun v A' => v = .tuple #[] ∧ A' = St w0 η := by
 refine CallsT.body Tryz.func51 rfl rfl ?_
 simp only [Tryz.ntmps51, slotsOf, Nat.reduceAdd]
 refine Qe (Qg ?_)
 refine Qa rfl rfl (Qd rfl rfl rfl) ?_
 refine Qf (Qb (Qr ?_))
 refine TC_loop (γ := Unit) (fun _ => [(0, true, nilS), (2, true, .int .i64 0)]) (fun _ => St w0 η) (fun _ => 0) () ⟨rfl, rfl, trivial⟩ (fun _ h => h) ?_
 rintro ⟨⟩
 dsimp only [nilS]
 refine Qe (Qe (Qg ?_))
 refine Qa rfl rfl (Qc rfl rfl rfl) ?_
 refine Qa rfl rfl (Qc rfl rfl rfl) ?_
 refine Qa rfl rfl (Za rfl rfl Tryz.underlying39 rfl) ?_
 refine Qa rfl rfl (QT_lss rfl rfl rfl rfl) ?_
 refine Qf (Qb ?_)
 refine TC_cond rfl (fun h => absurd (h.symm.trans ((show (_ : Bool) = false by rfl))) (by decide)) (fun _ => ?_)
 refine Zd ?_
 refine Qi (Qi ?_)
 refine Qp ?_
 exact Qs (.inr rfl) (res0 rfl) ⟨_, ⟨rfl, rfl⟩, fun _ h => h⟩
theorem marked_nil_bits (w0 : Base) (η : Heap) : CallsT Tryz.prog 64 [nilS] (St w0 η) fun v A' => v = .bool true ∧ A' = St w0 η := by
 refine CallsT.body Tryz.func64 rfl rfl ?_
 simp only [Tryz.ntmps64, slotsOf, Nat.reduceAdd]
 refine Qe (Qg ?_)
 refine Qa rfl rfl (Qd rfl rfl rfl) ?_
 refine Qf (Qb (Qe (Qe (Qg ?_))))
 refine Qa rfl rfl (Qd rfl rfl rfl) ?_
 refine Qf (Qb (Qr ?_))
 refine TC_loop (γ := Unit) (fun _ => [(0, true, nilS), (3, true, .int .i64 0)]) (fun _ => St w0 η) (fun _ => 0) () ⟨rfl, rfl, trivial⟩ (fun _ h => h) ?_
 rintro ⟨⟩
 dsimp only [nilS]
 refine Qe (Qe (Qg ?_))
 refine Qa rfl rfl (Qc rfl rfl rfl) ?_
 refine Qa rfl rfl (Qc rfl rfl rfl) ?_
 refine Qa rfl rfl (Za rfl rfl Tryz.underlying39 rfl) ?_
 refine Qa rfl rfl (QT_lss rfl rfl rfl rfl) ?_
 refine Qf (Qb ?_)
 refine TC_cond rfl (fun h => absurd (h.symm.trans ((show (_ : Bool) = false by rfl))) (by decide)) (fun _ => ?_)
 refine Zd ?_
 refine Qi (Qi ?_)
 refine Qp ?_
 refine Qb (Qe (Qg ?_))
 refine Qa rfl rfl (Qd rfl rfl rfl) ?_
 refine Qf (Qb ?_)
 refine Qu ?_
 exact Qs (.inl rfl) (res1 rfl rfl) ⟨_, ⟨rfl, rfl⟩, fun _ h => h⟩
theorem fill_nil_fixes (w0 : Base) (η : Heap) : CallsT Tryz.prog 39 [nilS] (St w0 η) fun v A' => v = .tuple #[] ∧ A' = St w0 η := by
 refine CallsT.body Tryz.func39 rfl rfl ?_
 simp only [Tryz.ntmps39, slotsOf, Nat.reduceAdd]
 refine Qe (Qg ?_)
 refine Qa rfl rfl (Qd rfl rfl rfl) ?_
 refine Qf (Qb (Qr ?_))
 refine TC_loop (γ := Unit) (fun _ => [(0, true, nilS), (2, true, .int .i64 0)]) (fun _ => St w0 η) (fun _ => 0) () ⟨rfl, rfl, trivial⟩ (fun _ h => h) ?_
 rintro ⟨⟩
 dsimp only [nilS]
 refine Qe (Qe (Qg ?_))
 refine Qa rfl rfl (Qc rfl rfl rfl) ?_
 refine Qa rfl rfl (Qc rfl rfl rfl) ?_
 refine Qa rfl rfl (Za rfl rfl Tryz.underlying40 rfl) ?_
 refine Qa rfl rfl (QT_lss rfl rfl rfl rfl) ?_
 refine Qf (Qb ?_)
 refine TC_cond rfl (fun h => absurd (h.symm.trans ((show (_ : Bool) = false by rfl))) (by decide)) (fun _ => ?_)
 refine Zd ?_
 refine Qi (Qi ?_)
 refine Qp ?_
 exact Qs (.inr rfl) (res0 rfl) ⟨_, ⟨rfl, rfl⟩, fun _ h => h⟩
theorem grow_nil_fixes (w0 : Base) (η : Heap) : CallsT Tryz.prog 52 [nilS] (St w0 η) fun v A' => v = .tuple #[] ∧ A' = St w0 η := by
 refine CallsT.body Tryz.func52 rfl rfl ?_
 simp only [Tryz.ntmps52, slotsOf, Nat.reduceAdd]
 refine Qe (Qg ?_)
 refine Qa rfl rfl (Qd rfl rfl rfl) ?_
 refine Qf (Qb (Qr ?_))
 refine TC_loop (γ := Unit) (fun _ => [(0, true, nilS), (2, true, .int .i64 0)]) (fun _ => St w0 η) (fun _ => 0) () ⟨rfl, rfl, trivial⟩ (fun _ h => h) ?_
 rintro ⟨⟩
 dsimp only [nilS]
 refine Qe (Qe (Qg ?_))
 refine Qa rfl rfl (Qc rfl rfl rfl) ?_
 refine Qa rfl rfl (Qc rfl rfl rfl) ?_
 refine Qa rfl rfl (Za rfl rfl Tryz.underlying40 rfl) ?_
 refine Qa rfl rfl (QT_lss rfl rfl rfl rfl) ?_
 refine Qf (Qb ?_)
 refine TC_cond rfl (fun h => absurd (h.symm.trans ((show (_ : Bool) = false by rfl))) (by decide)) (fun _ => ?_)
 refine Zd ?_
 refine Qi (Qi ?_)
 refine Qp ?_
 exact Qs (.inr rfl) (res0 rfl) ⟨_, ⟨rfl, rfl⟩, fun _ h => h⟩
theorem marked_nil_fixes (w0 : Base) (η : Heap) : CallsT Tryz.prog 65 [nilS] (St w0 η) fun v A' => v = .bool true ∧ A' = St w0 η := by
 refine CallsT.body Tryz.func65 rfl rfl ?_
 simp only [Tryz.ntmps65, slotsOf, Nat.reduceAdd]
 refine Qe (Qg ?_)
 refine Qa rfl rfl (Qd rfl rfl rfl) ?_
 refine Qf (Qb (Qe (Qe (Qg ?_))))
 refine Qa rfl rfl (Qd rfl rfl rfl) ?_
 refine Qf (Qb (Qr ?_))
 refine TC_loop (γ := Unit) (fun _ => [(0, true, nilS), (3, true, .int .i64 0)]) (fun _ => St w0 η) (fun _ => 0) () ⟨rfl, rfl, trivial⟩ (fun _ h => h) ?_
 rintro ⟨⟩
 dsimp only [nilS]
 refine Qe (Qe (Qg ?_))
 refine Qa rfl rfl (Qc rfl rfl rfl) ?_
 refine Qa rfl rfl (Qc rfl rfl rfl) ?_
 refine Qa rfl rfl (Za rfl rfl Tryz.underlying40 rfl) ?_
 refine Qa rfl rfl (QT_lss rfl rfl rfl rfl) ?_
 refine Qf (Qb ?_)
 refine TC_cond rfl (fun h => absurd (h.symm.trans ((show (_ : Bool) = false by rfl))) (by decide)) (fun _ => ?_)
 refine Zd ?_
 refine Qi (Qi ?_)
 refine Qp ?_
 refine Qb (Qe (Qg ?_))
 refine Qa rfl rfl (Qd rfl rfl rfl) ?_
 refine Qf (Qb ?_)
 refine Qu ?_
 exact Qs (.inl rfl) (res1 rfl rfl) ⟨_, ⟨rfl, rfl⟩, fun _ h => h⟩
theorem fill_nil_dots (w0 : Base) (η : Heap) : CallsT Tryz.prog 44 [nilS] (St w0 η) fun v A' => v = .tuple #[] ∧ A' = St w0 η := by
 refine CallsT.body Tryz.func44 rfl rfl ?_
 simp only [Tryz.ntmps44, slotsOf, Nat.reduceAdd]
 refine Qe (Qg ?_)
 refine Qa rfl rfl (Qd rfl rfl rfl) ?_
 refine Qf (Qb (Qr ?_))
 refine TC_loop (γ := Unit) (fun _ => [(0, true, nilS), (2, true, .int .i64 0)]) (fun _ => St w0 η) (fun _ => 0) () ⟨rfl, rfl, trivial⟩ (fun _ h => h) ?_
 rintro ⟨⟩
 dsimp only [nilS]
 refine Qe (Qe (Qg ?_))
 refine Qa rfl rfl (Qc rfl rfl rfl) ?_
 refine Qa rfl rfl (Qc rfl rfl rfl) ?_
 refine Qa rfl rfl (Za rfl rfl Tryz.underlying45 rfl) ?_
 refine Qa rfl rfl (QT_lss rfl rfl rfl rfl) ?_
 refine Qf (Qb ?_)
 refine TC_cond rfl (fun h => absurd (h.symm.trans ((show (_ : Bool) = false by rfl))) (by decide)) (fun _ => ?_)
 refine Zd ?_
 refine Qi (Qi ?_)
 refine Qp ?_
 exact Qs (.inr rfl) (res0 rfl) ⟨_, ⟨rfl, rfl⟩, fun _ h => h⟩
theorem grow_nil_dots (w0 : Base) (η : Heap) : CallsT Tryz.prog 57 [nilS] (St w0 η) fun v A' => v = .tuple #[] ∧ A' = St w0 η := by
 refine CallsT.body Tryz.func57 rfl rfl ?_
 simp only [Tryz.ntmps57, slotsOf, Nat.reduceAdd]
 refine Qe (Qg ?_)
 refine Qa rfl rfl (Qd rfl rfl rfl) ?_
 refine Qf (Qb (Qr ?_))
 refine TC_loop (γ := Unit) (fun _ => [(0, true, nilS), (2, true, .int .i64 0)]) (fun _ => St w0 η) (fun _ => 0) () ⟨rfl, rfl, trivial⟩ (fun _ h => h) ?_
 rintro ⟨⟩
 dsimp only [nilS]
 refine Qe (Qe (Qg ?_))
 refine Qa rfl rfl (Qc rfl rfl rfl) ?_
 refine Qa rfl rfl (Qc rfl rfl rfl) ?_
 refine Qa rfl rfl (Za rfl rfl Tryz.underlying45 rfl) ?_
 refine Qa rfl rfl (QT_lss rfl rfl rfl rfl) ?_
 refine Qf (Qb ?_)
 refine TC_cond rfl (fun h => absurd (h.symm.trans ((show (_ : Bool) = false by rfl))) (by decide)) (fun _ => ?_)
 refine Zd ?_
 refine Qi (Qi ?_)
 refine Qp ?_
 exact Qs (.inr rfl) (res0 rfl) ⟨_, ⟨rfl, rfl⟩, fun _ h => h⟩
theorem marked_nil_dots (w0 : Base) (η : Heap) : CallsT Tryz.prog 70 [nilS] (St w0 η) fun v A' => v = .bool true ∧ A' = St w0 η := by
 refine CallsT.body Tryz.func70 rfl rfl ?_
 simp only [Tryz.ntmps70, slotsOf, Nat.reduceAdd]
 refine Qe (Qg ?_)
 refine Qa rfl rfl (Qd rfl rfl rfl) ?_
 refine Qf (Qb (Qe (Qe (Qg ?_))))
 refine Qa rfl rfl (Qd rfl rfl rfl) ?_
 refine Qf (Qb (Qr ?_))
 refine TC_loop (γ := Unit) (fun _ => [(0, true, nilS), (3, true, .int .i64 0)]) (fun _ => St w0 η) (fun _ => 0) () ⟨rfl, rfl, trivial⟩ (fun _ h => h) ?_
 rintro ⟨⟩
 dsimp only [nilS]
 refine Qe (Qe (Qg ?_))
 refine Qa rfl rfl (Qc rfl rfl rfl) ?_
 refine Qa rfl rfl (Qc rfl rfl rfl) ?_
 refine Qa rfl rfl (Za rfl rfl Tryz.underlying45 rfl) ?_
 refine Qa rfl rfl (QT_lss rfl rfl rfl rfl) ?_
 refine Qf (Qb ?_)
 refine TC_cond rfl (fun h => absurd (h.symm.trans ((show (_ : Bool) = false by rfl))) (by decide)) (fun _ => ?_)
 refine Zd ?_
 refine Qi (Qi ?_)
 refine Qp ?_
 refine Qb (Qe (Qg ?_))
 refine Qa rfl rfl (Qd rfl rfl rfl) ?_
 refine Qf (Qb ?_)
 refine Qu ?_
 exact Qs (.inl rfl) (res1 rfl rfl) ⟨_, ⟨rfl, rfl⟩, fun _ h => h⟩
theorem fill_nil_facets (w0 : Base) (η : Heap) : CallsT Tryz.prog 45 [nilS] (St w0 η) fun v A' => v = .tuple #[] ∧ A' = St w0 η := by
 refine CallsT.body Tryz.func45 rfl rfl ?_
 simp only [Tryz.ntmps45, slotsOf, Nat.reduceAdd]
 refine Qe (Qg ?_)
 refine Qa rfl rfl (Qd rfl rfl rfl) ?_
 refine Qf (Qb (Qr ?_))
 refine TC_loop (γ := Unit) (fun _ => [(0, true, nilS), (2, true, .int .i64 0)]) (fun _ => St w0 η) (fun _ => 0) () ⟨rfl, rfl, trivial⟩ (fun _ h => h) ?_
 rintro ⟨⟩
 dsimp only [nilS]
 refine Qe (Qe (Qg ?_))
 refine Qa rfl rfl (Qc rfl rfl rfl) ?_
 refine Qa rfl rfl (Qc rfl rfl rfl) ?_
 refine Qa rfl rfl (Za rfl rfl Tryz.underlying46 rfl) ?_
 refine Qa rfl rfl (QT_lss rfl rfl rfl rfl) ?_
 refine Qf (Qb ?_)
 refine TC_cond rfl (fun h => absurd (h.symm.trans ((show (_ : Bool) = false by rfl))) (by decide)) (fun _ => ?_)
 refine Zd ?_
 refine Qi (Qi ?_)
 refine Qp ?_
 exact Qs (.inr rfl) (res0 rfl) ⟨_, ⟨rfl, rfl⟩, fun _ h => h⟩
theorem grow_nil_facets (w0 : Base) (η : Heap) : CallsT Tryz.prog 58 [nilS] (St w0 η) fun v A' => v = .tuple #[] ∧ A' = St w0 η := by
 refine CallsT.body Tryz.func58 rfl rfl ?_
 simp only [Tryz.ntmps58, slotsOf, Nat.reduceAdd]
 refine Qe (Qg ?_)
 refine Qa rfl rfl (Qd rfl rfl rfl) ?_
 refine Qf (Qb (Qr ?_))
 refine TC_loop (γ := Unit) (fun _ => [(0, true, nilS), (2, true, .int .i64 0)]) (fun _ => St w0 η) (fun _ => 0) () ⟨rfl, rfl, trivial⟩ (fun _ h => h) ?_
 rintro ⟨⟩
 dsimp only [nilS]
 refine Qe (Qe (Qg ?_))
 refine Qa rfl rfl (Qc rfl rfl rfl) ?_
 refine Qa rfl rfl (Qc rfl rfl rfl) ?_
 refine Qa rfl rfl (Za rfl rfl Tryz.underlying46 rfl) ?_
 refine Qa rfl rfl (QT_lss rfl rfl rfl rfl) ?_
 refine Qf (Qb ?_)
 refine TC_cond rfl (fun h => absurd (h.symm.trans ((show (_ : Bool) = false by rfl))) (by decide)) (fun _ => ?_)
 refine Zd ?_
 refine Qi (Qi ?_)
 refine Qp ?_
 exact Qs (.inr rfl) (res0 rfl) ⟨_, ⟨rfl, rfl⟩, fun _ h => h⟩
theorem marked_nil_facets (w0 : Base) (η : Heap) : CallsT Tryz.prog 71 [nilS] (St w0 η) fun v A' => v = .bool true ∧ A' = St w0 η := by
 refine CallsT.body Tryz.func71 rfl rfl ?_
 simp only [Tryz.ntmps71, slotsOf, Nat.reduceAdd]
 refine Qe (Qg ?_)
 refine Qa rfl rfl (Qd rfl rfl rfl) ?_
 refine Qf (Qb (Qe (Qe (Qg ?_))))
 refine Qa rfl rfl (Qd rfl rfl rfl) ?_
 refine Qf (Qb (Qr ?_))
 refine TC_loop (γ := Unit) (fun _ => [(0, true, nilS), (3, true, .int .i64 0)]) (fun _ => St w0 η) (fun _ => 0) () ⟨rfl, rfl, trivial⟩ (fun _ h => h) ?_
 rintro ⟨⟩
 dsimp only [nilS]
 refine Qe (Qe (Qg ?_))
 refine Qa rfl rfl (Qc rfl rfl rfl) ?_
 refine Qa rfl rfl (Qc rfl rfl rfl) ?_
 refine Qa rfl rfl (Za rfl rfl Tryz.underlying46 rfl) ?_
 refine Qa rfl rfl (QT_lss rfl rfl rfl rfl) ?_
 refine Qf (Qb ?_)
 refine TC_cond rfl (fun h => absurd (h.symm.trans ((show (_ : Bool) = false by rfl))) (by decide)) (fun _ => ?_)
 refine Zd ?_
 refine Qi (Qi ?_)
 refine Qp ?_
 refine Qb (Qe (Qg ?_))
 refine Qa rfl rfl (Qd rfl rfl rfl) ?_
 refine Qf (Qb ?_)
 refine Qu ?_
 exact Qs (.inl rfl) (res1 rfl rfl) ⟨_, ⟨rfl, rfl⟩, fun _ h => h⟩
theorem fill_nil_tokens (w0 : Base) (η : Heap) : CallsT Tryz.prog 46 [nilS] (St w0 η) fun v A' => v = .tuple #[] ∧ A' = St w0 η := by
 refine CallsT.body Tryz.func46 rfl rfl ?_
 simp only [Tryz.ntmps46, slotsOf, Nat.reduceAdd]
 refine Qe (Qg ?_)
 refine Qa rfl rfl (Qd rfl rfl rfl) ?_
 refine Qf (Qb (Qr ?_))
 refine TC_loop (γ := Unit) (fun _ => [(0, true, nilS), (2, true, .int .i64 0)]) (fun _ => St w0 η) (fun _ => 0) () ⟨rfl, rfl, trivial⟩ (fun _ h => h) ?_
 rintro ⟨⟩
 dsimp only [nilS]
 refine Qe (Qe (Qg ?_))
 refine Qa rfl rfl (Qc rfl rfl rfl) ?_
 refine Qa rfl rfl (Qc rfl rfl rfl) ?_
 refine Qa rfl rfl (Za rfl rfl Tryz.underlying47 rfl) ?_
 refine Qa rfl rfl (QT_lss rfl rfl rfl rfl) ?_
 refine Qf (Qb ?_)
 refine TC_cond rfl (fun h => absurd (h.symm.trans ((show (_ : Bool) = false by rfl))) (by decide)) (fun _ => ?_)
 refine Zd ?_
 refine Qi (Qi ?_)
 refine Qp ?_
 exact Qs (.inr rfl) (res0 rfl) ⟨_, ⟨rfl, rfl⟩, fun _ h => h⟩
theorem grow_nil_tokens (w0 : Base) (η : Heap) : CallsT Tryz.prog 59 [nilS] (St w0 η) fun v A' => v = .tuple #[] ∧ A' = St w0 η := by
 refine CallsT.body Tryz.func59 rfl rfl ?_
 simp only [Tryz.ntmps59, slotsOf, Nat.reduceAdd]
 refine Qe (Qg ?_)
 refine Qa rfl rfl (Qd rfl rfl rfl) ?_
 refine Qf (Qb (Qr ?_))
 refine TC_loop (γ := Unit) (fun _ => [(0, true, nilS), (2, true, .int .i64 0)]) (fun _ => St w0 η) (fun _ => 0) () ⟨rfl, rfl, trivial⟩ (fun _ h => h) ?_
 rintro ⟨⟩
 dsimp only [nilS]
 refine Qe (Qe (Qg ?_))
 refine Qa rfl rfl (Qc rfl rfl rfl) ?_
 refine Qa rfl rfl (Qc rfl rfl rfl) ?_
 refine Qa rfl rfl (Za rfl rfl Tryz.underlying47 rfl) ?_
 refine Qa rfl rfl (QT_lss rfl rfl rfl rfl) ?_
 refine Qf (Qb ?_)
 refine TC_cond rfl (fun h => absurd (h.symm.trans ((show (_ : Bool) = false by rfl))) (by decide)) (fun _ => ?_)
 refine Zd ?_
 refine Qi (Qi ?_)
 refine Qp ?_
 exact Qs (.inr rfl) (res0 rfl) ⟨_, ⟨rfl, rfl⟩, fun _ h => h⟩
theorem marked_nil_tokens (w0 : Base) (η : Heap) : CallsT Tryz.prog 72 [nilS] (St w0 η) fun v A' => v = .bool true ∧ A' = St w0 η := by
 refine CallsT.body Tryz.func72 rfl rfl ?_
 simp only [Tryz.ntmps72, slotsOf, Nat.reduceAdd]
 refine Qe (Qg ?_)
 refine Qa rfl rfl (Qd rfl rfl rfl) ?_
 refine Qf (Qb (Qe (Qe (Qg ?_))))
 refine Qa rfl rfl (Qd rfl rfl rfl) ?_
 refine Qf (Qb (Qr ?_))
 refine TC_loop (γ := Unit) (fun _ => [(0, true, nilS), (3, true, .int .i64 0)]) (fun _ => St w0 η) (fun _ => 0) () ⟨rfl, rfl, trivial⟩ (fun _ h => h) ?_
 rintro ⟨⟩
 dsimp only [nilS]
 refine Qe (Qe (Qg ?_))
 refine Qa rfl rfl (Qc rfl rfl rfl) ?_
 refine Qa rfl rfl (Qc rfl rfl rfl) ?_
 refine Qa rfl rfl (Za rfl rfl Tryz.underlying47 rfl) ?_
 refine Qa rfl rfl (QT_lss rfl rfl rfl rfl) ?_
 refine Qf (Qb ?_)
 refine TC_cond rfl (fun h => absurd (h.symm.trans ((show (_ : Bool) = false by rfl))) (by decide)) (fun _ => ?_)
 refine Zd ?_
 refine Qi (Qi ?_)
 refine Qp ?_
 refine Qb (Qe (Qg ?_))
 refine Qa rfl rfl (Qd rfl rfl rfl) ?_
 refine Qf (Qb ?_)
 refine Qu ?_
 exact Qs (.inl rfl) (res1 rfl rfl) ⟨_, ⟨rfl, rfl⟩, fun _ h => h⟩
theorem fill_nil_codes (w0 : Base) (η : Heap) : CallsT Tryz.prog 47 [nilS] (St w0 η) fun v A' => v = .tuple #[] ∧ A' = St w0 η := by
 refine CallsT.body Tryz.func47 rfl rfl ?_
 simp only [Tryz.ntmps47, slotsOf, Nat.reduceAdd]
 refine Qe (Qg ?_)
 refine Qa rfl rfl (Qd rfl rfl rfl) ?_
 refine Qf (Qb (Qr ?_))
 refine TC_loop (γ := Unit) (fun _ => [(0, true, nilS), (2, true, .int .i64 0)]) (fun _ => St w0 η) (fun _ => 0) () ⟨rfl, rfl, trivial⟩ (fun _ h => h) ?_
 rintro ⟨⟩
 dsimp only [nilS]
 refine Qe (Qe (Qg ?_))
 refine Qa rfl rfl (Qc rfl rfl rfl) ?_
 refine Qa rfl rfl (Qc rfl rfl rfl) ?_
 refine Qa rfl rfl (Za rfl rfl Tryz.underlying48 rfl) ?_
 refine Qa rfl rfl (QT_lss rfl rfl rfl rfl) ?_
 refine Qf (Qb ?_)
 refine TC_cond rfl (fun h => absurd (h.symm.trans ((show (_ : Bool) = false by rfl))) (by decide)) (fun _ => ?_)
 refine Zd ?_
 refine Qi (Qi ?_)
 refine Qp ?_
 exact Qs (.inr rfl) (res0 rfl) ⟨_, ⟨rfl, rfl⟩, fun _ h => h⟩
theorem grow_nil_codes (w0 : Base) (η : Heap) : CallsT Tryz.prog 60 [nilS] (St w0 η) fun v A' => v = .tuple #[] ∧ A' = St w0 η := by
 refine CallsT.body Tryz.func60 rfl rfl ?_
 simp only [Tryz.ntmps60, slotsOf, Nat.reduceAdd]
 refine Qe (Qg ?_)
 refine Qa rfl rfl (Qd rfl rfl rfl) ?_
 refine Qf (Qb (Qr ?_))
 refine TC_loop (γ := Unit) (fun _ => [(0, true, nilS), (2, true, .int .i64 0)]) (fun _ => St w0 η) (fun _ => 0) () ⟨rfl, rfl, trivial⟩ (fun _ h => h) ?_
 rintro ⟨⟩
 dsimp only [nilS]
 refine Qe (Qe (Qg ?_))
 refine Qa rfl rfl (Qc rfl rfl rfl) ?_
 refine Qa rfl rfl (Qc rfl rfl rfl) ?_
 refine Qa rfl rfl (Za rfl rfl Tryz.underlying48 rfl) ?_
 refine Qa rfl rfl (QT_lss rfl rfl rfl rfl) ?_
 refine Qf (Qb ?_)
 refine TC_cond rfl (fun h => absurd (h.symm.trans ((show (_ : Bool) = false by rfl))) (by decide)) (fun _ => ?_)
 refine Zd ?_
 refine Qi (Qi ?_)
 refine Qp ?_
 exact Qs (.inr rfl) (res0 rfl) ⟨_, ⟨rfl, rfl⟩, fun _ h => h⟩
theorem marked_nil_codes (w0 : Base) (η : Heap) : CallsT Tryz.prog 73 [nilS] (St w0 η) fun v A' => v = .bool true ∧ A' = St w0 η := by
 refine CallsT.body Tryz.func73 rfl rfl ?_
 simp only [Tryz.ntmps73, slotsOf, Nat.reduceAdd]
 refine Qe (Qg ?_)
 refine Qa rfl rfl (Qd rfl rfl rfl) ?_
 refine Qf (Qb (Qe (Qe (Qg ?_))))
 refine Qa rfl rfl (Qd rfl rfl rfl) ?_
 refine Qf (Qb (Qr ?_))
 refine TC_loop (γ := Unit) (fun _ => [(0, true, nilS), (3, true, .int .i64 0)]) (fun _ => St w0 η) (fun _ => 0) () ⟨rfl, rfl, trivial⟩ (fun _ h => h) ?_
 rintro ⟨⟩
 dsimp only [nilS]
 refine Qe (Qe (Qg ?_))
 refine Qa rfl rfl (Qc rfl rfl rfl) ?_
 refine Qa rfl rfl (Qc rfl rfl rfl) ?_
 refine Qa rfl rfl (Za rfl rfl Tryz.underlying48 rfl) ?_
 refine Qa rfl rfl (QT_lss rfl rfl rfl rfl) ?_
 refine Qf (Qb ?_)
 refine TC_cond rfl (fun h => absurd (h.symm.trans ((show (_ : Bool) = false by rfl))) (by decide)) (fun _ => ?_)
 refine Zd ?_
 refine Qi (Qi ?_)
 refine Qp ?_
 refine Qb (Qe (Qg ?_))
 refine Qa rfl rfl (Qd rfl rfl rfl) ?_
 refine Qf (Qb ?_)
 refine Qu ?_
 exact Qs (.inl rfl) (res1 rfl rfl) ⟨_, ⟨rfl, rfl⟩, fun _ h => h⟩
theorem fill_nil_vals (w0 : Base) (η : Heap) : CallsT Tryz.prog 48 [nilS] (St w0 η) fun v A' => v = .tuple #[] ∧ A' = St w0 η := by
 refine CallsT.body Tryz.func48 rfl rfl ?_
 simp only [Tryz.ntmps48, slotsOf, Nat.reduceAdd]
 refine Qe (Qg ?_)
 refine Qa rfl rfl (Qd rfl rfl rfl) ?_
 refine Qf (Qb (Qr ?_))
 refine TC_loop (γ := Unit) (fun _ => [(0, true, nilS), (2, true, .int .i64 0)]) (fun _ => St w0 η) (fun _ => 0) () ⟨rfl, rfl, trivial⟩ (fun _ h => h) ?_
 rintro ⟨⟩
 dsimp only [nilS]
 refine Qe (Qe (Qg ?_))
 refine Qa rfl rfl (Qc rfl rfl rfl) ?_
 refine Qa rfl rfl (Qc rfl rfl rfl) ?_
 refine Qa rfl rfl (Za rfl rfl Tryz.underlying49 rfl) ?_
 refine Qa rfl rfl (QT_lss rfl rfl rfl rfl) ?_
 refine Qf (Qb ?_)
 refine TC_cond rfl (fun h => absurd (h.symm.trans ((show (_ : Bool) = false by rfl))) (by decide)) (fun _ => ?_)
 refine Zd ?_
 refine Qi (Qi ?_)
 refine Qp ?_
 exact Qs (.inr rfl) (res0 rfl) ⟨_, ⟨rfl, rfl⟩, fun _ h => h⟩
theorem grow_nil_vals (w0 : Base) (η : Heap) : CallsT Tryz.prog 61 [nilS] (St w0 η) fun v A' => v = .tuple #[] ∧ A' = St w0 η := by
 refine CallsT.body Tryz.func61 rfl rfl ?_
 simp only [Tryz.ntmps61, slotsOf, Nat.reduceAdd]
 refine Qe (Qg ?_)
 refine Qa rfl rfl (Qd rfl rfl rfl) ?_
 refine Qf (Qb (Qr ?_))
 refine TC_loop (γ := Unit) (fun _ => [(0, true, nilS), (2, true, .int .i64 0)]) (fun _ => St w0 η) (fun _ => 0) () ⟨rfl, rfl, trivial⟩ (fun _ h => h) ?_
 rintro ⟨⟩
 dsimp only [nilS]
 refine Qe (Qe (Qg ?_))
 refine Qa rfl rfl (Qc rfl rfl rfl) ?_
 refine Qa rfl rfl (Qc rfl rfl rfl) ?_
 refine Qa rfl rfl (Za rfl rfl Tryz.underlying49 rfl) ?_
 refine Qa rfl rfl (QT_lss rfl rfl rfl rfl) ?_
 refine Qf (Qb ?_)
 refine TC_cond rfl (fun h => absurd (h.symm.trans ((show (_ : Bool) = false by rfl))) (by decide)) (fun _ => ?_)
 refine Zd ?_
 refine Qi (Qi ?_)
 refine Qp ?_
 exact Qs (.inr rfl) (res0 rfl) ⟨_, ⟨rfl, rfl⟩, fun _ h => h⟩
theorem marked_nil_vals (w0 : Base) (η : Heap) : CallsT Tryz.prog 74 [nilS] (St w0 η) fun v A' => v = .bool true ∧ A' = St w0 η := by
 refine CallsT.body Tryz.func74 rfl rfl ?_
 simp only [Tryz.ntmps74, slotsOf, Nat.reduceAdd]
 refine Qe (Qg ?_)
 refine Qa rfl rfl (Qd rfl rfl rfl) ?_
 refine Qf (Qb (Qe (Qe (Qg ?_))))
 refine Qa rfl rfl (Qd rfl rfl rfl) ?_
 refine Qf (Qb (Qr ?_))
 refine TC_loop (γ := Unit) (fun _ => [(0, true, nilS), (3, true, .int .i64 0)]) (fun _ => St w0 η) (fun _ => 0) () ⟨rfl, rfl, trivial⟩ (fun _ h => h) ?_
 rintro ⟨⟩
 dsimp only [nilS]
 refine Qe (Qe (Qg ?_))
 refine Qa rfl rfl (Qc rfl rfl rfl) ?_
 refine Qa rfl rfl (Qc rfl rfl rfl) ?_
 refine Qa rfl rfl (Za rfl rfl Tryz.underlying49 rfl) ?_
 refine Qa rfl rfl (QT_lss rfl rfl rfl rfl) ?_
 refine Qf (Qb ?_)
 refine TC_cond rfl (fun h => absurd (h.symm.trans ((show (_ : Bool) = false by rfl))) (by decide)) (fun _ => ?_)
 refine Zd ?_
 refine Qi (Qi ?_)
 refine Qp ?_
 refine Qb (Qe (Qg ?_))
 refine Qa rfl rfl (Qd rfl rfl rfl) ?_
 refine Qf (Qb ?_)
 refine Qu ?_
 exact Qs (.inl rfl) (res1 rfl rfl) ⟨_, ⟨rfl, rfl⟩, fun _ h => h⟩
theorem fill_nil_spots (w0 : Base) (η : Heap) : CallsT Tryz.prog 49 [nilS] (St w0 η) fun v A' => v = .tuple #[] ∧ A' = St w0 η := by
 refine CallsT.body Tryz.func49 rfl rfl ?_
 simp only [Tryz.ntmps49, slotsOf, Nat.reduceAdd]
 refine Qe (Qg ?_)
 refine Qa rfl rfl (Qd rfl rfl rfl) ?_
 refine Qf (Qb (Qr ?_))
 refine TC_loop (γ := Unit) (fun _ => [(0, true, nilS), (2, true, .int .i64 0)]) (fun _ => St w0 η) (fun _ => 0) () ⟨rfl, rfl, trivial⟩ (fun _ h => h) ?_
 rintro ⟨⟩
 dsimp only [nilS]
 refine Qe (Qe (Qg ?_))
 refine Qa rfl rfl (Qc rfl rfl rfl) ?_
 refine Qa rfl rfl (Qc rfl rfl rfl) ?_
 refine Qa rfl rfl (Za rfl rfl Tryz.underlying50 rfl) ?_
 refine Qa rfl rfl (QT_lss rfl rfl rfl rfl) ?_
 refine Qf (Qb ?_)
 refine TC_cond rfl (fun h => absurd (h.symm.trans ((show (_ : Bool) = false by rfl))) (by decide)) (fun _ => ?_)
 refine Zd ?_
 refine Qi (Qi ?_)
 refine Qp ?_
 exact Qs (.inr rfl) (res0 rfl) ⟨_, ⟨rfl, rfl⟩, fun _ h => h⟩
theorem grow_nil_spots (w0 : Base) (η : Heap) : CallsT Tryz.prog 62 [nilS] (St w0 η) fun v A' => v = .tuple #[] ∧ A' = St w0 η := by
 refine CallsT.body Tryz.func62 rfl rfl ?_
 simp only [Tryz.ntmps62, slotsOf, Nat.reduceAdd]
 refine Qe (Qg ?_)
 refine Qa rfl rfl (Qd rfl rfl rfl) ?_
 refine Qf (Qb (Qr ?_))
 refine TC_loop (γ := Unit) (fun _ => [(0, true, nilS), (2, true, .int .i64 0)]) (fun _ => St w0 η) (fun _ => 0) () ⟨rfl, rfl, trivial⟩ (fun _ h => h) ?_
 rintro ⟨⟩
 dsimp only [nilS]
 refine Qe (Qe (Qg ?_))
 refine Qa rfl rfl (Qc rfl rfl rfl) ?_
 refine Qa rfl rfl (Qc rfl rfl rfl) ?_
 refine Qa rfl rfl (Za rfl rfl Tryz.underlying50 rfl) ?_
 refine Qa rfl rfl (QT_lss rfl rfl rfl rfl) ?_
 refine Qf (Qb ?_)
 refine TC_cond rfl (fun h => absurd (h.symm.trans ((show (_ : Bool) = false by rfl))) (by decide)) (fun _ => ?_)
 refine Zd ?_
 refine Qi (Qi ?_)
 refine Qp ?_
 exact Qs (.inr rfl) (res0 rfl) ⟨_, ⟨rfl, rfl⟩, fun _ h => h⟩
theorem marked_nil_spots (w0 : Base) (η : Heap) : CallsT Tryz.prog 75 [nilS] (St w0 η) fun v A' => v = .bool true ∧ A' = St w0 η := by
 refine CallsT.body Tryz.func75 rfl rfl ?_
 simp only [Tryz.ntmps75, slotsOf, Nat.reduceAdd]
 refine Qe (Qg ?_)
 refine Qa rfl rfl (Qd rfl rfl rfl) ?_
 refine Qf (Qb (Qe (Qe (Qg ?_))))
 refine Qa rfl rfl (Qd rfl rfl rfl) ?_
 refine Qf (Qb (Qr ?_))
 refine TC_loop (γ := Unit) (fun _ => [(0, true, nilS), (3, true, .int .i64 0)]) (fun _ => St w0 η) (fun _ => 0) () ⟨rfl, rfl, trivial⟩ (fun _ h => h) ?_
 rintro ⟨⟩
 dsimp only [nilS]
 refine Qe (Qe (Qg ?_))
 refine Qa rfl rfl (Qc rfl rfl rfl) ?_
 refine Qa rfl rfl (Qc rfl rfl rfl) ?_
 refine Qa rfl rfl (Za rfl rfl Tryz.underlying50 rfl) ?_
 refine Qa rfl rfl (QT_lss rfl rfl rfl rfl) ?_
 refine Qf (Qb ?_)
 refine TC_cond rfl (fun h => absurd (h.symm.trans ((show (_ : Bool) = false by rfl))) (by decide)) (fun _ => ?_)
 refine Zd ?_
 refine Qi (Qi ?_)
 refine Qp ?_
 refine Qb (Qe (Qg ?_))
 refine Qa rfl rfl (Qd rfl rfl rfl) ?_
 refine Qf (Qb ?_)
 refine Qu ?_
 exact Qs (.inl rfl) (res1 rfl rfl) ⟨_, ⟨rfl, rfl⟩, fun _ h => h⟩
theorem apart_spec (w0 : Base) (η : Heap) (kb : Nat) (k : Bk) (h0 : 0 ≤ k.many ∧ k.many ≤ 250) (ss_bytes : List Strip) (H_bytes : Heap) (hF_bytes : Frag 94 3 k.bytes ss_bytes.length (arrOf ss_bytes) H_bytes) (hs_bytes : ∀ s ∈ ss_bytes, s.ok 5 1 byteK) (ss_recs : List Strip) (H_recs : Heap) (hF_recs : Frag 186 9 k.recs ss_recs.length (arrOf ss_recs) H_recs) (hs_recs : ∀ s ∈ ss_recs, s.ok 77 7 recK) (ss_tris : List Strip) (H_tris : Heap) (hF_tris : Frag 160 23 k.tris ss_tris.length (arrOf ss_tris) H_tris) (hs_tris : ∀ s ∈ ss_tris, s.ok 79 21 triK) (ss_sheets : List Strip) (H_sheets : Heap) (hF_sheets : Frag 188 51 k.sheets ss_sheets.length (arrOf ss_sheets) H_sheets) (hs_sheets : ∀ s ∈ ss_sheets, s.ok 102 49 sheetK) (ss_tiles : List Strip) (H_tiles : Heap) (hF_tiles : Frag 162 50 k.tiles ss_tiles.length (arrOf ss_tiles) H_tiles) (hs_tiles : ∀ s ∈ ss_tiles, s.ok 112 48 patchK) (hn_bits : k.bits = nilS) (hn_fixes : k.fixes = nilS) (hn_dots : k.dots = nilS) (hn_facets : k.facets = nilS) (hn_tokens : k.tokens = nilS) (hn_codes : k.codes = nilS) (hn_vals : k.vals = nilS) (hn_spots : k.spots = nilS) :
  CallsT Tryz.prog 13 [.pointer (some ⟨kb, 0, none⟩)] (St w0 ((kb, 52, k.cells) :: (H_bytes ++ (H_recs ++ (H_tris ++ (H_sheets ++ (H_tiles ++ (heapOf ss_bytes ++ (heapOf ss_recs ++ (heapOf ss_tris ++ (heapOf ss_sheets ++ (heapOf ss_tiles ++ (η))))))))))))) fun v A' => v = .bool true ∧ A' = St w0 η := by
 obtain ⟨many, kbytes, kbits, kfixes, krecs, ktris, ksheets, ktiles, kdots, kfacets, ktokens, kcodes, kvals, kspots⟩ := k
 dsimp only at h0 hF_bytes hF_recs hF_tris hF_sheets hF_tiles hn_bits hn_fixes hn_dots hn_facets hn_tokens hn_codes hn_vals hn_spots
 subst hn_bits hn_fixes hn_dots hn_facets hn_tokens hn_codes hn_vals hn_spots
 have hFf_bytes : Frag 94 3 kbytes (ss_bytes.map (fillS 1)).length (arrOf (ss_bytes.map (fillS 1))) H_bytes := by rw [List.length_map, arrOf_fill]; exact hF_bytes
 have hsf_bytes : ∀ s ∈ ss_bytes.map (fillS 1), s.ok 5 1 byteK ∧ s.xs = marks s.n s.mark := fun s h => by
  obtain ⟨s', h1, rfl⟩ := List.mem_map.1 h
  exact ⟨fillS_ok (hs_bytes s' h1) rfl, rfl⟩
 have hFf_recs : Frag 186 9 krecs (ss_recs.map (fillS 7)).length (arrOf (ss_recs.map (fillS 7))) H_recs := by rw [List.length_map, arrOf_fill]; exact hF_recs
 have hsf_recs : ∀ s ∈ ss_recs.map (fillS 7), s.ok 77 7 recK ∧ s.xs = marks s.n s.mark := fun s h => by
  obtain ⟨s', h1, rfl⟩ := List.mem_map.1 h
  exact ⟨fillS_ok (hs_recs s' h1) rfl, rfl⟩
 have hFf_tris : Frag 160 23 ktris (ss_tris.map (fillS 21)).length (arrOf (ss_tris.map (fillS 21))) H_tris := by rw [List.length_map, arrOf_fill]; exact hF_tris
 have hsf_tris : ∀ s ∈ ss_tris.map (fillS 21), s.ok 79 21 triK ∧ s.xs = marks s.n s.mark := fun s h => by
  obtain ⟨s', h1, rfl⟩ := List.mem_map.1 h
  exact ⟨fillS_ok (hs_tris s' h1) rfl, rfl⟩
 have hFf_sheets : Frag 188 51 ksheets (ss_sheets.map (fillS 49)).length (arrOf (ss_sheets.map (fillS 49))) H_sheets := by rw [List.length_map, arrOf_fill]; exact hF_sheets
 have hsf_sheets : ∀ s ∈ ss_sheets.map (fillS 49), s.ok 102 49 sheetK ∧ s.xs = marks s.n s.mark := fun s h => by
  obtain ⟨s', h1, rfl⟩ := List.mem_map.1 h
  exact ⟨fillS_ok (hs_sheets s' h1) rfl, rfl⟩
 have hFf_tiles : Frag 162 50 ktiles (ss_tiles.map (fillS 48)).length (arrOf (ss_tiles.map (fillS 48))) H_tiles := by rw [List.length_map, arrOf_fill]; exact hF_tiles
 have hsf_tiles : ∀ s ∈ ss_tiles.map (fillS 48), s.ok 112 48 patchK ∧ s.xs = marks s.n s.mark := fun s h => by
  obtain ⟨s', h1, rfl⟩ := List.mem_map.1 h
  exact ⟨fillS_ok (hs_tiles s' h1) rfl, rfl⟩
 refine CallsT.body Tryz.func13 rfl rfl ?_
 simp only [Tryz.ntmps13, slotsOf, Nat.reduceAdd]
 refine Qe (Qg ?_)
 refine Qa rfl rfl (Qd rfl rfl rfl) ?_
 refine Qf (Qb (Qe (Qe (Qg ?_))))
 refine Qa rfl rfl (Qc rfl rfl rfl) ?_
 refine Qa rfl rfl (Qv rfl rfl rfl) ?_
 refine Qa rfl rfl (Qh rfl rfl KF.fld_52_0 rfl) ?_
 refine Qa rfl rfl (Qj 0 rfl rfl Tryz.underlying3 rfl rfl rfl (fun _ => rfl)) ?_
 refine Qa rfl rfl (QT_gtr rfl rfl rfl rfl) ?_
 refine Qf (Qb ?_)
 refine TC_cond rfl (fun h => absurd (h.symm.trans ((show decide _ = false by simp; omega))) (by decide)) (fun _ => ?_)
 refine Qt (Qb (Qe (Qg ?_)))
 refine Qa rfl rfl (Qc rfl rfl rfl) ?_
 refine Qa rfl rfl (Qv rfl rfl rfl) ?_
 refine Qa rfl rfl (Qh rfl rfl KF.fld_52_1 rfl) ?_
 refine Qa rfl rfl (Qj 0 rfl rfl Tryz.underlying38 rfl rfl rfl (fun _ => rfl)) ?_
 refine TL_A (St w0 (heapOf (ss_bytes) ++ ((kb, 52, Bk.cells ⟨many, kbytes, nilS, nilS, krecs, ktris, ksheets, ktiles, nilS, nilS, nilS, nilS, nilS, nilS⟩) :: (H_bytes ++ (H_recs ++ (H_tris ++ (H_sheets ++ (H_tiles ++ (heapOf (ss_recs) ++ (heapOf (ss_tris) ++ (heapOf (ss_sheets) ++ (heapOf (ss_tiles) ++ (η))))))))))))) (fun _ h => h.cnt fun p => by simp only [List.countP_append, List.countP_cons, List.countP_nil]; omega) ?_
 refine TL_e rfl rfl rfl (rfl) (ET_call rfl KF.cal_37 rfl (fill_Byte w0 _ _ ss_bytes hs_bytes ((hF_bytes.sla (η := [])).mono (fun _ h => h.cnt fun p => by simp only [List.countP_append, List.countP_cons, List.countP_nil]; omega)))) ?_
 rintro _ _ rfl
 refine Qf (Qb (Qe ?_))
 refine TC_A (St w0 ((kb, 52, Bk.cells ⟨many, kbytes, nilS, nilS, krecs, ktris, ksheets, ktiles, nilS, nilS, nilS, nilS, nilS, nilS⟩) :: (H_bytes ++ (H_recs ++ (H_tris ++ (H_sheets ++ (H_tiles ++ (heapOf (ss_bytes.map (fillS 1)) ++ (heapOf (ss_recs) ++ (heapOf (ss_tris) ++ (heapOf (ss_sheets) ++ (heapOf (ss_tiles) ++ (η))))))))))))) (fun _ h => h.cnt fun p => by simp only [List.countP_append, List.countP_cons, List.countP_nil]; omega) ?_
 refine Qg ?_
 refine Qa rfl rfl (Qc rfl rfl rfl) ?_
 refine Qa rfl rfl (Qv rfl rfl rfl) ?_
 refine Qa rfl rfl (Qh rfl rfl KF.fld_52_2 rfl) ?_
 refine Qa rfl rfl (Qj 0 rfl rfl Tryz.underlying39 rfl rfl rfl (fun _ => rfl)) ?_
 refine TL_cq rfl rfl rfl rfl KF.cal_38 rfl (fun _ => fill_nil_bits w0 _) ?_
 refine Qf (Qb (Qe (Qg ?_)))
 refine Qa rfl rfl (Qc rfl rfl rfl) ?_
 refine Qa rfl rfl (Qv rfl rfl rfl) ?_
 refine Qa rfl rfl (Qh rfl rfl KF.fld_52_3 rfl) ?_
 refine Qa rfl rfl (Qj 0 rfl rfl Tryz.underlying40 rfl rfl rfl (fun _ => rfl)) ?_
 refine TL_cq rfl rfl rfl rfl KF.cal_39 rfl (fun _ => fill_nil_fixes w0 _) ?_
 refine Qf (Qb (Qe (Qg ?_)))
 refine Qa rfl rfl (Qc rfl rfl rfl) ?_
 refine Qa rfl rfl (Qv rfl rfl rfl) ?_
 refine Qa rfl rfl (Qh rfl rfl KF.fld_52_4 rfl) ?_
 refine Qa rfl rfl (Qj 0 rfl rfl Tryz.underlying41 rfl rfl rfl (fun _ => rfl)) ?_
 refine TL_A (St w0 (heapOf (ss_recs) ++ ((kb, 52, Bk.cells ⟨many, kbytes, nilS, nilS, krecs, ktris, ksheets, ktiles, nilS, nilS, nilS, nilS, nilS, nilS⟩) :: (H_bytes ++ (H_recs ++ (H_tris ++ (H_sheets ++ (H_tiles ++ (heapOf (ss_bytes.map (fillS 1)) ++ (heapOf (ss_tris) ++ (heapOf (ss_sheets) ++ (heapOf (ss_tiles) ++ (η))))))))))))) (fun _ h => h.cnt fun p => by simp only [List.countP_append, List.countP_cons, List.countP_nil]; omega) ?_
 refine TL_e rfl rfl rfl (rfl) (ET_call rfl KF.cal_40 rfl (fill_Rec w0 _ _ ss_recs hs_recs ((hF_recs.sla (η := [])).mono (fun _ h => h.cnt fun p => by simp only [List.countP_append, List.countP_cons, List.countP_nil]; omega)))) ?_
 rintro _ _ rfl
 refine Qf (Qb (Qe ?_))
 refine TC_A (St w0 ((kb, 52, Bk.cells ⟨many, kbytes, nilS, nilS, krecs, ktris, ksheets, ktiles, nilS, nilS, nilS, nilS, nilS, nilS⟩) :: (H_bytes ++ (H_recs ++ (H_tris ++ (H_sheets ++ (H_tiles ++ (heapOf (ss_bytes.map (fillS 1)) ++ (heapOf (ss_recs.map (fillS 7)) ++ (heapOf (ss_tris) ++ (heapOf (ss_sheets) ++ (heapOf (ss_tiles) ++ (η))))))))))))) (fun _ h => h.cnt fun p => by simp only [List.countP_append, List.countP_cons, List.countP_nil]; omega) ?_
 refine Qg ?_
 refine Qa rfl rfl (Qc rfl rfl rfl) ?_
 refine Qa rfl rfl (Qv rfl rfl rfl) ?_
 refine Qa rfl rfl (Qh rfl rfl KF.fld_52_5 rfl) ?_
 refine Qa rfl rfl (Qj 0 rfl rfl Tryz.underlying42 rfl rfl rfl (fun _ => rfl)) ?_
 refine TL_A (St w0 (heapOf (ss_tris) ++ ((kb, 52, Bk.cells ⟨many, kbytes, nilS, nilS, krecs, ktris, ksheets, ktiles, nilS, nilS, nilS, nilS, nilS, nilS⟩) :: (H_bytes ++ (H_recs ++ (H_tris ++ (H_sheets ++ (H_tiles ++ (heapOf (ss_bytes.map (fillS 1)) ++ (heapOf (ss_recs.map (fillS 7)) ++ (heapOf (ss_sheets) ++ (heapOf (ss_tiles) ++ (η))))))))))))) (fun _ h => h.cnt fun p => by simp only [List.countP_append, List.countP_cons, List.countP_nil]; omega) ?_
 refine TL_e rfl rfl rfl (rfl) (ET_call rfl KF.cal_41 rfl (fill_Tri w0 _ _ ss_tris hs_tris ((hF_tris.sla (η := [])).mono (fun _ h => h.cnt fun p => by simp only [List.countP_append, List.countP_cons, List.countP_nil]; omega)))) ?_
 rintro _ _ rfl
 refine Qf (Qb (Qe ?_))
 refine TC_A (St w0 ((kb, 52, Bk.cells ⟨many, kbytes, nilS, nilS, krecs, ktris, ksheets, ktiles, nilS, nilS, nilS, nilS, nilS, nilS⟩) :: (H_bytes ++ (H_recs ++ (H_tris ++ (H_sheets ++ (H_tiles ++ (heapOf (ss_bytes.map (fillS 1)) ++ (heapOf (ss_recs.map (fillS 7)) ++ (heapOf (ss_tris.map (fillS 21)) ++ (heapOf (ss_sheets) ++ (heapOf (ss_tiles) ++ (η))))))))))))) (fun _ h => h.cnt fun p => by simp only [List.countP_append, List.countP_cons, List.countP_nil]; omega) ?_
 refine Qg ?_
 refine Qa rfl rfl (Qc rfl rfl rfl) ?_
 refine Qa rfl rfl (Qv rfl rfl rfl) ?_
 refine Qa rfl rfl (Qh rfl rfl KF.fld_52_6 rfl) ?_
 refine Qa rfl rfl (Qj 0 rfl rfl Tryz.underlying43 rfl rfl rfl (fun _ => rfl)) ?_
 refine TL_A (St w0 (heapOf (ss_sheets) ++ ((kb, 52, Bk.cells ⟨many, kbytes, nilS, nilS, krecs, ktris, ksheets, ktiles, nilS, nilS, nilS, nilS, nilS, nilS⟩) :: (H_bytes ++ (H_recs ++ (H_tris ++ (H_sheets ++ (H_tiles ++ (heapOf (ss_bytes.map (fillS 1)) ++ (heapOf (ss_recs.map (fillS 7)) ++ (heapOf (ss_tris.map (fillS 21)) ++ (heapOf (ss_tiles) ++ (η))))))))))))) (fun _ h => h.cnt fun p => by simp only [List.countP_append, List.countP_cons, List.countP_nil]; omega) ?_
 refine TL_e rfl rfl rfl (rfl) (ET_call rfl KF.cal_42 rfl (fill_Sheet w0 _ _ ss_sheets hs_sheets ((hF_sheets.sla (η := [])).mono (fun _ h => h.cnt fun p => by simp only [List.countP_append, List.countP_cons, List.countP_nil]; omega)))) ?_
 rintro _ _ rfl
 refine Qf (Qb (Qe ?_))
 refine TC_A (St w0 ((kb, 52, Bk.cells ⟨many, kbytes, nilS, nilS, krecs, ktris, ksheets, ktiles, nilS, nilS, nilS, nilS, nilS, nilS⟩) :: (H_bytes ++ (H_recs ++ (H_tris ++ (H_sheets ++ (H_tiles ++ (heapOf (ss_bytes.map (fillS 1)) ++ (heapOf (ss_recs.map (fillS 7)) ++ (heapOf (ss_tris.map (fillS 21)) ++ (heapOf (ss_sheets.map (fillS 49)) ++ (heapOf (ss_tiles) ++ (η))))))))))))) (fun _ h => h.cnt fun p => by simp only [List.countP_append, List.countP_cons, List.countP_nil]; omega) ?_
 refine Qg ?_
 refine Qa rfl rfl (Qc rfl rfl rfl) ?_
 refine Qa rfl rfl (Qv rfl rfl rfl) ?_
 refine Qa rfl rfl (Qh rfl rfl KF.fld_52_7 rfl) ?_
 refine Qa rfl rfl (Qj 0 rfl rfl Tryz.underlying44 rfl rfl rfl (fun _ => rfl)) ?_
 refine TL_A (St w0 (heapOf (ss_tiles) ++ ((kb, 52, Bk.cells ⟨many, kbytes, nilS, nilS, krecs, ktris, ksheets, ktiles, nilS, nilS, nilS, nilS, nilS, nilS⟩) :: (H_bytes ++ (H_recs ++ (H_tris ++ (H_sheets ++ (H_tiles ++ (heapOf (ss_bytes.map (fillS 1)) ++ (heapOf (ss_recs.map (fillS 7)) ++ (heapOf (ss_tris.map (fillS 21)) ++ (heapOf (ss_sheets.map (fillS 49)) ++ (η))))))))))))) (fun _ h => h.cnt fun p => by simp only [List.countP_append, List.countP_cons, List.countP_nil]; omega) ?_
 refine TL_e rfl rfl rfl (rfl) (ET_call rfl KF.cal_43 rfl (fill_Patch w0 _ _ ss_tiles hs_tiles ((hF_tiles.sla (η := [])).mono (fun _ h => h.cnt fun p => by simp only [List.countP_append, List.countP_cons, List.countP_nil]; omega)))) ?_
 rintro _ _ rfl
 refine Qf (Qb (Qe ?_))
 refine TC_A (St w0 ((kb, 52, Bk.cells ⟨many, kbytes, nilS, nilS, krecs, ktris, ksheets, ktiles, nilS, nilS, nilS, nilS, nilS, nilS⟩) :: (H_bytes ++ (H_recs ++ (H_tris ++ (H_sheets ++ (H_tiles ++ (heapOf (ss_bytes.map (fillS 1)) ++ (heapOf (ss_recs.map (fillS 7)) ++ (heapOf (ss_tris.map (fillS 21)) ++ (heapOf (ss_sheets.map (fillS 49)) ++ (heapOf (ss_tiles.map (fillS 48)) ++ (η))))))))))))) (fun _ h => h.cnt fun p => by simp only [List.countP_append, List.countP_cons, List.countP_nil]; omega) ?_
 refine Qg ?_
 refine Qa rfl rfl (Qc rfl rfl rfl) ?_
 refine Qa rfl rfl (Qv rfl rfl rfl) ?_
 refine Qa rfl rfl (Qh rfl rfl KF.fld_52_8 rfl) ?_
 refine Qa rfl rfl (Qj 0 rfl rfl Tryz.underlying45 rfl rfl rfl (fun _ => rfl)) ?_
 refine TL_cq rfl rfl rfl rfl KF.cal_44 rfl (fun _ => fill_nil_dots w0 _) ?_
 refine Qf (Qb (Qe (Qg ?_)))
 refine Qa rfl rfl (Qc rfl rfl rfl) ?_
 refine Qa rfl rfl (Qv rfl rfl rfl) ?_
 refine Qa rfl rfl (Qh rfl rfl KF.fld_52_9 rfl) ?_
 refine Qa rfl rfl (Qj 0 rfl rfl Tryz.underlying46 rfl rfl rfl (fun _ => rfl)) ?_
 refine TL_cq rfl rfl rfl rfl KF.cal_45 rfl (fun _ => fill_nil_facets w0 _) ?_
 refine Qf (Qb (Qe (Qg ?_)))
 refine Qa rfl rfl (Qc rfl rfl rfl) ?_
 refine Qa rfl rfl (Qv rfl rfl rfl) ?_
 refine Qa rfl rfl (Qh rfl rfl KF.fld_52_10 rfl) ?_
 refine Qa rfl rfl (Qj 0 rfl rfl Tryz.underlying47 rfl rfl rfl (fun _ => rfl)) ?_
 refine TL_cq rfl rfl rfl rfl KF.cal_46 rfl (fun _ => fill_nil_tokens w0 _) ?_
 refine Qf (Qb (Qe (Qg ?_)))
 refine Qa rfl rfl (Qc rfl rfl rfl) ?_
 refine Qa rfl rfl (Qv rfl rfl rfl) ?_
 refine Qa rfl rfl (Qh rfl rfl KF.fld_52_11 rfl) ?_
 refine Qa rfl rfl (Qj 0 rfl rfl Tryz.underlying48 rfl rfl rfl (fun _ => rfl)) ?_
 refine TL_cq rfl rfl rfl rfl KF.cal_47 rfl (fun _ => fill_nil_codes w0 _) ?_
 refine Qf (Qb (Qe (Qg ?_)))
 refine Qa rfl rfl (Qc rfl rfl rfl) ?_
 refine Qa rfl rfl (Qv rfl rfl rfl) ?_
 refine Qa rfl rfl (Qh rfl rfl KF.fld_52_12 rfl) ?_
 refine Qa rfl rfl (Qj 0 rfl rfl Tryz.underlying49 rfl rfl rfl (fun _ => rfl)) ?_
 refine TL_cq rfl rfl rfl rfl KF.cal_48 rfl (fun _ => fill_nil_vals w0 _) ?_
 refine Qf (Qb (Qe (Qg ?_)))
 refine Qa rfl rfl (Qc rfl rfl rfl) ?_
 refine Qa rfl rfl (Qv rfl rfl rfl) ?_
 refine Qa rfl rfl (Qh rfl rfl KF.fld_52_13 rfl) ?_
 refine Qa rfl rfl (Qj 0 rfl rfl Tryz.underlying50 rfl rfl rfl (fun _ => rfl)) ?_
 refine TL_cq rfl rfl rfl rfl KF.cal_49 rfl (fun _ => fill_nil_spots w0 _) ?_
 refine Qf (Qb (Qe (Qg ?_)))
 refine Qa rfl rfl (Qc rfl rfl rfl) ?_
 refine Qa rfl rfl (Qv rfl rfl rfl) ?_
 refine Qa rfl rfl (Qh rfl rfl KF.fld_52_1 rfl) ?_
 refine Qa rfl rfl (Qj 0 rfl rfl Tryz.underlying38 rfl rfl rfl (fun _ => rfl)) ?_
 refine TL_A (St w0 (H_bytes ++ (heapOf (ss_bytes.map (fillS 1)) ++ ((kb, 52, Bk.cells ⟨many, kbytes, nilS, nilS, krecs, ktris, ksheets, ktiles, nilS, nilS, nilS, nilS, nilS, nilS⟩) :: (H_recs ++ (H_tris ++ (H_sheets ++ (H_tiles ++ (heapOf (ss_recs.map (fillS 7)) ++ (heapOf (ss_tris.map (fillS 21)) ++ (heapOf (ss_sheets.map (fillS 49)) ++ (heapOf (ss_tiles.map (fillS 48)) ++ (η))))))))))))) (fun _ h => h.cnt fun p => by simp only [List.countP_append, List.countP_cons, List.countP_nil]; omega) ?_
 refine TL_e rfl rfl rfl (rfl) (ET_call rfl KF.cal_50 rfl (grow_Byte w0 _ _ _ _ hsf_bytes hFf_bytes)) ?_
 rintro _ _ ⟨g_bytes, G_bytes, hl_bytes, hg_bytes, hG_bytes, rfl⟩
 refine Qf (Qb (Qe ?_))
 refine TC_A (St w0 ((kb, 52, Bk.cells ⟨many, kbytes, nilS, nilS, krecs, ktris, ksheets, ktiles, nilS, nilS, nilS, nilS, nilS, nilS⟩) :: (G_bytes ++ (H_recs ++ (H_tris ++ (H_sheets ++ (H_tiles ++ (heapOf (g_bytes) ++ (heapOf (ss_recs.map (fillS 7)) ++ (heapOf (ss_tris.map (fillS 21)) ++ (heapOf (ss_sheets.map (fillS 49)) ++ (heapOf (ss_tiles.map (fillS 48)) ++ (η))))))))))))) (fun _ h => h.cnt fun p => by simp only [List.countP_append, List.countP_cons, List.countP_nil]; omega) ?_
 refine Qg ?_
 refine Qa rfl rfl (Qc rfl rfl rfl) ?_
 refine Qa rfl rfl (Qv rfl rfl rfl) ?_
 refine Qa rfl rfl (Qh rfl rfl KF.fld_52_2 rfl) ?_
 refine Qa rfl rfl (Qj 0 rfl rfl Tryz.underlying39 rfl rfl rfl (fun _ => rfl)) ?_
 refine TL_cq rfl rfl rfl rfl KF.cal_51 rfl (fun _ => grow_nil_bits w0 _) ?_
 refine Qf (Qb (Qe (Qg ?_)))
 refine Qa rfl rfl (Qc rfl rfl rfl) ?_
 refine Qa rfl rfl (Qv rfl rfl rfl) ?_
 refine Qa rfl rfl (Qh rfl rfl KF.fld_52_3 rfl) ?_
 refine Qa rfl rfl (Qj 0 rfl rfl Tryz.underlying40 rfl rfl rfl (fun _ => rfl)) ?_
 refine TL_cq rfl rfl rfl rfl KF.cal_52 rfl (fun _ => grow_nil_fixes w0 _) ?_
 refine Qf (Qb (Qe (Qg ?_)))
 refine Qa rfl rfl (Qc rfl rfl rfl) ?_
 refine Qa rfl rfl (Qv rfl rfl rfl) ?_
 refine Qa rfl rfl (Qh rfl rfl KF.fld_52_4 rfl) ?_
 refine Qa rfl rfl (Qj 0 rfl rfl Tryz.underlying41 rfl rfl rfl (fun _ => rfl)) ?_
 refine TL_A (St w0 (H_recs ++ (heapOf (ss_recs.map (fillS 7)) ++ ((kb, 52, Bk.cells ⟨many, kbytes, nilS, nilS, krecs, ktris, ksheets, ktiles, nilS, nilS, nilS, nilS, nilS, nilS⟩) :: (G_bytes ++ (H_tris ++ (H_sheets ++ (H_tiles ++ (heapOf (g_bytes) ++ (heapOf (ss_tris.map (fillS 21)) ++ (heapOf (ss_sheets.map (fillS 49)) ++ (heapOf (ss_tiles.map (fillS 48)) ++ (η))))))))))))) (fun _ h => h.cnt fun p => by simp only [List.countP_append, List.countP_cons, List.countP_nil]; omega) ?_
 refine TL_e rfl rfl rfl (rfl) (ET_call rfl KF.cal_53 rfl (grow_Rec w0 _ _ _ _ hsf_recs hFf_recs)) ?_
 rintro _ _ ⟨g_recs, G_recs, hl_recs, hg_recs, hG_recs, rfl⟩
 refine Qf (Qb (Qe ?_))
 refine TC_A (St w0 ((kb, 52, Bk.cells ⟨many, kbytes, nilS, nilS, krecs, ktris, ksheets, ktiles, nilS, nilS, nilS, nilS, nilS, nilS⟩) :: (G_bytes ++ (G_recs ++ (H_tris ++ (H_sheets ++ (H_tiles ++ (heapOf (g_bytes) ++ (heapOf (g_recs) ++ (heapOf (ss_tris.map (fillS 21)) ++ (heapOf (ss_sheets.map (fillS 49)) ++ (heapOf (ss_tiles.map (fillS 48)) ++ (η))))))))))))) (fun _ h => h.cnt fun p => by simp only [List.countP_append, List.countP_cons, List.countP_nil]; omega) ?_
 refine Qg ?_
 refine Qa rfl rfl (Qc rfl rfl rfl) ?_
 refine Qa rfl rfl (Qv rfl rfl rfl) ?_
 refine Qa rfl rfl (Qh rfl rfl KF.fld_52_5 rfl) ?_
 refine Qa rfl rfl (Qj 0 rfl rfl Tryz.underlying42 rfl rfl rfl (fun _ => rfl)) ?_
 refine TL_A (St w0 (H_tris ++ (heapOf (ss_tris.map (fillS 21)) ++ ((kb, 52, Bk.cells ⟨many, kbytes, nilS, nilS, krecs, ktris, ksheets, ktiles, nilS, nilS, nilS, nilS, nilS, nilS⟩) :: (G_bytes ++ (G_recs ++ (H_sheets ++ (H_tiles ++ (heapOf (g_bytes) ++ (heapOf (g_recs) ++ (heapOf (ss_sheets.map (fillS 49)) ++ (heapOf (ss_tiles.map (fillS 48)) ++ (η))))))))))))) (fun _ h => h.cnt fun p => by simp only [List.countP_append, List.countP_cons, List.countP_nil]; omega) ?_
 refine TL_e rfl rfl rfl (rfl) (ET_call rfl KF.cal_54 rfl (grow_Tri w0 _ _ _ _ hsf_tris hFf_tris)) ?_
 rintro _ _ ⟨g_tris, G_tris, hl_tris, hg_tris, hG_tris, rfl⟩
 refine Qf (Qb (Qe ?_))
 refine TC_A (St w0 ((kb, 52, Bk.cells ⟨many, kbytes, nilS, nilS, krecs, ktris, ksheets, ktiles, nilS, nilS, nilS, nilS, nilS, nilS⟩) :: (G_bytes ++ (G_recs ++ (G_tris ++ (H_sheets ++ (H_tiles ++ (heapOf (g_bytes) ++ (heapOf (g_recs) ++ (heapOf (g_tris) ++ (heapOf (ss_sheets.map (fillS 49)) ++ (heapOf (ss_tiles.map (fillS 48)) ++ (η))))))))))))) (fun _ h => h.cnt fun p => by simp only [List.countP_append, List.countP_cons, List.countP_nil]; omega) ?_
 refine Qg ?_
 refine Qa rfl rfl (Qc rfl rfl rfl) ?_
 refine Qa rfl rfl (Qv rfl rfl rfl) ?_
 refine Qa rfl rfl (Qh rfl rfl KF.fld_52_6 rfl) ?_
 refine Qa rfl rfl (Qj 0 rfl rfl Tryz.underlying43 rfl rfl rfl (fun _ => rfl)) ?_
 refine TL_A (St w0 (H_sheets ++ (heapOf (ss_sheets.map (fillS 49)) ++ ((kb, 52, Bk.cells ⟨many, kbytes, nilS, nilS, krecs, ktris, ksheets, ktiles, nilS, nilS, nilS, nilS, nilS, nilS⟩) :: (G_bytes ++ (G_recs ++ (G_tris ++ (H_tiles ++ (heapOf (g_bytes) ++ (heapOf (g_recs) ++ (heapOf (g_tris) ++ (heapOf (ss_tiles.map (fillS 48)) ++ (η))))))))))))) (fun _ h => h.cnt fun p => by simp only [List.countP_append, List.countP_cons, List.countP_nil]; omega) ?_
 refine TL_e rfl rfl rfl (rfl) (ET_call rfl KF.cal_55 rfl (grow_Sheet w0 _ _ _ _ hsf_sheets hFf_sheets)) ?_
 rintro _ _ ⟨g_sheets, G_sheets, hl_sheets, hg_sheets, hG_sheets, rfl⟩
 refine Qf (Qb (Qe ?_))
 refine TC_A (St w0 ((kb, 52, Bk.cells ⟨many, kbytes, nilS, nilS, krecs, ktris, ksheets, ktiles, nilS, nilS, nilS, nilS, nilS, nilS⟩) :: (G_bytes ++ (G_recs ++ (G_tris ++ (G_sheets ++ (H_tiles ++ (heapOf (g_bytes) ++ (heapOf (g_recs) ++ (heapOf (g_tris) ++ (heapOf (g_sheets) ++ (heapOf (ss_tiles.map (fillS 48)) ++ (η))))))))))))) (fun _ h => h.cnt fun p => by simp only [List.countP_append, List.countP_cons, List.countP_nil]; omega) ?_
 refine Qg ?_
 refine Qa rfl rfl (Qc rfl rfl rfl) ?_
 refine Qa rfl rfl (Qv rfl rfl rfl) ?_
 refine Qa rfl rfl (Qh rfl rfl KF.fld_52_7 rfl) ?_
 refine Qa rfl rfl (Qj 0 rfl rfl Tryz.underlying44 rfl rfl rfl (fun _ => rfl)) ?_
 refine TL_A (St w0 (H_tiles ++ (heapOf (ss_tiles.map (fillS 48)) ++ ((kb, 52, Bk.cells ⟨many, kbytes, nilS, nilS, krecs, ktris, ksheets, ktiles, nilS, nilS, nilS, nilS, nilS, nilS⟩) :: (G_bytes ++ (G_recs ++ (G_tris ++ (G_sheets ++ (heapOf (g_bytes) ++ (heapOf (g_recs) ++ (heapOf (g_tris) ++ (heapOf (g_sheets) ++ (η))))))))))))) (fun _ h => h.cnt fun p => by simp only [List.countP_append, List.countP_cons, List.countP_nil]; omega) ?_
 refine TL_e rfl rfl rfl (rfl) (ET_call rfl KF.cal_56 rfl (grow_Patch w0 _ _ _ _ hsf_tiles hFf_tiles)) ?_
 rintro _ _ ⟨g_tiles, G_tiles, hl_tiles, hg_tiles, hG_tiles, rfl⟩
 refine Qf (Qb (Qe ?_))
 refine TC_A (St w0 ((kb, 52, Bk.cells ⟨many, kbytes, nilS, nilS, krecs, ktris, ksheets, ktiles, nilS, nilS, nilS, nilS, nilS, nilS⟩) :: (G_bytes ++ (G_recs ++ (G_tris ++ (G_sheets ++ (G_tiles ++ (heapOf (g_bytes) ++ (heapOf (g_recs) ++ (heapOf (g_tris) ++ (heapOf (g_sheets) ++ (heapOf (g_tiles) ++ (η))))))))))))) (fun _ h => h.cnt fun p => by simp only [List.countP_append, List.countP_cons, List.countP_nil]; omega) ?_
 refine Qg ?_
 refine Qa rfl rfl (Qc rfl rfl rfl) ?_
 refine Qa rfl rfl (Qv rfl rfl rfl) ?_
 refine Qa rfl rfl (Qh rfl rfl KF.fld_52_8 rfl) ?_
 refine Qa rfl rfl (Qj 0 rfl rfl Tryz.underlying45 rfl rfl rfl (fun _ => rfl)) ?_
 refine TL_cq rfl rfl rfl rfl KF.cal_57 rfl (fun _ => grow_nil_dots w0 _) ?_
 refine Qf (Qb (Qe (Qg ?_)))
 refine Qa rfl rfl (Qc rfl rfl rfl) ?_
 refine Qa rfl rfl (Qv rfl rfl rfl) ?_
 refine Qa rfl rfl (Qh rfl rfl KF.fld_52_9 rfl) ?_
 refine Qa rfl rfl (Qj 0 rfl rfl Tryz.underlying46 rfl rfl rfl (fun _ => rfl)) ?_
 refine TL_cq rfl rfl rfl rfl KF.cal_58 rfl (fun _ => grow_nil_facets w0 _) ?_
 refine Qf (Qb (Qe (Qg ?_)))
 refine Qa rfl rfl (Qc rfl rfl rfl) ?_
 refine Qa rfl rfl (Qv rfl rfl rfl) ?_
 refine Qa rfl rfl (Qh rfl rfl KF.fld_52_10 rfl) ?_
 refine Qa rfl rfl (Qj 0 rfl rfl Tryz.underlying47 rfl rfl rfl (fun _ => rfl)) ?_
 refine TL_cq rfl rfl rfl rfl KF.cal_59 rfl (fun _ => grow_nil_tokens w0 _) ?_
 refine Qf (Qb (Qe (Qg ?_)))
 refine Qa rfl rfl (Qc rfl rfl rfl) ?_
 refine Qa rfl rfl (Qv rfl rfl rfl) ?_
 refine Qa rfl rfl (Qh rfl rfl KF.fld_52_11 rfl) ?_
 refine Qa rfl rfl (Qj 0 rfl rfl Tryz.underlying48 rfl rfl rfl (fun _ => rfl)) ?_
 refine TL_cq rfl rfl rfl rfl KF.cal_60 rfl (fun _ => grow_nil_codes w0 _) ?_
 refine Qf (Qb (Qe (Qg ?_)))
 refine Qa rfl rfl (Qc rfl rfl rfl) ?_
 refine Qa rfl rfl (Qv rfl rfl rfl) ?_
 refine Qa rfl rfl (Qh rfl rfl KF.fld_52_12 rfl) ?_
 refine Qa rfl rfl (Qj 0 rfl rfl Tryz.underlying49 rfl rfl rfl (fun _ => rfl)) ?_
 refine TL_cq rfl rfl rfl rfl KF.cal_61 rfl (fun _ => grow_nil_vals w0 _) ?_
 refine Qf (Qb (Qe (Qg ?_)))
 refine Qa rfl rfl (Qc rfl rfl rfl) ?_
 refine Qa rfl rfl (Qv rfl rfl rfl) ?_
 refine Qa rfl rfl (Qh rfl rfl KF.fld_52_13 rfl) ?_
 refine Qa rfl rfl (Qj 0 rfl rfl Tryz.underlying50 rfl rfl rfl (fun _ => rfl)) ?_
 refine TL_cq rfl rfl rfl rfl KF.cal_62 rfl (fun _ => grow_nil_spots w0 _) ?_
 refine Qf (Qb (Qe (Qg ?_)))
 refine Qa rfl rfl (Qc rfl rfl rfl) ?_
 refine Qa rfl rfl (Qv rfl rfl rfl) ?_
 refine Qa rfl rfl (Qh rfl rfl KF.fld_52_1 rfl) ?_
 refine Qa rfl rfl (Qj 0 rfl rfl Tryz.underlying38 rfl rfl rfl (fun _ => rfl)) ?_
 refine TL_cq rfl rfl rfl rfl KF.cal_63 rfl (fun _ => marked_Byte w0 _ _ g_bytes (fun s h => (hg_bytes s h).mono (fun _ h => h.cnt fun p => by simp only [List.countP_append, List.countP_cons, List.countP_nil]; omega)) ((hG_bytes.sla (η := [])).mono (fun _ h => h.cnt fun p => by simp only [List.countP_append, List.countP_cons, List.countP_nil]; omega))) ?_
 refine Qa rfl rfl (Qc rfl rfl rfl) ?_
 refine Qa rfl rfl (Qc rfl rfl rfl) ?_
 refine Qa rfl rfl (Qv rfl rfl rfl) ?_
 refine Qa rfl rfl (Qh rfl rfl KF.fld_52_2 rfl) ?_
 refine Qa rfl rfl (Qj 0 rfl rfl Tryz.underlying39 rfl rfl rfl (fun _ => rfl)) ?_
 refine TL_cq rfl rfl rfl rfl KF.cal_64 rfl (fun _ => marked_nil_bits w0 _) ?_
 refine Qa rfl rfl (QT_and rfl rfl rfl rfl) ?_
 refine Qa rfl rfl (Qc rfl rfl rfl) ?_
 refine Qa rfl rfl (Qc rfl rfl rfl) ?_
 refine Qa rfl rfl (Qv rfl rfl rfl) ?_
 refine Qa rfl rfl (Qh rfl rfl KF.fld_52_3 rfl) ?_
 refine Qa rfl rfl (Qj 0 rfl rfl Tryz.underlying40 rfl rfl rfl (fun _ => rfl)) ?_
 refine TL_cq rfl rfl rfl rfl KF.cal_65 rfl (fun _ => marked_nil_fixes w0 _) ?_
 refine Qa rfl rfl (QT_and rfl rfl rfl rfl) ?_
 refine Qa rfl rfl (Qc rfl rfl rfl) ?_
 refine Qa rfl rfl (Qc rfl rfl rfl) ?_
 refine Qa rfl rfl (Qv rfl rfl rfl) ?_
 refine Qa rfl rfl (Qh rfl rfl KF.fld_52_4 rfl) ?_
 refine Qa rfl rfl (Qj 0 rfl rfl Tryz.underlying41 rfl rfl rfl (fun _ => rfl)) ?_
 refine TL_cq rfl rfl rfl rfl KF.cal_66 rfl (fun _ => marked_Rec w0 _ _ g_recs (fun s h => (hg_recs s h).mono (fun _ h => h.cnt fun p => by simp only [List.countP_append, List.countP_cons, List.countP_nil]; omega)) ((hG_recs.sla (η := [])).mono (fun _ h => h.cnt fun p => by simp only [List.countP_append, List.countP_cons, List.countP_nil]; omega))) ?_
 refine Qa rfl rfl (QT_and rfl rfl rfl rfl) ?_
 refine Qa rfl rfl (Qc rfl rfl rfl) ?_
 refine Qa rfl rfl (Qc rfl rfl rfl) ?_
 refine Qa rfl rfl (Qv rfl rfl rfl) ?_
 refine Qa rfl rfl (Qh rfl rfl KF.fld_52_5 rfl) ?_
 refine Qa rfl rfl (Qj 0 rfl rfl Tryz.underlying42 rfl rfl rfl (fun _ => rfl)) ?_
 refine TL_cq rfl rfl rfl rfl KF.cal_67 rfl (fun _ => marked_Tri w0 _ _ g_tris (fun s h => (hg_tris s h).mono (fun _ h => h.cnt fun p => by simp only [List.countP_append, List.countP_cons, List.countP_nil]; omega)) ((hG_tris.sla (η := [])).mono (fun _ h => h.cnt fun p => by simp only [List.countP_append, List.countP_cons, List.countP_nil]; omega))) ?_
 refine Qa rfl rfl (QT_and rfl rfl rfl rfl) ?_
 refine Qa rfl rfl (Qc rfl rfl rfl) ?_
 refine Qa rfl rfl (Qc rfl rfl rfl) ?_
 refine Qa rfl rfl (Qv rfl rfl rfl) ?_
 refine Qa rfl rfl (Qh rfl rfl KF.fld_52_6 rfl) ?_
 refine Qa rfl rfl (Qj 0 rfl rfl Tryz.underlying43 rfl rfl rfl (fun _ => rfl)) ?_
 refine TL_cq rfl rfl rfl rfl KF.cal_68 rfl (fun _ => marked_Sheet w0 _ _ g_sheets (fun s h => (hg_sheets s h).mono (fun _ h => h.cnt fun p => by simp only [List.countP_append, List.countP_cons, List.countP_nil]; omega)) ((hG_sheets.sla (η := [])).mono (fun _ h => h.cnt fun p => by simp only [List.countP_append, List.countP_cons, List.countP_nil]; omega))) ?_
 refine Qa rfl rfl (QT_and rfl rfl rfl rfl) ?_
 refine Qa rfl rfl (Qc rfl rfl rfl) ?_
 refine Qa rfl rfl (Qc rfl rfl rfl) ?_
 refine Qa rfl rfl (Qv rfl rfl rfl) ?_
 refine Qa rfl rfl (Qh rfl rfl KF.fld_52_7 rfl) ?_
 refine Qa rfl rfl (Qj 0 rfl rfl Tryz.underlying44 rfl rfl rfl (fun _ => rfl)) ?_
 refine TL_cq rfl rfl rfl rfl KF.cal_69 rfl (fun _ => marked_Patch w0 _ _ g_tiles (fun s h => (hg_tiles s h).mono (fun _ h => h.cnt fun p => by simp only [List.countP_append, List.countP_cons, List.countP_nil]; omega)) ((hG_tiles.sla (η := [])).mono (fun _ h => h.cnt fun p => by simp only [List.countP_append, List.countP_cons, List.countP_nil]; omega))) ?_
 refine Qa rfl rfl (QT_and rfl rfl rfl rfl) ?_
 refine Qa rfl rfl (Qc rfl rfl rfl) ?_
 refine Qa rfl rfl (Qc rfl rfl rfl) ?_
 refine Qa rfl rfl (Qv rfl rfl rfl) ?_
 refine Qa rfl rfl (Qh rfl rfl KF.fld_52_8 rfl) ?_
 refine Qa rfl rfl (Qj 0 rfl rfl Tryz.underlying45 rfl rfl rfl (fun _ => rfl)) ?_
 refine TL_cq rfl rfl rfl rfl KF.cal_70 rfl (fun _ => marked_nil_dots w0 _) ?_
 refine Qa rfl rfl (QT_and rfl rfl rfl rfl) ?_
 refine Qa rfl rfl (Qc rfl rfl rfl) ?_
 refine Qa rfl rfl (Qc rfl rfl rfl) ?_
 refine Qa rfl rfl (Qv rfl rfl rfl) ?_
 refine Qa rfl rfl (Qh rfl rfl KF.fld_52_9 rfl) ?_
 refine Qa rfl rfl (Qj 0 rfl rfl Tryz.underlying46 rfl rfl rfl (fun _ => rfl)) ?_
 refine TL_cq rfl rfl rfl rfl KF.cal_71 rfl (fun _ => marked_nil_facets w0 _) ?_
 refine Qa rfl rfl (QT_and rfl rfl rfl rfl) ?_
 refine Qa rfl rfl (Qc rfl rfl rfl) ?_
 refine Qa rfl rfl (Qc rfl rfl rfl) ?_
 refine Qa rfl rfl (Qv rfl rfl rfl) ?_
 refine Qa rfl rfl (Qh rfl rfl KF.fld_52_10 rfl) ?_
 refine Qa rfl rfl (Qj 0 rfl rfl Tryz.underlying47 rfl rfl rfl (fun _ => rfl)) ?_
 refine TL_cq rfl rfl rfl rfl KF.cal_72 rfl (fun _ => marked_nil_tokens w0 _) ?_
 refine Qa rfl rfl (QT_and rfl rfl rfl rfl) ?_
 refine Qa rfl rfl (Qc rfl rfl rfl) ?_
 refine Qa rfl rfl (Qc rfl rfl rfl) ?_
 refine Qa rfl rfl (Qv rfl rfl rfl) ?_
 refine Qa rfl rfl (Qh rfl rfl KF.fld_52_11 rfl) ?_
 refine Qa rfl rfl (Qj 0 rfl rfl Tryz.underlying48 rfl rfl rfl (fun _ => rfl)) ?_
 refine TL_cq rfl rfl rfl rfl KF.cal_73 rfl (fun _ => marked_nil_codes w0 _) ?_
 refine Qa rfl rfl (QT_and rfl rfl rfl rfl) ?_
 refine Qa rfl rfl (Qc rfl rfl rfl) ?_
 refine Qa rfl rfl (Qc rfl rfl rfl) ?_
 refine Qa rfl rfl (Qv rfl rfl rfl) ?_
 refine Qa rfl rfl (Qh rfl rfl KF.fld_52_12 rfl) ?_
 refine Qa rfl rfl (Qj 0 rfl rfl Tryz.underlying49 rfl rfl rfl (fun _ => rfl)) ?_
 refine TL_cq rfl rfl rfl rfl KF.cal_74 rfl (fun _ => marked_nil_vals w0 _) ?_
 refine Qa rfl rfl (QT_and rfl rfl rfl rfl) ?_
 refine Qa rfl rfl (Qc rfl rfl rfl) ?_
 refine Qa rfl rfl (Qc rfl rfl rfl) ?_
 refine Qa rfl rfl (Qv rfl rfl rfl) ?_
 refine Qa rfl rfl (Qh rfl rfl KF.fld_52_13 rfl) ?_
 refine Qa rfl rfl (Qj 0 rfl rfl Tryz.underlying50 rfl rfl rfl (fun _ => rfl)) ?_
 refine TL_cq rfl rfl rfl rfl KF.cal_75 rfl (fun _ => marked_nil_spots w0 _) ?_
 refine Qa rfl rfl (QT_and rfl rfl rfl rfl) ?_
 refine Qa rfl rfl (Qd rfl rfl rfl) ?_
 refine Qf (Qb ?_)
 refine Qu ?_
 exact Qs (.inl rfl) (res1 rfl rfl) ⟨_, ⟨rfl, rfl⟩, (fun _ h => h.cnt fun p => by simp only [List.countP_append, List.countP_cons, List.countP_nil]; omega)⟩
end Go.Proofs.YtjdaglmkljbfkaaGreatDoor
namespace Go.Proofs.YtjdaglmkljbfkaaGreatDoor
open Go Go.Gx Go.RowKit
set_option maxRecDepth 100000
def rowA : Value := .agg #[.func (.func 91) #[] #[], .func (.func 92) #[] #[], .func (.func 95) #[] #[]]
def rowB : Value := .agg #[.func (.func 97) #[] #[], .func (.func 98) #[] #[], .func (.func 101) #[] #[]]
def waysM : List MapEntry := [{ key := .int .i64 4, val := rowA, born := 0 }, { key := .int .i64 5, val := rowA, born := 1 }, { key := .int .i64 6, val := rowB, born := 2 }, { key := .int .i64 7, val := rowB, born := 3 }]
theorem byType_spec (w0 : Base) (η : Heap) : CallsT Tryz.prog 27 [] (St w0 η) fun v A' => ∃ m, v = .map (some m) ∧ A' = StM w0 η m waysM 4 := by
 refine CallsT.body Tryz.func27 rfl rfl ?_
 simp only [Tryz.ntmps27, slotsOf, Nat.reduceAdd]
 refine Qe (Qg ?_)
 refine Qa rfl rfl (Qd rfl rfl rfl) ?_
 refine Qf (Qb (Qe (Qg ?_)))
 refine Qa rfl rfl (QT_build rfl rfl KF.zero_84 KF.pl_84 rfl rfl rfl) ?_
 refine TL_e rfl rfl rfl (rfl) (ET_alloc rfl KF.zero_84) ?_
 rintro _ _ ⟨b1, rfl, rfl⟩
 refine TL_e0 rfl rfl (rfl) (ET_storeW 0 rfl rfl rfl KF.sz_84 rfl rfl rfl) ?_
 rintro _ _ ⟨rfl, rfl⟩
 refine Qf (Qb (Qe (Qg ?_)))
 refine Qa rfl rfl (QT_build rfl rfl KF.zero_84 KF.pl_84 rfl rfl rfl) ?_
 refine TL_e rfl rfl rfl (rfl) (ET_alloc rfl KF.zero_84) ?_
 rintro _ _ ⟨b2, rfl, rfl⟩
 refine TL_e0 rfl rfl (rfl) (ET_storeW 0 rfl rfl rfl KF.sz_84 rfl rfl rfl) ?_
 rintro _ _ ⟨rfl, rfl⟩
 refine Qf (Qb (Qe ?_))
 refine TC_A (St w0 ((b2, 84, rowB.cells.toList) :: (b1, 84, rowA.cells.toList) :: η)) (fun _ h => h) ?_
 refine Qg ?_
 refine TL_e rfl rfl rfl (rfl) (ET_makeMap rfl) ?_
 rintro _ _ ⟨m5, rfl, rfl⟩
 refine Qa rfl rfl (QT_under (Ql (cs := rowA.cells.toList) 1 rfl rfl Tryz.underlying84 rfl rfl rfl KF.sz_84) (fun w h => h.1)) ?_
 refine TL_e0 rfl rfl (rfl) (ET_insert rfl rfl rfl rfl Tryz.underlying85 Tryz.underlying3 rfl rfl) ?_
 rintro _ _ ⟨rfl, rfl⟩
 refine Qa rfl rfl (QT_under (Ql (cs := rowA.cells.toList) 1 rfl rfl Tryz.underlying84 rfl rfl rfl KF.sz_84) (fun w h => h.1)) ?_
 refine TL_e0 rfl rfl (rfl) (ET_insert rfl rfl rfl rfl Tryz.underlying85 Tryz.underlying3 rfl rfl) ?_
 rintro _ _ ⟨rfl, rfl⟩
 refine Qa rfl rfl (QT_under (Ql (cs := rowB.cells.toList) 0 rfl rfl Tryz.underlying84 rfl rfl rfl KF.sz_84) (fun w h => h.1)) ?_
 refine TL_e0 rfl rfl (rfl) (ET_insert rfl rfl rfl rfl Tryz.underlying85 Tryz.underlying3 rfl rfl) ?_
 rintro _ _ ⟨rfl, rfl⟩
 refine Qa rfl rfl (QT_under (Ql (cs := rowB.cells.toList) 0 rfl rfl Tryz.underlying84 rfl rfl rfl KF.sz_84) (fun w h => h.1)) ?_
 refine TL_e0 rfl rfl (rfl) (ET_insert rfl rfl rfl rfl Tryz.underlying85 Tryz.underlying3 rfl rfl) ?_
 rintro _ _ ⟨rfl, rfl⟩
 refine Qa rfl rfl (Qc rfl rfl rfl) ?_
 refine Qa rfl rfl (Qd rfl rfl rfl) ?_
 refine Qf (Qb ?_)
 refine Qu ?_
 exact Qs (.inl rfl) (res1 rfl rfl) ⟨_, ⟨m5, rfl, rfl⟩, fun w h => ⟨h.1.tail.tail, h.2.1, h.2.2⟩⟩
end Go.Proofs.YtjdaglmkljbfkaaGreatDoor
namespace Go.Proofs.YtjdaglmkljbfkaaGreatDoor
open Go Go.Gx Go.RowKit
set_option maxRecDepth 100000
theorem noSheets_spec (w0 : Base) (η : Heap) (ra sa : Option Addr) (nr ns rc sc : Nat) :
  CallsT Tryz.prog 91 [.agg #[.slice ra nr rc, .slice sa ns sc]] (St w0 η) fun v A' => v = .bool (decide ((ns : Int) = 0)) ∧ A' = St w0 η := by
 refine CallsT.body Tryz.func91 rfl rfl ?_
 simp only [Tryz.ntmps91, slotsOf, Nat.reduceAdd]
 refine Qe (Qg ?_)
 refine TL_e rfl rfl rfl (rfl) (ET_box rfl rfl) ?_
 rintro _ _ ⟨b1, rfl, rfl⟩
 refine Qa rfl rfl (Qd rfl rfl rfl) ?_
 refine Qf (Qb (Qe (Qg ?_)))
 refine Qa rfl rfl (Qh rfl rfl KF.fld_34_1 rfl) ?_
 refine Qa rfl rfl (Qj (v := .slice sa ns sc) 0 rfl rfl Tryz.underlying32 rfl rfl rfl (fun _ => rfl)) ?_
 refine Qa rfl rfl (Za rfl rfl Tryz.underlying32 rfl) ?_
 refine Qa rfl rfl (QT_eql rfl rfl rfl rfl) ?_
 refine Qa rfl rfl (Qd rfl rfl rfl) ?_
 refine Qf (Qb ?_)
 refine Qu ?_
 exact Qs (.inl rfl) (res1 rfl rfl) ⟨_, ⟨rfl, rfl⟩, fun _ h => h.tail⟩
theorem noRecs_spec (w0 : Base) (η : Heap) (ra sa : Option Addr) (nr ns rc sc : Nat) :
  CallsT Tryz.prog 97 [.agg #[.slice ra nr rc, .slice sa ns sc]] (St w0 η) fun v A' => v = .bool (decide ((nr : Int) = 0)) ∧ A' = St w0 η := by
 refine CallsT.body Tryz.func97 rfl rfl ?_
 simp only [Tryz.ntmps97, slotsOf, Nat.reduceAdd]
 refine Qe (Qg ?_)
 refine TL_e rfl rfl rfl (rfl) (ET_box rfl rfl) ?_
 rintro _ _ ⟨b1, rfl, rfl⟩
 refine Qa rfl rfl (Qd rfl rfl rfl) ?_
 refine Qf (Qb (Qe (Qg ?_)))
 refine Qa rfl rfl (Qh rfl rfl KF.fld_34_0 rfl) ?_
 refine Qa rfl rfl (Qj (v := .slice ra nr rc) 0 rfl rfl Tryz.underlying31 rfl rfl rfl (fun _ => rfl)) ?_
 refine Qa rfl rfl (Za rfl rfl Tryz.underlying31 rfl) ?_
 refine Qa rfl rfl (QT_eql rfl rfl rfl rfl) ?_
 refine Qa rfl rfl (Qd rfl rfl rfl) ?_
 refine Qf (Qb ?_)
 refine Qu ?_
 exact Qs (.inl rfl) (res1 rfl rfl) ⟨_, ⟨rfl, rfl⟩, fun _ h => h.tail⟩
theorem may_bad (w0 : Base) (η : Heap) (hG : Sets w0) (L : Lay) (hk : okB L = false) (ra sa : Option Addr) (nr ns rc sc : Nat) :
  CallsT Tryz.prog 78 [L.val, .agg #[.slice ra nr rc, .slice sa ns sc]] (St w0 η) fun v A' => v = .int .i64 4 ∧ A' = St w0 η := by
 have he : errOf L = 4 := by unfold errOf; rw [hk]; rfl
 refine CallsT.body Tryz.func78 rfl rfl ?_
 simp only [Tryz.ntmps78, slotsOf, Nat.reduceAdd]
 refine Qe (Qg ?_)
 refine TL_e rfl rfl rfl (rfl) (ET_box rfl rfl) ?_
 rintro _ _ ⟨b2, rfl, rfl⟩
 refine TL_e rfl rfl rfl (rfl) (ET_box rfl rfl) ?_
 rintro _ _ ⟨b3, rfl, rfl⟩
 refine Qa rfl rfl (Qd rfl rfl rfl) ?_
 refine Qf (Qb (Qe (Qr (Qe ?_))))
 refine TC_A (St w0 ((b3, 34, [.slice ra nr rc, .slice sa ns sc]) :: (b2, 27, L.cells) :: η)) (fun _ h => h) ?_
 refine Qg ?_
 refine Qa rfl rfl (Ql 1 rfl rfl Tryz.underlying27 rfl rfl rfl KF.sz_27) ?_
 refine TL_cq rfl rfl rfl rfl KF.cal_26 rfl (fun _ => check_spec w0 _ hG L) ?_
 refine Qa rfl rfl (QT_neq rfl rfl rfl rfl) ?_
 refine Qa rfl rfl (Qd rfl rfl rfl) ?_
 refine Qf (Qb ?_)
 refine TC_cond rfl (fun _ => ?_) (fun h => absurd (h.symm.trans ((show decide (errOf L ≠ 0) = true by rw [he]; decide))) (by decide))
 refine Qe (Qg ?_)
 refine Qa rfl rfl (Qd rfl rfl rfl) ?_
 refine Qf (Qb ?_)
 refine Qu ?_
 refine Zc ?_
 refine Qn ?_
 exact Qs (.inl rfl) (res1 rfl rfl) ⟨_, ⟨rfl, rfl⟩, fun _ h => h.tail.tail⟩
theorem ways_A {L : Lay} (h : (L.ty = 4 ∨ L.ty = 5)) : ∃ j, Instr.findNow (.int .i64) (.int .i64 L.ty) waysM 0 = some (some (j, rowA)) := by
 rcases h with h | h <;> rw [h] <;> exact ⟨_, rfl⟩
theorem may_A (w0 : Base) (η : Heap) (hG : Sets w0) (L : Lay) (hk : okB L = true) (hty : (L.ty = 4 ∨ L.ty = 5)) (ra sa : Option Addr) (nr ns rc sc : Nat) :
  CallsT Tryz.prog 78 [L.val, .agg #[.slice ra nr rc, .slice sa ns sc]] (St w0 η) fun v A' => v = .int .i64 (if ns = 0 then 0 else 1) ∧ A' = St w0 η := by
 have he : errOf L = 0 := by unfold errOf; rw [if_pos hk]
 obtain ⟨j, hj⟩ := ways_A hty
 refine CallsT.body Tryz.func78 rfl rfl ?_
 simp only [Tryz.ntmps78, slotsOf, Nat.reduceAdd]
 refine Qe (Qg ?_)
 refine TL_e rfl rfl rfl (rfl) (ET_box rfl rfl) ?_
 rintro _ _ ⟨b2, rfl, rfl⟩
 refine TL_e rfl rfl rfl (rfl) (ET_box rfl rfl) ?_
 rintro _ _ ⟨b3, rfl, rfl⟩
 refine Qa rfl rfl (Qd rfl rfl rfl) ?_
 refine Qf (Qb (Qe (Qr (Qe ?_))))
 refine TC_A (St w0 ((b3, 34, [.slice ra nr rc, .slice sa ns sc]) :: (b2, 27, L.cells) :: η)) (fun _ h => h) ?_
 refine Qg ?_
 refine Qa rfl rfl (Ql 1 rfl rfl Tryz.underlying27 rfl rfl rfl KF.sz_27) ?_
 refine TL_cq rfl rfl rfl rfl KF.cal_26 rfl (fun _ => check_spec w0 _ hG L) ?_
 refine Qa rfl rfl (QT_neq rfl rfl rfl rfl) ?_
 refine Qa rfl rfl (Qd rfl rfl rfl) ?_
 refine Qf (Qb ?_)
 refine TC_cond rfl (fun h => absurd (h.symm.trans ((show decide (errOf L ≠ 0) = false by rw [he]; decide))) (by decide)) (fun _ => ?_)
 refine Qe ?_
 refine TC_draw [(1, 0), (2, 0), (5, 0), (0, 1), (3, 0), (4, 0), (6, 1), (7, 0), (8, 0)] KF.mixed (by kernel_rfl) (St.calm _ _) ?_
 refine Qk rfl rfl rfl (fun _ => Qh rfl rfl KF.fld_27_0 rfl) ?_
 refine Qz rfl rfl rfl (Qj (v := .int .i64 L.ty) 1 rfl rfl Tryz.underlying3 rfl rfl rfl (fun _ => rfl)) ?_
 refine Qz rfl rfl rfl (Ql (cs := [.slice ra nr rc, .slice sa ns sc]) 0 rfl rfl Tryz.underlying34 rfl rfl rfl KF.sz_34) ?_
 refine TV_e rfl rfl rfl rfl (rfl) (ET_call rfl KF.cal_27 rfl (byType_spec w0 _)) ?_
 rintro _ _ ⟨m10, rfl, rfl⟩
 refine ⟨_, .keep (by kernel_rfl) rfl (by first | exact Ql (cs := [.slice ra nr rc, .slice sa ns sc]) 0 rfl rfl Tryz.underlying34 rfl rfl rfl KF.sz_34 | exact QT_under (Ql (w0 := w0) (η := (b3, 34, [.slice ra nr rc, .slice sa ns sc]) :: (b2, 27, L.cells) :: η) (cs := [.slice ra nr rc, .slice sa ns sc]) 0 rfl rfl Tryz.underlying34 rfl rfl rfl KF.sz_34) (fun w h => h.1)) (.keep (by kernel_rfl) rfl (by first | exact Qj (v := .int .i64 L.ty) 1 rfl rfl Tryz.underlying3 rfl rfl rfl (fun _ => rfl) | exact QT_under (Qj (w0 := w0) (η := (b3, 34, [.slice ra nr rc, .slice sa ns sc]) :: (b2, 27, L.cells) :: η) (v := .int .i64 L.ty) 1 rfl rfl Tryz.underlying3 rfl rfl rfl (fun _ => rfl)) (fun w h => h.1)) (.nil)), ?_⟩
 refine Qz rfl rfl rfl ((by exact QT_lookup rfl rfl rfl rfl Tryz.underlying85 Tryz.underlying3 (show MapKept.IsKey (.int .i64) (.int .i64 L.ty) from rfl) hj)) ?_
 refine Qk rfl rfl rfl (fun _ => QT_fieldv rfl rfl Tryz.underlying84 rfl Tryz.underlying82 rfl rfl (fun _ => rfl)) ?_
 refine TV_e rfl rfl rfl rfl (rfl) (ET_goes (Goes.value rfl rfl KF.cal_91 rfl) (callsT_map fun B => noSheets_spec B ((b3, 34, [.slice ra nr rc, .slice sa ns sc]) :: (b2, 27, L.cells) :: η) ra sa nr ns rc sc)) ?_
 rintro _ _ ⟨rfl, rfl⟩
 refine ⟨_, .keep (by kernel_rfl) rfl (by first | exact (by exact QT_lookup rfl rfl rfl rfl Tryz.underlying85 Tryz.underlying3 (show MapKept.IsKey (.int .i64) (.int .i64 L.ty) from rfl) hj)) (.drop (by kernel_rfl) (.keep (by kernel_rfl) rfl (by first | exact Qj (v := .int .i64 L.ty) 1 rfl rfl Tryz.underlying3 rfl rfl rfl (fun _ => rfl) | exact QT_under (Qj (w0 := w0) (η := (b3, 34, [.slice ra nr rc, .slice sa ns sc]) :: (b2, 27, L.cells) :: η) (v := .int .i64 L.ty) 1 rfl rfl Tryz.underlying3 rfl rfl rfl (fun _ => rfl)) (fun w h => h.1)) (.nil))), ?_⟩
 refine Qk rfl rfl rfl (fun _ => QT_not rfl rfl rfl) ?_
 refine Qk rfl rfl rfl (fun _ => Qd rfl rfl rfl) ?_
 refine TV_end (Qb ?_)
 refine TC_cond rfl (fun h9 => ?_) (fun h9 => ?_)
 ·
  refine Qe (Qg ?_)
  refine Qa rfl rfl (Qd rfl rfl rfl) ?_
  refine Qf (Qb ?_)
  refine Qu ?_
  refine Zc ?_
  refine Qn ?_
  exact Qs (.inl rfl) (res1 rfl rfl) ⟨_, ⟨by rw [if_neg (by simp at h9; omega)], rfl⟩, fun _ h => h.1.tail.tail⟩
 ·
  refine Qt ?_
  refine Qo ?_
  refine Qb (Qe (Qg ?_))
  refine Qa rfl rfl (Qd rfl rfl rfl) ?_
  refine Qf (Qb ?_)
  refine Qu ?_
  exact Qs (.inl rfl) (res1 rfl rfl) ⟨_, ⟨by rw [if_pos (by simp at h9; omega)], rfl⟩, fun _ h => h.1.tail.tail⟩
theorem ways_B {L : Lay} (h : (L.ty = 6 ∨ L.ty = 7)) : ∃ j, Instr.findNow (.int .i64) (.int .i64 L.ty) waysM 0 = some (some (j, rowB)) := by
 rcases h with h | h <;> rw [h] <;> exact ⟨_, rfl⟩
theorem may_B (w0 : Base) (η : Heap) (hG : Sets w0) (L : Lay) (hk : okB L = true) (hty : (L.ty = 6 ∨ L.ty = 7)) (ra sa : Option Addr) (nr ns rc sc : Nat) :
  CallsT Tryz.prog 78 [L.val, .agg #[.slice ra nr rc, .slice sa ns sc]] (St w0 η) fun v A' => v = .int .i64 (if nr = 0 then 0 else 1) ∧ A' = St w0 η := by
 have he : errOf L = 0 := by unfold errOf; rw [if_pos hk]
 obtain ⟨j, hj⟩ := ways_B hty
 refine CallsT.body Tryz.func78 rfl rfl ?_
 simp only [Tryz.ntmps78, slotsOf, Nat.reduceAdd]
 refine Qe (Qg ?_)
 refine TL_e rfl rfl rfl (rfl) (ET_box rfl rfl) ?_
 rintro _ _ ⟨b2, rfl, rfl⟩
 refine TL_e rfl rfl rfl (rfl) (ET_box rfl rfl) ?_
 rintro _ _ ⟨b3, rfl, rfl⟩
 refine Qa rfl rfl (Qd rfl rfl rfl) ?_
 refine Qf (Qb (Qe (Qr (Qe ?_))))
 refine TC_A (St w0 ((b3, 34, [.slice ra nr rc, .slice sa ns sc]) :: (b2, 27, L.cells) :: η)) (fun _ h => h) ?_
 refine Qg ?_
 refine Qa rfl rfl (Ql 1 rfl rfl Tryz.underlying27 rfl rfl rfl KF.sz_27) ?_
 refine TL_cq rfl rfl rfl rfl KF.cal_26 rfl (fun _ => check_spec w0 _ hG L) ?_
 refine Qa rfl rfl (QT_neq rfl rfl rfl rfl) ?_
 refine Qa rfl rfl (Qd rfl rfl rfl) ?_
 refine Qf (Qb ?_)
 refine TC_cond rfl (fun h => absurd (h.symm.trans ((show decide (errOf L ≠ 0) = false by rw [he]; decide))) (by decide)) (fun _ => ?_)
 refine Qe ?_
 refine TC_draw [(1, 0), (2, 0), (5, 0), (0, 1), (3, 0), (4, 0), (6, 1), (7, 0), (8, 0)] KF.mixed (by kernel_rfl) (St.calm _ _) ?_
 refine Qk rfl rfl rfl (fun _ => Qh rfl rfl KF.fld_27_0 rfl) ?_
 refine Qz rfl rfl rfl (Qj (v := .int .i64 L.ty) 1 rfl rfl Tryz.underlying3 rfl rfl rfl (fun _ => rfl)) ?_
 refine Qz rfl rfl rfl (Ql (cs := [.slice ra nr rc, .slice sa ns sc]) 0 rfl rfl Tryz.underlying34 rfl rfl rfl KF.sz_34) ?_
 refine TV_e rfl rfl rfl rfl (rfl) (ET_call rfl KF.cal_27 rfl (byType_spec w0 _)) ?_
 rintro _ _ ⟨m10, rfl, rfl⟩
 refine ⟨_, .keep (by kernel_rfl) rfl (by first | exact Ql (cs := [.slice ra nr rc, .slice sa ns sc]) 0 rfl rfl Tryz.underlying34 rfl rfl rfl KF.sz_34 | exact QT_under (Ql (w0 := w0) (η := (b3, 34, [.slice ra nr rc, .slice sa ns sc]) :: (b2, 27, L.cells) :: η) (cs := [.slice ra nr rc, .slice sa ns sc]) 0 rfl rfl Tryz.underlying34 rfl rfl rfl KF.sz_34) (fun w h => h.1)) (.keep (by kernel_rfl) rfl (by first | exact Qj (v := .int .i64 L.ty) 1 rfl rfl Tryz.underlying3 rfl rfl rfl (fun _ => rfl) | exact QT_under (Qj (w0 := w0) (η := (b3, 34, [.slice ra nr rc, .slice sa ns sc]) :: (b2, 27, L.cells) :: η) (v := .int .i64 L.ty) 1 rfl rfl Tryz.underlying3 rfl rfl rfl (fun _ => rfl)) (fun w h => h.1)) (.nil)), ?_⟩
 refine Qz rfl rfl rfl ((by exact QT_lookup rfl rfl rfl rfl Tryz.underlying85 Tryz.underlying3 (show MapKept.IsKey (.int .i64) (.int .i64 L.ty) from rfl) hj)) ?_
 refine Qk rfl rfl rfl (fun _ => QT_fieldv rfl rfl Tryz.underlying84 rfl Tryz.underlying82 rfl rfl (fun _ => rfl)) ?_
 refine TV_e rfl rfl rfl rfl (rfl) (ET_goes (Goes.value rfl rfl KF.cal_97 rfl) (callsT_map fun B => noRecs_spec B ((b3, 34, [.slice ra nr rc, .slice sa ns sc]) :: (b2, 27, L.cells) :: η) ra sa nr ns rc sc)) ?_
 rintro _ _ ⟨rfl, rfl⟩
 refine ⟨_, .keep (by kernel_rfl) rfl (by first | exact (by exact QT_lookup rfl rfl rfl rfl Tryz.underlying85 Tryz.underlying3 (show MapKept.IsKey (.int .i64) (.int .i64 L.ty) from rfl) hj)) (.drop (by kernel_rfl) (.keep (by kernel_rfl) rfl (by first | exact Qj (v := .int .i64 L.ty) 1 rfl rfl Tryz.underlying3 rfl rfl rfl (fun _ => rfl) | exact QT_under (Qj (w0 := w0) (η := (b3, 34, [.slice ra nr rc, .slice sa ns sc]) :: (b2, 27, L.cells) :: η) (v := .int .i64 L.ty) 1 rfl rfl Tryz.underlying3 rfl rfl rfl (fun _ => rfl)) (fun w h => h.1)) (.nil))), ?_⟩
 refine Qk rfl rfl rfl (fun _ => QT_not rfl rfl rfl) ?_
 refine Qk rfl rfl rfl (fun _ => Qd rfl rfl rfl) ?_
 refine TV_end (Qb ?_)
 refine TC_cond rfl (fun h9 => ?_) (fun h9 => ?_)
 ·
  refine Qe (Qg ?_)
  refine Qa rfl rfl (Qd rfl rfl rfl) ?_
  refine Qf (Qb ?_)
  refine Qu ?_
  refine Zc ?_
  refine Qn ?_
  exact Qs (.inl rfl) (res1 rfl rfl) ⟨_, ⟨by rw [if_neg (by simp at h9; omega)], rfl⟩, fun _ h => h.1.tail.tail⟩
 ·
  refine Qt ?_
  refine Qo ?_
  refine Qb (Qe (Qg ?_))
  refine Qa rfl rfl (Qd rfl rfl rfl) ?_
  refine Qf (Qb ?_)
  refine Qu ?_
  exact Qs (.inl rfl) (res1 rfl rfl) ⟨_, ⟨by rw [if_pos (by simp at h9; omega)], rfl⟩, fun _ h => h.1.tail.tail⟩
end Go.Proofs.YtjdaglmkljbfkaaGreatDoor
namespace Go.Proofs.YtjdaglmkljbfkaaGreatDoor
open Go Go.Gx Go.RowKit
set_option maxRecDepth 100000
def kindA : List Value := [.func (.func 129) #[] #[], .func (.func 130) #[] #[], .func (.func 81) #[] #[]]
theorem vertices_spec (w0 : Base) (η : Heap) : CallsT Tryz.prog 94 [] (St w0 η) fun v A' => v = .agg kindA.toArray ∧ A' = St w0 η := by
 refine CallsT.body Tryz.func94 rfl rfl ?_
 simp only [Tryz.ntmps94, slotsOf, Nat.reduceAdd]
 refine Qe (Qg ?_)
 refine TL_e rfl rfl rfl (rfl) (ET_alloc rfl KF.zero_166) ?_
 rintro _ _ ⟨b0, rfl, rfl⟩
 refine Qf (Qb (Qe (Qg ?_)))
 refine Qa rfl rfl (QT_build rfl rfl KF.zero_166 KF.pl_166 rfl rfl rfl) ?_
 refine TL_e0 rfl rfl (rfl) (ET_storeW 0 rfl rfl rfl KF.sz_166 rfl rfl rfl) ?_
 rintro _ _ ⟨rfl, rfl⟩
 refine Qf (Qb ?_)
 refine Qu ?_
 exact Qs (.inl rfl) (resC 0 rfl rfl Tryz.underlying166 rfl rfl KF.sz_166) ⟨_, ⟨rfl, rfl⟩, fun _ h => h.tail⟩
theorem all7R {rs : List (List Nat)} (h : ∀ r ∈ rs, RcF r) : All7 (rs.map rvV) := by
 intro r hr
 obtain ⟨x, hx, rfl⟩ := List.mem_map.1 hr
 exact rvV_ints (h x hx)
/-- the records of bytes, and the refusal -/
def dcE (L : Lay) (bs : List Nat) : Int := if errRG L bs = 0 then (trioF L ((outRG L bs).map rvV)).2 else errRG L bs
def dcO (L : Lay) (bs : List Nat) : List (List Nat) := if dcE L bs = 0 then outRG L bs else []
set_option maxHeartbeats 1000000 in
theorem decodeR_spec (w0 : Base) (η : Heap) (hG : Sets w0) (L : Lay) (sv : Value) (bs : List Nat) (hs : SlA (St w0 η) sv 1 bs.length (byV bs)) (hb : ∀ c ∈ bs, c < 256) :
    CallsT Tryz.prog 93 [.agg kindA.toArray, L.val, sv] (St w0 η) fun v A' => ∃ rv H, v = .tuple #[rv, .int .i64 (dcE L bs)] ∧ Frag 77 7 rv (dcO L bs).length (flatR (dcO L bs)) H ∧ A' = St w0 (H ++ η) := by
  refine CallsT.body Tryz.func93 rfl rfl ?_
  simp only [Tryz.ntmps93, slotsOf, Nat.reduceAdd]
  refine Qe (Qg ?_)
  refine TL_e rfl rfl rfl (rfl) (ET_box rfl rfl) ?_
  rintro _ _ ⟨b3, rfl, rfl⟩
  refine TL_e rfl rfl rfl (rfl) (ET_box rfl rfl) ?_
  rintro _ _ ⟨b4, rfl, rfl⟩
  refine Qa rfl rfl (Qd rfl rfl rfl) ?_
  refine Qa rfl rfl (Qd rfl rfl rfl) ?_
  refine Qf (Qb (Qe ?_))
  refine TC_A (St w0 ((b4, 27, L.cells) :: (b3, 166, kindA) :: η)) (fun _ h => h) ?_
  refine Qg ?_
  refine Qa rfl rfl (Qh rfl rfl KF.fld_166_0 rfl) ?_
  refine Qa rfl rfl (Qj (v := .func (.func 129) #[] #[]) 1 rfl rfl Tryz.underlying88 rfl rfl rfl (fun _ => rfl)) ?_
  refine Qa rfl rfl (Ql 0 rfl rfl Tryz.underlying27 rfl rfl rfl KF.sz_27) ?_
  refine Qa rfl rfl (Qc rfl rfl rfl) ?_
  refine TL_e rfl rfl rfl (rfl) (ET_goes (Goes.value rfl rfl KF.cal_129 rfl) (rget0_any w0 _ hG L _ bs (hs.mono fun _ h => h.tail.tail) hb)) ?_
  rintro _ _ ⟨rv, H1, rfl, hF1, rfl⟩
  refine Qa rfl rfl (Qc rfl rfl rfl) ?_
  refine Qa rfl rfl (Qx rfl rfl rfl rfl) ?_
  refine Qa rfl rfl (Qx rfl rfl rfl rfl) ?_
  refine Qa rfl rfl (Qd rfl rfl rfl) ?_
  refine Qa rfl rfl (Qd rfl rfl rfl) ?_
  refine Qf (Qb (Qe (Qe (Qg ?_))))
  refine Qa rfl rfl (Qc rfl rfl rfl) ?_
  refine Qa rfl rfl (QT_neq rfl rfl rfl rfl) ?_
  refine Qf (Qb ?_)
  refine Qm rfl (fun h19 => ?_) (fun h19 => ?_)
  ·
    refine Qe (Qg ?_)
    refine Qa rfl rfl (Qc rfl rfl rfl) ?_
    refine Qa rfl rfl (Qd rfl rfl rfl) ?_
    refine Qa rfl rfl (Qd rfl rfl rfl) ?_
    refine Qf (Qb ?_)
    refine Qu ?_
    refine Qn ?_
    have e : dcE L bs = errRG L bs := by unfold dcE; rw [if_neg h19]
    have eo : dcO L bs = [] := by unfold dcO; rw [e, if_neg h19]
    exact Qs (.inl rfl) (res2 rfl rfl rfl) ⟨_, ⟨_, [], by rw [e]; rfl, by rw [eo]; exact Frag.nil _ _, rfl⟩, fun w h => h.app_right.tail.tail⟩
  ·
    refine Qt (Qb (Qe (Qe ?_)))
    have e0 := Classical.not_not.1 h19
    have hol := outRG_len L bs
    have hsh : ∀ r ∈ outRG L bs, RcF r := outRG_rcf
    have hl := (errRG_zero e0).2.1
    have e1 : dcE L bs = (trioF L ((outRG L bs).map rvV)).2 := by unfold dcE; rw [if_pos e0]
    have hF2 : Frag 77 7 rv ((outRG L bs).map rvV).length ((outRG L bs).map rvV).flatten H1 := by rw [List.length_map]; exact hF1
    refine TC_A (St w0 ((b4, 27, L.cells) :: (b3, 166, kindA) :: (H1 ++ η))) (fun w h => h.cnt fun p => by simp only [List.countP_append, List.countP_cons, List.countP_nil]; omega) ?_
    refine Qg ?_
    refine Qa rfl rfl (Qh rfl rfl KF.fld_166_2 rfl) ?_
    refine Qa rfl rfl (Qj (v := .func (.func 81) #[] #[]) 1 rfl rfl Tryz.underlying156 rfl rfl rfl (fun _ => rfl)) ?_
    refine Qa rfl rfl (Ql 0 rfl rfl Tryz.underlying27 rfl rfl rfl KF.sz_27) ?_
    refine Qa rfl rfl (Qc rfl rfl rfl) ?_
    refine TL_e rfl rfl rfl (rfl) (ET_goes (Goes.value rfl rfl KF.cal_81 rfl) (of_spec w0 _ hG L _ ((outRG L bs).map rvV) (hF2.within fun p => by simp only [List.countP_append, List.countP_cons]; omega) (all7R hsh) (by rw [List.length_map]; omega))) ?_
    rintro _ _ ⟨pv, H2, rfl, hF3, X, rfl⟩
    refine Qa rfl rfl (Qc rfl rfl rfl) ?_
    refine Qa rfl rfl (Qx rfl rfl rfl rfl) ?_
    refine Qa rfl rfl (Qx rfl rfl rfl rfl) ?_
    refine Qa rfl rfl (Qd rfl rfl rfl) ?_
    refine Qf (Qb (Qe (Qg ?_)))
    refine Qa rfl rfl (Qc rfl rfl rfl) ?_
    refine Qa rfl rfl (QT_neq rfl rfl rfl rfl) ?_
    refine Qf (Qb ?_)
    refine Qm rfl (fun h30 => ?_) (fun h30 => ?_)
    ·
      refine Qe (Qg ?_)
      refine Qa rfl rfl (Qc rfl rfl rfl) ?_
      refine Qa rfl rfl (Qd rfl rfl rfl) ?_
      refine Qa rfl rfl (Qd rfl rfl rfl) ?_
      refine Qf (Qb ?_)
      refine Qu ?_
      refine Qn ?_
      have eo : dcO L bs = [] := by unfold dcO; rw [e1, if_neg h30]
      exact Qs (.inl rfl) (res2 rfl rfl rfl) ⟨_, ⟨_, [], by rw [e1]; rfl, by rw [eo]; exact Frag.nil _ _, rfl⟩, fun w h => h.cnt fun p => by simp only [List.countP_append, List.countP_cons, List.countP_nil]; omega⟩
    ·
      refine Qt (Qb (Qe (Qg ?_)))
      refine Qa rfl rfl (Qc rfl rfl rfl) ?_
      refine Qa rfl rfl (Qd rfl rfl rfl) ?_
      refine Qa rfl rfl (Qd rfl rfl rfl) ?_
      refine Qf (Qb ?_)
      refine Qu ?_
      have e2 := Classical.not_not.1 h30
      have eo : dcO L bs = outRG L bs := by unfold dcO; rw [e1, if_pos e2]
      exact Qs (.inl rfl) (res2 rfl rfl rfl) ⟨_, ⟨rv, H1, by rw [e1, e2]; rfl, by rw [eo]; exact hF1, rfl⟩, fun w h => h.cnt fun p => by simp only [List.countP_append, List.countP_cons, List.countP_nil]; omega⟩
end Go.Proofs.YtjdaglmkljbfkaaGreatDoor
namespace Go.Proofs.YtjdaglmkljbfkaaGreatDoor
open Go Go.Gx Go.RowKit
set_option maxRecDepth 100000
def kindB : List Value := [.func (.func 131) #[] #[], .func (.func 132) #[] #[], .func (.func 82) #[] #[]]
theorem patches_spec (w0 : Base) (η : Heap) : CallsT Tryz.prog 100 [] (St w0 η) fun v A' => v = .agg kindB.toArray ∧ A' = St w0 η := by
 refine CallsT.body Tryz.func100 rfl rfl ?_
 simp only [Tryz.ntmps100, slotsOf, Nat.reduceAdd]
 refine Qe (Qg ?_)
 refine TL_e rfl rfl rfl (rfl) (ET_alloc rfl KF.zero_171) ?_
 rintro _ _ ⟨b0, rfl, rfl⟩
 refine Qf (Qb (Qe (Qg ?_)))
 refine Qa rfl rfl (QT_build rfl rfl KF.zero_171 KF.pl_171 rfl rfl rfl) ?_
 refine TL_e0 rfl rfl (rfl) (ET_storeW 0 rfl rfl rfl KF.sz_171 rfl rfl rfl) ?_
 rintro _ _ ⟨rfl, rfl⟩
 refine Qf (Qb ?_)
 refine Qu ?_
 exact Qs (.inl rfl) (resC 0 rfl rfl Tryz.underlying171 rfl rfl KF.sz_171) ⟨_, ⟨rfl, rfl⟩, fun _ h => h.tail⟩
end Go.Proofs.YtjdaglmkljbfkaaGreatDoor
namespace Go.Proofs.YtjdaglmkljbfkaaGreatDoor
open Go Go.Gx Go.RowKit
set_option maxRecDepth 100000
/-- bytes of records, and the refusal -/
def ecE (L : Lay) (rs : List (List Nat)) : Int := if (trioF L (rs.map rvV)).2 = 0 then errRP L rs else (trioF L (rs.map rvV)).2
def ecO (L : Lay) (rs : List (List Nat)) : List Nat := if ecE L rs = 0 then outRP L rs else []
theorem ecO_eq {L : Lay} {rs : List (List Nat)} (h : (trioF L (rs.map rvV)).2 = 0) : ecO L rs = outRP L rs := by
 unfold ecO ecE
 rw [if_pos h]
 by_cases h1 : errRP L rs = 0
 · rw [if_pos h1]
 · rw [if_neg h1, errRP_bad h1]
set_option maxHeartbeats 1000000 in
theorem encodeR_spec (w0 : Base) (η : Heap) (hG : Sets w0) (L : Lay) (sv : Value) (rs : List (List Nat)) (hs : SlA (St w0 η) sv 7 rs.length (flatR rs)) (hr : ∀ r ∈ rs, RcF r) (hn : rs.length ≤ 100000000) :
    CallsT Tryz.prog 96 [.agg kindA.toArray, L.val, sv] (St w0 η) fun v A' => ∃ bv H, v = .tuple #[bv, .int .i64 (ecE L rs)] ∧ Frag 5 1 bv (ecO L rs).length (byV (ecO L rs)) H ∧ A' = St w0 (H ++ η) := by
  have hs2 : SlA (St w0 η) sv 7 (rs.map rvV).length (rs.map rvV).flatten := by rw [List.length_map]; exact hs
  refine CallsT.body Tryz.func96 rfl rfl ?_
  simp only [Tryz.ntmps96, slotsOf, Nat.reduceAdd]
  refine Qe (Qg ?_)
  refine TL_e rfl rfl rfl (rfl) (ET_box rfl rfl) ?_
  rintro _ _ ⟨b3, rfl, rfl⟩
  refine TL_e rfl rfl rfl (rfl) (ET_box rfl rfl) ?_
  rintro _ _ ⟨b4, rfl, rfl⟩
  refine Qa rfl rfl (Qd rfl rfl rfl) ?_
  refine Qa rfl rfl (Qd rfl rfl rfl) ?_
  refine Qf (Qb (Qe (Qe ?_)))
  refine TC_A (St w0 ((b4, 27, L.cells) :: (b3, 166, kindA) :: η)) (fun _ h => h) ?_
  refine Qg ?_
  refine Qa rfl rfl (Qh rfl rfl KF.fld_166_2 rfl) ?_
  refine Qa rfl rfl (Qj (v := .func (.func 81) #[] #[]) 1 rfl rfl Tryz.underlying156 rfl rfl rfl (fun _ => rfl)) ?_
  refine Qa rfl rfl (Ql 0 rfl rfl Tryz.underlying27 rfl rfl rfl KF.sz_27) ?_
  refine Qa rfl rfl (Qc rfl rfl rfl) ?_
  refine TL_e rfl rfl rfl (rfl) (ET_goes (Goes.value rfl rfl KF.cal_81 rfl) (of_spec w0 _ hG L _ (rs.map rvV) (hs2.mono fun _ h => h.tail.tail) (all7R hr) (by rw [List.length_map]; omega))) ?_
  rintro _ _ ⟨pv, H2, rfl, hF3, X, rfl⟩
  refine Qa rfl rfl (Qc rfl rfl rfl) ?_
  refine Qa rfl rfl (Qx rfl rfl rfl rfl) ?_
  refine Qa rfl rfl (Qx rfl rfl rfl rfl) ?_
  refine Qa rfl rfl (Qd rfl rfl rfl) ?_
  refine Qa rfl rfl (Qd rfl rfl rfl) ?_
  refine Qf (Qb (Qe (Qg ?_)))
  refine Qa rfl rfl (Qc rfl rfl rfl) ?_
  refine Qa rfl rfl (QT_neq rfl rfl rfl rfl) ?_
  refine Qf (Qb ?_)
  refine Qm rfl (fun h19 => ?_) (fun h19 => ?_)
  ·
    refine Qe (Qg ?_)
    refine Qa rfl rfl (Qc rfl rfl rfl) ?_
    refine Qa rfl rfl (Qd rfl rfl rfl) ?_
    refine Qa rfl rfl (Qd rfl rfl rfl) ?_
    refine Qf (Qb ?_)
    refine Qu ?_
    refine Qn ?_
    have e : ecE L rs = (trioF L (rs.map rvV)).2 := by unfold ecE; rw [if_neg h19]
    have eo : ecO L rs = [] := by unfold ecO; rw [e, if_neg h19]
    exact Qs (.inl rfl) (res2 rfl rfl rfl) ⟨_, ⟨_, [], by rw [e]; rfl, by rw [eo]; exact Frag.nil _ _, rfl⟩, fun w h => h.cnt fun p => by simp only [List.countP_append, List.countP_cons, List.countP_nil]; omega⟩
  ·
    refine Qt (Qb (Qe ?_))
    have e0 := Classical.not_not.1 h19
    have e1 : ecE L rs = errRP L rs := by unfold ecE; rw [if_pos e0]
    refine TC_A (St w0 ((b4, 27, L.cells) :: (b3, 166, kindA) :: η)) (fun w h => h.cnt fun p => by simp only [List.countP_append, List.countP_cons, List.countP_nil]; omega) ?_
    refine Qg ?_
    refine Qa rfl rfl (Qh rfl rfl KF.fld_166_1 rfl) ?_
    refine Qa rfl rfl (Qj (v := .func (.func 130) #[] #[]) 1 rfl rfl Tryz.underlying153 rfl rfl rfl (fun _ => rfl)) ?_
    refine Qa rfl rfl (Ql 0 rfl rfl Tryz.underlying27 rfl rfl rfl KF.sz_27) ?_
    refine Qa rfl rfl (Qc rfl rfl rfl) ?_
    refine TL_e rfl rfl rfl (rfl) (ET_goes (Goes.value rfl rfl KF.cal_130 rfl) (rput0_spec w0 _ hG L _ rs (hs.mono fun _ h => h.tail.tail) hr hn)) ?_
    rintro _ _ ⟨bv, H1, rfl, hF1, rfl⟩
    refine Qa rfl rfl (Qx rfl rfl rfl rfl) ?_
    refine Qa rfl rfl (Qx rfl rfl rfl rfl) ?_
    refine Qa rfl rfl (Qd rfl rfl rfl) ?_
    refine Qa rfl rfl (Qd rfl rfl rfl) ?_
    refine Qf (Qb ?_)
    refine Qu ?_
    exact Qs (.inl rfl) (res2 rfl rfl rfl) ⟨_, ⟨bv, H1, by rw [e1]; rfl, by rw [ecO_eq e0]; exact hF1, rfl⟩, fun w h => h.cnt fun p => by simp only [List.countP_append, List.countP_cons, List.countP_nil]; omega⟩
end Go.Proofs.YtjdaglmkljbfkaaGreatDoor
namespace Go.Proofs.YtjdaglmkljbfkaaGreatDoor
open Go Go.Gx Go.RowKit
set_option maxRecDepth 100000
/-- bytes of records, and the refusal -/
def esE (L : Lay) (rs : List (List Nat)) : Int := if T12.errT L rs.length (flatS rs) = 0 then errP L rs else T12.errT L rs.length (flatS rs)
def esO (L : Lay) (rs : List (List Nat)) : List Nat := if esE L rs = 0 then outP L rs else []
theorem esO_eq {L : Lay} {rs : List (List Nat)} (h : T12.errT L rs.length (flatS rs) = 0) : esO L rs = outP L rs := by
 unfold esO esE
 rw [if_pos h]
 by_cases h1 : errP L rs = 0
 · rw [if_pos h1]
 · rw [if_neg h1, errP_bad h1]
set_option maxHeartbeats 1000000 in
theorem encodeS_spec (w0 : Base) (η : Heap) (hG : Sets w0) (hE : T12.Edges w0) (L : Lay) (sv : Value) (rs : List (List Nat)) (hs : SlA (St w0 η) sv 49 rs.length (flatS rs)) (hr : ∀ r ∈ rs, ShF r) (hn : rs.length ≤ 1000000) :
    CallsT Tryz.prog 102 [.agg kindB.toArray, L.val, sv] (St w0 η) fun v A' => ∃ bv H, v = .tuple #[bv, .int .i64 (esE L rs)] ∧ Frag 5 1 bv (esO L rs).length (byV (esO L rs)) H ∧ A' = St w0 (H ++ η) := by
  refine CallsT.body Tryz.func102 rfl rfl ?_
  simp only [Tryz.ntmps102, slotsOf, Nat.reduceAdd]
  refine Qe (Qg ?_)
  refine TL_e rfl rfl rfl (rfl) (ET_box rfl rfl) ?_
  rintro _ _ ⟨b3, rfl, rfl⟩
  refine TL_e rfl rfl rfl (rfl) (ET_box rfl rfl) ?_
  rintro _ _ ⟨b4, rfl, rfl⟩
  refine Qa rfl rfl (Qd rfl rfl rfl) ?_
  refine Qa rfl rfl (Qd rfl rfl rfl) ?_
  refine Qf (Qb (Qe (Qe ?_)))
  refine TC_A (St w0 ((b4, 27, L.cells) :: (b3, 171, kindB) :: η)) (fun _ h => h) ?_
  refine Qg ?_
  refine Qa rfl rfl (Qh rfl rfl KF.fld_171_2 rfl) ?_
  refine Qa rfl rfl (Qj (v := .func (.func 82) #[] #[]) 1 rfl rfl Tryz.underlying158 rfl rfl rfl (fun _ => rfl)) ?_
  refine Qa rfl rfl (Ql 0 rfl rfl Tryz.underlying27 rfl rfl rfl KF.sz_27) ?_
  refine Qa rfl rfl (Qc rfl rfl rfl) ?_
  refine TL_e rfl rfl rfl (rfl) (ET_goes (Goes.value rfl rfl KF.cal_82 rfl) (T12.of_spec w0 _ hG hE L _ _ (flatS rs) (hs.mono fun _ h => h.tail.tail) (flatS_ints hr) (by omega))) ?_
  rintro _ _ ⟨pv, H2, rfl, hF3, rfl⟩
  refine Qa rfl rfl (Qc rfl rfl rfl) ?_
  refine Qa rfl rfl (Qx rfl rfl rfl rfl) ?_
  refine Qa rfl rfl (Qx rfl rfl rfl rfl) ?_
  refine Qa rfl rfl (Qd rfl rfl rfl) ?_
  refine Qa rfl rfl (Qd rfl rfl rfl) ?_
  refine Qf (Qb (Qe (Qg ?_)))
  refine Qa rfl rfl (Qc rfl rfl rfl) ?_
  refine Qa rfl rfl (QT_neq rfl rfl rfl rfl) ?_
  refine Qf (Qb ?_)
  refine Qm rfl (fun h19 => ?_) (fun h19 => ?_)
  ·
    refine Qe (Qg ?_)
    refine Qa rfl rfl (Qc rfl rfl rfl) ?_
    refine Qa rfl rfl (Qd rfl rfl rfl) ?_
    refine Qa rfl rfl (Qd rfl rfl rfl) ?_
    refine Qf (Qb ?_)
    refine Qu ?_
    refine Qn ?_
    have e : esE L rs = T12.errT L rs.length (flatS rs) := by unfold esE; rw [if_neg h19]
    have eo : esO L rs = [] := by unfold esO; rw [e, if_neg h19]
    exact Qs (.inl rfl) (res2 rfl rfl rfl) ⟨_, ⟨_, [], by rw [e]; rfl, by rw [eo]; exact Frag.nil _ _, rfl⟩, fun w h => h.cnt fun p => by simp only [List.countP_append, List.countP_cons, List.countP_nil]; omega⟩
  ·
    refine Qt (Qb (Qe ?_))
    have e0 := Classical.not_not.1 h19
    have e1 : esE L rs = errP L rs := by unfold esE; rw [if_pos e0]
    refine TC_A (St w0 ((b4, 27, L.cells) :: (b3, 171, kindB) :: η)) (fun w h => h.cnt fun p => by simp only [List.countP_append, List.countP_cons, List.countP_nil]; omega) ?_
    refine Qg ?_
    refine Qa rfl rfl (Qh rfl rfl KF.fld_171_1 rfl) ?_
    refine Qa rfl rfl (Qj (v := .func (.func 132) #[] #[]) 1 rfl rfl Tryz.underlying154 rfl rfl rfl (fun _ => rfl)) ?_
    refine Qa rfl rfl (Ql 0 rfl rfl Tryz.underlying27 rfl rfl rfl KF.sz_27) ?_
    refine Qa rfl rfl (Qc rfl rfl rfl) ?_
    refine TL_e rfl rfl rfl (rfl) (ET_goes (Goes.value rfl rfl KF.cal_132 rfl) (sput_spec w0 _ hG L _ rs (hs.mono fun _ h => h.tail.tail) hr (by omega))) ?_
    rintro _ _ ⟨bv, H1, rfl, hF1, rfl⟩
    refine Qa rfl rfl (Qx rfl rfl rfl rfl) ?_
    refine Qa rfl rfl (Qx rfl rfl rfl rfl) ?_
    refine Qa rfl rfl (Qd rfl rfl rfl) ?_
    refine Qa rfl rfl (Qd rfl rfl rfl) ?_
    refine Qf (Qb ?_)
    refine Qu ?_
    exact Qs (.inl rfl) (res2 rfl rfl rfl) ⟨_, ⟨bv, H1, by rw [e1]; rfl, by rw [esO_eq e0]; exact hF1, rfl⟩, fun w h => h.cnt fun p => by simp only [List.countP_append, List.countP_cons, List.countP_nil]; omega⟩
end Go.Proofs.YtjdaglmkljbfkaaGreatDoor
namespace Go.Gx
open Go Go.RowKit
/-- two results: one that lies in memory, one that does not -/
theorem resCT {P : Program} {n : Nat} {σ : Slots} {t : TypeId} {w0 : Base} {η : Heap} {fn : Func} {r u b T : Nat} {cs : List Value} {d : TypeDesc} {x : Value} (i : Nat) (hr : fn.results = #[.cell r t, .tmp u]) (hp : look σ r = some (true, .pointer (some ⟨b, 0, none⟩))) (hx : look σ u = some (true, x)) (hu : P.underlying t = some d) (hd : isAggD d = true)
    (hi : nth η i = some (b, T, cs)) (hm : Sz P t cs.length) : ∀ a w, Fr n σ a → St w0 η w → (results fn a.tmps).run P w = .ok (.tuple #[.agg cs.toArray, x]) w := by
  intro a w hf hA
  have hk := hf.known r true _ hp
  have hk2 := hf.known u true _ hx
  simp only [cond_true] at hk hk2
  have h1 := hA.loadCells (P := P) (off := 0) (m := cs.length) hi (by omega)
  simp only [List.drop_zero, List.take_length] at h1
  have hk' : a.tmps[r]?.getD undef = .pointer (some ⟨b, 0, none⟩) := by simpa using hk
  have hk2' : a.tmps[u]?.getD undef = x := by simpa using hk2
  simp [results, hr, hk', hk2', asAddr, loadVar, run_isAgg hu, hd, run_sizeOf hm, h1]
theorem ET_under {P : Program} {n : Nat} {o : Oper} {σ : Slots} {A A' : World → Prop} {R : Value → (World → Prop) → Prop} (h : ET P n o σ A' R) (hs : ∀ w, A w → A' w) : ET P n o σ A R := fun a w hf hA => h a w hf (hs w hA)
end Go.Gx
namespace Go.Proofs.YtjdaglmkljbfkaaGreatDoor
open Go Go.Gx Go.RowKit
set_option maxRecDepth 100000
theorem decA_spec (w0 : Base) (η : Heap) (hG : Sets w0) (L : Lay) (sv : Value) (bs : List Nat) (hs : SlA (St w0 η) sv 1 bs.length (byV bs)) (hb : ∀ c ∈ bs, c < 256) :
  CallsT Tryz.prog 92 [L.val, sv] (St w0 η) fun v A' => ∃ rv H, v = .tuple #[.agg #[rv, nilS], .int .i64 (dcE L bs)] ∧ Frag 77 7 rv (dcO L bs).length (flatR (dcO L bs)) H ∧ A' = St w0 (H ++ η) := by
 refine CallsT.body Tryz.func92 rfl rfl ?_
 simp only [Tryz.ntmps92, slotsOf, Nat.reduceAdd]
 refine Qe (Qg ?_)
 refine TL_e rfl rfl rfl (rfl) (ET_box rfl rfl) ?_
 rintro _ _ ⟨b2, rfl, rfl⟩
 refine TL_e rfl rfl rfl (rfl) (ET_alloc rfl KF.zero_34) ?_
 rintro _ _ ⟨b4, rfl, rfl⟩
 refine Qa rfl rfl (Qd rfl rfl rfl) ?_
 refine Qf (Qb (Qe ?_))
 refine TC_A (St w0 ((b4, 34, [nilS, nilS]) :: (b2, 27, L.cells) :: η)) (fun _ h => h) ?_
 refine TC_draw [(1, 0), (2, 0), (0, 1), (3, 1), (4, 0), (5, 0), (6, 0), (7, 0), (8, 1), (9, 0)] KF.mixed (by kernel_rfl) (St.calm _ _) ?_
 refine Qz rfl rfl rfl (Ql 1 rfl rfl Tryz.underlying27 rfl rfl rfl KF.sz_27) ?_
 refine Qk rfl rfl rfl (fun _ => Qc rfl rfl rfl) ?_
 refine TV_cq rfl rfl rfl rfl rfl KF.cal_94 rfl (fun _ => vertices_spec w0 _) (.keep (by kernel_rfl) rfl (by first | exact Ql 0 rfl rfl Tryz.underlying27 rfl rfl rfl KF.sz_27 | exact Ql 1 rfl rfl Tryz.underlying27 rfl rfl rfl KF.sz_27 | exact Ql 2 rfl rfl Tryz.underlying27 rfl rfl rfl KF.sz_27 | exact QT_loadA 0 rfl rfl Tryz.underlying27 rfl rfl rfl KF.sz_27 (fun _ => rfl) | exact QT_loadA 1 rfl rfl Tryz.underlying27 rfl rfl rfl KF.sz_27 (fun _ => rfl) | exact QT_loadA 2 rfl rfl Tryz.underlying27 rfl rfl rfl KF.sz_27 (fun _ => rfl)) (.nil)) ?_
 refine TV_e rfl rfl rfl rfl (rfl) (ET_call rfl KF.cal_93 rfl (decodeR_spec w0 _ hG L _ bs (hs.mono fun _ h => h.tail.tail) hb)) ?_
 rintro _ _ ⟨rv, H1, rfl, hF1, rfl⟩
 refine ⟨_, .drop (by kernel_rfl) (.nil), ?_⟩
 refine Qk rfl rfl rfl (fun _ => Qc rfl rfl rfl) ?_
 refine Qk rfl rfl rfl (fun _ => Qx rfl rfl rfl rfl) ?_
 refine Qk rfl rfl rfl (fun _ => Qx rfl rfl rfl rfl) ?_
 refine Qk rfl rfl rfl (fun _ => Qh rfl rfl KF.fld_34_0 rfl) ?_
 obtain ⟨rad, rcap, rfl, _, _⟩ := hF1.slice
 refine TV_e0 rfl rfl rfl (rfl) (ET_under (ET_store (w0 := w0) (η := (b4, 34, [nilS, nilS]) :: (H1 ++ ((b2, 27, L.cells) :: η))) (vs := [.slice rad (dcO L bs).length rcap]) 0 rfl rfl rfl rfl KF.sz_31 rfl rfl rfl) (fun w h => h.cnt fun p => by simp only [List.countP_append, List.countP_cons, List.countP_nil]; omega)) ?_
 rintro _ _ ⟨rfl, rfl⟩
 refine ⟨_, .nil, ?_⟩
 refine Qk rfl rfl rfl (fun _ => Qd rfl rfl rfl) ?_
 refine TV_end (Qb (Qe ?_))
 refine TC_A (St w0 ((b4, 34, [.slice rad (dcO L bs).length rcap, nilS]) :: (H1 ++ ((b2, 27, L.cells) :: η)))) (fun _ h => h) ?_
 refine Qg ?_
 refine Qa rfl rfl (Ql 0 rfl rfl Tryz.underlying34 rfl rfl rfl KF.sz_34) ?_
 refine Qa rfl rfl (Qc rfl rfl rfl) ?_
 refine TL_e0 rfl rfl (rfl) (ET_storeW 0 rfl rfl rfl KF.sz_34 rfl rfl rfl) ?_
 rintro _ _ ⟨rfl, rfl⟩
 refine Qa rfl rfl (Qd rfl rfl rfl) ?_
 refine Qf (Qb ?_)
 refine Qu ?_
 exact Qs (.inl rfl) (resCT 0 rfl rfl rfl Tryz.underlying34 rfl rfl KF.sz_34) ⟨_, ⟨_, H1, rfl, hF1, rfl⟩, fun w h => h.cnt fun p => by simp only [upd, List.countP_append, List.countP_cons, List.countP_nil]; omega⟩
end Go.Proofs.YtjdaglmkljbfkaaGreatDoor
namespace Go.Proofs.YtjdaglmkljbfkaaGreatDoor
open Go Go.Gx Go.RowKit
set_option maxRecDepth 100000
end Go.Proofs.YtjdaglmkljbfkaaGreatDoor
namespace Go.Proofs.YtjdaglmkljbfkaaGreatDoor
open Go Go.Gx Go.RowKit
set_option maxRecDepth 100000
theorem encA_spec (w0 : Base) (η : Heap) (hG : Sets w0) (L : Lay) (ra sa : Option Addr) (ns rc sc : Nat) (rs : List (List Nat)) (hs : SlA (St w0 η) (.slice ra rs.length rc) 7 rs.length (flatR rs)) (hr : ∀ r ∈ rs, RcF r) (hn : rs.length ≤ 100000000) :
  CallsT Tryz.prog 95 [L.val, .agg #[.slice ra rs.length rc, .slice sa ns sc]] (St w0 η) fun v A' => ∃ bv H, v = .tuple #[bv, .int .i64 (ecE L rs)] ∧ Frag 5 1 bv (ecO L rs).length (byV (ecO L rs)) H ∧ A' = St w0 (H ++ η) := by
 refine CallsT.body Tryz.func95 rfl rfl ?_
 simp only [Tryz.ntmps95, slotsOf, Nat.reduceAdd]
 refine Qe (Qg ?_)
 refine TL_e rfl rfl rfl (rfl) (ET_box rfl rfl) ?_
 rintro _ _ ⟨b2, rfl, rfl⟩
 refine TL_e rfl rfl rfl (rfl) (ET_box rfl rfl) ?_
 rintro _ _ ⟨b3, rfl, rfl⟩
 refine Qa rfl rfl (Qd rfl rfl rfl) ?_
 refine Qa rfl rfl (Qd rfl rfl rfl) ?_
 refine Qf (Qb (Qe ?_))
 refine TC_A (St w0 ((b3, 34, [.slice ra rs.length rc, .slice sa ns sc]) :: (b2, 27, L.cells) :: η)) (fun _ h => h) ?_
 refine TC_draw [(1, 0), (2, 0), (3, 0), (0, 1), (4, 1), (5, 0), (6, 0), (7, 0), (8, 0)] KF.mixed (by kernel_rfl) (St.calm _ _) ?_
 refine Qz rfl rfl rfl (Ql 1 rfl rfl Tryz.underlying27 rfl rfl rfl KF.sz_27) ?_
 refine Qk rfl rfl rfl (fun _ => Qh rfl rfl KF.fld_34_0 rfl) ?_
 refine Qz rfl rfl rfl (Qj 0 rfl rfl Tryz.underlying31 rfl rfl rfl (fun _ => rfl)) ?_
 refine TV_cq rfl rfl rfl rfl rfl KF.cal_94 rfl (fun _ => vertices_spec w0 _) (.keep (by kernel_rfl) rfl (by first | exact Qj 0 rfl rfl Tryz.underlying31 rfl rfl rfl (fun _ => rfl) | exact Qj 1 rfl rfl Tryz.underlying31 rfl rfl rfl (fun _ => rfl) | exact Qj 2 rfl rfl Tryz.underlying31 rfl rfl rfl (fun _ => rfl)) (.keep (by kernel_rfl) rfl (by first | exact Ql 0 rfl rfl Tryz.underlying27 rfl rfl rfl KF.sz_27 | exact Ql 1 rfl rfl Tryz.underlying27 rfl rfl rfl KF.sz_27 | exact Ql 2 rfl rfl Tryz.underlying27 rfl rfl rfl KF.sz_27 | exact QT_loadA 0 rfl rfl Tryz.underlying27 rfl rfl rfl KF.sz_27 (fun _ => rfl) | exact QT_loadA 1 rfl rfl Tryz.underlying27 rfl rfl rfl KF.sz_27 (fun _ => rfl) | exact QT_loadA 2 rfl rfl Tryz.underlying27 rfl rfl rfl KF.sz_27 (fun _ => rfl)) (.nil))) ?_
 refine TV_e rfl rfl rfl rfl (rfl) (ET_call rfl KF.cal_96 rfl (encodeR_spec w0 _ hG L _ rs (hs.mono fun _ h => h.tail.tail) hr hn)) ?_
 rintro _ _ ⟨bv, H1, rfl, hF1, rfl⟩
 refine ⟨_, .drop (by kernel_rfl) (.drop (by kernel_rfl) (.nil)), ?_⟩
 refine Qk rfl rfl rfl (fun _ => Qx rfl rfl rfl rfl) ?_
 refine Qk rfl rfl rfl (fun _ => Qx rfl rfl rfl rfl) ?_
 refine Qk rfl rfl rfl (fun _ => Qd rfl rfl rfl) ?_
 refine Qk rfl rfl rfl (fun _ => Qd rfl rfl rfl) ?_
 refine TV_end (Qb ?_)
 refine Qu ?_
 exact Qs (.inl rfl) (res2 rfl rfl rfl) ⟨_, ⟨_, H1, rfl, hF1, rfl⟩, fun w h => h.cnt fun p => by simp only [List.countP_append, List.countP_cons, List.countP_nil]; omega⟩
theorem encB_spec (w0 : Base) (η : Heap) (hG : Sets w0) (hE : T12.Edges w0) (L : Lay) (ra sa : Option Addr) (nr rc sc : Nat) (rs : List (List Nat)) (hs : SlA (St w0 η) (.slice sa rs.length sc) 49 rs.length (flatS rs)) (hr : ∀ r ∈ rs, ShF r) (hn : rs.length ≤ 1000000) :
  CallsT Tryz.prog 101 [L.val, .agg #[.slice ra nr rc, .slice sa rs.length sc]] (St w0 η) fun v A' => ∃ bv H, v = .tuple #[bv, .int .i64 (esE L rs)] ∧ Frag 5 1 bv (esO L rs).length (byV (esO L rs)) H ∧ A' = St w0 (H ++ η) := by
 refine CallsT.body Tryz.func101 rfl rfl ?_
 simp only [Tryz.ntmps101, slotsOf, Nat.reduceAdd]
 refine Qe (Qg ?_)
 refine TL_e rfl rfl rfl (rfl) (ET_box rfl rfl) ?_
 rintro _ _ ⟨b2, rfl, rfl⟩
 refine TL_e rfl rfl rfl (rfl) (ET_box rfl rfl) ?_
 rintro _ _ ⟨b3, rfl, rfl⟩
 refine Qa rfl rfl (Qd rfl rfl rfl) ?_
 refine Qa rfl rfl (Qd rfl rfl rfl) ?_
 refine Qf (Qb (Qe ?_))
 refine TC_A (St w0 ((b3, 34, [.slice ra nr rc, .slice sa rs.length sc]) :: (b2, 27, L.cells) :: η)) (fun _ h => h) ?_
 refine TC_draw [(1, 0), (2, 0), (3, 0), (0, 1), (4, 1), (5, 0), (6, 0), (7, 0), (8, 0)] KF.mixed (by kernel_rfl) (St.calm _ _) ?_
 refine Qz rfl rfl rfl (Ql 1 rfl rfl Tryz.underlying27 rfl rfl rfl KF.sz_27) ?_
 refine Qk rfl rfl rfl (fun _ => Qh rfl rfl KF.fld_34_1 rfl) ?_
 refine Qz rfl rfl rfl (Qj 0 rfl rfl Tryz.underlying32 rfl rfl rfl (fun _ => rfl)) ?_
 refine TV_cq rfl rfl rfl rfl rfl KF.cal_100 rfl (fun _ => patches_spec w0 _) (.keep (by kernel_rfl) rfl (by first | exact Qj 0 rfl rfl Tryz.underlying32 rfl rfl rfl (fun _ => rfl) | exact Qj 1 rfl rfl Tryz.underlying32 rfl rfl rfl (fun _ => rfl) | exact Qj 2 rfl rfl Tryz.underlying32 rfl rfl rfl (fun _ => rfl)) (.keep (by kernel_rfl) rfl (by first | exact Ql 0 rfl rfl Tryz.underlying27 rfl rfl rfl KF.sz_27 | exact Ql 1 rfl rfl Tryz.underlying27 rfl rfl rfl KF.sz_27 | exact Ql 2 rfl rfl Tryz.underlying27 rfl rfl rfl KF.sz_27 | exact QT_loadA 0 rfl rfl Tryz.underlying27 rfl rfl rfl KF.sz_27 (fun _ => rfl) | exact QT_loadA 1 rfl rfl Tryz.underlying27 rfl rfl rfl KF.sz_27 (fun _ => rfl) | exact QT_loadA 2 rfl rfl Tryz.underlying27 rfl rfl rfl KF.sz_27 (fun _ => rfl)) (.nil))) ?_
 refine TV_e rfl rfl rfl rfl (rfl) (ET_call rfl KF.cal_102 rfl (encodeS_spec w0 _ hG hE L _ rs (hs.mono fun _ h => h.tail.tail) hr hn)) ?_
 rintro _ _ ⟨bv, H1, rfl, hF1, rfl⟩
 refine ⟨_, .drop (by kernel_rfl) (.drop (by kernel_rfl) (.nil)), ?_⟩
 refine Qk rfl rfl rfl (fun _ => Qx rfl rfl rfl rfl) ?_
 refine Qk rfl rfl rfl (fun _ => Qx rfl rfl rfl rfl) ?_
 refine Qk rfl rfl rfl (fun _ => Qd rfl rfl rfl) ?_
 refine Qk rfl rfl rfl (fun _ => Qd rfl rfl rfl) ?_
 refine TV_end (Qb ?_)
 refine Qu ?_
 exact Qs (.inl rfl) (res2 rfl rfl rfl) ⟨_, ⟨_, H1, rfl, hF1, rfl⟩, fun w h => h.cnt fun p => by simp only [List.countP_append, List.countP_cons, List.countP_nil]; omega⟩
end Go.Proofs.YtjdaglmkljbfkaaGreatDoor

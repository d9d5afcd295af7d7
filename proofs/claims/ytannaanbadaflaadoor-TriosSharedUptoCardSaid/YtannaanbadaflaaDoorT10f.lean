/- TRIANGLES OF VERTICES: the document's answer. -/
import Derived.Test.YtannaanbadaflaaDoorT10e
namespace Go.Proofs.YtannaanbadaflaaDoor
open Go Go.Gx Go.RowKit
set_option maxRecDepth 100000

structure Rst (rs : List R) (FIN : List R × Int) (i : Nat) (a b c : R) (out : List R) (fv : Value) (H : Heap) (f : Nat) : Prop where
  le : i ≤ rs.length
  ia : Ints recK a
  ib : Ints recK b
  ic : Ints recK c
  fr : Frag 65 21 fv out.length out.flatten H
  few : out.length ≤ i
  last : 0 < i → ∃ pre, out = pre ++ [B3 a b c] ∧ ∀ t ∈ pre, t.length = 21
  fin : stripF f (rs.drop i) a b c out = FIN
  fuel : rs.length - i < f
theorem Rst.all {rs : List R} {FIN : List R × Int} {i : Nat} {a b c : R} {out : List R} {fv : Value} {H : Heap} {f : Nat} (h : Rst rs FIN i a b c out fv H f) (h0 : out.length ≤ i) (hz : i = 0 → out = []) : ∀ t ∈ out, t.length = 21 := by
  intro t ht
  by_cases hi : i = 0
  · rw [hz hi] at ht; exact absurd ht List.not_mem_nil
  · obtain ⟨pre, rfl, hp⟩ := h.last (by omega)
    rcases List.mem_append.1 ht with ht | ht
    · exact hp t ht
    · cases List.mem_singleton.1 ht
      exact (B3_ints h.ia h.ib h.ic).length
theorem drop_at7 {rs : List R} {i : Nat} (h : i < rs.length) : rs.drop i = at7 rs i :: rs.drop (i + 1) := by
  rw [List.drop_eq_getElem_cons h]
  have := at7_some h
  rw [List.getElem?_eq_getElem h] at this
  rw [Option.some.inj this]
theorem strips_nil {f : Nat} {a b c : R} {out : List R} : stripF f [] a b c out = (out, 0) := by cases f <;> rfl
theorem rec_flag {rs : List R} {i : Nat} (ha : All7 rs) (h : i < rs.length) : rs.flatten[i * 7]? = some (.int .u8 (flagR (at7 rs i) : Int)) := by
  obtain ⟨f1, g1⟩ := flat_at7 ha h
  have h1 := (flagR_spec (at7_ints ha h)).1
  rw [← f1, List.getElem?_take_of_lt (by omega), List.getElem?_drop] at h1
  rw [f1] at h1
  simpa using h1
theorem last_at {pre : List R} {t : R} {rest : List Value} (hp : ∀ t ∈ pre, t.length = 21) (ht : t.length = 21) : (((pre ++ [t]).flatten ++ rest).drop (((pre ++ [t]).length - 1) * 21)).take 21 = t ∧ ((pre ++ [t]).length - 1) * 21 + 21 ≤ ((pre ++ [t]).flatten ++ rest).length := by
  have hl := flat_len hp
  have e : ((pre ++ [t]).flatten ++ rest) = pre.flatten ++ (t ++ rest) := by simp
  rw [e, show (pre ++ [t]).length - 1 = pre.length by simp, ← hl]
  constructor
  · rw [List.drop_left, ← ht, List.take_left]
  · simp [ht]

set_option maxHeartbeats 1000000 in
theorem rof_spec (w0 : World) (η : Heap) (L : Lay) (sv : Value) (rs : List R) (hs : SlA (St w0 η) sv 7 rs.length rs.flatten) (ha : All7 rs) (hn : rs.length * 120 ≤ 140737488355328) :
    CallsT Tryd.prog 11 [L.val, sv] (St w0 η) fun v A' => ∃ pv H, v = .tuple #[pv, .int .i64 (trioF L rs).2] ∧ Frag 65 21 pv (trioF L rs).1.length (trioF L rs).1.flatten H ∧ A' = St w0 (H ++ η) := by
  obtain ⟨_, ad, cap, sb, so, rfl, hcap, had, hrd⟩ := hs.some
  have hz7 : ∀ {x : R}, Ints recK x → Sz Tryd.prog 63 x.length := fun h => by rw [h.length]; exact YtannaanbadaflaaDoorF.sz_63
  refine CallsT.body Tryd.func11 rfl rfl ?_
  simp only [Tryd.ntmps11, slotsOf, Nat.reduceAdd]
  refine TC_seq ?_
  refine TC_reg ?_
  refine TL_e rfl rfl rfl (rfl) (ET_box rfl rfl) ?_
  rintro _ _ ⟨b2, rfl, rfl⟩
  refine TL_q rfl rfl (QT_assign rfl rfl rfl) ?_
  refine TL_q rfl rfl (QT_assign rfl rfl rfl) ?_
  refine TL_nil ?_
  refine TX_then ?_
  refine TC_seq ?_
  refine TC_seq ?_
  refine TC_reg ?_
  first
    | refine TL_q rfl rfl (QT_loadW 0 rfl rfl Tryd.underlying27 rfl rfl rfl YtannaanbadaflaaDoorF.sz_27) ?_
    | refine TL_q rfl rfl (QT_loadW 1 rfl rfl Tryd.underlying27 rfl rfl rfl YtannaanbadaflaaDoorF.sz_27) ?_
    | refine TL_q rfl rfl (QT_loadW 2 rfl rfl Tryd.underlying27 rfl rfl rfl YtannaanbadaflaaDoorF.sz_27) ?_
    | refine TL_q rfl rfl (QT_loadA 0 rfl rfl Tryd.underlying27 rfl rfl rfl YtannaanbadaflaaDoorF.sz_27 (fun _ => rfl)) ?_
    | refine TL_q rfl rfl (QT_loadA 1 rfl rfl Tryd.underlying27 rfl rfl rfl YtannaanbadaflaaDoorF.sz_27 (fun _ => rfl)) ?_
    | refine TL_q rfl rfl (QT_loadA 2 rfl rfl Tryd.underlying27 rfl rfl rfl YtannaanbadaflaaDoorF.sz_27 (fun _ => rfl)) ?_
  refine TL_cq rfl rfl rfl rfl YtannaanbadaflaaDoorF.cal_23 rfl (fun _ => rcheck_spec w0 _ L) ?_
  refine TL_q rfl rfl (QT_neq rfl rfl rfl rfl) ?_
  refine TL_q rfl rfl (QT_move rfl rfl rfl) ?_
  refine TL_q rfl rfl (QT_field rfl rfl YtannaanbadaflaaDoorF.fld_27_0 rfl) ?_
  first
    | refine TL_q rfl rfl (QT_load 0 rfl rfl Tryd.underlying3 rfl rfl rfl (fun _ => rfl)) ?_
    | refine TL_q rfl rfl (QT_load 1 rfl rfl Tryd.underlying3 rfl rfl rfl (fun _ => rfl)) ?_
    | refine TL_q rfl rfl (QT_load 2 rfl rfl Tryd.underlying3 rfl rfl rfl (fun _ => rfl)) ?_
  refine TL_q rfl rfl (QT_neq rfl rfl rfl rfl) ?_
  refine TL_q rfl rfl (QT_move rfl rfl rfl) ?_
  refine TL_q rfl rfl (QT_field rfl rfl YtannaanbadaflaaDoorF.fld_27_0 rfl) ?_
  first
    | refine TL_q rfl rfl (QT_load 0 rfl rfl Tryd.underlying3 rfl rfl rfl (fun _ => rfl)) ?_
    | refine TL_q rfl rfl (QT_load 1 rfl rfl Tryd.underlying3 rfl rfl rfl (fun _ => rfl)) ?_
    | refine TL_q rfl rfl (QT_load 2 rfl rfl Tryd.underlying3 rfl rfl rfl (fun _ => rfl)) ?_
  refine TL_q rfl rfl (QT_neq rfl rfl rfl rfl) ?_
  refine TL_q rfl rfl (QT_and rfl rfl rfl rfl) ?_
  refine TL_q rfl rfl (QT_or rfl rfl rfl rfl) ?_
  refine TL_nil ?_
  refine TX_then ?_
  first
    | refine TC_cond_dec rfl (fun h23 => ?_) (fun h23 => ?_)
    | refine TC_cond rfl (fun h23 => ?_) (fun h23 => ?_)
  ·
    refine TC_seq ?_
    refine TC_reg ?_
    refine TL_q rfl rfl (QT_assign rfl rfl rfl) ?_
    refine TL_q rfl rfl (QT_assign rfl rfl rfl) ?_
    refine TL_nil ?_
    refine TX_then ?_
    refine TC_ret ?_
    refine TX_then_ret ?_
    rw [trio4 (by
      simp only [Bool.or_eq_true, Bool.and_eq_true, decide_eq_true_eq] at h23
      rintro ⟨h1, h2⟩
      simp [errOf, h1] at h23
      omega)]
    exact TX_ret (.inl rfl) (res2 rfl rfl rfl) ⟨_, ⟨_, [], rfl, Frag.nil _ _, rfl⟩, fun _ h => h.tail⟩
  ·
    refine TC_skip ?_
    refine TX_then ?_
    refine TC_seq ?_
    refine TC_seq ?_
    simp only [Bool.or_eq_false_iff, Bool.and_eq_false_iff, decide_eq_false_iff_not] at h23
    have hk : okB L = true := ok_of h23.1
    have hty := (okB_bounds hk).2.2.2.1
    refine TC_reg ?_
    refine TL_q rfl rfl (QT_field rfl rfl YtannaanbadaflaaDoorF.fld_27_0 rfl) ?_
    first
      | refine TL_q rfl rfl (QT_load 0 rfl rfl Tryd.underlying3 rfl rfl rfl (fun _ => rfl)) ?_
      | refine TL_q rfl rfl (QT_load 1 rfl rfl Tryd.underlying3 rfl rfl rfl (fun _ => rfl)) ?_
      | refine TL_q rfl rfl (QT_load 2 rfl rfl Tryd.underlying3 rfl rfl rfl (fun _ => rfl)) ?_
    refine TL_q rfl rfl (QT_eql rfl rfl rfl rfl) ?_
    refine TL_nil ?_
    refine TX_then ?_
    first
      | refine TC_cond_dec rfl (fun h26 => ?_) (fun h26 => ?_)
      | refine TC_cond rfl (fun h26 => ?_) (fun h26 => ?_)
    ·
      refine TC_seq ?_
      have h5 : L.ty = 5 := by simpa using h26
      have hro := (okB_bounds hk).2.2.2.2.1 h5
      rw [trio5 hk h5]
      have her : L.ro = ((L.ro.toNat : Nat) : Int) := by omega
      refine TC_reg ?_
      refine TL_q rfl rfl (QT_move rfl rfl rfl) ?_
      refine TL_q rfl rfl (QT_field rfl rfl YtannaanbadaflaaDoorF.fld_27_5 rfl) ?_
      first
        | refine TL_q rfl rfl (QT_load 0 rfl rfl Tryd.underlying3 rfl rfl rfl (fun _ => rfl)) ?_
        | refine TL_q rfl rfl (QT_load 1 rfl rfl Tryd.underlying3 rfl rfl rfl (fun _ => rfl)) ?_
        | refine TL_q rfl rfl (QT_load 2 rfl rfl Tryd.underlying3 rfl rfl rfl (fun _ => rfl)) ?_
      refine TL_A (St w0 η) (fun _ h => h.tail) ?_
      refine TL_e rfl rfl rfl (rfl) (ET_call rfl YtannaanbadaflaaDoorF.cal_24 rfl (cells_at her w0 _ _ rs hs ha (by omega) hn)) ?_
      rintro _ _ ⟨pv, Hr, rfl, hFr, rfl⟩
      refine TL_q rfl rfl (QT_extract rfl rfl rfl rfl) ?_
      refine TL_q rfl rfl (QT_extract rfl rfl rfl rfl) ?_
      refine TL_q rfl rfl (QT_assign rfl rfl rfl) ?_
      refine TL_q rfl rfl (QT_assign rfl rfl rfl) ?_
      refine TL_nil ?_
      refine TX_then ?_
      refine TC_ret ?_
      refine TX_then_ret ?_
      exact TX_ret (.inl rfl) (res2 rfl rfl rfl) ⟨_, ⟨pv, Hr, rfl, hFr, rfl⟩, fun _ h => h⟩
    ·
      refine TC_skip ?_
      refine TX_then ?_
      refine TC_seq ?_
      have h4 : L.ty = 4 := by
        have : L.ty ≠ 5 := by simpa using h26
        omega
      refine TC_A (St w0 η) (fun _ h => h.tail) ?_
      obtain ⟨FIN, hFIN⟩ : ∃ F, F = strips rs := ⟨_, rfl⟩
      refine TC_reg ?_
      refine TL_q rfl rfl (QT_assign rfl rfl rfl) ?_
      refine TL_nil ?_
      refine TX_then ?_
      refine TC_seq ?_
      refine TC_seq ?_
      refine TC_reg ?_
      refine TL_q rfl rfl (QT_assign rfl rfl rfl) ?_
      refine TL_nil ?_
      refine TX_then ?_
      refine TC_block ?_
      refine TC_loop (γ := { t : Nat × R × R × R × List R × Value × Heap × Nat // Rst rs FIN t.1 t.2.1 t.2.2.1 t.2.2.2.1 t.2.2.2.2.1 t.2.2.2.2.2.1 t.2.2.2.2.2.2.1 t.2.2.2.2.2.2.2 ∧ (0 < t.1 → ¬headBad rs) ∧ (t.1 = 0 → t.2.2.2.2.1 = []) }) (fun t => [(1, true, .slice ad rs.length cap), (6, true, t.1.2.2.2.2.2.1), (7, true, .int .i64 (t.1.1 : Int))]) (fun t => St w0 (t.1.2.2.2.2.2.2.1 ++ η)) (fun t => rs.length - t.1.1) ⟨(0, zR, zR, zR, [], .slice none 0 0, [], rs.length + 1), ⟨Nat.zero_le _, zR_ints, zR_ints, zR_ints, Frag.nil _ _, Nat.le_refl _, fun h => absurd h (Nat.lt_irrefl _), hFIN.symm, Nat.lt_succ_of_le (Nat.sub_le _ _)⟩, fun h => absurd h (Nat.lt_irrefl _), fun _ => rfl⟩ ⟨rfl, rfl, rfl, trivial⟩ (fun _ h => h) ?_
      rintro ⟨⟨i, a, b, c, out, fv, H, f⟩, hS, hhb, hz0⟩
      dsimp only at hS hhb hz0 ⊢
      have hall := hS.all hS.few hz0
      obtain ⟨hle, hia, hib, hic, hfr, hfew, hlast, hfin, hfuel⟩ := hS
      refine TC_seq ?_
      refine TC_seq ?_
      refine TC_reg ?_
      refine TL_q rfl rfl (QT_move rfl rfl rfl) ?_
      refine TL_q rfl rfl (QT_move rfl rfl rfl) ?_
      refine TL_q rfl rfl (QT_len rfl rfl Tryd.underlying28 rfl) ?_
      refine TL_q rfl rfl (QT_lss rfl rfl rfl rfl) ?_
      refine TL_nil ?_
      refine TX_then ?_
      first
        | refine TC_cond_dec rfl (fun h36 => ?_) (fun h36 => ?_)
        | refine TC_cond rfl (fun h36 => ?_) (fun h36 => ?_)
      ·
        have hi : i < rs.length := by omega
        have hx := at7_ints ha hi
        obtain ⟨f1, g1⟩ := flat_at7 ha hi
        have hfx := (flagR_spec hx).2
        have hrf := rec_flag ha hi
        have hdr := drop_at7 hi
        rw [hdr] at hfin
        obtain ⟨f, rfl⟩ : ∃ g, f = g + 1 := ⟨f - 1, by omega⟩
        have hhead : i = 0 → (headBad rs ↔ flagR (at7 rs i) ≠ 0) := by
          rintro rfl
          rw [List.drop_zero] at hdr
          rw [hdr]; exact Iff.rfl
        have hxl : (at7 rs i).length = 7 := hx.length
        obtain ⟨x, hxe⟩ : ∃ x, x = at7 rs i := ⟨_, rfl⟩
        rw [← hxe] at hx f1 hfx hrf hdr hfin hhead hxl
        have hbx := bareR_ints hx
        refine TC_skip ?_
        refine TX_then ?_
        refine TC_cut (γ := { t : Nat × R × R × R × List R × Value × Heap × Nat // i ≤ t.1 ∧ Rst rs FIN (t.1 + 1) t.2.1 t.2.2.1 t.2.2.2.1 t.2.2.2.2.1 t.2.2.2.2.2.1 t.2.2.2.2.2.2.1 t.2.2.2.2.2.2.2 ∧ ¬headBad rs }) (fun t => [(1, true, .slice ad rs.length cap), (6, true, t.1.2.2.2.2.2.1), (7, true, .int .i64 (t.1.1 : Int))]) (fun t => St w0 (t.1.2.2.2.2.2.2.1 ++ η)) ?_ ?_
        ·
          refine TC_block ?_
          refine TC_seq ?_
          refine TC_reg ?_
          refine TL_q rfl rfl (QT_move rfl rfl rfl) ?_
          refine TL_q rfl rfl (QT_move rfl rfl rfl) ?_
          refine TL_q rfl rfl (QT_indexG i rfl rfl Tryd.underlying28 YtannaanbadaflaaDoorF.sz_63 rfl rfl rfl (fun _ => hi) (fun _ => had (by omega))) ?_
          refine TL_q rfl rfl (QT_field rfl rfl YtannaanbadaflaaDoorF.fld_63_0 rfl) ?_
          refine TL_q rfl rfl (QT_loadRj (v := .int .u8 (flagR x : Int)) (i * 7) rfl rfl Tryd.underlying5 rfl (hrd.deep (by intro _ hw; first | exact hw | exact hw.app_right | exact hw.app_right.app_right | exact hw.tail | exact hw.tail.app_right | exact hw.tail.tail | exact hw.tail.tail.app_right | exact hw.tail.tail.tail | exact hw.tail.tail.tail.app_right | exact hw.tail.tail.tail.tail | exact hw.tail.tail.tail.tail.app_right | exact hw.tail.tail.tail.tail.tail | exact hw.tail.tail.tail.tail.tail.app_right | exact hw.tail.tail.tail.tail.tail.tail | exact hw.tail.tail.tail.tail.tail.tail.app_right)) rfl (fun _ => hrf)) ?_
          refine TL_q rfl rfl (QT_assign rfl rfl rfl) ?_
          refine TL_nil ?_
          refine TX_then ?_
          refine TC_seq ?_
          refine TC_seq ?_
          refine TC_reg ?_
          refine TL_q rfl rfl (QT_move rfl rfl rfl) ?_
          refine TL_q rfl rfl (QT_eql rfl rfl rfl rfl) ?_
          refine TL_q rfl rfl (QT_move rfl rfl rfl) ?_
          refine TL_q rfl rfl (QT_move rfl rfl rfl) ?_
          refine TL_q rfl rfl (QT_neq rfl rfl rfl rfl) ?_
          refine TL_q rfl rfl (QT_and rfl rfl rfl rfl) ?_
          refine TL_nil ?_
          refine TX_then ?_
          first
            | refine TC_cond_dec rfl (fun h49 => ?_) (fun h49 => ?_)
            | refine TC_cond rfl (fun h49 => ?_) (fun h49 => ?_)
          ·
            refine TC_seq ?_
            refine TC_reg ?_
            refine TL_q rfl rfl (QT_assign rfl rfl rfl) ?_
            refine TL_q rfl rfl (QT_assign rfl rfl rfl) ?_
            refine TL_nil ?_
            refine TX_then ?_
            refine TC_ret ?_
            refine TX_then_ret ?_
            refine TX_block_ret ?_
            refine TX_then_ret ?_
            refine TX_then_ret ?_
            refine TX_block_ret ?_
            refine TX_then_ret ?_
            simp only [Bool.and_eq_true, decide_eq_true_eq] at h49
            have hi0 : i = 0 := by omega
            rw [trio6 hk h4 ((hhead hi0).2 (by omega))]
            exact TX_ret (.inl rfl) (res2 rfl rfl rfl) ⟨_, ⟨_, [], rfl, Frag.nil _ _, rfl⟩, fun _ h => h.app_right⟩
          ·
            refine TC_skip ?_
            refine TX_then ?_
            refine TC_seq ?_
            refine TC_seq ?_
            have hnb : ¬headBad rs := by
              by_cases hi0 : i = 0
              · rw [hhead hi0]
                simp only [Bool.and_eq_false_iff, decide_eq_false_iff_not] at h49
                omega
              · exact hhb (by omega)
            have hFe : trioF L rs = FIN := by rw [hFIN]; exact trioS hk h4 hnb
            have hpos : flagR x ≠ 0 → 0 < i := by
              intro h
              simp only [Bool.and_eq_false_iff, decide_eq_false_iff_not] at h49
              omega
            refine TC_reg ?_
            refine TL_q rfl rfl (QT_move rfl rfl rfl) ?_
            refine TL_q rfl rfl (QT_gtr rfl rfl rfl rfl) ?_
            refine TL_nil ?_
            refine TX_then ?_
            first
              | refine TC_cond_dec rfl (fun h51 => ?_) (fun h51 => ?_)
              | refine TC_cond rfl (fun h51 => ?_) (fun h51 => ?_)
            ·
              refine TC_seq ?_
              refine TC_reg ?_
              refine TL_q rfl rfl (QT_assign rfl rfl rfl) ?_
              refine TL_q rfl rfl (QT_assign rfl rfl rfl) ?_
              refine TL_nil ?_
              refine TX_then ?_
              refine TC_ret ?_
              refine TX_then_ret ?_
              refine TX_block_ret ?_
              refine TX_then_ret ?_
              refine TX_then_ret ?_
              refine TX_block_ret ?_
              refine TX_then_ret ?_
              rw [hFe, ← hfin, strip_bad (by omega) (by omega) (by omega)]
              exact TX_ret (.inl rfl) (res2 rfl rfl rfl) ⟨_, ⟨_, [], rfl, Frag.nil _ _, rfl⟩, fun _ h => h.app_right⟩
            ·
              refine TC_skip ?_
              refine TX_then ?_
              refine TC_seq ?_
              refine TC_seq ?_
              refine TC_reg ?_
              refine TL_q rfl rfl (QT_move rfl rfl rfl) ?_
              refine TL_q rfl rfl (QT_eql rfl rfl rfl rfl) ?_
              refine TL_nil ?_
              refine TX_then ?_
              first
                | refine TC_cond_dec rfl (fun h53 => ?_) (fun h53 => ?_)
                | refine TC_cond rfl (fun h53 => ?_) (fun h53 => ?_)
              ·
                refine TC_seq ?_
                refine TC_seq ?_
                refine TC_reg ?_
                refine TL_q rfl rfl (QT_move rfl rfl rfl) ?_
                refine TL_q rfl rfl (QT_add rfl rfl rfl rfl (fun _ => ⟨by omega, by omega⟩)) ?_
                refine TL_q rfl rfl (QT_move rfl rfl rfl) ?_
                refine TL_q rfl rfl (QT_len rfl rfl Tryd.underlying28 rfl) ?_
                refine TL_q rfl rfl (QT_geq rfl rfl rfl rfl) ?_
                refine TL_nil ?_
                refine TX_then ?_
                first
                  | refine TC_cond_dec rfl (fun h58 => ?_) (fun h58 => ?_)
                  | refine TC_cond rfl (fun h58 => ?_) (fun h58 => ?_)
                ·
                  refine TC_seq ?_
                  refine TC_reg ?_
                  refine TL_q rfl rfl (QT_assign rfl rfl rfl) ?_
                  refine TL_q rfl rfl (QT_assign rfl rfl rfl) ?_
                  refine TL_nil ?_
                  refine TX_then ?_
                  refine TC_ret ?_
                  refine TX_then_ret ?_
                  refine TX_then_ret ?_
                  refine TX_block_ret ?_
                  refine TX_then_ret ?_
                  refine TX_then_ret ?_
                  refine TX_block_ret ?_
                  refine TX_then_ret ?_
                  rw [hFe, ← hfin, strip_short (by omega) (by rw [List.length_drop]; omega)]
                  exact TX_ret (.inl rfl) (res2 rfl rfl rfl) ⟨_, ⟨_, [], rfl, Frag.nil _ _, rfl⟩, fun _ h => h.app_right⟩
                ·
                  refine TC_skip ?_
                  refine TX_then ?_
                  refine TC_seq ?_
                  have hi1 : i + 1 < rs.length := by omega
                  have hi2 : i + 2 < rs.length := by omega
                  obtain ⟨f2, g2⟩ := flat_at7 ha hi1
                  obtain ⟨f3, g3⟩ := flat_at7 ha hi2
                  have hy := at7_ints ha hi1
                  have hz := at7_ints ha hi2
                  rw [drop_at7 hi1, drop_at7 hi2, strip_long (by omega)] at hfin
                  generalize at7 rs (i + 1) = y at *
                  generalize at7 rs (i + 2) = z at *
                  have hby := bareR_ints hy
                  have hbz := bareR_ints hz
                  have b1 := B3_ints hx hy hz
                  refine TC_draw [(0, 0), (1, 0), (2, 0), (3, 0), (4, 0), (6, 0), (7, 0), (8, 0), (9, 0), (10, 0), (12, 0), (13, 0), (14, 0), (15, 0), (16, 0), (5, 1), (11, 1), (17, 1), (18, 0), (19, 1), (20, 1), (21, 0)] YtannaanbadaflaaDoorF.mixed (by kernel_rfl) (St.calm _ _) ?_
                  refine TV_q rfl rfl rfl (fun _ => QT_move rfl rfl rfl) ?_
                  refine TV_q rfl rfl rfl (fun _ => QT_move rfl rfl rfl) ?_
                  refine TV_q rfl rfl rfl (fun _ => QT_move rfl rfl rfl) ?_
                  refine TV_q rfl rfl rfl (fun _ => QT_indexG i rfl rfl Tryd.underlying28 YtannaanbadaflaaDoorF.sz_63 rfl rfl rfl (fun _ => hi) (fun _ => had (by omega))) ?_
                  refine TV_ql rfl rfl rfl (QT_loadRAj (out := x) (i * 7) rfl rfl Tryd.underlying63 rfl YtannaanbadaflaaDoorF.sz_63 (hrd.deep (by intro _ hw; first | exact hw | exact hw.app_right | exact hw.app_right.app_right | exact hw.tail | exact hw.tail.app_right | exact hw.tail.tail | exact hw.tail.tail.app_right | exact hw.tail.tail.tail | exact hw.tail.tail.tail.app_right | exact hw.tail.tail.tail.tail | exact hw.tail.tail.tail.tail.app_right | exact hw.tail.tail.tail.tail.tail | exact hw.tail.tail.tail.tail.tail.app_right | exact hw.tail.tail.tail.tail.tail.tail | exact hw.tail.tail.tail.tail.tail.tail.app_right)) rfl (fun _ => g1) (fun _ => f1)) ?_
                  refine TV_q rfl rfl rfl (fun _ => QT_move rfl rfl rfl) ?_
                  refine TV_q rfl rfl rfl (fun _ => QT_move rfl rfl rfl) ?_
                  refine TV_q rfl rfl rfl (fun _ => QT_add rfl rfl rfl rfl (fun _ => ⟨by omega, by omega⟩)) ?_
                  refine TV_q rfl rfl rfl (fun _ => QT_indexG (i + 1) rfl rfl Tryd.underlying28 YtannaanbadaflaaDoorF.sz_63 rfl rfl rfl (fun _ => hi1) (fun _ => had (by omega))) ?_
                  refine TV_ql rfl rfl rfl (QT_loadRAj (out := y) ((i + 1) * 7) rfl rfl Tryd.underlying63 rfl YtannaanbadaflaaDoorF.sz_63 (hrd.deep (by intro _ hw; first | exact hw | exact hw.app_right | exact hw.app_right.app_right | exact hw.tail | exact hw.tail.app_right | exact hw.tail.tail | exact hw.tail.tail.app_right | exact hw.tail.tail.tail | exact hw.tail.tail.tail.app_right | exact hw.tail.tail.tail.tail | exact hw.tail.tail.tail.tail.app_right | exact hw.tail.tail.tail.tail.tail | exact hw.tail.tail.tail.tail.tail.app_right | exact hw.tail.tail.tail.tail.tail.tail | exact hw.tail.tail.tail.tail.tail.tail.app_right)) rfl (fun _ => g2) (fun _ => f2)) ?_
                  refine TV_q rfl rfl rfl (fun _ => QT_move rfl rfl rfl) ?_
                  refine TV_q rfl rfl rfl (fun _ => QT_move rfl rfl rfl) ?_
                  refine TV_q rfl rfl rfl (fun _ => QT_add rfl rfl rfl rfl (fun _ => ⟨by omega, by omega⟩)) ?_
                  refine TV_q rfl rfl rfl (fun _ => QT_indexG (i + 2) rfl rfl Tryd.underlying28 YtannaanbadaflaaDoorF.sz_63 rfl rfl rfl (fun _ => hi2) (fun _ => had (by omega))) ?_
                  refine TV_ql rfl rfl rfl (QT_loadRAj (out := z) ((i + 2) * 7) rfl rfl Tryd.underlying63 rfl YtannaanbadaflaaDoorF.sz_63 (hrd.deep (by intro _ hw; first | exact hw | exact hw.app_right | exact hw.app_right.app_right | exact hw.tail | exact hw.tail.app_right | exact hw.tail.tail | exact hw.tail.tail.app_right | exact hw.tail.tail.tail | exact hw.tail.tail.tail.app_right | exact hw.tail.tail.tail.tail | exact hw.tail.tail.tail.tail.app_right | exact hw.tail.tail.tail.tail.tail | exact hw.tail.tail.tail.tail.tail.app_right | exact hw.tail.tail.tail.tail.tail.tail | exact hw.tail.tail.tail.tail.tail.tail.app_right)) rfl (fun _ => g3) (fun _ => f3)) ?_
                  refine TV_cq rfl rfl rfl rfl rfl YtannaanbadaflaaDoorF.cal_25 rfl (fun _ => plain_spec w0 _ x hx) (.keep (by kernel_rfl) rfl (by first | exact QT_loadRAj (out := z) ((i + 2) * 7) rfl rfl Tryd.underlying63 rfl YtannaanbadaflaaDoorF.sz_63 (hrd.deep (by intro _ hw; first | exact hw | exact hw.app_right | exact hw.app_right.app_right | exact hw.tail | exact hw.tail.app_right | exact hw.tail.tail | exact hw.tail.tail.app_right | exact hw.tail.tail.tail | exact hw.tail.tail.tail.app_right | exact hw.tail.tail.tail.tail | exact hw.tail.tail.tail.tail.app_right | exact hw.tail.tail.tail.tail.tail | exact hw.tail.tail.tail.tail.tail.app_right | exact hw.tail.tail.tail.tail.tail.tail | exact hw.tail.tail.tail.tail.tail.tail.app_right)) rfl (fun _ => g3) (fun _ => f3)) (.keep (by kernel_rfl) rfl (by first | exact QT_loadRAj (out := y) ((i + 1) * 7) rfl rfl Tryd.underlying63 rfl YtannaanbadaflaaDoorF.sz_63 (hrd.deep (by intro _ hw; first | exact hw | exact hw.app_right | exact hw.app_right.app_right | exact hw.tail | exact hw.tail.app_right | exact hw.tail.tail | exact hw.tail.tail.app_right | exact hw.tail.tail.tail | exact hw.tail.tail.tail.app_right | exact hw.tail.tail.tail.tail | exact hw.tail.tail.tail.tail.app_right | exact hw.tail.tail.tail.tail.tail | exact hw.tail.tail.tail.tail.tail.app_right | exact hw.tail.tail.tail.tail.tail.tail | exact hw.tail.tail.tail.tail.tail.tail.app_right)) rfl (fun _ => g2) (fun _ => f2)) (.drop (by kernel_rfl) (.nil)))) ?_
                  refine TV_cq rfl rfl rfl rfl rfl YtannaanbadaflaaDoorF.cal_25 rfl (fun _ => plain_spec w0 _ y hy) (.keep (by kernel_rfl) rfl (by first | exact QT_loadRAj (out := z) ((i + 2) * 7) rfl rfl Tryd.underlying63 rfl YtannaanbadaflaaDoorF.sz_63 (hrd.deep (by intro _ hw; first | exact hw | exact hw.app_right | exact hw.app_right.app_right | exact hw.tail | exact hw.tail.app_right | exact hw.tail.tail | exact hw.tail.tail.app_right | exact hw.tail.tail.tail | exact hw.tail.tail.tail.app_right | exact hw.tail.tail.tail.tail | exact hw.tail.tail.tail.tail.app_right | exact hw.tail.tail.tail.tail.tail | exact hw.tail.tail.tail.tail.tail.app_right | exact hw.tail.tail.tail.tail.tail.tail | exact hw.tail.tail.tail.tail.tail.tail.app_right)) rfl (fun _ => g3) (fun _ => f3)) (.drop (by kernel_rfl) (.nil))) ?_
                  refine TV_cq rfl rfl rfl rfl rfl YtannaanbadaflaaDoorF.cal_25 rfl (fun _ => plain_spec w0 _ z hz) (.drop (by kernel_rfl) (.nil)) ?_
                  refine TV_q rfl rfl rfl (fun _ => QT_buildArr (out := B3 x y z) rfl rfl YtannaanbadaflaaDoorF.zero_65 Tryd.underlying65 YtannaanbadaflaaDoorF.sz_63 rfl rfl (seg3 hbx.length hby.length hbz.length rfl)) ?_
                  refine TV_e rfl rfl rfl rfl (rfl) (ET_buildN [_] rfl Tryd.underlying31 YtannaanbadaflaaDoorF.sz_65 YtannaanbadaflaaDoorF.zero_65 rfl rfl rfl (fun v hv => by cases List.mem_singleton.1 hv; exact b1.length)) ?_
                  rintro _ _ ⟨b78, rfl, rfl⟩
                  refine ⟨_, .nil, ?_⟩
                  refine TV_e rfl rfl rfl rfl (rfl) (ET_appendL (L := [_]) rfl Tryd.underlying31 el_Tri rfl rfl hfr (fun _ h => h) (SlA.own (n := 1) (xs := B3 x y z) 0 rfl (one_own b1.length).symm (one_len b1.length) (by omega)) b1.oneCell (by omega) (by omega)) ?_
                  rintro fv2 _ ⟨H2, hF2, rfl⟩
                  refine ⟨_, .nil, ?_⟩
                  refine TV_q rfl rfl rfl (fun _ => QT_assign rfl rfl rfl) ?_
                  refine TV_end ?_
                  refine TX_then ?_
                  refine TC_seq ?_
                  refine TC_reg ?_
                  refine TL_q rfl rfl (QT_move rfl rfl rfl) ?_
                  refine TL_q rfl rfl (QT_add rfl rfl rfl rfl (fun _ => ⟨by omega, by omega⟩)) ?_
                  refine TL_q rfl rfl (QT_assign rfl rfl rfl) ?_
                  refine TL_nil ?_
                  refine TX_then ?_
                  refine TC_exit ?_
                  refine TX_then_exit ?_
                  refine TX_block_here ?_
                  exact TX_cut ⟨(i + 2, x, y, z, out ++ [B3 x y z], fv2, H2, f), by show i ≤ i + 2; omega, ⟨by show i + 2 + 1 ≤ rs.length; omega, hx, hy, hz, by rw [List.length_append, flatten_snoc]; exact hF2, by rw [List.length_append]; show _ + 1 ≤ _; omega, fun _ => ⟨out, rfl, hall⟩, hfin, by show rs.length - (i + 2 + 1) < f; omega⟩, hnb⟩ ⟨rfl, rfl, rfl, trivial⟩ (fun _ h => h.app_right (X := [_]))
              ·
                refine TC_skip ?_
                refine TX_then ?_
                refine TC_seq ?_
                have hip : 0 < i := hpos (by omega)
                obtain ⟨pre, hpe, hpl⟩ := hlast hip
                have hb0 := B3_ints hia hib hic
                have hfr0 := hfr
                obtain ⟨ad2, cap2, rfl, hcap2, hsl⟩ := hfr.slice
                obtain ⟨b2, rest, rfl, rfl⟩ := hsl (by rw [hpe]; simp)
                obtain ⟨q1, q2⟩ := last_at (rest := rest) hpl hb0.length
                rw [← hpe] at q1 q2
                have hol : 0 < out.length := by rw [hpe]; simp
                obtain ⟨p0, p1, p2⟩ := T3_at (bareR_ints hia).length (bareR_ints hib).length (bareR_ints hic).length
                have hTl : (B3 a b c).length = 21 := hb0.length
                have htz : Sz Tryd.prog 65 (B3 a b c).length := by rw [hTl]; exact YtannaanbadaflaaDoorF.sz_65
                refine TC_reg ?_
                refine TL_q rfl rfl (QT_move rfl rfl rfl) ?_
                refine TL_q rfl rfl (QT_move rfl rfl rfl) ?_
                refine TL_q rfl rfl (QT_len rfl rfl Tryd.underlying31 rfl) ?_
                refine TL_q rfl rfl (QT_sub rfl rfl rfl rfl (fun _ => ⟨by omega, by omega⟩)) ?_
                refine TL_q rfl rfl (QT_indexG (out.length - 1) rfl rfl Tryd.underlying31 YtannaanbadaflaaDoorF.sz_65 rfl rfl (by omega) (fun _ => by omega) (fun _ => rfl)) ?_
                refine TL_q rfl rfl (QT_loadRAj (out := B3 a b c) ((out.length - 1) * 21) rfl rfl Tryd.underlying65 rfl YtannaanbadaflaaDoorF.sz_65 (Rd.own 0 rfl) rfl (fun _ => q2) (fun _ => q1)) ?_
                refine TL_e rfl rfl rfl (rfl) (ET_alloc rfl YtannaanbadaflaaDoorF.zero_65) ?_
                rintro _ _ ⟨b9, rfl, rfl⟩
                refine TL_e0 rfl rfl (rfl) (ET_storeW (vs := B3 a b c) 0 rfl rfl rfl htz rfl (List.all_eq_true.2 hb0.oneCell) (by rw [hTl]; rfl)) ?_
                rintro _ _ ⟨rfl, rfl⟩
                refine TL_nil ?_
                refine TX_then ?_
                refine TC_seq ?_
                refine TC_reg ?_
                refine TL_q rfl rfl (QT_indexArr (0) rfl rfl Tryd.underlying65 YtannaanbadaflaaDoorF.sz_63 rfl rfl (rfl) (fun _ => by decide)) ?_
                refine TL_q rfl rfl (QT_loadRAj (out := bareR a) (0 * 7) rfl rfl Tryd.underlying63 rfl YtannaanbadaflaaDoorF.sz_63 (Rd.own 0 rfl) rfl (fun _ => by rw [hTl]; decide) (fun _ => p0)) ?_
                refine TL_e rfl rfl rfl (rfl) (ET_alloc rfl YtannaanbadaflaaDoorF.zero_63) ?_
                rintro _ _ ⟨b10, rfl, rfl⟩
                refine TL_e0 rfl rfl (rfl) (ET_storeW (vs := bareR a) 0 rfl rfl rfl (hz7 (bareR_ints hia)) rfl (List.all_eq_true.2 (bareR_ints hia).oneCell) (by rw [(bareR_ints hia).length]; rfl)) ?_
                rintro _ _ ⟨rfl, rfl⟩
                refine TL_nil ?_
                refine TX_then ?_
                refine TC_cut (γ := { t : R // Ints recK t ∧ stripF f (rs.drop (i + 1)) t c x (out ++ [B3 t c x]) = FIN }) (fun t => [(1, true, .slice ad rs.length cap), (6, true, .slice (some ⟨b2, 0, none⟩) out.length cap2), (7, true, .int .i64 (i : Int)), (9, true, .pointer (some ⟨b9, 0, none⟩)), (10, true, .pointer (some ⟨b10, 0, none⟩))]) (fun t => St w0 ((b10, 63, bareR t.1) :: (b9, 65, B3 a b c) :: ([(b2, 65, out.flatten ++ rest)] ++ η))) ?_ ?_
                ·
                  refine TC_seq ?_
                  refine TC_reg ?_
                  refine TL_q rfl rfl (QT_move rfl rfl rfl) ?_
                  refine TL_q rfl rfl (QT_eql rfl rfl rfl rfl) ?_
                  refine TL_nil ?_
                  refine TX_then ?_
                  first
                    | refine TC_cond_dec rfl (fun h91 => ?_) (fun h91 => ?_)
                    | refine TC_cond rfl (fun h91 => ?_) (fun h91 => ?_)
                  ·
                    refine TC_reg ?_
                    refine TL_q rfl rfl (QT_indexArr (1) rfl rfl Tryd.underlying65 YtannaanbadaflaaDoorF.sz_63 rfl rfl (rfl) (fun _ => by decide)) ?_
                    refine TL_q rfl rfl (QT_loadRAj (out := bareR b) (1 * 7) rfl rfl Tryd.underlying63 rfl YtannaanbadaflaaDoorF.sz_63 (Rd.own 1 rfl) rfl (fun _ => by rw [hTl]; decide) (fun _ => p1)) ?_
                    refine TL_e0 rfl rfl (rfl) (ET_storeW (vs := bareR b) 0 rfl rfl rfl (hz7 (bareR_ints hib)) rfl (List.all_eq_true.2 (bareR_ints hib).oneCell) (by rw [(bareR_ints hib).length, (bareR_ints hia).length]; rfl)) ?_
                    rintro _ _ ⟨rfl, rfl⟩
                    refine TL_nil ?_
                    exact TX_cut ⟨b, hib, by rw [← hfin, strip_one (by omega)]⟩ ⟨rfl, rfl, rfl, rfl, rfl, trivial⟩ (fun _ h => h)
                  ·
                    refine TC_skip ?_
                    exact TX_cut ⟨a, hia, by rw [← hfin, strip_two (by omega)]⟩ ⟨rfl, rfl, rfl, rfl, rfl, trivial⟩ (fun _ h => h)
                rintro ⟨t, hit, hfin2⟩
                dsimp only
                have hbt := bareR_ints hit
                have hbc := bareR_ints hic
                have b3 := B3_ints hit hic hx
                refine TC_draw [(0, 0), (1, 0), (2, 0), (3, 0), (4, 0), (5, 0), (6, 0), (7, 0), (8, 1), (9, 0), (10, 1), (11, 1), (12, 0)] YtannaanbadaflaaDoorF.mixed (by kernel_rfl) (St.calm _ _) ?_
                refine TV_q rfl rfl rfl (fun _ => QT_move rfl rfl rfl) ?_
                first
                  | refine TV_ql rfl rfl rfl (QT_loadW (cs := bareR t) 0 rfl rfl Tryd.underlying63 rfl rfl rfl (hz7 hbt)) ?_
                  | refine TV_ql rfl rfl rfl (QT_loadW (cs := bareR t) 1 rfl rfl Tryd.underlying63 rfl rfl rfl (hz7 hbt)) ?_
                refine TV_q rfl rfl rfl (fun _ => QT_indexArr (2) rfl rfl Tryd.underlying65 YtannaanbadaflaaDoorF.sz_63 rfl rfl (rfl) (fun _ => by decide)) ?_
                first
                  | refine TV_ql rfl rfl rfl (QT_loadRAj (out := bareR c) (2 * 7) rfl rfl Tryd.underlying63 rfl YtannaanbadaflaaDoorF.sz_63 (Rd.own 1 rfl) rfl (fun _ => by rw [hTl]; decide) (fun _ => p2)) ?_
                  | refine TV_ql rfl rfl rfl (QT_loadRAj (out := bareR c) (2 * 7) rfl rfl Tryd.underlying63 rfl YtannaanbadaflaaDoorF.sz_63 (Rd.own 2 rfl) rfl (fun _ => by rw [hTl]; decide) (fun _ => p2)) ?_
                refine TV_q rfl rfl rfl (fun _ => QT_move rfl rfl rfl) ?_
                refine TV_q rfl rfl rfl (fun _ => QT_move rfl rfl rfl) ?_
                refine TV_q rfl rfl rfl (fun _ => QT_indexG i rfl rfl Tryd.underlying28 YtannaanbadaflaaDoorF.sz_63 rfl rfl rfl (fun _ => hi) (fun _ => had (by omega))) ?_
                refine TV_ql rfl rfl rfl (QT_loadRAj (out := x) (i * 7) rfl rfl Tryd.underlying63 rfl YtannaanbadaflaaDoorF.sz_63 (hrd.deep (by intro _ hw; first | exact hw | exact hw.app_right | exact hw.app_right.app_right | exact hw.tail | exact hw.tail.app_right | exact hw.tail.tail | exact hw.tail.tail.app_right | exact hw.tail.tail.tail | exact hw.tail.tail.tail.app_right | exact hw.tail.tail.tail.tail | exact hw.tail.tail.tail.tail.app_right | exact hw.tail.tail.tail.tail.tail | exact hw.tail.tail.tail.tail.tail.app_right | exact hw.tail.tail.tail.tail.tail.tail | exact hw.tail.tail.tail.tail.tail.tail.app_right)) rfl (fun _ => g1) (fun _ => f1)) ?_
                refine TV_cq rfl rfl rfl rfl rfl YtannaanbadaflaaDoorF.cal_25 rfl (fun _ => plain_spec w0 _ x hx) (.drop (by kernel_rfl) (.keep (by kernel_rfl) rfl (by first | exact QT_loadRAj (out := bareR c) (2 * 7) rfl rfl Tryd.underlying63 rfl YtannaanbadaflaaDoorF.sz_63 (Rd.own 1 rfl) rfl (fun _ => by rw [hTl]; decide) (fun _ => p2) | exact QT_loadRAj (out := bareR c) (2 * 7) rfl rfl Tryd.underlying63 rfl YtannaanbadaflaaDoorF.sz_63 (Rd.own 2 rfl) rfl (fun _ => by rw [hTl]; decide) (fun _ => p2)) (.keep (by kernel_rfl) rfl (by first | exact QT_loadW (cs := bareR t) 0 rfl rfl Tryd.underlying63 rfl rfl rfl (hz7 hbt) | exact QT_loadW (cs := bareR t) 1 rfl rfl Tryd.underlying63 rfl rfl rfl (hz7 hbt)) (.nil)))) ?_
                refine TV_q rfl rfl rfl (fun _ => QT_buildArr (out := B3 t c x) rfl rfl YtannaanbadaflaaDoorF.zero_65 Tryd.underlying65 YtannaanbadaflaaDoorF.sz_63 rfl rfl (seg3 hbt.length hbc.length hbx.length rfl)) ?_
                refine TV_e rfl rfl rfl rfl (rfl) (ET_buildN [_] rfl Tryd.underlying31 YtannaanbadaflaaDoorF.sz_65 YtannaanbadaflaaDoorF.zero_65 rfl rfl rfl (fun v hv => by cases List.mem_singleton.1 hv; exact b3.length)) ?_
                rintro _ _ ⟨b104, rfl, rfl⟩
                refine ⟨_, .keep (by kernel_rfl) rfl (by first | exact QT_loadRAj (out := bareR c) (2 * 7) rfl rfl Tryd.underlying63 rfl YtannaanbadaflaaDoorF.sz_63 (Rd.own 1 rfl) rfl (fun _ => by rw [hTl]; decide) (fun _ => p2) | exact QT_loadRAj (out := bareR c) (2 * 7) rfl rfl Tryd.underlying63 rfl YtannaanbadaflaaDoorF.sz_63 (Rd.own 2 rfl) rfl (fun _ => by rw [hTl]; decide) (fun _ => p2)) (.keep (by kernel_rfl) rfl (by first | exact QT_loadW (cs := bareR t) 0 rfl rfl Tryd.underlying63 rfl rfl rfl (hz7 hbt) | exact QT_loadW (cs := bareR t) 1 rfl rfl Tryd.underlying63 rfl rfl rfl (hz7 hbt)) (.nil)), ?_⟩
                refine TV_e rfl rfl rfl rfl (rfl) (ET_appendL (L := [_, _, _]) rfl Tryd.underlying31 el_Tri rfl rfl hfr0 (fun _ h => h) (SlA.own (n := 1) (xs := B3 t c x) 0 rfl (one_own b3.length).symm (one_len b3.length) (by omega)) b3.oneCell (by omega) (by omega)) ?_
                rintro fv2 _ ⟨H2, hF2, rfl⟩
                refine ⟨_, .keep (by kernel_rfl) rfl (by first | exact QT_loadRAj (out := bareR c) (2 * 7) rfl rfl Tryd.underlying63 rfl YtannaanbadaflaaDoorF.sz_63 (Rd.own 1 rfl) rfl (fun _ => by rw [hTl]; decide) (fun _ => p2) | exact QT_loadRAj (out := bareR c) (2 * 7) rfl rfl Tryd.underlying63 rfl YtannaanbadaflaaDoorF.sz_63 (Rd.own 2 rfl) rfl (fun _ => by rw [hTl]; decide) (fun _ => p2)) (.keep (by kernel_rfl) rfl (by first | exact QT_loadW (cs := bareR t) 0 rfl rfl Tryd.underlying63 rfl rfl rfl (hz7 hbt) | exact QT_loadW (cs := bareR t) 1 rfl rfl Tryd.underlying63 rfl rfl rfl (hz7 hbt)) (.nil)), ?_⟩
                refine TV_q rfl rfl rfl (fun _ => QT_assign rfl rfl rfl) ?_
                refine TV_end ?_
                refine TX_block_normal ?_
                exact TX_cut ⟨(i, t, c, x, out ++ [B3 t c x], fv2, H2, f), Nat.le_refl _, ⟨hi, hit, hic, hx, by rw [List.length_append, flatten_snoc]; exact hF2, by rw [List.length_append]; show _ + 1 ≤ _; omega, fun _ => ⟨out, rfl, hall⟩, hfin2, by show rs.length - (i + 1) < f; omega⟩, hnb⟩ ⟨rfl, rfl, rfl, trivial⟩ (fun _ h => h.app_right (X := [_, _, _]))
        rintro ⟨⟨i2, a2, b2, c2, out2, fv2, H2, f2⟩, hle2, hS2, hnb2⟩
        dsimp only at hle2 hS2 ⊢
        have hle3 := hS2.le
        refine TC_reg ?_
        refine TL_q rfl rfl (QT_move rfl rfl rfl) ?_
        refine TL_q rfl rfl (QT_add rfl rfl rfl rfl (fun _ => ⟨by omega, by omega⟩)) ?_
        refine TL_q rfl rfl (QT_assign rfl rfl rfl) ?_
        refine TL_nil ?_
        exact TX_round ⟨(i2 + 1, a2, b2, c2, out2, fv2, H2, f2), hS2, fun _ => hnb2, fun h => absurd h (Nat.succ_ne_zero _)⟩ (by show rs.length - (i2 + 1) < rs.length - i; omega) ⟨rfl, rfl, rfl, trivial⟩ (fun _ h => h)
      ·
        refine TC_exit ?_
        refine TX_then_exit ?_
        refine TX_then_exit ?_
        refine TX_block_here ?_
        refine TX_then ?_
        refine TC_seq ?_
        refine TC_reg ?_
        refine TL_q rfl rfl (QT_move rfl rfl rfl) ?_
        refine TL_q rfl rfl (QT_assign rfl rfl rfl) ?_
        refine TL_q rfl rfl (QT_assign rfl rfl rfl) ?_
        refine TL_nil ?_
        refine TX_then ?_
        refine TC_ret ?_
        have hie : i = rs.length := by omega
        have hnb : ¬headBad rs := by
          by_cases hi0 : i = 0
          · have : rs = [] := List.eq_nil_of_length_eq_zero (by omega)
            rw [this]; exact id
          · exact hhb (by omega)
        have hFe : trioF L rs = (out, 0) := by
          rw [trioS hk h4 hnb, ← hFIN, ← hfin, hie, List.drop_length, strips_nil]
        rw [hFe]
        exact TX_ret (.inl rfl) (res2 rfl rfl rfl) ⟨_, ⟨fv, H, rfl, hfr, rfl⟩, fun _ h => h⟩
end Go.Proofs.YtannaanbadaflaaDoor

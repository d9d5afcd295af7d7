/- EACH TRIANGLE SHARES TWO VERTICES WITH THE ONE AHEAD. -/
import Derived.Test.YtannaanbadaflaaDoorT10m
namespace Go.Proofs.YtannaanbadaflaaDoor
open Go Go.Gx Go.RowKit
set_option maxRecDepth 100000
section
variable {P : Program} {n : Nat} {ops : Array Oper} {o : Oper} {σ : Slots} {A : World → Prop} {g : Bool} {v : Value} {x y z : Operand} {c c1 c2 c3 : Bool} {t t2 : TypeId} {k : IntKind} {p q : Int}
theorem QT_neSame {ks : List IntKind} {xs : List Value} (hg : gdc ops σ o = some g) (hop : o.op = .binOp .neq t x y t2) (he : EqOk P t ks) (hx : ev σ x = some (c1, .agg xs.toArray)) (hy : ev σ y = some (c2, .agg xs.toArray)) (hi : g = true → Ints ks xs)
    (hc : g = true → c1 = true ∧ c2 = true := by first | exact fun _ => ⟨rfl, rfl⟩ | (intro h; first | grind | simp_all)) : QT P n ops o σ A g (.bool false) := by
  cases g with
  | true =>
    have h := QT_neA (n := n) (A := A) hg hop he hx hy hi hi hc
    rwa [eqC_refl (hi rfl)] at h
  | false => exact QT.mk hg fun _ _ _ _ h => by cases h
end
theorem part_at {s : Nat} {rs : List R} {i : Nat} {r : R} (hl : ∀ r ∈ rs, r.length = s) (h : rs[i]? = some r) (o m : Nat) (hom : o + m ≤ s) : (rs.flatten.drop (i * s + o)).take m = (r.drop o).take m ∧ i * s + o + m ≤ rs.flatten.length := by
  obtain ⟨f1, f2⟩ := flat_at hl h
  refine ⟨?_, by omega⟩
  rw [← f1, List.drop_take, List.drop_drop, List.take_take, Nat.min_eq_left (by omega)]
theorem b3_parts {x y z : R} (hx : x.length = 7) (hy : y.length = 7) (hz : z.length = 7) :
    ((B3 x y z).drop 0).take 7 = bareR x ∧ ((B3 x y z).drop 7).take 7 = bareR y ∧ ((B3 x y z).drop 14).take 7 = bareR z ∧
    ((B3 x y z).drop 8).take 2 = (y.drop 1).take 2 ∧ ((B3 x y z).drop 10).take 4 = (y.drop 3).take 4 ∧ ((B3 x y z).drop 15).take 2 = (z.drop 1).take 2 ∧ ((B3 x y z).drop 17).take 4 = (z.drop 3).take 4 := by
  obtain ⟨f, rfl⟩ := tab' (.bool false) x hx
  obtain ⟨g, rfl⟩ := tab' (.bool false) y hy
  obtain ⟨h, rfl⟩ := tab' (.bool false) z hz
  exact ⟨by kernel_rfl, by kernel_rfl, by kernel_rfl, by kernel_rfl, by kernel_rfl, by kernel_rfl, by kernel_rfl⟩
theorem eq_Spot : EqOk Tryd.prog 58 spotK := ⟨by kernel_rfl, by kernel_rfl, by kernel_rfl, by kernel_rfl⟩
theorem eq_Colour : EqOk Tryd.prog 61 colK := ⟨by kernel_rfl, by kernel_rfl, by kernel_rfl, by kernel_rfl⟩
theorem spot_ints {r : R} (h : Ints recK r) : Ints spotK ((r.drop 1).take 2) := (h.drop 1).take 2
theorem col_ints {r : R} (h : Ints recK r) : Ints colK ((r.drop 3).take 4) := (h.drop 3).take 4
theorem bareR_set {r : R} (h : Ints recK r) : setAt r (0 + 0) [.int .u8 0] = bareR r := by
  obtain ⟨z, cs, rfl, _, _⟩ := (show Ints (.u8 :: recK.tail) r from h).inv
  rfl
theorem strip_pre : ∀ (f : Nat) (rem : List R) (a b c : R) (out : List R), (stripF f rem a b c out).2 = 0 → ∃ more, (stripF f rem a b c out).1 = out ++ more
  | 0, _, _, _, _, out, _ => ⟨[], by simp [stripF]⟩
  | f + 1, [], a, b, c, out, _ => ⟨[], by simp [stripF]⟩
  | f + 1, x :: v, a, b, c, out, h => by
    by_cases h0 : flagR x = 0
    · match v, h with
      | [], h => rw [strip_short h0 (by simp)] at h; cases h
      | [_], h => rw [strip_short h0 (by simp)] at h; cases h
      | y :: z :: w, h =>
        rw [strip_long h0] at h ⊢
        obtain ⟨m, e⟩ := strip_pre f w x y z _ h
        exact ⟨_, by rw [e, List.append_assoc]⟩
    · by_cases h1 : flagR x = 1
      · rw [strip_one h1] at h ⊢
        obtain ⟨m, e⟩ := strip_pre f v b c x _ h
        exact ⟨_, by rw [e, List.append_assoc]⟩
      · by_cases h2 : flagR x = 2
        · rw [strip_two h2] at h ⊢
          obtain ⟨m, e⟩ := strip_pre f v a c x _ h
          exact ⟨_, by rw [e, List.append_assoc]⟩
        · rw [strip_bad h0 h1 h2] at h; cases h
/-- a step of the walk, of vertices that have triangles -/
theorem Kst.next {rs : List R} {k : Nat} {a b c : R} {out : List R} (h : Kst rs k a b c out) (hk : k < rs.length) (he : (strips rs).2 = 0) :
    (flagR (at7 rs k) = 0 ∧ k + 2 < rs.length ∧ (strips rs).1[out.length]? = some (B3 (at7 rs k) (at7 rs (k + 1)) (at7 rs (k + 2)))) ∨
    (flagR (at7 rs k) = 1 ∧ (strips rs).1[out.length]? = some (B3 b c (at7 rs k))) ∨ (flagR (at7 rs k) = 2 ∧ (strips rs).1[out.length]? = some (B3 a c (at7 rs k))) := by
  obtain ⟨g', hg, e⟩ := h.rest (by omega)
  have key : ∀ {f : Nat} {rem : List R} {a b c t : R}, strips rs = stripF f rem a b c (out ++ [t]) → (strips rs).1[out.length]? = some t := fun {f rem a b c t} e => by
    rw [e] at he
    obtain ⟨m, e2⟩ := strip_pre _ _ _ _ _ _ he
    rw [e, e2]; simp
  rw [drop_at7 hk] at e hg
  simp only [List.length_cons] at hg
  obtain ⟨g', rfl⟩ : ∃ g0, g' = g0 + 1 := ⟨g' - 1, by omega⟩
  by_cases h0 : flagR (at7 rs k) = 0
  · have h2 : k + 2 < rs.length := by
      refine Classical.byContradiction fun hn => ?_
      rw [(h.bad hk).2 h0 (by omega)] at he
      cases he
    rw [drop_at7 (show k + 1 < rs.length by omega), drop_at7 (show k + 2 < rs.length by omega), strip_long h0] at e
    exact .inl ⟨h0, h2, key e⟩
  · by_cases h1 : flagR (at7 rs k) = 1
    · rw [strip_one h1] at e
      exact .inr (.inl ⟨h1, key e⟩)
    · by_cases h2 : flagR (at7 rs k) = 2
      · rw [strip_two h2] at e
        exact .inr (.inr ⟨h2, key e⟩)
      · rw [strip_bad h0 h1 h2] at e
        rw [e] at he; cases he
theorem trio_err {L : Lay} {rs : List R} (h : (trioF L rs).2 ≠ 0) : (trioF L rs).1 = [] := by
  unfold trioF at h ⊢
  split
  · rename_i h1
    rw [if_pos h1] at h
    split
    · rename_i h5
      rw [if_pos h5] at h
      unfold rowsF at h ⊢
      split
      · rename_i h6; rw [if_pos h6] at h; exact absurd rfl h
      · rfl
    · rename_i h5
      rw [if_neg h5] at h
      split
      · rfl
      · rename_i h6
        rw [if_neg h6] at h
        rcases strip_errs (rs.length + 1) rs zR zR zR [] with e | e | e
        · exact absurd e h
        · exact congrArg Prod.fst e
        · exact congrArg Prod.fst e
  · rfl
/-- the last answer -/
structure Lst (a b c : R) (out : List R) : Prop where
  ia : Ints recK a
  ib : Ints recK b
  ic : Ints recK c
  last : ∃ pre, out = pre ++ [B3 a b c]
theorem Kst.prev {rs : List R} {k : Nat} {a b c : R} {out : List R} (h : Kst rs k a b c out) (hk : k ≤ rs.length) (he : (strips rs).2 = 0) (hl : Lst a b c out) : (strips rs).1[out.length - 1]? = some (B3 a b c) := by
  obtain ⟨g', hg, e⟩ := h.rest hk
  rw [e] at he
  obtain ⟨m, e2⟩ := strip_pre _ _ _ _ _ _ he
  obtain ⟨pre, rfl⟩ := hl.last
  rw [e, e2]; simp
set_option maxHeartbeats 2000000 in
theorem law_triosShared (w0 : World) (η : Heap) (hG : Sets w0) (L : Lay) (sv : Value) (rs : List R) (hs : SlA (St w0 η) sv 7 rs.length rs.flatten) (ha : All7 rs) (hb : rs.length * 120 ≤ 140737488355328) :
    CallsT Tryd.prog 5 [L.val, sv] (St w0 η) fun v A' => v = .bool true ∧ A' = St w0 η := by
  have hs0 := hs
  obtain ⟨_, ad, cap, sb, so, rfl, hcap, had, hrd⟩ := hs.some
  obtain ⟨A, hA⟩ : ∃ A, A = trioF L rs := ⟨_, rfl⟩
  have hA2 := trio_ints (L := L) ha
  have hAe := trio_err (L := L) (rs := rs)
  have hof1 := fun (X : Heap) (v : Value) (h : SlA (St w0 X) v 7 rs.length rs.flatten) (hn : rs.length * 120 ≤ 140737488355328) => of_spec w0 X hG L v rs h ha hn
  rw [← hA] at hA2 hof1 hAe
  have hz7 : ∀ {x : R}, Ints recK x → Sz Tryd.prog 63 x.length := fun h => by rw [h.length]; exact YtannaanbadaflaaDoorF.sz_63
  refine CallsT.body Tryd.func5 rfl rfl ?_
  simp only [Tryd.ntmps5, slotsOf, Nat.reduceAdd]
  refine TC_seq ?_
  refine TC_reg ?_
  refine TL_e rfl rfl rfl (rfl) (ET_box rfl rfl) ?_
  rintro _ _ ⟨b2, rfl, rfl⟩
  refine TL_q rfl rfl (QT_assign rfl rfl rfl) ?_
  refine TL_nil ?_
  refine TX_then ?_
  refine TC_seq ?_
  refine TC_reg ?_
  first
    | refine TL_q rfl rfl (QT_loadW 0 rfl rfl Tryd.underlying27 rfl rfl rfl YtannaanbadaflaaDoorF.sz_27) ?_
    | refine TL_q rfl rfl (QT_loadW 1 rfl rfl Tryd.underlying27 rfl rfl rfl YtannaanbadaflaaDoorF.sz_27) ?_
    | refine TL_q rfl rfl (QT_loadW 2 rfl rfl Tryd.underlying27 rfl rfl rfl YtannaanbadaflaaDoorF.sz_27) ?_
    | refine TL_q rfl rfl (QT_loadA 0 rfl rfl Tryd.underlying27 rfl rfl rfl YtannaanbadaflaaDoorF.sz_27 (fun _ => rfl)) ?_
    | refine TL_q rfl rfl (QT_loadA 1 rfl rfl Tryd.underlying27 rfl rfl rfl YtannaanbadaflaaDoorF.sz_27 (fun _ => rfl)) ?_
    | refine TL_q rfl rfl (QT_loadA 2 rfl rfl Tryd.underlying27 rfl rfl rfl YtannaanbadaflaaDoorF.sz_27 (fun _ => rfl)) ?_
  refine TL_q rfl rfl (QT_move rfl rfl rfl) ?_
  refine TL_e rfl rfl rfl (rfl) (ET_call rfl YtannaanbadaflaaDoorF.cal_10 rfl (hof1 _ _ hs0.tail hb)) ?_
  rintro _ _ ⟨pv, H1, rfl, hF1, X1, rfl⟩
  refine TL_q rfl rfl (QT_move rfl rfl rfl) ?_
  refine TL_q rfl rfl (QT_extract rfl rfl rfl rfl) ?_
  refine TL_q rfl rfl (QT_extract rfl rfl rfl rfl) ?_
  refine TL_q rfl rfl (QT_assign rfl rfl rfl) ?_
  refine TL_q rfl rfl (QT_assign rfl rfl rfl) ?_
  refine TL_nil ?_
  refine TX_then ?_
  refine TC_seq ?_
  refine TC_seq ?_
  refine TC_A (St w0 ((b2, 27, L.cells) :: (H1 ++ η))) (fun w h => (show St w0 (H1 ++ (X1 ++ ((b2, 27, L.cells) :: η))) w from h).cnt fun p => by simp only [List.countP_append, List.countP_cons]; omega) ?_
  have hsA : SlA (St w0 (H1 ++ η)) pv 21 A.1.length A.1.flatten := hF1.sla
  obtain ⟨_, pad, pcap, pb, po, rfl, hpc, hpad, hpr⟩ := hsA.some
  refine TC_reg ?_
  refine TL_q rfl rfl (QT_move rfl rfl rfl) ?_
  refine TL_q rfl rfl (QT_len rfl rfl Tryd.underlying28 rfl) ?_
  refine TL_q rfl rfl (QT_gtr rfl rfl rfl rfl) ?_
  refine TL_q rfl rfl (QT_move rfl rfl rfl) ?_
  refine TL_q rfl rfl (QT_field rfl rfl YtannaanbadaflaaDoorF.fld_27_0 rfl) ?_
  first
    | refine TL_q rfl rfl (QT_load 0 rfl rfl Tryd.underlying3 rfl rfl rfl (fun _ => rfl)) ?_
    | refine TL_q rfl rfl (QT_load 1 rfl rfl Tryd.underlying3 rfl rfl rfl (fun _ => rfl)) ?_
    | refine TL_q rfl rfl (QT_load 2 rfl rfl Tryd.underlying3 rfl rfl rfl (fun _ => rfl)) ?_
  refine TL_q rfl rfl (QT_neq rfl rfl rfl rfl) ?_
  refine TL_q rfl rfl (QT_or rfl rfl rfl rfl) ?_
  refine TL_q rfl rfl (QT_move rfl rfl rfl) ?_
  refine TL_q rfl rfl (QT_move rfl rfl rfl) ?_
  refine TL_q rfl rfl (QT_neq rfl rfl rfl rfl) ?_
  refine TL_q rfl rfl (QT_or rfl rfl rfl rfl) ?_
  refine TL_nil ?_
  refine TX_then ?_
  first
    | refine TC_cond_dec rfl (fun h27 => ?_) (fun h27 => ?_)
    | refine TC_cond rfl (fun h27 => ?_) (fun h27 => ?_)
  ·
    refine TC_seq ?_
    refine TC_reg ?_
    refine TL_q rfl rfl (QT_move rfl rfl rfl) ?_
    refine TL_q rfl rfl (QT_len rfl rfl Tryd.underlying28 rfl) ?_
    refine TL_q rfl rfl (QT_gtr rfl rfl rfl rfl) ?_
    refine TL_q rfl rfl (QT_move rfl rfl rfl) ?_
    refine TL_q rfl rfl (QT_field rfl rfl YtannaanbadaflaaDoorF.fld_27_0 rfl) ?_
    first
      | refine TL_q rfl rfl (QT_load 0 rfl rfl Tryd.underlying3 rfl rfl rfl (fun _ => rfl)) ?_
      | refine TL_q rfl rfl (QT_load 1 rfl rfl Tryd.underlying3 rfl rfl rfl (fun _ => rfl)) ?_
      | refine TL_q rfl rfl (QT_load 2 rfl rfl Tryd.underlying3 rfl rfl rfl (fun _ => rfl)) ?_
    refine TL_q rfl rfl (QT_neq rfl rfl rfl rfl) ?_
    refine TL_q rfl rfl (QT_or rfl rfl rfl rfl) ?_
    refine TL_q rfl rfl (QT_move rfl rfl rfl) ?_
    refine TL_q rfl rfl (QT_move rfl rfl rfl) ?_
    refine TL_q rfl rfl (QT_len rfl rfl Tryd.underlying31 rfl) ?_
    refine TL_q rfl rfl (QT_eql rfl rfl rfl rfl) ?_
    refine TL_q rfl rfl (QT_or rfl rfl rfl rfl) ?_
    refine TL_q rfl rfl (QT_move rfl rfl rfl) ?_
    refine TL_cq rfl rfl rfl rfl YtannaanbadaflaaDoorF.cal_8 rfl (fun _ => lives10 w0 _ hG) ?_
    refine TL_q rfl rfl (QT_and rfl rfl rfl rfl) ?_
    refine TL_q rfl rfl (QT_assign rfl rfl rfl) ?_
    refine TL_nil ?_
    refine TX_then ?_
    refine TC_ret ?_
    refine TX_then_ret ?_
    have hx : A.2 ≠ 0 → A.1.length = 0 := fun h => by rw [hAe h]; rfl
    exact TX_ret (.inl rfl) (res1 rfl rfl) ⟨_, ⟨congrArg Value.bool (by
      simp only [Bool.or_eq_true, decide_eq_true_eq] at h27
      simp only [Bool.and_true, Bool.or_eq_true, decide_eq_true_eq]
      rcases h27 with h27 | h27
      · exact .inl h27
      · exact .inr (by rw [hx h27]; rfl)), rfl⟩, fun _ h => h.tail.app_right⟩
  ·
    refine TC_skip ?_
    refine TX_then ?_
    refine TC_seq ?_
    simp only [Bool.or_eq_false_iff, decide_eq_false_iff_not, ne_eq, Classical.not_not] at h27
    obtain ⟨⟨hn, h4⟩, he⟩ := h27
    obtain ⟨hk, _⟩ := trio_ok (L := L) (rs := rs) (by rw [← hA]; exact he)
    have hnb : ¬headBad rs := fun h => by
      rw [hA, trio6 hk h4 h] at he; cases he
    have hAs : A = strips rs := by rw [hA, trioS hk h4 hnb]
    rw [hAs] at he
    have hlT : ∀ t ∈ A.1, t.length = 21 := fun t ht => (hA2.1 t ht).length
    have hlR := ha.len
    refine TC_A (St w0 (H1 ++ η)) (fun _ h => h.tail) ?_
    refine TC_reg ?_
    refine TL_q rfl rfl (QT_assign rfl rfl rfl) ?_
    refine TL_nil ?_
    refine TX_then ?_
    refine TC_seq ?_
    refine TC_seq ?_
    refine TC_reg ?_
    refine TL_q rfl rfl (QT_assign rfl rfl rfl) ?_
    refine TL_nil ?_
    refine TX_then ?_
    refine TC_block ?_
    refine TC_loop (γ := { t : Nat × R × R × R × List R // t.1 ≤ rs.length ∧ Kst rs t.1 t.2.1 t.2.2.1 t.2.2.2.1 t.2.2.2.2 ∧ (0 < t.1 → Lst t.2.1 t.2.2.1 t.2.2.2.1 t.2.2.2.2) ∧ t.2.2.2.2.length ≤ t.1 }) (fun t => [(1, true, .slice ad rs.length cap), (5, true, .slice pad A.1.length pcap), (7, true, .int .i64 (t.1.2.2.2.2.length : Int)), (8, true, .int .i64 (t.1.1 : Int))]) (fun t => St w0 (H1 ++ η)) (fun t => rs.length - t.1.1) ⟨(0, zR, zR, zR, []), Nat.zero_le _, Kst.zero rs, fun h => absurd h (Nat.lt_irrefl _), Nat.le_refl _⟩ ⟨rfl, rfl, rfl, rfl, trivial⟩ (fun _ h => h) ?_
    rintro ⟨⟨i, a, b, c, out⟩, hil, hK, hL, hol⟩
    dsimp only at hil hK hL hol ⊢
    refine TC_seq ?_
    refine TC_seq ?_
    refine TC_reg ?_
    refine TL_q rfl rfl (QT_move rfl rfl rfl) ?_
    refine TL_q rfl rfl (QT_move rfl rfl rfl) ?_
    refine TL_q rfl rfl (QT_len rfl rfl Tryd.underlying28 rfl) ?_
    refine TL_q rfl rfl (QT_lss rfl rfl rfl rfl) ?_
    refine TL_nil ?_
    refine TX_then ?_
    first
      | refine TC_cond_dec rfl (fun h47 => ?_) (fun h47 => ?_)
      | refine TC_cond rfl (fun h47 => ?_) (fun h47 => ?_)
    ·
      have hi : i < rs.length := by omega
      have hx := at7_ints ha hi
      have hnx := hK.next hi he
      rw [← hAs] at hnx
      have hklt : out.length < A.1.length := by
        rcases Nat.lt_or_ge out.length A.1.length with h | h
        · exact h
        · rw [List.getElem?_eq_none h] at hnx
          rcases hnx with ⟨_, _, h⟩ | ⟨_, h⟩ | ⟨_, h⟩ <;> cases h
      have hrf := rec_flag ha hi
      obtain ⟨f1, g1⟩ := flat_at7 ha hi
      have hbx := bareR_ints hx
      have hxl : (at7 rs i).length = 7 := hx.length
      refine TC_skip ?_
      refine TX_then ?_
      refine TC_seq ?_
      refine TC_block ?_
      refine TC_seq ?_
      refine TC_seq ?_
      refine TC_reg ?_
      refine TL_q rfl rfl (QT_move rfl rfl rfl) ?_
      refine TL_q rfl rfl (QT_move rfl rfl rfl) ?_
      refine TL_q rfl rfl (QT_len rfl rfl Tryd.underlying31 rfl) ?_
      refine TL_q rfl rfl (QT_geq rfl rfl rfl rfl) ?_
      refine TL_nil ?_
      refine TX_then ?_
      first
        | refine TC_cond_dec rfl (fun h53 => ?_) (fun h53 => ?_)
        | refine TC_cond rfl (fun h53 => ?_) (fun h53 => ?_)
      ·
        refine TC_seq ?_
        refine TC_reg ?_
        refine TL_q rfl rfl (QT_assign rfl rfl rfl) ?_
        refine TL_nil ?_
        refine TX_then ?_
        refine TC_ret ?_
        refine TX_then_ret ?_
        refine TX_block_ret ?_
        refine TX_then_ret ?_
        refine TX_then_ret ?_
        refine TX_block_ret ?_
        refine TX_then_ret ?_
        exfalso; omega
      ·
        refine TC_skip ?_
        refine TX_then ?_
        refine TC_seq ?_
        refine TC_reg ?_
        refine TL_q rfl rfl (QT_move rfl rfl rfl) ?_
        refine TL_q rfl rfl (QT_move rfl rfl rfl) ?_
        refine TL_q rfl rfl (QT_indexG i rfl rfl Tryd.underlying28 YtannaanbadaflaaDoorF.sz_63 rfl rfl rfl (fun _ => hi) (fun _ => had (by omega))) ?_
        refine TL_q rfl rfl (QT_loadRAj (out := at7 rs i) (i * 7) rfl rfl Tryd.underlying63 rfl YtannaanbadaflaaDoorF.sz_63 (hrd.deep (by intro _ hw; first | exact hw | exact hw.app_right | exact hw.app_right.app_right | exact hw.tail | exact hw.tail.app_right | exact hw.tail.tail | exact hw.tail.tail.app_right | exact hw.tail.tail.tail | exact hw.tail.tail.tail.app_right | exact hw.tail.tail.tail.tail | exact hw.tail.tail.tail.tail.app_right | exact hw.tail.tail.tail.tail.tail | exact hw.tail.tail.tail.tail.tail.app_right | exact hw.tail.tail.tail.tail.tail.tail | exact hw.tail.tail.tail.tail.tail.tail.app_right)) rfl (fun _ => g1) (fun _ => f1)) ?_
        refine TL_e rfl rfl rfl (rfl) (ET_alloc rfl YtannaanbadaflaaDoorF.zero_63) ?_
        rintro _ _ ⟨b9, rfl, rfl⟩
        refine TL_e0 rfl rfl (rfl) (ET_storeW (vs := at7 rs i) 0 rfl rfl rfl (hz7 hx) rfl (List.all_eq_true.2 hx.oneCell) (by rw [hxl]; rfl)) ?_
        rintro _ _ ⟨rfl, rfl⟩
        refine TL_nil ?_
        refine TX_then ?_
        refine TC_seq ?_
        refine TC_reg ?_
        refine TL_q rfl rfl (QT_field rfl rfl YtannaanbadaflaaDoorF.fld_63_0 rfl) ?_
        refine TL_e0 rfl rfl (rfl) (ET_store (vs := [.int .u8 0]) 0 rfl rfl rfl rfl YtannaanbadaflaaDoorF.sz_5 rfl rfl (Nat.ble_eq_true_of_le (show 0 + 0 + 1 ≤ (at7 rs i).length by omega))) ?_
        rintro _ _ ⟨rfl, rfl⟩
        refine TL_nil ?_
        refine TX_then ?_
        refine TC_cut (γ := { t : Nat × R × R × R × List R // i ≤ t.1 ∧ t.1 + 1 ≤ rs.length ∧ Kst rs (t.1 + 1) t.2.1 t.2.2.1 t.2.2.2.1 t.2.2.2.2 ∧ Lst t.2.1 t.2.2.1 t.2.2.2.1 t.2.2.2.2 ∧ t.2.2.2.2.length = out.length + 1 }) (fun t => [(1, true, .slice ad rs.length cap), (5, true, .slice pad A.1.length pcap), (7, true, .int .i64 (out.length : Int)), (8, true, .int .i64 (t.1.1 : Int))]) (fun t => St w0 (H1 ++ η)) ?_ ?_
        ·
          refine TC_seq ?_
          refine TC_A (St w0 ((b9, 63, bareR (at7 rs i)) :: (H1 ++ η))) (fun w h => by rw [← bareR_set hx]; exact h) ?_
          refine TC_reg ?_
          refine TL_q rfl rfl (QT_move rfl rfl rfl) ?_
          refine TL_q rfl rfl (QT_move rfl rfl rfl) ?_
          refine TL_q rfl rfl (QT_indexG i rfl rfl Tryd.underlying28 YtannaanbadaflaaDoorF.sz_63 rfl rfl rfl (fun _ => hi) (fun _ => had (by omega))) ?_
          refine TL_q rfl rfl (QT_field rfl rfl YtannaanbadaflaaDoorF.fld_63_0 rfl) ?_
          refine TL_q rfl rfl (QT_loadRj (v := .int .u8 (flagR (at7 rs i) : Int)) (i * 7) rfl rfl Tryd.underlying5 rfl (hrd.deep (by intro _ hw; first | exact hw | exact hw.app_right | exact hw.app_right.app_right | exact hw.tail | exact hw.tail.app_right | exact hw.tail.tail | exact hw.tail.tail.app_right | exact hw.tail.tail.tail | exact hw.tail.tail.tail.app_right | exact hw.tail.tail.tail.tail | exact hw.tail.tail.tail.tail.app_right | exact hw.tail.tail.tail.tail.tail | exact hw.tail.tail.tail.tail.tail.app_right | exact hw.tail.tail.tail.tail.tail.tail | exact hw.tail.tail.tail.tail.tail.tail.app_right)) rfl (fun _ => hrf)) ?_
          refine TL_q rfl rfl (QT_eql rfl rfl rfl rfl) ?_
          refine TL_nil ?_
          refine TX_then ?_
          first
            | refine TC_cond_dec rfl (fun h64 => ?_) (fun h64 => ?_)
            | refine TC_cond rfl (fun h64 => ?_) (fun h64 => ?_)
          ·
            refine TC_seq ?_
            refine TC_seq ?_
            obtain ⟨h0, hi2, hT⟩ : flagR (at7 rs i) = 0 ∧ i + 2 < rs.length ∧ A.1[out.length]? = some (B3 (at7 rs i) (at7 rs (i + 1)) (at7 rs (i + 2))) := by
              rcases hnx with h | ⟨h, _⟩ | ⟨h, _⟩
              · exact h
              · omega
              · omega
            have hi1 : i + 1 < rs.length := by omega
            have hy := at7_ints ha hi1
            have hz := at7_ints ha hi2
            have hK2 := hK.new hi2 h0
            have hL2 : Lst (at7 rs i) (at7 rs (i + 1)) (at7 rs (i + 2)) (out ++ [B3 (at7 rs i) (at7 rs (i + 1)) (at7 rs (i + 2))]) := ⟨hx, hy, hz, out, rfl⟩
            obtain ⟨p1, p2, p3, p4, p5, p6, p7⟩ := b3_parts hx.length hy.length hz.length
            have q1 := part_at hlT hT 0 7 (by decide)
            have q4 := part_at hlT hT 8 2 (by decide)
            have q5 := part_at hlT hT 10 4 (by decide)
            have q6 := part_at hlT hT 15 2 (by decide)
            have q7 := part_at hlT hT 17 4 (by decide)
            rw [p1] at q1
            rw [p4] at q4
            rw [p5] at q5
            rw [p6] at q6
            rw [p7] at q7
            have r4 := part_at hlR (at7_some hi1) 1 2 (by decide)
            have r5 := part_at hlR (at7_some hi1) 3 4 (by decide)
            have r6 := part_at hlR (at7_some hi2) 1 2 (by decide)
            have r7 := part_at hlR (at7_some hi2) 3 4 (by decide)
            refine TC_draw [(0, 0), (1, 0), (2, 0), (3, 0), (4, 0), (5, 0), (6, 0), (7, 0), (8, 0), (9, 0), (10, 0), (11, 0), (12, 0), (13, 0), (14, 0), (15, 0), (16, 0), (17, 0), (18, 0), (19, 0), (20, 0), (21, 0), (22, 0), (23, 0), (24, 0), (25, 0), (26, 0), (27, 0), (28, 0), (29, 0), (30, 0), (31, 0), (32, 0), (33, 0), (34, 0), (35, 0), (36, 0), (37, 0), (38, 0), (39, 0), (40, 0), (41, 0), (42, 0), (43, 0), (44, 0), (45, 0), (46, 0), (47, 0), (48, 0), (49, 0), (50, 0), (51, 0), (52, 0), (53, 0), (54, 0), (55, 0), (56, 0), (57, 0), (58, 0), (59, 0), (60, 0), (61, 0), (62, 0), (63, 0), (64, 0), (65, 0), (66, 0), (67, 0), (68, 0), (69, 0), (70, 0), (71, 0), (72, 0), (73, 0)] YtannaanbadaflaaDoorF.mixed (by kernel_rfl) (St.calm _ _) ?_
            refine TV_q rfl rfl rfl (fun _ => QT_move rfl rfl rfl) ?_
            refine TV_q rfl rfl rfl (fun _ => QT_add rfl rfl rfl rfl (fun _ => ⟨by omega, by omega⟩)) ?_
            refine TV_q rfl rfl rfl (fun _ => QT_move rfl rfl rfl) ?_
            refine TV_q rfl rfl rfl (fun _ => QT_len rfl rfl Tryd.underlying28 rfl) ?_
            refine TV_q rfl rfl rfl (fun _ => QT_geq rfl rfl rfl rfl) ?_
            refine TV_q rfl rfl rfl (fun _ => QT_move rfl rfl rfl) ?_
            refine TV_q rfl rfl rfl (fun _ => QT_move rfl rfl rfl) ?_
            refine TV_q rfl rfl rfl (fun _ => QT_move rfl rfl rfl) ?_
            refine TV_q rfl rfl rfl (fun _ => QT_indexG out.length rfl rfl Tryd.underlying31 YtannaanbadaflaaDoorF.sz_65 rfl rfl rfl (fun _ => hklt) (fun _ => hpad (by omega))) ?_
            refine TV_q rfl rfl rfl (fun _ => QT_indexArr (0) rfl rfl Tryd.underlying65 YtannaanbadaflaaDoorF.sz_63 rfl rfl (rfl) (fun _ => by decide)) ?_
            refine TV_ql rfl rfl rfl (QT_loadRAj (out := bareR (at7 rs i)) (out.length * 21 + 0) rfl rfl Tryd.underlying63 rfl YtannaanbadaflaaDoorF.sz_63 (hpr.deep (by intro _ hw; first | exact hw | exact hw.app_right | exact hw.app_right.app_right | exact hw.tail | exact hw.tail.app_right | exact hw.tail.tail | exact hw.tail.tail.app_right | exact hw.tail.tail.tail | exact hw.tail.tail.tail.app_right | exact hw.tail.tail.tail.tail | exact hw.tail.tail.tail.tail.app_right | exact hw.tail.tail.tail.tail.tail | exact hw.tail.tail.tail.tail.tail.app_right | exact hw.tail.tail.tail.tail.tail.tail | exact hw.tail.tail.tail.tail.tail.tail.app_right)) rfl (fun _ => q1.2) (fun _ => q1.1)) ?_
            refine TV_ql rfl rfl rfl (QT_loadW (cs := bareR (at7 rs i)) 0 rfl rfl Tryd.underlying63 rfl rfl rfl (hz7 hbx)) ?_
            refine TV_q rfl rfl rfl (fun _ => QT_neSame rfl rfl eq_Rec rfl rfl (fun _ => hbx)) ?_
            refine TV_q rfl rfl rfl (fun _ => QT_or rfl rfl rfl rfl) ?_
            refine TV_q rfl rfl rfl (fun _ => QT_move rfl rfl rfl) ?_
            refine TV_q rfl rfl rfl (fun _ => QT_move rfl rfl rfl) ?_
            refine TV_q rfl rfl rfl (fun _ => QT_move rfl rfl rfl) ?_
            refine TV_q rfl rfl rfl (fun _ => QT_indexG out.length rfl rfl Tryd.underlying31 YtannaanbadaflaaDoorF.sz_65 rfl rfl rfl (fun _ => hklt) (fun _ => hpad (by omega))) ?_
            refine TV_q rfl rfl rfl (fun _ => QT_indexArr (1) rfl rfl Tryd.underlying65 YtannaanbadaflaaDoorF.sz_63 rfl rfl (rfl) (fun _ => by decide)) ?_
            refine TV_q rfl rfl rfl (fun _ => QT_field rfl rfl YtannaanbadaflaaDoorF.fld_63_1 rfl) ?_
            refine TV_ql rfl rfl rfl (QT_loadRAj (out := ((at7 rs (i + 1)).drop 1).take 2) (out.length * 21 + 8) rfl rfl Tryd.underlying58 rfl YtannaanbadaflaaDoorF.sz_58 (hpr.deep (by intro _ hw; first | exact hw | exact hw.app_right | exact hw.app_right.app_right | exact hw.tail | exact hw.tail.app_right | exact hw.tail.tail | exact hw.tail.tail.app_right | exact hw.tail.tail.tail | exact hw.tail.tail.tail.app_right | exact hw.tail.tail.tail.tail | exact hw.tail.tail.tail.tail.app_right | exact hw.tail.tail.tail.tail.tail | exact hw.tail.tail.tail.tail.tail.app_right | exact hw.tail.tail.tail.tail.tail.tail | exact hw.tail.tail.tail.tail.tail.tail.app_right)) rfl (fun _ => q4.2) (fun _ => q4.1)) ?_
            refine TV_q rfl rfl rfl (fun _ => QT_move rfl rfl rfl) ?_
            refine TV_q rfl rfl rfl (fun _ => QT_move rfl rfl rfl) ?_
            refine TV_q rfl rfl rfl (fun _ => QT_add rfl rfl rfl rfl (fun _ => ⟨by omega, by omega⟩)) ?_
            refine TV_q rfl rfl rfl (fun _ => QT_indexG (i + 1) rfl rfl Tryd.underlying28 YtannaanbadaflaaDoorF.sz_63 rfl rfl rfl (fun _ => hi1) (fun _ => had (by omega))) ?_
            refine TV_q rfl rfl rfl (fun _ => QT_field rfl rfl YtannaanbadaflaaDoorF.fld_63_1 rfl) ?_
            refine TV_ql rfl rfl rfl (QT_loadRAj (out := ((at7 rs (i + 1)).drop 1).take 2) ((i + 1) * 7 + 1) rfl rfl Tryd.underlying58 rfl YtannaanbadaflaaDoorF.sz_58 (hrd.deep (by intro _ hw; first | exact hw | exact hw.app_right | exact hw.app_right.app_right | exact hw.tail | exact hw.tail.app_right | exact hw.tail.tail | exact hw.tail.tail.app_right | exact hw.tail.tail.tail | exact hw.tail.tail.tail.app_right | exact hw.tail.tail.tail.tail | exact hw.tail.tail.tail.tail.app_right | exact hw.tail.tail.tail.tail.tail | exact hw.tail.tail.tail.tail.tail.app_right | exact hw.tail.tail.tail.tail.tail.tail | exact hw.tail.tail.tail.tail.tail.tail.app_right)) rfl (fun _ => r4.2) (fun _ => r4.1)) ?_
            refine TV_q rfl rfl rfl (fun _ => QT_neSame rfl rfl eq_Spot rfl rfl (fun _ => spot_ints hy)) ?_
            refine TV_q rfl rfl rfl (fun _ => QT_or rfl rfl rfl rfl) ?_
            refine TV_q rfl rfl rfl (fun _ => QT_move rfl rfl rfl) ?_
            refine TV_q rfl rfl rfl (fun _ => QT_move rfl rfl rfl) ?_
            refine TV_q rfl rfl rfl (fun _ => QT_move rfl rfl rfl) ?_
            refine TV_q rfl rfl rfl (fun _ => QT_indexG out.length rfl rfl Tryd.underlying31 YtannaanbadaflaaDoorF.sz_65 rfl rfl rfl (fun _ => hklt) (fun _ => hpad (by omega))) ?_
            refine TV_q rfl rfl rfl (fun _ => QT_indexArr (1) rfl rfl Tryd.underlying65 YtannaanbadaflaaDoorF.sz_63 rfl rfl (rfl) (fun _ => by decide)) ?_
            refine TV_q rfl rfl rfl (fun _ => QT_field rfl rfl YtannaanbadaflaaDoorF.fld_63_2 rfl) ?_
            refine TV_ql rfl rfl rfl (QT_loadRAj (out := ((at7 rs (i + 1)).drop 3).take 4) (out.length * 21 + 10) rfl rfl Tryd.underlying61 rfl YtannaanbadaflaaDoorF.sz_61 (hpr.deep (by intro _ hw; first | exact hw | exact hw.app_right | exact hw.app_right.app_right | exact hw.tail | exact hw.tail.app_right | exact hw.tail.tail | exact hw.tail.tail.app_right | exact hw.tail.tail.tail | exact hw.tail.tail.tail.app_right | exact hw.tail.tail.tail.tail | exact hw.tail.tail.tail.tail.app_right | exact hw.tail.tail.tail.tail.tail | exact hw.tail.tail.tail.tail.tail.app_right | exact hw.tail.tail.tail.tail.tail.tail | exact hw.tail.tail.tail.tail.tail.tail.app_right)) rfl (fun _ => q5.2) (fun _ => q5.1)) ?_
            refine TV_q rfl rfl rfl (fun _ => QT_move rfl rfl rfl) ?_
            refine TV_q rfl rfl rfl (fun _ => QT_move rfl rfl rfl) ?_
            refine TV_q rfl rfl rfl (fun _ => QT_add rfl rfl rfl rfl (fun _ => ⟨by omega, by omega⟩)) ?_
            refine TV_q rfl rfl rfl (fun _ => QT_indexG (i + 1) rfl rfl Tryd.underlying28 YtannaanbadaflaaDoorF.sz_63 rfl rfl rfl (fun _ => hi1) (fun _ => had (by omega))) ?_
            refine TV_q rfl rfl rfl (fun _ => QT_field rfl rfl YtannaanbadaflaaDoorF.fld_63_2 rfl) ?_
            refine TV_ql rfl rfl rfl (QT_loadRAj (out := ((at7 rs (i + 1)).drop 3).take 4) ((i + 1) * 7 + 3) rfl rfl Tryd.underlying61 rfl YtannaanbadaflaaDoorF.sz_61 (hrd.deep (by intro _ hw; first | exact hw | exact hw.app_right | exact hw.app_right.app_right | exact hw.tail | exact hw.tail.app_right | exact hw.tail.tail | exact hw.tail.tail.app_right | exact hw.tail.tail.tail | exact hw.tail.tail.tail.app_right | exact hw.tail.tail.tail.tail | exact hw.tail.tail.tail.tail.app_right | exact hw.tail.tail.tail.tail.tail | exact hw.tail.tail.tail.tail.tail.app_right | exact hw.tail.tail.tail.tail.tail.tail | exact hw.tail.tail.tail.tail.tail.tail.app_right)) rfl (fun _ => r5.2) (fun _ => r5.1)) ?_
            refine TV_q rfl rfl rfl (fun _ => QT_neSame rfl rfl eq_Colour rfl rfl (fun _ => col_ints hy)) ?_
            refine TV_q rfl rfl rfl (fun _ => QT_or rfl rfl rfl rfl) ?_
            refine TV_q rfl rfl rfl (fun _ => QT_move rfl rfl rfl) ?_
            refine TV_q rfl rfl rfl (fun _ => QT_move rfl rfl rfl) ?_
            refine TV_q rfl rfl rfl (fun _ => QT_move rfl rfl rfl) ?_
            refine TV_q rfl rfl rfl (fun _ => QT_indexG out.length rfl rfl Tryd.underlying31 YtannaanbadaflaaDoorF.sz_65 rfl rfl rfl (fun _ => hklt) (fun _ => hpad (by omega))) ?_
            refine TV_q rfl rfl rfl (fun _ => QT_indexArr (2) rfl rfl Tryd.underlying65 YtannaanbadaflaaDoorF.sz_63 rfl rfl (rfl) (fun _ => by decide)) ?_
            refine TV_q rfl rfl rfl (fun _ => QT_field rfl rfl YtannaanbadaflaaDoorF.fld_63_1 rfl) ?_
            refine TV_ql rfl rfl rfl (QT_loadRAj (out := ((at7 rs (i + 2)).drop 1).take 2) (out.length * 21 + 15) rfl rfl Tryd.underlying58 rfl YtannaanbadaflaaDoorF.sz_58 (hpr.deep (by intro _ hw; first | exact hw | exact hw.app_right | exact hw.app_right.app_right | exact hw.tail | exact hw.tail.app_right | exact hw.tail.tail | exact hw.tail.tail.app_right | exact hw.tail.tail.tail | exact hw.tail.tail.tail.app_right | exact hw.tail.tail.tail.tail | exact hw.tail.tail.tail.tail.app_right | exact hw.tail.tail.tail.tail.tail | exact hw.tail.tail.tail.tail.tail.app_right | exact hw.tail.tail.tail.tail.tail.tail | exact hw.tail.tail.tail.tail.tail.tail.app_right)) rfl (fun _ => q6.2) (fun _ => q6.1)) ?_
            refine TV_q rfl rfl rfl (fun _ => QT_move rfl rfl rfl) ?_
            refine TV_q rfl rfl rfl (fun _ => QT_move rfl rfl rfl) ?_
            refine TV_q rfl rfl rfl (fun _ => QT_add rfl rfl rfl rfl (fun _ => ⟨by omega, by omega⟩)) ?_
            refine TV_q rfl rfl rfl (fun _ => QT_indexG (i + 2) rfl rfl Tryd.underlying28 YtannaanbadaflaaDoorF.sz_63 rfl rfl rfl (fun _ => hi2) (fun _ => had (by omega))) ?_
            refine TV_q rfl rfl rfl (fun _ => QT_field rfl rfl YtannaanbadaflaaDoorF.fld_63_1 rfl) ?_
            refine TV_ql rfl rfl rfl (QT_loadRAj (out := ((at7 rs (i + 2)).drop 1).take 2) ((i + 2) * 7 + 1) rfl rfl Tryd.underlying58 rfl YtannaanbadaflaaDoorF.sz_58 (hrd.deep (by intro _ hw; first | exact hw | exact hw.app_right | exact hw.app_right.app_right | exact hw.tail | exact hw.tail.app_right | exact hw.tail.tail | exact hw.tail.tail.app_right | exact hw.tail.tail.tail | exact hw.tail.tail.tail.app_right | exact hw.tail.tail.tail.tail | exact hw.tail.tail.tail.tail.app_right | exact hw.tail.tail.tail.tail.tail | exact hw.tail.tail.tail.tail.tail.app_right | exact hw.tail.tail.tail.tail.tail.tail | exact hw.tail.tail.tail.tail.tail.tail.app_right)) rfl (fun _ => r6.2) (fun _ => r6.1)) ?_
            refine TV_q rfl rfl rfl (fun _ => QT_neSame rfl rfl eq_Spot rfl rfl (fun _ => spot_ints hz)) ?_
            refine TV_q rfl rfl rfl (fun _ => QT_or rfl rfl rfl rfl) ?_
            refine TV_q rfl rfl rfl (fun _ => QT_move rfl rfl rfl) ?_
            refine TV_q rfl rfl rfl (fun _ => QT_move rfl rfl rfl) ?_
            refine TV_q rfl rfl rfl (fun _ => QT_move rfl rfl rfl) ?_
            refine TV_q rfl rfl rfl (fun _ => QT_indexG out.length rfl rfl Tryd.underlying31 YtannaanbadaflaaDoorF.sz_65 rfl rfl rfl (fun _ => hklt) (fun _ => hpad (by omega))) ?_
            refine TV_q rfl rfl rfl (fun _ => QT_indexArr (2) rfl rfl Tryd.underlying65 YtannaanbadaflaaDoorF.sz_63 rfl rfl (rfl) (fun _ => by decide)) ?_
            refine TV_q rfl rfl rfl (fun _ => QT_field rfl rfl YtannaanbadaflaaDoorF.fld_63_2 rfl) ?_
            refine TV_ql rfl rfl rfl (QT_loadRAj (out := ((at7 rs (i + 2)).drop 3).take 4) (out.length * 21 + 17) rfl rfl Tryd.underlying61 rfl YtannaanbadaflaaDoorF.sz_61 (hpr.deep (by intro _ hw; first | exact hw | exact hw.app_right | exact hw.app_right.app_right | exact hw.tail | exact hw.tail.app_right | exact hw.tail.tail | exact hw.tail.tail.app_right | exact hw.tail.tail.tail | exact hw.tail.tail.tail.app_right | exact hw.tail.tail.tail.tail | exact hw.tail.tail.tail.tail.app_right | exact hw.tail.tail.tail.tail.tail | exact hw.tail.tail.tail.tail.tail.app_right | exact hw.tail.tail.tail.tail.tail.tail | exact hw.tail.tail.tail.tail.tail.tail.app_right)) rfl (fun _ => q7.2) (fun _ => q7.1)) ?_
            refine TV_q rfl rfl rfl (fun _ => QT_move rfl rfl rfl) ?_
            refine TV_q rfl rfl rfl (fun _ => QT_move rfl rfl rfl) ?_
            refine TV_q rfl rfl rfl (fun _ => QT_add rfl rfl rfl rfl (fun _ => ⟨by omega, by omega⟩)) ?_
            refine TV_q rfl rfl rfl (fun _ => QT_indexG (i + 2) rfl rfl Tryd.underlying28 YtannaanbadaflaaDoorF.sz_63 rfl rfl rfl (fun _ => hi2) (fun _ => had (by omega))) ?_
            refine TV_q rfl rfl rfl (fun _ => QT_field rfl rfl YtannaanbadaflaaDoorF.fld_63_2 rfl) ?_
            refine TV_ql rfl rfl rfl (QT_loadRAj (out := ((at7 rs (i + 2)).drop 3).take 4) ((i + 2) * 7 + 3) rfl rfl Tryd.underlying61 rfl YtannaanbadaflaaDoorF.sz_61 (hrd.deep (by intro _ hw; first | exact hw | exact hw.app_right | exact hw.app_right.app_right | exact hw.tail | exact hw.tail.app_right | exact hw.tail.tail | exact hw.tail.tail.app_right | exact hw.tail.tail.tail | exact hw.tail.tail.tail.app_right | exact hw.tail.tail.tail.tail | exact hw.tail.tail.tail.tail.app_right | exact hw.tail.tail.tail.tail.tail | exact hw.tail.tail.tail.tail.tail.app_right | exact hw.tail.tail.tail.tail.tail.tail | exact hw.tail.tail.tail.tail.tail.tail.app_right)) rfl (fun _ => r7.2) (fun _ => r7.1)) ?_
            refine TV_q rfl rfl rfl (fun _ => QT_neSame rfl rfl eq_Colour rfl rfl (fun _ => col_ints hz)) ?_
            refine TV_q rfl rfl rfl (fun _ => QT_or rfl rfl rfl rfl) ?_
            refine TV_end ?_
            refine TX_then ?_
            first
              | refine TC_cond_dec rfl (fun h138 => ?_) (fun h138 => ?_)
              | refine TC_cond rfl (fun h138 => ?_) (fun h138 => ?_)
            ·
              refine TC_seq ?_
              refine TC_reg ?_
              refine TL_q rfl rfl (QT_assign rfl rfl rfl) ?_
              refine TL_nil ?_
              refine TX_then ?_
              refine TC_ret ?_
              refine TX_then_ret ?_
              refine TX_then_ret ?_
              refine TX_block_ret ?_
              refine TX_then_ret ?_
              refine TX_then_ret ?_
              refine TX_block_ret ?_
              refine TX_then_ret ?_
              exfalso
              simp only [Bool.or_false, decide_eq_true_eq] at h138
              omega
            ·
              refine TC_skip ?_
              refine TX_then ?_
              refine TC_reg ?_
              refine TL_q rfl rfl (QT_move rfl rfl rfl) ?_
              refine TL_q rfl rfl (QT_add rfl rfl rfl rfl (fun _ => ⟨by omega, by omega⟩)) ?_
              refine TL_q rfl rfl (QT_assign rfl rfl rfl) ?_
              refine TL_nil ?_
              exact TX_cut ⟨(i + 2, _, _, _, _), by show i ≤ i + 2; omega, by show i + 2 + 1 ≤ rs.length; omega, hK2, hL2, by simp⟩ ⟨rfl, rfl, rfl, rfl, trivial⟩ (fun _ h => h.tail)
          ·
            refine TC_seq ?_
            obtain ⟨tt, hT, htt, hfl, h1b, h2a⟩ : ∃ tt, A.1[out.length]? = some (B3 tt c (at7 rs i)) ∧ (tt = a ∨ tt = b) ∧ (flagR (at7 rs i) = 1 ∨ flagR (at7 rs i) = 2) ∧ (flagR (at7 rs i) = 1 → tt = b) ∧ (flagR (at7 rs i) = 2 → tt = a) := by
              rcases hnx with ⟨h, _⟩ | ⟨h, hT⟩ | ⟨h, hT⟩
              · omega
              · exact ⟨b, hT, .inr rfl, .inl h, fun _ => rfl, fun h' => by omega⟩
              · exact ⟨a, hT, .inl rfl, .inr h, fun h' => by omega, fun _ => rfl⟩
            have hip : 0 < i := by
              rcases Nat.eq_zero_or_pos i with h | h
              · subst h
                exact absurd (headF hi (by omega)) hnb
              · exact h
            have hLs := hL hip
            obtain ⟨hia, hib, hic, pre, hpre⟩ := hL hip
            have hop : 0 < out.length := by rw [hpre]; simp
            have hpv := hK.prev (by omega) he hLs
            rw [← hAs] at hpv
            have hit : Ints recK tt := by rcases htt with h | h <;> (rw [h]; assumption)
            obtain ⟨p1, p2, p3, _⟩ := b3_parts hit.length hic.length hx.length
            obtain ⟨u1, u2, u3, _⟩ := b3_parts hia.length hib.length hic.length
            have q1 := part_at hlT hT 0 7 (by decide)
            have q2 := part_at hlT hT 7 7 (by decide)
            have q3 := part_at hlT hT 14 7 (by decide)
            have s1 := part_at hlT hpv 0 7 (by decide)
            have s2 := part_at hlT hpv 7 7 (by decide)
            have s3 := part_at hlT hpv 14 7 (by decide)
            rw [p1] at q1
            rw [p2] at q2
            rw [p3] at q3
            rw [u1] at s1
            rw [u2] at s2
            rw [u3] at s3
            have hbc := bareR_ints hic
            have hbt := bareR_ints hit
            have hba := bareR_ints hia
            have hbb := bareR_ints hib
            refine TC_draw [(0, 0), (1, 0), (2, 0), (3, 0), (4, 0), (5, 0), (6, 0), (7, 0), (8, 0), (9, 0), (10, 0), (11, 0), (12, 0), (13, 0), (14, 0), (15, 0), (16, 0), (17, 0), (18, 0), (19, 0), (20, 0), (21, 0), (22, 0), (23, 0), (24, 0), (25, 0), (26, 0), (27, 0), (28, 0), (29, 0), (30, 0), (31, 0), (32, 0), (33, 0), (34, 0), (35, 0), (36, 0), (37, 0), (38, 0), (39, 0), (40, 0), (41, 0), (42, 0), (43, 0), (44, 0), (45, 0), (46, 0), (47, 0), (48, 0), (49, 0), (50, 0), (51, 0), (52, 0), (53, 0), (54, 0), (55, 0), (56, 0), (57, 0), (58, 0), (59, 0), (60, 0), (61, 0), (62, 0), (63, 0), (64, 0), (65, 0), (66, 0), (67, 0), (68, 0)] YtannaanbadaflaaDoorF.mixed (by kernel_rfl) (St.calm _ _) ?_
            refine TV_q rfl rfl rfl (fun _ => QT_move rfl rfl rfl) ?_
            refine TV_q rfl rfl rfl (fun _ => QT_eql rfl rfl rfl rfl) ?_
            refine TV_q rfl rfl rfl (fun _ => QT_move rfl rfl rfl) ?_
            refine TV_q rfl rfl rfl (fun _ => QT_move rfl rfl rfl) ?_
            refine TV_q rfl rfl rfl (fun _ => QT_move rfl rfl rfl) ?_
            refine TV_q rfl rfl rfl (fun _ => QT_indexG out.length rfl rfl Tryd.underlying31 YtannaanbadaflaaDoorF.sz_65 rfl rfl rfl (fun _ => hklt) (fun _ => hpad (by omega))) ?_
            refine TV_q rfl rfl rfl (fun _ => QT_indexArr (2) rfl rfl Tryd.underlying65 YtannaanbadaflaaDoorF.sz_63 rfl rfl (rfl) (fun _ => by decide)) ?_
            refine TV_ql rfl rfl rfl (QT_loadRAj (out := bareR (at7 rs i)) (out.length * 21 + 14) rfl rfl Tryd.underlying63 rfl YtannaanbadaflaaDoorF.sz_63 (hpr.deep (by intro _ hw; first | exact hw | exact hw.app_right | exact hw.app_right.app_right | exact hw.tail | exact hw.tail.app_right | exact hw.tail.tail | exact hw.tail.tail.app_right | exact hw.tail.tail.tail | exact hw.tail.tail.tail.app_right | exact hw.tail.tail.tail.tail | exact hw.tail.tail.tail.tail.app_right | exact hw.tail.tail.tail.tail.tail | exact hw.tail.tail.tail.tail.tail.app_right | exact hw.tail.tail.tail.tail.tail.tail | exact hw.tail.tail.tail.tail.tail.tail.app_right)) rfl (fun _ => q3.2) (fun _ => q3.1)) ?_
            refine TV_ql rfl rfl rfl (QT_loadW (cs := bareR (at7 rs i)) 0 rfl rfl Tryd.underlying63 rfl rfl rfl (hz7 hbx)) ?_
            refine TV_q rfl rfl rfl (fun _ => QT_neSame rfl rfl eq_Rec rfl rfl (fun _ => hbx)) ?_
            refine TV_q rfl rfl rfl (fun _ => QT_or rfl rfl rfl rfl) ?_
            refine TV_q rfl rfl rfl (fun _ => QT_move rfl rfl rfl) ?_
            refine TV_q rfl rfl rfl (fun _ => QT_move rfl rfl rfl) ?_
            refine TV_q rfl rfl rfl (fun _ => QT_move rfl rfl rfl) ?_
            refine TV_q rfl rfl rfl (fun _ => QT_indexG out.length rfl rfl Tryd.underlying31 YtannaanbadaflaaDoorF.sz_65 rfl rfl rfl (fun _ => hklt) (fun _ => hpad (by omega))) ?_
            refine TV_q rfl rfl rfl (fun _ => QT_indexArr (1) rfl rfl Tryd.underlying65 YtannaanbadaflaaDoorF.sz_63 rfl rfl (rfl) (fun _ => by decide)) ?_
            refine TV_ql rfl rfl rfl (QT_loadRAj (out := bareR c) (out.length * 21 + 7) rfl rfl Tryd.underlying63 rfl YtannaanbadaflaaDoorF.sz_63 (hpr.deep (by intro _ hw; first | exact hw | exact hw.app_right | exact hw.app_right.app_right | exact hw.tail | exact hw.tail.app_right | exact hw.tail.tail | exact hw.tail.tail.app_right | exact hw.tail.tail.tail | exact hw.tail.tail.tail.app_right | exact hw.tail.tail.tail.tail | exact hw.tail.tail.tail.tail.app_right | exact hw.tail.tail.tail.tail.tail | exact hw.tail.tail.tail.tail.tail.app_right | exact hw.tail.tail.tail.tail.tail.tail | exact hw.tail.tail.tail.tail.tail.tail.app_right)) rfl (fun _ => q2.2) (fun _ => q2.1)) ?_
            refine TV_q rfl rfl rfl (fun _ => QT_move rfl rfl rfl) ?_
            refine TV_q rfl rfl rfl (fun _ => QT_move rfl rfl rfl) ?_
            refine TV_q rfl rfl rfl (fun _ => QT_sub rfl rfl rfl rfl (fun _ => ⟨by omega, by omega⟩)) ?_
            refine TV_q rfl rfl rfl (fun _ => QT_indexG (out.length - 1) rfl rfl Tryd.underlying31 YtannaanbadaflaaDoorF.sz_65 rfl rfl (by omega) (fun _ => by omega) (fun _ => hpad (by omega))) ?_
            refine TV_q rfl rfl rfl (fun _ => QT_indexArr (2) rfl rfl Tryd.underlying65 YtannaanbadaflaaDoorF.sz_63 rfl rfl (rfl) (fun _ => by decide)) ?_
            refine TV_ql rfl rfl rfl (QT_loadRAj (out := bareR c) ((out.length - 1) * 21 + 14) rfl rfl Tryd.underlying63 rfl YtannaanbadaflaaDoorF.sz_63 (hpr.deep (by intro _ hw; first | exact hw | exact hw.app_right | exact hw.app_right.app_right | exact hw.tail | exact hw.tail.app_right | exact hw.tail.tail | exact hw.tail.tail.app_right | exact hw.tail.tail.tail | exact hw.tail.tail.tail.app_right | exact hw.tail.tail.tail.tail | exact hw.tail.tail.tail.tail.app_right | exact hw.tail.tail.tail.tail.tail | exact hw.tail.tail.tail.tail.tail.app_right | exact hw.tail.tail.tail.tail.tail.tail | exact hw.tail.tail.tail.tail.tail.tail.app_right)) rfl (fun _ => s3.2) (fun _ => s3.1)) ?_
            refine TV_q rfl rfl rfl (fun _ => QT_neSame rfl rfl eq_Rec rfl rfl (fun _ => hbc)) ?_
            refine TV_q rfl rfl rfl (fun _ => QT_or rfl rfl rfl rfl) ?_
            refine TV_q rfl rfl rfl (fun _ => QT_move rfl rfl rfl) ?_
            refine TV_q rfl rfl rfl (fun _ => QT_move rfl rfl rfl) ?_
            refine TV_q rfl rfl rfl (fun _ => QT_move rfl rfl rfl) ?_
            refine TV_q rfl rfl rfl (fun _ => QT_indexG i rfl rfl Tryd.underlying28 YtannaanbadaflaaDoorF.sz_63 rfl rfl rfl (fun _ => hi) (fun _ => had (by omega))) ?_
            refine TV_q rfl rfl rfl (fun _ => QT_field rfl rfl YtannaanbadaflaaDoorF.fld_63_0 rfl) ?_
            refine TV_ql rfl rfl rfl (QT_loadRj (v := .int .u8 (flagR (at7 rs i) : Int)) (i * 7) rfl rfl Tryd.underlying5 rfl (hrd.deep (by intro _ hw; first | exact hw | exact hw.app_right | exact hw.app_right.app_right | exact hw.tail | exact hw.tail.app_right | exact hw.tail.tail | exact hw.tail.tail.app_right | exact hw.tail.tail.tail | exact hw.tail.tail.tail.app_right | exact hw.tail.tail.tail.tail | exact hw.tail.tail.tail.tail.app_right | exact hw.tail.tail.tail.tail.tail | exact hw.tail.tail.tail.tail.tail.app_right | exact hw.tail.tail.tail.tail.tail.tail | exact hw.tail.tail.tail.tail.tail.tail.app_right)) rfl (fun _ => hrf)) ?_
            refine TV_q rfl rfl rfl (fun _ => QT_eql rfl rfl rfl rfl) ?_
            refine TV_q rfl rfl rfl (fun _ => QT_move rfl rfl rfl) ?_
            refine TV_q rfl rfl rfl (fun _ => QT_move rfl rfl rfl) ?_
            refine TV_q rfl rfl rfl (fun _ => QT_move rfl rfl rfl) ?_
            refine TV_q rfl rfl rfl (fun _ => QT_indexG out.length rfl rfl Tryd.underlying31 YtannaanbadaflaaDoorF.sz_65 rfl rfl rfl (fun _ => hklt) (fun _ => hpad (by omega))) ?_
            refine TV_q rfl rfl rfl (fun _ => QT_indexArr (0) rfl rfl Tryd.underlying65 YtannaanbadaflaaDoorF.sz_63 rfl rfl (rfl) (fun _ => by decide)) ?_
            refine TV_ql rfl rfl rfl (QT_loadRAj (out := bareR tt) (out.length * 21 + 0) rfl rfl Tryd.underlying63 rfl YtannaanbadaflaaDoorF.sz_63 (hpr.deep (by intro _ hw; first | exact hw | exact hw.app_right | exact hw.app_right.app_right | exact hw.tail | exact hw.tail.app_right | exact hw.tail.tail | exact hw.tail.tail.app_right | exact hw.tail.tail.tail | exact hw.tail.tail.tail.app_right | exact hw.tail.tail.tail.tail | exact hw.tail.tail.tail.tail.app_right | exact hw.tail.tail.tail.tail.tail | exact hw.tail.tail.tail.tail.tail.app_right | exact hw.tail.tail.tail.tail.tail.tail | exact hw.tail.tail.tail.tail.tail.tail.app_right)) rfl (fun _ => q1.2) (fun _ => q1.1)) ?_
            refine TV_q rfl rfl rfl (fun _ => QT_move rfl rfl rfl) ?_
            refine TV_q rfl rfl rfl (fun _ => QT_move rfl rfl rfl) ?_
            refine TV_q rfl rfl rfl (fun _ => QT_sub rfl rfl rfl rfl (fun _ => ⟨by omega, by omega⟩)) ?_
            refine TV_q rfl rfl rfl (fun _ => QT_indexG (out.length - 1) rfl rfl Tryd.underlying31 YtannaanbadaflaaDoorF.sz_65 rfl rfl (by omega) (fun _ => by omega) (fun _ => hpad (by omega))) ?_
            refine TV_q rfl rfl rfl (fun _ => QT_indexArr (1) rfl rfl Tryd.underlying65 YtannaanbadaflaaDoorF.sz_63 rfl rfl (rfl) (fun _ => by decide)) ?_
            refine TV_ql rfl rfl rfl (QT_loadRAj (out := bareR tt) ((out.length - 1) * 21 + 7) rfl rfl Tryd.underlying63 rfl YtannaanbadaflaaDoorF.sz_63 (hpr.deep (by intro _ hw; first | exact hw | exact hw.app_right | exact hw.app_right.app_right | exact hw.tail | exact hw.tail.app_right | exact hw.tail.tail | exact hw.tail.tail.app_right | exact hw.tail.tail.tail | exact hw.tail.tail.tail.app_right | exact hw.tail.tail.tail.tail | exact hw.tail.tail.tail.tail.app_right | exact hw.tail.tail.tail.tail.tail | exact hw.tail.tail.tail.tail.tail.app_right | exact hw.tail.tail.tail.tail.tail.tail | exact hw.tail.tail.tail.tail.tail.tail.app_right)) rfl (fun _ => s2.2) (fun h => by rw [h1b (by ((try simp only [Bool.not_eq_true', Bool.not_eq_eq_eq_not, Bool.not_true, Bool.and_eq_true, Bool.or_eq_false_iff, Bool.or_eq_true, Bool.and_eq_false_iff, decide_eq_true_eq, decide_eq_false_iff_not, Bool.true_eq, Bool.true_and, Bool.and_true] at h); omega))]; exact s2.1)) ?_
            refine TV_q rfl rfl rfl (fun _ => QT_neSame rfl rfl eq_Rec rfl rfl (fun _ => hbt)) ?_
            refine TV_q rfl rfl rfl (fun _ => QT_and rfl rfl rfl rfl) ?_
            refine TV_q rfl rfl rfl (fun _ => QT_or rfl rfl rfl rfl) ?_
            refine TV_q rfl rfl rfl (fun _ => QT_move rfl rfl rfl) ?_
            refine TV_q rfl rfl rfl (fun _ => QT_move rfl rfl rfl) ?_
            refine TV_q rfl rfl rfl (fun _ => QT_move rfl rfl rfl) ?_
            refine TV_q rfl rfl rfl (fun _ => QT_indexG i rfl rfl Tryd.underlying28 YtannaanbadaflaaDoorF.sz_63 rfl rfl rfl (fun _ => hi) (fun _ => had (by omega))) ?_
            refine TV_q rfl rfl rfl (fun _ => QT_field rfl rfl YtannaanbadaflaaDoorF.fld_63_0 rfl) ?_
            refine TV_ql rfl rfl rfl (QT_loadRj (v := .int .u8 (flagR (at7 rs i) : Int)) (i * 7) rfl rfl Tryd.underlying5 rfl (hrd.deep (by intro _ hw; first | exact hw | exact hw.app_right | exact hw.app_right.app_right | exact hw.tail | exact hw.tail.app_right | exact hw.tail.tail | exact hw.tail.tail.app_right | exact hw.tail.tail.tail | exact hw.tail.tail.tail.app_right | exact hw.tail.tail.tail.tail | exact hw.tail.tail.tail.tail.app_right | exact hw.tail.tail.tail.tail.tail | exact hw.tail.tail.tail.tail.tail.app_right | exact hw.tail.tail.tail.tail.tail.tail | exact hw.tail.tail.tail.tail.tail.tail.app_right)) rfl (fun _ => hrf)) ?_
            refine TV_q rfl rfl rfl (fun _ => QT_eql rfl rfl rfl rfl) ?_
            refine TV_q rfl rfl rfl (fun _ => QT_move rfl rfl rfl) ?_
            refine TV_q rfl rfl rfl (fun _ => QT_move rfl rfl rfl) ?_
            refine TV_q rfl rfl rfl (fun _ => QT_move rfl rfl rfl) ?_
            refine TV_q rfl rfl rfl (fun _ => QT_indexG out.length rfl rfl Tryd.underlying31 YtannaanbadaflaaDoorF.sz_65 rfl rfl rfl (fun _ => hklt) (fun _ => hpad (by omega))) ?_
            refine TV_q rfl rfl rfl (fun _ => QT_indexArr (0) rfl rfl Tryd.underlying65 YtannaanbadaflaaDoorF.sz_63 rfl rfl (rfl) (fun _ => by decide)) ?_
            refine TV_ql rfl rfl rfl (QT_loadRAj (out := bareR tt) (out.length * 21 + 0) rfl rfl Tryd.underlying63 rfl YtannaanbadaflaaDoorF.sz_63 (hpr.deep (by intro _ hw; first | exact hw | exact hw.app_right | exact hw.app_right.app_right | exact hw.tail | exact hw.tail.app_right | exact hw.tail.tail | exact hw.tail.tail.app_right | exact hw.tail.tail.tail | exact hw.tail.tail.tail.app_right | exact hw.tail.tail.tail.tail | exact hw.tail.tail.tail.tail.app_right | exact hw.tail.tail.tail.tail.tail | exact hw.tail.tail.tail.tail.tail.app_right | exact hw.tail.tail.tail.tail.tail.tail | exact hw.tail.tail.tail.tail.tail.tail.app_right)) rfl (fun _ => q1.2) (fun _ => q1.1)) ?_
            refine TV_q rfl rfl rfl (fun _ => QT_move rfl rfl rfl) ?_
            refine TV_q rfl rfl rfl (fun _ => QT_move rfl rfl rfl) ?_
            refine TV_q rfl rfl rfl (fun _ => QT_sub rfl rfl rfl rfl (fun _ => ⟨by omega, by omega⟩)) ?_
            refine TV_q rfl rfl rfl (fun _ => QT_indexG (out.length - 1) rfl rfl Tryd.underlying31 YtannaanbadaflaaDoorF.sz_65 rfl rfl (by omega) (fun _ => by omega) (fun _ => hpad (by omega))) ?_
            refine TV_q rfl rfl rfl (fun _ => QT_indexArr (0) rfl rfl Tryd.underlying65 YtannaanbadaflaaDoorF.sz_63 rfl rfl (rfl) (fun _ => by decide)) ?_
            refine TV_ql rfl rfl rfl (QT_loadRAj (out := bareR tt) ((out.length - 1) * 21 + 0) rfl rfl Tryd.underlying63 rfl YtannaanbadaflaaDoorF.sz_63 (hpr.deep (by intro _ hw; first | exact hw | exact hw.app_right | exact hw.app_right.app_right | exact hw.tail | exact hw.tail.app_right | exact hw.tail.tail | exact hw.tail.tail.app_right | exact hw.tail.tail.tail | exact hw.tail.tail.tail.app_right | exact hw.tail.tail.tail.tail | exact hw.tail.tail.tail.tail.app_right | exact hw.tail.tail.tail.tail.tail | exact hw.tail.tail.tail.tail.tail.app_right | exact hw.tail.tail.tail.tail.tail.tail | exact hw.tail.tail.tail.tail.tail.tail.app_right)) rfl (fun _ => s1.2) (fun h => by rw [h2a (by ((try simp only [Bool.not_eq_true', Bool.not_eq_eq_eq_not, Bool.not_true, Bool.and_eq_true, Bool.or_eq_false_iff, Bool.or_eq_true, Bool.and_eq_false_iff, decide_eq_true_eq, decide_eq_false_iff_not, Bool.true_eq, Bool.true_and, Bool.and_true] at h); omega))]; exact s1.1)) ?_
            refine TV_q rfl rfl rfl (fun _ => QT_neSame rfl rfl eq_Rec rfl rfl (fun _ => hbt)) ?_
            refine TV_q rfl rfl rfl (fun _ => QT_and rfl rfl rfl rfl) ?_
            refine TV_q rfl rfl rfl (fun _ => QT_or rfl rfl rfl rfl) ?_
            refine TV_end ?_
            refine TX_then ?_
            first
              | refine TC_cond_dec rfl (fun h209 => ?_) (fun h209 => ?_)
              | refine TC_cond rfl (fun h209 => ?_) (fun h209 => ?_)
            ·
              refine TC_seq ?_
              refine TC_reg ?_
              refine TL_q rfl rfl (QT_assign rfl rfl rfl) ?_
              refine TL_nil ?_
              refine TX_then ?_
              refine TC_ret ?_
              refine TX_then_ret ?_
              refine TX_block_ret ?_
              refine TX_then_ret ?_
              refine TX_then_ret ?_
              refine TX_block_ret ?_
              refine TX_then_ret ?_
              exfalso
              simp only [Bool.or_false, Bool.and_false, decide_eq_true_eq] at h209
              omega
            ·
              refine TC_skip ?_
              exact TX_cut ⟨(i, tt, c, at7 rs i, out ++ [B3 tt c (at7 rs i)]), Nat.le_refl _, hi, by
                rcases hfl with h | h
                · rw [h1b h]; exact hK.one hi h
                · rw [h2a h]; exact hK.two hi h, ⟨hit, hic, hx, out, rfl⟩, by simp⟩ ⟨rfl, rfl, rfl, rfl, trivial⟩ (fun _ h => h.tail)
        rintro ⟨⟨j, a2, b2', c2, out2⟩, hj1, hj2, hK2, hL2, ho2⟩
        dsimp only at hj1 hj2 hK2 hL2 ho2 ⊢
        refine TC_reg ?_
        refine TL_q rfl rfl (QT_move rfl rfl rfl) ?_
        refine TL_q rfl rfl (QT_add rfl rfl rfl rfl (fun _ => ⟨by omega, by omega⟩)) ?_
        refine TL_q rfl rfl (QT_assign rfl rfl rfl) ?_
        refine TL_nil ?_
        refine TX_block_normal ?_
        refine TX_then ?_
        refine TC_reg ?_
        refine TL_q rfl rfl (QT_move rfl rfl rfl) ?_
        refine TL_q rfl rfl (QT_add rfl rfl rfl rfl (fun _ => ⟨by omega, by omega⟩)) ?_
        refine TL_q rfl rfl (QT_assign rfl rfl rfl) ?_
        refine TL_nil ?_
        exact TX_round ⟨(j + 1, a2, b2', c2, out2), hj2, hK2, fun _ => hL2, by show out2.length ≤ j + 1; omega⟩ (by show rs.length - (j + 1) < rs.length - i; omega) ⟨rfl, rfl, slotI rfl (by show _ = ((out2.length : Nat) : Int); omega), rfl, trivial⟩ (fun _ h => h)
    ·
      refine TC_exit ?_
      refine TX_then_exit ?_
      refine TX_then_exit ?_
      refine TX_block_here ?_
      refine TX_then ?_
      refine TC_seq ?_
      refine TC_reg ?_
      refine TL_q rfl rfl (QT_move rfl rfl rfl) ?_
      refine TL_q rfl rfl (QT_move rfl rfl rfl) ?_
      refine TL_q rfl rfl (QT_len rfl rfl Tryd.underlying31 rfl) ?_
      refine TL_q rfl rfl (QT_eql rfl rfl rfl rfl) ?_
      refine TL_q rfl rfl (QT_move rfl rfl rfl) ?_
      refine TL_cq rfl rfl rfl rfl YtannaanbadaflaaDoorF.cal_8 rfl (fun _ => lives10 w0 _ hG) ?_
      refine TL_q rfl rfl (QT_and rfl rfl rfl rfl) ?_
      refine TL_q rfl rfl (QT_assign rfl rfl rfl) ?_
      refine TL_nil ?_
      refine TX_then ?_
      refine TC_ret ?_
      have hie : i = rs.length := by omega
      have e : A = (out, 0) := by
        have := hK.here
        rw [hAs, strips, ← hie, ← this, hie, List.take_length]
      exact TX_ret (.inl rfl) (res1 rfl rfl) ⟨_, ⟨congrArg Value.bool (by rw [e]; simp), rfl⟩, fun _ h => h.app_right⟩
end Go.Proofs.YtannaanbadaflaaDoor

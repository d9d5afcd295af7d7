/- TRIANGLES OF VERTICES OF TYPE 4: what the program's strip answers. -/
import Derived.Test.YtannaanbadaflaaDoorT10a
namespace Go.Proofs.YtannaanbadaflaaDoor
open Go Go.Gx Go.RowKit
set_option maxRecDepth 100000

abbrev R := List Value
def B3 (a b c : R) : R := T3 (bareR a) (bareR b) (bareR c)
def stripF : Nat → List R → R → R → R → List R → List R × Int
  | 0, _, _, _, _, out => (out, 0)
  | _ + 1, [], _, _, _, out => (out, 0)
  | f + 1, x :: v, a, b, c, out =>
    if flagR x = 0 then (match v with
      | y :: z :: w => stripF f w x y z (out ++ [B3 x y z])
      | _ => ([], 5))
    else if flagR x = 1 then stripF f v b c x (out ++ [B3 b c x])
    else if flagR x = 2 then stripF f v a c x (out ++ [B3 a c x])
    else ([], 7)
theorem strip_short {f : Nat} {x : R} {v : List R} {a b c : R} {out : List R} (h0 : flagR x = 0) (hv : v.length < 2) : stripF (f + 1) (x :: v) a b c out = ([], 5) := by
  match v, hv with
  | [], _ => simp [stripF, h0]
  | [_], _ => simp [stripF, h0]
  | y :: z :: w, h => simp at h; omega
theorem strip_long {f : Nat} {x y z : R} {w : List R} {a b c : R} {out : List R} (h0 : flagR x = 0) : stripF (f + 1) (x :: y :: z :: w) a b c out = stripF f w x y z (out ++ [B3 x y z]) := by simp [stripF, h0]
theorem strip_one {f : Nat} {x : R} {v : List R} {a b c : R} {out : List R} (h0 : flagR x = 1) : stripF (f + 1) (x :: v) a b c out = stripF f v b c x (out ++ [B3 b c x]) := by simp [stripF, h0]
theorem strip_two {f : Nat} {x : R} {v : List R} {a b c : R} {out : List R} (h0 : flagR x = 2) : stripF (f + 1) (x :: v) a b c out = stripF f v a c x (out ++ [B3 a c x]) := by simp [stripF, h0]
theorem strip_bad {f : Nat} {x : R} {v : List R} {a b c : R} {out : List R} (h0 : flagR x ≠ 0) (h1 : flagR x ≠ 1) (h2 : flagR x ≠ 2) : stripF (f + 1) (x :: v) a b c out = ([], 7) := by simp [stripF, h0, h1, h2]
theorem set3 {a b c x : R} (ha : a.length = 7) (hb : b.length = 7) (hc : c.length = 7) (hx : x.length = 7) : setAt (setAt (T3 a b c) (0 + 1 * 7) c) (0 + 2 * 7) x = T3 a c x := by
  obtain ⟨f, rfl⟩ := tab' (.bool false) a ha
  obtain ⟨g, rfl⟩ := tab' (.bool false) b hb
  obtain ⟨h, rfl⟩ := tab' (.bool false) c hc
  obtain ⟨k, rfl⟩ := tab' (.bool false) x hx
  kernel_rfl
def zR : R := zs recK
theorem zR_ints : Ints recK zR := zs_ints _
/-- what is known at the head of a round -/
structure Stp (w0 : World) (η : Heap) (n : Nat) (FIN : List R × Int) (rem : List R) (sv : Value) (a b c : R) (out : List R) (fv : Value) (H : Heap) (e : Int) (f : Nat) : Prop where
  sl : SlA (St w0 η) sv 7 rem.length rem.flatten
  all : All7 rem
  ia : Ints recK a
  ib : Ints recK b
  ic : Ints recK c
  io : ∀ t ∈ out, Ints triK t
  fr : Frag 65 21 fv out.length out.flatten H
  few : out.length + rem.length ≤ n
  fin : (e = 0 ∧ stripF f rem a b c out = FIN ∧ rem.length < f) ∨ (e ≠ 0 ∧ FIN = ([], e))
  e64 : e = 0 ∨ e = 5 ∨ e = 7
theorem flatten_snoc (out : List R) (t : R) : (out ++ [t]).flatten = out.flatten ++ t := by simp

set_option maxHeartbeats 1000000 in
theorem strip_spec (w0 : World) (η : Heap) (sv : Value) (rs : List R) (hs : SlA (St w0 η) sv 7 rs.length rs.flatten) (ha : All7 rs) (hn : rs.length * 60 ≤ 140737488355328) :
    CallsT Tryd.prog 22 [sv] (St w0 η) fun v A' => ∃ pv H, v = .tuple #[pv, .int .i64 (stripF (rs.length + 1) rs zR zR zR []).2] ∧ Frag 65 21 pv (stripF (rs.length + 1) rs zR zR zR []).1.length (stripF (rs.length + 1) rs zR zR zR []).1.flatten H ∧ A' = St w0 (H ++ η) := by
  obtain ⟨FIN, hFIN⟩ : ∃ F, F = stripF (rs.length + 1) rs zR zR zR [] := ⟨_, rfl⟩
  rw [← hFIN]
  refine CallsT.body Tryd.func22 rfl rfl ?_
  simp only [Tryd.ntmps22, slotsOf, Nat.reduceAdd]
  refine TC_seq ?_
  refine TC_reg ?_
  refine TL_q rfl rfl (QT_assign rfl rfl rfl) ?_
  refine TL_q rfl rfl (QT_assign rfl rfl rfl) ?_
  refine TL_nil ?_
  refine TX_then ?_
  refine TC_seq ?_
  refine TC_reg ?_
  refine TL_e rfl rfl rfl (rfl) (ET_alloc rfl YtannaanbadaflaaDoorF.zero_65) ?_
  rintro _ _ ⟨b4, rfl, rfl⟩
  refine TL_nil ?_
  refine TX_then ?_
  refine TC_seq ?_
  refine TC_block ?_
  refine TC_loop (γ := { t : List R × Value × R × R × R × List R × Value × Heap × Int × Nat // Stp w0 η rs.length FIN t.1 t.2.1 t.2.2.1 t.2.2.2.1 t.2.2.2.2.1 t.2.2.2.2.2.1 t.2.2.2.2.2.2.1 t.2.2.2.2.2.2.2.1 t.2.2.2.2.2.2.2.2.1 t.2.2.2.2.2.2.2.2.2 }) (fun t => [(0, true, t.1.2.1), (2, true, t.1.2.2.2.2.2.2.1), (3, true, .int .i64 t.1.2.2.2.2.2.2.2.2.1), (4, true, .pointer (some ⟨b4, 0, none⟩))]) (fun t => St w0 ((b4, 65, T3 t.1.2.2.1 t.1.2.2.2.1 t.1.2.2.2.2.1) :: (t.1.2.2.2.2.2.2.2.1 ++ η))) (fun t => t.1.1.length) ⟨(rs, sv, zR, zR, zR, [], .slice none 0 0, [], 0, rs.length + 1), hs, ha, zR_ints, zR_ints, zR_ints, fun t h => absurd h List.not_mem_nil, Frag.nil _ _, by show 0 + rs.length ≤ rs.length; omega, .inl ⟨rfl, hFIN.symm, Nat.lt_succ_self _⟩, .inl rfl⟩ ⟨rfl, rfl, rfl, rfl, trivial⟩ (fun _ h => h) ?_
  rintro ⟨⟨rem, sv, a, b, c, out, fv, H, e, f⟩, hS⟩
  dsimp only at hS ⊢
  obtain ⟨hsl, hall, hia, hib, hic, hio, hfr, hfew, hfin, he64⟩ := hS
  obtain ⟨_, ad, cap, sb, so, rfl, hcap, had, hrd⟩ := hsl.some
  refine TC_seq ?_
  refine TC_seq ?_
  refine TC_reg ?_
  refine TL_q rfl rfl (QT_move rfl rfl rfl) ?_
  refine TL_q rfl rfl (QT_len rfl rfl Tryd.underlying28 rfl) ?_
  refine TL_q rfl rfl (QT_gtr rfl rfl rfl rfl) ?_
  refine TL_q rfl rfl (QT_move rfl rfl rfl) ?_
  refine TL_q rfl rfl (QT_move rfl rfl rfl) ?_
  refine TL_q rfl rfl (QT_eql rfl rfl rfl rfl) ?_
  refine TL_q rfl rfl (QT_and rfl rfl rfl rfl) ?_
  refine TL_nil ?_
  refine TX_then ?_
  first
    | refine TC_cond_dec rfl (fun h12 => ?_) (fun h12 => ?_)
    | refine TC_cond rfl (fun h12 => ?_) (fun h12 => ?_)
  ·
    simp only [Bool.and_eq_true, decide_eq_true_eq] at h12
    obtain ⟨h12a, rfl⟩ := h12
    obtain ⟨x, v, rfl⟩ : ∃ x v, rem = x :: v := by
      cases rem with
      | nil => simp at h12a
      | cons x v => exact ⟨x, v, rfl⟩
    obtain ⟨_, hF, hfuel⟩ : (0 : Int) = 0 ∧ stripF f (x :: v) a b c out = FIN ∧ (x :: v).length < f := by
      rcases hfin with h | ⟨h, _⟩
      · exact h
      · exact absurd rfl h
    obtain ⟨f, rfl⟩ : ∃ g, f = g + 1 := ⟨f - 1, by omega⟩
    have hix : Ints recK x := hall x (List.mem_cons_self ..)
    have hxl : x.length = 7 := hix.length
    have hav : All7 v := fun r hr => hall r (List.mem_cons_of_mem _ hr)
    obtain ⟨hx0, hle0⟩ := flat_at (s := 7) (i := 0) hall.len (show (x :: v)[0]? = some x from rfl)
    have hzx : Sz Tryd.prog 63 x.length := by rw [hxl]; exact YtannaanbadaflaaDoorF.sz_63
    obtain ⟨hfx, _⟩ := flagR_spec hix
    have hR : ∀ {η' : Heap}, (∀ p : Blk → Bool, η.countP p ≤ η'.countP p) → Rd (St w0 η') sb so (x :: v).flatten := fun h => hrd.mono fun _ hw => hw.cnt h
    have hback := hsl.back (k := 1) (by simp)
    rw [flat_drop (k := 1) hall.len, List.drop_one, List.tail_cons, List.length_cons, Nat.add_sub_cancel] at hback
    refine TC_skip ?_
    refine TX_then ?_
    refine TC_block ?_
    refine TC_scope ?_
    refine TC_seq ?_
    refine TC_reg ?_
    refine TL_q rfl rfl (QT_move rfl rfl rfl) ?_
    refine TL_q rfl rfl (QT_indexG 0 rfl rfl Tryd.underlying28 YtannaanbadaflaaDoorF.sz_63 rfl rfl rfl (fun _ => by simp) (fun _ => had (by simp))) ?_
    refine TL_q rfl rfl (QT_loadRAj (0 * 7) rfl rfl Tryd.underlying63 rfl YtannaanbadaflaaDoorF.sz_63 (hR fun p => by simp only [List.countP_append, List.countP_cons]; omega) rfl (fun _ => hle0) (fun _ => hx0)) ?_
    refine TL_e rfl rfl rfl (rfl) (ET_alloc rfl YtannaanbadaflaaDoorF.zero_63) ?_
    rintro _ _ ⟨b5, rfl, rfl⟩
    refine TL_e0 rfl rfl (rfl) (ET_storeW (vs := x) 0 rfl rfl rfl hzx rfl (List.all_eq_true.2 hix.oneCell) (by rw [hxl]; rfl)) ?_
    rintro _ _ ⟨rfl, rfl⟩
    refine TL_nil ?_
    refine TX_then ?_
    refine TC_seq ?_
    refine TC_reg ?_
    refine TL_q rfl rfl (QT_move rfl rfl rfl) ?_
    refine TL_q rfl rfl (QT_slcL 1 rfl rfl rfl rfl Tryd.underlying28 YtannaanbadaflaaDoorF.sz_63 rfl rfl rfl (fun _ => by simp)) ?_
    refine TL_q rfl rfl (QT_assign rfl rfl rfl) ?_
    refine TL_nil ?_
    refine TX_then ?_
    refine TC_seq ?_
    refine TC_label ?_
    refine TX_then ?_
    refine TC_cut (γ := { t : List R × Value × R × R × R × Int // ∃ rem' e', rem' = t.1 ∧ e' = t.2.2.2.2.2 ∧ SlA (St w0 η) t.2.1 7 t.1.length t.1.flatten ∧ All7 t.1 ∧ Ints recK t.2.2.1 ∧ Ints recK t.2.2.2.1 ∧ Ints recK t.2.2.2.2.1 ∧ t.1.length ≤ v.length ∧ ((e' = 0 ∧ stripF f rem' t.2.2.1 t.2.2.2.1 t.2.2.2.2.1 (out ++ [B3 t.2.2.1 t.2.2.2.1 t.2.2.2.2.1]) = FIN ∧ rem'.length < f) ∨ (e' ≠ 0 ∧ FIN = ([], e'))) ∧ (e' = 0 ∨ e' = 5 ∨ e' = 7) }) (fun t => [(0, true, t.1.2.1), (2, true, fv), (3, true, .int .i64 t.1.2.2.2.2.2), (4, true, .pointer (some ⟨b4, 0, none⟩))]) (fun t => St w0 ((b4, 65, T3 t.1.2.2.1 t.1.2.2.2.1 t.1.2.2.2.2.1) :: (H ++ η))) ?_ ?_
    ·
      refine TC_seq ?_
      have hsz5 : v.length = (x :: v).length - 1 := by simp
      obtain ⟨ad1, had1⟩ : ∃ ad1, ad1 = (if cap = 1 then ad else ad.map (·.add (1 * 7))) := ⟨_, rfl⟩
      rw [← had1] at hback
      refine TC_weaken (σ' := [(0, true, .slice ad1 v.length (cap - 1)), (2, true, fv), (3, true, .int .i64 0), (4, true, .pointer (some ⟨b4, 0, none⟩)), (5, true, .pointer (some ⟨b5, 0, none⟩))]) ⟨by rw [had1]; rfl, rfl, rfl, rfl, rfl, trivial⟩ (fun _ h => h) ?_
      obtain ⟨_, ad1', cap1, sb1, so1, heq1, hcap1, hadd1, hrd1⟩ := hback.some
      obtain ⟨rfl, _, rfl⟩ := Value.slice.inj heq1
      have hR1 : ∀ {η' : Heap}, (∀ p : Blk → Bool, η.countP p ≤ η'.countP p) → Rd (St w0 η') sb1 so1 v.flatten := fun h => hrd1.mono fun _ hw => hw.cnt h
      have hTl := T3_len hia.length hib.length hic.length
      obtain ⟨hT0, hT1, hT2⟩ := T3_at hia.length hib.length hic.length
      have hTi := T3_ints hia hib hic
      refine TC_reg ?_
      refine TL_q rfl rfl (QT_field rfl rfl YtannaanbadaflaaDoorF.fld_63_0 rfl) ?_
      refine TL_q rfl rfl (QT_load 0 rfl rfl Tryd.underlying5 rfl rfl rfl (fun _ => hfx)) ?_
      refine TL_nil ?_
      refine TX_then ?_
      refine TC_block ?_
      refine TC_seq ?_
      refine TC_reg ?_
      refine TL_q rfl rfl (QT_eql rfl rfl rfl rfl) ?_
      refine TL_q rfl rfl (QT_assign rfl rfl rfl) ?_
      refine TL_nil ?_
      refine TX_then ?_
      first
        | refine TC_cond_dec rfl (fun h20 => ?_) (fun h20 => ?_)
        | refine TC_cond rfl (fun h20 => ?_) (fun h20 => ?_)
      ·
        refine TC_seq ?_
        refine TC_seq ?_
        refine TC_reg ?_
        refine TL_q rfl rfl (QT_move rfl rfl rfl) ?_
        refine TL_q rfl rfl (QT_len rfl rfl Tryd.underlying28 rfl) ?_
        refine TL_q rfl rfl (QT_lss rfl rfl rfl rfl) ?_
        refine TL_nil ?_
        refine TX_then ?_
        first
          | refine TC_cond_dec rfl (fun h24 => ?_) (fun h24 => ?_)
          | refine TC_cond rfl (fun h24 => ?_) (fun h24 => ?_)
        ·
          refine TC_seq ?_
          refine TC_reg ?_
          refine TL_q rfl rfl (QT_assign rfl rfl rfl) ?_
          refine TL_nil ?_
          refine TX_then ?_
          refine TC_exit ?_
          refine TX_then_exit ?_
          refine TX_block_here ?_
          exact TX_cut ⟨(v, .slice ad1 v.length (cap - 1), a, b, c, 5), v, 5, rfl, rfl, hback, hav, hia, hib, hic, Nat.le_refl _, .inr ⟨by decide, by rw [← hF, strip_short (by omega) (by omega)]⟩, .inr (.inl rfl)⟩ ⟨rfl, rfl, rfl, rfl, trivial⟩ (fun _ h => h.tail)
        ·
          refine TC_skip ?_
          refine TX_then ?_
          obtain ⟨y, z, w, rfl⟩ : ∃ y z w, v = y :: z :: w := by
            match v, h24 with
            | [], h => simp at h
            | [_], h => simp at h
            | y :: z :: w, _ => exact ⟨y, z, w, rfl⟩
          have hiy : Ints recK y := hav y (by simp)
          have hiz : Ints recK z := hav z (by simp)
          obtain ⟨hy0, hle1⟩ := flat_at (s := 7) (i := 0) hav.len (show (y :: z :: w)[0]? = some y from rfl)
          obtain ⟨hz0, hle2⟩ := flat_at (s := 7) (i := 1) hav.len (show (y :: z :: w)[1]? = some z from rfl)
          have hback2 := hback.back (k := 2) (by simp)
          rw [flat_drop (k := 2) hav.len] at hback2
          have hbl : (y :: z :: w).length - 2 = w.length := by simp
          have hbd : (y :: z :: w).drop 2 = w := rfl
          rw [hbl, hbd] at hback2
          have hxyz : Ints triK (T3 x y z) := T3_ints hix hiy hiz
          refine TC_draw [(0, 0), (1, 0), (2, 0), (3, 0), (4, 0), (5, 0), (6, 0), (7, 0), (8, 0), (9, 0), (10, 1), (11, 0)] YtannaanbadaflaaDoorF.mixed (by kernel_rfl) (St.calm _ _) ?_
          refine TV_ql rfl rfl rfl (QT_loadW (cs := x) 0 rfl rfl Tryd.underlying63 rfl rfl rfl hzx) ?_
          refine TV_q rfl rfl rfl (fun _ => QT_move rfl rfl rfl) ?_
          refine TV_q rfl rfl rfl (fun _ => QT_indexG 0 rfl rfl Tryd.underlying28 YtannaanbadaflaaDoorF.sz_63 rfl rfl rfl (fun _ => by simp) (fun _ => hadd1 (by simp))) ?_
          refine TV_ql rfl rfl rfl (QT_loadRAj (0 * 7) rfl rfl Tryd.underlying63 rfl YtannaanbadaflaaDoorF.sz_63 (hR1 (η' := (b5, 63, x) :: (b4, 65, T3 a b c) :: (H ++ η)) fun p => by simp only [List.countP_append, List.countP_cons]; omega) rfl (fun _ => hle1) (fun _ => hy0)) ?_
          refine TV_q rfl rfl rfl (fun _ => QT_move rfl rfl rfl) ?_
          refine TV_q rfl rfl rfl (fun _ => QT_indexG 1 rfl rfl Tryd.underlying28 YtannaanbadaflaaDoorF.sz_63 rfl rfl rfl (fun _ => by simp) (fun _ => hadd1 (by simp))) ?_
          refine TV_ql rfl rfl rfl (QT_loadRAj (1 * 7) rfl rfl Tryd.underlying63 rfl YtannaanbadaflaaDoorF.sz_63 (hR1 (η' := (b5, 63, x) :: (b4, 65, T3 a b c) :: (H ++ η)) fun p => by simp only [List.countP_append, List.countP_cons]; omega) rfl (fun _ => hle2) (fun _ => hz0)) ?_
          refine TV_q rfl rfl rfl (fun _ => QT_buildArr (out := T3 x y z) rfl rfl YtannaanbadaflaaDoorF.zero_65 Tryd.underlying65 YtannaanbadaflaaDoorF.sz_63 rfl rfl (seg3 hxl hiy.length hiz.length rfl)) ?_
          refine TV_q rfl rfl rfl (fun _ => QT_move rfl rfl rfl) ?_
          refine TV_q rfl rfl rfl (fun _ => QT_slcL 2 rfl rfl rfl rfl Tryd.underlying28 YtannaanbadaflaaDoorF.sz_63 rfl rfl rfl (fun _ => by simp)) ?_
          refine TV_e0 rfl rfl rfl (rfl) (ET_storeW (vs := T3 x y z) 1 rfl rfl rfl (by rw [hxyz.length]; exact YtannaanbadaflaaDoorF.sz_65) rfl (List.all_eq_true.2 hxyz.oneCell) (by rw [hxyz.length, hTl]; rfl)) ?_
          rintro _ _ ⟨rfl, rfl⟩
          refine ⟨_, .drop (by kernel_rfl) (.drop (by kernel_rfl) (.drop (by kernel_rfl) (.nil))), ?_⟩
          refine TV_q rfl rfl rfl (fun _ => QT_assign rfl rfl rfl) ?_
          refine TV_end ?_
          refine TX_block_normal ?_
          exact TX_cut ⟨(w, .slice (if cap - 1 = 2 then ad1 else ad1.map (·.add (2 * 7))) w.length (cap - 1 - 2), x, y, z, 0), w, 0, rfl, rfl, hback2, fun r hr => hav r (by simp [hr]), hix, hiy, hiz, by have e : (y :: z :: w).length = w.length + 2 := rfl; rw [e]; exact Nat.le_add_right _ _, .inl ⟨rfl, by rw [← hF, strip_long (by omega)], by have e : (x :: y :: z :: w).length = w.length + 3 := rfl; rw [e] at hfuel; omega⟩, .inl rfl⟩ ⟨rfl, rfl, rfl, rfl, trivial⟩ (fun _ h => h.tail)
      ·
        refine TC_seq ?_
        refine TC_reg ?_
        refine TL_q rfl rfl (QT_eql rfl rfl rfl rfl) ?_
        refine TL_q rfl rfl (QT_assign rfl rfl rfl) ?_
        refine TL_nil ?_
        refine TX_then ?_
        first
          | refine TC_cond_dec rfl (fun h35 => ?_) (fun h35 => ?_)
          | refine TC_cond rfl (fun h35 => ?_) (fun h35 => ?_)
        ·
          refine TC_reg ?_
          refine TL_q rfl rfl (QT_indexArr (1) rfl rfl Tryd.underlying65 YtannaanbadaflaaDoorF.sz_63 rfl rfl (rfl) (fun _ => by decide)) ?_
          refine TL_q rfl rfl (QT_loadRAj (out := b) (1 * 7) rfl rfl Tryd.underlying63 rfl YtannaanbadaflaaDoorF.sz_63 (Rd.own 1 rfl) rfl (fun _ => by rw [hTl]; decide) (fun _ => hT1)) ?_
          refine TL_q rfl rfl (QT_indexArr (2) rfl rfl Tryd.underlying65 YtannaanbadaflaaDoorF.sz_63 rfl rfl (rfl) (fun _ => by decide)) ?_
          refine TL_q rfl rfl (QT_loadRAj (out := c) (2 * 7) rfl rfl Tryd.underlying63 rfl YtannaanbadaflaaDoorF.sz_63 (Rd.own 1 rfl) rfl (fun _ => by rw [hTl]; decide) (fun _ => hT2)) ?_
          refine TL_q rfl rfl (QT_loadW (cs := x) 0 rfl rfl Tryd.underlying63 rfl rfl rfl hzx) ?_
          refine TL_q rfl rfl (QT_buildArr (out := T3 b c x) rfl rfl YtannaanbadaflaaDoorF.zero_65 Tryd.underlying65 YtannaanbadaflaaDoorF.sz_63 rfl rfl (seg3 hib.length hic.length hxl rfl)) ?_
          refine TL_e0 rfl rfl (rfl) (ET_storeW (vs := T3 b c x) 1 rfl rfl rfl (by rw [T3_len hib.length hic.length hxl]; exact YtannaanbadaflaaDoorF.sz_65) rfl (List.all_eq_true.2 (T3_ints hib hic hix).oneCell) (by rw [T3_len hib.length hic.length hxl, hTl]; rfl)) ?_
          rintro _ _ ⟨rfl, rfl⟩
          refine TL_nil ?_
          refine TX_block_normal ?_
          exact TX_cut ⟨(v, .slice ad1 v.length (cap - 1), b, c, x, 0), v, 0, rfl, rfl, hback, hav, hib, hic, hix, Nat.le_refl _, .inl ⟨rfl, by rw [← hF, strip_one (by omega)], by simp at hfuel; omega⟩, .inl rfl⟩ ⟨rfl, rfl, rfl, rfl, trivial⟩ (fun _ h => h.tail)
        ·
          refine TC_seq ?_
          refine TC_reg ?_
          refine TL_q rfl rfl (QT_eql rfl rfl rfl rfl) ?_
          refine TL_q rfl rfl (QT_assign rfl rfl rfl) ?_
          refine TL_nil ?_
          refine TX_then ?_
          first
            | refine TC_cond_dec rfl (fun h43 => ?_) (fun h43 => ?_)
            | refine TC_cond rfl (fun h43 => ?_) (fun h43 => ?_)
          ·
            refine TC_draw [(0, 0), (1, 0), (2, 0), (3, 0), (4, 1), (5, 0), (6, 1)] YtannaanbadaflaaDoorF.mixed (by kernel_rfl) (St.calm _ _) ?_
            refine TV_q rfl rfl rfl (fun _ => QT_indexArr (2) rfl rfl Tryd.underlying65 YtannaanbadaflaaDoorF.sz_63 rfl rfl (rfl) (fun _ => by decide)) ?_
            refine TV_ql rfl rfl rfl (QT_loadRAj (out := c) (2 * 7) rfl rfl Tryd.underlying63 rfl YtannaanbadaflaaDoorF.sz_63 (Rd.own 1 rfl) rfl (fun _ => by rw [hTl]; decide) (fun _ => hT2)) ?_
            refine TV_ql rfl rfl rfl (QT_loadW (cs := x) 0 rfl rfl Tryd.underlying63 rfl rfl rfl hzx) ?_
            refine TV_q rfl rfl rfl (fun _ => QT_indexArr (1) rfl rfl Tryd.underlying65 YtannaanbadaflaaDoorF.sz_63 rfl rfl (rfl) (fun _ => by decide)) ?_
            refine TV_e0 rfl rfl rfl (rfl) (ET_store (vs := c) 1 rfl rfl rfl rfl (by rw [hic.length]; exact YtannaanbadaflaaDoorF.sz_63) rfl (List.all_eq_true.2 hic.oneCell) (Nat.ble_eq_true_of_le (by rw [hic.length, hTl]; decide))) ?_
            rintro _ _ ⟨rfl, rfl⟩
            refine ⟨_, .keep (by kernel_rfl) rfl (by first | exact QT_loadW (cs := x) 0 rfl rfl Tryd.underlying63 rfl rfl rfl hzx) (.drop (by kernel_rfl) (.nil)), ?_⟩
            refine TV_q rfl rfl rfl (fun _ => QT_indexArr (2) rfl rfl Tryd.underlying65 YtannaanbadaflaaDoorF.sz_63 rfl rfl (rfl) (fun _ => by decide)) ?_
            refine TV_e0 rfl rfl rfl (rfl) (ET_store (vs := x) 1 rfl rfl rfl rfl hzx rfl (List.all_eq_true.2 hix.oneCell) (Nat.ble_eq_true_of_le (by rw [hxl, setAt_length, hTl]; decide))) ?_
            rintro _ _ ⟨rfl, rfl⟩
            refine ⟨_, .drop (by kernel_rfl) (.nil), ?_⟩
            refine TV_end ?_
            refine TX_block_normal ?_
            exact TX_cut ⟨(v, .slice ad1 v.length (cap - 1), a, c, x, 0), v, 0, rfl, rfl, hback, hav, hia, hic, hix, Nat.le_refl _, .inl ⟨rfl, by rw [← hF, strip_two (by omega)], by simp at hfuel; omega⟩, .inl rfl⟩ ⟨rfl, rfl, rfl, rfl, trivial⟩ (fun w h => by
              rw [← set3 hia.length hib.length hic.length hxl]
              exact h.tail)
          ·
            refine TC_reg ?_
            refine TL_q rfl rfl (QT_assign rfl rfl rfl) ?_
            refine TL_nil ?_
            refine TX_block_normal ?_
            exact TX_cut ⟨(v, .slice ad1 v.length (cap - 1), a, b, c, 7), v, 7, rfl, rfl, hback, hav, hia, hib, hic, Nat.le_refl _, .inr ⟨by decide, by rw [← hF, strip_bad (by omega) (by omega) (by omega)]⟩, .inr (.inr rfl)⟩ ⟨rfl, rfl, rfl, rfl, trivial⟩ (fun _ h => h.tail)
    try clear hTl hT0 hT1 hT2 hTi hia hib hic hfin a b c
    rintro ⟨⟨rem', sv', a, b, c, e⟩, rem2, e2, h1, h2, hsl', hall', hia, hib, hic, hrl, hfin', he'⟩
    dsimp only at h1 h2 hsl' hall' hia hib hic hrl hfin' he' ⊢
    subst h1 h2
    have hBi : Ints triK (B3 a b c) := T3_ints (bareR_ints hia) (bareR_ints hib) (bareR_ints hic)
    have hTz : Sz Tryd.prog 65 (T3 a b c).length := by rw [T3_len hia.length hib.length hic.length]; exact YtannaanbadaflaaDoorF.sz_65
    refine TC_reg ?_
    refine TL_q rfl rfl (QT_move rfl rfl rfl) ?_
    refine TL_q rfl rfl (QT_loadW (cs := T3 a b c) 0 rfl rfl Tryd.underlying65 rfl rfl rfl hTz) ?_
    refine TL_cq rfl rfl rfl rfl YtannaanbadaflaaDoorF.cal_71 rfl (fun _ => bare_spec w0 _ a b c hia hib hic) ?_
    refine TL_e rfl rfl rfl (rfl) (ET_buildN [_] rfl Tryd.underlying31 YtannaanbadaflaaDoorF.sz_65 YtannaanbadaflaaDoorF.zero_65 rfl rfl rfl (fun v hv => by cases List.mem_singleton.1 hv; exact hBi.length)) ?_
    rintro _ _ ⟨b53, rfl, rfl⟩
    refine TL_e rfl rfl rfl (rfl) (ET_appendL (L := [_, _]) rfl Tryd.underlying31 el_Tri rfl rfl hfr (fun _ h => h) (SlA.own (n := 1) (xs := B3 a b c) 0 rfl (by rw [List.drop_zero, List.take_of_length_le (by simp [Value.cells]; exact Nat.le_of_eq hBi.length)]; simp [Value.cells, B3]) (by simp [Value.cells]; exact Nat.le_of_eq hBi.length.symm) (by omega)) hBi.oneCell (by simp at hfew; omega) (by simp at hfew; omega)) ?_
    rintro fv2 _ ⟨H', hF', rfl⟩
    refine TL_q rfl rfl (QT_assign rfl rfl rfl) ?_
    refine TL_nil ?_
    refine TX_scope_normal ?_
    refine TX_block_normal ?_
    exact TX_round ⟨(rem2, sv', a, b, c, out ++ [B3 a b c], fv2, H', e2, f), hsl', hall', hia, hib, hic, fun t ht => by
      rcases List.mem_append.1 ht with ht | ht
      · exact hio t ht
      · cases List.mem_singleton.1 ht
        exact hBi, by rw [List.length_append, flatten_snoc]; exact hF', by simp at hfew ⊢; omega, hfin', he'⟩ (by show rem2.length < (x :: v).length; simp; omega) ⟨rfl, rfl, rfl, rfl, trivial⟩ (fun _ h => h.tail)
  ·
    refine TC_exit ?_
    refine TX_then_exit ?_
    refine TX_then_exit ?_
    refine TX_block_here ?_
    refine TX_then ?_
    refine TC_seq ?_
    refine TC_seq ?_
    refine TC_reg ?_
    refine TL_q rfl rfl (QT_move rfl rfl rfl) ?_
    refine TL_q rfl rfl (QT_neq rfl rfl rfl rfl) ?_
    refine TL_nil ?_
    refine TX_then ?_
    first
      | refine TC_cond_dec rfl (fun h56 => ?_) (fun h56 => ?_)
      | refine TC_cond rfl (fun h56 => ?_) (fun h56 => ?_)
    ·
      refine TC_seq ?_
      refine TC_reg ?_
      refine TL_q rfl rfl (QT_move rfl rfl rfl) ?_
      refine TL_q rfl rfl (QT_assign rfl rfl rfl) ?_
      refine TL_q rfl rfl (QT_assign rfl rfl rfl) ?_
      refine TL_nil ?_
      refine TX_then ?_
      refine TC_ret ?_
      refine TX_then_ret ?_
      have hFe : FIN = ([], e) := by
        rcases hfin with ⟨h, _⟩ | ⟨_, h⟩
        · exact absurd h h56
        · exact h
      rw [hFe]
      exact TX_ret (.inl rfl) (res2 rfl rfl rfl) ⟨_, ⟨_, [], rfl, Frag.nil _ _, rfl⟩, fun _ h => h.tail.app_right⟩
    ·
      refine TC_skip ?_
      refine TX_then ?_
      refine TC_seq ?_
      obtain rfl : e = 0 := Classical.byContradiction h56
      have hr0 : rem = [] := by
        cases rem with
        | nil => rfl
        | cons x v => simp at h12
      subst hr0
      have hFe : FIN = (out, 0) := by
        rcases hfin with ⟨_, h, hf⟩ | ⟨h, _⟩
        · obtain ⟨g, rfl⟩ : ∃ g, f = g + 1 := ⟨f - 1, by simp at hf; omega⟩
          rw [← h, stripF]
        · exact absurd rfl h
      rw [hFe]
      refine TC_A (St w0 (H ++ η)) (fun _ h => h.tail) ?_
      refine TC_reg ?_
      refine TL_q rfl rfl (QT_move rfl rfl rfl) ?_
      refine TL_e rfl rfl rfl (rfl) (ET_call rfl YtannaanbadaflaaDoorF.cal_72 rfl (clipT_spec w0 η H fv out.length out.flatten hfr)) ?_
      rintro cv _ ⟨hF2, rfl⟩
      refine TL_q rfl rfl (QT_assign rfl rfl rfl) ?_
      refine TL_q rfl rfl (QT_assign rfl rfl rfl) ?_
      refine TL_nil ?_
      refine TX_then ?_
      refine TC_ret ?_
      exact TX_ret (.inl rfl) (res2 rfl rfl rfl) ⟨_, ⟨cv, H, rfl, hF2, rfl⟩, fun _ h => h⟩
end Go.Proofs.YtannaanbadaflaaDoor

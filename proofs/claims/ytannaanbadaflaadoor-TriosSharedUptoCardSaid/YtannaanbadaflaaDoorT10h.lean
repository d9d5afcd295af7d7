/- LETTERS of triangles; whether a text's triangles are these; the chapter's answers. -/
import Derived.Test.YtannaanbadaflaaDoorT10g
namespace Go.Proofs.YtannaanbadaflaaDoor
open Go Go.Gx Go.RowKit
set_option maxRecDepth 100000

def zOf (t : R) (k : Nat) : Int := match t[k]? with
  | some (.int _ z) => z
  | _ => 0
def ltr (t : R) (k : Nat) : UInt8 := UInt8.ofNat (zOf t k).toNat
def lett (t : R) : List UInt8 := [ltr t 1, ltr t 8, ltr t 15] ++ [32]
def lettersF (ts : List R) : List UInt8 := ts.flatMap lett
theorem ints_at : ∀ {ks : List IntKind} {cs : List Value} {k : Nat} {q : IntKind}, Ints ks cs → ks[k]? = some q → ∃ z, cs[k]? = some (.int q z) ∧ (Lit.int q z).wf = true
  | [], cs, k, q, _, h => by simp at h
  | q0 :: ks, cs, 0, q, hi, h => by
    obtain ⟨z, cs', rfl, hw, _⟩ := hi.inv
    simp only [List.getElem?_cons_zero, Option.some.injEq] at h
    subst h
    exact ⟨z, rfl, hw⟩
  | q0 :: ks, cs, k + 1, q, hi, h => by
    obtain ⟨z, cs', rfl, hw, h2⟩ := hi.inv
    rw [List.getElem?_cons_succ] at h ⊢
    exact ints_at h2 h
theorem ltr_spec {t : R} {k : Nat} (hi : Ints triK t) (hk : triK[k]? = some .u32) : t[k]? = some (.int .u32 (zOf t k)) ∧ IntKind.u8.wrap (zOf t k) = ((ltr t k).toNat : Int) := by
  obtain ⟨z, hz, hw⟩ := ints_at hi hk
  have hzo : zOf t k = z := by rw [zOf, hz]
  rw [hzo]
  refine ⟨hz, ?_⟩
  have h1 : IntKind.u32.min = 0 := rfl
  have h2 : IntKind.u32.max = 4294967295 := rfl
  simp only [Lit.wf, Bool.and_eq_true, decide_eq_true_eq] at hw
  rw [wrap8, ltr, hzo, UInt8.toNat_ofNat']
  omega
theorem tri_at {ts : List R} {i k : Nat} {t : R} (ht : ∀ t ∈ ts, t.length = 21) (h : ts[i]? = some t) (hk : k < 21) : ts.flatten[i * 21 + k]? = t[k]? := by
  obtain ⟨f1, _⟩ := flat_at ht h
  rw [← f1, List.getElem?_take_of_lt hk, List.getElem?_drop]
theorem lettersF_succ {ts : List R} {i : Nat} {t : R} (h : ts[i]? = some t) : lettersF (ts.take (i + 1)) = (lettersF (ts.take i) ++ [ltr t 1, ltr t 8, ltr t 15]) ++ [32] := by
  have hlt : i < ts.length := by
    rcases Nat.lt_or_ge i ts.length with h' | h'
    · exact h'
    · rw [List.getElem?_eq_none h'] at h; cases h
  rw [List.getElem?_eq_getElem hlt] at h
  rw [List.take_succ_eq_append_getElem hlt, Option.some.inj h]
  simp [lettersF, lett]
theorem lettersF_len (ts : List R) : (lettersF ts).length = ts.length * 4 := by
  induction ts with
  | nil => rfl
  | cons t ts ih => simp only [lettersF, List.flatMap_cons, List.length_append, List.length_cons] at ih ⊢; rw [ih]; simp [lett]; omega
theorem letters_spec (w0 : World) (η : Heap) (tv : Value) (ts : List R) (hs : SlA (St w0 η) tv 21 ts.length ts.flatten) (hi : ∀ t ∈ ts, Ints triK t) (hn : ts.length ≤ 1000) :
    CallsT Tryd.prog 70 [tv] (St w0 η) fun v A' => v = .string ⟨(lettersF ts).toArray⟩ ∧ A' = St w0 η := by
  obtain ⟨_, ad, cap, sb, so, rfl, hcap, had, hrd⟩ := hs.some
  have hlen : ∀ t ∈ ts, t.length = 21 := fun t ht => (hi t ht).length
  refine CallsT.body Tryd.func70 rfl rfl ?_
  simp only [Tryd.ntmps70, slotsOf, Nat.reduceAdd]
  refine TC_seq ?_
  refine TC_reg ?_
  refine TL_q rfl rfl (QT_assign rfl rfl rfl) ?_
  refine TL_nil ?_
  refine TX_then ?_
  refine TC_seq ?_
  refine TC_reg ?_
  refine TL_q rfl rfl (QT_assign rfl rfl rfl) ?_
  refine TL_nil ?_
  refine TX_then ?_
  refine TC_seq ?_
  refine TC_seq ?_
  refine TC_reg ?_
  refine TL_q rfl rfl (QT_assign rfl rfl rfl) ?_
  refine TL_nil ?_
  refine TX_then ?_
  refine TC_block ?_
  refine TC_loop (γ := { i : Nat // i ≤ ts.length }) (fun t => [(0, true, .slice ad ts.length cap), (3, true, .string ⟨(lettersF (ts.take t.1)).toArray⟩), (4, true, .int .i64 (t.1 : Int))]) (fun t => St w0 η) (fun t => ts.length - t.1) ⟨0, Nat.zero_le _⟩ ⟨rfl, rfl, rfl, trivial⟩ (fun _ h => h) ?_
  rintro ⟨i, hil⟩
  dsimp only
  refine TC_seq ?_
  refine TC_seq ?_
  refine TC_reg ?_
  refine TL_q rfl rfl (QT_move rfl rfl rfl) ?_
  refine TL_q rfl rfl (QT_move rfl rfl rfl) ?_
  refine TL_q rfl rfl (QT_len rfl rfl Tryd.underlying31 rfl) ?_
  refine TL_q rfl rfl (QT_lss rfl rfl rfl rfl) ?_
  refine TL_nil ?_
  refine TX_then ?_
  first
    | refine TC_cond_dec rfl (fun h8 => ?_) (fun h8 => ?_)
    | refine TC_cond rfl (fun h8 => ?_) (fun h8 => ?_)
  ·
    have hi' : i < ts.length := by omega
    obtain ⟨t, ht⟩ : ∃ t, ts[i]? = some t := ⟨_, List.getElem?_eq_getElem hi'⟩
    have hti := hi t (List.mem_of_getElem? ht)
    have hls := lettersF_succ ht
    have hll := lettersF_len (ts.take i)
    have htk : (ts.take i).length ≤ i := by rw [List.length_take]; omega
    obtain ⟨a1, a2⟩ := ltr_spec (k := 1) hti rfl
    obtain ⟨b1, b2⟩ := ltr_spec (k := 8) hti rfl
    obtain ⟨c1, c2⟩ := ltr_spec (k := 15) hti rfl
    rw [← tri_at hlen ht (by decide)] at a1 b1 c1
    generalize ltr t 1 = u1 at *
    generalize ltr t 8 = u2 at *
    generalize ltr t 15 = u3 at *
    refine TC_skip ?_
    refine TX_then ?_
    refine TC_seq ?_
    refine TC_block ?_
    refine TC_draw [(0, 0), (1, 0), (2, 0), (3, 0), (4, 0), (5, 0), (6, 0), (7, 0), (8, 0), (9, 0), (10, 0), (11, 0), (12, 0), (13, 0), (14, 0), (15, 0), (16, 0), (17, 0), (18, 0), (19, 0), (20, 0), (21, 0), (22, 0), (23, 0), (24, 0), (25, 1), (26, 0), (27, 0), (28, 0), (29, 0)] YtannaanbadaflaaDoorF.mixed (by kernel_rfl) (St.calm _ _) ?_
    refine TV_q rfl rfl rfl (fun _ => QT_move rfl rfl rfl) ?_
    refine TV_q rfl rfl rfl (fun _ => QT_move rfl rfl rfl) ?_
    refine TV_q rfl rfl rfl (fun _ => QT_move rfl rfl rfl) ?_
    refine TV_q rfl rfl rfl (fun _ => QT_indexG i rfl rfl Tryd.underlying31 YtannaanbadaflaaDoorF.sz_65 rfl rfl rfl (fun _ => hi') (fun _ => had (by omega))) ?_
    refine TV_q rfl rfl rfl (fun _ => QT_indexArr (0) rfl rfl Tryd.underlying65 YtannaanbadaflaaDoorF.sz_63 rfl rfl (rfl) (fun _ => by decide)) ?_
    refine TV_q rfl rfl rfl (fun _ => QT_field rfl rfl YtannaanbadaflaaDoorF.fld_63_1 rfl) ?_
    refine TV_q rfl rfl rfl (fun _ => QT_field rfl rfl YtannaanbadaflaaDoorF.fld_58_0 rfl) ?_
    refine TV_ql rfl rfl rfl (QT_loadRj (v := .int .u32 (zOf t 1)) (i * 21 + 1) rfl rfl Tryd.underlying56 rfl (hrd.deep (by intro _ hw; first | exact hw | exact hw.app_right | exact hw.app_right.app_right | exact hw.tail | exact hw.tail.app_right | exact hw.tail.tail | exact hw.tail.tail.app_right | exact hw.tail.tail.tail | exact hw.tail.tail.tail.app_right | exact hw.tail.tail.tail.tail | exact hw.tail.tail.tail.tail.app_right | exact hw.tail.tail.tail.tail.tail | exact hw.tail.tail.tail.tail.tail.app_right | exact hw.tail.tail.tail.tail.tail.tail | exact hw.tail.tail.tail.tail.tail.tail.app_right)) rfl (fun _ => a1)) ?_
    refine TV_q rfl rfl rfl (fun _ => QT_convN (q := (u1.toNat : Int)) rfl rfl Tryd.underlying56 Tryd.underlying5 rfl a2) ?_
    refine TV_q rfl rfl rfl (fun _ => QT_move rfl rfl rfl) ?_
    refine TV_q rfl rfl rfl (fun _ => QT_move rfl rfl rfl) ?_
    refine TV_q rfl rfl rfl (fun _ => QT_indexG i rfl rfl Tryd.underlying31 YtannaanbadaflaaDoorF.sz_65 rfl rfl rfl (fun _ => hi') (fun _ => had (by omega))) ?_
    refine TV_q rfl rfl rfl (fun _ => QT_indexArr (1) rfl rfl Tryd.underlying65 YtannaanbadaflaaDoorF.sz_63 rfl rfl (rfl) (fun _ => by decide)) ?_
    refine TV_q rfl rfl rfl (fun _ => QT_field rfl rfl YtannaanbadaflaaDoorF.fld_63_1 rfl) ?_
    refine TV_q rfl rfl rfl (fun _ => QT_field rfl rfl YtannaanbadaflaaDoorF.fld_58_0 rfl) ?_
    refine TV_ql rfl rfl rfl (QT_loadRj (v := .int .u32 (zOf t 8)) (i * 21 + 8) rfl rfl Tryd.underlying56 rfl (hrd.deep (by intro _ hw; first | exact hw | exact hw.app_right | exact hw.app_right.app_right | exact hw.tail | exact hw.tail.app_right | exact hw.tail.tail | exact hw.tail.tail.app_right | exact hw.tail.tail.tail | exact hw.tail.tail.tail.app_right | exact hw.tail.tail.tail.tail | exact hw.tail.tail.tail.tail.app_right | exact hw.tail.tail.tail.tail.tail | exact hw.tail.tail.tail.tail.tail.app_right | exact hw.tail.tail.tail.tail.tail.tail | exact hw.tail.tail.tail.tail.tail.tail.app_right)) rfl (fun _ => b1)) ?_
    refine TV_q rfl rfl rfl (fun _ => QT_convN (q := (u2.toNat : Int)) rfl rfl Tryd.underlying56 Tryd.underlying5 rfl b2) ?_
    refine TV_q rfl rfl rfl (fun _ => QT_move rfl rfl rfl) ?_
    refine TV_q rfl rfl rfl (fun _ => QT_move rfl rfl rfl) ?_
    refine TV_q rfl rfl rfl (fun _ => QT_indexG i rfl rfl Tryd.underlying31 YtannaanbadaflaaDoorF.sz_65 rfl rfl rfl (fun _ => hi') (fun _ => had (by omega))) ?_
    refine TV_q rfl rfl rfl (fun _ => QT_indexArr (2) rfl rfl Tryd.underlying65 YtannaanbadaflaaDoorF.sz_63 rfl rfl (rfl) (fun _ => by decide)) ?_
    refine TV_q rfl rfl rfl (fun _ => QT_field rfl rfl YtannaanbadaflaaDoorF.fld_63_1 rfl) ?_
    refine TV_q rfl rfl rfl (fun _ => QT_field rfl rfl YtannaanbadaflaaDoorF.fld_58_0 rfl) ?_
    refine TV_ql rfl rfl rfl (QT_loadRj (v := .int .u32 (zOf t 15)) (i * 21 + 15) rfl rfl Tryd.underlying56 rfl (hrd.deep (by intro _ hw; first | exact hw | exact hw.app_right | exact hw.app_right.app_right | exact hw.tail | exact hw.tail.app_right | exact hw.tail.tail | exact hw.tail.tail.app_right | exact hw.tail.tail.tail | exact hw.tail.tail.tail.app_right | exact hw.tail.tail.tail.tail | exact hw.tail.tail.tail.tail.app_right | exact hw.tail.tail.tail.tail.tail | exact hw.tail.tail.tail.tail.tail.app_right | exact hw.tail.tail.tail.tail.tail.tail | exact hw.tail.tail.tail.tail.tail.tail.app_right)) rfl (fun _ => c1)) ?_
    refine TV_q rfl rfl rfl (fun _ => QT_convN (q := (u3.toNat : Int)) rfl rfl Tryd.underlying56 Tryd.underlying5 rfl c2) ?_
    refine TV_e rfl rfl rfl rfl (rfl) (ET_buildSlice rfl Tryd.underlying136 YtannaanbadaflaaDoorF.sz_5 YtannaanbadaflaaDoorF.zero_5 rfl rfl rfl) ?_
    rintro _ _ ⟨b36, rfl, rfl⟩
    refine ⟨_, .keep (by kernel_rfl) rfl (by first | exact QT_loadRj (v := .int .u32 (zOf t 15)) (i * 21 + 15) rfl rfl Tryd.underlying56 rfl (hrd.deep (by intro _ hw; first | exact hw | exact hw.app_right | exact hw.app_right.app_right | exact hw.tail | exact hw.tail.app_right | exact hw.tail.tail | exact hw.tail.tail.app_right | exact hw.tail.tail.tail | exact hw.tail.tail.tail.app_right | exact hw.tail.tail.tail.tail | exact hw.tail.tail.tail.tail.app_right | exact hw.tail.tail.tail.tail.tail | exact hw.tail.tail.tail.tail.tail.app_right | exact hw.tail.tail.tail.tail.tail.tail | exact hw.tail.tail.tail.tail.tail.tail.app_right)) rfl (fun _ => c1)) (.keep (by kernel_rfl) rfl (by first | exact QT_loadRj (v := .int .u32 (zOf t 8)) (i * 21 + 8) rfl rfl Tryd.underlying56 rfl (hrd.deep (by intro _ hw; first | exact hw | exact hw.app_right | exact hw.app_right.app_right | exact hw.tail | exact hw.tail.app_right | exact hw.tail.tail | exact hw.tail.tail.app_right | exact hw.tail.tail.tail | exact hw.tail.tail.tail.app_right | exact hw.tail.tail.tail.tail | exact hw.tail.tail.tail.tail.app_right | exact hw.tail.tail.tail.tail.tail | exact hw.tail.tail.tail.tail.tail.app_right | exact hw.tail.tail.tail.tail.tail.tail | exact hw.tail.tail.tail.tail.tail.tail.app_right)) rfl (fun _ => b1)) (.keep (by kernel_rfl) rfl (by first | exact QT_loadRj (v := .int .u32 (zOf t 1)) (i * 21 + 1) rfl rfl Tryd.underlying56 rfl (hrd.deep (by intro _ hw; first | exact hw | exact hw.app_right | exact hw.app_right.app_right | exact hw.tail | exact hw.tail.app_right | exact hw.tail.tail | exact hw.tail.tail.app_right | exact hw.tail.tail.tail | exact hw.tail.tail.tail.app_right | exact hw.tail.tail.tail.tail | exact hw.tail.tail.tail.tail.app_right | exact hw.tail.tail.tail.tail.tail | exact hw.tail.tail.tail.tail.tail.app_right | exact hw.tail.tail.tail.tail.tail.tail | exact hw.tail.tail.tail.tail.tail.tail.app_right)) rfl (fun _ => a1)) (.nil))), ?_⟩
    refine TV_ql rfl rfl rfl (QT_convBS (l := [u1, u2, u3]) rfl rfl Tryd.underlying136 Tryd.underlying5 Tryd.underlying9 rfl (fun _ => SlA.own (n := 3) 0 rfl rfl (Nat.le_refl _) (by omega))) ?_
    refine TV_q rfl rfl rfl (fun _ => QT_addStr rfl rfl rfl rfl (by simp only [List.length_cons, List.length_nil]; omega)) ?_
    refine TV_q rfl rfl rfl (fun _ => QT_addStr (l' := [32]) rfl rfl rfl rfl (by simp only [List.length_append, List.length_cons, List.length_nil]; omega)) ?_
    refine TV_q rfl rfl rfl (fun _ => QT_assign rfl rfl rfl) ?_
    refine TV_end ?_
    refine TX_block_normal ?_
    refine TX_then ?_
    refine TC_reg ?_
    refine TL_q rfl rfl (QT_move rfl rfl rfl) ?_
    refine TL_q rfl rfl (QT_add rfl rfl rfl rfl (fun _ => ⟨by omega, by omega⟩)) ?_
    refine TL_q rfl rfl (QT_assign rfl rfl rfl) ?_
    refine TL_nil ?_
    exact TX_round ⟨i + 1, by omega⟩ (by show ts.length - (i + 1) < ts.length - i; omega) ⟨rfl, by show _ = some (true, Value.string ⟨(lettersF (ts.take (i + 1))).toArray⟩); rw [hls]; rfl, rfl, trivial⟩ (fun _ h => h.tail)
  ·
    refine TC_exit ?_
    refine TX_then_exit ?_
    refine TX_then_exit ?_
    refine TX_block_here ?_
    refine TX_then ?_
    refine TC_seq ?_
    refine TC_reg ?_
    refine TL_q rfl rfl (QT_move rfl rfl rfl) ?_
    refine TL_q rfl rfl (QT_assign rfl rfl rfl) ?_
    refine TL_nil ?_
    refine TX_then ?_
    refine TC_ret ?_
    have hie : i = ts.length := by omega
    rw [hie, List.take_length]
    exact TX_ret (.inl rfl) (res1 rfl rfl) ⟨_, ⟨rfl, rfl⟩, fun _ h => h⟩
end Go.Proofs.YtannaanbadaflaaDoor

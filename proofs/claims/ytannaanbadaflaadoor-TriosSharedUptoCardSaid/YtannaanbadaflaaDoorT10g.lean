/- VERTICES OF A TEXT; letters of triangles; the chapter's answers. -/
import Derived.Test.YtannaanbadaflaaDoorT10f
import Derived.Test.YtannaanbadaflaaDoorN
namespace Go.Proofs.YtannaanbadaflaaDoor
open Go Go.Gx Go.RowKit
set_option maxRecDepth 100000

def chR (b : UInt8) : R := .int .u8 0 :: .int .u32 (b.toNat : Int) :: zs (recK.drop 2)
def setF (r : R) (v : Value) : R := match r with
  | _ :: t => v :: t
  | [] => []
def subU (b : UInt8) : Int := IntKind.u8.wrap ((b.toNat : Int) - 48)
def stepT (acc : List R) (b : UInt8) : List R :=
  if 97 ≤ b.toNat then acc ++ [chR b] else match acc.getLast? with
    | some r => acc.dropLast ++ [setF r (.int .u8 (subU b))]
    | none => acc
def toldF (s : List UInt8) : List R := s.foldl stepT []
theorem u8_lt (b : UInt8) : b.toNat < 256 := b.toNat_lt
theorem u32_wrap {z : Int} (h : 0 ≤ z ∧ z ≤ 4294967295) : IntKind.u32.wrap z = z := IntWalk.u32_in _ h
theorem chR_ints (b : UInt8) : Ints recK (chR b) := by
  have hb := u8_lt b
  have h1 : IntKind.u32.min = 0 := rfl
  have h2 : IntKind.u32.max = 4294967295 := rfl
  exact show Ints (.u8 :: .u32 :: recK.drop 2) (chR b) from .cons (by decide) (.cons (by simp only [Lit.wf, Bool.and_eq_true, decide_eq_true_eq]; omega) (zs_ints _))
theorem wrap8 (n : Int) : IntKind.u8.wrap n = n % 256 := by simp [IntKind.wrap, IntKind.bits, IntKind.signed]
theorem subU_wf (b : UInt8) : (Lit.int .u8 (subU b)).wf = true := by
  have h1 : IntKind.u8.min = 0 := rfl
  have h2 : IntKind.u8.max = 255 := rfl
  simp only [Lit.wf, Bool.and_eq_true, decide_eq_true_eq, subU, wrap8]
  omega
theorem setF_ints {r : R} {v : Int} (h : Ints recK r) (hw : (Lit.int .u8 v).wf = true) : Ints recK (setF r (.int .u8 v)) := by
  obtain ⟨z, cs, rfl, _, h2⟩ := (show Ints (.u8 :: recK.tail) r from h).inv
  exact .cons hw h2
theorem stepT_all {acc : List R} {b : UInt8} (h : All7 acc) : All7 (stepT acc b) := by
  unfold stepT
  split
  · intro r hr
    rcases List.mem_append.1 hr with hr | hr
    · exact h r hr
    · cases List.mem_singleton.1 hr; exact chR_ints b
  · split
    · rename_i r0 he
      intro r hr
      rcases List.mem_append.1 hr with hr | hr
      · exact h r (List.dropLast_subset _ hr)
      · cases List.mem_singleton.1 hr
        exact setF_ints (h _ (List.mem_of_getLast? he)) (subU_wf b)
    · exact h
theorem stepT_len (acc : List R) (b : UInt8) : (stepT acc b).length ≤ acc.length + 1 := by
  unfold stepT
  split
  · simp
  · split <;> simp
theorem toldF_succ {s : List UInt8} {i : Nat} {b : UInt8} (h : s[i]? = some b) : toldF (s.take (i + 1)) = stepT (toldF (s.take i)) b := by
  have hlt : i < s.length := by
    rcases Nat.lt_or_ge i s.length with h' | h'
    · exact h'
    · rw [List.getElem?_eq_none h'] at h; cases h
  rw [List.getElem?_eq_getElem hlt] at h
  rw [List.take_succ_eq_append_getElem hlt, Option.some.inj h, toldF, List.foldl_append]
  rfl
theorem toldF_all (s : List UInt8) : ∀ i, i ≤ s.length → All7 (toldF (s.take i)) ∧ (toldF (s.take i)).length ≤ i
  | 0, _ => ⟨fun r h => by simp [toldF] at h, by simp [toldF]⟩
  | i + 1, hi => by
    obtain ⟨h1, h2⟩ := toldF_all s i (by omega)
    rw [toldF_succ (List.getElem?_eq_getElem (show i < s.length by omega))]
    exact ⟨stepT_all h1, Nat.le_trans (stepT_len _ _) (by omega)⟩
theorem set_last {pre : List R} {r : R} {rest : List Value} {v : Value} (hp : ∀ t ∈ pre, t.length = 7) (hr : r.length = 7) : setAt ((pre ++ [r]).flatten ++ rest) (0 + ((pre ++ [r]).length - 1) * 7 + 0) [v] = (pre ++ [setF r v]).flatten ++ rest := by
  have hl := flat_len hp
  obtain ⟨x, t, rfl⟩ : ∃ x t, r = x :: t := by
    cases r with
    | nil => simp at hr
    | cons x t => exact ⟨x, t, rfl⟩
  have e : ((pre ++ [x :: t]).flatten ++ rest) = pre.flatten ++ (x :: (t ++ rest)) := by simp
  rw [e, show 0 + ((pre ++ [x :: t]).length - 1) * 7 + 0 = pre.flatten.length by rw [hl]; simp]
  simp [setAt, setF, List.set_append]
theorem told_spec (w0 : World) (η : Heap) (s : List UInt8) (hn : s.length ≤ 1000) :
    CallsT Tryd.prog 69 [.string ⟨s.toArray⟩] (St w0 η) fun v A' => ∃ H, Frag 63 7 v (toldF s).length (toldF s).flatten H ∧ A' = St w0 (H ++ η) := by
  refine CallsT.body Tryd.func69 rfl rfl ?_
  simp only [Tryd.ntmps69, slotsOf, Nat.reduceAdd]
  refine TC_seq ?_
  refine TC_reg ?_
  refine TL_q rfl rfl (QT_assign rfl rfl rfl) ?_
  refine TL_nil ?_
  refine TX_then ?_
  refine TC_seq ?_
  refine TC_reg ?_
  refine TL_q rfl rfl (QT_assign rfl rfl rfl) ?_
  refine TL_nil ?_
  refine TX_then ?_
  refine TC_seq ?_
  refine TC_seq ?_
  refine TC_reg ?_
  refine TL_q rfl rfl (QT_assign rfl rfl rfl) ?_
  refine TL_nil ?_
  refine TX_then ?_
  refine TC_block ?_
  refine TC_loop (γ := { t : Nat × Value × Heap // t.1 ≤ s.length ∧ Frag 63 7 t.2.1 (toldF (s.take t.1)).length (toldF (s.take t.1)).flatten t.2.2 }) (fun t => [(0, true, .string ⟨s.toArray⟩), (3, true, t.1.2.1), (4, true, .int .i64 (t.1.1 : Int))]) (fun t => St w0 (t.1.2.2 ++ η)) (fun t => s.length - t.1.1) ⟨(0, .slice none 0 0, []), Nat.zero_le _, Frag.nil _ _⟩ ⟨rfl, rfl, rfl, trivial⟩ (fun _ h => h) ?_
  rintro ⟨⟨i, fv, H⟩, hi, hfr⟩
  dsimp only at hi hfr ⊢
  refine TC_seq ?_
  refine TC_seq ?_
  refine TC_reg ?_
  refine TL_q rfl rfl (QT_move rfl rfl rfl) ?_
  refine TL_q rfl rfl (QT_move rfl rfl rfl) ?_
  refine TL_q rfl rfl (QT_lenStr rfl rfl Tryd.underlying9 rfl) ?_
  refine TL_q rfl rfl (QT_lss rfl rfl rfl rfl) ?_
  refine TL_nil ?_
  refine TX_then ?_
  first
    | refine TC_cond_dec rfl (fun h8 => ?_) (fun h8 => ?_)
    | refine TC_cond rfl (fun h8 => ?_) (fun h8 => ?_)
  ·
    refine TC_skip ?_
    refine TX_then ?_
    refine TC_cut (γ := { t : Value × Heap // Frag 63 7 t.1 (toldF (s.take (i + 1))).length (toldF (s.take (i + 1))).flatten t.2 }) (fun t => [(0, true, .string ⟨s.toArray⟩), (3, true, t.1.1), (4, true, .int .i64 (i : Int))]) (fun t => St w0 (t.1.2 ++ η)) ?_ ?_
    ·
      refine TC_block ?_
      refine TC_seq ?_
      have hi' : i < s.length := by omega
      obtain ⟨b, hb⟩ : ∃ b, s[i]? = some b := ⟨_, List.getElem?_eq_getElem hi'⟩
      have hts := toldF_succ hb
      obtain ⟨hall, hfew⟩ := toldF_all s i hi
      generalize toldF (s.take i) = acc at *
      have hb8 := u8_lt b
      have hch := chR_ints b
      obtain ⟨ad2, cap2, rfl, hcap2, hsl⟩ := hfr.slice
      refine TC_reg ?_
      refine TL_q rfl rfl (QT_move rfl rfl rfl) ?_
      refine TL_q rfl rfl (QT_move rfl rfl rfl) ?_
      refine TL_q rfl rfl (QT_indexStr (b := b) i rfl rfl Tryd.underlying9 rfl rfl rfl (fun _ => hb)) ?_
      refine TL_q rfl rfl (QT_geq rfl rfl rfl rfl) ?_
      refine TL_nil ?_
      refine TX_then ?_
      first
        | refine TC_cond_dec rfl (fun h14 => ?_) (fun h14 => ?_)
        | refine TC_cond rfl (fun h14 => ?_) (fun h14 => ?_)
      ·
        refine TC_reg ?_
        refine TL_q rfl rfl (QT_move rfl rfl rfl) ?_
        refine TL_q rfl rfl (QT_move rfl rfl rfl) ?_
        refine TL_q rfl rfl (QT_move rfl rfl rfl) ?_
        refine TL_q rfl rfl (QT_indexStr (b := b) i rfl rfl Tryd.underlying9 rfl rfl rfl (fun _ => hb)) ?_
        refine TL_q rfl rfl (QT_convN (q := (b.toNat : Int)) rfl rfl Tryd.underlying5 Tryd.underlying56 rfl (u32_wrap (by omega))) ?_
        refine TL_q rfl rfl (QT_build rfl rfl YtannaanbadaflaaDoorF.zero_58 YtannaanbadaflaaDoorF.pl_58 rfl rfl rfl) ?_
        refine TL_q rfl rfl (QT_build rfl rfl YtannaanbadaflaaDoorF.zero_63 YtannaanbadaflaaDoorF.pl_63 rfl rfl rfl) ?_
        refine TL_e rfl rfl rfl (rfl) (ET_buildN [_] rfl Tryd.underlying28 YtannaanbadaflaaDoorF.sz_63 YtannaanbadaflaaDoorF.zero_63 rfl rfl rfl (fun v hv => by cases List.mem_singleton.1 hv; rfl)) ?_
        rintro _ _ ⟨b22, rfl, rfl⟩
        refine TL_e rfl rfl rfl (rfl) (ET_appendL (L := [_]) rfl Tryd.underlying28 el_Rec rfl rfl hfr (fun _ h => h) (SlA.own (n := 1) (xs := chR b) 0 rfl rfl (Nat.le_refl _) (by omega)) hch.oneCell (by omega) (by omega)) ?_
        rintro fv2 _ ⟨H', hF', rfl⟩
        refine TL_q rfl rfl (QT_assign rfl rfl rfl) ?_
        refine TL_nil ?_
        refine TX_block_normal ?_
        exact TX_cut ⟨(fv2, H'), by rw [hts, stepT, if_pos (by omega), List.length_append, flatten_snoc]; exact hF'⟩ ⟨rfl, rfl, rfl, trivial⟩ (fun _ h => h.tail)
      ·
        refine TC_seq ?_
        refine TC_reg ?_
        refine TL_q rfl rfl (QT_move rfl rfl rfl) ?_
        refine TL_q rfl rfl (QT_len rfl rfl Tryd.underlying28 rfl) ?_
        refine TL_q rfl rfl (QT_gtr rfl rfl rfl rfl) ?_
        refine TL_nil ?_
        refine TX_then ?_
        first
          | refine TC_cond_dec rfl (fun h26 => ?_) (fun h26 => ?_)
          | refine TC_cond rfl (fun h26 => ?_) (fun h26 => ?_)
        ·
          obtain ⟨pre, r, rfl⟩ : ∃ pre r, acc = pre ++ [r] := by
            have hne : acc ≠ [] := by
              intro h
              rw [h] at h26
              simp at h26
            exact ⟨acc.dropLast, acc.getLast hne, (List.dropLast_concat_getLast hne).symm⟩
          have hpl : ∀ t ∈ pre, t.length = 7 := fun t ht => (hall t (List.mem_append_left _ ht)).length
          have hrl : r.length = 7 := (hall r (by simp)).length
          have hal : 0 < (pre ++ [r]).length := by simp
          obtain ⟨b2, rest, rfl, rfl⟩ := hsl hal
          have hsn : stepT (pre ++ [r]) b = pre ++ [setF r (.int .u8 (subU b))] := by
            rw [stepT, if_neg (by omega)]
            simp
          have hcl : ((pre ++ [r]).flatten ++ rest).length = pre.length * 7 + (7 + rest.length) := by
            simp [flat_len hpl, hrl]
          have hpn : (pre ++ [r]).length - 1 = pre.length := by simp
          refine TC_reg ?_
          refine TL_q rfl rfl (QT_move rfl rfl rfl) ?_
          refine TL_q rfl rfl (QT_move rfl rfl rfl) ?_
          refine TL_q rfl rfl (QT_len rfl rfl Tryd.underlying28 rfl) ?_
          refine TL_q rfl rfl (QT_sub rfl rfl rfl rfl (fun _ => ⟨by omega, by omega⟩)) ?_
          refine TL_q rfl rfl (QT_move rfl rfl rfl) ?_
          refine TL_q rfl rfl (QT_move rfl rfl rfl) ?_
          refine TL_q rfl rfl (QT_indexStr (b := b) i rfl rfl Tryd.underlying9 rfl rfl rfl (fun _ => hb)) ?_
          refine TL_q rfl rfl (QT_subw rfl rfl rfl rfl) ?_
          refine TL_q rfl rfl (QT_indexG ((pre ++ [r]).length - 1) rfl rfl Tryd.underlying28 YtannaanbadaflaaDoorF.sz_63 rfl rfl (by omega) (fun _ => by omega) (fun _ => rfl)) ?_
          refine TL_q rfl rfl (QT_field rfl rfl YtannaanbadaflaaDoorF.fld_63_0 rfl) ?_
          refine TL_e0 rfl rfl (rfl) (ET_store (vs := [.int .u8 (subU b)]) 0 rfl rfl rfl rfl YtannaanbadaflaaDoorF.sz_5 rfl rfl (Nat.ble_eq_true_of_le (by rw [hcl, hpn]; show 0 + pre.length * 7 + 0 + 1 ≤ _; omega))) ?_
          rintro _ _ ⟨rfl, rfl⟩
          refine TL_nil ?_
          refine TX_block_normal ?_
          exact TX_cut ⟨(_, [(b2, 63, (pre ++ [setF r (.int .u8 (subU b))]).flatten ++ rest)]), by
            rw [hts, hsn]
            obtain ⟨h1, h2⟩ := hfr
            rcases h2 with ⟨h2, _, _⟩ | ⟨b3, cap3, rest3, h3, hc3, hl3, h4⟩
            · cases h2
            · cases h3
              have hl2 : ((pre ++ [setF r (.int .u8 (subU b))]).flatten ++ rest).length = ((pre ++ [r]).flatten ++ rest).length := by
                rw [← set_last hpl hrl, setAt_length]
              obtain ⟨_, h5⟩ := List.cons.inj h4
              obtain h6 := (Prod.mk.inj (Prod.mk.inj (List.cons.inj h4).1).2).2
              have h7 := List.append_cancel_left h6
              subst h7
              refine ⟨?_, .inr ⟨b2, cap2, rest, ?_, ?_, ?_, rfl⟩⟩
              · rw [← hsn]
                exact flat_len (stepT_all hall).len
              · congr 1; simp
              · simp only [List.length_append, List.length_singleton] at hc3 ⊢; exact hc3
              · rw [hl2]; exact hl3⟩ ⟨rfl, rfl, rfl, trivial⟩ (fun w h => by
            show St w0 ((b2, 63, (pre ++ [setF r (.int .u8 (subU b))]).flatten ++ rest) :: η) w
            rw [← set_last hpl hrl]; exact h)
        ·
          refine TC_skip ?_
          refine TX_block_normal ?_
          exact TX_cut ⟨(_, H), by
            have : acc = [] := by
              cases acc with
              | nil => rfl
              | cons x v => simp at h26
            subst this
            rw [hts, stepT, if_neg (by omega)]
            exact hfr⟩ ⟨rfl, rfl, rfl, trivial⟩ (fun _ h => h)
    rintro ⟨⟨fv2, H2⟩, hF2⟩
    dsimp only at hF2 ⊢
    refine TC_reg ?_
    refine TL_q rfl rfl (QT_move rfl rfl rfl) ?_
    refine TL_q rfl rfl (QT_add rfl rfl rfl rfl (fun _ => ⟨by omega, by omega⟩)) ?_
    refine TL_q rfl rfl (QT_assign rfl rfl rfl) ?_
    refine TL_nil ?_
    exact TX_round ⟨(i + 1, fv2, H2), by show i + 1 ≤ s.length; omega, hF2⟩ (by show s.length - (i + 1) < s.length - i; omega) ⟨rfl, rfl, rfl, trivial⟩ (fun _ h => h)
  ·
    refine TC_exit ?_
    refine TX_then_exit ?_
    refine TX_then_exit ?_
    refine TX_block_here ?_
    refine TX_then ?_
    refine TC_seq ?_
    refine TC_reg ?_
    refine TL_q rfl rfl (QT_move rfl rfl rfl) ?_
    refine TL_q rfl rfl (QT_assign rfl rfl rfl) ?_
    refine TL_nil ?_
    refine TX_then ?_
    refine TC_ret ?_
    have hie : i = s.length := by omega
    rw [hie, List.take_length] at hfr
    exact TX_ret (.inl rfl) (res1 rfl rfl) ⟨_, ⟨H, hfr, rfl⟩, fun _ h => h⟩
end Go.Proofs.YtannaanbadaflaaDoor

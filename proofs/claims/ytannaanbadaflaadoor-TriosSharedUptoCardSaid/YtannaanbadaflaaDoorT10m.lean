/- THE FIRST ERROR FROM THE LEFT. -/
import Derived.Test.YtannaanbadaflaaDoorT10l
namespace Go.Proofs.YtannaanbadaflaaDoor
open Go Go.Gx Go.RowKit
set_option maxRecDepth 100000

/-- the first k vertices leave the last triangle a b c, and these answers; on from there -/
def Kst (rs : List R) (k : Nat) (a b c : R) (out : List R) : Prop := ∀ qs g, k + qs.length < g → ∃ g', qs.length < g' ∧ stripF g (rs.take k ++ qs) zR zR zR [] = stripF g' qs a b c out
theorem Kst.zero (rs : List R) : Kst rs 0 zR zR zR [] := fun qs g h => ⟨g, by omega, rfl⟩
theorem Kst.here {rs : List R} {k : Nat} {a b c : R} {out : List R} (h : Kst rs k a b c out) : stripF (k + 1) (rs.take k) zR zR zR [] = (out, 0) := by
  obtain ⟨g', _, e⟩ := h [] (k + 1) (by simp)
  rw [List.append_nil] at e
  rw [e]
  exact strips_nil
theorem Kst.rest {rs : List R} {k : Nat} {a b c : R} {out : List R} (h : Kst rs k a b c out) (hk : k ≤ rs.length) : ∃ g', (rs.drop k).length < g' ∧ strips rs = stripF g' (rs.drop k) a b c out := by
  obtain ⟨g', hg, e⟩ := h (rs.drop k) (rs.length + 1) (by rw [List.length_drop]; omega)
  rw [List.take_append_drop] at e
  exact ⟨g', hg, e⟩
theorem take_at7 {rs : List R} {k : Nat} (h : k < rs.length) : rs.take (k + 1) = rs.take k ++ [at7 rs k] := by
  rw [List.take_succ_eq_append_getElem h]
  have := at7_some h
  rw [List.getElem?_eq_getElem h] at this
  rw [Option.some.inj this]
theorem Kst.one {rs : List R} {k : Nat} {a b c : R} {out : List R} (h : Kst rs k a b c out) (hk : k < rs.length) (h1 : flagR (at7 rs k) = 1) : Kst rs (k + 1) b c (at7 rs k) (out ++ [B3 b c (at7 rs k)]) := by
  intro qs g hg
  obtain ⟨g', hg', e⟩ := h (at7 rs k :: qs) g (by simp only [List.length_cons]; omega)
  simp only [List.length_cons] at hg'
  obtain ⟨g', rfl⟩ : ∃ g0, g' = g0 + 1 := ⟨g' - 1, by omega⟩
  exact ⟨g', by omega, by rw [take_at7 hk, List.append_assoc, List.singleton_append, e, strip_one h1]⟩
theorem Kst.two {rs : List R} {k : Nat} {a b c : R} {out : List R} (h : Kst rs k a b c out) (hk : k < rs.length) (h1 : flagR (at7 rs k) = 2) : Kst rs (k + 1) a c (at7 rs k) (out ++ [B3 a c (at7 rs k)]) := by
  intro qs g hg
  obtain ⟨g', hg', e⟩ := h (at7 rs k :: qs) g (by simp only [List.length_cons]; omega)
  simp only [List.length_cons] at hg'
  obtain ⟨g', rfl⟩ : ∃ g0, g' = g0 + 1 := ⟨g' - 1, by omega⟩
  exact ⟨g', by omega, by rw [take_at7 hk, List.append_assoc, List.singleton_append, e, strip_two h1]⟩
theorem Kst.new {rs : List R} {k : Nat} {a b c : R} {out : List R} (h : Kst rs k a b c out) (hk : k + 2 < rs.length) (h0 : flagR (at7 rs k) = 0) : Kst rs (k + 3) (at7 rs k) (at7 rs (k + 1)) (at7 rs (k + 2)) (out ++ [B3 (at7 rs k) (at7 rs (k + 1)) (at7 rs (k + 2))]) := by
  intro qs g hg
  obtain ⟨g', hg', e⟩ := h (at7 rs k :: at7 rs (k + 1) :: at7 rs (k + 2) :: qs) g (by simp only [List.length_cons]; omega)
  simp only [List.length_cons] at hg'
  obtain ⟨g', rfl⟩ : ∃ g0, g' = g0 + 1 := ⟨g' - 1, by omega⟩
  exact ⟨g', by omega, by rw [take_at7 (show k + 2 < rs.length by omega), take_at7 (show k + 1 < rs.length by omega), take_at7 (show k < rs.length by omega)]; simp only [List.append_assoc, List.singleton_append, List.cons_append, List.nil_append]; rw [e, strip_long h0]⟩
theorem front_take {A : World → Prop} {ad : Option Addr} {cap k : Nat} {rs : List R} (ha : All7 rs) (h : SlA A (.slice ad rs.length cap) 7 rs.length rs.flatten) (hk : k ≤ rs.length) : SlA A (.slice ad k cap) 7 (rs.take k).length (rs.take k).flatten := by
  have h1 := h.front hk
  have hl : (rs.take k).length = k := by rw [List.length_take]; omega
  have h2 : rs.flatten.take (k * 7) = (rs.take k).flatten := by
    have := flat_take (s := 7) (us := rs.take k) (bs := rs.drop k) fun r hr => (ha r (List.mem_of_mem_take hr)).length
    rw [List.take_append_drop, hl] at this
    exact this
  rw [h2] at h1
  rw [hl]; exact h1
theorem All7.take {rs : List R} (h : All7 rs) (k : Nat) : All7 (rs.take k) := fun r hr => h r (List.mem_of_mem_take hr)
theorem head0 {rs : List R} (h0 : 0 < rs.length) (hf : flagR (at7 rs 0) = 0) : ¬headBad rs := by
  cases rs with
  | nil => simp at h0
  | cons x v => exact fun h => h hf
theorem headF {rs : List R} (h0 : 0 < rs.length) (hf : flagR (at7 rs 0) ≠ 0) : headBad rs := by
  cases rs with
  | nil => simp at h0
  | cons x v => exact hf
theorem not_headBad_take {rs : List R} (h : ¬headBad rs) (k : Nat) : ¬headBad (rs.take k) := by
  cases rs with
  | nil => simpa using h
  | cons x v => cases k with
    | zero => exact id
    | succ k => exact h
/-- where the walk ends -/
def Tail (rs : List R) (k : Nat) : Prop := k = rs.length ∨ k < rs.length ∧ (2 < flagR (at7 rs k) ∨ flagR (at7 rs k) = 0 ∧ rs.length ≤ k + 2)
theorem Kst.bad {rs : List R} {k : Nat} {a b c : R} {out : List R} (h : Kst rs k a b c out) (hk : k < rs.length) : (2 < flagR (at7 rs k) → strips rs = ([], 7)) ∧ (flagR (at7 rs k) = 0 → rs.length ≤ k + 2 → strips rs = ([], 5)) := by
  obtain ⟨g', hg, e⟩ := h.rest (by omega)
  rw [drop_at7 hk] at e hg
  simp only [List.length_cons] at hg
  obtain ⟨g', rfl⟩ : ∃ g0, g' = g0 + 1 := ⟨g' - 1, by omega⟩
  exact ⟨fun h2 => by rw [e, strip_bad (by omega) (by omega) (by omega)], fun h0 h2 => by rw [e, strip_short h0 (by rw [List.length_drop]; omega)]⟩
set_option maxHeartbeats 1000000 in
theorem law_triosRefused (w0 : World) (η : Heap) (hG : Sets w0) (L0 : Lay) (sv : Value) (rs : List R) (hs : SlA (St w0 η) sv 7 rs.length rs.flatten) (ha : All7 rs) :
    CallsT Tryd.prog 7 [L0.val, sv] (St w0 η) fun v A' => v = .bool true ∧ A' = St w0 η := by
  have hs0 := hs
  obtain ⟨_, ad, cap, sb, so, rfl, hcap, had, hrd⟩ := hs.some
  obtain ⟨L, hL⟩ : ∃ L : Lay, L = { L0 with ty := 4 } := ⟨_, rfl⟩
  have h4 : L.ty = 4 := by rw [hL]
  obtain ⟨A, hA⟩ : ∃ A, A = trioF L rs := ⟨_, rfl⟩
  have hA2 := trio_ints (L := L) ha
  have hof1 := fun (X : Heap) (v : Value) (h : SlA (St w0 X) v 7 rs.length rs.flatten) (hn : rs.length * 120 ≤ 140737488355328) => of_spec w0 X hG L v rs h ha hn
  rw [← hA] at hA2 hof1
  refine CallsT.body Tryd.func7 rfl rfl ?_
  simp only [Tryd.ntmps7, slotsOf, Nat.reduceAdd]
  refine TC_seq ?_
  refine TC_reg ?_
  refine TL_e rfl rfl rfl (rfl) (ET_box rfl rfl) ?_
  rintro _ _ ⟨b2, rfl, rfl⟩
  refine TL_q rfl rfl (QT_assign rfl rfl rfl) ?_
  refine TL_nil ?_
  refine TX_then ?_
  refine TC_seq ?_
  refine TC_reg ?_
  refine TL_q rfl rfl (QT_field rfl rfl YtannaanbadaflaaDoorF.fld_27_0 rfl) ?_
  first
    | refine TL_e0 rfl rfl (rfl) (ET_store 0 rfl rfl rfl rfl YtannaanbadaflaaDoorF.sz_3 rfl rfl rfl) ?_
    | refine TL_e0 rfl rfl (rfl) (ET_store 1 rfl rfl rfl rfl YtannaanbadaflaaDoorF.sz_3 rfl rfl rfl) ?_
    | refine TL_e0 rfl rfl (rfl) (ET_store 2 rfl rfl rfl rfl YtannaanbadaflaaDoorF.sz_3 rfl rfl rfl) ?_
  rintro _ _ ⟨rfl, rfl⟩
  refine TL_nil ?_
  refine TX_then ?_
  refine TC_seq ?_
  refine TC_seq ?_
  refine TC_A (St w0 ((b2, 27, L.cells) :: η)) (fun w h => by rw [hL]; exact h) ?_
  refine TC_reg ?_
  refine TL_q rfl rfl (QT_move rfl rfl rfl) ?_
  refine TL_q rfl rfl (QT_len rfl rfl Tryd.underlying28 rfl) ?_
  refine TL_q rfl rfl (QT_gtr rfl rfl rfl rfl) ?_
  refine TL_q rfl rfl (QT_move rfl rfl rfl) ?_
  first
    | refine TL_q rfl rfl (QT_loadW 0 rfl rfl Tryd.underlying27 rfl rfl rfl YtannaanbadaflaaDoorF.sz_27) ?_
    | refine TL_q rfl rfl (QT_loadW 1 rfl rfl Tryd.underlying27 rfl rfl rfl YtannaanbadaflaaDoorF.sz_27) ?_
    | refine TL_q rfl rfl (QT_loadW 2 rfl rfl Tryd.underlying27 rfl rfl rfl YtannaanbadaflaaDoorF.sz_27) ?_
    | refine TL_q rfl rfl (QT_loadA 0 rfl rfl Tryd.underlying27 rfl rfl rfl YtannaanbadaflaaDoorF.sz_27 (fun _ => rfl)) ?_
    | refine TL_q rfl rfl (QT_loadA 1 rfl rfl Tryd.underlying27 rfl rfl rfl YtannaanbadaflaaDoorF.sz_27 (fun _ => rfl)) ?_
    | refine TL_q rfl rfl (QT_loadA 2 rfl rfl Tryd.underlying27 rfl rfl rfl YtannaanbadaflaaDoorF.sz_27 (fun _ => rfl)) ?_
  refine TL_cq rfl rfl rfl rfl YtannaanbadaflaaDoorF.cal_17 rfl (fun _ => check_spec w0 _ hG L) ?_
  refine TL_q rfl rfl (QT_neq rfl rfl rfl rfl) ?_
  refine TL_q rfl rfl (QT_or rfl rfl rfl rfl) ?_
  refine TL_nil ?_
  refine TX_then ?_
  first
    | refine TC_cond_dec rfl (fun h18 => ?_) (fun h18 => ?_)
    | refine TC_cond rfl (fun h18 => ?_) (fun h18 => ?_)
  ·
    refine TC_seq ?_
    refine TC_reg ?_
    refine TL_cq rfl rfl rfl rfl YtannaanbadaflaaDoorF.cal_8 rfl (fun _ => lives10 w0 _ hG) ?_
    refine TL_q rfl rfl (QT_assign rfl rfl rfl) ?_
    refine TL_nil ?_
    refine TX_then ?_
    refine TC_ret ?_
    refine TX_then_ret ?_
    exact TX_ret (.inl rfl) (res1 rfl rfl) ⟨_, ⟨rfl, rfl⟩, (fun _ h => by first | exact h | exact h.tail | exact h.tail.tail | exact h.tail.tail.tail | exact h.tail.tail.tail.tail | exact h.tail.tail.tail.tail.tail | exact h.tail.tail.tail.tail.tail.tail | exact h.tail.tail.tail.tail.tail.tail.tail | exact h.tail.tail.tail.tail.tail.tail.tail.tail | exact h.tail.tail.tail.tail.tail.tail.tail.tail.tail | exact h.tail.tail.tail.tail.tail.tail.tail.tail.tail.tail | exact h.tail.tail.tail.tail.tail.tail.tail.tail.tail.tail.tail | exact h.tail.tail.tail.tail.tail.tail.tail.tail.tail.tail.tail.tail | exact h.tail.tail.tail.tail.tail.tail.tail.tail.tail.tail.tail.tail.tail)⟩
  ·
    refine TC_skip ?_
    refine TX_then ?_
    refine TC_seq ?_
    simp only [Bool.or_eq_false_iff, decide_eq_false_iff_not] at h18
    have hn : rs.length ≤ 300 := by omega
    have hk := ok_of h18.2
    refine TC_reg ?_
    first
      | refine TL_q rfl rfl (QT_loadW 0 rfl rfl Tryd.underlying27 rfl rfl rfl YtannaanbadaflaaDoorF.sz_27) ?_
      | refine TL_q rfl rfl (QT_loadW 1 rfl rfl Tryd.underlying27 rfl rfl rfl YtannaanbadaflaaDoorF.sz_27) ?_
      | refine TL_q rfl rfl (QT_loadW 2 rfl rfl Tryd.underlying27 rfl rfl rfl YtannaanbadaflaaDoorF.sz_27) ?_
      | refine TL_q rfl rfl (QT_loadA 0 rfl rfl Tryd.underlying27 rfl rfl rfl YtannaanbadaflaaDoorF.sz_27 (fun _ => rfl)) ?_
      | refine TL_q rfl rfl (QT_loadA 1 rfl rfl Tryd.underlying27 rfl rfl rfl YtannaanbadaflaaDoorF.sz_27 (fun _ => rfl)) ?_
      | refine TL_q rfl rfl (QT_loadA 2 rfl rfl Tryd.underlying27 rfl rfl rfl YtannaanbadaflaaDoorF.sz_27 (fun _ => rfl)) ?_
    refine TL_q rfl rfl (QT_move rfl rfl rfl) ?_
    refine TL_e rfl rfl rfl (rfl) (ET_call rfl YtannaanbadaflaaDoorF.cal_10 rfl (hof1 _ _ hs0.tail (by omega))) ?_
    rintro _ _ ⟨pv, H1, rfl, hF1, X1, rfl⟩
    refine TL_q rfl rfl (QT_move rfl rfl rfl) ?_
    refine TL_q rfl rfl (QT_extract rfl rfl rfl rfl) ?_
    refine TL_q rfl rfl (QT_extract rfl rfl rfl rfl) ?_
    refine TL_q rfl rfl (QT_assign rfl rfl rfl) ?_
    refine TL_q rfl rfl (QT_assign rfl rfl rfl) ?_
    refine TL_nil ?_
    refine TX_then ?_
    refine TC_seq ?_
    refine TC_seq ?_
    refine TC_A (St w0 ((b2, 27, L.cells) :: (H1 ++ η))) (fun w h => (show St w0 (H1 ++ (X1 ++ ((b2, 27, L.cells) :: η))) w from h).cnt fun p => by simp only [List.countP_append, List.countP_cons]; omega) ?_
    obtain ⟨pad, pcap, rfl, hpc, _⟩ := hF1.slice
    refine TC_reg ?_
    refine TL_q rfl rfl (QT_move rfl rfl rfl) ?_
    refine TL_q rfl rfl (QT_len rfl rfl Tryd.underlying28 rfl) ?_
    refine TL_q rfl rfl (QT_eql rfl rfl rfl rfl) ?_
    refine TL_q rfl rfl (QT_move rfl rfl rfl) ?_
    refine TL_q rfl rfl (QT_move rfl rfl rfl) ?_
    refine TL_q rfl rfl (QT_indexG 0 rfl rfl Tryd.underlying28 YtannaanbadaflaaDoorF.sz_63 rfl rfl rfl (fun h => by ((try simp only [Bool.not_eq_true', Bool.not_eq_eq_eq_not, Bool.not_true, Bool.and_eq_true, Bool.or_eq_false_iff, Bool.or_eq_true, Bool.and_eq_false_iff, decide_eq_true_eq, decide_eq_false_iff_not, Bool.true_eq, Bool.true_and, Bool.and_true] at h); omega)) (fun h => had (by ((try simp only [Bool.not_eq_true', Bool.not_eq_eq_eq_not, Bool.not_true, Bool.and_eq_true, Bool.or_eq_false_iff, Bool.or_eq_true, Bool.and_eq_false_iff, decide_eq_true_eq, decide_eq_false_iff_not, Bool.true_eq, Bool.true_and, Bool.and_true] at h); omega)))) ?_
    refine TL_q rfl rfl (QT_field rfl rfl YtannaanbadaflaaDoorF.fld_63_0 rfl) ?_
    refine TL_q rfl rfl (QT_loadRj (v := .int .u8 (flagR (at7 rs 0) : Int)) (0 * 7) rfl rfl Tryd.underlying5 rfl (hrd.deep (by intro _ hw; first | exact hw | exact hw.app_right | exact hw.app_right.app_right | exact hw.tail | exact hw.tail.app_right | exact hw.tail.tail | exact hw.tail.tail.app_right | exact hw.tail.tail.tail | exact hw.tail.tail.tail.app_right | exact hw.tail.tail.tail.tail | exact hw.tail.tail.tail.tail.app_right | exact hw.tail.tail.tail.tail.tail | exact hw.tail.tail.tail.tail.tail.app_right | exact hw.tail.tail.tail.tail.tail.tail | exact hw.tail.tail.tail.tail.tail.tail.app_right)) rfl (fun h => head_flag ha (by ((try simp only [Bool.not_eq_true', Bool.not_eq_eq_eq_not, Bool.not_true, Bool.and_eq_true, Bool.or_eq_false_iff, Bool.or_eq_true, Bool.and_eq_false_iff, decide_eq_true_eq, decide_eq_false_iff_not, Bool.true_eq, Bool.true_and, Bool.and_true] at h); omega)))) ?_
    refine TL_q rfl rfl (QT_neq rfl rfl rfl rfl) ?_
    refine TL_q rfl rfl (QT_or rfl rfl rfl rfl) ?_
    refine TL_nil ?_
    refine TX_then ?_
    first
      | refine TC_cond_dec rfl (fun h35 => ?_) (fun h35 => ?_)
      | refine TC_cond rfl (fun h35 => ?_) (fun h35 => ?_)
    ·
      refine TC_seq ?_
      refine TC_reg ?_
      refine TL_q rfl rfl (QT_move rfl rfl rfl) ?_
      refine TL_q rfl rfl (QT_len rfl rfl Tryd.underlying28 rfl) ?_
      refine TL_q rfl rfl (QT_eql rfl rfl rfl rfl) ?_
      refine TL_q rfl rfl (QT_move rfl rfl rfl) ?_
      refine TL_q rfl rfl (QT_move rfl rfl rfl) ?_
      refine TL_q rfl rfl (QT_eql rfl rfl rfl rfl) ?_
      refine TL_q rfl rfl (QT_and rfl rfl rfl rfl) ?_
      refine TL_q rfl rfl (QT_move rfl rfl rfl) ?_
      refine TL_q rfl rfl (QT_move rfl rfl rfl) ?_
      refine TL_q rfl rfl (QT_len rfl rfl Tryd.underlying28 rfl) ?_
      refine TL_q rfl rfl (QT_gtr rfl rfl rfl rfl) ?_
      refine TL_q rfl rfl (QT_move rfl rfl rfl) ?_
      refine TL_q rfl rfl (QT_move rfl rfl rfl) ?_
      refine TL_q rfl rfl (QT_eql rfl rfl rfl rfl) ?_
      refine TL_q rfl rfl (QT_and rfl rfl rfl rfl) ?_
      refine TL_q rfl rfl (QT_or rfl rfl rfl rfl) ?_
      refine TL_q rfl rfl (QT_move rfl rfl rfl) ?_
      refine TL_q rfl rfl (QT_move rfl rfl rfl) ?_
      refine TL_q rfl rfl (QT_len rfl rfl Tryd.underlying31 rfl) ?_
      refine TL_q rfl rfl (QT_eql rfl rfl rfl rfl) ?_
      refine TL_q rfl rfl (QT_and rfl rfl rfl rfl) ?_
      refine TL_q rfl rfl (QT_move rfl rfl rfl) ?_
      refine TL_cq rfl rfl rfl rfl YtannaanbadaflaaDoorF.cal_8 rfl (fun _ => lives10 w0 _ hG) ?_
      refine TL_q rfl rfl (QT_and rfl rfl rfl rfl) ?_
      refine TL_q rfl rfl (QT_assign rfl rfl rfl) ?_
      refine TL_nil ?_
      refine TX_then ?_
      refine TC_ret ?_
      refine TX_then_ret ?_
      have hx : (rs.length = 0 ∧ A = ([], 0)) ∨ (0 < rs.length ∧ A = ([], 6)) := by
        simp only [Bool.or_eq_true, decide_eq_true_eq] at h35
        rcases Nat.eq_zero_or_pos rs.length with h | h
        · have : rs = [] := List.eq_nil_of_length_eq_zero h
          subst this
          exact .inl ⟨rfl, by rw [hA, trioS hk h4 id]; rfl⟩
        · have hf : flagR (at7 rs 0) ≠ 0 := by omega
          exact .inr ⟨h, by rw [hA, trio6 hk h4 (headF h hf)]⟩
      exact TX_ret (.inl rfl) (res1 rfl rfl) ⟨_, ⟨congrArg Value.bool (by
        rcases hx with ⟨h1, h2⟩ | ⟨h1, h2⟩
        · rw [h2, h1]; rfl
        · have e : decide ((rs.length : Int) = 0) = false := decide_eq_false (by omega)
          have e2 : decide ((0 : Int) < (rs.length : Int)) = true := decide_eq_true (by omega)
          rw [h2, e, e2]; rfl), rfl⟩, fun _ h => h.tail.app_right⟩
    ·
      refine TC_skip ?_
      refine TX_then ?_
      refine TC_seq ?_
      simp only [Bool.or_eq_false_iff, decide_eq_false_iff_not] at h35
      have hn0 : 0 < rs.length := by omega
      have hnb : ¬headBad rs := head0 hn0 (by omega)
      have hAe : A = strips rs := by rw [hA, trioS hk h4 hnb]
      refine TC_reg ?_
      refine TL_q rfl rfl (QT_assign rfl rfl rfl) ?_
      refine TL_nil ?_
      refine TX_then ?_
      refine TC_seq ?_
      refine TC_block ?_
      refine TC_loop (γ := { k : Nat // k ≤ rs.length ∧ ∃ a b c out, Kst rs k a b c out }) (fun t => [(1, true, .slice ad rs.length cap), (2, true, .pointer (some ⟨b2, 0, none⟩)), (5, true, .slice pad A.1.length pcap), (6, true, .int .i64 A.2), (7, true, .int .i64 (t.1 : Int))]) (fun t => St w0 ((b2, 27, L.cells) :: (H1 ++ η))) (fun t => rs.length - t.1) ⟨0, Nat.zero_le _, _, _, _, _, Kst.zero rs⟩ ⟨rfl, rfl, rfl, rfl, rfl, trivial⟩ (fun _ h => h) ?_
      rintro ⟨k, hkl, a, b, c, out, hK⟩
      dsimp only
      refine TC_seq ?_
      refine TC_seq ?_
      refine TC_reg ?_
      refine TL_q rfl rfl (QT_move rfl rfl rfl) ?_
      refine TL_q rfl rfl (QT_move rfl rfl rfl) ?_
      refine TL_q rfl rfl (QT_len rfl rfl Tryd.underlying28 rfl) ?_
      refine TL_q rfl rfl (QT_lss rfl rfl rfl rfl) ?_
      refine TL_q rfl rfl (QT_move rfl rfl rfl) ?_
      refine TL_q rfl rfl (QT_move rfl rfl rfl) ?_
      refine TL_q rfl rfl (QT_move rfl rfl rfl) ?_
      refine TL_q rfl rfl (QT_indexG k rfl rfl Tryd.underlying28 YtannaanbadaflaaDoorF.sz_63 rfl rfl rfl (fun h => by ((try simp only [Bool.not_eq_true', Bool.not_eq_eq_eq_not, Bool.not_true, Bool.and_eq_true, Bool.or_eq_false_iff, Bool.or_eq_true, Bool.and_eq_false_iff, decide_eq_true_eq, decide_eq_false_iff_not, Bool.true_eq, Bool.true_and, Bool.and_true] at h); omega)) (fun h => had (by ((try simp only [Bool.not_eq_true', Bool.not_eq_eq_eq_not, Bool.not_true, Bool.and_eq_true, Bool.or_eq_false_iff, Bool.or_eq_true, Bool.and_eq_false_iff, decide_eq_true_eq, decide_eq_false_iff_not, Bool.true_eq, Bool.true_and, Bool.and_true] at h); omega)))) ?_
      refine TL_q rfl rfl (QT_field rfl rfl YtannaanbadaflaaDoorF.fld_63_0 rfl) ?_
      refine TL_q rfl rfl (QT_loadRj (v := .int .u8 (flagR (at7 rs k) : Int)) (k * 7) rfl rfl Tryd.underlying5 rfl (hrd.deep (by intro _ hw; first | exact hw | exact hw.app_right | exact hw.app_right.app_right | exact hw.tail | exact hw.tail.app_right | exact hw.tail.tail | exact hw.tail.tail.app_right | exact hw.tail.tail.tail | exact hw.tail.tail.tail.app_right | exact hw.tail.tail.tail.tail | exact hw.tail.tail.tail.tail.app_right | exact hw.tail.tail.tail.tail.tail | exact hw.tail.tail.tail.tail.tail.app_right | exact hw.tail.tail.tail.tail.tail.tail | exact hw.tail.tail.tail.tail.tail.tail.app_right)) rfl (fun h => rec_flag ha (by ((try simp only [Bool.not_eq_true', Bool.not_eq_eq_eq_not, Bool.not_true, Bool.and_eq_true, Bool.or_eq_false_iff, Bool.or_eq_true, Bool.and_eq_false_iff, decide_eq_true_eq, decide_eq_false_iff_not, Bool.true_eq, Bool.true_and, Bool.and_true] at h); omega)))) ?_
      refine TL_q rfl rfl (QT_leq rfl rfl rfl rfl) ?_
      refine TL_q rfl rfl (QT_and rfl rfl rfl rfl) ?_
      refine TL_q rfl rfl (QT_move rfl rfl rfl) ?_
      refine TL_q rfl rfl (QT_move rfl rfl rfl) ?_
      refine TL_q rfl rfl (QT_move rfl rfl rfl) ?_
      refine TL_q rfl rfl (QT_indexG k rfl rfl Tryd.underlying28 YtannaanbadaflaaDoorF.sz_63 rfl rfl rfl (fun h => by ((try simp only [Bool.not_eq_true', Bool.not_eq_eq_eq_not, Bool.not_true, Bool.and_eq_true, Bool.or_eq_false_iff, Bool.or_eq_true, Bool.and_eq_false_iff, decide_eq_true_eq, decide_eq_false_iff_not, Bool.true_eq, Bool.true_and, Bool.and_true] at h); omega)) (fun h => had (by ((try simp only [Bool.not_eq_true', Bool.not_eq_eq_eq_not, Bool.not_true, Bool.and_eq_true, Bool.or_eq_false_iff, Bool.or_eq_true, Bool.and_eq_false_iff, decide_eq_true_eq, decide_eq_false_iff_not, Bool.true_eq, Bool.true_and, Bool.and_true] at h); omega)))) ?_
      refine TL_q rfl rfl (QT_field rfl rfl YtannaanbadaflaaDoorF.fld_63_0 rfl) ?_
      refine TL_q rfl rfl (QT_loadRj (v := .int .u8 (flagR (at7 rs k) : Int)) (k * 7) rfl rfl Tryd.underlying5 rfl (hrd.deep (by intro _ hw; first | exact hw | exact hw.app_right | exact hw.app_right.app_right | exact hw.tail | exact hw.tail.app_right | exact hw.tail.tail | exact hw.tail.tail.app_right | exact hw.tail.tail.tail | exact hw.tail.tail.tail.app_right | exact hw.tail.tail.tail.tail | exact hw.tail.tail.tail.tail.app_right | exact hw.tail.tail.tail.tail.tail | exact hw.tail.tail.tail.tail.tail.app_right | exact hw.tail.tail.tail.tail.tail.tail | exact hw.tail.tail.tail.tail.tail.tail.app_right)) rfl (fun h => rec_flag ha (by ((try simp only [Bool.not_eq_true', Bool.not_eq_eq_eq_not, Bool.not_true, Bool.and_eq_true, Bool.or_eq_false_iff, Bool.or_eq_true, Bool.and_eq_false_iff, decide_eq_true_eq, decide_eq_false_iff_not, Bool.true_eq, Bool.true_and, Bool.and_true] at h); omega)))) ?_
      refine TL_q rfl rfl (QT_gtr rfl rfl rfl rfl) ?_
      refine TL_q rfl rfl (QT_move rfl rfl rfl) ?_
      refine TL_q rfl rfl (QT_move rfl rfl rfl) ?_
      refine TL_q rfl rfl (QT_add rfl rfl rfl rfl (fun _ => ⟨by omega, by omega⟩)) ?_
      refine TL_q rfl rfl (QT_move rfl rfl rfl) ?_
      refine TL_q rfl rfl (QT_len rfl rfl Tryd.underlying28 rfl) ?_
      refine TL_q rfl rfl (QT_lss rfl rfl rfl rfl) ?_
      refine TL_q rfl rfl (QT_or rfl rfl rfl rfl) ?_
      refine TL_q rfl rfl (QT_and rfl rfl rfl rfl) ?_
      refine TL_nil ?_
      refine TX_then ?_
      first
        | refine TC_cond_dec rfl (fun h86 => ?_) (fun h86 => ?_)
        | refine TC_cond rfl (fun h86 => ?_) (fun h86 => ?_)
      ·
        have hc : k < rs.length ∧ flagR (at7 rs k) ≤ 2 ∧ (0 < flagR (at7 rs k) ∨ k + 2 < rs.length) := by
          simp only [Bool.and_eq_true, Bool.or_eq_true, decide_eq_true_eq] at h86
          omega
        obtain ⟨hkn, hfl, hor⟩ := hc
        refine TC_skip ?_
        refine TX_then ?_
        refine TC_block ?_
        refine TC_cut (γ := { j : Nat // k ≤ j ∧ j + 1 ≤ rs.length ∧ ∃ a b c out, Kst rs (j + 1) a b c out }) (fun t => [(1, true, .slice ad rs.length cap), (2, true, .pointer (some ⟨b2, 0, none⟩)), (5, true, .slice pad A.1.length pcap), (6, true, .int .i64 A.2), (7, true, .int .i64 (t.1 : Int))]) (fun t => St w0 ((b2, 27, L.cells) :: (H1 ++ η))) ?_ ?_
        ·
          refine TC_seq ?_
          refine TC_reg ?_
          refine TL_q rfl rfl (QT_move rfl rfl rfl) ?_
          refine TL_q rfl rfl (QT_move rfl rfl rfl) ?_
          refine TL_q rfl rfl (QT_indexG k rfl rfl Tryd.underlying28 YtannaanbadaflaaDoorF.sz_63 rfl rfl rfl (fun h => hkn) (fun h => had (by omega))) ?_
          refine TL_q rfl rfl (QT_field rfl rfl YtannaanbadaflaaDoorF.fld_63_0 rfl) ?_
          refine TL_q rfl rfl (QT_loadRj (v := .int .u8 (flagR (at7 rs k) : Int)) (k * 7) rfl rfl Tryd.underlying5 rfl (hrd.deep (by intro _ hw; first | exact hw | exact hw.app_right | exact hw.app_right.app_right | exact hw.tail | exact hw.tail.app_right | exact hw.tail.tail | exact hw.tail.tail.app_right | exact hw.tail.tail.tail | exact hw.tail.tail.tail.app_right | exact hw.tail.tail.tail.tail | exact hw.tail.tail.tail.tail.app_right | exact hw.tail.tail.tail.tail.tail | exact hw.tail.tail.tail.tail.tail.app_right | exact hw.tail.tail.tail.tail.tail.tail | exact hw.tail.tail.tail.tail.tail.tail.app_right)) rfl (fun h => rec_flag ha hkn)) ?_
          refine TL_q rfl rfl (QT_eql rfl rfl rfl rfl) ?_
          refine TL_nil ?_
          refine TX_then ?_
          first
            | refine TC_cond_dec rfl (fun h92 => ?_) (fun h92 => ?_)
            | refine TC_cond rfl (fun h92 => ?_) (fun h92 => ?_)
          ·
            refine TC_reg ?_
            refine TL_q rfl rfl (QT_move rfl rfl rfl) ?_
            refine TL_q rfl rfl (QT_add rfl rfl rfl rfl (fun _ => ⟨by omega, by omega⟩)) ?_
            refine TL_q rfl rfl (QT_assign rfl rfl rfl) ?_
            refine TL_nil ?_
            exact TX_cut ⟨k + 2, by omega, by omega, _, _, _, _, hK.new (by omega) (by omega)⟩ ⟨rfl, rfl, rfl, rfl, rfl, trivial⟩ (fun _ h => h)
          ·
            refine TC_skip ?_
            exact TX_cut ⟨k, Nat.le_refl _, by omega, by
              by_cases h1 : flagR (at7 rs k) = 1
              · exact ⟨_, _, _, _, hK.one hkn h1⟩
              · exact ⟨_, _, _, _, hK.two hkn (by omega)⟩⟩ ⟨rfl, rfl, rfl, rfl, rfl, trivial⟩ (fun _ h => h)
        rintro ⟨j, hj1, hj2, a2, b2', c2, out2, hK2⟩
        dsimp only
        refine TC_reg ?_
        refine TL_q rfl rfl (QT_move rfl rfl rfl) ?_
        refine TL_q rfl rfl (QT_add rfl rfl rfl rfl (fun _ => ⟨by omega, by omega⟩)) ?_
        refine TL_q rfl rfl (QT_assign rfl rfl rfl) ?_
        refine TL_nil ?_
        refine TX_block_normal ?_
        exact TX_round ⟨j + 1, hj2, a2, b2', c2, out2, hK2⟩ (by show rs.length - (j + 1) < rs.length - k; omega) ⟨rfl, rfl, rfl, rfl, rfl, trivial⟩ (fun _ h => h)
      ·
        refine TC_exit ?_
        refine TX_then_exit ?_
        refine TX_then_exit ?_
        refine TX_block_here ?_
        refine TX_then ?_
        refine TC_seq ?_
        have hT : Tail rs k := by
          simp only [Bool.and_eq_false_iff, Bool.or_eq_false_iff, decide_eq_false_iff_not] at h86
          unfold Tail
          omega
        have hU : trioF L (rs.take k) = (out, 0) := by
          rw [trioS hk h4 (not_headBad_take hnb k)]
          have hl : (rs.take k).length = k := by rw [List.length_take]; omega
          show stripF ((rs.take k).length + 1) (rs.take k) zR zR zR [] = _
          rw [hl]; exact hK.here
        have hof2 := fun (X : Heap) (v : Value) (h : SlA (St w0 X) v 7 (rs.take k).length (rs.take k).flatten) (hn : (rs.take k).length * 120 ≤ 140737488355328) => of_spec w0 X hG L v (rs.take k) h (ha.take k) hn
        rw [hU] at hof2
        refine TC_draw [(0, 0), (1, 0), (2, 0), (3, 0), (4, 1), (5, 0), (6, 0), (7, 0), (8, 0), (9, 0)] YtannaanbadaflaaDoorF.mixed (by kernel_rfl) (St.calm _ _) ?_
        first
          | refine TV_ql rfl rfl rfl (QT_loadW 0 rfl rfl Tryd.underlying27 rfl rfl rfl YtannaanbadaflaaDoorF.sz_27) ?_
          | refine TV_ql rfl rfl rfl (QT_loadW 1 rfl rfl Tryd.underlying27 rfl rfl rfl YtannaanbadaflaaDoorF.sz_27) ?_
          | refine TV_ql rfl rfl rfl (QT_loadW 2 rfl rfl Tryd.underlying27 rfl rfl rfl YtannaanbadaflaaDoorF.sz_27) ?_
          | refine TV_ql rfl rfl rfl (QT_loadA 0 rfl rfl Tryd.underlying27 rfl rfl rfl YtannaanbadaflaaDoorF.sz_27 (fun _ => rfl)) ?_
          | refine TV_ql rfl rfl rfl (QT_loadA 1 rfl rfl Tryd.underlying27 rfl rfl rfl YtannaanbadaflaaDoorF.sz_27 (fun _ => rfl)) ?_
          | refine TV_ql rfl rfl rfl (QT_loadA 2 rfl rfl Tryd.underlying27 rfl rfl rfl YtannaanbadaflaaDoorF.sz_27 (fun _ => rfl)) ?_
        refine TV_q rfl rfl rfl (fun _ => QT_move rfl rfl rfl) ?_
        refine TV_q rfl rfl rfl (fun _ => QT_move rfl rfl rfl) ?_
        refine TV_q rfl rfl rfl (fun _ => QT_slcH (k) rfl rfl rfl rfl Tryd.underlying28 YtannaanbadaflaaDoorF.sz_63 rfl rfl rfl (fun _ => by omega)) ?_
        refine TV_e rfl rfl rfl rfl (rfl) (ET_call rfl YtannaanbadaflaaDoorF.cal_10 rfl (hof2 _ _ (front_take ha (hs0.mono (by intro _ hw; first | exact hw | exact hw.app_right | exact hw.app_right.app_right | exact hw.tail | exact hw.tail.app_right | exact hw.tail.tail | exact hw.tail.tail.app_right | exact hw.tail.tail.tail | exact hw.tail.tail.tail.app_right | exact hw.tail.tail.tail.tail | exact hw.tail.tail.tail.tail.app_right | exact hw.tail.tail.tail.tail.tail | exact hw.tail.tail.tail.tail.tail.app_right | exact hw.tail.tail.tail.tail.tail.tail | exact hw.tail.tail.tail.tail.tail.tail.app_right)) hkl) (by rw [List.length_take]; omega))) ?_
        rintro _ _ ⟨qv, H2, rfl, hF2, X2, rfl⟩
        refine ⟨_, .drop (by kernel_rfl) (.nil), ?_⟩
        refine TV_q rfl rfl rfl (fun _ => QT_move rfl rfl rfl) ?_
        refine TV_q rfl rfl rfl (fun _ => QT_extract rfl rfl rfl rfl) ?_
        refine TV_q rfl rfl rfl (fun _ => QT_extract rfl rfl rfl rfl) ?_
        refine TV_q rfl rfl rfl (fun _ => QT_assign rfl rfl rfl) ?_
        refine TV_q rfl rfl rfl (fun _ => QT_assign rfl rfl rfl) ?_
        refine TV_end ?_
        refine TX_then ?_
        refine TC_seq ?_
        refine TC_seq ?_
        refine TC_A (St w0 (H1 ++ (H2 ++ η))) (fun w h => (show St w0 (H2 ++ (X2 ++ ((b2, 27, L.cells) :: (H1 ++ η)))) w from h).cnt fun p => by simp only [List.countP_append, List.countP_cons]; omega) ?_
        have hbad : k < rs.length → A.1 = [] := fun h => by
          rcases hT with h' | ⟨_, h' | ⟨h1, h2⟩⟩
          · omega
          · rw [hAe, (hK.bad h).1 h']
          · rw [hAe, (hK.bad h).2 h1 h2]
        refine TC_reg ?_
        refine TL_q rfl rfl (QT_move rfl rfl rfl) ?_
        refine TL_q rfl rfl (QT_neq rfl rfl rfl rfl) ?_
        refine TL_q rfl rfl (QT_move rfl rfl rfl) ?_
        refine TL_q rfl rfl (QT_move rfl rfl rfl) ?_
        refine TL_q rfl rfl (QT_move rfl rfl rfl) ?_
        refine TL_q rfl rfl (QT_len rfl rfl Tryd.underlying28 rfl) ?_
        refine TL_q rfl rfl (QT_lss rfl rfl rfl rfl) ?_
        refine TL_q rfl rfl (QT_move rfl rfl rfl) ?_
        refine TL_q rfl rfl (QT_move rfl rfl rfl) ?_
        refine TL_q rfl rfl (QT_len rfl rfl Tryd.underlying31 rfl) ?_
        refine TL_q rfl rfl (QT_gtr rfl rfl rfl rfl) ?_
        refine TL_q rfl rfl (QT_and rfl rfl rfl rfl) ?_
        refine TL_q rfl rfl (QT_or rfl rfl rfl rfl) ?_
        refine TL_nil ?_
        refine TX_then ?_
        first
          | refine TC_cond_dec rfl (fun h117 => ?_) (fun h117 => ?_)
          | refine TC_cond rfl (fun h117 => ?_) (fun h117 => ?_)
        ·
          refine TC_seq ?_
          refine TC_reg ?_
          refine TL_q rfl rfl (QT_assign rfl rfl rfl) ?_
          refine TL_nil ?_
          refine TX_then ?_
          refine TC_ret ?_
          refine TX_then_ret ?_
          exfalso
          simp at h117
          have := hbad (by omega)
          rw [this] at h117
          simp at h117
        ·
          refine TC_skip ?_
          refine TX_then ?_
          refine TC_seq ?_
          refine TC_block ?_
          refine TC_seq ?_
          refine TC_reg ?_
          refine TL_q rfl rfl (QT_move rfl rfl rfl) ?_
          refine TL_q rfl rfl (QT_move rfl rfl rfl) ?_
          refine TL_q rfl rfl (QT_len rfl rfl Tryd.underlying28 rfl) ?_
          refine TL_q rfl rfl (QT_eql rfl rfl rfl rfl) ?_
          refine TL_q rfl rfl (QT_assign rfl rfl rfl) ?_
          refine TL_nil ?_
          refine TX_then ?_
          first
            | refine TC_cond_dec rfl (fun h118 => ?_) (fun h118 => ?_)
            | refine TC_cond rfl (fun h118 => ?_) (fun h118 => ?_)
          ·
            refine TC_seq ?_
            refine TC_reg ?_
            refine TL_q rfl rfl (QT_move rfl rfl rfl) ?_
            refine TL_q rfl rfl (QT_eql rfl rfl rfl rfl) ?_
            refine TL_q rfl rfl (QT_move rfl rfl rfl) ?_
            refine TL_q rfl rfl (QT_move rfl rfl rfl) ?_
            refine TL_q rfl rfl (QT_move rfl rfl rfl) ?_
            refine TL_cq rfl rfl rfl rfl YtannaanbadaflaaDoorF.cal_14 rfl (fun _ => sameOk_Tris w0 _ _ _ out.length out.flatten (show SlA _ (.slice pad A.1.length pcap) 21 out.length out.flatten by
             have e : A = (out, 0) := by
               have := hK.here
               rw [hAe, strips]
               have hke : k = rs.length := by omega
               rw [← hke]
               rw [← this, hke, List.take_length]
             have h1 := hF1.within (w0 := w0) (η := H1 ++ (H2 ++ η)) fun p => by simp only [List.countP_append]; omega
             rw [e] at h1 ⊢
             exact h1) (hF2.within fun p => by simp only [List.countP_append]; omega) (by have := tris_flat (L := L) (ha.take k); rw [hU] at this; exact this)) ?_
            refine TL_q rfl rfl (QT_and rfl rfl rfl rfl) ?_
            refine TL_q rfl rfl (QT_move rfl rfl rfl) ?_
            refine TL_cq rfl rfl rfl rfl YtannaanbadaflaaDoorF.cal_8 rfl (fun _ => lives10 w0 _ hG) ?_
            refine TL_q rfl rfl (QT_and rfl rfl rfl rfl) ?_
            refine TL_q rfl rfl (QT_assign rfl rfl rfl) ?_
            refine TL_nil ?_
            refine TX_then ?_
            refine TC_ret ?_
            refine TX_block_ret ?_
            refine TX_then_ret ?_
            have hke : k = rs.length := by omega
            have e : A = (out, 0) := by
              have := hK.here
              rw [hAe, strips, ← hke, ← this, hke, List.take_length]
            exact TX_ret (.inl rfl) (res1 rfl rfl) ⟨_, ⟨congrArg Value.bool (by rw [e]; rfl), rfl⟩, fun _ h => h.app_right.app_right⟩
          ·
            refine TC_seq ?_
            refine TC_reg ?_
            refine TL_q rfl rfl (QT_move rfl rfl rfl) ?_
            refine TL_q rfl rfl (QT_move rfl rfl rfl) ?_
            refine TL_q rfl rfl (QT_indexG k rfl rfl Tryd.underlying28 YtannaanbadaflaaDoorF.sz_63 rfl rfl rfl (fun h => by omega) (fun h => had (by omega))) ?_
            refine TL_q rfl rfl (QT_field rfl rfl YtannaanbadaflaaDoorF.fld_63_0 rfl) ?_
            refine TL_q rfl rfl (QT_loadRj (v := .int .u8 (flagR (at7 rs k) : Int)) (k * 7) rfl rfl Tryd.underlying5 rfl (hrd.deep (by intro _ hw; first | exact hw | exact hw.app_right | exact hw.app_right.app_right | exact hw.tail | exact hw.tail.app_right | exact hw.tail.tail | exact hw.tail.tail.app_right | exact hw.tail.tail.tail | exact hw.tail.tail.tail.app_right | exact hw.tail.tail.tail.tail | exact hw.tail.tail.tail.tail.app_right | exact hw.tail.tail.tail.tail.tail | exact hw.tail.tail.tail.tail.tail.app_right | exact hw.tail.tail.tail.tail.tail.tail | exact hw.tail.tail.tail.tail.tail.tail.app_right)) rfl (fun h => rec_flag ha (by omega))) ?_
            refine TL_q rfl rfl (QT_gtr rfl rfl rfl rfl) ?_
            refine TL_q rfl rfl (QT_assign rfl rfl rfl) ?_
            refine TL_nil ?_
            refine TX_then ?_
            first
              | refine TC_cond_dec rfl (fun h133 => ?_) (fun h133 => ?_)
              | refine TC_cond rfl (fun h133 => ?_) (fun h133 => ?_)
            ·
              refine TC_seq ?_
              refine TC_reg ?_
              refine TL_q rfl rfl (QT_move rfl rfl rfl) ?_
              refine TL_q rfl rfl (QT_eql rfl rfl rfl rfl) ?_
              refine TL_q rfl rfl (QT_move rfl rfl rfl) ?_
              refine TL_cq rfl rfl rfl rfl YtannaanbadaflaaDoorF.cal_8 rfl (fun _ => lives10 w0 _ hG) ?_
              refine TL_q rfl rfl (QT_and rfl rfl rfl rfl) ?_
              refine TL_q rfl rfl (QT_assign rfl rfl rfl) ?_
              refine TL_nil ?_
              refine TX_then ?_
              refine TC_ret ?_
              refine TX_block_ret ?_
              refine TX_then_ret ?_
              have e : A = ([], 7) := by rw [hAe, (hK.bad (by omega)).1 (by omega)]
              exact TX_ret (.inl rfl) (res1 rfl rfl) ⟨_, ⟨congrArg Value.bool (by rw [e]; rfl), rfl⟩, fun _ h => h.app_right.app_right⟩
            ·
              refine TC_skip ?_
              refine TX_block_normal ?_
              refine TX_then ?_
              refine TC_seq ?_
              refine TC_reg ?_
              refine TL_q rfl rfl (QT_move rfl rfl rfl) ?_
              refine TL_q rfl rfl (QT_eql rfl rfl rfl rfl) ?_
              refine TL_q rfl rfl (QT_move rfl rfl rfl) ?_
              refine TL_cq rfl rfl rfl rfl YtannaanbadaflaaDoorF.cal_8 rfl (fun _ => lives10 w0 _ hG) ?_
              refine TL_q rfl rfl (QT_and rfl rfl rfl rfl) ?_
              refine TL_q rfl rfl (QT_assign rfl rfl rfl) ?_
              refine TL_nil ?_
              refine TX_then ?_
              refine TC_ret ?_
              have e : A = ([], 5) := by
                unfold Tail at hT
                rw [hAe, (hK.bad (by omega)).2 (by omega) (by omega)]
              exact TX_ret (.inl rfl) (res1 rfl rfl) ⟨_, ⟨congrArg Value.bool (by rw [e]; rfl), rfl⟩, fun _ h => h.app_right.app_right⟩
end Go.Proofs.YtannaanbadaflaaDoor

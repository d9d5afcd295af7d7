/- RECORDS: the check; the fields, and how each is read and set. -/
import Derived.Test.YtjehicncbpljaaaDoorS09a
import Derived.Test.YtjehicncbpljaaaDoorQ
namespace Go.Proofs.YtjehicncbpljaaaDoor
open Go Go.Gx Go.RowKit
set_option maxRecDepth 100000
def errCR (L : Lay) : Int := if okB L = true ∧ L.ty ≤ 5 then 0 else 4
theorem rcheck0_spec (w0 : Base) (η : Heap) (hG : Sets w0) (L : Lay) :
    CallsT Tryd.prog 27 [L.val] (St w0 η) fun v A' => v = .int .i64 (errCR L) ∧ A' = St w0 η := by
  refine CallsT.body Tryd.func27 rfl rfl ?_
  simp only [Tryd.ntmps27, slotsOf, Nat.reduceAdd]
  refine TC_seq ?_
  refine TC_reg ?_
  refine TL_e rfl rfl rfl (rfl) (ET_box rfl rfl) ?_
  rintro _ _ ⟨b1, rfl, rfl⟩
  refine TL_q rfl rfl (QT_assign rfl rfl rfl) ?_
  refine TL_nil ?_
  refine TX_then ?_
  refine TC_seq ?_
  refine TC_seq ?_
  refine TC_reg ?_
  first
    | refine TL_q rfl rfl (QT_loadW 0 rfl rfl Tryd.underlying27 rfl rfl rfl YtjehicncbpljaaaDoorF.sz_27) ?_
    | refine TL_q rfl rfl (QT_loadW 1 rfl rfl Tryd.underlying27 rfl rfl rfl YtjehicncbpljaaaDoorF.sz_27) ?_
    | refine TL_q rfl rfl (QT_loadW 2 rfl rfl Tryd.underlying27 rfl rfl rfl YtjehicncbpljaaaDoorF.sz_27) ?_
    | refine TL_q rfl rfl (QT_loadA 0 rfl rfl Tryd.underlying27 rfl rfl rfl YtjehicncbpljaaaDoorF.sz_27 (fun _ => rfl)) ?_
    | refine TL_q rfl rfl (QT_loadA 1 rfl rfl Tryd.underlying27 rfl rfl rfl YtjehicncbpljaaaDoorF.sz_27 (fun _ => rfl)) ?_
    | refine TL_q rfl rfl (QT_loadA 2 rfl rfl Tryd.underlying27 rfl rfl rfl YtjehicncbpljaaaDoorF.sz_27 (fun _ => rfl)) ?_
  refine TL_cq rfl rfl rfl rfl YtjehicncbpljaaaDoorF.cal_23 rfl (fun _ => check_spec w0 _ hG L) ?_
  refine TL_q rfl rfl (QT_neq rfl rfl rfl rfl) ?_
  refine TL_q rfl rfl (QT_move rfl rfl rfl) ?_
  refine TL_q rfl rfl (QT_field rfl rfl YtjehicncbpljaaaDoorF.fld_27_0 rfl) ?_
  first
    | refine TL_q rfl rfl (QT_load 0 rfl rfl Tryd.underlying3 rfl rfl rfl (fun _ => rfl)) ?_
    | refine TL_q rfl rfl (QT_load 1 rfl rfl Tryd.underlying3 rfl rfl rfl (fun _ => rfl)) ?_
    | refine TL_q rfl rfl (QT_load 2 rfl rfl Tryd.underlying3 rfl rfl rfl (fun _ => rfl)) ?_
  refine TL_q rfl rfl (QT_gtr rfl rfl rfl rfl) ?_
  refine TL_q rfl rfl (QT_or rfl rfl rfl rfl) ?_
  refine TL_nil ?_
  refine TX_then ?_
  first
    | refine TC_cond_dec rfl (fun h10 => ?_) (fun h10 => ?_)
    | refine TC_cond rfl (fun h10 => ?_) (fun h10 => ?_)
  ·
    refine TC_seq ?_
    refine TC_reg ?_
    refine TL_q rfl rfl (QT_assign rfl rfl rfl) ?_
    refine TL_nil ?_
    refine TX_then ?_
    refine TC_ret ?_
    refine TX_then_ret ?_
    refine TX_ret (.inl rfl) (res1 rfl rfl) ⟨_, ⟨?_, rfl⟩, fun _ h => h.tail⟩
    have e : errCR L = 4 := by
      simp only [Bool.or_eq_true, decide_eq_true_eq] at h10
      unfold errCR
      rw [if_neg]
      rintro ⟨h1, h2⟩
      unfold errOf at h10
      rw [if_pos h1] at h10
      omega
    rw [e]
  ·
    refine TC_skip ?_
    refine TX_then ?_
    refine TC_seq ?_
    refine TC_reg ?_
    refine TL_q rfl rfl (QT_assign rfl rfl rfl) ?_
    refine TL_nil ?_
    refine TX_then ?_
    refine TC_ret ?_
    refine TX_ret (.inl rfl) (res1 rfl rfl) ⟨_, ⟨?_, rfl⟩, fun _ h => h.tail⟩
    have e : errCR L = 0 := by
      simp only [Bool.or_eq_false_iff, decide_eq_false_iff_not] at h10
      unfold errCR
      rw [if_pos]
      unfold errOf at h10
      refine ⟨?_, by omega⟩
      by_cases h1 : okB L = true
      · exact h1
      · rw [if_neg h1] at h10; omega
    rw [e]
def gF (k : Nat) : FuncId := if k = 0 then 89 else if k = 1 then 91 else if k = 2 then 93 else 95
def sF (k : Nat) : FuncId := if k = 0 then 90 else if k = 1 then 92 else if k = 2 then 94 else 96
theorem gF_ok (k : Nat) : CalleeOk Tryd.prog (gF k) := by
  unfold gF
  split
  · exact YtjehicncbpljaaaDoorF.cal_89
  · split
    · exact YtjehicncbpljaaaDoorF.cal_91
    · split
      · exact YtjehicncbpljaaaDoorF.cal_93
      · exact YtjehicncbpljaaaDoorF.cal_95
theorem sF_ok (k : Nat) : CalleeOk Tryd.prog (sF k) := by
  unfold sF
  split
  · exact YtjehicncbpljaaaDoorF.cal_90
  · split
    · exact YtjehicncbpljaaaDoorF.cal_92
    · split
      · exact YtjehicncbpljaaaDoorF.cal_94
      · exact YtjehicncbpljaaaDoorF.cal_96
def capF (ps : List Nat) (k : Nat) : Array Value := if k < 3 then #[] else #[.pointer (some ⟨ps.getD (k - 3) 0, 0, none⟩)]
def fld (L : Lay) (ps : List Nat) (k : Nat) : List Value := [.int .i64 (wdR L k : Int), .func (.func (gF k)) #[] (capF ps k), .func (.func (sF k)) #[] (capF ps k)]
def fldsC (L : Lay) (ps : List Nat) : Nat → List Value
  | 0 => []
  | n + 1 => fldsC L ps n ++ fld L ps n
theorem fldsC_len (L : Lay) (ps : List Nat) : ∀ n, (fldsC L ps n).length = n * 3
  | 0 => rfl
  | n + 1 => by rw [fldsC, List.length_append, fldsC_len L ps n, Nat.add_mul]; rfl
theorem fldsC_at (L : Lay) (ps : List Nat) : ∀ {n k j : Nat}, k < n → j < 3 → (fldsC L ps n)[k * 3 + j]? = (fld L ps k)[j]?
  | 0, k, j, h, _ => absurd h (by omega)
  | n + 1, k, j, h, hj => by
    rw [fldsC]
    by_cases e : k = n
    · subst e
      rw [List.getElem?_append_right (by rw [fldsC_len]; omega), fldsC_len, show k * 3 + j - k * 3 = j by omega]
    · rw [List.getElem?_append_left (by rw [fldsC_len]; omega)]
      exact fldsC_at L ps (by omega) hj
theorem capF_more {ps : List Nat} {p k : Nat} (h : k < 3 + ps.length) : capF (ps ++ [p]) k = capF ps k := by
  unfold capF
  by_cases hk : k < 3
  · rw [if_pos hk, if_pos hk]
  · rw [if_neg hk, if_neg hk, List.getD_eq_getElem?_getD, List.getD_eq_getElem?_getD, List.getElem?_append_left (by omega)]
theorem fldsC_more (L : Lay) {ps : List Nat} {p : Nat} : ∀ n, n ≤ 3 + ps.length → fldsC L (ps ++ [p]) n = fldsC L ps n
  | 0, _ => rfl
  | n + 1, h => by
    rw [fldsC, fldsC, fldsC_more L n (by omega)]
    unfold fld
    rw [capF_more (by omega)]
def psHeap : List Nat → Nat → Heap
  | [], _ => []
  | p :: ps, i => (p, 3, [.int .i64 (i : Int)]) :: psHeap ps (i + 1)
theorem psHeap_snoc : ∀ (ps : List Nat) (p i : Nat), psHeap (ps ++ [p]) i = psHeap ps i ++ [(p, 3, [.int .i64 ((i + ps.length : Nat) : Int)])]
  | [], p, i => rfl
  | q :: ps, p, i => by
    rw [List.cons_append, psHeap, psHeap_snoc ps p (i + 1), psHeap, List.cons_append, List.length_cons, show i + 1 + ps.length = i + (ps.length + 1) by omega]
theorem psHeap_mem : ∀ {ps : List Nat} {i c : Nat}, c < ps.length → (ps.getD c 0, 3, [.int .i64 ((i + c : Nat) : Int)]) ∈ psHeap ps i
  | [], i, c, h => absurd h (by simp)
  | p :: ps, i, 0, _ => List.mem_cons_self ..
  | p :: ps, i, c + 1, h => by
    have := psHeap_mem (ps := ps) (i := i + 1) (c := c) (by simpa using h)
    rw [show i + 1 + c = i + (c + 1) by omega] at this
    exact List.mem_cons_of_mem _ this
def zField : Value := .agg #[.int .i64 0, .nilFunc, .nilFunc]
theorem el_Field : ElemOk Tryd.prog 80 3 24 zField := .of YtjehicncbpljaaaDoorF.sz_80 (by kernel_rfl) (by unfold ZeroOk; kernel_rfl) (by kernel_rfl) (by decide)
theorem fld_one (L : Lay) (ps : List Nat) (k : Nat) : ∀ u ∈ fld L ps k, u.oneCell' = true := by
  intro u hu
  simp only [fld, List.mem_cons, List.not_mem_nil, or_false] at hu
  rcases hu with rfl | rfl | rfl <;> rfl
set_option maxHeartbeats 1000000 in
theorem fields_spec (w0 : Base) (η : Heap) (L : Lay) (hok : okB L = true) :
    CallsT Tryd.prog 28 [L.val] (St w0 η) fun v A' => ∃ ps H, ps.length = 4 ∧ Frag 80 3 v 7 (fldsC L ps 7) H ∧ A' = St w0 (H ++ (psHeap ps 0 ++ η)) := by
  have hfn := (flN_bd hok).2
  have hb := okB_bounds hok
  have hco : (L.co.toNat : Int) = L.co := by omega
  have hcm : (L.cm.toNat : Int) = L.cm := by omega
  have hcs : (L.cs.toNat : Int) = L.cs := by omega
  have lco : L.cells[0 + 1]? = some (.int .i64 (L.co.toNat : Int)) := by rw [hco]; rfl
  have lcm : L.cells[0 + 2]? = some (.int .i64 (L.cm.toNat : Int)) := by rw [hcm]; rfl
  have lcs : L.cells[0 + 4]? = some (.int .i64 (L.cs.toNat : Int)) := by rw [hcs]; rfl
  refine CallsT.body Tryd.func28 rfl rfl ?_
  simp only [Tryd.ntmps28, slotsOf, Nat.reduceAdd]
  refine TC_seq ?_
  refine TC_reg ?_
  refine TL_e rfl rfl rfl (rfl) (ET_box rfl rfl) ?_
  rintro _ _ ⟨b1, rfl, rfl⟩
  refine TL_q rfl rfl (QT_assign rfl rfl rfl) ?_
  refine TL_nil ?_
  refine TX_then ?_
  refine TC_seq ?_
  refine TC_A (St w0 ((b1, 27, L.cells) :: η)) (fun _ h => h) ?_
  refine TC_reg ?_
  refine TL_q rfl rfl (QT_field rfl rfl YtjehicncbpljaaaDoorF.fld_27_3 rfl) ?_
  refine TL_q rfl rfl (QT_load (v := .int .i64 L.fl) 0 rfl rfl Tryd.underlying3 rfl rfl rfl (fun _ => rfl)) ?_
  refine TL_q rfl rfl (QT_assign rfl rfl rfl) ?_
  refine TL_nil ?_
  refine TX_then ?_
  refine TC_cut (γ := Unit) (fun _ => [(1, true, .pointer (some ⟨b1, 0, none⟩)), (3, true, .int .i64 (flN L : Int))]) (fun _ => St w0 ((b1, 27, L.cells) :: η)) ?_ ?_
  ·
    refine TC_seq ?_
    refine TC_reg ?_
    refine TL_q rfl rfl (QT_field rfl rfl YtjehicncbpljaaaDoorF.fld_27_0 rfl) ?_
    refine TL_q rfl rfl (QT_load (v := .int .i64 L.ty) 0 rfl rfl Tryd.underlying3 rfl rfl rfl (fun _ => rfl)) ?_
    refine TL_q rfl rfl (QT_eql rfl rfl rfl rfl) ?_
    refine TL_nil ?_
    refine TX_then ?_
    first
      | refine TC_cond_dec rfl (fun h11 => ?_) (fun h11 => ?_)
      | refine TC_cond rfl (fun h11 => ?_) (fun h11 => ?_)
    ·
      refine TC_reg ?_
      refine TL_q rfl rfl (QT_assign rfl rfl rfl) ?_
      refine TL_nil ?_
      exact TX_cut () ⟨rfl, slotI rfl (by rw [hfn]; unfold flb; rw [if_pos h11]), trivial⟩ (fun _ h => h)
    ·
      refine TC_skip ?_
      exact TX_cut () ⟨rfl, slotI rfl (by rw [hfn]; unfold flb; rw [if_neg h11]), trivial⟩ (fun _ h => h)
  rintro ⟨⟩
  refine TC_seq ?_
  refine TC_reg ?_
  refine TL_q rfl rfl (QT_move rfl rfl rfl) ?_
  refine TL_q rfl rfl (QT_build rfl rfl YtjehicncbpljaaaDoorF.zero_80 YtjehicncbpljaaaDoorF.pl_80 rfl rfl rfl) ?_
  refine TL_q rfl rfl (QT_field rfl rfl YtjehicncbpljaaaDoorF.fld_27_1 rfl) ?_
  refine TL_q rfl rfl (QT_load (v := .int .i64 (L.co.toNat : Int)) 0 rfl rfl Tryd.underlying3 rfl rfl rfl (fun _ => lco)) ?_
  refine TL_q rfl rfl (QT_build rfl rfl YtjehicncbpljaaaDoorF.zero_80 YtjehicncbpljaaaDoorF.pl_80 rfl rfl rfl) ?_
  refine TL_q rfl rfl (QT_field rfl rfl YtjehicncbpljaaaDoorF.fld_27_1 rfl) ?_
  refine TL_q rfl rfl (QT_load (v := .int .i64 (L.co.toNat : Int)) 0 rfl rfl Tryd.underlying3 rfl rfl rfl (fun _ => lco)) ?_
  refine TL_q rfl rfl (QT_build rfl rfl YtjehicncbpljaaaDoorF.zero_80 YtjehicncbpljaaaDoorF.pl_80 rfl rfl rfl) ?_
  refine TL_e rfl rfl rfl (rfl) (ET_buildN [_, _, _] rfl Tryd.underlying74 YtjehicncbpljaaaDoorF.sz_80 YtjehicncbpljaaaDoorF.zero_80 rfl rfl rfl (fun v hv => by
   rcases List.mem_cons.1 hv with rfl | hv
   · rfl
   · rcases List.mem_cons.1 hv with rfl | hv
     · rfl
     · cases List.mem_singleton.1 hv; rfl)) ?_
  rintro _ _ ⟨b20, rfl, rfl⟩
  refine TL_q rfl rfl (QT_assign rfl rfl rfl) ?_
  refine TL_nil ?_
  refine TX_then ?_
  refine TC_seq ?_
  refine TC_seq ?_
  refine TC_reg ?_
  refine TL_q rfl rfl (QT_move rfl rfl rfl) ?_
  refine TL_nil ?_
  refine TX_then ?_
  refine TC_block ?_
  refine TC_loop (γ := { t : Nat × List Nat × Value × Heap // t.1 ≤ 4 ∧ t.2.1.length = t.1 ∧ Frag 80 3 t.2.2.1 (3 + t.1) (fldsC L t.2.1 (3 + t.1)) t.2.2.2 }) (fun u => [(1, true, .pointer (some ⟨b1, 0, none⟩)), (4, true, u.1.2.2.1), (21, true, .int .i64 (u.1.1 : Int))]) (fun u => St w0 ((b1, 27, L.cells) :: (u.1.2.2.2 ++ (psHeap u.1.2.1 0 ++ η)))) (fun u => 4 - u.1.1) ⟨(0, [], _, [(b20, 80, fldsC L [] 3)]), by show 0 ≤ 4; decide, rfl, ⟨rfl, .inr ⟨b20, 3, [], rfl, ⟨Nat.le_refl 3, show 3 ≤ 9223372036854775807 by decide⟩, Nat.le_refl 9, rfl⟩⟩⟩ ⟨rfl, rfl, rfl, trivial⟩ (fun w h => (show St w0 ((b20, 80, fldsC L [] 3) :: (b1, 27, L.cells) :: η) w from h).swap) ?_
  rintro ⟨⟨i, ps, fv, H⟩, hi, hps, hF⟩
  dsimp only at hi hps hF ⊢
  refine TC_seq ?_
  refine TC_reg ?_
  refine TL_q rfl rfl (QT_lss rfl rfl rfl rfl) ?_
  refine TL_nil ?_
  refine TX_then ?_
  refine TC_seq ?_
  first
    | refine TC_cond_dec rfl (fun h22 => ?_) (fun h22 => ?_)
    | refine TC_cond rfl (fun h22 => ?_) (fun h22 => ?_)
  ·
    have hi4 : i < 4 := by omega
    refine TC_skip ?_
    refine TX_then ?_
    refine TC_seq ?_
    refine TC_block ?_
    refine TC_seq ?_
    refine TC_reg ?_
    refine TL_q rfl rfl (QT_move rfl rfl rfl) ?_
    refine TL_e rfl rfl rfl (rfl) (ET_alloc rfl YtjehicncbpljaaaDoorF.zero_3) ?_
    rintro _ _ ⟨b5, rfl, rfl⟩
    first
      | refine TL_e0 rfl rfl (rfl) (ET_store 0 rfl rfl rfl rfl YtjehicncbpljaaaDoorF.sz_3 rfl rfl rfl) ?_
      | refine TL_e0 rfl rfl (rfl) (ET_store 1 rfl rfl rfl rfl YtjehicncbpljaaaDoorF.sz_3 rfl rfl rfl) ?_
      | refine TL_e0 rfl rfl (rfl) (ET_store 2 rfl rfl rfl rfl YtjehicncbpljaaaDoorF.sz_3 rfl rfl rfl) ?_
    rintro _ _ ⟨rfl, rfl⟩
    refine TL_nil ?_
    refine TX_then ?_
    refine TC_seq ?_
    refine TC_reg ?_
    refine TL_q rfl rfl (QT_field rfl rfl YtjehicncbpljaaaDoorF.fld_27_2 rfl) ?_
    refine TL_q rfl rfl (QT_load (v := .int .i64 (L.cm.toNat : Int)) 1 rfl rfl Tryd.underlying3 rfl rfl rfl (fun _ => lcm)) ?_
    refine TL_q rfl rfl (QT_assign rfl rfl rfl) ?_
    refine TL_nil ?_
    refine TX_then ?_
    refine TC_cut (γ := Unit) (fun _ => [(1, true, .pointer (some ⟨b1, 0, none⟩)), (4, true, fv), (5, true, .pointer (some ⟨b5, 0, none⟩)), (6, true, .int .i64 (wdR L (3 + i) : Int)), (21, true, .int .i64 (i : Int))]) (fun _ => St w0 ((b5, 3, [.int .i64 (i : Int)]) :: (b1, 27, L.cells) :: (H ++ (psHeap ps 0 ++ η)))) ?_ ?_
    ·
      refine TC_seq ?_
      refine TC_reg ?_
      first
        | refine TL_q rfl rfl (QT_load 0 rfl rfl Tryd.underlying3 rfl rfl rfl (fun _ => rfl)) ?_
        | refine TL_q rfl rfl (QT_load 1 rfl rfl Tryd.underlying3 rfl rfl rfl (fun _ => rfl)) ?_
        | refine TL_q rfl rfl (QT_load 2 rfl rfl Tryd.underlying3 rfl rfl rfl (fun _ => rfl)) ?_
      refine TL_q rfl rfl (QT_field rfl rfl YtjehicncbpljaaaDoorF.fld_27_4 rfl) ?_
      refine TL_q rfl rfl (QT_load (v := .int .i64 (L.cs.toNat : Int)) 1 rfl rfl Tryd.underlying3 rfl rfl rfl (fun _ => lcs)) ?_
      refine TL_q rfl rfl (QT_geq rfl rfl rfl rfl) ?_
      refine TL_nil ?_
      refine TX_then ?_
      first
        | refine TC_cond_dec rfl (fun h29 => ?_) (fun h29 => ?_)
        | refine TC_cond rfl (fun h29 => ?_) (fun h29 => ?_)
      ·
        refine TC_reg ?_
        refine TL_q rfl rfl (QT_assign rfl rfl rfl) ?_
        refine TL_nil ?_
        exact TX_cut () ⟨rfl, rfl, rfl, slotI rfl (by unfold wdR; rw [if_neg (by omega), if_neg (by omega), if_neg (by omega)]; rfl), rfl, trivial⟩ (fun _ h => h)
      ·
        refine TC_skip ?_
        exact TX_cut () ⟨rfl, rfl, rfl, slotI rfl (by unfold wdR; rw [if_neg (by omega), if_neg (by omega), if_pos (by omega)]), rfl, trivial⟩ (fun _ h => h)
    rintro ⟨⟩
    have hnew : fld L (ps ++ [b5]) (3 + i) = [.int .i64 (wdR L (3 + i) : Int), .func (.func 95) #[] #[.pointer (some ⟨b5, 0, none⟩)], .func (.func 96) #[] #[.pointer (some ⟨b5, 0, none⟩)]] := by
      unfold fld capF gF sF
      rw [if_neg (by omega), if_neg (by omega), if_neg (by omega), if_neg (by omega), if_neg (by omega), if_neg (by omega), if_neg (by omega), List.getD_eq_getElem?_getD, List.getElem?_append_right (by omega), show 3 + i - 3 - ps.length = 0 by omega]
      rfl
    have hone := fld_one L (ps ++ [b5]) (3 + i)
    refine TC_reg ?_
    refine TL_q rfl rfl (QT_move rfl rfl rfl) ?_
    refine TL_q rfl rfl (QT_move rfl rfl rfl) ?_
    refine TL_q rfl rfl (QT_makeFunc rfl rfl rfl rfl) ?_
    refine TL_q rfl rfl (QT_makeFunc rfl rfl rfl rfl) ?_
    refine TL_q rfl rfl (QT_build rfl rfl YtjehicncbpljaaaDoorF.zero_80 YtjehicncbpljaaaDoorF.pl_80 rfl rfl rfl) ?_
    refine TL_e rfl rfl rfl (rfl) (ET_buildN [_] rfl Tryd.underlying74 YtjehicncbpljaaaDoorF.sz_80 YtjehicncbpljaaaDoorF.zero_80 rfl rfl rfl (fun v hv => by cases List.mem_singleton.1 hv; rfl)) ?_
    rintro _ _ ⟨b35, rfl, rfl⟩
    refine TL_e rfl rfl rfl (rfl) (ET_appendL (L := [_, _, _]) rfl Tryd.underlying74 el_Field rfl rfl hF (fun _ h => h) (SlA.own (n := 1) (xs := fld L (ps ++ [b5]) (3 + i)) 0 rfl (by rw [hnew]; rfl) (show 0 + 1 * 3 ≤ 3 from Nat.le_refl 3) (by omega)) hone (by omega) (by omega)) ?_
    rintro fv2 _ ⟨H', hF', rfl⟩
    refine TL_q rfl rfl (QT_assign rfl rfl rfl) ?_
    refine TL_nil ?_
    refine TX_block_normal ?_
    refine TX_then ?_
    refine TC_reg ?_
    refine TL_q rfl rfl (QT_add rfl rfl rfl rfl (fun _ => ⟨by omega, by omega⟩)) ?_
    refine TL_q rfl rfl (QT_move rfl rfl rfl) ?_
    refine TL_nil ?_
    refine TX_round ⟨(i + 1, ps ++ [b5], fv2, H'), by show i + 1 ≤ 4; omega, by rw [List.length_append, hps]; rfl, ?_⟩ (by show 4 - (i + 1) < 4 - i; omega) ⟨rfl, rfl, rfl, trivial⟩ (fun w h => ?_)
    · show Frag _ 3 fv2 (3 + (i + 1)) (fldsC L (ps ++ [b5]) (3 + (i + 1))) H'
      rw [show 3 + (i + 1) = (3 + i) + 1 by omega, fldsC, fldsC_more L (3 + i) (by omega)]
      exact hF'
    · show St w0 ((b1, 27, L.cells) :: (H' ++ (psHeap (ps ++ [b5]) 0 ++ η))) w
      rw [psHeap_snoc, hps, Nat.zero_add]
      have h' : St w0 ((b35, 80, _) :: (b5, 3, [.int .i64 (i : Int)]) :: (b1, 27, L.cells) :: (H' ++ (psHeap ps 0 ++ η))) w := h
      exact h'.tail.cnt fun p => by simp only [List.countP_append, List.countP_cons, List.countP_nil]; omega
  ·
    refine TC_exit ?_
    refine TX_then_exit ?_
    refine TX_then_exit ?_
    refine TX_block_here ?_
    refine TX_then ?_
    refine TC_seq ?_
    refine TC_reg ?_
    refine TL_q rfl rfl (QT_move rfl rfl rfl) ?_
    refine TL_q rfl rfl (QT_assign rfl rfl rfl) ?_
    refine TL_nil ?_
    refine TX_then ?_
    refine TC_ret ?_
    obtain rfl : i = 4 := by omega
    exact TX_ret (.inl rfl) (res1 rfl rfl) ⟨_, ⟨ps, H, hps, hF, rfl⟩, fun _ h => h.tail⟩
end Go.Proofs.YtjehicncbpljaaaDoor

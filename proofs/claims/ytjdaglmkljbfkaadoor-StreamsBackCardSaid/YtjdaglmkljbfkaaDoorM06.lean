/- STREAMS: Decode. STREAMS: Decode, of patches; what it gives in all cases. STREAMS: Encode. STREAMS: Encode in all cases; Faces. STREAMS: meshes compared; slices of zeros; the chapter's examples. STREAMS: the chapter's examples. STREAMS: what is encoded is decoded as it was, and the other way round: plain facts. THE LAW: what may be encoded is decoded as it was. THE LAW: whoever reads vertices, or sheets, and asks for their faces, is told what Decode and Faces tell. THE LAW: what is decoded is encoded as bytes that are decoded as the same. WHAT THE ROWS OF THE STREAMS LIST: the sets of numbers of bits, the edges; a parameter of bytes, of a mesh by value. -/
import Derived.Test.YtjdaglmkljbfkaaDoorM05
namespace Go.Gx
open Go Go.RowKit
/-- a call that gives memory of its own and keeps the rest, while a map stands beside -/
theorem callsT_mapH {P : Program} {f : FuncId} {vs : List Value} {w0 : Base} {η : Heap} {m clock : Nat} {es : List MapEntry} {R : Value → Heap → Prop}
    (h : ∀ B : Base, (∀ w, St B η w → St w0 η w) → (∀ p v, w0.cell? p = some v → B.cell? p = some v) → CallsT P f vs (St B η) fun v A' => ∃ H, R v H ∧ A' = St B (H ++ η)) :
    CallsT P f vs (StM w0 η m es clock) fun v A' => ∃ H, R v H ∧ A' = StM w0 (H ++ η) m es clock := by
  rintro w ⟨hS, hm, h0⟩
  obtain ⟨B, hB⟩ : ∃ B : Base, B = ⟨w, fun k => !(k == m) && (w0.hole k || decide (w0.w.heap.size ≤ k))⟩ := ⟨_, rfl⟩
  have hBw : B.w = w := by rw [hB]
  have hBh : ∀ k, B.hole k = (!(k == m) && (w0.hole k || decide (w0.w.heap.size ≤ k))) := fun k => by rw [hB]
  have hsz := hS.below.size
  have hs : St B η w := by
    refine ⟨⟨by rw [hBw], by rw [hBw], by rw [hBw], by rw [hBw]; exact Nat.le_refl _, fun k _ _ => by rw [hBw]⟩, hS.blk, fun x hx => .inr ?_, hS.nodup⟩
    have ho := hS.own x hx
    have hne : x.1 ≠ m := fun e => by
      have := hS.blk x hx
      rw [e, hm] at this
      exact absurd this (by simp)
    rw [hBh]
    simp only [Bool.and_eq_true, Bool.not_eq_true', beq_eq_false_iff_ne, Bool.or_eq_true, decide_eq_true_eq]
    exact ⟨hne, ho.symm⟩
  have back : ∀ (X : Heap) w', St B X w' → St w0 X w' := by
    intro X w' hS'
    refine ⟨⟨?_, ?_, ?_, ?_, ?_⟩, hS'.blk, fun x hx => ?_, hS'.nodup⟩
    · rw [hS'.below.os, hBw]; exact hS.below.os
    · rw [hS'.below.tape, hBw]; exact hS.below.tape
    · rw [hS'.below.output, hBw]; exact hS.below.output
    · have h1 := hS'.below.size
      rw [hBw] at h1
      omega
    · intro k hk hh
      rw [hS'.below.block k (by rw [hBw]; omega) (by rw [hBh, hh]; simp; omega), hBw]
      exact hS.below.block k hk hh
    · rcases hS'.own x hx with h1 | h1
      · rw [hBw] at h1
        exact .inl (by omega)
      · rw [hBh] at h1
        simp only [Bool.and_eq_true, Bool.or_eq_true, decide_eq_true_eq] at h1
        exact h1.2.symm
  refine (h B (back η) ?_ w hs).mono ?_
  · intro p v hp
    unfold Base.cell? at hp ⊢
    cases hh : w0.hole p.block with
    | true => simp [hh] at hp
    | false =>
      simp only [hh, cond_false] at hp
      have hlt : p.block < w0.w.heap.size := block_lt_of_cell hp
      have e : B.hole p.block = false := by rw [hBh, hh]; simp; omega
      rw [e, cond_false, hBw, hS.below.cell hlt hh]
      exact hp
  · rintro e w' ⟨v, A', rfl, ⟨H, hR, rfl⟩, hS'⟩
    refine ⟨_, _, rfl, ⟨H, hR, rfl⟩, back _ w' hS', ?_, h0⟩
    rw [hS'.below.block m (by rw [hBw]; exact lt_of_heap hm) (by rw [hBh]; simp), hBw]
    exact hm
end Go.Gx
namespace Go.Proofs.YtjdaglmkljbfkaaDoor
open Go Go.Gx Go.RowKit
set_option maxRecDepth 100000
theorem callsT_H {P : Program} {f : FuncId} {vs : List Value} {B : Base} {η : Heap} {A : World → Prop} {R : Value → Value → Heap → Prop} (h : CallsT P f vs A fun v A' => ∃ rv H, R v rv H ∧ A' = St B (H ++ η)) :
    CallsT P f vs A fun v A' => ∃ H, (∃ rv, R v rv H) ∧ A' = St B (H ++ η) := h.mono fun _ _ ⟨rv, H, hR, he⟩ => ⟨_, ⟨H, ⟨rv, hR⟩, he⟩, fun _ h => h⟩
theorem callsT_H2 {P : Program} {f : FuncId} {vs : List Value} {B : Base} {η : Heap} {A : World → Prop} {R S : Value → Value → Heap → Prop} (h : CallsT P f vs A fun v A' => ∃ rv H, R v rv H ∧ S v rv H ∧ A' = St B (H ++ η)) :
    CallsT P f vs A fun v A' => ∃ H, (∃ rv, R v rv H ∧ S v rv H) ∧ A' = St B (H ++ η) := h.mono fun _ _ ⟨rv, H, hR, hS, he⟩ => ⟨_, ⟨H, ⟨rv, hR, hS⟩, he⟩, fun _ h => h⟩
theorem Sets.up {w0 B : Base} (h : Sets w0) (hB : ∀ p v, w0.cell? p = some v → B.cell? p = some v) : Sets B := fun j v hv => hB _ _ (h j v hv)
theorem edgesUp {w0 B : Base} (h : T12.Edges w0) (hB : ∀ p v, w0.cell? p = some v → B.cell? p = some v) : T12.Edges B := fun j v hv => hB _ _ (h j v hv)
theorem Decode_bad (w0 : Base) (η : Heap) (hG : Sets w0) (L : Lay) (hk : okB L = false) (sv : Value) :
    CallsT Tryd.prog 7 [L.val, sv] (St w0 η) fun v A' => v = .tuple #[.agg #[nilS, nilS], .int .i64 4] ∧ A' = St w0 η := by
  have he : errOf L = 4 := by unfold errOf; rw [hk]; rfl
  refine CallsT.body Tryd.func7 rfl rfl ?_
  simp only [Tryd.ntmps7, slotsOf, Nat.reduceAdd]
  refine TC_seq ?_
  refine TC_reg ?_
  refine TL_e rfl rfl rfl (rfl) (ET_box rfl rfl) ?_
  rintro _ _ ⟨b2, rfl, rfl⟩
  refine TL_e rfl rfl rfl (rfl) (ET_alloc rfl YtjdaglmkljbfkaaDoorF.zero_33) ?_
  rintro _ _ ⟨b4, rfl, rfl⟩
  refine TL_q rfl rfl (QT_assign rfl rfl rfl) ?_
  refine TL_nil ?_
  refine TX_then ?_
  refine TC_seq ?_
  refine TC_seq ?_
  refine TC_A (St w0 ((b4, 33, [nilS, nilS]) :: (b2, 27, L.cells) :: η)) (fun _ h => h) ?_
  refine TC_reg ?_
  first
    | refine TL_q rfl rfl (QT_loadW 0 rfl rfl Tryd.underlying27 rfl rfl rfl YtjdaglmkljbfkaaDoorF.sz_27) ?_
    | refine TL_q rfl rfl (QT_loadW 1 rfl rfl Tryd.underlying27 rfl rfl rfl YtjdaglmkljbfkaaDoorF.sz_27) ?_
    | refine TL_q rfl rfl (QT_loadW 2 rfl rfl Tryd.underlying27 rfl rfl rfl YtjdaglmkljbfkaaDoorF.sz_27) ?_
    | refine TL_q rfl rfl (QT_loadA 0 rfl rfl Tryd.underlying27 rfl rfl rfl YtjdaglmkljbfkaaDoorF.sz_27 (fun _ => rfl)) ?_
    | refine TL_q rfl rfl (QT_loadA 1 rfl rfl Tryd.underlying27 rfl rfl rfl YtjdaglmkljbfkaaDoorF.sz_27 (fun _ => rfl)) ?_
    | refine TL_q rfl rfl (QT_loadA 2 rfl rfl Tryd.underlying27 rfl rfl rfl YtjdaglmkljbfkaaDoorF.sz_27 (fun _ => rfl)) ?_
  refine TL_cq rfl rfl rfl rfl YtjdaglmkljbfkaaDoorF.cal_10 rfl (fun _ => check_spec w0 _ hG L) ?_
  refine TL_q rfl rfl (QT_neq rfl rfl rfl rfl) ?_
  refine TL_nil ?_
  refine TX_then ?_
  refine TC_cond rfl (fun _ => ?_) (fun h => absurd (h.symm.trans ((show decide (errOf L ≠ 0) = true by rw [he]; decide))) (by decide))
  refine TC_seq ?_
  refine TC_reg ?_
  refine TL_q rfl rfl (QT_build rfl rfl YtjdaglmkljbfkaaDoorF.zero_33 YtjdaglmkljbfkaaDoorF.pl_33 rfl rfl rfl) ?_
  first
    | refine TL_e0 rfl rfl (rfl) (ET_storeW 0 rfl rfl rfl YtjdaglmkljbfkaaDoorF.sz_33 rfl rfl rfl) ?_
    | refine TL_e0 rfl rfl (rfl) (ET_storeW 1 rfl rfl rfl YtjdaglmkljbfkaaDoorF.sz_33 rfl rfl rfl) ?_
    | refine TL_e0 rfl rfl (rfl) (ET_storeW 2 rfl rfl rfl YtjdaglmkljbfkaaDoorF.sz_33 rfl rfl rfl) ?_
    | refine TL_e0 rfl rfl (rfl) (ET_store 0 rfl rfl rfl rfl YtjdaglmkljbfkaaDoorF.sz_33 rfl rfl rfl) ?_
    | refine TL_e0 rfl rfl (rfl) (ET_store 1 rfl rfl rfl rfl YtjdaglmkljbfkaaDoorF.sz_33 rfl rfl rfl) ?_
    | refine TL_e0 rfl rfl (rfl) (ET_store 2 rfl rfl rfl rfl YtjdaglmkljbfkaaDoorF.sz_33 rfl rfl rfl) ?_
  rintro _ _ ⟨rfl, rfl⟩
  refine TL_q rfl rfl (QT_assign rfl rfl rfl) ?_
  refine TL_nil ?_
  refine TX_then ?_
  refine TC_ret ?_
  refine TX_then_ret ?_
  exact TX_ret (.inl rfl) (resCT 0 rfl rfl rfl Tryd.underlying33 rfl rfl YtjdaglmkljbfkaaDoorF.sz_33) ⟨_, ⟨rfl, rfl⟩, fun w h => h.cnt fun p => by simp only [upd, List.countP_append, List.countP_cons, List.countP_nil]; omega⟩
set_option maxHeartbeats 1000000 in
theorem Decode_A (w0 : Base) (η : Heap) (hG : Sets w0) (L : Lay) (hk : okB L = true) (hty : L.ty = 4 ∨ L.ty = 5) (sv : Value) (bs : List Nat) (hs : SlA (St w0 η) sv 1 bs.length (byV bs)) (hb : ∀ c ∈ bs, c < 256) :
    CallsT Tryd.prog 7 [L.val, sv] (St w0 η) fun v A' => ∃ rv H, v = .tuple #[.agg #[rv, nilS], .int .i64 (dcE L bs)] ∧ Frag 67 7 rv (dcO L bs).length (flatR (dcO L bs)) H ∧ A' = St w0 (H ++ η) := by
  have he : errOf L = 0 := by unfold errOf; rw [if_pos hk]
  obtain ⟨j, hj⟩ := ways_A hty
  refine CallsT.body Tryd.func7 rfl rfl ?_
  simp only [Tryd.ntmps7, slotsOf, Nat.reduceAdd]
  refine TC_seq ?_
  refine TC_reg ?_
  refine TL_e rfl rfl rfl (rfl) (ET_box rfl rfl) ?_
  rintro _ _ ⟨b2, rfl, rfl⟩
  refine TL_e rfl rfl rfl (rfl) (ET_alloc rfl YtjdaglmkljbfkaaDoorF.zero_33) ?_
  rintro _ _ ⟨b4, rfl, rfl⟩
  refine TL_q rfl rfl (QT_assign rfl rfl rfl) ?_
  refine TL_nil ?_
  refine TX_then ?_
  refine TC_seq ?_
  refine TC_seq ?_
  refine TC_A (St w0 ((b4, 33, [nilS, nilS]) :: (b2, 27, L.cells) :: η)) (fun _ h => h) ?_
  refine TC_reg ?_
  first
    | refine TL_q rfl rfl (QT_loadW 0 rfl rfl Tryd.underlying27 rfl rfl rfl YtjdaglmkljbfkaaDoorF.sz_27) ?_
    | refine TL_q rfl rfl (QT_loadW 1 rfl rfl Tryd.underlying27 rfl rfl rfl YtjdaglmkljbfkaaDoorF.sz_27) ?_
    | refine TL_q rfl rfl (QT_loadW 2 rfl rfl Tryd.underlying27 rfl rfl rfl YtjdaglmkljbfkaaDoorF.sz_27) ?_
    | refine TL_q rfl rfl (QT_loadA 0 rfl rfl Tryd.underlying27 rfl rfl rfl YtjdaglmkljbfkaaDoorF.sz_27 (fun _ => rfl)) ?_
    | refine TL_q rfl rfl (QT_loadA 1 rfl rfl Tryd.underlying27 rfl rfl rfl YtjdaglmkljbfkaaDoorF.sz_27 (fun _ => rfl)) ?_
    | refine TL_q rfl rfl (QT_loadA 2 rfl rfl Tryd.underlying27 rfl rfl rfl YtjdaglmkljbfkaaDoorF.sz_27 (fun _ => rfl)) ?_
  refine TL_cq rfl rfl rfl rfl YtjdaglmkljbfkaaDoorF.cal_10 rfl (fun _ => check_spec w0 _ hG L) ?_
  refine TL_q rfl rfl (QT_neq rfl rfl rfl rfl) ?_
  refine TL_nil ?_
  refine TX_then ?_
  refine TC_cond rfl (fun h => absurd (h.symm.trans ((show decide (errOf L ≠ 0) = false by rw [he]; decide))) (by decide)) (fun _ => ?_)
  refine TC_skip ?_
  refine TX_then ?_
  refine TC_seq ?_
  refine TC_draw [(1, 0), (2, 0), (5, 0), (6, 0), (0, 1), (3, 0), (4, 0), (7, 1), (8, 0), (9, 0), (10, 1), (11, 0)] YtjdaglmkljbfkaaDoorF.mixed (by kernel_rfl) (St.calm _ _) ?_
  refine TV_q rfl rfl rfl (fun _ => QT_field rfl rfl YtjdaglmkljbfkaaDoorF.fld_27_0 rfl) ?_
  first
    | refine TV_ql rfl rfl rfl (QT_load (v := .int .i64 L.ty) 1 rfl rfl Tryd.underlying3 rfl rfl rfl (fun _ => rfl)) ?_
    | refine TV_ql rfl rfl rfl (QT_under (QT_load (w0 := w0) (η := (b4, 33, [nilS, nilS]) :: (b2, 27, L.cells) :: η) (v := .int .i64 L.ty) 1 rfl rfl Tryd.underlying3 rfl rfl rfl (fun _ => rfl)) (fun w h => h.1)) ?_
    | refine TV_ql rfl rfl rfl (QT_under (QT_load (w0 := w0) (η := (b4, 33, [nilS, nilS]) :: (b2, 27, L.cells) :: η) (v := .int .i64 L.ty) 1 rfl rfl Tryd.underlying3 rfl rfl rfl (fun _ => rfl)) (fun w h => h.1.app_right)) ?_
  first
    | refine TV_ql rfl rfl rfl (QT_loadW (cs := L.cells) 1 rfl rfl Tryd.underlying27 rfl rfl rfl YtjdaglmkljbfkaaDoorF.sz_27) ?_
    | refine TV_ql rfl rfl rfl (QT_under (QT_loadW (w0 := w0) (η := (b4, 33, [nilS, nilS]) :: (b2, 27, L.cells) :: η) (cs := L.cells) 1 rfl rfl Tryd.underlying27 rfl rfl rfl YtjdaglmkljbfkaaDoorF.sz_27) (fun w h => h.1)) ?_
  refine TV_q rfl rfl rfl (fun _ => QT_move rfl rfl rfl) ?_
  refine TV_e rfl rfl rfl rfl (rfl) (ET_call rfl YtjdaglmkljbfkaaDoorF.cal_21 rfl (byType_spec w0 _)) ?_
  rintro _ _ ⟨m10, rfl, rfl⟩
  refine ⟨_, .keep (by kernel_rfl) rfl (by first | exact QT_loadW (cs := L.cells) 1 rfl rfl Tryd.underlying27 rfl rfl rfl YtjdaglmkljbfkaaDoorF.sz_27 | exact QT_under (QT_loadW (w0 := w0) (η := (b4, 33, [nilS, nilS]) :: (b2, 27, L.cells) :: η) (cs := L.cells) 1 rfl rfl Tryd.underlying27 rfl rfl rfl YtjdaglmkljbfkaaDoorF.sz_27) (fun w h => h.1)) (.keep (by kernel_rfl) rfl (by first | exact QT_load (v := .int .i64 L.ty) 1 rfl rfl Tryd.underlying3 rfl rfl rfl (fun _ => rfl) | exact QT_under (QT_load (w0 := w0) (η := (b4, 33, [nilS, nilS]) :: (b2, 27, L.cells) :: η) (v := .int .i64 L.ty) 1 rfl rfl Tryd.underlying3 rfl rfl rfl (fun _ => rfl)) (fun w h => h.1) | exact QT_under (QT_load (w0 := w0) (η := (b4, 33, [nilS, nilS]) :: (b2, 27, L.cells) :: η) (v := .int .i64 L.ty) 1 rfl rfl Tryd.underlying3 rfl rfl rfl (fun _ => rfl)) (fun w h => h.1.app_right)) (.nil)), ?_⟩
  refine TV_ql rfl rfl rfl ((by exact QT_lookup rfl rfl rfl rfl Tryd.underlying73 Tryd.underlying3 (show MapKept.IsKey (.int .i64) (.int .i64 L.ty) from rfl) hj)) ?_
  refine TV_q rfl rfl rfl (fun _ => QT_fieldv rfl rfl Tryd.underlying72 rfl Tryd.underlying36 rfl rfl (fun _ => rfl)) ?_
  refine TV_e rfl rfl rfl rfl (rfl) (ET_goes (Goes.value rfl rfl YtjdaglmkljbfkaaDoorF.cal_45 rfl) (callsT_mapH fun B h1 h2 => callsT_H2 (decA_spec B ((b4, 33, [nilS, nilS]) :: (b2, 27, L.cells) :: η) (hG.up h2) L _ bs (hs.mono fun w h => (h1 w h).tail.tail) hb))) ?_
  rintro _ _ ⟨H1, ⟨rv, rfl, hF1⟩, rfl⟩
  refine ⟨_, .keep (by kernel_rfl) rfl (by first | exact (by exact QT_lookup rfl rfl rfl rfl Tryd.underlying73 Tryd.underlying3 (show MapKept.IsKey (.int .i64) (.int .i64 L.ty) from rfl) hj)) (.drop (by kernel_rfl) (.keep (by kernel_rfl) rfl (by first | exact QT_load (v := .int .i64 L.ty) 1 rfl rfl Tryd.underlying3 rfl rfl rfl (fun _ => rfl) | exact QT_under (QT_load (w0 := w0) (η := (b4, 33, [nilS, nilS]) :: (b2, 27, L.cells) :: η) (v := .int .i64 L.ty) 1 rfl rfl Tryd.underlying3 rfl rfl rfl (fun _ => rfl)) (fun w h => h.1) | exact QT_under (QT_load (w0 := w0) (η := (b4, 33, [nilS, nilS]) :: (b2, 27, L.cells) :: η) (v := .int .i64 L.ty) 1 rfl rfl Tryd.underlying3 rfl rfl rfl (fun _ => rfl)) (fun w h => h.1.app_right)) (.nil))), ?_⟩
  refine TV_q rfl rfl rfl (fun _ => QT_extract rfl rfl rfl rfl) ?_
  refine TV_q rfl rfl rfl (fun _ => QT_extract rfl rfl rfl rfl) ?_
  obtain ⟨rad, rcap, rfl, _, _⟩ := hF1.slice
  refine TV_e0 rfl rfl rfl (rfl) (ET_under (ET_storeW (w0 := w0) (η := (b4, 33, [nilS, nilS]) :: (H1 ++ ((b2, 27, L.cells) :: η))) (vs := [.slice rad (dcO L bs).length rcap, nilS]) 0 rfl rfl rfl YtjdaglmkljbfkaaDoorF.sz_33 rfl rfl rfl) (fun w h => h.1.cnt fun p => by simp only [List.countP_append, List.countP_cons, List.countP_nil]; omega)) ?_
  rintro _ _ ⟨rfl, rfl⟩
  refine ⟨_, .drop (by kernel_rfl) (.drop (by kernel_rfl) (.nil)), ?_⟩
  refine TV_q rfl rfl rfl (fun _ => QT_assign rfl rfl rfl) ?_
  refine TV_end ?_
  refine TX_then ?_
  refine TC_ret ?_
  exact TX_ret (.inl rfl) (resCT 0 rfl rfl rfl Tryd.underlying33 rfl rfl YtjdaglmkljbfkaaDoorF.sz_33) ⟨_, ⟨_, H1, rfl, hF1, rfl⟩, fun w h => h.cnt fun p => by simp only [upd, List.countP_append, List.countP_cons, List.countP_nil]; omega⟩
end Go.Proofs.YtjdaglmkljbfkaaDoor
namespace Go.Proofs.YtjdaglmkljbfkaaDoor
open Go Go.Gx Go.RowKit
set_option maxRecDepth 100000
set_option maxHeartbeats 1000000 in
theorem Decode_B (w0 : Base) (η : Heap) (hG : Sets w0) (hE : T12.Edges w0) (L : Lay) (hk : okB L = true) (hty : L.ty = 6 ∨ L.ty = 7) (sv : Value) (bs : List Nat) (hs : SlA (St w0 η) sv 1 bs.length (byV bs)) (hb : ∀ c ∈ bs, c < 256) (hl0 : bs.length ≤ 140737488355328) :
    CallsT Tryd.prog 7 [L.val, sv] (St w0 η) fun v A' => ∃ rv H, v = .tuple #[.agg #[nilS, rv], .int .i64 (dsE L bs)] ∧ Frag 79 49 rv (dsO L bs).length (flatS (dsO L bs)) H ∧ A' = St w0 (H ++ η) := by
  have he : errOf L = 0 := by unfold errOf; rw [if_pos hk]
  obtain ⟨j, hj⟩ := ways_B hty
  refine CallsT.body Tryd.func7 rfl rfl ?_
  simp only [Tryd.ntmps7, slotsOf, Nat.reduceAdd]
  refine TC_seq ?_
  refine TC_reg ?_
  refine TL_e rfl rfl rfl (rfl) (ET_box rfl rfl) ?_
  rintro _ _ ⟨b2, rfl, rfl⟩
  refine TL_e rfl rfl rfl (rfl) (ET_alloc rfl YtjdaglmkljbfkaaDoorF.zero_33) ?_
  rintro _ _ ⟨b4, rfl, rfl⟩
  refine TL_q rfl rfl (QT_assign rfl rfl rfl) ?_
  refine TL_nil ?_
  refine TX_then ?_
  refine TC_seq ?_
  refine TC_seq ?_
  refine TC_A (St w0 ((b4, 33, [nilS, nilS]) :: (b2, 27, L.cells) :: η)) (fun _ h => h) ?_
  refine TC_reg ?_
  first
    | refine TL_q rfl rfl (QT_loadW 0 rfl rfl Tryd.underlying27 rfl rfl rfl YtjdaglmkljbfkaaDoorF.sz_27) ?_
    | refine TL_q rfl rfl (QT_loadW 1 rfl rfl Tryd.underlying27 rfl rfl rfl YtjdaglmkljbfkaaDoorF.sz_27) ?_
    | refine TL_q rfl rfl (QT_loadW 2 rfl rfl Tryd.underlying27 rfl rfl rfl YtjdaglmkljbfkaaDoorF.sz_27) ?_
    | refine TL_q rfl rfl (QT_loadA 0 rfl rfl Tryd.underlying27 rfl rfl rfl YtjdaglmkljbfkaaDoorF.sz_27 (fun _ => rfl)) ?_
    | refine TL_q rfl rfl (QT_loadA 1 rfl rfl Tryd.underlying27 rfl rfl rfl YtjdaglmkljbfkaaDoorF.sz_27 (fun _ => rfl)) ?_
    | refine TL_q rfl rfl (QT_loadA 2 rfl rfl Tryd.underlying27 rfl rfl rfl YtjdaglmkljbfkaaDoorF.sz_27 (fun _ => rfl)) ?_
  refine TL_cq rfl rfl rfl rfl YtjdaglmkljbfkaaDoorF.cal_10 rfl (fun _ => check_spec w0 _ hG L) ?_
  refine TL_q rfl rfl (QT_neq rfl rfl rfl rfl) ?_
  refine TL_nil ?_
  refine TX_then ?_
  refine TC_cond rfl (fun h => absurd (h.symm.trans ((show decide (errOf L ≠ 0) = false by rw [he]; decide))) (by decide)) (fun _ => ?_)
  refine TC_skip ?_
  refine TX_then ?_
  refine TC_seq ?_
  refine TC_draw [(1, 0), (2, 0), (5, 0), (6, 0), (0, 1), (3, 0), (4, 0), (7, 1), (8, 0), (9, 0), (10, 1), (11, 0)] YtjdaglmkljbfkaaDoorF.mixed (by kernel_rfl) (St.calm _ _) ?_
  refine TV_q rfl rfl rfl (fun _ => QT_field rfl rfl YtjdaglmkljbfkaaDoorF.fld_27_0 rfl) ?_
  first
    | refine TV_ql rfl rfl rfl (QT_load (v := .int .i64 L.ty) 1 rfl rfl Tryd.underlying3 rfl rfl rfl (fun _ => rfl)) ?_
    | refine TV_ql rfl rfl rfl (QT_under (QT_load (w0 := w0) (η := (b4, 33, [nilS, nilS]) :: (b2, 27, L.cells) :: η) (v := .int .i64 L.ty) 1 rfl rfl Tryd.underlying3 rfl rfl rfl (fun _ => rfl)) (fun w h => h.1)) ?_
    | refine TV_ql rfl rfl rfl (QT_under (QT_load (w0 := w0) (η := (b4, 33, [nilS, nilS]) :: (b2, 27, L.cells) :: η) (v := .int .i64 L.ty) 1 rfl rfl Tryd.underlying3 rfl rfl rfl (fun _ => rfl)) (fun w h => h.1.app_right)) ?_
  first
    | refine TV_ql rfl rfl rfl (QT_loadW (cs := L.cells) 1 rfl rfl Tryd.underlying27 rfl rfl rfl YtjdaglmkljbfkaaDoorF.sz_27) ?_
    | refine TV_ql rfl rfl rfl (QT_under (QT_loadW (w0 := w0) (η := (b4, 33, [nilS, nilS]) :: (b2, 27, L.cells) :: η) (cs := L.cells) 1 rfl rfl Tryd.underlying27 rfl rfl rfl YtjdaglmkljbfkaaDoorF.sz_27) (fun w h => h.1)) ?_
  refine TV_q rfl rfl rfl (fun _ => QT_move rfl rfl rfl) ?_
  refine TV_e rfl rfl rfl rfl (rfl) (ET_call rfl YtjdaglmkljbfkaaDoorF.cal_21 rfl (byType_spec w0 _)) ?_
  rintro _ _ ⟨m10, rfl, rfl⟩
  refine ⟨_, .keep (by kernel_rfl) rfl (by first | exact QT_loadW (cs := L.cells) 1 rfl rfl Tryd.underlying27 rfl rfl rfl YtjdaglmkljbfkaaDoorF.sz_27 | exact QT_under (QT_loadW (w0 := w0) (η := (b4, 33, [nilS, nilS]) :: (b2, 27, L.cells) :: η) (cs := L.cells) 1 rfl rfl Tryd.underlying27 rfl rfl rfl YtjdaglmkljbfkaaDoorF.sz_27) (fun w h => h.1)) (.keep (by kernel_rfl) rfl (by first | exact QT_load (v := .int .i64 L.ty) 1 rfl rfl Tryd.underlying3 rfl rfl rfl (fun _ => rfl) | exact QT_under (QT_load (w0 := w0) (η := (b4, 33, [nilS, nilS]) :: (b2, 27, L.cells) :: η) (v := .int .i64 L.ty) 1 rfl rfl Tryd.underlying3 rfl rfl rfl (fun _ => rfl)) (fun w h => h.1) | exact QT_under (QT_load (w0 := w0) (η := (b4, 33, [nilS, nilS]) :: (b2, 27, L.cells) :: η) (v := .int .i64 L.ty) 1 rfl rfl Tryd.underlying3 rfl rfl rfl (fun _ => rfl)) (fun w h => h.1.app_right)) (.nil)), ?_⟩
  refine TV_ql rfl rfl rfl ((by exact QT_lookup rfl rfl rfl rfl Tryd.underlying73 Tryd.underlying3 (show MapKept.IsKey (.int .i64) (.int .i64 L.ty) from rfl) hj)) ?_
  refine TV_q rfl rfl rfl (fun _ => QT_fieldv rfl rfl Tryd.underlying72 rfl Tryd.underlying36 rfl rfl (fun _ => rfl)) ?_
  refine TV_e rfl rfl rfl rfl (rfl) (ET_goes (Goes.value rfl rfl YtjdaglmkljbfkaaDoorF.cal_51 rfl) (callsT_mapH fun B h1 h2 => callsT_H2 (decB_spec B ((b4, 33, [nilS, nilS]) :: (b2, 27, L.cells) :: η) (hG.up h2) (edgesUp hE h2) L _ bs (hs.mono fun w h => (h1 w h).tail.tail) hb hl0))) ?_
  rintro _ _ ⟨H1, ⟨rv, rfl, hF1⟩, rfl⟩
  refine ⟨_, .keep (by kernel_rfl) rfl (by first | exact (by exact QT_lookup rfl rfl rfl rfl Tryd.underlying73 Tryd.underlying3 (show MapKept.IsKey (.int .i64) (.int .i64 L.ty) from rfl) hj)) (.drop (by kernel_rfl) (.keep (by kernel_rfl) rfl (by first | exact QT_load (v := .int .i64 L.ty) 1 rfl rfl Tryd.underlying3 rfl rfl rfl (fun _ => rfl) | exact QT_under (QT_load (w0 := w0) (η := (b4, 33, [nilS, nilS]) :: (b2, 27, L.cells) :: η) (v := .int .i64 L.ty) 1 rfl rfl Tryd.underlying3 rfl rfl rfl (fun _ => rfl)) (fun w h => h.1) | exact QT_under (QT_load (w0 := w0) (η := (b4, 33, [nilS, nilS]) :: (b2, 27, L.cells) :: η) (v := .int .i64 L.ty) 1 rfl rfl Tryd.underlying3 rfl rfl rfl (fun _ => rfl)) (fun w h => h.1.app_right)) (.nil))), ?_⟩
  refine TV_q rfl rfl rfl (fun _ => QT_extract rfl rfl rfl rfl) ?_
  refine TV_q rfl rfl rfl (fun _ => QT_extract rfl rfl rfl rfl) ?_
  obtain ⟨rad, rcap, rfl, _, _⟩ := hF1.slice
  refine TV_e0 rfl rfl rfl (rfl) (ET_under (ET_storeW (w0 := w0) (η := (b4, 33, [nilS, nilS]) :: (H1 ++ ((b2, 27, L.cells) :: η))) (vs := [nilS, .slice rad (dsO L bs).length rcap]) 0 rfl rfl rfl YtjdaglmkljbfkaaDoorF.sz_33 rfl rfl rfl) (fun w h => h.1.cnt fun p => by simp only [List.countP_append, List.countP_cons, List.countP_nil]; omega)) ?_
  rintro _ _ ⟨rfl, rfl⟩
  refine ⟨_, .drop (by kernel_rfl) (.drop (by kernel_rfl) (.nil)), ?_⟩
  refine TV_q rfl rfl rfl (fun _ => QT_assign rfl rfl rfl) ?_
  refine TV_end ?_
  refine TX_then ?_
  refine TC_ret ?_
  exact TX_ret (.inl rfl) (resCT 0 rfl rfl rfl Tryd.underlying33 rfl rfl YtjdaglmkljbfkaaDoorF.sz_33) ⟨_, ⟨_, H1, rfl, hF1, rfl⟩, fun w h => h.cnt fun p => by simp only [upd, List.countP_append, List.countP_cons, List.countP_nil]; omega⟩
/-- what bytes tell -/
def dmE (L : Lay) (bs : List Nat) : Int := if okB L = true then (if L.ty ≤ 5 then dcE L bs else dsE L bs) else 4
def dmR (L : Lay) (bs : List Nat) : List (List Nat) := if okB L = true ∧ L.ty ≤ 5 then dcO L bs else []
def dmS (L : Lay) (bs : List Nat) : List (List Nat) := if okB L = true ∧ ¬L.ty ≤ 5 then dsO L bs else []
theorem Decode_spec (w0 : Base) (η : Heap) (hG : Sets w0) (hE : T12.Edges w0) (L : Lay) (sv : Value) (bs : List Nat) (hs : SlA (St w0 η) sv 1 bs.length (byV bs)) (hb : ∀ c ∈ bs, c < 256) (hl0 : bs.length ≤ 140737488355328) :
    CallsT Tryd.prog 7 [L.val, sv] (St w0 η) fun v A' => ∃ rv H tv H', v = .tuple #[.agg #[rv, tv], .int .i64 (dmE L bs)] ∧ Frag 67 7 rv (dmR L bs).length (flatR (dmR L bs)) H ∧ Frag 79 49 tv (dmS L bs).length (flatS (dmS L bs)) H' ∧ A' = St w0 (H ++ (H' ++ η)) := by
  by_cases hk : okB L = true
  · have h4 := (okB_bounds hk).2.2.2.1
    by_cases h5 : L.ty ≤ 5
    · have e1 : dmE L bs = dcE L bs := by unfold dmE; rw [if_pos hk, if_pos h5]
      have e2 : dmR L bs = dcO L bs := by unfold dmR; rw [if_pos ⟨hk, h5⟩]
      have e3 : dmS L bs = [] := by unfold dmS; rw [if_neg fun h => h.2 h5]
      refine (Decode_A w0 η hG L hk (by omega) sv bs hs hb).mono ?_
      rintro _ _ ⟨rv, H, rfl, hF, rfl⟩
      exact ⟨_, ⟨rv, H, nilS, [], by rw [e1], by rw [e2]; exact hF, by rw [e3]; exact Frag.nil _ _, rfl⟩, fun _ h => h⟩
    · have e1 : dmE L bs = dsE L bs := by unfold dmE; rw [if_pos hk, if_neg h5]
      have e2 : dmR L bs = [] := by unfold dmR; rw [if_neg fun h => h5 h.2]
      have e3 : dmS L bs = dsO L bs := by unfold dmS; rw [if_pos ⟨hk, h5⟩]
      refine (Decode_B w0 η hG hE L hk (by omega) sv bs hs hb hl0).mono ?_
      rintro _ _ ⟨rv, H, rfl, hF, rfl⟩
      exact ⟨_, ⟨nilS, [], rv, H, by rw [e1], by rw [e2]; exact Frag.nil _ _, by rw [e3]; exact hF, rfl⟩, fun _ h => h⟩
  · have e1 : dmE L bs = 4 := by unfold dmE; rw [if_neg hk]
    have e2 : dmR L bs = [] := by unfold dmR; rw [if_neg fun h => hk h.1]
    have e3 : dmS L bs = [] := by unfold dmS; rw [if_neg fun h => hk h.1]
    refine (Decode_bad w0 η hG L (by simpa using hk) sv).mono ?_
    rintro _ _ ⟨rfl, rfl⟩
    exact ⟨_, ⟨nilS, [], nilS, [], by rw [e1], by rw [e2]; exact Frag.nil _ _, by rw [e3]; exact Frag.nil _ _, rfl⟩, fun _ h => h⟩
end Go.Proofs.YtjdaglmkljbfkaaDoor
namespace Go.Proofs.YtjdaglmkljbfkaaDoor
open Go Go.Gx Go.RowKit
set_option maxRecDepth 100000
theorem Encode_no (w0 : Base) (η : Heap) (L : Lay) (ra sa : Option Addr) (nr ns rc sc : Nat) (E : Int) (hE0 : E ≠ 0)
    (hmay : ∀ X : Heap, CallsT Tryd.prog 22 [L.val, .agg #[.slice ra nr rc, .slice sa ns sc]] (St w0 X) fun v A' => v = .int .i64 E ∧ A' = St w0 X) :
    CallsT Tryd.prog 8 [L.val, .agg #[.slice ra nr rc, .slice sa ns sc]] (St w0 η) fun v A' => v = .tuple #[nilS, .int .i64 E] ∧ A' = St w0 η := by
  refine CallsT.body Tryd.func8 rfl rfl ?_
  simp only [Tryd.ntmps8, slotsOf, Nat.reduceAdd]
  refine TC_seq ?_
  refine TC_reg ?_
  refine TL_e rfl rfl rfl (rfl) (ET_box rfl rfl) ?_
  rintro _ _ ⟨b2, rfl, rfl⟩
  refine TL_e rfl rfl rfl (rfl) (ET_box rfl rfl) ?_
  rintro _ _ ⟨b3, rfl, rfl⟩
  refine TL_q rfl rfl (QT_assign rfl rfl rfl) ?_
  refine TL_q rfl rfl (QT_assign rfl rfl rfl) ?_
  refine TL_nil ?_
  refine TX_then ?_
  refine TC_seq ?_
  refine TC_seq ?_
  refine TC_A (St w0 ((b3, 33, [.slice ra nr rc, .slice sa ns sc]) :: (b2, 27, L.cells) :: η)) (fun _ h => h) ?_
  refine TC_reg ?_
  first
    | refine TL_q rfl rfl (QT_loadW 0 rfl rfl Tryd.underlying27 rfl rfl rfl YtjdaglmkljbfkaaDoorF.sz_27) ?_
    | refine TL_q rfl rfl (QT_loadW 1 rfl rfl Tryd.underlying27 rfl rfl rfl YtjdaglmkljbfkaaDoorF.sz_27) ?_
    | refine TL_q rfl rfl (QT_loadW 2 rfl rfl Tryd.underlying27 rfl rfl rfl YtjdaglmkljbfkaaDoorF.sz_27) ?_
    | refine TL_q rfl rfl (QT_loadA 0 rfl rfl Tryd.underlying27 rfl rfl rfl YtjdaglmkljbfkaaDoorF.sz_27 (fun _ => rfl)) ?_
    | refine TL_q rfl rfl (QT_loadA 1 rfl rfl Tryd.underlying27 rfl rfl rfl YtjdaglmkljbfkaaDoorF.sz_27 (fun _ => rfl)) ?_
    | refine TL_q rfl rfl (QT_loadA 2 rfl rfl Tryd.underlying27 rfl rfl rfl YtjdaglmkljbfkaaDoorF.sz_27 (fun _ => rfl)) ?_
  first
    | refine TL_q rfl rfl (QT_loadW 0 rfl rfl Tryd.underlying33 rfl rfl rfl YtjdaglmkljbfkaaDoorF.sz_33) ?_
    | refine TL_q rfl rfl (QT_loadW 1 rfl rfl Tryd.underlying33 rfl rfl rfl YtjdaglmkljbfkaaDoorF.sz_33) ?_
    | refine TL_q rfl rfl (QT_loadW 2 rfl rfl Tryd.underlying33 rfl rfl rfl YtjdaglmkljbfkaaDoorF.sz_33) ?_
    | refine TL_q rfl rfl (QT_loadA 0 rfl rfl Tryd.underlying33 rfl rfl rfl YtjdaglmkljbfkaaDoorF.sz_33 (fun _ => rfl)) ?_
    | refine TL_q rfl rfl (QT_loadA 1 rfl rfl Tryd.underlying33 rfl rfl rfl YtjdaglmkljbfkaaDoorF.sz_33 (fun _ => rfl)) ?_
    | refine TL_q rfl rfl (QT_loadA 2 rfl rfl Tryd.underlying33 rfl rfl rfl YtjdaglmkljbfkaaDoorF.sz_33 (fun _ => rfl)) ?_
  refine TL_cq rfl rfl rfl rfl YtjdaglmkljbfkaaDoorF.cal_22 rfl (fun _ => hmay _) ?_
  refine TL_q rfl rfl (QT_assign rfl rfl rfl) ?_
  refine TL_nil ?_
  refine TX_then ?_
  refine TC_seq ?_
  refine TC_reg ?_
  refine TL_q rfl rfl (QT_move rfl rfl rfl) ?_
  refine TL_q rfl rfl (QT_neq rfl rfl rfl rfl) ?_
  refine TL_nil ?_
  refine TX_then ?_
  refine TC_cond rfl (fun _ => ?_) (fun h => absurd (h.symm.trans ((show decide (E ≠ 0) = true from decide_eq_true hE0))) (by decide))
  refine TC_seq ?_
  refine TC_reg ?_
  refine TL_q rfl rfl (QT_move rfl rfl rfl) ?_
  refine TL_q rfl rfl (QT_assign rfl rfl rfl) ?_
  refine TL_q rfl rfl (QT_assign rfl rfl rfl) ?_
  refine TL_nil ?_
  refine TX_then ?_
  refine TC_ret ?_
  refine TX_then_ret ?_
  exact TX_ret (.inl rfl) (res2 rfl rfl rfl) ⟨_, ⟨rfl, rfl⟩, fun _ h => h.tail.tail⟩
set_option maxHeartbeats 1000000 in
theorem Encode_A (w0 : Base) (η : Heap) (hG : Sets w0) (hE : T12.Edges w0) (L : Lay) (hk : okB L = true) (hty : (L.ty = 4 ∨ L.ty = 5)) (ra sa : Option Addr) (n rc sc : Nat) (rs : List (List Nat)) (hs : SlA (St w0 η) (.slice ra rs.length rc) 7 rs.length (flatR rs)) (hr : ∀ r ∈ rs, RcF r) (hn : rs.length ≤ 100000000) (h0 : n = 0) :
    CallsT Tryd.prog 8 [L.val, .agg #[.slice ra rs.length rc, .slice sa n sc]] (St w0 η) fun v A' => ∃ bv H, v = .tuple #[bv, .int .i64 (ecE L rs)] ∧ Frag 5 1 bv (ecO L rs).length (byV (ecO L rs)) H ∧ A' = St w0 (H ++ η) := by
  obtain ⟨j, hj⟩ := ways_A hty
  have he : (if n = 0 then (0 : Int) else 1) = 0 := if_pos h0
  refine CallsT.body Tryd.func8 rfl rfl ?_
  simp only [Tryd.ntmps8, slotsOf, Nat.reduceAdd]
  refine TC_seq ?_
  refine TC_reg ?_
  refine TL_e rfl rfl rfl (rfl) (ET_box rfl rfl) ?_
  rintro _ _ ⟨b2, rfl, rfl⟩
  refine TL_e rfl rfl rfl (rfl) (ET_box rfl rfl) ?_
  rintro _ _ ⟨b3, rfl, rfl⟩
  refine TL_q rfl rfl (QT_assign rfl rfl rfl) ?_
  refine TL_q rfl rfl (QT_assign rfl rfl rfl) ?_
  refine TL_nil ?_
  refine TX_then ?_
  refine TC_seq ?_
  refine TC_seq ?_
  refine TC_A (St w0 ((b3, 33, [.slice ra rs.length rc, .slice sa n sc]) :: (b2, 27, L.cells) :: η)) (fun _ h => h) ?_
  refine TC_reg ?_
  first
    | refine TL_q rfl rfl (QT_loadW 0 rfl rfl Tryd.underlying27 rfl rfl rfl YtjdaglmkljbfkaaDoorF.sz_27) ?_
    | refine TL_q rfl rfl (QT_loadW 1 rfl rfl Tryd.underlying27 rfl rfl rfl YtjdaglmkljbfkaaDoorF.sz_27) ?_
    | refine TL_q rfl rfl (QT_loadW 2 rfl rfl Tryd.underlying27 rfl rfl rfl YtjdaglmkljbfkaaDoorF.sz_27) ?_
    | refine TL_q rfl rfl (QT_loadA 0 rfl rfl Tryd.underlying27 rfl rfl rfl YtjdaglmkljbfkaaDoorF.sz_27 (fun _ => rfl)) ?_
    | refine TL_q rfl rfl (QT_loadA 1 rfl rfl Tryd.underlying27 rfl rfl rfl YtjdaglmkljbfkaaDoorF.sz_27 (fun _ => rfl)) ?_
    | refine TL_q rfl rfl (QT_loadA 2 rfl rfl Tryd.underlying27 rfl rfl rfl YtjdaglmkljbfkaaDoorF.sz_27 (fun _ => rfl)) ?_
  first
    | refine TL_q rfl rfl (QT_loadW 0 rfl rfl Tryd.underlying33 rfl rfl rfl YtjdaglmkljbfkaaDoorF.sz_33) ?_
    | refine TL_q rfl rfl (QT_loadW 1 rfl rfl Tryd.underlying33 rfl rfl rfl YtjdaglmkljbfkaaDoorF.sz_33) ?_
    | refine TL_q rfl rfl (QT_loadW 2 rfl rfl Tryd.underlying33 rfl rfl rfl YtjdaglmkljbfkaaDoorF.sz_33) ?_
    | refine TL_q rfl rfl (QT_loadA 0 rfl rfl Tryd.underlying33 rfl rfl rfl YtjdaglmkljbfkaaDoorF.sz_33 (fun _ => rfl)) ?_
    | refine TL_q rfl rfl (QT_loadA 1 rfl rfl Tryd.underlying33 rfl rfl rfl YtjdaglmkljbfkaaDoorF.sz_33 (fun _ => rfl)) ?_
    | refine TL_q rfl rfl (QT_loadA 2 rfl rfl Tryd.underlying33 rfl rfl rfl YtjdaglmkljbfkaaDoorF.sz_33 (fun _ => rfl)) ?_
  refine TL_cq rfl rfl rfl rfl YtjdaglmkljbfkaaDoorF.cal_22 rfl (fun _ => may_A w0 _ hG L hk hty _ _ _ _ _ _) ?_
  refine TL_q rfl rfl (QT_assign rfl rfl rfl) ?_
  refine TL_nil ?_
  refine TX_then ?_
  refine TC_seq ?_
  refine TC_reg ?_
  refine TL_q rfl rfl (QT_move rfl rfl rfl) ?_
  refine TL_q rfl rfl (QT_neq rfl rfl rfl rfl) ?_
  refine TL_nil ?_
  refine TX_then ?_
  refine TC_cond rfl (fun h => absurd (h.symm.trans ((show decide ((if n = 0 then (0 : Int) else 1) ≠ 0) = false by rw [he]; decide))) (by decide)) (fun _ => ?_)
  refine TC_skip ?_
  refine TX_then ?_
  refine TC_seq ?_
  refine TC_draw [(1, 0), (2, 0), (5, 0), (6, 0), (0, 1), (3, 0), (4, 0), (7, 1), (8, 0), (9, 0), (10, 0), (11, 0)] YtjdaglmkljbfkaaDoorF.mixed (by kernel_rfl) (St.calm _ _) ?_
  refine TV_q rfl rfl rfl (fun _ => QT_field rfl rfl YtjdaglmkljbfkaaDoorF.fld_27_0 rfl) ?_
  first
    | refine TV_ql rfl rfl rfl (QT_load (v := .int .i64 L.ty) 1 rfl rfl Tryd.underlying3 rfl rfl rfl (fun _ => rfl)) ?_
    | refine TV_ql rfl rfl rfl (QT_under (QT_load (w0 := w0) (η := (b3, 33, [.slice ra rs.length rc, .slice sa n sc]) :: (b2, 27, L.cells) :: η) (v := .int .i64 L.ty) 1 rfl rfl Tryd.underlying3 rfl rfl rfl (fun _ => rfl)) (fun w h => h.1)) ?_
    | refine TV_ql rfl rfl rfl (QT_under (QT_load (w0 := w0) (η := (b3, 33, [.slice ra rs.length rc, .slice sa n sc]) :: (b2, 27, L.cells) :: η) (v := .int .i64 L.ty) 1 rfl rfl Tryd.underlying3 rfl rfl rfl (fun _ => rfl)) (fun w h => h.1.app_right)) ?_
  first
    | refine TV_ql rfl rfl rfl (QT_loadW (cs := L.cells) 1 rfl rfl Tryd.underlying27 rfl rfl rfl YtjdaglmkljbfkaaDoorF.sz_27) ?_
    | refine TV_ql rfl rfl rfl (QT_under (QT_loadW (w0 := w0) (η := (b3, 33, [.slice ra rs.length rc, .slice sa n sc]) :: (b2, 27, L.cells) :: η) (cs := L.cells) 1 rfl rfl Tryd.underlying27 rfl rfl rfl YtjdaglmkljbfkaaDoorF.sz_27) (fun w h => h.1)) ?_
  first
    | refine TV_ql rfl rfl rfl (QT_loadW (cs := [.slice ra rs.length rc, .slice sa n sc]) 0 rfl rfl Tryd.underlying33 rfl rfl rfl YtjdaglmkljbfkaaDoorF.sz_33) ?_
    | refine TV_ql rfl rfl rfl (QT_under (QT_loadW (w0 := w0) (η := (b3, 33, [.slice ra rs.length rc, .slice sa n sc]) :: (b2, 27, L.cells) :: η) (cs := [.slice ra rs.length rc, .slice sa n sc]) 0 rfl rfl Tryd.underlying33 rfl rfl rfl YtjdaglmkljbfkaaDoorF.sz_33) (fun w h => h.1)) ?_
  refine TV_e rfl rfl rfl rfl (rfl) (ET_call rfl YtjdaglmkljbfkaaDoorF.cal_21 rfl (byType_spec w0 _)) ?_
  rintro _ _ ⟨m13, rfl, rfl⟩
  refine ⟨_, .keep (by kernel_rfl) rfl (by first | exact QT_loadW (cs := [.slice ra rs.length rc, .slice sa n sc]) 0 rfl rfl Tryd.underlying33 rfl rfl rfl YtjdaglmkljbfkaaDoorF.sz_33 | exact QT_under (QT_loadW (w0 := w0) (η := (b3, 33, [.slice ra rs.length rc, .slice sa n sc]) :: (b2, 27, L.cells) :: η) (cs := [.slice ra rs.length rc, .slice sa n sc]) 0 rfl rfl Tryd.underlying33 rfl rfl rfl YtjdaglmkljbfkaaDoorF.sz_33) (fun w h => h.1)) (.keep (by kernel_rfl) rfl (by first | exact QT_loadW (cs := L.cells) 1 rfl rfl Tryd.underlying27 rfl rfl rfl YtjdaglmkljbfkaaDoorF.sz_27 | exact QT_under (QT_loadW (w0 := w0) (η := (b3, 33, [.slice ra rs.length rc, .slice sa n sc]) :: (b2, 27, L.cells) :: η) (cs := L.cells) 1 rfl rfl Tryd.underlying27 rfl rfl rfl YtjdaglmkljbfkaaDoorF.sz_27) (fun w h => h.1)) (.keep (by kernel_rfl) rfl (by first | exact QT_load (v := .int .i64 L.ty) 1 rfl rfl Tryd.underlying3 rfl rfl rfl (fun _ => rfl) | exact QT_under (QT_load (w0 := w0) (η := (b3, 33, [.slice ra rs.length rc, .slice sa n sc]) :: (b2, 27, L.cells) :: η) (v := .int .i64 L.ty) 1 rfl rfl Tryd.underlying3 rfl rfl rfl (fun _ => rfl)) (fun w h => h.1) | exact QT_under (QT_load (w0 := w0) (η := (b3, 33, [.slice ra rs.length rc, .slice sa n sc]) :: (b2, 27, L.cells) :: η) (v := .int .i64 L.ty) 1 rfl rfl Tryd.underlying3 rfl rfl rfl (fun _ => rfl)) (fun w h => h.1.app_right)) (.nil))), ?_⟩
  refine TV_ql rfl rfl rfl ((by exact QT_lookup rfl rfl rfl rfl Tryd.underlying73 Tryd.underlying3 (show MapKept.IsKey (.int .i64) (.int .i64 L.ty) from rfl) hj)) ?_
  refine TV_q rfl rfl rfl (fun _ => QT_fieldv rfl rfl Tryd.underlying72 rfl Tryd.underlying38 rfl rfl (fun _ => rfl)) ?_
  refine TV_e rfl rfl rfl rfl (rfl) (ET_goes (Goes.value rfl rfl YtjdaglmkljbfkaaDoorF.cal_48 rfl) (callsT_mapH fun B h1 h2 => callsT_H2 (encA_spec B ((b3, 33, [.slice ra rs.length rc, .slice sa n sc]) :: (b2, 27, L.cells) :: η) (hG.up h2) L _ _ _ _ _ rs (hs.mono fun w h => (h1 w h).tail.tail) hr hn))) ?_
  rintro _ _ ⟨H1, ⟨bv, rfl, hF1⟩, rfl⟩
  refine ⟨_, .keep (by kernel_rfl) rfl (by first | exact (by exact QT_lookup rfl rfl rfl rfl Tryd.underlying73 Tryd.underlying3 (show MapKept.IsKey (.int .i64) (.int .i64 L.ty) from rfl) hj)) (.drop (by kernel_rfl) (.drop (by kernel_rfl) (.keep (by kernel_rfl) rfl (by first | exact QT_load (v := .int .i64 L.ty) 1 rfl rfl Tryd.underlying3 rfl rfl rfl (fun _ => rfl) | exact QT_under (QT_load (w0 := w0) (η := (b3, 33, [.slice ra rs.length rc, .slice sa n sc]) :: (b2, 27, L.cells) :: η) (v := .int .i64 L.ty) 1 rfl rfl Tryd.underlying3 rfl rfl rfl (fun _ => rfl)) (fun w h => h.1) | exact QT_under (QT_load (w0 := w0) (η := (b3, 33, [.slice ra rs.length rc, .slice sa n sc]) :: (b2, 27, L.cells) :: η) (v := .int .i64 L.ty) 1 rfl rfl Tryd.underlying3 rfl rfl rfl (fun _ => rfl)) (fun w h => h.1.app_right)) (.nil)))), ?_⟩
  refine TV_q rfl rfl rfl (fun _ => QT_extract rfl rfl rfl rfl) ?_
  refine TV_q rfl rfl rfl (fun _ => QT_extract rfl rfl rfl rfl) ?_
  refine TV_q rfl rfl rfl (fun _ => QT_assign rfl rfl rfl) ?_
  refine TV_q rfl rfl rfl (fun _ => QT_assign rfl rfl rfl) ?_
  refine TV_end ?_
  refine TX_then ?_
  refine TC_ret ?_
  exact TX_ret (.inl rfl) (res2 rfl rfl rfl) ⟨_, ⟨_, H1, rfl, hF1, rfl⟩, fun w h => h.1.cnt fun p => by simp only [List.countP_append, List.countP_cons, List.countP_nil]; omega⟩
set_option maxHeartbeats 1000000 in
theorem Encode_B (w0 : Base) (η : Heap) (hG : Sets w0) (hE : T12.Edges w0) (L : Lay) (hk : okB L = true) (hty : (L.ty = 6 ∨ L.ty = 7)) (ra sa : Option Addr) (n rc sc : Nat) (rs : List (List Nat)) (hs : SlA (St w0 η) (.slice sa rs.length sc) 49 rs.length (flatS rs)) (hr : ∀ r ∈ rs, ShF r) (hn : rs.length ≤ 1000000) (h0 : n = 0) :
    CallsT Tryd.prog 8 [L.val, .agg #[.slice ra n rc, .slice sa rs.length sc]] (St w0 η) fun v A' => ∃ bv H, v = .tuple #[bv, .int .i64 (esE L rs)] ∧ Frag 5 1 bv (esO L rs).length (byV (esO L rs)) H ∧ A' = St w0 (H ++ η) := by
  obtain ⟨j, hj⟩ := ways_B hty
  have he : (if n = 0 then (0 : Int) else 1) = 0 := if_pos h0
  refine CallsT.body Tryd.func8 rfl rfl ?_
  simp only [Tryd.ntmps8, slotsOf, Nat.reduceAdd]
  refine TC_seq ?_
  refine TC_reg ?_
  refine TL_e rfl rfl rfl (rfl) (ET_box rfl rfl) ?_
  rintro _ _ ⟨b2, rfl, rfl⟩
  refine TL_e rfl rfl rfl (rfl) (ET_box rfl rfl) ?_
  rintro _ _ ⟨b3, rfl, rfl⟩
  refine TL_q rfl rfl (QT_assign rfl rfl rfl) ?_
  refine TL_q rfl rfl (QT_assign rfl rfl rfl) ?_
  refine TL_nil ?_
  refine TX_then ?_
  refine TC_seq ?_
  refine TC_seq ?_
  refine TC_A (St w0 ((b3, 33, [.slice ra n rc, .slice sa rs.length sc]) :: (b2, 27, L.cells) :: η)) (fun _ h => h) ?_
  refine TC_reg ?_
  first
    | refine TL_q rfl rfl (QT_loadW 0 rfl rfl Tryd.underlying27 rfl rfl rfl YtjdaglmkljbfkaaDoorF.sz_27) ?_
    | refine TL_q rfl rfl (QT_loadW 1 rfl rfl Tryd.underlying27 rfl rfl rfl YtjdaglmkljbfkaaDoorF.sz_27) ?_
    | refine TL_q rfl rfl (QT_loadW 2 rfl rfl Tryd.underlying27 rfl rfl rfl YtjdaglmkljbfkaaDoorF.sz_27) ?_
    | refine TL_q rfl rfl (QT_loadA 0 rfl rfl Tryd.underlying27 rfl rfl rfl YtjdaglmkljbfkaaDoorF.sz_27 (fun _ => rfl)) ?_
    | refine TL_q rfl rfl (QT_loadA 1 rfl rfl Tryd.underlying27 rfl rfl rfl YtjdaglmkljbfkaaDoorF.sz_27 (fun _ => rfl)) ?_
    | refine TL_q rfl rfl (QT_loadA 2 rfl rfl Tryd.underlying27 rfl rfl rfl YtjdaglmkljbfkaaDoorF.sz_27 (fun _ => rfl)) ?_
  first
    | refine TL_q rfl rfl (QT_loadW 0 rfl rfl Tryd.underlying33 rfl rfl rfl YtjdaglmkljbfkaaDoorF.sz_33) ?_
    | refine TL_q rfl rfl (QT_loadW 1 rfl rfl Tryd.underlying33 rfl rfl rfl YtjdaglmkljbfkaaDoorF.sz_33) ?_
    | refine TL_q rfl rfl (QT_loadW 2 rfl rfl Tryd.underlying33 rfl rfl rfl YtjdaglmkljbfkaaDoorF.sz_33) ?_
    | refine TL_q rfl rfl (QT_loadA 0 rfl rfl Tryd.underlying33 rfl rfl rfl YtjdaglmkljbfkaaDoorF.sz_33 (fun _ => rfl)) ?_
    | refine TL_q rfl rfl (QT_loadA 1 rfl rfl Tryd.underlying33 rfl rfl rfl YtjdaglmkljbfkaaDoorF.sz_33 (fun _ => rfl)) ?_
    | refine TL_q rfl rfl (QT_loadA 2 rfl rfl Tryd.underlying33 rfl rfl rfl YtjdaglmkljbfkaaDoorF.sz_33 (fun _ => rfl)) ?_
  refine TL_cq rfl rfl rfl rfl YtjdaglmkljbfkaaDoorF.cal_22 rfl (fun _ => may_B w0 _ hG L hk hty _ _ _ _ _ _) ?_
  refine TL_q rfl rfl (QT_assign rfl rfl rfl) ?_
  refine TL_nil ?_
  refine TX_then ?_
  refine TC_seq ?_
  refine TC_reg ?_
  refine TL_q rfl rfl (QT_move rfl rfl rfl) ?_
  refine TL_q rfl rfl (QT_neq rfl rfl rfl rfl) ?_
  refine TL_nil ?_
  refine TX_then ?_
  refine TC_cond rfl (fun h => absurd (h.symm.trans ((show decide ((if n = 0 then (0 : Int) else 1) ≠ 0) = false by rw [he]; decide))) (by decide)) (fun _ => ?_)
  refine TC_skip ?_
  refine TX_then ?_
  refine TC_seq ?_
  refine TC_draw [(1, 0), (2, 0), (5, 0), (6, 0), (0, 1), (3, 0), (4, 0), (7, 1), (8, 0), (9, 0), (10, 0), (11, 0)] YtjdaglmkljbfkaaDoorF.mixed (by kernel_rfl) (St.calm _ _) ?_
  refine TV_q rfl rfl rfl (fun _ => QT_field rfl rfl YtjdaglmkljbfkaaDoorF.fld_27_0 rfl) ?_
  first
    | refine TV_ql rfl rfl rfl (QT_load (v := .int .i64 L.ty) 1 rfl rfl Tryd.underlying3 rfl rfl rfl (fun _ => rfl)) ?_
    | refine TV_ql rfl rfl rfl (QT_under (QT_load (w0 := w0) (η := (b3, 33, [.slice ra n rc, .slice sa rs.length sc]) :: (b2, 27, L.cells) :: η) (v := .int .i64 L.ty) 1 rfl rfl Tryd.underlying3 rfl rfl rfl (fun _ => rfl)) (fun w h => h.1)) ?_
    | refine TV_ql rfl rfl rfl (QT_under (QT_load (w0 := w0) (η := (b3, 33, [.slice ra n rc, .slice sa rs.length sc]) :: (b2, 27, L.cells) :: η) (v := .int .i64 L.ty) 1 rfl rfl Tryd.underlying3 rfl rfl rfl (fun _ => rfl)) (fun w h => h.1.app_right)) ?_
  first
    | refine TV_ql rfl rfl rfl (QT_loadW (cs := L.cells) 1 rfl rfl Tryd.underlying27 rfl rfl rfl YtjdaglmkljbfkaaDoorF.sz_27) ?_
    | refine TV_ql rfl rfl rfl (QT_under (QT_loadW (w0 := w0) (η := (b3, 33, [.slice ra n rc, .slice sa rs.length sc]) :: (b2, 27, L.cells) :: η) (cs := L.cells) 1 rfl rfl Tryd.underlying27 rfl rfl rfl YtjdaglmkljbfkaaDoorF.sz_27) (fun w h => h.1)) ?_
  first
    | refine TV_ql rfl rfl rfl (QT_loadW (cs := [.slice ra n rc, .slice sa rs.length sc]) 0 rfl rfl Tryd.underlying33 rfl rfl rfl YtjdaglmkljbfkaaDoorF.sz_33) ?_
    | refine TV_ql rfl rfl rfl (QT_under (QT_loadW (w0 := w0) (η := (b3, 33, [.slice ra n rc, .slice sa rs.length sc]) :: (b2, 27, L.cells) :: η) (cs := [.slice ra n rc, .slice sa rs.length sc]) 0 rfl rfl Tryd.underlying33 rfl rfl rfl YtjdaglmkljbfkaaDoorF.sz_33) (fun w h => h.1)) ?_
  refine TV_e rfl rfl rfl rfl (rfl) (ET_call rfl YtjdaglmkljbfkaaDoorF.cal_21 rfl (byType_spec w0 _)) ?_
  rintro _ _ ⟨m13, rfl, rfl⟩
  refine ⟨_, .keep (by kernel_rfl) rfl (by first | exact QT_loadW (cs := [.slice ra n rc, .slice sa rs.length sc]) 0 rfl rfl Tryd.underlying33 rfl rfl rfl YtjdaglmkljbfkaaDoorF.sz_33 | exact QT_under (QT_loadW (w0 := w0) (η := (b3, 33, [.slice ra n rc, .slice sa rs.length sc]) :: (b2, 27, L.cells) :: η) (cs := [.slice ra n rc, .slice sa rs.length sc]) 0 rfl rfl Tryd.underlying33 rfl rfl rfl YtjdaglmkljbfkaaDoorF.sz_33) (fun w h => h.1)) (.keep (by kernel_rfl) rfl (by first | exact QT_loadW (cs := L.cells) 1 rfl rfl Tryd.underlying27 rfl rfl rfl YtjdaglmkljbfkaaDoorF.sz_27 | exact QT_under (QT_loadW (w0 := w0) (η := (b3, 33, [.slice ra n rc, .slice sa rs.length sc]) :: (b2, 27, L.cells) :: η) (cs := L.cells) 1 rfl rfl Tryd.underlying27 rfl rfl rfl YtjdaglmkljbfkaaDoorF.sz_27) (fun w h => h.1)) (.keep (by kernel_rfl) rfl (by first | exact QT_load (v := .int .i64 L.ty) 1 rfl rfl Tryd.underlying3 rfl rfl rfl (fun _ => rfl) | exact QT_under (QT_load (w0 := w0) (η := (b3, 33, [.slice ra n rc, .slice sa rs.length sc]) :: (b2, 27, L.cells) :: η) (v := .int .i64 L.ty) 1 rfl rfl Tryd.underlying3 rfl rfl rfl (fun _ => rfl)) (fun w h => h.1) | exact QT_under (QT_load (w0 := w0) (η := (b3, 33, [.slice ra n rc, .slice sa rs.length sc]) :: (b2, 27, L.cells) :: η) (v := .int .i64 L.ty) 1 rfl rfl Tryd.underlying3 rfl rfl rfl (fun _ => rfl)) (fun w h => h.1.app_right)) (.nil))), ?_⟩
  refine TV_ql rfl rfl rfl ((by exact QT_lookup rfl rfl rfl rfl Tryd.underlying73 Tryd.underlying3 (show MapKept.IsKey (.int .i64) (.int .i64 L.ty) from rfl) hj)) ?_
  refine TV_q rfl rfl rfl (fun _ => QT_fieldv rfl rfl Tryd.underlying72 rfl Tryd.underlying38 rfl rfl (fun _ => rfl)) ?_
  refine TV_e rfl rfl rfl rfl (rfl) (ET_goes (Goes.value rfl rfl YtjdaglmkljbfkaaDoorF.cal_54 rfl) (callsT_mapH fun B h1 h2 => callsT_H2 (encB_spec B ((b3, 33, [.slice ra n rc, .slice sa rs.length sc]) :: (b2, 27, L.cells) :: η) (hG.up h2) (edgesUp hE h2) L _ _ _ _ _ rs (hs.mono fun w h => (h1 w h).tail.tail) hr hn))) ?_
  rintro _ _ ⟨H1, ⟨bv, rfl, hF1⟩, rfl⟩
  refine ⟨_, .keep (by kernel_rfl) rfl (by first | exact (by exact QT_lookup rfl rfl rfl rfl Tryd.underlying73 Tryd.underlying3 (show MapKept.IsKey (.int .i64) (.int .i64 L.ty) from rfl) hj)) (.drop (by kernel_rfl) (.drop (by kernel_rfl) (.keep (by kernel_rfl) rfl (by first | exact QT_load (v := .int .i64 L.ty) 1 rfl rfl Tryd.underlying3 rfl rfl rfl (fun _ => rfl) | exact QT_under (QT_load (w0 := w0) (η := (b3, 33, [.slice ra n rc, .slice sa rs.length sc]) :: (b2, 27, L.cells) :: η) (v := .int .i64 L.ty) 1 rfl rfl Tryd.underlying3 rfl rfl rfl (fun _ => rfl)) (fun w h => h.1) | exact QT_under (QT_load (w0 := w0) (η := (b3, 33, [.slice ra n rc, .slice sa rs.length sc]) :: (b2, 27, L.cells) :: η) (v := .int .i64 L.ty) 1 rfl rfl Tryd.underlying3 rfl rfl rfl (fun _ => rfl)) (fun w h => h.1.app_right)) (.nil)))), ?_⟩
  refine TV_q rfl rfl rfl (fun _ => QT_extract rfl rfl rfl rfl) ?_
  refine TV_q rfl rfl rfl (fun _ => QT_extract rfl rfl rfl rfl) ?_
  refine TV_q rfl rfl rfl (fun _ => QT_assign rfl rfl rfl) ?_
  refine TV_q rfl rfl rfl (fun _ => QT_assign rfl rfl rfl) ?_
  refine TV_end ?_
  refine TX_then ?_
  refine TC_ret ?_
  exact TX_ret (.inl rfl) (res2 rfl rfl rfl) ⟨_, ⟨_, H1, rfl, hF1, rfl⟩, fun w h => h.1.cnt fun p => by simp only [List.countP_append, List.countP_cons, List.countP_nil]; omega⟩
end Go.Proofs.YtjdaglmkljbfkaaDoor
namespace Go.Gx
open Go Go.RowKit
variable {P : Program} {n : Nat} {σ : Slots} {A : World → Prop} {v : Value}
theorem res3 {fn : Func} {t u s : Nat} {x y : Value} (hr : fn.results = #[.tmp t, .tmp u, .tmp s]) (hv : look σ t = some (true, v)) (hx : look σ u = some (true, x)) (hy : look σ s = some (true, y)) : ∀ a w, Fr n σ a → A w → (results fn a.tmps).run P w = .ok (.tuple #[v, x, y]) w := by
  intro a w hf hA
  have h1 := hf.known t true _ hv
  have h2 := hf.known u true _ hx
  have h3 := hf.known s true _ hy
  simp only [cond_true] at h1 h2 h3
  have h1' : a.tmps[t]?.getD undef = v := by simpa using h1
  have h2' : a.tmps[u]?.getD undef = x := by simpa using h2
  have h3' : a.tmps[s]?.getD undef = y := by simpa using h3
  simp [results, hr, h1', h2', h3']
end Go.Gx
namespace Go.Proofs.YtjdaglmkljbfkaaDoor
open Go Go.Gx Go.RowKit
set_option maxRecDepth 100000
/-- is a mesh of a layout's kind? -/
def kiE (L : Lay) (nr ns : Nat) : Int := if okB L = true then (if L.ty ≤ 5 then (if ns = 0 then 0 else 1) else if nr = 0 then 0 else 1) else 4
theorem may_all (w0 : Base) (hG : Sets w0) (L : Lay) (ra sa : Option Addr) (nr ns rc sc : Nat) (η : Heap) :
    CallsT Tryd.prog 22 [L.val, .agg #[.slice ra nr rc, .slice sa ns sc]] (St w0 η) fun v A' => v = .int .i64 (kiE L nr ns) ∧ A' = St w0 η := by
  unfold kiE
  by_cases hk : okB L = true
  · have h4 := (okB_bounds hk).2.2.2.1
    rw [if_pos hk]
    by_cases h5 : L.ty ≤ 5
    · rw [if_pos h5]
      exact may_A w0 η hG L hk (by omega) ra sa nr ns rc sc
    · rw [if_neg h5]
      exact may_B w0 η hG L hk (by omega) ra sa nr ns rc sc
  · rw [if_neg hk]
    exact may_bad w0 η hG L (by simpa using hk) ra sa nr ns rc sc
/-- bytes of a mesh -/
def emE (L : Lay) (rs ss : List (List Nat)) : Int := if kiE L rs.length ss.length = 0 then (if L.ty ≤ 5 then ecE L rs else esE L ss) else kiE L rs.length ss.length
def emO (L : Lay) (rs ss : List (List Nat)) : List Nat := if kiE L rs.length ss.length = 0 then (if L.ty ≤ 5 then ecO L rs else esO L ss) else []
theorem kiE_A {L : Lay} {nr ns : Nat} (h : kiE L nr ns = 0) (h5 : L.ty ≤ 5) : okB L = true ∧ ns = 0 := by
  unfold kiE at h
  by_cases hk : okB L = true
  · rw [if_pos hk, if_pos h5] at h
    exact ⟨hk, by by_cases h1 : ns = 0; exact h1; rw [if_neg h1] at h; cases h⟩
  · rw [if_neg hk] at h
    cases h
theorem kiE_B {L : Lay} {nr ns : Nat} (h : kiE L nr ns = 0) (h5 : ¬L.ty ≤ 5) : okB L = true ∧ nr = 0 := by
  unfold kiE at h
  by_cases hk : okB L = true
  · rw [if_pos hk, if_neg h5] at h
    exact ⟨hk, by by_cases h1 : nr = 0; exact h1; rw [if_neg h1] at h; cases h⟩
  · rw [if_neg hk] at h
    cases h
theorem slval {A : World → Prop} {v : Value} {s n : Nat} {xs : List Value} (h : SlA A v s n xs) : ∃ ad cap, v = .slice ad n cap := by
  obtain ⟨_, ad, cap, rfl, _⟩ := h
  exact ⟨ad, cap, rfl⟩
theorem Encode_spec (w0 : Base) (η : Heap) (hG : Sets w0) (hE : T12.Edges w0) (L : Lay) (rv tv : Value) (rs ss : List (List Nat)) (hs : SlA (St w0 η) rv 7 rs.length (flatR rs)) (ht : SlA (St w0 η) tv 49 ss.length (flatS ss)) (hr : ∀ r ∈ rs, RcF r) (hq : ∀ r ∈ ss, ShF r) (hn : rs.length ≤ 1000000) (hm : ss.length ≤ 1000000) :
    CallsT Tryd.prog 8 [L.val, .agg #[rv, tv]] (St w0 η) fun v A' => ∃ bv H, v = .tuple #[bv, .int .i64 (emE L rs ss)] ∧ Frag 5 1 bv (emO L rs ss).length (byV (emO L rs ss)) H ∧ A' = St w0 (H ++ η) := by
  obtain ⟨ra, rc, rfl⟩ := slval hs
  obtain ⟨sa, sc, rfl⟩ := slval ht
  by_cases h0 : kiE L rs.length ss.length = 0
  · by_cases h5 : L.ty ≤ 5
    · obtain ⟨hk, hz⟩ := kiE_A h0 h5
      have h4 := (okB_bounds hk).2.2.2.1
      have e1 : emE L rs ss = ecE L rs := by unfold emE; rw [if_pos h0, if_pos h5]
      have e2 : emO L rs ss = ecO L rs := by unfold emO; rw [if_pos h0, if_pos h5]
      rw [e1, e2]
      exact Encode_A w0 η hG hE L hk (by omega) ra sa _ rc sc rs hs hr (by omega) hz
    · obtain ⟨hk, hz⟩ := kiE_B h0 h5
      have h4 := (okB_bounds hk).2.2.2.1
      have e1 : emE L rs ss = esE L ss := by unfold emE; rw [if_pos h0, if_neg h5]
      have e2 : emO L rs ss = esO L ss := by unfold emO; rw [if_pos h0, if_neg h5]
      rw [e1, e2]
      exact Encode_B w0 η hG hE L hk (by omega) ra sa _ rc sc ss ht hq (by omega) hz
  · have e1 : emE L rs ss = kiE L rs.length ss.length := by unfold emE; rw [if_neg h0]
    have e2 : emO L rs ss = [] := by unfold emO; rw [if_neg h0]
    refine (Encode_no w0 η L ra sa _ _ rc sc _ h0 (may_all w0 hG L ra sa _ _ rc sc)).mono ?_
    rintro _ _ ⟨rfl, rfl⟩
    exact ⟨_, ⟨nilS, [], by rw [e1], by rw [e2]; exact Frag.nil _ _, rfl⟩, fun _ h => h⟩
theorem Faces_no (w0 : Base) (η : Heap) (L : Lay) (ra sa : Option Addr) (nr ns rc sc : Nat) (E : Int) (hE0 : E ≠ 0)
    (hmay : ∀ X : Heap, CallsT Tryd.prog 22 [L.val, .agg #[.slice ra nr rc, .slice sa ns sc]] (St w0 X) fun v A' => v = .int .i64 E ∧ A' = St w0 X) :
    CallsT Tryd.prog 11 [L.val, .agg #[.slice ra nr rc, .slice sa ns sc]] (St w0 η) fun v A' => v = .tuple #[nilS, nilS, .int .i64 E] ∧ A' = St w0 η := by
  refine CallsT.body Tryd.func11 rfl rfl ?_
  simp only [Tryd.ntmps11, slotsOf, Nat.reduceAdd]
  refine TC_seq ?_
  refine TC_reg ?_
  refine TL_e rfl rfl rfl (rfl) (ET_box rfl rfl) ?_
  rintro _ _ ⟨b2, rfl, rfl⟩
  refine TL_e rfl rfl rfl (rfl) (ET_box rfl rfl) ?_
  rintro _ _ ⟨b3, rfl, rfl⟩
  refine TL_q rfl rfl (QT_assign rfl rfl rfl) ?_
  refine TL_q rfl rfl (QT_assign rfl rfl rfl) ?_
  refine TL_q rfl rfl (QT_assign rfl rfl rfl) ?_
  refine TL_nil ?_
  refine TX_then ?_
  refine TC_seq ?_
  refine TC_seq ?_
  refine TC_A (St w0 ((b3, 33, [.slice ra nr rc, .slice sa ns sc]) :: (b2, 27, L.cells) :: η)) (fun _ h => h) ?_
  refine TC_reg ?_
  first
    | refine TL_q rfl rfl (QT_loadW 0 rfl rfl Tryd.underlying27 rfl rfl rfl YtjdaglmkljbfkaaDoorF.sz_27) ?_
    | refine TL_q rfl rfl (QT_loadW 1 rfl rfl Tryd.underlying27 rfl rfl rfl YtjdaglmkljbfkaaDoorF.sz_27) ?_
    | refine TL_q rfl rfl (QT_loadW 2 rfl rfl Tryd.underlying27 rfl rfl rfl YtjdaglmkljbfkaaDoorF.sz_27) ?_
    | refine TL_q rfl rfl (QT_loadA 0 rfl rfl Tryd.underlying27 rfl rfl rfl YtjdaglmkljbfkaaDoorF.sz_27 (fun _ => rfl)) ?_
    | refine TL_q rfl rfl (QT_loadA 1 rfl rfl Tryd.underlying27 rfl rfl rfl YtjdaglmkljbfkaaDoorF.sz_27 (fun _ => rfl)) ?_
    | refine TL_q rfl rfl (QT_loadA 2 rfl rfl Tryd.underlying27 rfl rfl rfl YtjdaglmkljbfkaaDoorF.sz_27 (fun _ => rfl)) ?_
  first
    | refine TL_q rfl rfl (QT_loadW 0 rfl rfl Tryd.underlying33 rfl rfl rfl YtjdaglmkljbfkaaDoorF.sz_33) ?_
    | refine TL_q rfl rfl (QT_loadW 1 rfl rfl Tryd.underlying33 rfl rfl rfl YtjdaglmkljbfkaaDoorF.sz_33) ?_
    | refine TL_q rfl rfl (QT_loadW 2 rfl rfl Tryd.underlying33 rfl rfl rfl YtjdaglmkljbfkaaDoorF.sz_33) ?_
    | refine TL_q rfl rfl (QT_loadA 0 rfl rfl Tryd.underlying33 rfl rfl rfl YtjdaglmkljbfkaaDoorF.sz_33 (fun _ => rfl)) ?_
    | refine TL_q rfl rfl (QT_loadA 1 rfl rfl Tryd.underlying33 rfl rfl rfl YtjdaglmkljbfkaaDoorF.sz_33 (fun _ => rfl)) ?_
    | refine TL_q rfl rfl (QT_loadA 2 rfl rfl Tryd.underlying33 rfl rfl rfl YtjdaglmkljbfkaaDoorF.sz_33 (fun _ => rfl)) ?_
  refine TL_cq rfl rfl rfl rfl YtjdaglmkljbfkaaDoorF.cal_22 rfl (fun _ => hmay _) ?_
  refine TL_q rfl rfl (QT_assign rfl rfl rfl) ?_
  refine TL_nil ?_
  refine TX_then ?_
  refine TC_seq ?_
  refine TC_reg ?_
  refine TL_q rfl rfl (QT_move rfl rfl rfl) ?_
  refine TL_q rfl rfl (QT_neq rfl rfl rfl rfl) ?_
  refine TL_nil ?_
  refine TX_then ?_
  refine TC_cond rfl (fun _ => ?_) (fun h => absurd (h.symm.trans ((show decide (E ≠ 0) = true from decide_eq_true hE0))) (by decide))
  refine TC_seq ?_
  refine TC_reg ?_
  refine TL_q rfl rfl (QT_move rfl rfl rfl) ?_
  refine TL_q rfl rfl (QT_assign rfl rfl rfl) ?_
  refine TL_q rfl rfl (QT_assign rfl rfl rfl) ?_
  refine TL_q rfl rfl (QT_assign rfl rfl rfl) ?_
  refine TL_nil ?_
  refine TX_then ?_
  refine TC_ret ?_
  refine TX_then_ret ?_
  exact TX_ret (.inl rfl) (res3 rfl rfl rfl rfl) ⟨_, ⟨rfl, rfl⟩, fun _ h => h.tail.tail⟩
set_option maxHeartbeats 1000000 in
theorem Faces_A (w0 : Base) (η : Heap) (hG : Sets w0) (L : Lay) (h5 : L.ty ≤ 5) (ra sa : Option Addr) (n rc sc : Nat) (rs : List (List Nat)) (hs : SlA (St w0 η) (.slice ra rs.length rc) 7 rs.length (flatR rs)) (hr : ∀ r ∈ rs, RcF r) (hn : rs.length ≤ 1000000) (h0 : kiE L rs.length n = 0) :
    CallsT Tryd.prog 11 [L.val, .agg #[.slice ra rs.length rc, .slice sa n sc]] (St w0 η) fun v A' => ∃ pv H, v = .tuple #[pv, nilS, .int .i64 (trioF L (rs.map rvV)).2] ∧ Frag 69 21 pv (trioF L (rs.map rvV)).1.length (trioF L (rs.map rvV)).1.flatten H ∧ ∃ X, A' = St w0 (H ++ (X ++ η)) := by
  have hs2 : SlA (St w0 η) (.slice ra rs.length rc) 7 (rs.map rvV).length (rs.map rvV).flatten := by rw [List.length_map]; exact hs
  refine CallsT.body Tryd.func11 rfl rfl ?_
  simp only [Tryd.ntmps11, slotsOf, Nat.reduceAdd]
  refine TC_seq ?_
  refine TC_reg ?_
  refine TL_e rfl rfl rfl (rfl) (ET_box rfl rfl) ?_
  rintro _ _ ⟨b2, rfl, rfl⟩
  refine TL_e rfl rfl rfl (rfl) (ET_box rfl rfl) ?_
  rintro _ _ ⟨b3, rfl, rfl⟩
  refine TL_q rfl rfl (QT_assign rfl rfl rfl) ?_
  refine TL_q rfl rfl (QT_assign rfl rfl rfl) ?_
  refine TL_q rfl rfl (QT_assign rfl rfl rfl) ?_
  refine TL_nil ?_
  refine TX_then ?_
  refine TC_seq ?_
  refine TC_seq ?_
  refine TC_A (St w0 ((b3, 33, [.slice ra rs.length rc, .slice sa n sc]) :: (b2, 27, L.cells) :: η)) (fun _ h => h) ?_
  refine TC_reg ?_
  first
    | refine TL_q rfl rfl (QT_loadW 0 rfl rfl Tryd.underlying27 rfl rfl rfl YtjdaglmkljbfkaaDoorF.sz_27) ?_
    | refine TL_q rfl rfl (QT_loadW 1 rfl rfl Tryd.underlying27 rfl rfl rfl YtjdaglmkljbfkaaDoorF.sz_27) ?_
    | refine TL_q rfl rfl (QT_loadW 2 rfl rfl Tryd.underlying27 rfl rfl rfl YtjdaglmkljbfkaaDoorF.sz_27) ?_
    | refine TL_q rfl rfl (QT_loadA 0 rfl rfl Tryd.underlying27 rfl rfl rfl YtjdaglmkljbfkaaDoorF.sz_27 (fun _ => rfl)) ?_
    | refine TL_q rfl rfl (QT_loadA 1 rfl rfl Tryd.underlying27 rfl rfl rfl YtjdaglmkljbfkaaDoorF.sz_27 (fun _ => rfl)) ?_
    | refine TL_q rfl rfl (QT_loadA 2 rfl rfl Tryd.underlying27 rfl rfl rfl YtjdaglmkljbfkaaDoorF.sz_27 (fun _ => rfl)) ?_
  first
    | refine TL_q rfl rfl (QT_loadW 0 rfl rfl Tryd.underlying33 rfl rfl rfl YtjdaglmkljbfkaaDoorF.sz_33) ?_
    | refine TL_q rfl rfl (QT_loadW 1 rfl rfl Tryd.underlying33 rfl rfl rfl YtjdaglmkljbfkaaDoorF.sz_33) ?_
    | refine TL_q rfl rfl (QT_loadW 2 rfl rfl Tryd.underlying33 rfl rfl rfl YtjdaglmkljbfkaaDoorF.sz_33) ?_
    | refine TL_q rfl rfl (QT_loadA 0 rfl rfl Tryd.underlying33 rfl rfl rfl YtjdaglmkljbfkaaDoorF.sz_33 (fun _ => rfl)) ?_
    | refine TL_q rfl rfl (QT_loadA 1 rfl rfl Tryd.underlying33 rfl rfl rfl YtjdaglmkljbfkaaDoorF.sz_33 (fun _ => rfl)) ?_
    | refine TL_q rfl rfl (QT_loadA 2 rfl rfl Tryd.underlying33 rfl rfl rfl YtjdaglmkljbfkaaDoorF.sz_33 (fun _ => rfl)) ?_
  refine TL_cq rfl rfl rfl rfl YtjdaglmkljbfkaaDoorF.cal_22 rfl (fun _ => may_all w0 hG L ra sa _ _ rc sc _) ?_
  refine TL_q rfl rfl (QT_assign rfl rfl rfl) ?_
  refine TL_nil ?_
  refine TX_then ?_
  refine TC_seq ?_
  refine TC_reg ?_
  refine TL_q rfl rfl (QT_move rfl rfl rfl) ?_
  refine TL_q rfl rfl (QT_neq rfl rfl rfl rfl) ?_
  refine TL_nil ?_
  refine TX_then ?_
  refine TC_cond rfl (fun h => absurd (h.symm.trans ((show decide (kiE L rs.length n ≠ 0) = false by rw [h0]; decide))) (by decide)) (fun _ => ?_)
  refine TC_skip ?_
  refine TX_then ?_
  refine TC_seq ?_
  refine TC_seq ?_
  refine TC_reg ?_
  refine TL_q rfl rfl (QT_field rfl rfl YtjdaglmkljbfkaaDoorF.fld_27_0 rfl) ?_
  first
    | refine TL_q rfl rfl (QT_load 0 rfl rfl Tryd.underlying3 rfl rfl rfl (fun _ => rfl)) ?_
    | refine TL_q rfl rfl (QT_load 1 rfl rfl Tryd.underlying3 rfl rfl rfl (fun _ => rfl)) ?_
    | refine TL_q rfl rfl (QT_load 2 rfl rfl Tryd.underlying3 rfl rfl rfl (fun _ => rfl)) ?_
  refine TL_q rfl rfl (QT_lss rfl rfl rfl rfl) ?_
  refine TL_nil ?_
  refine TX_then ?_
  refine TC_cond rfl (fun _ => ?_) (fun h => absurd (h.symm.trans ((show decide (L.ty < 6) = true from decide_eq_true (by omega)))) (by decide))
  refine TC_seq ?_
  refine TC_reg ?_
  first
    | refine TL_q rfl rfl (QT_loadW 0 rfl rfl Tryd.underlying27 rfl rfl rfl YtjdaglmkljbfkaaDoorF.sz_27) ?_
    | refine TL_q rfl rfl (QT_loadW 1 rfl rfl Tryd.underlying27 rfl rfl rfl YtjdaglmkljbfkaaDoorF.sz_27) ?_
    | refine TL_q rfl rfl (QT_loadW 2 rfl rfl Tryd.underlying27 rfl rfl rfl YtjdaglmkljbfkaaDoorF.sz_27) ?_
    | refine TL_q rfl rfl (QT_loadA 0 rfl rfl Tryd.underlying27 rfl rfl rfl YtjdaglmkljbfkaaDoorF.sz_27 (fun _ => rfl)) ?_
    | refine TL_q rfl rfl (QT_loadA 1 rfl rfl Tryd.underlying27 rfl rfl rfl YtjdaglmkljbfkaaDoorF.sz_27 (fun _ => rfl)) ?_
    | refine TL_q rfl rfl (QT_loadA 2 rfl rfl Tryd.underlying27 rfl rfl rfl YtjdaglmkljbfkaaDoorF.sz_27 (fun _ => rfl)) ?_
  refine TL_q rfl rfl (QT_field rfl rfl YtjdaglmkljbfkaaDoorF.fld_33_0 rfl) ?_
  first
    | refine TL_q rfl rfl (QT_load 0 rfl rfl Tryd.underlying30 rfl rfl rfl (fun _ => rfl)) ?_
    | refine TL_q rfl rfl (QT_load 1 rfl rfl Tryd.underlying30 rfl rfl rfl (fun _ => rfl)) ?_
    | refine TL_q rfl rfl (QT_load 2 rfl rfl Tryd.underlying30 rfl rfl rfl (fun _ => rfl)) ?_
  refine TL_e rfl rfl rfl (rfl) (ET_call rfl YtjdaglmkljbfkaaDoorF.cal_13 rfl (of_spec w0 _ hG L _ (rs.map rvV) (hs2.mono fun _ h => h.tail.tail) (all7R hr) (by rw [List.length_map]; omega))) ?_
  rintro _ _ ⟨pv, H1, rfl, hF1, X, rfl⟩
  refine TL_q rfl rfl (QT_move rfl rfl rfl) ?_
  refine TL_q rfl rfl (QT_extract rfl rfl rfl rfl) ?_
  refine TL_q rfl rfl (QT_extract rfl rfl rfl rfl) ?_
  refine TL_q rfl rfl (QT_assign rfl rfl rfl) ?_
  refine TL_q rfl rfl (QT_assign rfl rfl rfl) ?_
  refine TL_nil ?_
  refine TX_then ?_
  refine TC_seq ?_
  refine TC_reg ?_
  refine TL_q rfl rfl (QT_move rfl rfl rfl) ?_
  refine TL_q rfl rfl (QT_move rfl rfl rfl) ?_
  refine TL_q rfl rfl (QT_assign rfl rfl rfl) ?_
  refine TL_q rfl rfl (QT_assign rfl rfl rfl) ?_
  refine TL_q rfl rfl (QT_assign rfl rfl rfl) ?_
  refine TL_nil ?_
  refine TX_then ?_
  refine TC_ret ?_
  refine TX_then_ret ?_
  exact TX_ret (.inl rfl) (res3 rfl rfl rfl rfl) ⟨_, ⟨pv, H1, rfl, hF1, X, rfl⟩, fun w h => h.cnt fun p => by simp only [List.countP_append, List.countP_cons, List.countP_nil]; omega⟩
set_option maxHeartbeats 1000000 in
theorem Faces_B (w0 : Base) (η : Heap) (hG : Sets w0) (hE : T12.Edges w0) (L : Lay) (h5 : ¬L.ty ≤ 5) (ra sa : Option Addr) (n rc sc : Nat) (rs : List (List Nat)) (hs : SlA (St w0 η) (.slice sa rs.length sc) 49 rs.length (flatS rs)) (hr : ∀ r ∈ rs, ShF r) (hn : rs.length ≤ 1000000) (h0 : kiE L n rs.length = 0) :
    CallsT Tryd.prog 11 [L.val, .agg #[.slice ra n rc, .slice sa rs.length sc]] (St w0 η) fun v A' => ∃ pv H, v = .tuple #[nilS, pv, .int .i64 (T12.errT L rs.length (flatS rs))] ∧ Frag 107 48 pv (T12.cntT L rs.length (flatS rs)) (T12.outT L rs.length (flatS rs)) H ∧ A' = St w0 (H ++ η) := by
  refine CallsT.body Tryd.func11 rfl rfl ?_
  simp only [Tryd.ntmps11, slotsOf, Nat.reduceAdd]
  refine TC_seq ?_
  refine TC_reg ?_
  refine TL_e rfl rfl rfl (rfl) (ET_box rfl rfl) ?_
  rintro _ _ ⟨b2, rfl, rfl⟩
  refine TL_e rfl rfl rfl (rfl) (ET_box rfl rfl) ?_
  rintro _ _ ⟨b3, rfl, rfl⟩
  refine TL_q rfl rfl (QT_assign rfl rfl rfl) ?_
  refine TL_q rfl rfl (QT_assign rfl rfl rfl) ?_
  refine TL_q rfl rfl (QT_assign rfl rfl rfl) ?_
  refine TL_nil ?_
  refine TX_then ?_
  refine TC_seq ?_
  refine TC_seq ?_
  refine TC_A (St w0 ((b3, 33, [.slice ra n rc, .slice sa rs.length sc]) :: (b2, 27, L.cells) :: η)) (fun _ h => h) ?_
  refine TC_reg ?_
  first
    | refine TL_q rfl rfl (QT_loadW 0 rfl rfl Tryd.underlying27 rfl rfl rfl YtjdaglmkljbfkaaDoorF.sz_27) ?_
    | refine TL_q rfl rfl (QT_loadW 1 rfl rfl Tryd.underlying27 rfl rfl rfl YtjdaglmkljbfkaaDoorF.sz_27) ?_
    | refine TL_q rfl rfl (QT_loadW 2 rfl rfl Tryd.underlying27 rfl rfl rfl YtjdaglmkljbfkaaDoorF.sz_27) ?_
    | refine TL_q rfl rfl (QT_loadA 0 rfl rfl Tryd.underlying27 rfl rfl rfl YtjdaglmkljbfkaaDoorF.sz_27 (fun _ => rfl)) ?_
    | refine TL_q rfl rfl (QT_loadA 1 rfl rfl Tryd.underlying27 rfl rfl rfl YtjdaglmkljbfkaaDoorF.sz_27 (fun _ => rfl)) ?_
    | refine TL_q rfl rfl (QT_loadA 2 rfl rfl Tryd.underlying27 rfl rfl rfl YtjdaglmkljbfkaaDoorF.sz_27 (fun _ => rfl)) ?_
  first
    | refine TL_q rfl rfl (QT_loadW 0 rfl rfl Tryd.underlying33 rfl rfl rfl YtjdaglmkljbfkaaDoorF.sz_33) ?_
    | refine TL_q rfl rfl (QT_loadW 1 rfl rfl Tryd.underlying33 rfl rfl rfl YtjdaglmkljbfkaaDoorF.sz_33) ?_
    | refine TL_q rfl rfl (QT_loadW 2 rfl rfl Tryd.underlying33 rfl rfl rfl YtjdaglmkljbfkaaDoorF.sz_33) ?_
    | refine TL_q rfl rfl (QT_loadA 0 rfl rfl Tryd.underlying33 rfl rfl rfl YtjdaglmkljbfkaaDoorF.sz_33 (fun _ => rfl)) ?_
    | refine TL_q rfl rfl (QT_loadA 1 rfl rfl Tryd.underlying33 rfl rfl rfl YtjdaglmkljbfkaaDoorF.sz_33 (fun _ => rfl)) ?_
    | refine TL_q rfl rfl (QT_loadA 2 rfl rfl Tryd.underlying33 rfl rfl rfl YtjdaglmkljbfkaaDoorF.sz_33 (fun _ => rfl)) ?_
  refine TL_cq rfl rfl rfl rfl YtjdaglmkljbfkaaDoorF.cal_22 rfl (fun _ => may_all w0 hG L ra sa _ _ rc sc _) ?_
  refine TL_q rfl rfl (QT_assign rfl rfl rfl) ?_
  refine TL_nil ?_
  refine TX_then ?_
  refine TC_seq ?_
  refine TC_reg ?_
  refine TL_q rfl rfl (QT_move rfl rfl rfl) ?_
  refine TL_q rfl rfl (QT_neq rfl rfl rfl rfl) ?_
  refine TL_nil ?_
  refine TX_then ?_
  refine TC_cond rfl (fun h => absurd (h.symm.trans ((show decide (kiE L n rs.length ≠ 0) = false by rw [h0]; decide))) (by decide)) (fun _ => ?_)
  refine TC_skip ?_
  refine TX_then ?_
  refine TC_seq ?_
  refine TC_seq ?_
  refine TC_reg ?_
  refine TL_q rfl rfl (QT_field rfl rfl YtjdaglmkljbfkaaDoorF.fld_27_0 rfl) ?_
  first
    | refine TL_q rfl rfl (QT_load 0 rfl rfl Tryd.underlying3 rfl rfl rfl (fun _ => rfl)) ?_
    | refine TL_q rfl rfl (QT_load 1 rfl rfl Tryd.underlying3 rfl rfl rfl (fun _ => rfl)) ?_
    | refine TL_q rfl rfl (QT_load 2 rfl rfl Tryd.underlying3 rfl rfl rfl (fun _ => rfl)) ?_
  refine TL_q rfl rfl (QT_lss rfl rfl rfl rfl) ?_
  refine TL_nil ?_
  refine TX_then ?_
  refine TC_cond rfl (fun h => absurd (h.symm.trans ((show decide (L.ty < 6) = false from decide_eq_false (by omega)))) (by decide)) (fun _ => ?_)
  refine TC_skip ?_
  refine TX_then ?_
  refine TC_seq ?_
  refine TC_reg ?_
  first
    | refine TL_q rfl rfl (QT_loadW 0 rfl rfl Tryd.underlying27 rfl rfl rfl YtjdaglmkljbfkaaDoorF.sz_27) ?_
    | refine TL_q rfl rfl (QT_loadW 1 rfl rfl Tryd.underlying27 rfl rfl rfl YtjdaglmkljbfkaaDoorF.sz_27) ?_
    | refine TL_q rfl rfl (QT_loadW 2 rfl rfl Tryd.underlying27 rfl rfl rfl YtjdaglmkljbfkaaDoorF.sz_27) ?_
    | refine TL_q rfl rfl (QT_loadA 0 rfl rfl Tryd.underlying27 rfl rfl rfl YtjdaglmkljbfkaaDoorF.sz_27 (fun _ => rfl)) ?_
    | refine TL_q rfl rfl (QT_loadA 1 rfl rfl Tryd.underlying27 rfl rfl rfl YtjdaglmkljbfkaaDoorF.sz_27 (fun _ => rfl)) ?_
    | refine TL_q rfl rfl (QT_loadA 2 rfl rfl Tryd.underlying27 rfl rfl rfl YtjdaglmkljbfkaaDoorF.sz_27 (fun _ => rfl)) ?_
  refine TL_q rfl rfl (QT_field rfl rfl YtjdaglmkljbfkaaDoorF.fld_33_1 rfl) ?_
  first
    | refine TL_q rfl rfl (QT_load 0 rfl rfl Tryd.underlying31 rfl rfl rfl (fun _ => rfl)) ?_
    | refine TL_q rfl rfl (QT_load 1 rfl rfl Tryd.underlying31 rfl rfl rfl (fun _ => rfl)) ?_
    | refine TL_q rfl rfl (QT_load 2 rfl rfl Tryd.underlying31 rfl rfl rfl (fun _ => rfl)) ?_
  refine TL_e rfl rfl rfl (rfl) (ET_call rfl YtjdaglmkljbfkaaDoorF.cal_17 rfl (T12.of_spec w0 _ hG hE L _ _ (flatS rs) (hs.mono fun _ h => h.tail.tail) (flatS_ints hr) (by omega))) ?_
  rintro _ _ ⟨pv, H1, rfl, hF1, rfl⟩
  refine TL_q rfl rfl (QT_move rfl rfl rfl) ?_
  refine TL_q rfl rfl (QT_extract rfl rfl rfl rfl) ?_
  refine TL_q rfl rfl (QT_extract rfl rfl rfl rfl) ?_
  refine TL_q rfl rfl (QT_assign rfl rfl rfl) ?_
  refine TL_q rfl rfl (QT_assign rfl rfl rfl) ?_
  refine TL_nil ?_
  refine TX_then ?_
  refine TC_seq ?_
  refine TC_reg ?_
  refine TL_q rfl rfl (QT_move rfl rfl rfl) ?_
  refine TL_q rfl rfl (QT_move rfl rfl rfl) ?_
  refine TL_q rfl rfl (QT_assign rfl rfl rfl) ?_
  refine TL_q rfl rfl (QT_assign rfl rfl rfl) ?_
  refine TL_q rfl rfl (QT_assign rfl rfl rfl) ?_
  refine TL_nil ?_
  refine TX_then ?_
  refine TC_ret ?_
  exact TX_ret (.inl rfl) (res3 rfl rfl rfl rfl) ⟨_, ⟨pv, H1, rfl, hF1, rfl⟩, fun w h => h.cnt fun p => by simp only [List.countP_append, List.countP_cons, List.countP_nil]; omega⟩
/-- the faces of a mesh: the refusal, the triangles, the patches -/
def faE (L : Lay) (rs ss : List (List Nat)) : Int := if kiE L rs.length ss.length = 0 then (if L.ty ≤ 5 then (trioF L (rs.map rvV)).2 else T12.errT L ss.length (flatS ss)) else kiE L rs.length ss.length
def faT (L : Lay) (rs ss : List (List Nat)) : List (List Value) := if kiE L rs.length ss.length = 0 ∧ L.ty ≤ 5 then (trioF L (rs.map rvV)).1 else []
def faN (L : Lay) (rs ss : List (List Nat)) : Nat := if kiE L rs.length ss.length = 0 ∧ ¬L.ty ≤ 5 then T12.cntT L ss.length (flatS ss) else 0
def faP (L : Lay) (rs ss : List (List Nat)) : List Value := if kiE L rs.length ss.length = 0 ∧ ¬L.ty ≤ 5 then T12.outT L ss.length (flatS ss) else []
theorem Faces_spec (w0 : Base) (η : Heap) (hG : Sets w0) (hE : T12.Edges w0) (L : Lay) (rv tv : Value) (rs ss : List (List Nat)) (hs : SlA (St w0 η) rv 7 rs.length (flatR rs)) (ht : SlA (St w0 η) tv 49 ss.length (flatS ss)) (hr : ∀ r ∈ rs, RcF r) (hq : ∀ r ∈ ss, ShF r) (hn : rs.length ≤ 1000000) (hm : ss.length ≤ 1000000) :
    CallsT Tryd.prog 11 [L.val, .agg #[rv, tv]] (St w0 η) fun v A' => ∃ pv H qv H', v = .tuple #[pv, qv, .int .i64 (faE L rs ss)] ∧ Frag 69 21 pv (faT L rs ss).length (faT L rs ss).flatten H ∧ Frag 107 48 qv (faN L rs ss) (faP L rs ss) H' ∧ ∃ X, A' = St w0 (H ++ (H' ++ (X ++ η))) := by
  obtain ⟨ra, rc, rfl⟩ := slval hs
  obtain ⟨sa, sc, rfl⟩ := slval ht
  by_cases h0 : kiE L rs.length ss.length = 0
  · by_cases h5 : L.ty ≤ 5
    · have e1 : faE L rs ss = (trioF L (rs.map rvV)).2 := by unfold faE; rw [if_pos h0, if_pos h5]
      have e2 : faT L rs ss = (trioF L (rs.map rvV)).1 := by unfold faT; rw [if_pos ⟨h0, h5⟩]
      have e3 : faN L rs ss = 0 := by unfold faN; rw [if_neg fun h => h.2 h5]
      have e4 : faP L rs ss = [] := by unfold faP; rw [if_neg fun h => h.2 h5]
      refine (Faces_A w0 η hG L h5 ra sa _ rc sc rs hs hr hn h0).mono ?_
      rintro _ _ ⟨pv, H, rfl, hF, X, rfl⟩
      exact ⟨_, ⟨pv, H, nilS, [], by rw [e1], by rw [e2]; exact hF, by rw [e3, e4]; exact Frag.nil _ _, X, rfl⟩, fun _ h => h⟩
    · have e1 : faE L rs ss = T12.errT L ss.length (flatS ss) := by unfold faE; rw [if_pos h0, if_neg h5]
      have e2 : faT L rs ss = [] := by unfold faT; rw [if_neg fun h => h5 h.2]
      have e3 : faN L rs ss = T12.cntT L ss.length (flatS ss) := by unfold faN; rw [if_pos ⟨h0, h5⟩]
      have e4 : faP L rs ss = T12.outT L ss.length (flatS ss) := by unfold faP; rw [if_pos ⟨h0, h5⟩]
      refine (Faces_B w0 η hG hE L h5 ra sa _ rc sc ss ht hq hm h0).mono ?_
      rintro _ _ ⟨pv, H, rfl, hF, rfl⟩
      exact ⟨_, ⟨nilS, [], pv, H, by rw [e1], by rw [e2]; exact Frag.nil _ _, by rw [e3, e4]; exact hF, [], rfl⟩, fun _ h => h⟩
  · have e1 : faE L rs ss = kiE L rs.length ss.length := by unfold faE; rw [if_neg h0]
    have e2 : faT L rs ss = [] := by unfold faT; rw [if_neg fun h => h0 h.1]
    have e3 : faN L rs ss = 0 := by unfold faN; rw [if_neg fun h => h0 h.1]
    have e4 : faP L rs ss = [] := by unfold faP; rw [if_neg fun h => h0 h.1]
    refine (Faces_no w0 η L ra sa _ _ rc sc _ h0 (may_all w0 hG L ra sa _ _ rc sc)).mono ?_
    rintro _ _ ⟨rfl, rfl⟩
    exact ⟨_, ⟨nilS, [], nilS, [], by rw [e1], by rw [e2]; exact Frag.nil _ _, by rw [e3, e4]; exact Frag.nil _ _, [], rfl⟩, fun _ h => h⟩
end Go.Proofs.YtjdaglmkljbfkaaDoor
namespace Go.Gx
open Go Go.RowKit
section
variable {P : Program} {n : Nat} {σ : Slots} {o : Oper} {x y : Operand} {t : TypeId}
/-- make, of zeros -/
theorem ET_makeN {w0 : Base} {η : Heap} {e size bytes : Nat} {zv : Value} {kl kc : IntKind} {p q : Int} (l cp : Nat) (zl : List Value) (hop : o.op = .makeSlice t x y) (ht : P.underlying t = some (.slice e)) (he : ElemOk P e size bytes zv)
    (hx : ev σ x = some (true, .int kl p)) (hy : ev σ y = some (true, .int kc q)) (hp : p = (l : Int)) (hq : q = (cp : Int)) (hlc : l ≤ cp) (hb : bytes * cp ≤ 281474976710656) (h63 : cp ≤ 9223372036854775807) (hzl : (madeCells zv.cells (cp * size)).toList = zl) :
    ET P n o σ (St w0 η) fun r A' => ∃ b, r = .slice (some ⟨b, 0, none⟩) l cp ∧ A' = St w0 ((b, e, zl) :: η) := by
  intro a w hf hw K Q hK
  subst hp hq
  obtain ⟨⟨i, hi, hs, hbt, hz⟩, hzs, hpos⟩ := he
  subst hs; subst hbt
  have hr := run_make (P := P) w t e i zv ht hi hz kl kc (l : Int) (cp : Int) (by omega) (by omega) (by rw [← Int.natCast_mul]; omega) (by omega)
  unfold Oper.wp
  have : (execOp a.eval o).run P w = .ok (.value (.slice (some ⟨w.heap.size, 0, none⟩) l cp)) (w.alloc (.cells (madeCells zv.cells (cp * i.size)) e)) := by
    simp [execOp, hop, hf.eval hx rfl, hf.eval hy rfl, hr]
  rw [this, Oper.upon_value]
  refine hK _ _ _ ⟨_, rfl, ?_⟩ (St.alloc hw e _)
  rw [← hzl]
end
end Go.Gx
namespace Go.Proofs.YtjdaglmkljbfkaaDoor
open Go Go.Gx Go.RowKit
set_option maxRecDepth 100000
theorem sameOk_Mesh (w0 : Base) (η : Heap) (va ta vb tb : Value) (rs ss : List (List Nat)) (ha : SlA (St w0 η) va 7 rs.length (flatR rs)) (hb : SlA (St w0 η) vb 7 rs.length (flatR rs)) (hta : SlA (St w0 η) ta 49 ss.length (flatS ss)) (htb : SlA (St w0 η) tb 49 ss.length (flatS ss)) (hr : ∀ r ∈ rs, RcF r) (hq : ∀ r ∈ ss, ShF r) :
    CallsT Tryd.prog 9 [.agg #[va, ta], .agg #[vb, tb]] (St w0 η) fun v A' => v = .bool true ∧ A' = St w0 η := by
  obtain ⟨ada, ca, rfl⟩ := slval ha
  obtain ⟨adb, cb, rfl⟩ := slval hb
  obtain ⟨tda, da, rfl⟩ := slval hta
  obtain ⟨tdb, db, rfl⟩ := slval htb
  have h1 : ∀ X : Heap, (∀ w, St w0 X w → St w0 η w) → CallsT Tryd.prog 23 [.slice ada rs.length ca, .slice adb rs.length cb] (St w0 X) fun v A' => v = .bool true ∧ A' = St w0 X := fun X hX => by
    have h := same_Rec w0 X _ _ rs.length rs.length (flatR rs) (flatR rs) (ha.mono hX) (hb.mono hX) (flatR_ints hr) (flatR_ints hr)
    rwa [eqC_refl (flatR_ints hr)] at h
  have h2 : ∀ X : Heap, (∀ w, St w0 X w → St w0 η w) → CallsT Tryd.prog 24 [.slice tda ss.length da, .slice tdb ss.length db] (St w0 X) fun v A' => v = .bool true ∧ A' = St w0 X := fun X hX => by
    have h := same_Sheet w0 X _ _ ss.length ss.length (flatS ss) (flatS ss) (hta.mono hX) (htb.mono hX) (flatS_ints hq) (flatS_ints hq)
    rwa [eqC_refl (flatS_ints hq)] at h
  refine CallsT.body Tryd.func9 rfl rfl ?_
  simp only [Tryd.ntmps9, slotsOf, Nat.reduceAdd]
  refine TC_seq ?_
  refine TC_reg ?_
  refine TL_e rfl rfl rfl (rfl) (ET_box rfl rfl) ?_
  rintro _ _ ⟨b2, rfl, rfl⟩
  refine TL_e rfl rfl rfl (rfl) (ET_box rfl rfl) ?_
  rintro _ _ ⟨b3, rfl, rfl⟩
  refine TL_q rfl rfl (QT_assign rfl rfl rfl) ?_
  refine TL_nil ?_
  refine TX_then ?_
  refine TC_seq ?_
  refine TC_A (St w0 ((b3, 33, [.slice adb rs.length cb, .slice tdb ss.length db]) :: (b2, 33, [.slice ada rs.length ca, .slice tda ss.length da]) :: η)) (fun _ h => h) ?_
  refine TC_reg ?_
  refine TL_q rfl rfl (QT_field rfl rfl YtjdaglmkljbfkaaDoorF.fld_33_0 rfl) ?_
  first
    | refine TL_q rfl rfl (QT_load 0 rfl rfl Tryd.underlying30 rfl rfl rfl (fun _ => rfl)) ?_
    | refine TL_q rfl rfl (QT_load 1 rfl rfl Tryd.underlying30 rfl rfl rfl (fun _ => rfl)) ?_
    | refine TL_q rfl rfl (QT_load 2 rfl rfl Tryd.underlying30 rfl rfl rfl (fun _ => rfl)) ?_
  refine TL_q rfl rfl (QT_field rfl rfl YtjdaglmkljbfkaaDoorF.fld_33_0 rfl) ?_
  first
    | refine TL_q rfl rfl (QT_load 0 rfl rfl Tryd.underlying30 rfl rfl rfl (fun _ => rfl)) ?_
    | refine TL_q rfl rfl (QT_load 1 rfl rfl Tryd.underlying30 rfl rfl rfl (fun _ => rfl)) ?_
    | refine TL_q rfl rfl (QT_load 2 rfl rfl Tryd.underlying30 rfl rfl rfl (fun _ => rfl)) ?_
  refine TL_cq rfl rfl rfl rfl YtjdaglmkljbfkaaDoorF.cal_23 rfl (fun _ => h1 _ fun _ h => h.tail.tail) ?_
  refine TL_q rfl rfl (QT_move rfl rfl rfl) ?_
  refine TL_q rfl rfl (QT_field rfl rfl YtjdaglmkljbfkaaDoorF.fld_33_1 rfl) ?_
  first
    | refine TL_q rfl rfl (QT_load 0 rfl rfl Tryd.underlying31 rfl rfl rfl (fun _ => rfl)) ?_
    | refine TL_q rfl rfl (QT_load 1 rfl rfl Tryd.underlying31 rfl rfl rfl (fun _ => rfl)) ?_
    | refine TL_q rfl rfl (QT_load 2 rfl rfl Tryd.underlying31 rfl rfl rfl (fun _ => rfl)) ?_
  refine TL_q rfl rfl (QT_field rfl rfl YtjdaglmkljbfkaaDoorF.fld_33_1 rfl) ?_
  first
    | refine TL_q rfl rfl (QT_load 0 rfl rfl Tryd.underlying31 rfl rfl rfl (fun _ => rfl)) ?_
    | refine TL_q rfl rfl (QT_load 1 rfl rfl Tryd.underlying31 rfl rfl rfl (fun _ => rfl)) ?_
    | refine TL_q rfl rfl (QT_load 2 rfl rfl Tryd.underlying31 rfl rfl rfl (fun _ => rfl)) ?_
  refine TL_cq rfl rfl rfl rfl YtjdaglmkljbfkaaDoorF.cal_24 rfl (fun _ => h2 _ fun _ h => h.tail.tail) ?_
  refine TL_q rfl rfl (QT_and rfl rfl rfl rfl) ?_
  refine TL_q rfl rfl (QT_assign rfl rfl rfl) ?_
  refine TL_nil ?_
  refine TX_then ?_
  refine TC_ret ?_
  exact TX_ret (.inl rfl) (res1 rfl rfl) ⟨_, ⟨rfl, rfl⟩, fun _ h => h.tail.tail⟩
def L13 : Lay := ⟨4, 8, 8, 8, 1, 0, fun _ => 0⟩
def b13 : List Nat := [0, 1, 2, 3, 0, 4, 5, 6, 0, 7, 8, 9]
def r13 : List (List Nat) := [[0, 1, 2, 3, 0, 0, 0], [0, 4, 5, 6, 0, 0, 0], [0, 7, 8, 9, 0, 0, 0]]
def z7 : List Nat := [0, 0, 0, 0, 0, 0, 0]
def z49 : List Nat := List.replicate 49 0
theorem l13_1 : dmE L13 b13 = 0 ∧ dmR L13 b13 = r13 ∧ dmS L13 b13 = [] := by decide +kernel
theorem l13_2 : faE L13 r13 [] = 0 ∧ (faT L13 r13 []).length = 1 ∧ faN L13 r13 [] = 0 := by decide +kernel
theorem l13_3 : dmE L13 [1, 2, 3, 4] = 6 := by decide +kernel
theorem l13_4 : dmE L13 [0, 1, 2] = 5 := by decide +kernel
theorem l13_5 : emE L13 [] [z49] = 1 := by decide +kernel
theorem l13_6 : emE L13 [z7, z7] [] = 5 := by decide +kernel
theorem l13_7 : ((faT L13 r13 []).flatten.drop 15).take 2 = [.int .u32 7, .int .u32 8] := by kernel_rfl
theorem rcf_z7 : RcF z7 := rcf_chk rfl (by decide)
end Go.Proofs.YtjdaglmkljbfkaaDoor
namespace Go.Proofs.YtjdaglmkljbfkaaDoor
open Go Go.Gx Go.RowKit
set_option maxRecDepth 100000
theorem shf_z49 : ShF z49 := ⟨0, zer, rfl, by decide, zer_sh⟩
theorem eq_SpotM : EqOk Tryd.prog 62 spotK := ⟨by kernel_rfl, by kernel_rfl, by kernel_rfl, by kernel_rfl⟩
theorem spot78 : Ints spotK [.int .u32 7, .int .u32 8] := by
  exact .cons (by decide) (.cons (by decide) .nil)
set_option maxHeartbeats 4000000 in
theorem lives13 (w0 : Base) (η : Heap) (hG : Sets w0) (hE : T12.Edges w0) :
    CallsT Tryd.prog 6 [] (St w0 η) fun v A' => v = .bool true ∧ A' = St w0 η := by
  refine CallsT.body Tryd.func6 rfl rfl ?_
  simp only [Tryd.ntmps6, slotsOf, Nat.reduceAdd]
  refine TC_seq ?_
  refine TC_reg ?_
  refine TL_q rfl rfl (QT_assign rfl rfl rfl) ?_
  refine TL_nil ?_
  refine TX_then ?_
  refine TC_seq ?_
  refine TC_reg ?_
  refine TL_q rfl rfl (QT_build rfl rfl YtjdaglmkljbfkaaDoorF.zero_27 YtjdaglmkljbfkaaDoorF.pl_27 rfl rfl rfl) ?_
  refine TL_e rfl rfl rfl (rfl) (ET_alloc rfl YtjdaglmkljbfkaaDoorF.zero_27) ?_
  rintro _ _ ⟨b1, rfl, rfl⟩
  first
    | refine TL_e0 rfl rfl (rfl) (ET_storeW 0 rfl rfl rfl YtjdaglmkljbfkaaDoorF.sz_27 rfl rfl rfl) ?_
    | refine TL_e0 rfl rfl (rfl) (ET_storeW 1 rfl rfl rfl YtjdaglmkljbfkaaDoorF.sz_27 rfl rfl rfl) ?_
    | refine TL_e0 rfl rfl (rfl) (ET_storeW 2 rfl rfl rfl YtjdaglmkljbfkaaDoorF.sz_27 rfl rfl rfl) ?_
    | refine TL_e0 rfl rfl (rfl) (ET_store 0 rfl rfl rfl rfl YtjdaglmkljbfkaaDoorF.sz_27 rfl rfl rfl) ?_
    | refine TL_e0 rfl rfl (rfl) (ET_store 1 rfl rfl rfl rfl YtjdaglmkljbfkaaDoorF.sz_27 rfl rfl rfl) ?_
    | refine TL_e0 rfl rfl (rfl) (ET_store 2 rfl rfl rfl rfl YtjdaglmkljbfkaaDoorF.sz_27 rfl rfl rfl) ?_
  rintro _ _ ⟨rfl, rfl⟩
  refine TL_nil ?_
  refine TX_then ?_
  refine TC_seq ?_
  refine TC_A (St w0 ((b1, 27, L13.cells) :: η)) (fun _ h => h) ?_
  refine TC_reg ?_
  first
    | refine TL_q rfl rfl (QT_loadW 0 rfl rfl Tryd.underlying27 rfl rfl rfl YtjdaglmkljbfkaaDoorF.sz_27) ?_
    | refine TL_q rfl rfl (QT_loadW 1 rfl rfl Tryd.underlying27 rfl rfl rfl YtjdaglmkljbfkaaDoorF.sz_27) ?_
    | refine TL_q rfl rfl (QT_loadW 2 rfl rfl Tryd.underlying27 rfl rfl rfl YtjdaglmkljbfkaaDoorF.sz_27) ?_
    | refine TL_q rfl rfl (QT_loadA 0 rfl rfl Tryd.underlying27 rfl rfl rfl YtjdaglmkljbfkaaDoorF.sz_27 (fun _ => rfl)) ?_
    | refine TL_q rfl rfl (QT_loadA 1 rfl rfl Tryd.underlying27 rfl rfl rfl YtjdaglmkljbfkaaDoorF.sz_27 (fun _ => rfl)) ?_
    | refine TL_q rfl rfl (QT_loadA 2 rfl rfl Tryd.underlying27 rfl rfl rfl YtjdaglmkljbfkaaDoorF.sz_27 (fun _ => rfl)) ?_
  refine TL_e rfl rfl rfl (rfl) (ET_buildN [_, _, _, _, _, _, _, _, _, _, _, _] rfl Tryd.underlying28 YtjdaglmkljbfkaaDoorF.sz_5 YtjdaglmkljbfkaaDoorF.zero_5 rfl rfl rfl (fun v hv => by simp only [List.mem_cons, List.not_mem_nil, or_false] at hv; rcases hv with rfl | rfl | rfl | rfl | rfl | rfl | rfl | rfl | rfl | rfl | rfl | rfl <;> rfl)) ?_
  rintro _ _ ⟨b18, rfl, rfl⟩
  refine TL_e rfl rfl rfl (rfl) (ET_call rfl YtjdaglmkljbfkaaDoorF.cal_7 rfl (Decode_spec w0 _ hG hE L13 _ b13 (SlA.own (n := 12) (xs := byV b13) 0 rfl rfl (by decide) (by decide)) (by decide) (by decide))) ?_
  rintro _ _ ⟨rv2, H2, tv2, G2, rfl, hF2, hT2, rfl⟩
  refine TL_q rfl rfl (QT_move rfl rfl rfl) ?_
  refine TL_q rfl rfl (QT_extract rfl rfl rfl rfl) ?_
  refine TL_q rfl rfl (QT_extract rfl rfl rfl rfl) ?_
  refine TL_e rfl rfl rfl (rfl) (ET_alloc rfl YtjdaglmkljbfkaaDoorF.zero_33) ?_
  rintro _ _ ⟨b2, rfl, rfl⟩
  rw [l13_1.2.1] at hF2
  rw [l13_1.2.2] at hT2
  simp only [List.length_nil] at hT2
  obtain ⟨ad2, cap2, rfl, _, _⟩ := hF2.slice
  obtain ⟨td2, tcp2, rfl, _, _⟩ := hT2.slice
  first
    | refine TL_e0 rfl rfl (rfl) (ET_storeW 0 rfl rfl rfl YtjdaglmkljbfkaaDoorF.sz_33 rfl rfl rfl) ?_
    | refine TL_e0 rfl rfl (rfl) (ET_storeW 1 rfl rfl rfl YtjdaglmkljbfkaaDoorF.sz_33 rfl rfl rfl) ?_
    | refine TL_e0 rfl rfl (rfl) (ET_storeW 2 rfl rfl rfl YtjdaglmkljbfkaaDoorF.sz_33 rfl rfl rfl) ?_
    | refine TL_e0 rfl rfl (rfl) (ET_store 0 rfl rfl rfl rfl YtjdaglmkljbfkaaDoorF.sz_33 rfl rfl rfl) ?_
    | refine TL_e0 rfl rfl (rfl) (ET_store 1 rfl rfl rfl rfl YtjdaglmkljbfkaaDoorF.sz_33 rfl rfl rfl) ?_
    | refine TL_e0 rfl rfl (rfl) (ET_store 2 rfl rfl rfl rfl YtjdaglmkljbfkaaDoorF.sz_33 rfl rfl rfl) ?_
  rintro _ _ ⟨rfl, rfl⟩
  refine TL_q rfl rfl (QT_assign rfl rfl rfl) ?_
  refine TL_nil ?_
  refine TX_then ?_
  refine TC_seq ?_
  simp only [l13_1.1]
  refine TC_A (St w0 ((b2, 33, [.slice ad2 r13.length cap2, .slice td2 0 tcp2]) :: (b1, 27, L13.cells) :: (H2 ++ (G2 ++ η)))) (fun w h => h.cnt fun p => by simp only [upd, List.countP_append, List.countP_cons, List.countP_nil]; omega) ?_
  refine TC_reg ?_
  first
    | refine TL_q rfl rfl (QT_loadW 0 rfl rfl Tryd.underlying27 rfl rfl rfl YtjdaglmkljbfkaaDoorF.sz_27) ?_
    | refine TL_q rfl rfl (QT_loadW 1 rfl rfl Tryd.underlying27 rfl rfl rfl YtjdaglmkljbfkaaDoorF.sz_27) ?_
    | refine TL_q rfl rfl (QT_loadW 2 rfl rfl Tryd.underlying27 rfl rfl rfl YtjdaglmkljbfkaaDoorF.sz_27) ?_
    | refine TL_q rfl rfl (QT_loadA 0 rfl rfl Tryd.underlying27 rfl rfl rfl YtjdaglmkljbfkaaDoorF.sz_27 (fun _ => rfl)) ?_
    | refine TL_q rfl rfl (QT_loadA 1 rfl rfl Tryd.underlying27 rfl rfl rfl YtjdaglmkljbfkaaDoorF.sz_27 (fun _ => rfl)) ?_
    | refine TL_q rfl rfl (QT_loadA 2 rfl rfl Tryd.underlying27 rfl rfl rfl YtjdaglmkljbfkaaDoorF.sz_27 (fun _ => rfl)) ?_
  first
    | refine TL_q rfl rfl (QT_loadW 0 rfl rfl Tryd.underlying33 rfl rfl rfl YtjdaglmkljbfkaaDoorF.sz_33) ?_
    | refine TL_q rfl rfl (QT_loadW 1 rfl rfl Tryd.underlying33 rfl rfl rfl YtjdaglmkljbfkaaDoorF.sz_33) ?_
    | refine TL_q rfl rfl (QT_loadW 2 rfl rfl Tryd.underlying33 rfl rfl rfl YtjdaglmkljbfkaaDoorF.sz_33) ?_
    | refine TL_q rfl rfl (QT_loadA 0 rfl rfl Tryd.underlying33 rfl rfl rfl YtjdaglmkljbfkaaDoorF.sz_33 (fun _ => rfl)) ?_
    | refine TL_q rfl rfl (QT_loadA 1 rfl rfl Tryd.underlying33 rfl rfl rfl YtjdaglmkljbfkaaDoorF.sz_33 (fun _ => rfl)) ?_
    | refine TL_q rfl rfl (QT_loadA 2 rfl rfl Tryd.underlying33 rfl rfl rfl YtjdaglmkljbfkaaDoorF.sz_33 (fun _ => rfl)) ?_
  refine TL_e rfl rfl rfl (rfl) (ET_call rfl YtjdaglmkljbfkaaDoorF.cal_11 rfl (Faces_spec w0 _ hG hE L13 _ _ r13 [] (hF2.within fun p => by simp only [List.countP_append, List.countP_cons]; omega) (hT2.within fun p => by simp only [List.countP_append, List.countP_cons]; omega) (fun r hr => by simp only [r13, List.mem_cons, List.not_mem_nil, or_false] at hr; rcases hr with rfl | rfl | rfl <;> exact rcf_chk rfl (by decide)) (fun r hr => by cases hr) (by decide) (by decide))) ?_
  rintro _ _ ⟨pv, H4, qv, G4, rfl, hF4, hT4, X4, rfl⟩
  refine TL_q rfl rfl (QT_move rfl rfl rfl) ?_
  refine TL_q rfl rfl (QT_extract rfl rfl rfl rfl) ?_
  refine TL_q rfl rfl (QT_extract rfl rfl rfl rfl) ?_
  refine TL_q rfl rfl (QT_extract rfl rfl rfl rfl) ?_
  refine TL_q rfl rfl (QT_assign rfl rfl rfl) ?_
  refine TL_q rfl rfl (QT_assign rfl rfl rfl) ?_
  refine TL_q rfl rfl (QT_assign rfl rfl rfl) ?_
  refine TL_nil ?_
  refine TX_then ?_
  refine TC_seq ?_
  rw [l13_2.2.1] at hF4
  rw [l13_2.2.2] at hT4
  simp only [l13_2.1]
  obtain ⟨ad4, cap4, rfl, _, h4⟩ := hF4.slice
  obtain ⟨td4, tcp4, rfl, _, _⟩ := hT4.slice
  obtain ⟨b40, rest4, rfl, hH4⟩ := h4 (by decide)
  refine TC_A (St w0 ((b2, 33, [.slice ad2 r13.length cap2, .slice td2 0 tcp2]) :: (b1, 27, L13.cells) :: (H4 ++ η))) (fun w h => h.cnt fun p => by simp only [List.countP_append, List.countP_cons, List.countP_nil]; omega) ?_
  refine TC_reg ?_
  first
    | refine TL_q rfl rfl (QT_loadW 0 rfl rfl Tryd.underlying27 rfl rfl rfl YtjdaglmkljbfkaaDoorF.sz_27) ?_
    | refine TL_q rfl rfl (QT_loadW 1 rfl rfl Tryd.underlying27 rfl rfl rfl YtjdaglmkljbfkaaDoorF.sz_27) ?_
    | refine TL_q rfl rfl (QT_loadW 2 rfl rfl Tryd.underlying27 rfl rfl rfl YtjdaglmkljbfkaaDoorF.sz_27) ?_
    | refine TL_q rfl rfl (QT_loadA 0 rfl rfl Tryd.underlying27 rfl rfl rfl YtjdaglmkljbfkaaDoorF.sz_27 (fun _ => rfl)) ?_
    | refine TL_q rfl rfl (QT_loadA 1 rfl rfl Tryd.underlying27 rfl rfl rfl YtjdaglmkljbfkaaDoorF.sz_27 (fun _ => rfl)) ?_
    | refine TL_q rfl rfl (QT_loadA 2 rfl rfl Tryd.underlying27 rfl rfl rfl YtjdaglmkljbfkaaDoorF.sz_27 (fun _ => rfl)) ?_
  refine TL_e rfl rfl rfl (rfl) (ET_buildN [_, _, _, _] rfl Tryd.underlying28 YtjdaglmkljbfkaaDoorF.sz_5 YtjdaglmkljbfkaaDoorF.zero_5 rfl rfl rfl (fun v hv => by simp only [List.mem_cons, List.not_mem_nil, or_false] at hv; rcases hv with rfl | rfl | rfl | rfl <;> rfl)) ?_
  rintro _ _ ⟨b31, rfl, rfl⟩
  refine TL_e rfl rfl rfl (rfl) (ET_call rfl YtjdaglmkljbfkaaDoorF.cal_7 rfl (Decode_spec w0 _ hG hE L13 _ [1, 2, 3, 4] (SlA.own (n := 4) (xs := byV [1, 2, 3, 4]) 0 rfl rfl (by decide) (by decide)) (by decide) (by decide))) ?_
  rintro _ _ ⟨rv7, H7, tv7, G7, rfl, hF7, hT7, rfl⟩
  refine TL_q rfl rfl (QT_move rfl rfl rfl) ?_
  refine TL_q rfl rfl (QT_extract rfl rfl rfl rfl) ?_
  refine TL_q rfl rfl (QT_extract rfl rfl rfl rfl) ?_
  refine TL_e rfl rfl rfl (rfl) (ET_alloc rfl YtjdaglmkljbfkaaDoorF.zero_33) ?_
  rintro _ _ ⟨b7, rfl, rfl⟩
  obtain ⟨ad7, cap7, rfl, _, _⟩ := hF7.slice
  obtain ⟨td7, tcp7, rfl, _, _⟩ := hT7.slice
  first
    | refine TL_e0 rfl rfl (rfl) (ET_storeW 0 rfl rfl rfl YtjdaglmkljbfkaaDoorF.sz_33 rfl rfl rfl) ?_
    | refine TL_e0 rfl rfl (rfl) (ET_storeW 1 rfl rfl rfl YtjdaglmkljbfkaaDoorF.sz_33 rfl rfl rfl) ?_
    | refine TL_e0 rfl rfl (rfl) (ET_storeW 2 rfl rfl rfl YtjdaglmkljbfkaaDoorF.sz_33 rfl rfl rfl) ?_
    | refine TL_e0 rfl rfl (rfl) (ET_store 0 rfl rfl rfl rfl YtjdaglmkljbfkaaDoorF.sz_33 rfl rfl rfl) ?_
    | refine TL_e0 rfl rfl (rfl) (ET_store 1 rfl rfl rfl rfl YtjdaglmkljbfkaaDoorF.sz_33 rfl rfl rfl) ?_
    | refine TL_e0 rfl rfl (rfl) (ET_store 2 rfl rfl rfl rfl YtjdaglmkljbfkaaDoorF.sz_33 rfl rfl rfl) ?_
  rintro _ _ ⟨rfl, rfl⟩
  refine TL_q rfl rfl (QT_assign rfl rfl rfl) ?_
  refine TL_nil ?_
  refine TX_then ?_
  refine TC_seq ?_
  simp only [l13_3]
  refine TC_A (St w0 ((b2, 33, [.slice ad2 r13.length cap2, .slice td2 0 tcp2]) :: (b1, 27, L13.cells) :: (H4 ++ η))) (fun w h => h.cnt fun p => by simp only [upd, List.countP_append, List.countP_cons, List.countP_nil]; omega) ?_
  refine TC_reg ?_
  first
    | refine TL_q rfl rfl (QT_loadW 0 rfl rfl Tryd.underlying27 rfl rfl rfl YtjdaglmkljbfkaaDoorF.sz_27) ?_
    | refine TL_q rfl rfl (QT_loadW 1 rfl rfl Tryd.underlying27 rfl rfl rfl YtjdaglmkljbfkaaDoorF.sz_27) ?_
    | refine TL_q rfl rfl (QT_loadW 2 rfl rfl Tryd.underlying27 rfl rfl rfl YtjdaglmkljbfkaaDoorF.sz_27) ?_
    | refine TL_q rfl rfl (QT_loadA 0 rfl rfl Tryd.underlying27 rfl rfl rfl YtjdaglmkljbfkaaDoorF.sz_27 (fun _ => rfl)) ?_
    | refine TL_q rfl rfl (QT_loadA 1 rfl rfl Tryd.underlying27 rfl rfl rfl YtjdaglmkljbfkaaDoorF.sz_27 (fun _ => rfl)) ?_
    | refine TL_q rfl rfl (QT_loadA 2 rfl rfl Tryd.underlying27 rfl rfl rfl YtjdaglmkljbfkaaDoorF.sz_27 (fun _ => rfl)) ?_
  refine TL_e rfl rfl rfl (rfl) (ET_buildN [_, _, _] rfl Tryd.underlying28 YtjdaglmkljbfkaaDoorF.sz_5 YtjdaglmkljbfkaaDoorF.zero_5 rfl rfl rfl (fun v hv => by simp only [List.mem_cons, List.not_mem_nil, or_false] at hv; rcases hv with rfl | rfl | rfl <;> rfl)) ?_
  rintro _ _ ⟨b37, rfl, rfl⟩
  refine TL_e rfl rfl rfl (rfl) (ET_call rfl YtjdaglmkljbfkaaDoorF.cal_7 rfl (Decode_spec w0 _ hG hE L13 _ [0, 1, 2] (SlA.own (n := 3) (xs := byV [0, 1, 2]) 0 rfl rfl (by decide) (by decide)) (by decide) (by decide))) ?_
  rintro _ _ ⟨rv9, H9, tv9, G9, rfl, hF9, hT9, rfl⟩
  refine TL_q rfl rfl (QT_move rfl rfl rfl) ?_
  refine TL_q rfl rfl (QT_extract rfl rfl rfl rfl) ?_
  refine TL_q rfl rfl (QT_extract rfl rfl rfl rfl) ?_
  refine TL_e rfl rfl rfl (rfl) (ET_alloc rfl YtjdaglmkljbfkaaDoorF.zero_33) ?_
  rintro _ _ ⟨b9, rfl, rfl⟩
  obtain ⟨ad9, cap9, rfl, _, _⟩ := hF9.slice
  obtain ⟨td9, tcp9, rfl, _, _⟩ := hT9.slice
  first
    | refine TL_e0 rfl rfl (rfl) (ET_storeW 0 rfl rfl rfl YtjdaglmkljbfkaaDoorF.sz_33 rfl rfl rfl) ?_
    | refine TL_e0 rfl rfl (rfl) (ET_storeW 1 rfl rfl rfl YtjdaglmkljbfkaaDoorF.sz_33 rfl rfl rfl) ?_
    | refine TL_e0 rfl rfl (rfl) (ET_storeW 2 rfl rfl rfl YtjdaglmkljbfkaaDoorF.sz_33 rfl rfl rfl) ?_
    | refine TL_e0 rfl rfl (rfl) (ET_store 0 rfl rfl rfl rfl YtjdaglmkljbfkaaDoorF.sz_33 rfl rfl rfl) ?_
    | refine TL_e0 rfl rfl (rfl) (ET_store 1 rfl rfl rfl rfl YtjdaglmkljbfkaaDoorF.sz_33 rfl rfl rfl) ?_
    | refine TL_e0 rfl rfl (rfl) (ET_store 2 rfl rfl rfl rfl YtjdaglmkljbfkaaDoorF.sz_33 rfl rfl rfl) ?_
  rintro _ _ ⟨rfl, rfl⟩
  refine TL_q rfl rfl (QT_assign rfl rfl rfl) ?_
  refine TL_nil ?_
  refine TX_then ?_
  refine TC_seq ?_
  simp only [l13_4]
  refine TC_A (St w0 ((b2, 33, [.slice ad2 r13.length cap2, .slice td2 0 tcp2]) :: (b1, 27, L13.cells) :: (H4 ++ η))) (fun w h => h.cnt fun p => by simp only [upd, List.countP_append, List.countP_cons, List.countP_nil]; omega) ?_
  refine TC_draw [(0, 0), (1, 1), (2, 0), (3, 1), (4, 0), (5, 0), (6, 0), (7, 0), (8, 0)] YtjdaglmkljbfkaaDoorF.mixed (by kernel_rfl) (St.calm _ _) ?_
  first
    | refine TV_ql rfl rfl rfl (QT_loadW 0 rfl rfl Tryd.underlying27 rfl rfl rfl YtjdaglmkljbfkaaDoorF.sz_27) ?_
    | refine TV_ql rfl rfl rfl (QT_loadW 1 rfl rfl Tryd.underlying27 rfl rfl rfl YtjdaglmkljbfkaaDoorF.sz_27) ?_
    | refine TV_ql rfl rfl rfl (QT_loadW 2 rfl rfl Tryd.underlying27 rfl rfl rfl YtjdaglmkljbfkaaDoorF.sz_27) ?_
    | refine TV_ql rfl rfl rfl (QT_loadA 0 rfl rfl Tryd.underlying27 rfl rfl rfl YtjdaglmkljbfkaaDoorF.sz_27 (fun _ => rfl)) ?_
    | refine TV_ql rfl rfl rfl (QT_loadA 1 rfl rfl Tryd.underlying27 rfl rfl rfl YtjdaglmkljbfkaaDoorF.sz_27 (fun _ => rfl)) ?_
    | refine TV_ql rfl rfl rfl (QT_loadA 2 rfl rfl Tryd.underlying27 rfl rfl rfl YtjdaglmkljbfkaaDoorF.sz_27 (fun _ => rfl)) ?_
  refine TV_e rfl rfl rfl rfl (rfl) (ET_makeN 1 1 (flatS [z49]) rfl Tryd.underlying31 el_Sheet rfl rfl rfl rfl (by decide) (by decide) (by decide) (by kernel_rfl)) ?_
  rintro _ _ ⟨b43, rfl, rfl⟩
  refine ⟨_, .keep (by kernel_rfl) rfl (by first | exact QT_loadW 0 rfl rfl Tryd.underlying27 rfl rfl rfl YtjdaglmkljbfkaaDoorF.sz_27 | exact QT_loadW 1 rfl rfl Tryd.underlying27 rfl rfl rfl YtjdaglmkljbfkaaDoorF.sz_27 | exact QT_loadW 2 rfl rfl Tryd.underlying27 rfl rfl rfl YtjdaglmkljbfkaaDoorF.sz_27 | exact QT_loadA 0 rfl rfl Tryd.underlying27 rfl rfl rfl YtjdaglmkljbfkaaDoorF.sz_27 (fun _ => rfl) | exact QT_loadA 1 rfl rfl Tryd.underlying27 rfl rfl rfl YtjdaglmkljbfkaaDoorF.sz_27 (fun _ => rfl) | exact QT_loadA 2 rfl rfl Tryd.underlying27 rfl rfl rfl YtjdaglmkljbfkaaDoorF.sz_27 (fun _ => rfl)) (.nil), ?_⟩
  refine TV_q rfl rfl rfl (fun _ => QT_build rfl rfl YtjdaglmkljbfkaaDoorF.zero_33 YtjdaglmkljbfkaaDoorF.pl_33 rfl rfl rfl) ?_
  refine TV_e rfl rfl rfl rfl (rfl) (ET_call rfl YtjdaglmkljbfkaaDoorF.cal_8 rfl (Encode_spec w0 _ hG hE L13 _ _ [] [z49] ((Frag.nil 67 7).sla (H := [])) (SlA.own (n := 1) (off := 0) (xs := flatS [z49]) 0 rfl rfl (by decide) (by decide)) (fun r hr => by cases hr) (fun r hr => by cases List.mem_singleton.1 hr; exact shf_z49) (by decide) (by decide))) ?_
  rintro _ _ ⟨bv11, H11, rfl, hF11, rfl⟩
  refine ⟨_, .drop (by kernel_rfl) (.nil), ?_⟩
  refine TV_q rfl rfl rfl (fun _ => QT_move rfl rfl rfl) ?_
  refine TV_q rfl rfl rfl (fun _ => QT_extract rfl rfl rfl rfl) ?_
  refine TV_q rfl rfl rfl (fun _ => QT_extract rfl rfl rfl rfl) ?_
  refine TV_q rfl rfl rfl (fun _ => QT_assign rfl rfl rfl) ?_
  refine TV_q rfl rfl rfl (fun _ => QT_assign rfl rfl rfl) ?_
  refine TV_end ?_
  refine TX_then ?_
  refine TC_seq ?_
  simp only [l13_5]
  refine TC_A (St w0 ((b2, 33, [.slice ad2 r13.length cap2, .slice td2 0 tcp2]) :: (b1, 27, L13.cells) :: (H4 ++ η))) (fun w h => h.cnt fun p => by simp only [upd, List.countP_append, List.countP_cons, List.countP_nil]; omega) ?_
  refine TC_draw [(0, 0), (1, 1), (2, 0), (3, 1), (4, 0), (5, 0), (6, 0), (7, 0), (8, 0)] YtjdaglmkljbfkaaDoorF.mixed (by kernel_rfl) (St.calm _ _) ?_
  first
    | refine TV_ql rfl rfl rfl (QT_loadW 0 rfl rfl Tryd.underlying27 rfl rfl rfl YtjdaglmkljbfkaaDoorF.sz_27) ?_
    | refine TV_ql rfl rfl rfl (QT_loadW 1 rfl rfl Tryd.underlying27 rfl rfl rfl YtjdaglmkljbfkaaDoorF.sz_27) ?_
    | refine TV_ql rfl rfl rfl (QT_loadW 2 rfl rfl Tryd.underlying27 rfl rfl rfl YtjdaglmkljbfkaaDoorF.sz_27) ?_
    | refine TV_ql rfl rfl rfl (QT_loadA 0 rfl rfl Tryd.underlying27 rfl rfl rfl YtjdaglmkljbfkaaDoorF.sz_27 (fun _ => rfl)) ?_
    | refine TV_ql rfl rfl rfl (QT_loadA 1 rfl rfl Tryd.underlying27 rfl rfl rfl YtjdaglmkljbfkaaDoorF.sz_27 (fun _ => rfl)) ?_
    | refine TV_ql rfl rfl rfl (QT_loadA 2 rfl rfl Tryd.underlying27 rfl rfl rfl YtjdaglmkljbfkaaDoorF.sz_27 (fun _ => rfl)) ?_
  refine TV_e rfl rfl rfl rfl (rfl) (ET_makeN 2 2 (flatR [z7, z7]) rfl Tryd.underlying30 el_Rec rfl rfl rfl rfl (by decide) (by decide) (by decide) (by kernel_rfl)) ?_
  rintro _ _ ⟨b50, rfl, rfl⟩
  refine ⟨_, .keep (by kernel_rfl) rfl (by first | exact QT_loadW 0 rfl rfl Tryd.underlying27 rfl rfl rfl YtjdaglmkljbfkaaDoorF.sz_27 | exact QT_loadW 1 rfl rfl Tryd.underlying27 rfl rfl rfl YtjdaglmkljbfkaaDoorF.sz_27 | exact QT_loadW 2 rfl rfl Tryd.underlying27 rfl rfl rfl YtjdaglmkljbfkaaDoorF.sz_27 | exact QT_loadA 0 rfl rfl Tryd.underlying27 rfl rfl rfl YtjdaglmkljbfkaaDoorF.sz_27 (fun _ => rfl) | exact QT_loadA 1 rfl rfl Tryd.underlying27 rfl rfl rfl YtjdaglmkljbfkaaDoorF.sz_27 (fun _ => rfl) | exact QT_loadA 2 rfl rfl Tryd.underlying27 rfl rfl rfl YtjdaglmkljbfkaaDoorF.sz_27 (fun _ => rfl)) (.nil), ?_⟩
  refine TV_q rfl rfl rfl (fun _ => QT_build rfl rfl YtjdaglmkljbfkaaDoorF.zero_33 YtjdaglmkljbfkaaDoorF.pl_33 rfl rfl rfl) ?_
  refine TV_e rfl rfl rfl rfl (rfl) (ET_call rfl YtjdaglmkljbfkaaDoorF.cal_8 rfl (Encode_spec w0 _ hG hE L13 _ _ [z7, z7] [] (SlA.own (n := 2) (off := 0) (xs := flatR [z7, z7]) 0 rfl rfl (by decide) (by decide)) ((Frag.nil 79 49).sla (H := [])) (fun r hr => by simp only [List.mem_cons, List.not_mem_nil, or_false, or_self] at hr; subst hr; exact rcf_z7) (fun r hr => by cases hr) (by decide) (by decide))) ?_
  rintro _ _ ⟨bv13, H13, rfl, hF13, rfl⟩
  refine ⟨_, .drop (by kernel_rfl) (.nil), ?_⟩
  refine TV_q rfl rfl rfl (fun _ => QT_move rfl rfl rfl) ?_
  refine TV_q rfl rfl rfl (fun _ => QT_extract rfl rfl rfl rfl) ?_
  refine TV_q rfl rfl rfl (fun _ => QT_extract rfl rfl rfl rfl) ?_
  refine TV_q rfl rfl rfl (fun _ => QT_assign rfl rfl rfl) ?_
  refine TV_q rfl rfl rfl (fun _ => QT_assign rfl rfl rfl) ?_
  refine TV_end ?_
  refine TX_then ?_
  refine TC_seq ?_
  simp only [l13_6]
  refine TC_A (St w0 ((b2, 33, [.slice ad2 r13.length cap2, .slice td2 0 tcp2]) :: (b1, 27, L13.cells) :: (H4 ++ η))) (fun w h => h.cnt fun p => by simp only [upd, List.countP_append, List.countP_cons, List.countP_nil]; omega) ?_
  have hrd4 : Rd (St w0 ((b2, 33, [.slice ad2 r13.length cap2, .slice td2 0 tcp2]) :: (b1, 27, L13.cells) :: (H4 ++ η))) b40 0 (faT L13 r13 []).flatten := Rd.ownA (T := 69) (cs := (faT L13 r13 []).flatten ++ rest4) (by rw [hH4]; simp) 0 (by simp)
  refine TC_reg ?_
  refine TL_q rfl rfl (QT_field rfl rfl YtjdaglmkljbfkaaDoorF.fld_33_0 rfl) ?_
  first
    | refine TL_q rfl rfl (QT_load 0 rfl rfl Tryd.underlying30 rfl rfl rfl (fun _ => rfl)) ?_
    | refine TL_q rfl rfl (QT_load 1 rfl rfl Tryd.underlying30 rfl rfl rfl (fun _ => rfl)) ?_
    | refine TL_q rfl rfl (QT_load 2 rfl rfl Tryd.underlying30 rfl rfl rfl (fun _ => rfl)) ?_
  refine TL_q rfl rfl (QT_len rfl rfl Tryd.underlying30 rfl) ?_
  refine TL_q rfl rfl (QT_eql rfl rfl rfl rfl) ?_
  refine TL_q rfl rfl (QT_move rfl rfl rfl) ?_
  refine TL_q rfl rfl (QT_move rfl rfl rfl) ?_
  refine TL_q rfl rfl (QT_eql rfl rfl rfl rfl) ?_
  refine TL_q rfl rfl (QT_and rfl rfl rfl rfl) ?_
  refine TL_q rfl rfl (QT_move rfl rfl rfl) ?_
  refine TL_q rfl rfl (QT_move rfl rfl rfl) ?_
  refine TL_q rfl rfl (QT_len rfl rfl Tryd.underlying42 rfl) ?_
  refine TL_q rfl rfl (QT_eql rfl rfl rfl rfl) ?_
  refine TL_q rfl rfl (QT_and rfl rfl rfl rfl) ?_
  refine TL_q rfl rfl (QT_move rfl rfl rfl) ?_
  refine TL_q rfl rfl (QT_move rfl rfl rfl) ?_
  refine TL_q rfl rfl (QT_len rfl rfl Tryd.underlying43 rfl) ?_
  refine TL_q rfl rfl (QT_eql rfl rfl rfl rfl) ?_
  refine TL_q rfl rfl (QT_and rfl rfl rfl rfl) ?_
  refine TL_q rfl rfl (QT_move rfl rfl rfl) ?_
  refine TL_q rfl rfl (QT_move rfl rfl rfl) ?_
  refine TL_q rfl rfl (QT_eql rfl rfl rfl rfl) ?_
  refine TL_q rfl rfl (QT_and rfl rfl rfl rfl) ?_
  refine TL_q rfl rfl (QT_move rfl rfl rfl) ?_
  refine TL_q rfl rfl (QT_move rfl rfl rfl) ?_
  refine TL_q rfl rfl (QT_indexSlice (0) rfl rfl Tryd.underlying42 YtjdaglmkljbfkaaDoorF.sz_69 rfl rfl (rfl) (fun _ => by omega)) ?_
  refine TL_q rfl rfl (QT_indexArr (2) rfl rfl Tryd.underlying69 YtjdaglmkljbfkaaDoorF.sz_67 rfl rfl (rfl) (fun _ => by decide)) ?_
  refine TL_q rfl rfl (QT_field rfl rfl YtjdaglmkljbfkaaDoorF.fld_67_1 rfl) ?_
  refine TL_q rfl rfl (QT_loadRAj (out := [.int .u32 7, .int .u32 8]) 15 rfl rfl Tryd.underlying62 rfl YtjdaglmkljbfkaaDoorF.sz_62 hrd4 rfl (fun _ => by have := hF4.1; rw [this]; decide) (fun _ => l13_7) (by decide)) ?_
  refine TL_q rfl rfl (QT_build rfl rfl YtjdaglmkljbfkaaDoorF.zero_62 YtjdaglmkljbfkaaDoorF.pl_62 rfl rfl rfl) ?_
  refine TL_q rfl rfl (QT_eqA rfl rfl eq_SpotM rfl rfl (fun _ => spot78) (fun _ => spot78)) ?_
  refine TL_q rfl rfl (QT_and rfl rfl rfl rfl) ?_
  refine TL_q rfl rfl (QT_move rfl rfl rfl) ?_
  refine TL_q rfl rfl (QT_move rfl rfl rfl) ?_
  refine TL_q rfl rfl (QT_eql rfl rfl rfl rfl) ?_
  refine TL_q rfl rfl (QT_and rfl rfl rfl rfl) ?_
  refine TL_q rfl rfl (QT_move rfl rfl rfl) ?_
  refine TL_q rfl rfl (QT_move rfl rfl rfl) ?_
  refine TL_q rfl rfl (QT_eql rfl rfl rfl rfl) ?_
  refine TL_q rfl rfl (QT_and rfl rfl rfl rfl) ?_
  refine TL_q rfl rfl (QT_move rfl rfl rfl) ?_
  refine TL_q rfl rfl (QT_move rfl rfl rfl) ?_
  refine TL_q rfl rfl (QT_eql rfl rfl rfl rfl) ?_
  refine TL_q rfl rfl (QT_and rfl rfl rfl rfl) ?_
  refine TL_q rfl rfl (QT_move rfl rfl rfl) ?_
  refine TL_q rfl rfl (QT_move rfl rfl rfl) ?_
  refine TL_q rfl rfl (QT_eql rfl rfl rfl rfl) ?_
  refine TL_q rfl rfl (QT_and rfl rfl rfl rfl) ?_
  refine TL_q rfl rfl (QT_assign rfl rfl rfl) ?_
  refine TL_nil ?_
  refine TX_then ?_
  refine TC_ret ?_
  exact TX_ret (.inl rfl) (res1 rfl rfl) ⟨_, ⟨rfl, rfl⟩, fun _ h => h.tail.tail.app_right⟩
end Go.Proofs.YtjdaglmkljbfkaaDoor
namespace Go.Proofs.YtjdaglmkljbfkaaDoor
open Go Go.Gx Go.RowKit
set_option maxRecDepth 100000
theorem errRP_zero {L : Lay} {rs : List (List Nat)} (h : errRP L rs = 0) : (okB L = true ∧ L.ty ≤ 5) ∧ rs.all (fitR L) = true ∧ (bytesR L rs).length ≤ 65536 ∧ outRP L rs = bytesR L rs := by
  have h0 := h
  unfold errRP at h
  by_cases h1 : okB L = true ∧ L.ty ≤ 5
  · rw [if_pos h1] at h
    by_cases h2 : rs.all (fitR L) = true
    · rw [if_pos h2] at h
      by_cases h3 : 65536 < (bytesR L rs).length
      · rw [if_pos h3] at h; exact absurd h (by decide)
      · exact ⟨h1, h2, by omega, by unfold outRP; rw [if_pos h0]⟩
    · rw [if_neg h2] at h; exact absurd h (by decide)
  · rw [if_neg h1] at h; exact absurd h (by decide)
theorem errP_zero {L : Lay} {rs : List (List Nat)} (h : errP L rs = 0) : (okB L = true ∧ 6 ≤ L.ty) ∧ rs.all (fitS L) = true ∧ (bytesS L rs).length ≤ 65536 ∧ outP L rs = bytesS L rs := by
  have h0 := h
  unfold errP at h
  by_cases h1 : okB L = true ∧ 6 ≤ L.ty
  · rw [if_pos h1] at h
    by_cases h2 : rs.all (fitS L) = true
    · rw [if_pos h2] at h
      by_cases h3 : 65536 < (bytesS L rs).length
      · rw [if_pos h3] at h; exact absurd h (by decide)
      · exact ⟨h1, h2, by omega, by unfold outP; rw [if_pos h0]⟩
    · rw [if_neg h2] at h; exact absurd h (by decide)
  · rw [if_neg h1] at h; exact absurd h (by decide)
theorem ecE_zero {L : Lay} {rs : List (List Nat)} (h : ecE L rs = 0) : (trioF L (rs.map rvV)).2 = 0 ∧ errRP L rs = 0 := by
  unfold ecE at h
  by_cases h1 : (trioF L (rs.map rvV)).2 = 0
  · rw [if_pos h1] at h; exact ⟨h1, h⟩
  · rw [if_neg h1] at h; exact absurd h h1
theorem esE_zero {L : Lay} {rs : List (List Nat)} (h : esE L rs = 0) : T12.errT L rs.length (flatS rs) = 0 ∧ errP L rs = 0 := by
  unfold esE at h
  by_cases h1 : T12.errT L rs.length (flatS rs) = 0
  · rw [if_pos h1] at h; exact ⟨h1, h⟩
  · rw [if_neg h1] at h; exact absurd h h1
theorem dcE_zero {L : Lay} {bs : List Nat} (h : dcE L bs = 0) : errRG L bs = 0 ∧ (trioF L ((outRG L bs).map rvV)).2 = 0 := by
  unfold dcE at h
  by_cases h1 : errRG L bs = 0
  · rw [if_pos h1] at h; exact ⟨h1, h⟩
  · rw [if_neg h1] at h; exact absurd h h1
theorem dsE_zero {L : Lay} {bs : List Nat} (h : dsE L bs = 0) : errG L bs = 0 ∧ T12.errT L (outG L bs).length (flatS (outG L bs)) = 0 := by
  unfold dsE at h
  by_cases h1 : errG L bs = 0
  · rw [if_pos h1] at h; exact ⟨h1, h⟩
  · rw [if_neg h1] at h; exact absurd h h1
theorem emO_bad {L : Lay} {rs ss : List (List Nat)} (h : emE L rs ss ≠ 0) : emO L rs ss = [] := by
  unfold emE at h
  unfold emO
  by_cases h0 : kiE L rs.length ss.length = 0
  · rw [if_pos h0] at h ⊢
    by_cases h5 : L.ty ≤ 5
    · rw [if_pos h5] at h ⊢
      unfold ecO; rw [if_neg h]
    · rw [if_neg h5] at h ⊢
      unfold esO; rw [if_neg h]
  · rw [if_neg h0]
theorem emO_lt {L : Lay} {rs ss : List (List Nat)} : ∀ c ∈ emO L rs ss, c < 256 := by
  intro c hc
  unfold emO at hc
  split at hc
  · split at hc
    · unfold ecO at hc
      split at hc
      · exact outRP_lt L rs c hc
      · exact absurd hc List.not_mem_nil
    · unfold esO at hc
      split at hc
      · exact outP_lt L ss c hc
      · exact absurd hc List.not_mem_nil
  · exact absurd hc List.not_mem_nil
theorem emO_len (L : Lay) (rs ss : List (List Nat)) : (emO L rs ss).length ≤ 65536 := by
  unfold emO
  split
  · split
    · unfold ecO
      split
      · exact outRP_len L rs
      · exact Nat.zero_le _
    · unfold esO
      split
      · exact outP_len L ss
      · exact Nat.zero_le _
  · exact Nat.zero_le _
theorem dmR_rcf {L : Lay} {bs : List Nat} : ∀ r ∈ dmR L bs, RcF r := by
  intro r hr
  unfold dmR at hr
  split at hr
  · unfold dcO at hr
    split at hr
    · exact outRG_rcf r hr
    · exact absurd hr List.not_mem_nil
  · exact absurd hr List.not_mem_nil
theorem dmS_shf {L : Lay} {bs : List Nat} : ∀ r ∈ dmS L bs, ShF r := by
  intro r hr
  unfold dmS at hr
  split at hr
  · unfold dsO at hr
    split at hr
    · exact outG_shf r hr
    · exact absurd hr List.not_mem_nil
  · exact absurd hr List.not_mem_nil
theorem dmR_len (L : Lay) (bs : List Nat) : (dmR L bs).length ≤ bs.length := by
  unfold dmR
  split
  · unfold dcO
    split
    · exact outRG_len L bs
    · exact Nat.zero_le _
  · exact Nat.zero_le _
theorem dmS_len (L : Lay) (bs : List Nat) : (dmS L bs).length ≤ bs.length := by
  unfold dmS
  split
  · unfold dsO
    split
    · exact outG_len L bs
    · exact Nat.zero_le _
  · exact Nat.zero_le _
theorem dm_bad {L : Lay} {bs : List Nat} (h : dmE L bs ≠ 0) : dmR L bs = [] ∧ dmS L bs = [] := by
  unfold dmE at h
  unfold dmR dmS
  by_cases hk : okB L = true
  · rw [if_pos hk] at h
    by_cases h5 : L.ty ≤ 5
    · rw [if_pos h5] at h
      rw [if_pos ⟨hk, h5⟩, if_neg fun h => h.2 h5]
      unfold dcO; rw [if_neg h]; exact ⟨rfl, rfl⟩
    · rw [if_neg h5] at h
      rw [if_neg fun h => h5 h.2, if_pos ⟨hk, h5⟩]
      unfold dsO; rw [if_neg h]; exact ⟨rfl, rfl⟩
  · rw [if_neg fun h => hk h.1, if_neg fun h => hk h.1]; exact ⟨rfl, rfl⟩
/-- what may be encoded is decoded as it was -/
theorem back13 {L : Lay} {rs ss : List (List Nat)} (hr : ∀ r ∈ rs, RcF r) (hq : ∀ r ∈ ss, ShF r) (h : emE L rs ss = 0) : dmE L (emO L rs ss) = 0 ∧ dmR L (emO L rs ss) = rs ∧ dmS L (emO L rs ss) = ss := by
  have hE := h
  unfold emE at h
  by_cases h0 : kiE L rs.length ss.length = 0
  · rw [if_pos h0] at h
    by_cases h5 : L.ty ≤ 5
    · rw [if_pos h5] at h
      obtain ⟨hk, hz⟩ := kiE_A h0 h5
      obtain rfl : ss = [] := List.eq_nil_of_length_eq_zero hz
      obtain ⟨h1, h2⟩ := ecE_zero h
      obtain ⟨hc, hf, hl, ho⟩ := errRP_zero h2
      obtain ⟨g1, g2⟩ := get_okR hc hr hf hl
      have eO : emO L rs [] = bytesR L rs := by unfold emO; rw [if_pos h0, if_pos h5, ecO_eq h1, ho]
      have d1 : dcE L (bytesR L rs) = 0 := by unfold dcE; rw [if_pos g1, g2, h1]
      rw [eO]
      refine ⟨?_, ?_, ?_⟩
      · unfold dmE; rw [if_pos hk, if_pos h5, d1]
      · unfold dmR; rw [if_pos ⟨hk, h5⟩]; unfold dcO; rw [if_pos d1, g2]
      · unfold dmS; rw [if_neg fun h => h.2 h5]
    · rw [if_neg h5] at h
      obtain ⟨hk, hz⟩ := kiE_B h0 h5
      obtain rfl : rs = [] := List.eq_nil_of_length_eq_zero hz
      obtain ⟨h1, h2⟩ := esE_zero h
      obtain ⟨hc, hf, hl, ho⟩ := errP_zero h2
      obtain ⟨g1, g2⟩ := get_ok hc hq hf hl
      have eO : emO L [] ss = bytesS L ss := by unfold emO; rw [if_pos h0, if_neg h5, esO_eq h1, ho]
      have d1 : dsE L (bytesS L ss) = 0 := by unfold dsE; rw [if_pos g1, g2, h1]
      rw [eO]
      refine ⟨?_, ?_, ?_⟩
      · unfold dmE; rw [if_pos hk, if_neg h5, d1]
      · unfold dmR; rw [if_neg fun h => h5 h.2]
      · unfold dmS; rw [if_pos ⟨hk, h5⟩]; unfold dsO; rw [if_pos d1, g2]
  · rw [if_neg h0] at h
    exact absurd h h0
/-- which sheet's byte -/
theorem which_sheet (L : Lay) : ∀ {ys : List (List Nat)}, (∀ y ∈ ys, ShF y) → ∀ {i : Nat}, i < (bytesS L ys).length → ∃ (k j : Nat) (y : List Nat), ys[k]? = some y ∧ j < szN L (y.headD 0) ∧ i = (bytesS L (ys.take k)).length + j
  | [], _, i, h => by simp [bytesS] at h
  | y :: ys, hy, i, h => by
    have hpl := packS_len (L := L) (hy y (List.mem_cons_self ..))
    have e : bytesS L (y :: ys) = packS L y ++ bytesS L ys := by simp [bytesS]
    by_cases hi : i < szN L (y.headD 0)
    · exact ⟨0, i, y, rfl, hi, by simp [bytesS]⟩
    · rw [e, List.length_append, hpl] at h
      obtain ⟨k, j, z, h1, h2, h3⟩ := which_sheet L (ys := ys) (fun z hz => hy z (List.mem_cons_of_mem _ hz)) (i := i - szN L (y.headD 0)) (by omega)
      refine ⟨k + 1, j, z, h1, h2, ?_⟩
      have e2 : bytesS L ((y :: ys).take (k + 1)) = packS L y ++ bytesS L (ys.take k) := by simp [bytesS]
      rw [e2, List.length_append, hpl]
      omega
theorem sheets_rel {L : Lay} (hc : okB L = true ∧ 6 ≤ L.ty) {bs : List Nat} {ys : List (List Nat)} (hb : ∀ c ∈ bs, c < 256) (hg : getS L bs = some ys) {i : Nat} (hi : i < bs.length) :
    ∃ b r, r ≤ 7 ∧ b < 256 ∧ bs[i]? = some b ∧ (bytesS L ys)[i]? = some (b / 2 ^ r * 2 ^ r) := by
  obtain ⟨hsh, hfit, hlen⟩ := got_facts hc.1 (ty67 hc) bs.length (Nat.le_refl _) hg
  obtain ⟨k, j, y, h1, h2, rfl⟩ := which_sheet L hsh (i := i) (by omega)
  obtain ⟨b, r, h3, _, h4, h5, h6⟩ := rec_rel hc hb hg h1 h2
  exact ⟨b, r, h3, h4, h5, h6⟩
/-- what is decoded is encoded, as bytes of which no record's own bits are others -/
theorem again13 {L : Lay} {bs : List Nat} (hb : ∀ c ∈ bs, c < 256) (h : dmE L bs = 0) : emE L (dmR L bs) (dmS L bs) = 0 ∧ (emO L (dmR L bs) (dmS L bs)).length = bs.length ∧
    ∀ i, i < bs.length → ∃ b r, r ≤ 7 ∧ b < 256 ∧ bs[i]? = some b ∧ (emO L (dmR L bs) (dmS L bs))[i]? = some (b / 2 ^ r * 2 ^ r) := by
  unfold dmE at h
  by_cases hk : okB L = true
  · rw [if_pos hk] at h
    by_cases h5 : L.ty ≤ 5
    · rw [if_pos h5] at h
      obtain ⟨h1, h2⟩ := dcE_zero h
      obtain ⟨hc, hl, hm, ho⟩ := errRG_zero h1
      have eR : dmR L bs = outRG L bs := by unfold dmR; rw [if_pos ⟨hk, h5⟩]; unfold dcO; rw [if_pos h]
      have eS : dmS L bs = [] := by unfold dmS; rw [if_neg fun h => h.2 h5]
      have hsh : ∀ r ∈ recsB L bs (bs.length / szR L), RcF r := recsB_rcf
      have hlen : (bytesR L (recsB L bs (bs.length / szR L))).length = bs.length := by rw [bytesR_len hsh, recsB_len, Nat.div_mul_cancel (Nat.dvd_of_mod_eq_zero hm)]
      obtain ⟨p1, p2⟩ := put_okR hc recsB_fit (rs := recsB L bs (bs.length / szR L)) (by omega)
      rw [eR, eS]
      rw [ho] at h2 ⊢
      have k0 : kiE L (recsB L bs (bs.length / szR L)).length ([] : List (List Nat)).length = 0 := by unfold kiE; rw [if_pos hk, if_pos h5]; rfl
      have e1 : ecE L (recsB L bs (bs.length / szR L)) = 0 := by unfold ecE; rw [if_pos h2, p1]
      have eO : emO L (recsB L bs (bs.length / szR L)) [] = bytesR L (recsB L bs (bs.length / szR L)) := by unfold emO; rw [if_pos k0, if_pos h5, ecO_eq h2, p2]
      refine ⟨?_, ?_, ?_⟩
      · unfold emE; rw [if_pos k0, if_pos h5, e1]
      · rw [eO, hlen]
      · intro i hi
        obtain ⟨b, hb1, hb2, hb3⟩ := again_rel hk hb hm hi
        refine ⟨b, rrR L i, ?_, hb1, hb2, by rw [eO]; exact hb3⟩
        unfold rrR szR
        split <;> omega
    · rw [if_neg h5] at h
      obtain ⟨h1, h2⟩ := dsE_zero h
      obtain ⟨hc, hl, hg⟩ := errG_zero h1
      have hty := ty67 hc
      have eS : dmS L bs = outG L bs := by unfold dmS; rw [if_pos ⟨hk, h5⟩]; unfold dsO; rw [if_pos h]
      have eR : dmR L bs = [] := by unfold dmR; rw [if_neg fun h => h5 h.2]
      obtain ⟨hsh, hfit, hlen⟩ := got_facts hk hty bs.length (Nat.le_refl _) hg
      obtain ⟨p1, p2⟩ := put_ok hc hfit (by omega)
      rw [eR, eS]
      generalize outG L bs = ys at *
      have k0 : kiE L ([] : List (List Nat)).length ys.length = 0 := by unfold kiE; rw [if_pos hk, if_neg h5]; rfl
      have e1 : esE L ys = 0 := by unfold esE; rw [if_pos h2, p1]
      have eO : emO L [] ys = bytesS L ys := by unfold emO; rw [if_pos k0, if_neg h5, esO_eq h2, p2]
      refine ⟨?_, ?_, ?_⟩
      · unfold emE; rw [if_pos k0, if_neg h5, e1]
      · rw [eO, hlen]
      · intro i hi
        rw [eO]
        exact sheets_rel hc hb hg hi
  · rw [if_neg hk] at h; exact absurd h (by decide)
end Go.Proofs.YtjdaglmkljbfkaaDoor
namespace Go.Proofs.YtjdaglmkljbfkaaDoor
open Go Go.Gx Go.RowKit
set_option maxRecDepth 100000
set_option maxHeartbeats 4000000 in
theorem law_streamsBack (w0 : Base) (η : Heap) (hG : Sets w0) (hE : T12.Edges w0) (L : Lay) (rv tv : Value) (rs ss : List (List Nat)) (hs : SlA (St w0 η) rv 7 rs.length (flatR rs)) (ht : SlA (St w0 η) tv 49 ss.length (flatS ss)) (hr : ∀ r ∈ rs, RcF r) (hq : ∀ r ∈ ss, ShF r) :
    CallsT Tryd.prog 5 [L.val, .agg #[rv, tv]] (St w0 η) fun v A' => v = .bool true ∧ A' = St w0 η := by
  have hs0 := hs
  have ht0 := ht
  obtain ⟨ra, rc, rfl⟩ := slval hs
  obtain ⟨sa, sc, rfl⟩ := slval ht
  refine CallsT.body Tryd.func5 rfl rfl ?_
  simp only [Tryd.ntmps5, slotsOf, Nat.reduceAdd]
  refine TC_seq ?_
  refine TC_reg ?_
  refine TL_e rfl rfl rfl (rfl) (ET_box rfl rfl) ?_
  rintro _ _ ⟨b2, rfl, rfl⟩
  refine TL_e rfl rfl rfl (rfl) (ET_box rfl rfl) ?_
  rintro _ _ ⟨b3, rfl, rfl⟩
  refine TL_q rfl rfl (QT_assign rfl rfl rfl) ?_
  refine TL_nil ?_
  refine TX_then ?_
  refine TC_seq ?_
  refine TC_seq ?_
  refine TC_A (St w0 ((b3, 33, [.slice ra rs.length rc, .slice sa ss.length sc]) :: (b2, 27, L.cells) :: η)) (fun _ h => h) ?_
  refine TC_reg ?_
  refine TL_q rfl rfl (QT_field rfl rfl YtjdaglmkljbfkaaDoorF.fld_33_0 rfl) ?_
  first
    | refine TL_q rfl rfl (QT_load 0 rfl rfl Tryd.underlying30 rfl rfl rfl (fun _ => rfl)) ?_
    | refine TL_q rfl rfl (QT_load 1 rfl rfl Tryd.underlying30 rfl rfl rfl (fun _ => rfl)) ?_
    | refine TL_q rfl rfl (QT_load 2 rfl rfl Tryd.underlying30 rfl rfl rfl (fun _ => rfl)) ?_
  refine TL_q rfl rfl (QT_len rfl rfl Tryd.underlying30 rfl) ?_
  refine TL_q rfl rfl (QT_gtr rfl rfl rfl rfl) ?_
  refine TL_q rfl rfl (QT_move rfl rfl rfl) ?_
  refine TL_q rfl rfl (QT_field rfl rfl YtjdaglmkljbfkaaDoorF.fld_33_1 rfl) ?_
  first
    | refine TL_q rfl rfl (QT_load 0 rfl rfl Tryd.underlying31 rfl rfl rfl (fun _ => rfl)) ?_
    | refine TL_q rfl rfl (QT_load 1 rfl rfl Tryd.underlying31 rfl rfl rfl (fun _ => rfl)) ?_
    | refine TL_q rfl rfl (QT_load 2 rfl rfl Tryd.underlying31 rfl rfl rfl (fun _ => rfl)) ?_
  refine TL_q rfl rfl (QT_len rfl rfl Tryd.underlying31 rfl) ?_
  refine TL_q rfl rfl (QT_gtr rfl rfl rfl rfl) ?_
  refine TL_q rfl rfl (QT_or rfl rfl rfl rfl) ?_
  refine TL_nil ?_
  refine TX_then ?_
  first
    | refine TC_cond_dec rfl (fun h20 => ?_) (fun h20 => ?_)
    | refine TC_cond rfl (fun h20 => ?_) (fun h20 => ?_)
  ·
    refine TC_seq ?_
    refine TC_reg ?_
    refine TL_cq rfl rfl rfl rfl YtjdaglmkljbfkaaDoorF.cal_6 rfl (fun _ => lives13 w0 _ hG hE) ?_
    refine TL_q rfl rfl (QT_assign rfl rfl rfl) ?_
    refine TL_nil ?_
    refine TX_then ?_
    refine TC_ret ?_
    refine TX_then_ret ?_
    exact TX_ret (.inl rfl) (res1 rfl rfl) ⟨_, ⟨rfl, rfl⟩, fun _ h => h.tail.tail⟩
  ·
    refine TC_skip ?_
    refine TX_then ?_
    refine TC_seq ?_
    have hn : rs.length ≤ 300 ∧ ss.length ≤ 40 := by simp at h20; omega
    have hs1 : ∀ X : Heap, SlA (St w0 (X ++ η)) (.slice ra rs.length rc) 7 rs.length (flatR rs) := fun X => hs0.mono fun _ h => h.app_right
    have ht1 : ∀ X : Heap, SlA (St w0 (X ++ η)) (.slice sa ss.length sc) 49 ss.length (flatS ss) := fun X => ht0.mono fun _ h => h.app_right
    refine TC_A (St w0 ((b3, 33, [.slice ra rs.length rc, .slice sa ss.length sc]) :: (b2, 27, L.cells) :: η)) (fun _ h => h) ?_
    refine TC_reg ?_
    first
      | refine TL_q rfl rfl (QT_loadW 0 rfl rfl Tryd.underlying27 rfl rfl rfl YtjdaglmkljbfkaaDoorF.sz_27) ?_
      | refine TL_q rfl rfl (QT_loadW 1 rfl rfl Tryd.underlying27 rfl rfl rfl YtjdaglmkljbfkaaDoorF.sz_27) ?_
      | refine TL_q rfl rfl (QT_loadW 2 rfl rfl Tryd.underlying27 rfl rfl rfl YtjdaglmkljbfkaaDoorF.sz_27) ?_
      | refine TL_q rfl rfl (QT_loadA 0 rfl rfl Tryd.underlying27 rfl rfl rfl YtjdaglmkljbfkaaDoorF.sz_27 (fun _ => rfl)) ?_
      | refine TL_q rfl rfl (QT_loadA 1 rfl rfl Tryd.underlying27 rfl rfl rfl YtjdaglmkljbfkaaDoorF.sz_27 (fun _ => rfl)) ?_
      | refine TL_q rfl rfl (QT_loadA 2 rfl rfl Tryd.underlying27 rfl rfl rfl YtjdaglmkljbfkaaDoorF.sz_27 (fun _ => rfl)) ?_
    first
      | refine TL_q rfl rfl (QT_loadW 0 rfl rfl Tryd.underlying33 rfl rfl rfl YtjdaglmkljbfkaaDoorF.sz_33) ?_
      | refine TL_q rfl rfl (QT_loadW 1 rfl rfl Tryd.underlying33 rfl rfl rfl YtjdaglmkljbfkaaDoorF.sz_33) ?_
      | refine TL_q rfl rfl (QT_loadW 2 rfl rfl Tryd.underlying33 rfl rfl rfl YtjdaglmkljbfkaaDoorF.sz_33) ?_
      | refine TL_q rfl rfl (QT_loadA 0 rfl rfl Tryd.underlying33 rfl rfl rfl YtjdaglmkljbfkaaDoorF.sz_33 (fun _ => rfl)) ?_
      | refine TL_q rfl rfl (QT_loadA 1 rfl rfl Tryd.underlying33 rfl rfl rfl YtjdaglmkljbfkaaDoorF.sz_33 (fun _ => rfl)) ?_
      | refine TL_q rfl rfl (QT_loadA 2 rfl rfl Tryd.underlying33 rfl rfl rfl YtjdaglmkljbfkaaDoorF.sz_33 (fun _ => rfl)) ?_
    refine TL_e rfl rfl rfl (rfl) (ET_call rfl YtjdaglmkljbfkaaDoorF.cal_8 rfl (Encode_spec w0 _ hG hE L _ _ rs ss (hs1 [_, _]) (ht1 [_, _]) hr hq (by omega) (by omega))) ?_
    rintro _ _ ⟨bv, H1, rfl, hF1, rfl⟩
    refine TL_q rfl rfl (QT_move rfl rfl rfl) ?_
    refine TL_q rfl rfl (QT_extract rfl rfl rfl rfl) ?_
    refine TL_q rfl rfl (QT_extract rfl rfl rfl rfl) ?_
    refine TL_q rfl rfl (QT_assign rfl rfl rfl) ?_
    refine TL_q rfl rfl (QT_assign rfl rfl rfl) ?_
    refine TL_nil ?_
    refine TX_then ?_
    refine TC_seq ?_
    refine TC_seq ?_
    refine TC_reg ?_
    refine TL_q rfl rfl (QT_move rfl rfl rfl) ?_
    refine TL_q rfl rfl (QT_neq rfl rfl rfl rfl) ?_
    refine TL_nil ?_
    refine TX_then ?_
    first
      | refine TC_cond_dec rfl (fun h29 => ?_) (fun h29 => ?_)
      | refine TC_cond rfl (fun h29 => ?_) (fun h29 => ?_)
    ·
      rw [emO_bad h29] at hF1
      obtain ⟨bad, bcap, rfl, _, _⟩ := hF1.slice
      refine TC_seq ?_
      refine TC_reg ?_
      refine TL_q rfl rfl (QT_move rfl rfl rfl) ?_
      refine TL_q rfl rfl (QT_len rfl rfl Tryd.underlying28 rfl) ?_
      refine TL_q rfl rfl (QT_eql rfl rfl rfl rfl) ?_
      refine TL_q rfl rfl (QT_move rfl rfl rfl) ?_
      refine TL_cq rfl rfl rfl rfl YtjdaglmkljbfkaaDoorF.cal_6 rfl (fun _ => lives13 w0 _ hG hE) ?_
      refine TL_q rfl rfl (QT_and rfl rfl rfl rfl) ?_
      refine TL_q rfl rfl (QT_assign rfl rfl rfl) ?_
      refine TL_nil ?_
      refine TX_then ?_
      refine TC_ret ?_
      refine TX_then_ret ?_
      exact TX_ret (.inl rfl) (res1 rfl rfl) ⟨_, ⟨congrArg Value.bool (show (_ : Bool) = true by rfl), rfl⟩, fun w h => h.cnt fun p => by simp only [List.countP_append, List.countP_cons, List.countP_nil]; omega⟩
    ·
      refine TC_skip ?_
      refine TX_then ?_
      refine TC_seq ?_
      have e0 := Classical.not_not.1 h29
      obtain ⟨d1, d2, d3⟩ := back13 hr hq e0
      have hlt : ∀ c ∈ emO L rs ss, c < 256 := emO_lt
      have hlb := emO_len L rs ss
      generalize hbb : emO L rs ss = bb at hF1 d1 d2 d3 hlt hlb
      refine TC_A (St w0 ((b3, 33, [.slice ra rs.length rc, .slice sa ss.length sc]) :: (b2, 27, L.cells) :: (H1 ++ η))) (fun w h => h.cnt fun p => by simp only [List.countP_append, List.countP_cons, List.countP_nil]; omega) ?_
      refine TC_reg ?_
      first
        | refine TL_q rfl rfl (QT_loadW 0 rfl rfl Tryd.underlying27 rfl rfl rfl YtjdaglmkljbfkaaDoorF.sz_27) ?_
        | refine TL_q rfl rfl (QT_loadW 1 rfl rfl Tryd.underlying27 rfl rfl rfl YtjdaglmkljbfkaaDoorF.sz_27) ?_
        | refine TL_q rfl rfl (QT_loadW 2 rfl rfl Tryd.underlying27 rfl rfl rfl YtjdaglmkljbfkaaDoorF.sz_27) ?_
        | refine TL_q rfl rfl (QT_loadA 0 rfl rfl Tryd.underlying27 rfl rfl rfl YtjdaglmkljbfkaaDoorF.sz_27 (fun _ => rfl)) ?_
        | refine TL_q rfl rfl (QT_loadA 1 rfl rfl Tryd.underlying27 rfl rfl rfl YtjdaglmkljbfkaaDoorF.sz_27 (fun _ => rfl)) ?_
        | refine TL_q rfl rfl (QT_loadA 2 rfl rfl Tryd.underlying27 rfl rfl rfl YtjdaglmkljbfkaaDoorF.sz_27 (fun _ => rfl)) ?_
      refine TL_q rfl rfl (QT_move rfl rfl rfl) ?_
      refine TL_e rfl rfl rfl (rfl) (ET_call rfl YtjdaglmkljbfkaaDoorF.cal_7 rfl (Decode_spec w0 _ hG hE L _ bb (hF1.within fun p => by simp only [List.countP_append, List.countP_cons]; omega) hlt (by omega))) ?_
      rintro _ _ ⟨nv, H2, mv, G2, rfl, hF2, hT2, rfl⟩
      refine TL_q rfl rfl (QT_move rfl rfl rfl) ?_
      refine TL_q rfl rfl (QT_extract rfl rfl rfl rfl) ?_
      refine TL_q rfl rfl (QT_extract rfl rfl rfl rfl) ?_
      refine TL_e rfl rfl rfl (rfl) (ET_alloc rfl YtjdaglmkljbfkaaDoorF.zero_33) ?_
      rintro _ _ ⟨b7, rfl, rfl⟩
      rw [d2] at hF2
      rw [d3] at hT2
      obtain ⟨nad, ncap, rfl, _, _⟩ := hF2.slice
      obtain ⟨mad, mcap, rfl, _, _⟩ := hT2.slice
      first
        | refine TL_e0 rfl rfl (rfl) (ET_storeW 0 rfl rfl rfl YtjdaglmkljbfkaaDoorF.sz_33 rfl rfl rfl) ?_
        | refine TL_e0 rfl rfl (rfl) (ET_storeW 1 rfl rfl rfl YtjdaglmkljbfkaaDoorF.sz_33 rfl rfl rfl) ?_
        | refine TL_e0 rfl rfl (rfl) (ET_storeW 2 rfl rfl rfl YtjdaglmkljbfkaaDoorF.sz_33 rfl rfl rfl) ?_
        | refine TL_e0 rfl rfl (rfl) (ET_store 0 rfl rfl rfl rfl YtjdaglmkljbfkaaDoorF.sz_33 rfl rfl rfl) ?_
        | refine TL_e0 rfl rfl (rfl) (ET_store 1 rfl rfl rfl rfl YtjdaglmkljbfkaaDoorF.sz_33 rfl rfl rfl) ?_
        | refine TL_e0 rfl rfl (rfl) (ET_store 2 rfl rfl rfl rfl YtjdaglmkljbfkaaDoorF.sz_33 rfl rfl rfl) ?_
      rintro _ _ ⟨rfl, rfl⟩
      refine TL_q rfl rfl (QT_assign rfl rfl rfl) ?_
      refine TL_nil ?_
      refine TX_then ?_
      refine TC_seq ?_
      simp only [d1]
      refine TC_A (St w0 ((b7, 33, [.slice nad rs.length ncap, .slice mad ss.length mcap]) :: (b3, 33, [.slice ra rs.length rc, .slice sa ss.length sc]) :: (b2, 27, L.cells) :: (H1 ++ (H2 ++ (G2 ++ η))))) (fun w h => h.cnt fun p => by simp only [upd, List.countP_append, List.countP_cons, List.countP_nil]; omega) ?_
      refine TC_reg ?_
      first
        | refine TL_q rfl rfl (QT_loadW 0 rfl rfl Tryd.underlying27 rfl rfl rfl YtjdaglmkljbfkaaDoorF.sz_27) ?_
        | refine TL_q rfl rfl (QT_loadW 1 rfl rfl Tryd.underlying27 rfl rfl rfl YtjdaglmkljbfkaaDoorF.sz_27) ?_
        | refine TL_q rfl rfl (QT_loadW 2 rfl rfl Tryd.underlying27 rfl rfl rfl YtjdaglmkljbfkaaDoorF.sz_27) ?_
        | refine TL_q rfl rfl (QT_loadA 0 rfl rfl Tryd.underlying27 rfl rfl rfl YtjdaglmkljbfkaaDoorF.sz_27 (fun _ => rfl)) ?_
        | refine TL_q rfl rfl (QT_loadA 1 rfl rfl Tryd.underlying27 rfl rfl rfl YtjdaglmkljbfkaaDoorF.sz_27 (fun _ => rfl)) ?_
        | refine TL_q rfl rfl (QT_loadA 2 rfl rfl Tryd.underlying27 rfl rfl rfl YtjdaglmkljbfkaaDoorF.sz_27 (fun _ => rfl)) ?_
      first
        | refine TL_q rfl rfl (QT_loadW 0 rfl rfl Tryd.underlying33 rfl rfl rfl YtjdaglmkljbfkaaDoorF.sz_33) ?_
        | refine TL_q rfl rfl (QT_loadW 1 rfl rfl Tryd.underlying33 rfl rfl rfl YtjdaglmkljbfkaaDoorF.sz_33) ?_
        | refine TL_q rfl rfl (QT_loadW 2 rfl rfl Tryd.underlying33 rfl rfl rfl YtjdaglmkljbfkaaDoorF.sz_33) ?_
        | refine TL_q rfl rfl (QT_loadA 0 rfl rfl Tryd.underlying33 rfl rfl rfl YtjdaglmkljbfkaaDoorF.sz_33 (fun _ => rfl)) ?_
        | refine TL_q rfl rfl (QT_loadA 1 rfl rfl Tryd.underlying33 rfl rfl rfl YtjdaglmkljbfkaaDoorF.sz_33 (fun _ => rfl)) ?_
        | refine TL_q rfl rfl (QT_loadA 2 rfl rfl Tryd.underlying33 rfl rfl rfl YtjdaglmkljbfkaaDoorF.sz_33 (fun _ => rfl)) ?_
      refine TL_e rfl rfl rfl (rfl) (ET_call rfl YtjdaglmkljbfkaaDoorF.cal_8 rfl (Encode_spec w0 _ hG hE L _ _ rs ss (hF2.within fun p => by simp only [List.countP_append, List.countP_cons]; omega) (hT2.within fun p => by simp only [List.countP_append, List.countP_cons]; omega) hr hq (by omega) (by omega))) ?_
      rintro _ _ ⟨cv, H3, rfl, hF3, rfl⟩
      refine TL_q rfl rfl (QT_move rfl rfl rfl) ?_
      refine TL_q rfl rfl (QT_extract rfl rfl rfl rfl) ?_
      refine TL_q rfl rfl (QT_extract rfl rfl rfl rfl) ?_
      refine TL_q rfl rfl (QT_assign rfl rfl rfl) ?_
      refine TL_q rfl rfl (QT_assign rfl rfl rfl) ?_
      refine TL_nil ?_
      refine TX_then ?_
      refine TC_seq ?_
      rw [hbb] at hF3
      simp only [e0]
      refine TC_A (St w0 ((b7, 33, [.slice nad rs.length ncap, .slice mad ss.length mcap]) :: (b3, 33, [.slice ra rs.length rc, .slice sa ss.length sc]) :: (b2, 27, L.cells) :: (H1 ++ (H2 ++ (G2 ++ (H3 ++ η)))))) (fun w h => h.cnt fun p => by simp only [List.countP_append, List.countP_cons, List.countP_nil]; omega) ?_
      refine TC_reg ?_
      refine TL_q rfl rfl (QT_move rfl rfl rfl) ?_
      refine TL_q rfl rfl (QT_eql rfl rfl rfl rfl) ?_
      refine TL_q rfl rfl (QT_move rfl rfl rfl) ?_
      refine TL_q rfl rfl (QT_move rfl rfl rfl) ?_
      refine TL_q rfl rfl (QT_eql rfl rfl rfl rfl) ?_
      refine TL_q rfl rfl (QT_and rfl rfl rfl rfl) ?_
      refine TL_q rfl rfl (QT_move rfl rfl rfl) ?_
      first
        | refine TL_q rfl rfl (QT_loadW 0 rfl rfl Tryd.underlying33 rfl rfl rfl YtjdaglmkljbfkaaDoorF.sz_33) ?_
        | refine TL_q rfl rfl (QT_loadW 1 rfl rfl Tryd.underlying33 rfl rfl rfl YtjdaglmkljbfkaaDoorF.sz_33) ?_
        | refine TL_q rfl rfl (QT_loadW 2 rfl rfl Tryd.underlying33 rfl rfl rfl YtjdaglmkljbfkaaDoorF.sz_33) ?_
        | refine TL_q rfl rfl (QT_loadA 0 rfl rfl Tryd.underlying33 rfl rfl rfl YtjdaglmkljbfkaaDoorF.sz_33 (fun _ => rfl)) ?_
        | refine TL_q rfl rfl (QT_loadA 1 rfl rfl Tryd.underlying33 rfl rfl rfl YtjdaglmkljbfkaaDoorF.sz_33 (fun _ => rfl)) ?_
        | refine TL_q rfl rfl (QT_loadA 2 rfl rfl Tryd.underlying33 rfl rfl rfl YtjdaglmkljbfkaaDoorF.sz_33 (fun _ => rfl)) ?_
      first
        | refine TL_q rfl rfl (QT_loadW 0 rfl rfl Tryd.underlying33 rfl rfl rfl YtjdaglmkljbfkaaDoorF.sz_33) ?_
        | refine TL_q rfl rfl (QT_loadW 1 rfl rfl Tryd.underlying33 rfl rfl rfl YtjdaglmkljbfkaaDoorF.sz_33) ?_
        | refine TL_q rfl rfl (QT_loadW 2 rfl rfl Tryd.underlying33 rfl rfl rfl YtjdaglmkljbfkaaDoorF.sz_33) ?_
        | refine TL_q rfl rfl (QT_loadA 0 rfl rfl Tryd.underlying33 rfl rfl rfl YtjdaglmkljbfkaaDoorF.sz_33 (fun _ => rfl)) ?_
        | refine TL_q rfl rfl (QT_loadA 1 rfl rfl Tryd.underlying33 rfl rfl rfl YtjdaglmkljbfkaaDoorF.sz_33 (fun _ => rfl)) ?_
        | refine TL_q rfl rfl (QT_loadA 2 rfl rfl Tryd.underlying33 rfl rfl rfl YtjdaglmkljbfkaaDoorF.sz_33 (fun _ => rfl)) ?_
      refine TL_cq rfl rfl rfl rfl YtjdaglmkljbfkaaDoorF.cal_9 rfl (fun _ => sameOk_Mesh w0 _ _ _ _ _ rs ss (hs0.mono fun _ h => h.tail.tail.tail.app_right.app_right.app_right.app_right) (hF2.within fun p => by simp only [List.countP_append, List.countP_cons]; omega) (ht0.mono fun _ h => h.tail.tail.tail.app_right.app_right.app_right.app_right) (hT2.within fun p => by simp only [List.countP_append, List.countP_cons]; omega) hr hq) ?_
      refine TL_q rfl rfl (QT_and rfl rfl rfl rfl) ?_
      refine TL_q rfl rfl (QT_move rfl rfl rfl) ?_
      refine TL_q rfl rfl (QT_move rfl rfl rfl) ?_
      refine TL_q rfl rfl (QT_move rfl rfl rfl) ?_
      refine TL_cq rfl rfl rfl rfl YtjdaglmkljbfkaaDoorF.cal_20 rfl (fun _ => sameOk_Bytes w0 _ _ _ bb.length (byV bb) (hF1.within fun p => by simp only [List.countP_append, List.countP_cons]; omega) (hF3.within fun p => by simp only [List.countP_append, List.countP_cons]; omega) (byV_ints hlt)) ?_
      refine TL_q rfl rfl (QT_and rfl rfl rfl rfl) ?_
      refine TL_q rfl rfl (QT_move rfl rfl rfl) ?_
      refine TL_cq rfl rfl rfl rfl YtjdaglmkljbfkaaDoorF.cal_6 rfl (fun _ => lives13 w0 _ hG hE) ?_
      refine TL_q rfl rfl (QT_and rfl rfl rfl rfl) ?_
      refine TL_q rfl rfl (QT_assign rfl rfl rfl) ?_
      refine TL_nil ?_
      refine TX_then ?_
      refine TC_ret ?_
      exact TX_ret (.inl rfl) (res1 rfl rfl) ⟨_, ⟨congrArg Value.bool (show (_ : Bool) = true by rfl), rfl⟩, fun w h => h.cnt fun p => by simp only [List.countP_append, List.countP_cons, List.countP_nil]; omega⟩
end Go.Proofs.YtjdaglmkljbfkaaDoor
namespace Go.Proofs.YtjdaglmkljbfkaaDoor
open Go Go.Gx Go.RowKit
set_option maxRecDepth 100000
theorem trisM_flat {L : Lay} {rs : List R} (ha : All7 rs) : Ints (rep (trioF L rs).1.length triK) (trioF L rs).1.flatten := flat_ints (s := 21) (trio_ints ha).1
theorem sameOk_TrisM (w0 : Base) (η : Heap) (va vb : Value) (n : Nat) (xs : List Value) (ha : SlA (St w0 η) va 21 n xs) (hb : SlA (St w0 η) vb 21 n xs) (hi : Ints (rep n triK) xs) :
    CallsT Tryd.prog 15 [va, vb] (St w0 η) fun v A' => v = .bool true ∧ A' = St w0 η := by
  have h := same_Tris w0 η va vb n n xs xs ha hb hi hi
  rwa [eqC_refl hi] at h
theorem sameOk_TilesM (w0 : Base) (η : Heap) (va vb : Value) (n : Nat) (xs : List Value) (ha : SlA (St w0 η) va 48 n xs) (hb : SlA (St w0 η) vb 48 n xs) (hi : Ints (rep n patchK) xs) :
    CallsT Tryd.prog 19 [va, vb] (St w0 η) fun v A' => v = .bool true ∧ A' = St w0 η := by
  have h := same_Tiles w0 η va vb n n xs xs ha hb hi hi
  rwa [eqC_refl hi] at h
theorem both_ki {L : Lay} (hk : okB L = true) : kiE L ([z7, z7, z7] : List (List Nat)).length ([z49] : List (List Nat)).length = 1 := by
  unfold kiE
  rw [if_pos hk]
  split <;> rfl
theorem both_fa {L : Lay} (hk : okB L = true) : faE L [z7, z7, z7] [z49] = 1 := by
  unfold faE; rw [both_ki hk]; rfl
theorem both_em {L : Lay} (hk : okB L = true) : emE L [z7, z7, z7] [z49] = 1 := by
  unfold emE; rw [both_ki hk]; rfl
theorem dmE_A {L : Lay} (hk : okB L = true) (h5 : L.ty ≤ 5) (bs : List Nat) : dmE L bs = dcE L bs ∧ dmR L bs = dcO L bs ∧ dmS L bs = [] := by
  refine ⟨?_, ?_, ?_⟩
  · unfold dmE; rw [if_pos hk, if_pos h5]
  · unfold dmR; rw [if_pos ⟨hk, h5⟩]
  · unfold dmS; rw [if_neg fun h => h.2 h5]
theorem dmE_B {L : Lay} (hk : okB L = true) (h5 : ¬L.ty ≤ 5) (bs : List Nat) : dmE L bs = dsE L bs ∧ dmR L bs = [] ∧ dmS L bs = dsO L bs := by
  refine ⟨?_, ?_, ?_⟩
  · unfold dmE; rw [if_pos hk, if_neg h5]
  · unfold dmR; rw [if_neg fun h => h5 h.2]
  · unfold dmS; rw [if_pos ⟨hk, h5⟩]
theorem fa_A {L : Lay} (hk : okB L = true) (h5 : L.ty ≤ 5) (rs : List (List Nat)) : faE L rs [] = (trioF L (rs.map rvV)).2 ∧ faT L rs [] = (trioF L (rs.map rvV)).1 ∧ faN L rs [] = 0 ∧ faP L rs [] = [] := by
  have k0 : kiE L rs.length ([] : List (List Nat)).length = 0 := by unfold kiE; rw [if_pos hk, if_pos h5]; rfl
  refine ⟨?_, ?_, ?_, ?_⟩
  · unfold faE; rw [if_pos k0, if_pos h5]
  · unfold faT; rw [if_pos ⟨k0, h5⟩]
  · unfold faN; rw [if_neg fun h => h.2 h5]
  · unfold faP; rw [if_neg fun h => h.2 h5]
theorem fa_B {L : Lay} (hk : okB L = true) (h5 : ¬L.ty ≤ 5) (ss : List (List Nat)) : faE L [] ss = T12.errT L ss.length (flatS ss) ∧ faT L [] ss = [] ∧ faN L [] ss = T12.cntT L ss.length (flatS ss) ∧ faP L [] ss = T12.outT L ss.length (flatS ss) := by
  have k0 : kiE L ([] : List (List Nat)).length ss.length = 0 := by unfold kiE; rw [if_pos hk, if_neg h5]; rfl
  refine ⟨?_, ?_, ?_, ?_⟩
  · unfold faE; rw [if_pos k0, if_neg h5]
  · unfold faT; rw [if_neg fun h => h5 h.2]
  · unfold faN; rw [if_pos ⟨k0, h5⟩]
  · unfold faP; rw [if_pos ⟨k0, h5⟩]
theorem all_z7 : ∀ r ∈ ([z7, z7, z7] : List (List Nat)), RcF r := fun r hr => by
  simp only [List.mem_cons, List.not_mem_nil, or_false, or_self] at hr; subst hr; exact rcf_z7
theorem all_z49 : ∀ r ∈ ([z49] : List (List Nat)), ShF r := fun r hr => by cases List.mem_singleton.1 hr; exact shf_z49
theorem both_cells (x y : Nat) : (Value.slice (some ⟨x, 0, none⟩) 3 3).cells.toList ++ ((Value.slice (some ⟨y, 0, none⟩) 1 1).cells.toList ++ List.drop 1 (List.drop 1 (Value.agg #[Value.slice none 0 0, Value.slice none 0 0]).cells.toList)) = [.slice (some ⟨x, 0, none⟩) 3 3, .slice (some ⟨y, 0, none⟩) 1 1] := rfl
set_option maxHeartbeats 8000000 in
theorem law_streamsParts (w0 : Base) (η : Heap) (hG : Sets w0) (hE : T12.Edges w0) (L : Lay) (bv : Value) (bs : List Nat) (hs : SlA (St w0 η) bv 1 bs.length (byV bs)) (hb : ∀ c ∈ bs, c < 256) :
    CallsT Tryd.prog 4 [L.val, bv] (St w0 η) fun v A' => v = .bool true ∧ A' = St w0 η := by
  have hs0 := hs
  obtain ⟨ba, bc, rfl⟩ := slval hs
  have hs1 : ∀ X : Heap, SlA (St w0 (X ++ η)) (.slice ba bs.length bc) 1 bs.length (byV bs) := fun X => hs0.mono fun _ h => h.app_right
  refine CallsT.body Tryd.func4 rfl rfl ?_
  simp only [Tryd.ntmps4, slotsOf, Nat.reduceAdd]
  refine TC_seq ?_
  refine TC_reg ?_
  refine TL_e rfl rfl rfl (rfl) (ET_box rfl rfl) ?_
  rintro _ _ ⟨b2, rfl, rfl⟩
  refine TL_q rfl rfl (QT_assign rfl rfl rfl) ?_
  refine TL_nil ?_
  refine TX_then ?_
  refine TC_seq ?_
  refine TC_seq ?_
  refine TC_reg ?_
  refine TL_q rfl rfl (QT_move rfl rfl rfl) ?_
  refine TL_q rfl rfl (QT_len rfl rfl Tryd.underlying28 rfl) ?_
  refine TL_q rfl rfl (QT_gtr rfl rfl rfl rfl) ?_
  refine TL_q rfl rfl (QT_move rfl rfl rfl) ?_
  first
    | refine TL_q rfl rfl (QT_loadW 0 rfl rfl Tryd.underlying27 rfl rfl rfl YtjdaglmkljbfkaaDoorF.sz_27) ?_
    | refine TL_q rfl rfl (QT_loadW 1 rfl rfl Tryd.underlying27 rfl rfl rfl YtjdaglmkljbfkaaDoorF.sz_27) ?_
    | refine TL_q rfl rfl (QT_loadW 2 rfl rfl Tryd.underlying27 rfl rfl rfl YtjdaglmkljbfkaaDoorF.sz_27) ?_
    | refine TL_q rfl rfl (QT_loadW 3 rfl rfl Tryd.underlying27 rfl rfl rfl YtjdaglmkljbfkaaDoorF.sz_27) ?_
    | refine TL_q rfl rfl (QT_loadW 4 rfl rfl Tryd.underlying27 rfl rfl rfl YtjdaglmkljbfkaaDoorF.sz_27) ?_
    | refine TL_q rfl rfl (QT_loadA 0 rfl rfl Tryd.underlying27 rfl rfl rfl YtjdaglmkljbfkaaDoorF.sz_27 (fun _ => rfl)) ?_
    | refine TL_q rfl rfl (QT_loadA 1 rfl rfl Tryd.underlying27 rfl rfl rfl YtjdaglmkljbfkaaDoorF.sz_27 (fun _ => rfl)) ?_
    | refine TL_q rfl rfl (QT_loadA 2 rfl rfl Tryd.underlying27 rfl rfl rfl YtjdaglmkljbfkaaDoorF.sz_27 (fun _ => rfl)) ?_
    | refine TL_q rfl rfl (QT_loadA 3 rfl rfl Tryd.underlying27 rfl rfl rfl YtjdaglmkljbfkaaDoorF.sz_27 (fun _ => rfl)) ?_
    | refine TL_q rfl rfl (QT_loadA 4 rfl rfl Tryd.underlying27 rfl rfl rfl YtjdaglmkljbfkaaDoorF.sz_27 (fun _ => rfl)) ?_
  refine TL_cq rfl rfl rfl rfl YtjdaglmkljbfkaaDoorF.cal_10 rfl (fun _ => check_spec w0 _ hG L) ?_
  refine TL_q rfl rfl (QT_neq rfl rfl rfl rfl) ?_
  refine TL_q rfl rfl (QT_or rfl rfl rfl rfl) ?_
  refine TL_nil ?_
  refine TX_then ?_
  first
    | refine TC_cond_dec rfl (fun h33 => ?_) (fun h33 => ?_)
    | refine TC_cond rfl (fun h33 => ?_) (fun h33 => ?_)
  ·
    refine TC_seq ?_
    refine TC_reg ?_
    first
      | refine TL_q rfl rfl (QT_loadW 0 rfl rfl Tryd.underlying27 rfl rfl rfl YtjdaglmkljbfkaaDoorF.sz_27) ?_
      | refine TL_q rfl rfl (QT_loadW 1 rfl rfl Tryd.underlying27 rfl rfl rfl YtjdaglmkljbfkaaDoorF.sz_27) ?_
      | refine TL_q rfl rfl (QT_loadW 2 rfl rfl Tryd.underlying27 rfl rfl rfl YtjdaglmkljbfkaaDoorF.sz_27) ?_
      | refine TL_q rfl rfl (QT_loadW 3 rfl rfl Tryd.underlying27 rfl rfl rfl YtjdaglmkljbfkaaDoorF.sz_27) ?_
      | refine TL_q rfl rfl (QT_loadW 4 rfl rfl Tryd.underlying27 rfl rfl rfl YtjdaglmkljbfkaaDoorF.sz_27) ?_
      | refine TL_q rfl rfl (QT_loadA 0 rfl rfl Tryd.underlying27 rfl rfl rfl YtjdaglmkljbfkaaDoorF.sz_27 (fun _ => rfl)) ?_
      | refine TL_q rfl rfl (QT_loadA 1 rfl rfl Tryd.underlying27 rfl rfl rfl YtjdaglmkljbfkaaDoorF.sz_27 (fun _ => rfl)) ?_
      | refine TL_q rfl rfl (QT_loadA 2 rfl rfl Tryd.underlying27 rfl rfl rfl YtjdaglmkljbfkaaDoorF.sz_27 (fun _ => rfl)) ?_
      | refine TL_q rfl rfl (QT_loadA 3 rfl rfl Tryd.underlying27 rfl rfl rfl YtjdaglmkljbfkaaDoorF.sz_27 (fun _ => rfl)) ?_
      | refine TL_q rfl rfl (QT_loadA 4 rfl rfl Tryd.underlying27 rfl rfl rfl YtjdaglmkljbfkaaDoorF.sz_27 (fun _ => rfl)) ?_
    refine TL_e rfl rfl rfl (rfl) (ET_call rfl YtjdaglmkljbfkaaDoorF.cal_7 rfl (Decode_spec w0 _ hG hE L _ [] ((Frag.nil 5 1).sla (H := [])) (fun c hc => by cases hc) (by decide))) ?_
    rintro _ _ ⟨rv5, H5, tv5, G5, rfl, hF5, hT5, rfl⟩
    refine TL_q rfl rfl (QT_move rfl rfl rfl) ?_
    refine TL_q rfl rfl (QT_extract rfl rfl rfl rfl) ?_
    refine TL_q rfl rfl (QT_extract rfl rfl rfl rfl) ?_
    refine TL_e rfl rfl rfl (rfl) (ET_alloc rfl YtjdaglmkljbfkaaDoorF.zero_33) ?_
    rintro _ _ ⟨b5, rfl, rfl⟩
    obtain ⟨ad5, cap5, rfl, _, _⟩ := hF5.slice
    obtain ⟨td5, tcp5, rfl, _, _⟩ := hT5.slice
    first
      | refine TL_e0 rfl rfl (rfl) (ET_storeW 0 rfl rfl rfl YtjdaglmkljbfkaaDoorF.sz_33 rfl rfl rfl) ?_
      | refine TL_e0 rfl rfl (rfl) (ET_storeW 1 rfl rfl rfl YtjdaglmkljbfkaaDoorF.sz_33 rfl rfl rfl) ?_
      | refine TL_e0 rfl rfl (rfl) (ET_storeW 2 rfl rfl rfl YtjdaglmkljbfkaaDoorF.sz_33 rfl rfl rfl) ?_
      | refine TL_e0 rfl rfl (rfl) (ET_storeW 3 rfl rfl rfl YtjdaglmkljbfkaaDoorF.sz_33 rfl rfl rfl) ?_
      | refine TL_e0 rfl rfl (rfl) (ET_storeW 4 rfl rfl rfl YtjdaglmkljbfkaaDoorF.sz_33 rfl rfl rfl) ?_
      | refine TL_e0 rfl rfl (rfl) (ET_store 0 rfl rfl rfl rfl YtjdaglmkljbfkaaDoorF.sz_33 rfl rfl rfl) ?_
      | refine TL_e0 rfl rfl (rfl) (ET_store 1 rfl rfl rfl rfl YtjdaglmkljbfkaaDoorF.sz_33 rfl rfl rfl) ?_
      | refine TL_e0 rfl rfl (rfl) (ET_store 2 rfl rfl rfl rfl YtjdaglmkljbfkaaDoorF.sz_33 rfl rfl rfl) ?_
      | refine TL_e0 rfl rfl (rfl) (ET_store 3 rfl rfl rfl rfl YtjdaglmkljbfkaaDoorF.sz_33 rfl rfl rfl) ?_
      | refine TL_e0 rfl rfl (rfl) (ET_store 4 rfl rfl rfl rfl YtjdaglmkljbfkaaDoorF.sz_33 rfl rfl rfl) ?_
    rintro _ _ ⟨rfl, rfl⟩
    refine TL_q rfl rfl (QT_assign rfl rfl rfl) ?_
    refine TL_nil ?_
    refine TX_then ?_
    refine TC_seq ?_
    refine TC_reg ?_
    refine TL_q rfl rfl (QT_move rfl rfl rfl) ?_
    refine TL_q rfl rfl (QT_len rfl rfl Tryd.underlying28 rfl) ?_
    refine TL_q rfl rfl (QT_gtr rfl rfl rfl rfl) ?_
    refine TL_q rfl rfl (QT_move rfl rfl rfl) ?_
    refine TL_q rfl rfl (QT_move rfl rfl rfl) ?_
    refine TL_q rfl rfl (QT_eql rfl rfl rfl rfl) ?_
    refine TL_q rfl rfl (QT_or rfl rfl rfl rfl) ?_
    refine TL_q rfl rfl (QT_move rfl rfl rfl) ?_
    refine TL_cq rfl rfl rfl rfl YtjdaglmkljbfkaaDoorF.cal_6 rfl (fun _ => lives13 w0 _ hG hE) ?_
    refine TL_q rfl rfl (QT_and rfl rfl rfl rfl) ?_
    refine TL_q rfl rfl (QT_assign rfl rfl rfl) ?_
    refine TL_nil ?_
    refine TX_then ?_
    refine TC_ret ?_
    refine TX_then_ret ?_
    exact TX_ret (.inl rfl) (res1 rfl rfl) ⟨_, ⟨(by
     congr 1
     simp only [Bool.or_eq_true, decide_eq_true_eq] at h33
     rcases h33 with h | h
     · simp [h]
     · have hk : ¬ okB L = true := fun hk => h (by unfold errOf; rw [if_pos hk])
       have e : dmE L [] = 4 := by unfold dmE; rw [if_neg hk]
       simp [e]), rfl⟩, fun w h => h.cnt fun p => by simp only [upd, List.countP_append, List.countP_cons, List.countP_nil]; omega⟩
  ·
    refine TC_skip ?_
    refine TX_then ?_
    refine TC_seq ?_
    have hn : bs.length ≤ 3000 := by simp at h33; omega
    have hk : okB L = true := by
      simp only [Bool.or_eq_false_iff, decide_eq_false_iff_not] at h33
      exact ok_of h33.2
    refine TC_A (St w0 ((b2, 27, L.cells) :: η)) (fun _ h => h) ?_
    refine TC_reg ?_
    first
      | refine TL_q rfl rfl (QT_loadW 0 rfl rfl Tryd.underlying27 rfl rfl rfl YtjdaglmkljbfkaaDoorF.sz_27) ?_
      | refine TL_q rfl rfl (QT_loadW 1 rfl rfl Tryd.underlying27 rfl rfl rfl YtjdaglmkljbfkaaDoorF.sz_27) ?_
      | refine TL_q rfl rfl (QT_loadW 2 rfl rfl Tryd.underlying27 rfl rfl rfl YtjdaglmkljbfkaaDoorF.sz_27) ?_
      | refine TL_q rfl rfl (QT_loadW 3 rfl rfl Tryd.underlying27 rfl rfl rfl YtjdaglmkljbfkaaDoorF.sz_27) ?_
      | refine TL_q rfl rfl (QT_loadW 4 rfl rfl Tryd.underlying27 rfl rfl rfl YtjdaglmkljbfkaaDoorF.sz_27) ?_
      | refine TL_q rfl rfl (QT_loadA 0 rfl rfl Tryd.underlying27 rfl rfl rfl YtjdaglmkljbfkaaDoorF.sz_27 (fun _ => rfl)) ?_
      | refine TL_q rfl rfl (QT_loadA 1 rfl rfl Tryd.underlying27 rfl rfl rfl YtjdaglmkljbfkaaDoorF.sz_27 (fun _ => rfl)) ?_
      | refine TL_q rfl rfl (QT_loadA 2 rfl rfl Tryd.underlying27 rfl rfl rfl YtjdaglmkljbfkaaDoorF.sz_27 (fun _ => rfl)) ?_
      | refine TL_q rfl rfl (QT_loadA 3 rfl rfl Tryd.underlying27 rfl rfl rfl YtjdaglmkljbfkaaDoorF.sz_27 (fun _ => rfl)) ?_
      | refine TL_q rfl rfl (QT_loadA 4 rfl rfl Tryd.underlying27 rfl rfl rfl YtjdaglmkljbfkaaDoorF.sz_27 (fun _ => rfl)) ?_
    refine TL_q rfl rfl (QT_move rfl rfl rfl) ?_
    refine TL_e rfl rfl rfl (rfl) (ET_call rfl YtjdaglmkljbfkaaDoorF.cal_7 rfl (Decode_spec w0 _ hG hE L _ bs (hs1 [_]) hb (by omega))) ?_
    rintro _ _ ⟨rv, H1, tv, G1, rfl, hF1, hT1, rfl⟩
    refine TL_q rfl rfl (QT_move rfl rfl rfl) ?_
    refine TL_q rfl rfl (QT_extract rfl rfl rfl rfl) ?_
    refine TL_q rfl rfl (QT_extract rfl rfl rfl rfl) ?_
    refine TL_e rfl rfl rfl (rfl) (ET_alloc rfl YtjdaglmkljbfkaaDoorF.zero_33) ?_
    rintro _ _ ⟨b7, rfl, rfl⟩
    have hrr : ∀ r ∈ dmR L bs, RcF r := dmR_rcf
    have hqq : ∀ r ∈ dmS L bs, ShF r := dmS_shf
    have hrl := dmR_len L bs
    have hql := dmS_len L bs
    obtain ⟨rad, rcap, rfl, _, _⟩ := hF1.slice
    obtain ⟨tad, tcap, rfl, _, _⟩ := hT1.slice
    first
      | refine TL_e0 rfl rfl (rfl) (ET_storeW 0 rfl rfl rfl YtjdaglmkljbfkaaDoorF.sz_33 rfl rfl rfl) ?_
      | refine TL_e0 rfl rfl (rfl) (ET_storeW 1 rfl rfl rfl YtjdaglmkljbfkaaDoorF.sz_33 rfl rfl rfl) ?_
      | refine TL_e0 rfl rfl (rfl) (ET_storeW 2 rfl rfl rfl YtjdaglmkljbfkaaDoorF.sz_33 rfl rfl rfl) ?_
      | refine TL_e0 rfl rfl (rfl) (ET_storeW 3 rfl rfl rfl YtjdaglmkljbfkaaDoorF.sz_33 rfl rfl rfl) ?_
      | refine TL_e0 rfl rfl (rfl) (ET_storeW 4 rfl rfl rfl YtjdaglmkljbfkaaDoorF.sz_33 rfl rfl rfl) ?_
      | refine TL_e0 rfl rfl (rfl) (ET_store 0 rfl rfl rfl rfl YtjdaglmkljbfkaaDoorF.sz_33 rfl rfl rfl) ?_
      | refine TL_e0 rfl rfl (rfl) (ET_store 1 rfl rfl rfl rfl YtjdaglmkljbfkaaDoorF.sz_33 rfl rfl rfl) ?_
      | refine TL_e0 rfl rfl (rfl) (ET_store 2 rfl rfl rfl rfl YtjdaglmkljbfkaaDoorF.sz_33 rfl rfl rfl) ?_
      | refine TL_e0 rfl rfl (rfl) (ET_store 3 rfl rfl rfl rfl YtjdaglmkljbfkaaDoorF.sz_33 rfl rfl rfl) ?_
      | refine TL_e0 rfl rfl (rfl) (ET_store 4 rfl rfl rfl rfl YtjdaglmkljbfkaaDoorF.sz_33 rfl rfl rfl) ?_
    rintro _ _ ⟨rfl, rfl⟩
    refine TL_q rfl rfl (QT_assign rfl rfl rfl) ?_
    refine TL_nil ?_
    refine TX_then ?_
    refine TC_seq ?_
    refine TC_A (St w0 ((b7, 33, [.slice rad (dmR L bs).length rcap, .slice tad (dmS L bs).length tcap]) :: (b2, 27, L.cells) :: (H1 ++ (G1 ++ η)))) (fun w h => h.cnt fun p => by simp only [upd, List.countP_append, List.countP_cons, List.countP_nil]; omega) ?_
    refine TC_reg ?_
    first
      | refine TL_q rfl rfl (QT_loadW 0 rfl rfl Tryd.underlying27 rfl rfl rfl YtjdaglmkljbfkaaDoorF.sz_27) ?_
      | refine TL_q rfl rfl (QT_loadW 1 rfl rfl Tryd.underlying27 rfl rfl rfl YtjdaglmkljbfkaaDoorF.sz_27) ?_
      | refine TL_q rfl rfl (QT_loadW 2 rfl rfl Tryd.underlying27 rfl rfl rfl YtjdaglmkljbfkaaDoorF.sz_27) ?_
      | refine TL_q rfl rfl (QT_loadW 3 rfl rfl Tryd.underlying27 rfl rfl rfl YtjdaglmkljbfkaaDoorF.sz_27) ?_
      | refine TL_q rfl rfl (QT_loadW 4 rfl rfl Tryd.underlying27 rfl rfl rfl YtjdaglmkljbfkaaDoorF.sz_27) ?_
      | refine TL_q rfl rfl (QT_loadA 0 rfl rfl Tryd.underlying27 rfl rfl rfl YtjdaglmkljbfkaaDoorF.sz_27 (fun _ => rfl)) ?_
      | refine TL_q rfl rfl (QT_loadA 1 rfl rfl Tryd.underlying27 rfl rfl rfl YtjdaglmkljbfkaaDoorF.sz_27 (fun _ => rfl)) ?_
      | refine TL_q rfl rfl (QT_loadA 2 rfl rfl Tryd.underlying27 rfl rfl rfl YtjdaglmkljbfkaaDoorF.sz_27 (fun _ => rfl)) ?_
      | refine TL_q rfl rfl (QT_loadA 3 rfl rfl Tryd.underlying27 rfl rfl rfl YtjdaglmkljbfkaaDoorF.sz_27 (fun _ => rfl)) ?_
      | refine TL_q rfl rfl (QT_loadA 4 rfl rfl Tryd.underlying27 rfl rfl rfl YtjdaglmkljbfkaaDoorF.sz_27 (fun _ => rfl)) ?_
    first
      | refine TL_q rfl rfl (QT_loadW 0 rfl rfl Tryd.underlying33 rfl rfl rfl YtjdaglmkljbfkaaDoorF.sz_33) ?_
      | refine TL_q rfl rfl (QT_loadW 1 rfl rfl Tryd.underlying33 rfl rfl rfl YtjdaglmkljbfkaaDoorF.sz_33) ?_
      | refine TL_q rfl rfl (QT_loadW 2 rfl rfl Tryd.underlying33 rfl rfl rfl YtjdaglmkljbfkaaDoorF.sz_33) ?_
      | refine TL_q rfl rfl (QT_loadW 3 rfl rfl Tryd.underlying33 rfl rfl rfl YtjdaglmkljbfkaaDoorF.sz_33) ?_
      | refine TL_q rfl rfl (QT_loadW 4 rfl rfl Tryd.underlying33 rfl rfl rfl YtjdaglmkljbfkaaDoorF.sz_33) ?_
      | refine TL_q rfl rfl (QT_loadA 0 rfl rfl Tryd.underlying33 rfl rfl rfl YtjdaglmkljbfkaaDoorF.sz_33 (fun _ => rfl)) ?_
      | refine TL_q rfl rfl (QT_loadA 1 rfl rfl Tryd.underlying33 rfl rfl rfl YtjdaglmkljbfkaaDoorF.sz_33 (fun _ => rfl)) ?_
      | refine TL_q rfl rfl (QT_loadA 2 rfl rfl Tryd.underlying33 rfl rfl rfl YtjdaglmkljbfkaaDoorF.sz_33 (fun _ => rfl)) ?_
      | refine TL_q rfl rfl (QT_loadA 3 rfl rfl Tryd.underlying33 rfl rfl rfl YtjdaglmkljbfkaaDoorF.sz_33 (fun _ => rfl)) ?_
      | refine TL_q rfl rfl (QT_loadA 4 rfl rfl Tryd.underlying33 rfl rfl rfl YtjdaglmkljbfkaaDoorF.sz_33 (fun _ => rfl)) ?_
    refine TL_e rfl rfl rfl (rfl) (ET_call rfl YtjdaglmkljbfkaaDoorF.cal_11 rfl (Faces_spec w0 _ hG hE L _ _ (dmR L bs) (dmS L bs) (hF1.within fun p => by simp only [List.countP_append, List.countP_cons]; omega) (hT1.within fun p => by simp only [List.countP_append, List.countP_cons]; omega) hrr hqq (by omega) (by omega))) ?_
    rintro _ _ ⟨pv, H2, qv, G2, rfl, hF2, hT2, X2, rfl⟩
    refine TL_q rfl rfl (QT_move rfl rfl rfl) ?_
    refine TL_q rfl rfl (QT_extract rfl rfl rfl rfl) ?_
    refine TL_q rfl rfl (QT_extract rfl rfl rfl rfl) ?_
    refine TL_q rfl rfl (QT_extract rfl rfl rfl rfl) ?_
    refine TL_q rfl rfl (QT_assign rfl rfl rfl) ?_
    refine TL_q rfl rfl (QT_assign rfl rfl rfl) ?_
    refine TL_q rfl rfl (QT_assign rfl rfl rfl) ?_
    refine TL_nil ?_
    refine TX_then ?_
    refine TC_seq ?_
    obtain ⟨pad, pcap, rfl, _, _⟩ := hF2.slice
    obtain ⟨qad, qcap, rfl, _, _⟩ := hT2.slice
    refine TC_A (St w0 ((b7, 33, [.slice rad (dmR L bs).length rcap, .slice tad (dmS L bs).length tcap]) :: (b2, 27, L.cells) :: (H1 ++ (G1 ++ (H2 ++ (G2 ++ η)))))) (fun w h => h.cnt fun p => by simp only [List.countP_append, List.countP_cons, List.countP_nil]; omega) ?_
    refine TC_join (fun (β : Nat × Nat × Nat) => match β with | (b62, b63, b12) => [(12, true, .pointer (some ⟨b12, 0, none⟩)), (1, true, .slice ba bs.length bc), (2, true, .pointer (some ⟨b2, 0, none⟩)), (7, true, .pointer (some ⟨b7, 0, none⟩)), (8, true, .int .i64 (dmE L bs)), (9, true, .slice pad (faT L (dmR L bs) (dmS L bs)).length pcap), (10, true, .slice qad (faN L (dmR L bs) (dmS L bs)) qcap), (11, true, .int .i64 (faE L (dmR L bs) (dmS L bs)))]) (fun (β : Nat × Nat × Nat) => match β with | (b62, b63, b12) => St w0 ((b12, 33, [.slice (some ⟨b62, 0, none⟩) 3 3, .slice (some ⟨b63, 0, none⟩) 1 1]) :: (b63, 79, flatS [z49]) :: (b62, 67, flatR [z7, z7, z7]) :: (b7, 33, [.slice rad (dmR L bs).length rcap, .slice tad (dmS L bs).length tcap]) :: (b2, 27, L.cells) :: (H1 ++ (G1 ++ (H2 ++ (G2 ++ η)))))) ?_ ?_
    ·
      rintro ⟨b62, b63, b12⟩
      dsimp only
      refine TX_then ?_
      refine TC_seq ?_
      refine TC_reg ?_
      first
        | refine TL_q rfl rfl (QT_loadW 0 rfl rfl Tryd.underlying27 rfl rfl rfl YtjdaglmkljbfkaaDoorF.sz_27) ?_
        | refine TL_q rfl rfl (QT_loadW 1 rfl rfl Tryd.underlying27 rfl rfl rfl YtjdaglmkljbfkaaDoorF.sz_27) ?_
        | refine TL_q rfl rfl (QT_loadW 2 rfl rfl Tryd.underlying27 rfl rfl rfl YtjdaglmkljbfkaaDoorF.sz_27) ?_
        | refine TL_q rfl rfl (QT_loadW 3 rfl rfl Tryd.underlying27 rfl rfl rfl YtjdaglmkljbfkaaDoorF.sz_27) ?_
        | refine TL_q rfl rfl (QT_loadW 4 rfl rfl Tryd.underlying27 rfl rfl rfl YtjdaglmkljbfkaaDoorF.sz_27) ?_
        | refine TL_q rfl rfl (QT_loadA 0 rfl rfl Tryd.underlying27 rfl rfl rfl YtjdaglmkljbfkaaDoorF.sz_27 (fun _ => rfl)) ?_
        | refine TL_q rfl rfl (QT_loadA 1 rfl rfl Tryd.underlying27 rfl rfl rfl YtjdaglmkljbfkaaDoorF.sz_27 (fun _ => rfl)) ?_
        | refine TL_q rfl rfl (QT_loadA 2 rfl rfl Tryd.underlying27 rfl rfl rfl YtjdaglmkljbfkaaDoorF.sz_27 (fun _ => rfl)) ?_
        | refine TL_q rfl rfl (QT_loadA 3 rfl rfl Tryd.underlying27 rfl rfl rfl YtjdaglmkljbfkaaDoorF.sz_27 (fun _ => rfl)) ?_
        | refine TL_q rfl rfl (QT_loadA 4 rfl rfl Tryd.underlying27 rfl rfl rfl YtjdaglmkljbfkaaDoorF.sz_27 (fun _ => rfl)) ?_
      first
        | refine TL_q rfl rfl (QT_loadW 0 rfl rfl Tryd.underlying33 rfl rfl rfl YtjdaglmkljbfkaaDoorF.sz_33) ?_
        | refine TL_q rfl rfl (QT_loadW 1 rfl rfl Tryd.underlying33 rfl rfl rfl YtjdaglmkljbfkaaDoorF.sz_33) ?_
        | refine TL_q rfl rfl (QT_loadW 2 rfl rfl Tryd.underlying33 rfl rfl rfl YtjdaglmkljbfkaaDoorF.sz_33) ?_
        | refine TL_q rfl rfl (QT_loadW 3 rfl rfl Tryd.underlying33 rfl rfl rfl YtjdaglmkljbfkaaDoorF.sz_33) ?_
        | refine TL_q rfl rfl (QT_loadW 4 rfl rfl Tryd.underlying33 rfl rfl rfl YtjdaglmkljbfkaaDoorF.sz_33) ?_
        | refine TL_q rfl rfl (QT_loadA 0 rfl rfl Tryd.underlying33 rfl rfl rfl YtjdaglmkljbfkaaDoorF.sz_33 (fun _ => rfl)) ?_
        | refine TL_q rfl rfl (QT_loadA 1 rfl rfl Tryd.underlying33 rfl rfl rfl YtjdaglmkljbfkaaDoorF.sz_33 (fun _ => rfl)) ?_
        | refine TL_q rfl rfl (QT_loadA 2 rfl rfl Tryd.underlying33 rfl rfl rfl YtjdaglmkljbfkaaDoorF.sz_33 (fun _ => rfl)) ?_
        | refine TL_q rfl rfl (QT_loadA 3 rfl rfl Tryd.underlying33 rfl rfl rfl YtjdaglmkljbfkaaDoorF.sz_33 (fun _ => rfl)) ?_
        | refine TL_q rfl rfl (QT_loadA 4 rfl rfl Tryd.underlying33 rfl rfl rfl YtjdaglmkljbfkaaDoorF.sz_33 (fun _ => rfl)) ?_
      refine TL_e rfl rfl rfl (rfl) (ET_call rfl YtjdaglmkljbfkaaDoorF.cal_11 rfl (Faces_spec w0 _ hG hE L _ _ [z7, z7, z7] [z49] (SlA.own (n := 3) (off := 0) (xs := flatR [z7, z7, z7]) 2 rfl rfl (by decide) (by decide)) (SlA.own (n := 1) (off := 0) (xs := flatS [z49]) 1 rfl rfl (by decide) (by decide)) all_z7 all_z49 (by decide) (by decide))) ?_
      rintro _ _ ⟨pv3, H3, qv3, G3, rfl, hF3, hT3, X3, rfl⟩
      refine TL_q rfl rfl (QT_move rfl rfl rfl) ?_
      refine TL_q rfl rfl (QT_extract rfl rfl rfl rfl) ?_
      refine TL_q rfl rfl (QT_extract rfl rfl rfl rfl) ?_
      refine TL_q rfl rfl (QT_extract rfl rfl rfl rfl) ?_
      refine TL_q rfl rfl (QT_assign rfl rfl rfl) ?_
      refine TL_q rfl rfl (QT_assign rfl rfl rfl) ?_
      refine TL_q rfl rfl (QT_assign rfl rfl rfl) ?_
      refine TL_nil ?_
      refine TX_then ?_
      refine TC_seq ?_
      simp only [both_fa hk]
      refine TC_A (St w0 ((b12, 33, [.slice (some ⟨b62, 0, none⟩) 3 3, .slice (some ⟨b63, 0, none⟩) 1 1]) :: (b63, 79, flatS [z49]) :: (b62, 67, flatR [z7, z7, z7]) :: (b7, 33, [.slice rad (dmR L bs).length rcap, .slice tad (dmS L bs).length tcap]) :: (b2, 27, L.cells) :: (H1 ++ (G1 ++ (H2 ++ (G2 ++ η)))))) (fun w h => h.cnt fun p => by simp only [List.countP_append, List.countP_cons, List.countP_nil]; omega) ?_
      refine TC_reg ?_
      first
        | refine TL_q rfl rfl (QT_loadW 0 rfl rfl Tryd.underlying27 rfl rfl rfl YtjdaglmkljbfkaaDoorF.sz_27) ?_
        | refine TL_q rfl rfl (QT_loadW 1 rfl rfl Tryd.underlying27 rfl rfl rfl YtjdaglmkljbfkaaDoorF.sz_27) ?_
        | refine TL_q rfl rfl (QT_loadW 2 rfl rfl Tryd.underlying27 rfl rfl rfl YtjdaglmkljbfkaaDoorF.sz_27) ?_
        | refine TL_q rfl rfl (QT_loadW 3 rfl rfl Tryd.underlying27 rfl rfl rfl YtjdaglmkljbfkaaDoorF.sz_27) ?_
        | refine TL_q rfl rfl (QT_loadW 4 rfl rfl Tryd.underlying27 rfl rfl rfl YtjdaglmkljbfkaaDoorF.sz_27) ?_
        | refine TL_q rfl rfl (QT_loadA 0 rfl rfl Tryd.underlying27 rfl rfl rfl YtjdaglmkljbfkaaDoorF.sz_27 (fun _ => rfl)) ?_
        | refine TL_q rfl rfl (QT_loadA 1 rfl rfl Tryd.underlying27 rfl rfl rfl YtjdaglmkljbfkaaDoorF.sz_27 (fun _ => rfl)) ?_
        | refine TL_q rfl rfl (QT_loadA 2 rfl rfl Tryd.underlying27 rfl rfl rfl YtjdaglmkljbfkaaDoorF.sz_27 (fun _ => rfl)) ?_
        | refine TL_q rfl rfl (QT_loadA 3 rfl rfl Tryd.underlying27 rfl rfl rfl YtjdaglmkljbfkaaDoorF.sz_27 (fun _ => rfl)) ?_
        | refine TL_q rfl rfl (QT_loadA 4 rfl rfl Tryd.underlying27 rfl rfl rfl YtjdaglmkljbfkaaDoorF.sz_27 (fun _ => rfl)) ?_
      first
        | refine TL_q rfl rfl (QT_loadW 0 rfl rfl Tryd.underlying33 rfl rfl rfl YtjdaglmkljbfkaaDoorF.sz_33) ?_
        | refine TL_q rfl rfl (QT_loadW 1 rfl rfl Tryd.underlying33 rfl rfl rfl YtjdaglmkljbfkaaDoorF.sz_33) ?_
        | refine TL_q rfl rfl (QT_loadW 2 rfl rfl Tryd.underlying33 rfl rfl rfl YtjdaglmkljbfkaaDoorF.sz_33) ?_
        | refine TL_q rfl rfl (QT_loadW 3 rfl rfl Tryd.underlying33 rfl rfl rfl YtjdaglmkljbfkaaDoorF.sz_33) ?_
        | refine TL_q rfl rfl (QT_loadW 4 rfl rfl Tryd.underlying33 rfl rfl rfl YtjdaglmkljbfkaaDoorF.sz_33) ?_
        | refine TL_q rfl rfl (QT_loadA 0 rfl rfl Tryd.underlying33 rfl rfl rfl YtjdaglmkljbfkaaDoorF.sz_33 (fun _ => rfl)) ?_
        | refine TL_q rfl rfl (QT_loadA 1 rfl rfl Tryd.underlying33 rfl rfl rfl YtjdaglmkljbfkaaDoorF.sz_33 (fun _ => rfl)) ?_
        | refine TL_q rfl rfl (QT_loadA 2 rfl rfl Tryd.underlying33 rfl rfl rfl YtjdaglmkljbfkaaDoorF.sz_33 (fun _ => rfl)) ?_
        | refine TL_q rfl rfl (QT_loadA 3 rfl rfl Tryd.underlying33 rfl rfl rfl YtjdaglmkljbfkaaDoorF.sz_33 (fun _ => rfl)) ?_
        | refine TL_q rfl rfl (QT_loadA 4 rfl rfl Tryd.underlying33 rfl rfl rfl YtjdaglmkljbfkaaDoorF.sz_33 (fun _ => rfl)) ?_
      refine TL_e rfl rfl rfl (rfl) (ET_call rfl YtjdaglmkljbfkaaDoorF.cal_8 rfl (Encode_spec w0 _ hG hE L _ _ [z7, z7, z7] [z49] (SlA.own (n := 3) (off := 0) (xs := flatR [z7, z7, z7]) 2 rfl rfl (by decide) (by decide)) (SlA.own (n := 1) (off := 0) (xs := flatS [z49]) 1 rfl rfl (by decide) (by decide)) all_z7 all_z49 (by decide) (by decide))) ?_
      rintro _ _ ⟨ev4, H4, rfl, hF4, rfl⟩
      refine TL_q rfl rfl (QT_move rfl rfl rfl) ?_
      refine TL_q rfl rfl (QT_extract rfl rfl rfl rfl) ?_
      refine TL_q rfl rfl (QT_extract rfl rfl rfl rfl) ?_
      refine TL_q rfl rfl (QT_assign rfl rfl rfl) ?_
      refine TL_q rfl rfl (QT_assign rfl rfl rfl) ?_
      refine TL_nil ?_
      refine TX_then ?_
      refine TC_seq ?_
      refine TC_seq ?_
      simp only [both_em hk]
      refine TC_A (St w0 ((b7, 33, [.slice rad (dmR L bs).length rcap, .slice tad (dmS L bs).length tcap]) :: (b2, 27, L.cells) :: (H1 ++ (G1 ++ (H2 ++ (G2 ++ η)))))) (fun w h => h.cnt fun p => by simp only [List.countP_append, List.countP_cons, List.countP_nil]; omega) ?_
      refine TC_reg ?_
      refine TL_q rfl rfl (QT_move rfl rfl rfl) ?_
      refine TL_q rfl rfl (QT_neq rfl rfl rfl rfl) ?_
      refine TL_q rfl rfl (QT_move rfl rfl rfl) ?_
      refine TL_q rfl rfl (QT_move rfl rfl rfl) ?_
      refine TL_q rfl rfl (QT_neq rfl rfl rfl rfl) ?_
      refine TL_q rfl rfl (QT_or rfl rfl rfl rfl) ?_
      refine TL_nil ?_
      refine TX_then ?_
      refine TC_cond rfl (fun h => absurd (h.symm.trans ((show (_ : Bool) = false by rfl))) (by decide)) (fun _ => ?_)
      refine TC_skip ?_
      refine TX_then ?_
      refine TC_seq ?_
      refine TC_seq ?_
      refine TC_reg ?_
      refine TL_q rfl rfl (QT_field rfl rfl YtjdaglmkljbfkaaDoorF.fld_27_0 rfl) ?_
      first
        | refine TL_q rfl rfl (QT_load 0 rfl rfl Tryd.underlying3 rfl rfl rfl (fun _ => rfl)) ?_
        | refine TL_q rfl rfl (QT_load 1 rfl rfl Tryd.underlying3 rfl rfl rfl (fun _ => rfl)) ?_
        | refine TL_q rfl rfl (QT_load 2 rfl rfl Tryd.underlying3 rfl rfl rfl (fun _ => rfl)) ?_
        | refine TL_q rfl rfl (QT_load 3 rfl rfl Tryd.underlying3 rfl rfl rfl (fun _ => rfl)) ?_
        | refine TL_q rfl rfl (QT_load 4 rfl rfl Tryd.underlying3 rfl rfl rfl (fun _ => rfl)) ?_
      refine TL_q rfl rfl (QT_leq rfl rfl rfl rfl) ?_
      refine TL_nil ?_
      refine TX_then ?_
      first
        | refine TC_cond_dec rfl (fun h86 => ?_) (fun h86 => ?_)
        | refine TC_cond rfl (fun h86 => ?_) (fun h86 => ?_)
      ·
        refine TC_seq ?_
        have h5 : L.ty ≤ 5 := by assumption
        obtain ⟨m1, m2, m3⟩ := dmE_A hk h5 bs
        rw [m2] at hF1
        rw [m3] at hT1
        rw [m2, m3] at hF2 hT2
        obtain ⟨f1, f2, f3, f4⟩ := fa_A hk h5 (dcO L bs)
        simp only [m1, m2, m3, f1, f2, f3]
        rw [f2] at hF2
        rw [f3, f4] at hT2
        refine TC_A (St w0 ((b7, 33, [.slice rad (dcO L bs).length rcap, .slice tad ([] : List (List Nat)).length tcap]) :: (b2, 27, L.cells) :: (H1 ++ (G1 ++ (H2 ++ (G2 ++ η)))))) (fun _ h => h) ?_
        refine TC_reg ?_
        first
          | refine TL_q rfl rfl (QT_loadW 0 rfl rfl Tryd.underlying27 rfl rfl rfl YtjdaglmkljbfkaaDoorF.sz_27) ?_
          | refine TL_q rfl rfl (QT_loadW 1 rfl rfl Tryd.underlying27 rfl rfl rfl YtjdaglmkljbfkaaDoorF.sz_27) ?_
          | refine TL_q rfl rfl (QT_loadW 2 rfl rfl Tryd.underlying27 rfl rfl rfl YtjdaglmkljbfkaaDoorF.sz_27) ?_
          | refine TL_q rfl rfl (QT_loadW 3 rfl rfl Tryd.underlying27 rfl rfl rfl YtjdaglmkljbfkaaDoorF.sz_27) ?_
          | refine TL_q rfl rfl (QT_loadW 4 rfl rfl Tryd.underlying27 rfl rfl rfl YtjdaglmkljbfkaaDoorF.sz_27) ?_
          | refine TL_q rfl rfl (QT_loadA 0 rfl rfl Tryd.underlying27 rfl rfl rfl YtjdaglmkljbfkaaDoorF.sz_27 (fun _ => rfl)) ?_
          | refine TL_q rfl rfl (QT_loadA 1 rfl rfl Tryd.underlying27 rfl rfl rfl YtjdaglmkljbfkaaDoorF.sz_27 (fun _ => rfl)) ?_
          | refine TL_q rfl rfl (QT_loadA 2 rfl rfl Tryd.underlying27 rfl rfl rfl YtjdaglmkljbfkaaDoorF.sz_27 (fun _ => rfl)) ?_
          | refine TL_q rfl rfl (QT_loadA 3 rfl rfl Tryd.underlying27 rfl rfl rfl YtjdaglmkljbfkaaDoorF.sz_27 (fun _ => rfl)) ?_
          | refine TL_q rfl rfl (QT_loadA 4 rfl rfl Tryd.underlying27 rfl rfl rfl YtjdaglmkljbfkaaDoorF.sz_27 (fun _ => rfl)) ?_
        refine TL_q rfl rfl (QT_move rfl rfl rfl) ?_
        refine TL_e rfl rfl rfl (rfl) (ET_call rfl YtjdaglmkljbfkaaDoorF.cal_12 rfl (rget0_any w0 _ hG L _ bs (hs0.mono fun _ h => h.tail.tail.app_right.app_right.app_right.app_right) hb)) ?_
        rintro _ _ ⟨gv, H5, rfl, hF5, rfl⟩
        refine TL_q rfl rfl (QT_move rfl rfl rfl) ?_
        refine TL_q rfl rfl (QT_extract rfl rfl rfl rfl) ?_
        refine TL_q rfl rfl (QT_extract rfl rfl rfl rfl) ?_
        refine TL_q rfl rfl (QT_assign rfl rfl rfl) ?_
        refine TL_q rfl rfl (QT_assign rfl rfl rfl) ?_
        refine TL_nil ?_
        refine TX_then ?_
        refine TC_seq ?_
        have hsh : ∀ r ∈ outRG L bs, RcF r := outRG_rcf
        have hol := outRG_len L bs
        have hF6 : Frag 67 7 gv ((outRG L bs).map rvV).length ((outRG L bs).map rvV).flatten H5 := by rw [List.length_map]; exact hF5
        refine TC_A (St w0 ((b7, 33, [.slice rad (dcO L bs).length rcap, .slice tad ([] : List (List Nat)).length tcap]) :: (b2, 27, L.cells) :: (H1 ++ (G1 ++ (H2 ++ (G2 ++ (H5 ++ η))))))) (fun w h => h.cnt fun p => by simp only [List.countP_append, List.countP_cons, List.countP_nil]; omega) ?_
        refine TC_reg ?_
        first
          | refine TL_q rfl rfl (QT_loadW 0 rfl rfl Tryd.underlying27 rfl rfl rfl YtjdaglmkljbfkaaDoorF.sz_27) ?_
          | refine TL_q rfl rfl (QT_loadW 1 rfl rfl Tryd.underlying27 rfl rfl rfl YtjdaglmkljbfkaaDoorF.sz_27) ?_
          | refine TL_q rfl rfl (QT_loadW 2 rfl rfl Tryd.underlying27 rfl rfl rfl YtjdaglmkljbfkaaDoorF.sz_27) ?_
          | refine TL_q rfl rfl (QT_loadW 3 rfl rfl Tryd.underlying27 rfl rfl rfl YtjdaglmkljbfkaaDoorF.sz_27) ?_
          | refine TL_q rfl rfl (QT_loadW 4 rfl rfl Tryd.underlying27 rfl rfl rfl YtjdaglmkljbfkaaDoorF.sz_27) ?_
          | refine TL_q rfl rfl (QT_loadA 0 rfl rfl Tryd.underlying27 rfl rfl rfl YtjdaglmkljbfkaaDoorF.sz_27 (fun _ => rfl)) ?_
          | refine TL_q rfl rfl (QT_loadA 1 rfl rfl Tryd.underlying27 rfl rfl rfl YtjdaglmkljbfkaaDoorF.sz_27 (fun _ => rfl)) ?_
          | refine TL_q rfl rfl (QT_loadA 2 rfl rfl Tryd.underlying27 rfl rfl rfl YtjdaglmkljbfkaaDoorF.sz_27 (fun _ => rfl)) ?_
          | refine TL_q rfl rfl (QT_loadA 3 rfl rfl Tryd.underlying27 rfl rfl rfl YtjdaglmkljbfkaaDoorF.sz_27 (fun _ => rfl)) ?_
          | refine TL_q rfl rfl (QT_loadA 4 rfl rfl Tryd.underlying27 rfl rfl rfl YtjdaglmkljbfkaaDoorF.sz_27 (fun _ => rfl)) ?_
        refine TL_q rfl rfl (QT_move rfl rfl rfl) ?_
        refine TL_e rfl rfl rfl (rfl) (ET_call rfl YtjdaglmkljbfkaaDoorF.cal_13 rfl (of_spec w0 _ hG L _ ((outRG L bs).map rvV) (hF6.within fun p => by simp only [List.countP_append, List.countP_cons]; omega) (all7R hsh) (by rw [List.length_map]; omega))) ?_
        rintro _ _ ⟨uv, H7, rfl, hF7, X7, rfl⟩
        refine TL_q rfl rfl (QT_move rfl rfl rfl) ?_
        refine TL_q rfl rfl (QT_extract rfl rfl rfl rfl) ?_
        refine TL_q rfl rfl (QT_extract rfl rfl rfl rfl) ?_
        refine TL_q rfl rfl (QT_assign rfl rfl rfl) ?_
        refine TL_q rfl rfl (QT_assign rfl rfl rfl) ?_
        refine TL_nil ?_
        refine TX_then ?_
        refine TC_seq ?_
        refine TC_seq ?_
        refine TC_A (St w0 ((b7, 33, [.slice rad (dcO L bs).length rcap, .slice tad ([] : List (List Nat)).length tcap]) :: (b2, 27, L.cells) :: (H1 ++ (G1 ++ (H2 ++ (G2 ++ (H5 ++ (H7 ++ η)))))))) (fun w h => h.cnt fun p => by simp only [List.countP_append, List.countP_cons, List.countP_nil]; omega) ?_
        refine TC_reg ?_
        refine TL_q rfl rfl (QT_move rfl rfl rfl) ?_
        refine TL_q rfl rfl (QT_neq rfl rfl rfl rfl) ?_
        refine TL_nil ?_
        refine TX_then ?_
        first
          | refine TC_cond_dec rfl (fun h100 => ?_) (fun h100 => ?_)
          | refine TC_cond rfl (fun h100 => ?_) (fun h100 => ?_)
        ·
          refine TC_seq ?_
          have e1 : dcE L bs = errRG L bs := by unfold dcE; rw [if_neg (by assumption)]
          simp only [e1]
          refine TC_reg ?_
          refine TL_q rfl rfl (QT_move rfl rfl rfl) ?_
          refine TL_q rfl rfl (QT_move rfl rfl rfl) ?_
          refine TL_q rfl rfl (QT_eql rfl rfl rfl rfl) ?_
          refine TL_q rfl rfl (QT_move rfl rfl rfl) ?_
          refine TL_cq rfl rfl rfl rfl YtjdaglmkljbfkaaDoorF.cal_6 rfl (fun _ => lives13 w0 _ hG hE) ?_
          refine TL_q rfl rfl (QT_and rfl rfl rfl rfl) ?_
          refine TL_q rfl rfl (QT_assign rfl rfl rfl) ?_
          refine TL_nil ?_
          refine TX_then ?_
          refine TC_ret ?_
          refine TX_then_ret ?_
          refine TX_then_ret ?_
          exact TX_ret (.inl rfl) (res1 rfl rfl) ⟨_, ⟨congrArg Value.bool (show (_ : Bool) = true by simp), rfl⟩, fun w h => h.cnt fun p => by simp only [List.countP_append, List.countP_cons, List.countP_nil]; omega⟩
        ·
          refine TC_skip ?_
          refine TX_then ?_
          refine TC_seq ?_
          refine TC_seq ?_
          refine TC_reg ?_
          refine TL_q rfl rfl (QT_move rfl rfl rfl) ?_
          refine TL_q rfl rfl (QT_neq rfl rfl rfl rfl) ?_
          refine TL_nil ?_
          refine TX_then ?_
          first
            | refine TC_cond_dec rfl (fun h108 => ?_) (fun h108 => ?_)
            | refine TC_cond rfl (fun h108 => ?_) (fun h108 => ?_)
          ·
            refine TC_seq ?_
            have e2 := Classical.not_not.1 h100
            have e1 : dcE L bs = (trioF L ((outRG L bs).map rvV)).2 := by unfold dcE; rw [if_pos e2]
            simp only [e1]
            refine TC_reg ?_
            refine TL_q rfl rfl (QT_move rfl rfl rfl) ?_
            refine TL_q rfl rfl (QT_move rfl rfl rfl) ?_
            refine TL_q rfl rfl (QT_eql rfl rfl rfl rfl) ?_
            refine TL_q rfl rfl (QT_move rfl rfl rfl) ?_
            refine TL_cq rfl rfl rfl rfl YtjdaglmkljbfkaaDoorF.cal_6 rfl (fun _ => lives13 w0 _ hG hE) ?_
            refine TL_q rfl rfl (QT_and rfl rfl rfl rfl) ?_
            refine TL_q rfl rfl (QT_assign rfl rfl rfl) ?_
            refine TL_nil ?_
            refine TX_then ?_
            refine TC_ret ?_
            refine TX_then_ret ?_
            refine TX_then_ret ?_
            exact TX_ret (.inl rfl) (res1 rfl rfl) ⟨_, ⟨congrArg Value.bool (show (_ : Bool) = true by simp), rfl⟩, fun w h => h.cnt fun p => by simp only [List.countP_append, List.countP_cons, List.countP_nil]; omega⟩
          ·
            refine TC_skip ?_
            refine TX_then ?_
            refine TC_seq ?_
            have e2 := Classical.not_not.1 h100
            have e3 := Classical.not_not.1 h108
            have e1 : dcE L bs = 0 := by unfold dcE; rw [if_pos e2, e3]
            have eo : dcO L bs = outRG L bs := by unfold dcO; rw [if_pos e1]
            rw [eo] at hF1 hF2
            simp only [e1, eo, e3]
            have hoi := trisM_flat (L := L) (all7R hsh)
            refine TC_A (St w0 ((b7, 33, [.slice rad (outRG L bs).length rcap, .slice tad ([] : List (List Nat)).length tcap]) :: (b2, 27, L.cells) :: (H1 ++ (G1 ++ (H2 ++ (G2 ++ (H5 ++ (H7 ++ η)))))))) (fun _ h => h) ?_
            refine TC_reg ?_
            refine TL_q rfl rfl (QT_move rfl rfl rfl) ?_
            refine TL_q rfl rfl (QT_eql rfl rfl rfl rfl) ?_
            refine TL_q rfl rfl (QT_move rfl rfl rfl) ?_
            refine TL_q rfl rfl (QT_move rfl rfl rfl) ?_
            refine TL_q rfl rfl (QT_eql rfl rfl rfl rfl) ?_
            refine TL_q rfl rfl (QT_and rfl rfl rfl rfl) ?_
            refine TL_q rfl rfl (QT_move rfl rfl rfl) ?_
            refine TL_q rfl rfl (QT_field rfl rfl YtjdaglmkljbfkaaDoorF.fld_33_0 rfl) ?_
            first
              | refine TL_q rfl rfl (QT_load 0 rfl rfl Tryd.underlying30 rfl rfl rfl (fun _ => rfl)) ?_
              | refine TL_q rfl rfl (QT_load 1 rfl rfl Tryd.underlying30 rfl rfl rfl (fun _ => rfl)) ?_
              | refine TL_q rfl rfl (QT_load 2 rfl rfl Tryd.underlying30 rfl rfl rfl (fun _ => rfl)) ?_
              | refine TL_q rfl rfl (QT_load 3 rfl rfl Tryd.underlying30 rfl rfl rfl (fun _ => rfl)) ?_
              | refine TL_q rfl rfl (QT_load 4 rfl rfl Tryd.underlying30 rfl rfl rfl (fun _ => rfl)) ?_
            refine TL_q rfl rfl (QT_move rfl rfl rfl) ?_
            refine TL_cq rfl rfl rfl rfl YtjdaglmkljbfkaaDoorF.cal_14 rfl (fun _ => sameOk_RecsR w0 _ _ _ (outRG L bs).length (flatR (outRG L bs)) (hF1.within fun p => by simp only [List.countP_append, List.countP_cons]; omega) (hF5.within fun p => by simp only [List.countP_append, List.countP_cons]; omega) (flatR_ints hsh)) ?_
            refine TL_q rfl rfl (QT_and rfl rfl rfl rfl) ?_
            refine TL_q rfl rfl (QT_move rfl rfl rfl) ?_
            refine TL_q rfl rfl (QT_field rfl rfl YtjdaglmkljbfkaaDoorF.fld_33_1 rfl) ?_
            first
              | refine TL_q rfl rfl (QT_load 0 rfl rfl Tryd.underlying31 rfl rfl rfl (fun _ => rfl)) ?_
              | refine TL_q rfl rfl (QT_load 1 rfl rfl Tryd.underlying31 rfl rfl rfl (fun _ => rfl)) ?_
              | refine TL_q rfl rfl (QT_load 2 rfl rfl Tryd.underlying31 rfl rfl rfl (fun _ => rfl)) ?_
              | refine TL_q rfl rfl (QT_load 3 rfl rfl Tryd.underlying31 rfl rfl rfl (fun _ => rfl)) ?_
              | refine TL_q rfl rfl (QT_load 4 rfl rfl Tryd.underlying31 rfl rfl rfl (fun _ => rfl)) ?_
            refine TL_q rfl rfl (QT_len rfl rfl Tryd.underlying31 rfl) ?_
            refine TL_q rfl rfl (QT_eql rfl rfl rfl rfl) ?_
            refine TL_q rfl rfl (QT_and rfl rfl rfl rfl) ?_
            refine TL_q rfl rfl (QT_move rfl rfl rfl) ?_
            refine TL_q rfl rfl (QT_move rfl rfl rfl) ?_
            refine TL_q rfl rfl (QT_move rfl rfl rfl) ?_
            refine TL_cq rfl rfl rfl rfl YtjdaglmkljbfkaaDoorF.cal_15 rfl (fun _ => sameOk_TrisM w0 _ _ _ _ _ (hF2.within fun p => by simp only [List.countP_append, List.countP_cons]; omega) (hF7.within fun p => by simp only [List.countP_append, List.countP_cons]; omega) hoi) ?_
            refine TL_q rfl rfl (QT_and rfl rfl rfl rfl) ?_
            refine TL_q rfl rfl (QT_move rfl rfl rfl) ?_
            refine TL_q rfl rfl (QT_move rfl rfl rfl) ?_
            refine TL_q rfl rfl (QT_len rfl rfl Tryd.underlying43 rfl) ?_
            refine TL_q rfl rfl (QT_eql rfl rfl rfl rfl) ?_
            refine TL_q rfl rfl (QT_and rfl rfl rfl rfl) ?_
            refine TL_q rfl rfl (QT_move rfl rfl rfl) ?_
            refine TL_cq rfl rfl rfl rfl YtjdaglmkljbfkaaDoorF.cal_6 rfl (fun _ => lives13 w0 _ hG hE) ?_
            refine TL_q rfl rfl (QT_and rfl rfl rfl rfl) ?_
            refine TL_q rfl rfl (QT_assign rfl rfl rfl) ?_
            refine TL_nil ?_
            refine TX_then ?_
            refine TC_ret ?_
            refine TX_then_ret ?_
            exact TX_ret (.inl rfl) (res1 rfl rfl) ⟨_, ⟨congrArg Value.bool (show (_ : Bool) = true by simp), rfl⟩, fun w h => h.cnt fun p => by simp only [List.countP_append, List.countP_cons, List.countP_nil]; omega⟩
      ·
        refine TC_skip ?_
        refine TX_then ?_
        refine TC_seq ?_
        have h5 : ¬L.ty ≤ 5 := by assumption
        obtain ⟨m1, m2, m3⟩ := dmE_B hk h5 bs
        rw [m2] at hF1
        rw [m3] at hT1
        rw [m2, m3] at hF2 hT2
        obtain ⟨f1, f2, f3, f4⟩ := fa_B hk h5 (dsO L bs)
        simp only [m1, m2, m3, f1, f2, f3]
        rw [f2] at hF2
        rw [f3, f4] at hT2
        refine TC_A (St w0 ((b7, 33, [.slice rad ([] : List (List Nat)).length rcap, .slice tad (dsO L bs).length tcap]) :: (b2, 27, L.cells) :: (H1 ++ (G1 ++ (H2 ++ (G2 ++ η)))))) (fun _ h => h) ?_
        refine TC_reg ?_
        first
          | refine TL_q rfl rfl (QT_loadW 0 rfl rfl Tryd.underlying27 rfl rfl rfl YtjdaglmkljbfkaaDoorF.sz_27) ?_
          | refine TL_q rfl rfl (QT_loadW 1 rfl rfl Tryd.underlying27 rfl rfl rfl YtjdaglmkljbfkaaDoorF.sz_27) ?_
          | refine TL_q rfl rfl (QT_loadW 2 rfl rfl Tryd.underlying27 rfl rfl rfl YtjdaglmkljbfkaaDoorF.sz_27) ?_
          | refine TL_q rfl rfl (QT_loadW 3 rfl rfl Tryd.underlying27 rfl rfl rfl YtjdaglmkljbfkaaDoorF.sz_27) ?_
          | refine TL_q rfl rfl (QT_loadW 4 rfl rfl Tryd.underlying27 rfl rfl rfl YtjdaglmkljbfkaaDoorF.sz_27) ?_
          | refine TL_q rfl rfl (QT_loadA 0 rfl rfl Tryd.underlying27 rfl rfl rfl YtjdaglmkljbfkaaDoorF.sz_27 (fun _ => rfl)) ?_
          | refine TL_q rfl rfl (QT_loadA 1 rfl rfl Tryd.underlying27 rfl rfl rfl YtjdaglmkljbfkaaDoorF.sz_27 (fun _ => rfl)) ?_
          | refine TL_q rfl rfl (QT_loadA 2 rfl rfl Tryd.underlying27 rfl rfl rfl YtjdaglmkljbfkaaDoorF.sz_27 (fun _ => rfl)) ?_
          | refine TL_q rfl rfl (QT_loadA 3 rfl rfl Tryd.underlying27 rfl rfl rfl YtjdaglmkljbfkaaDoorF.sz_27 (fun _ => rfl)) ?_
          | refine TL_q rfl rfl (QT_loadA 4 rfl rfl Tryd.underlying27 rfl rfl rfl YtjdaglmkljbfkaaDoorF.sz_27 (fun _ => rfl)) ?_
        refine TL_q rfl rfl (QT_move rfl rfl rfl) ?_
        refine TL_e rfl rfl rfl (rfl) (ET_call rfl YtjdaglmkljbfkaaDoorF.cal_16 rfl (sget_spec w0 _ hG L _ bs (hs0.mono fun _ h => h.tail.tail.app_right.app_right.app_right.app_right) hb (by omega))) ?_
        rintro _ _ ⟨gv, H5, rfl, hF5, rfl⟩
        refine TL_q rfl rfl (QT_move rfl rfl rfl) ?_
        refine TL_q rfl rfl (QT_extract rfl rfl rfl rfl) ?_
        refine TL_q rfl rfl (QT_extract rfl rfl rfl rfl) ?_
        refine TL_q rfl rfl (QT_assign rfl rfl rfl) ?_
        refine TL_q rfl rfl (QT_assign rfl rfl rfl) ?_
        refine TL_nil ?_
        refine TX_then ?_
        refine TC_seq ?_
        have hsh : ∀ r ∈ outG L bs, ShF r := outG_shf
        have hol := outG_len L bs
        refine TC_A (St w0 ((b7, 33, [.slice rad ([] : List (List Nat)).length rcap, .slice tad (dsO L bs).length tcap]) :: (b2, 27, L.cells) :: (H1 ++ (G1 ++ (H2 ++ (G2 ++ (H5 ++ η))))))) (fun w h => h.cnt fun p => by simp only [List.countP_append, List.countP_cons, List.countP_nil]; omega) ?_
        refine TC_reg ?_
        first
          | refine TL_q rfl rfl (QT_loadW 0 rfl rfl Tryd.underlying27 rfl rfl rfl YtjdaglmkljbfkaaDoorF.sz_27) ?_
          | refine TL_q rfl rfl (QT_loadW 1 rfl rfl Tryd.underlying27 rfl rfl rfl YtjdaglmkljbfkaaDoorF.sz_27) ?_
          | refine TL_q rfl rfl (QT_loadW 2 rfl rfl Tryd.underlying27 rfl rfl rfl YtjdaglmkljbfkaaDoorF.sz_27) ?_
          | refine TL_q rfl rfl (QT_loadW 3 rfl rfl Tryd.underlying27 rfl rfl rfl YtjdaglmkljbfkaaDoorF.sz_27) ?_
          | refine TL_q rfl rfl (QT_loadW 4 rfl rfl Tryd.underlying27 rfl rfl rfl YtjdaglmkljbfkaaDoorF.sz_27) ?_
          | refine TL_q rfl rfl (QT_loadA 0 rfl rfl Tryd.underlying27 rfl rfl rfl YtjdaglmkljbfkaaDoorF.sz_27 (fun _ => rfl)) ?_
          | refine TL_q rfl rfl (QT_loadA 1 rfl rfl Tryd.underlying27 rfl rfl rfl YtjdaglmkljbfkaaDoorF.sz_27 (fun _ => rfl)) ?_
          | refine TL_q rfl rfl (QT_loadA 2 rfl rfl Tryd.underlying27 rfl rfl rfl YtjdaglmkljbfkaaDoorF.sz_27 (fun _ => rfl)) ?_
          | refine TL_q rfl rfl (QT_loadA 3 rfl rfl Tryd.underlying27 rfl rfl rfl YtjdaglmkljbfkaaDoorF.sz_27 (fun _ => rfl)) ?_
          | refine TL_q rfl rfl (QT_loadA 4 rfl rfl Tryd.underlying27 rfl rfl rfl YtjdaglmkljbfkaaDoorF.sz_27 (fun _ => rfl)) ?_
        refine TL_q rfl rfl (QT_move rfl rfl rfl) ?_
        refine TL_e rfl rfl rfl (rfl) (ET_call rfl YtjdaglmkljbfkaaDoorF.cal_17 rfl (T12.of_spec w0 _ hG hE L _ _ (flatS (outG L bs)) (hF5.within fun p => by simp only [List.countP_append, List.countP_cons]; omega) (flatS_ints hsh) (by omega))) ?_
        rintro _ _ ⟨uv, H7, rfl, hF7, rfl⟩
        refine TL_q rfl rfl (QT_move rfl rfl rfl) ?_
        refine TL_q rfl rfl (QT_extract rfl rfl rfl rfl) ?_
        refine TL_q rfl rfl (QT_extract rfl rfl rfl rfl) ?_
        refine TL_q rfl rfl (QT_assign rfl rfl rfl) ?_
        refine TL_q rfl rfl (QT_assign rfl rfl rfl) ?_
        refine TL_nil ?_
        refine TX_then ?_
        refine TC_seq ?_
        refine TC_seq ?_
        refine TC_A (St w0 ((b7, 33, [.slice rad ([] : List (List Nat)).length rcap, .slice tad (dsO L bs).length tcap]) :: (b2, 27, L.cells) :: (H1 ++ (G1 ++ (H2 ++ (G2 ++ (H5 ++ (H7 ++ η)))))))) (fun w h => h.cnt fun p => by simp only [List.countP_append, List.countP_cons, List.countP_nil]; omega) ?_
        refine TC_reg ?_
        refine TL_q rfl rfl (QT_move rfl rfl rfl) ?_
        refine TL_q rfl rfl (QT_neq rfl rfl rfl rfl) ?_
        refine TL_nil ?_
        refine TX_then ?_
        first
          | refine TC_cond_dec rfl (fun h159 => ?_) (fun h159 => ?_)
          | refine TC_cond rfl (fun h159 => ?_) (fun h159 => ?_)
        ·
          refine TC_seq ?_
          have e1 : dsE L bs = errG L bs := by unfold dsE; rw [if_neg (by assumption)]
          simp only [e1]
          refine TC_reg ?_
          refine TL_q rfl rfl (QT_move rfl rfl rfl) ?_
          refine TL_q rfl rfl (QT_move rfl rfl rfl) ?_
          refine TL_q rfl rfl (QT_eql rfl rfl rfl rfl) ?_
          refine TL_q rfl rfl (QT_move rfl rfl rfl) ?_
          refine TL_cq rfl rfl rfl rfl YtjdaglmkljbfkaaDoorF.cal_6 rfl (fun _ => lives13 w0 _ hG hE) ?_
          refine TL_q rfl rfl (QT_and rfl rfl rfl rfl) ?_
          refine TL_q rfl rfl (QT_assign rfl rfl rfl) ?_
          refine TL_nil ?_
          refine TX_then ?_
          refine TC_ret ?_
          refine TX_then_ret ?_
          exact TX_ret (.inl rfl) (res1 rfl rfl) ⟨_, ⟨congrArg Value.bool (show (_ : Bool) = true by simp), rfl⟩, fun w h => h.cnt fun p => by simp only [List.countP_append, List.countP_cons, List.countP_nil]; omega⟩
        ·
          refine TC_skip ?_
          refine TX_then ?_
          refine TC_seq ?_
          refine TC_seq ?_
          refine TC_reg ?_
          refine TL_q rfl rfl (QT_move rfl rfl rfl) ?_
          refine TL_q rfl rfl (QT_neq rfl rfl rfl rfl) ?_
          refine TL_nil ?_
          refine TX_then ?_
          first
            | refine TC_cond_dec rfl (fun h167 => ?_) (fun h167 => ?_)
            | refine TC_cond rfl (fun h167 => ?_) (fun h167 => ?_)
          ·
            refine TC_seq ?_
            have e2 := Classical.not_not.1 h159
            have e1 : dsE L bs = T12.errT L (outG L bs).length (flatS (outG L bs)) := by unfold dsE; rw [if_pos e2]
            simp only [e1]
            refine TC_reg ?_
            refine TL_q rfl rfl (QT_move rfl rfl rfl) ?_
            refine TL_q rfl rfl (QT_move rfl rfl rfl) ?_
            refine TL_q rfl rfl (QT_eql rfl rfl rfl rfl) ?_
            refine TL_q rfl rfl (QT_move rfl rfl rfl) ?_
            refine TL_cq rfl rfl rfl rfl YtjdaglmkljbfkaaDoorF.cal_6 rfl (fun _ => lives13 w0 _ hG hE) ?_
            refine TL_q rfl rfl (QT_and rfl rfl rfl rfl) ?_
            refine TL_q rfl rfl (QT_assign rfl rfl rfl) ?_
            refine TL_nil ?_
            refine TX_then ?_
            refine TC_ret ?_
            refine TX_then_ret ?_
            exact TX_ret (.inl rfl) (res1 rfl rfl) ⟨_, ⟨congrArg Value.bool (show (_ : Bool) = true by simp), rfl⟩, fun w h => h.cnt fun p => by simp only [List.countP_append, List.countP_cons, List.countP_nil]; omega⟩
          ·
            refine TC_skip ?_
            refine TX_then ?_
            refine TC_seq ?_
            have e2 := Classical.not_not.1 h159
            have e3 := Classical.not_not.1 h167
            have e1 : dsE L bs = 0 := by unfold dsE; rw [if_pos e2, e3]
            have eo : dsO L bs = outG L bs := by unfold dsO; rw [if_pos e1]
            rw [eo] at hT1 hT2
            simp only [e1, eo, e3]
            have hoi := T12.outT_ints (L := L) (flatS_ints hsh)
            refine TC_A (St w0 ((b7, 33, [.slice rad ([] : List (List Nat)).length rcap, .slice tad (outG L bs).length tcap]) :: (b2, 27, L.cells) :: (H1 ++ (G1 ++ (H2 ++ (G2 ++ (H5 ++ (H7 ++ η)))))))) (fun _ h => h) ?_
            refine TC_reg ?_
            refine TL_q rfl rfl (QT_move rfl rfl rfl) ?_
            refine TL_q rfl rfl (QT_eql rfl rfl rfl rfl) ?_
            refine TL_q rfl rfl (QT_move rfl rfl rfl) ?_
            refine TL_q rfl rfl (QT_move rfl rfl rfl) ?_
            refine TL_q rfl rfl (QT_eql rfl rfl rfl rfl) ?_
            refine TL_q rfl rfl (QT_and rfl rfl rfl rfl) ?_
            refine TL_q rfl rfl (QT_move rfl rfl rfl) ?_
            refine TL_q rfl rfl (QT_field rfl rfl YtjdaglmkljbfkaaDoorF.fld_33_1 rfl) ?_
            first
              | refine TL_q rfl rfl (QT_load 0 rfl rfl Tryd.underlying31 rfl rfl rfl (fun _ => rfl)) ?_
              | refine TL_q rfl rfl (QT_load 1 rfl rfl Tryd.underlying31 rfl rfl rfl (fun _ => rfl)) ?_
              | refine TL_q rfl rfl (QT_load 2 rfl rfl Tryd.underlying31 rfl rfl rfl (fun _ => rfl)) ?_
              | refine TL_q rfl rfl (QT_load 3 rfl rfl Tryd.underlying31 rfl rfl rfl (fun _ => rfl)) ?_
              | refine TL_q rfl rfl (QT_load 4 rfl rfl Tryd.underlying31 rfl rfl rfl (fun _ => rfl)) ?_
            refine TL_q rfl rfl (QT_move rfl rfl rfl) ?_
            refine TL_cq rfl rfl rfl rfl YtjdaglmkljbfkaaDoorF.cal_18 rfl (fun _ => sameOk_Sheets w0 _ _ _ (outG L bs).length (flatS (outG L bs)) (hT1.within fun p => by simp only [List.countP_append, List.countP_cons]; omega) (hF5.within fun p => by simp only [List.countP_append, List.countP_cons]; omega) (flatS_ints hsh)) ?_
            refine TL_q rfl rfl (QT_and rfl rfl rfl rfl) ?_
            refine TL_q rfl rfl (QT_move rfl rfl rfl) ?_
            refine TL_q rfl rfl (QT_field rfl rfl YtjdaglmkljbfkaaDoorF.fld_33_0 rfl) ?_
            first
              | refine TL_q rfl rfl (QT_load 0 rfl rfl Tryd.underlying30 rfl rfl rfl (fun _ => rfl)) ?_
              | refine TL_q rfl rfl (QT_load 1 rfl rfl Tryd.underlying30 rfl rfl rfl (fun _ => rfl)) ?_
              | refine TL_q rfl rfl (QT_load 2 rfl rfl Tryd.underlying30 rfl rfl rfl (fun _ => rfl)) ?_
              | refine TL_q rfl rfl (QT_load 3 rfl rfl Tryd.underlying30 rfl rfl rfl (fun _ => rfl)) ?_
              | refine TL_q rfl rfl (QT_load 4 rfl rfl Tryd.underlying30 rfl rfl rfl (fun _ => rfl)) ?_
            refine TL_q rfl rfl (QT_len rfl rfl Tryd.underlying30 rfl) ?_
            refine TL_q rfl rfl (QT_eql rfl rfl rfl rfl) ?_
            refine TL_q rfl rfl (QT_and rfl rfl rfl rfl) ?_
            refine TL_q rfl rfl (QT_move rfl rfl rfl) ?_
            refine TL_q rfl rfl (QT_move rfl rfl rfl) ?_
            refine TL_q rfl rfl (QT_move rfl rfl rfl) ?_
            refine TL_cq rfl rfl rfl rfl YtjdaglmkljbfkaaDoorF.cal_19 rfl (fun _ => sameOk_TilesM w0 _ _ _ _ _ (hT2.within fun p => by simp only [List.countP_append, List.countP_cons]; omega) (hF7.within fun p => by simp only [List.countP_append, List.countP_cons]; omega) hoi) ?_
            refine TL_q rfl rfl (QT_and rfl rfl rfl rfl) ?_
            refine TL_q rfl rfl (QT_move rfl rfl rfl) ?_
            refine TL_q rfl rfl (QT_move rfl rfl rfl) ?_
            refine TL_q rfl rfl (QT_len rfl rfl Tryd.underlying42 rfl) ?_
            refine TL_q rfl rfl (QT_eql rfl rfl rfl rfl) ?_
            refine TL_q rfl rfl (QT_and rfl rfl rfl rfl) ?_
            refine TL_q rfl rfl (QT_move rfl rfl rfl) ?_
            refine TL_cq rfl rfl rfl rfl YtjdaglmkljbfkaaDoorF.cal_6 rfl (fun _ => lives13 w0 _ hG hE) ?_
            refine TL_q rfl rfl (QT_and rfl rfl rfl rfl) ?_
            refine TL_q rfl rfl (QT_assign rfl rfl rfl) ?_
            refine TL_nil ?_
            refine TX_then ?_
            refine TC_ret ?_
            exact TX_ret (.inl rfl) (res1 rfl rfl) ⟨_, ⟨congrArg Value.bool (show (_ : Bool) = true by simp), rfl⟩, fun w h => h.cnt fun p => by simp only [List.countP_append, List.countP_cons, List.countP_nil]; omega⟩
    ·
      refine TC_draw [(0, 2), (1, 1), (2, 1), (3, 1), (4, 1)] YtjdaglmkljbfkaaDoorF.mixed (by kernel_rfl) (St.calm _ _) ?_
      refine TV_three (i := 0) (j := 1) (k := 3) [(1, 2), (2, 1), (3, 1), (4, 1)] [(0, 2), (2, 1), (3, 1), (4, 1)] [(0, 2), (1, 1), (2, 1), (4, 1)] (by kernel_rfl) ?_ ?_ ?_
      ·
        refine TVB_e rfl rfl rfl rfl (rfl) (ET_makeN 3 3 (flatR [z7, z7, z7]) rfl Tryd.underlying30 el_Rec rfl rfl rfl rfl (by decide) (by decide) (by decide) (by kernel_rfl)) ?_
        rintro _ _ ⟨b62, rfl, rfl⟩
        refine ⟨_, .nil, ?_⟩
        refine TV_two (i := 1) (j := 3) [(2, 0), (3, 1), (4, 1)] [(1, 1), (2, 0), (4, 1)] (by kernel_rfl) ?_ ?_
        ·
          refine TVB_e rfl rfl rfl rfl (rfl) (ET_makeN 1 1 (flatS [z49]) rfl Tryd.underlying31 el_Sheet rfl rfl rfl rfl (by decide) (by decide) (by decide) (by kernel_rfl)) ?_
          rintro _ _ ⟨b63, rfl, rfl⟩
          refine ⟨_, .nil, ?_⟩
          refine TV_q rfl rfl rfl (fun _ => QT_build rfl rfl YtjdaglmkljbfkaaDoorF.zero_33 YtjdaglmkljbfkaaDoorF.pl_33 rfl rfl rfl) ?_
          refine TV_e rfl rfl rfl rfl (rfl) (ET_alloc rfl YtjdaglmkljbfkaaDoorF.zero_33) ?_
          rintro _ _ ⟨b12, rfl, rfl⟩
          refine ⟨_, .nil, ?_⟩
          first
            | refine TV_e0 rfl rfl rfl (rfl) (ET_storeW 0 rfl rfl rfl YtjdaglmkljbfkaaDoorF.sz_33 rfl rfl rfl) ?_
            | refine TV_e0 rfl rfl rfl (rfl) (ET_storeW 1 rfl rfl rfl YtjdaglmkljbfkaaDoorF.sz_33 rfl rfl rfl) ?_
            | refine TV_e0 rfl rfl rfl (rfl) (ET_storeW 2 rfl rfl rfl YtjdaglmkljbfkaaDoorF.sz_33 rfl rfl rfl) ?_
            | refine TV_e0 rfl rfl rfl (rfl) (ET_storeW 3 rfl rfl rfl YtjdaglmkljbfkaaDoorF.sz_33 rfl rfl rfl) ?_
            | refine TV_e0 rfl rfl rfl (rfl) (ET_storeW 4 rfl rfl rfl YtjdaglmkljbfkaaDoorF.sz_33 rfl rfl rfl) ?_
            | refine TV_e0 rfl rfl rfl (rfl) (ET_store 0 rfl rfl rfl rfl YtjdaglmkljbfkaaDoorF.sz_33 rfl rfl rfl) ?_
            | refine TV_e0 rfl rfl rfl (rfl) (ET_store 1 rfl rfl rfl rfl YtjdaglmkljbfkaaDoorF.sz_33 rfl rfl rfl) ?_
            | refine TV_e0 rfl rfl rfl (rfl) (ET_store 2 rfl rfl rfl rfl YtjdaglmkljbfkaaDoorF.sz_33 rfl rfl rfl) ?_
            | refine TV_e0 rfl rfl rfl (rfl) (ET_store 3 rfl rfl rfl rfl YtjdaglmkljbfkaaDoorF.sz_33 rfl rfl rfl) ?_
            | refine TV_e0 rfl rfl rfl (rfl) (ET_store 4 rfl rfl rfl rfl YtjdaglmkljbfkaaDoorF.sz_33 rfl rfl rfl) ?_
          rintro _ _ ⟨rfl, rfl⟩
          refine ⟨_, .nil, ?_⟩
          refine TV_end ?_
          exact TX_joined (b62, b63, b12) (by exact ⟨rfl, rfl, rfl, rfl, rfl, rfl, rfl, rfl, trivial⟩) (fun w h => h.cnt fun p => by simp only [upd, both_cells, List.countP_append, List.countP_cons, List.countP_nil]; omega)
        ·
          refine TVB_e rfl rfl rfl rfl (rfl) (ET_alloc rfl YtjdaglmkljbfkaaDoorF.zero_33) ?_
          rintro _ _ ⟨b12, rfl, rfl⟩
          refine ⟨_, .nil, ?_⟩
          refine TV_e rfl rfl rfl rfl (rfl) (ET_makeN 1 1 (flatS [z49]) rfl Tryd.underlying31 el_Sheet rfl rfl rfl rfl (by decide) (by decide) (by decide) (by kernel_rfl)) ?_
          rintro _ _ ⟨b63, rfl, rfl⟩
          refine ⟨_, .nil, ?_⟩
          refine TV_q rfl rfl rfl (fun _ => QT_build rfl rfl YtjdaglmkljbfkaaDoorF.zero_33 YtjdaglmkljbfkaaDoorF.pl_33 rfl rfl rfl) ?_
          first
            | refine TV_e0 rfl rfl rfl (rfl) (ET_storeW 0 rfl rfl rfl YtjdaglmkljbfkaaDoorF.sz_33 rfl rfl rfl) ?_
            | refine TV_e0 rfl rfl rfl (rfl) (ET_storeW 1 rfl rfl rfl YtjdaglmkljbfkaaDoorF.sz_33 rfl rfl rfl) ?_
            | refine TV_e0 rfl rfl rfl (rfl) (ET_storeW 2 rfl rfl rfl YtjdaglmkljbfkaaDoorF.sz_33 rfl rfl rfl) ?_
            | refine TV_e0 rfl rfl rfl (rfl) (ET_storeW 3 rfl rfl rfl YtjdaglmkljbfkaaDoorF.sz_33 rfl rfl rfl) ?_
            | refine TV_e0 rfl rfl rfl (rfl) (ET_storeW 4 rfl rfl rfl YtjdaglmkljbfkaaDoorF.sz_33 rfl rfl rfl) ?_
            | refine TV_e0 rfl rfl rfl (rfl) (ET_store 0 rfl rfl rfl rfl YtjdaglmkljbfkaaDoorF.sz_33 rfl rfl rfl) ?_
            | refine TV_e0 rfl rfl rfl (rfl) (ET_store 1 rfl rfl rfl rfl YtjdaglmkljbfkaaDoorF.sz_33 rfl rfl rfl) ?_
            | refine TV_e0 rfl rfl rfl (rfl) (ET_store 2 rfl rfl rfl rfl YtjdaglmkljbfkaaDoorF.sz_33 rfl rfl rfl) ?_
            | refine TV_e0 rfl rfl rfl (rfl) (ET_store 3 rfl rfl rfl rfl YtjdaglmkljbfkaaDoorF.sz_33 rfl rfl rfl) ?_
            | refine TV_e0 rfl rfl rfl (rfl) (ET_store 4 rfl rfl rfl rfl YtjdaglmkljbfkaaDoorF.sz_33 rfl rfl rfl) ?_
          rintro _ _ ⟨rfl, rfl⟩
          refine ⟨_, .nil, ?_⟩
          refine TV_end ?_
          exact TX_joined (b62, b63, b12) (by exact ⟨rfl, rfl, rfl, rfl, rfl, rfl, rfl, rfl, trivial⟩) (fun w h => h.cnt fun p => by simp only [upd, both_cells, List.countP_append, List.countP_cons, List.countP_nil]; omega)
      ·
        refine TVB_e rfl rfl rfl rfl (rfl) (ET_makeN 1 1 (flatS [z49]) rfl Tryd.underlying31 el_Sheet rfl rfl rfl rfl (by decide) (by decide) (by decide) (by kernel_rfl)) ?_
        rintro _ _ ⟨b63, rfl, rfl⟩
        refine ⟨_, .nil, ?_⟩
        refine TV_two (i := 0) (j := 3) [(2, 0), (3, 1), (4, 1)] [(0, 1), (2, 0), (4, 1)] (by kernel_rfl) ?_ ?_
        ·
          refine TVB_e rfl rfl rfl rfl (rfl) (ET_makeN 3 3 (flatR [z7, z7, z7]) rfl Tryd.underlying30 el_Rec rfl rfl rfl rfl (by decide) (by decide) (by decide) (by kernel_rfl)) ?_
          rintro _ _ ⟨b62, rfl, rfl⟩
          refine ⟨_, .nil, ?_⟩
          refine TV_q rfl rfl rfl (fun _ => QT_build rfl rfl YtjdaglmkljbfkaaDoorF.zero_33 YtjdaglmkljbfkaaDoorF.pl_33 rfl rfl rfl) ?_
          refine TV_e rfl rfl rfl rfl (rfl) (ET_alloc rfl YtjdaglmkljbfkaaDoorF.zero_33) ?_
          rintro _ _ ⟨b12, rfl, rfl⟩
          refine ⟨_, .nil, ?_⟩
          first
            | refine TV_e0 rfl rfl rfl (rfl) (ET_storeW 0 rfl rfl rfl YtjdaglmkljbfkaaDoorF.sz_33 rfl rfl rfl) ?_
            | refine TV_e0 rfl rfl rfl (rfl) (ET_storeW 1 rfl rfl rfl YtjdaglmkljbfkaaDoorF.sz_33 rfl rfl rfl) ?_
            | refine TV_e0 rfl rfl rfl (rfl) (ET_storeW 2 rfl rfl rfl YtjdaglmkljbfkaaDoorF.sz_33 rfl rfl rfl) ?_
            | refine TV_e0 rfl rfl rfl (rfl) (ET_storeW 3 rfl rfl rfl YtjdaglmkljbfkaaDoorF.sz_33 rfl rfl rfl) ?_
            | refine TV_e0 rfl rfl rfl (rfl) (ET_storeW 4 rfl rfl rfl YtjdaglmkljbfkaaDoorF.sz_33 rfl rfl rfl) ?_
            | refine TV_e0 rfl rfl rfl (rfl) (ET_store 0 rfl rfl rfl rfl YtjdaglmkljbfkaaDoorF.sz_33 rfl rfl rfl) ?_
            | refine TV_e0 rfl rfl rfl (rfl) (ET_store 1 rfl rfl rfl rfl YtjdaglmkljbfkaaDoorF.sz_33 rfl rfl rfl) ?_
            | refine TV_e0 rfl rfl rfl (rfl) (ET_store 2 rfl rfl rfl rfl YtjdaglmkljbfkaaDoorF.sz_33 rfl rfl rfl) ?_
            | refine TV_e0 rfl rfl rfl (rfl) (ET_store 3 rfl rfl rfl rfl YtjdaglmkljbfkaaDoorF.sz_33 rfl rfl rfl) ?_
            | refine TV_e0 rfl rfl rfl (rfl) (ET_store 4 rfl rfl rfl rfl YtjdaglmkljbfkaaDoorF.sz_33 rfl rfl rfl) ?_
          rintro _ _ ⟨rfl, rfl⟩
          refine ⟨_, .nil, ?_⟩
          refine TV_end ?_
          exact TX_joined (b62, b63, b12) (by exact ⟨rfl, rfl, rfl, rfl, rfl, rfl, rfl, rfl, trivial⟩) (fun w h => h.cnt fun p => by simp only [upd, both_cells, List.countP_append, List.countP_cons, List.countP_nil]; omega)
        ·
          refine TVB_e rfl rfl rfl rfl (rfl) (ET_alloc rfl YtjdaglmkljbfkaaDoorF.zero_33) ?_
          rintro _ _ ⟨b12, rfl, rfl⟩
          refine ⟨_, .nil, ?_⟩
          refine TV_e rfl rfl rfl rfl (rfl) (ET_makeN 3 3 (flatR [z7, z7, z7]) rfl Tryd.underlying30 el_Rec rfl rfl rfl rfl (by decide) (by decide) (by decide) (by kernel_rfl)) ?_
          rintro _ _ ⟨b62, rfl, rfl⟩
          refine ⟨_, .nil, ?_⟩
          refine TV_q rfl rfl rfl (fun _ => QT_build rfl rfl YtjdaglmkljbfkaaDoorF.zero_33 YtjdaglmkljbfkaaDoorF.pl_33 rfl rfl rfl) ?_
          first
            | refine TV_e0 rfl rfl rfl (rfl) (ET_storeW 0 rfl rfl rfl YtjdaglmkljbfkaaDoorF.sz_33 rfl rfl rfl) ?_
            | refine TV_e0 rfl rfl rfl (rfl) (ET_storeW 1 rfl rfl rfl YtjdaglmkljbfkaaDoorF.sz_33 rfl rfl rfl) ?_
            | refine TV_e0 rfl rfl rfl (rfl) (ET_storeW 2 rfl rfl rfl YtjdaglmkljbfkaaDoorF.sz_33 rfl rfl rfl) ?_
            | refine TV_e0 rfl rfl rfl (rfl) (ET_storeW 3 rfl rfl rfl YtjdaglmkljbfkaaDoorF.sz_33 rfl rfl rfl) ?_
            | refine TV_e0 rfl rfl rfl (rfl) (ET_storeW 4 rfl rfl rfl YtjdaglmkljbfkaaDoorF.sz_33 rfl rfl rfl) ?_
            | refine TV_e0 rfl rfl rfl (rfl) (ET_store 0 rfl rfl rfl rfl YtjdaglmkljbfkaaDoorF.sz_33 rfl rfl rfl) ?_
            | refine TV_e0 rfl rfl rfl (rfl) (ET_store 1 rfl rfl rfl rfl YtjdaglmkljbfkaaDoorF.sz_33 rfl rfl rfl) ?_
            | refine TV_e0 rfl rfl rfl (rfl) (ET_store 2 rfl rfl rfl rfl YtjdaglmkljbfkaaDoorF.sz_33 rfl rfl rfl) ?_
            | refine TV_e0 rfl rfl rfl (rfl) (ET_store 3 rfl rfl rfl rfl YtjdaglmkljbfkaaDoorF.sz_33 rfl rfl rfl) ?_
            | refine TV_e0 rfl rfl rfl (rfl) (ET_store 4 rfl rfl rfl rfl YtjdaglmkljbfkaaDoorF.sz_33 rfl rfl rfl) ?_
          rintro _ _ ⟨rfl, rfl⟩
          refine ⟨_, .nil, ?_⟩
          refine TV_end ?_
          exact TX_joined (b62, b63, b12) (by exact ⟨rfl, rfl, rfl, rfl, rfl, rfl, rfl, rfl, trivial⟩) (fun w h => h.cnt fun p => by simp only [upd, both_cells, List.countP_append, List.countP_cons, List.countP_nil]; omega)
      ·
        refine TVB_e rfl rfl rfl rfl (rfl) (ET_alloc rfl YtjdaglmkljbfkaaDoorF.zero_33) ?_
        rintro _ _ ⟨b12, rfl, rfl⟩
        refine ⟨_, .nil, ?_⟩
        refine TV_two (i := 0) (j := 1) [(1, 1), (2, 0), (4, 1)] [(0, 1), (2, 0), (4, 1)] (by kernel_rfl) ?_ ?_
        ·
          refine TVB_e rfl rfl rfl rfl (rfl) (ET_makeN 3 3 (flatR [z7, z7, z7]) rfl Tryd.underlying30 el_Rec rfl rfl rfl rfl (by decide) (by decide) (by decide) (by kernel_rfl)) ?_
          rintro _ _ ⟨b62, rfl, rfl⟩
          refine ⟨_, .nil, ?_⟩
          refine TV_e rfl rfl rfl rfl (rfl) (ET_makeN 1 1 (flatS [z49]) rfl Tryd.underlying31 el_Sheet rfl rfl rfl rfl (by decide) (by decide) (by decide) (by kernel_rfl)) ?_
          rintro _ _ ⟨b63, rfl, rfl⟩
          refine ⟨_, .nil, ?_⟩
          refine TV_q rfl rfl rfl (fun _ => QT_build rfl rfl YtjdaglmkljbfkaaDoorF.zero_33 YtjdaglmkljbfkaaDoorF.pl_33 rfl rfl rfl) ?_
          first
            | refine TV_e0 rfl rfl rfl (rfl) (ET_storeW 0 rfl rfl rfl YtjdaglmkljbfkaaDoorF.sz_33 rfl rfl rfl) ?_
            | refine TV_e0 rfl rfl rfl (rfl) (ET_storeW 1 rfl rfl rfl YtjdaglmkljbfkaaDoorF.sz_33 rfl rfl rfl) ?_
            | refine TV_e0 rfl rfl rfl (rfl) (ET_storeW 2 rfl rfl rfl YtjdaglmkljbfkaaDoorF.sz_33 rfl rfl rfl) ?_
            | refine TV_e0 rfl rfl rfl (rfl) (ET_storeW 3 rfl rfl rfl YtjdaglmkljbfkaaDoorF.sz_33 rfl rfl rfl) ?_
            | refine TV_e0 rfl rfl rfl (rfl) (ET_storeW 4 rfl rfl rfl YtjdaglmkljbfkaaDoorF.sz_33 rfl rfl rfl) ?_
            | refine TV_e0 rfl rfl rfl (rfl) (ET_store 0 rfl rfl rfl rfl YtjdaglmkljbfkaaDoorF.sz_33 rfl rfl rfl) ?_
            | refine TV_e0 rfl rfl rfl (rfl) (ET_store 1 rfl rfl rfl rfl YtjdaglmkljbfkaaDoorF.sz_33 rfl rfl rfl) ?_
            | refine TV_e0 rfl rfl rfl (rfl) (ET_store 2 rfl rfl rfl rfl YtjdaglmkljbfkaaDoorF.sz_33 rfl rfl rfl) ?_
            | refine TV_e0 rfl rfl rfl (rfl) (ET_store 3 rfl rfl rfl rfl YtjdaglmkljbfkaaDoorF.sz_33 rfl rfl rfl) ?_
            | refine TV_e0 rfl rfl rfl (rfl) (ET_store 4 rfl rfl rfl rfl YtjdaglmkljbfkaaDoorF.sz_33 rfl rfl rfl) ?_
          rintro _ _ ⟨rfl, rfl⟩
          refine ⟨_, .nil, ?_⟩
          refine TV_end ?_
          exact TX_joined (b62, b63, b12) (by exact ⟨rfl, rfl, rfl, rfl, rfl, rfl, rfl, rfl, trivial⟩) (fun w h => h.cnt fun p => by simp only [upd, both_cells, List.countP_append, List.countP_cons, List.countP_nil]; omega)
        ·
          refine TVB_e rfl rfl rfl rfl (rfl) (ET_makeN 1 1 (flatS [z49]) rfl Tryd.underlying31 el_Sheet rfl rfl rfl rfl (by decide) (by decide) (by decide) (by kernel_rfl)) ?_
          rintro _ _ ⟨b63, rfl, rfl⟩
          refine ⟨_, .nil, ?_⟩
          refine TV_e rfl rfl rfl rfl (rfl) (ET_makeN 3 3 (flatR [z7, z7, z7]) rfl Tryd.underlying30 el_Rec rfl rfl rfl rfl (by decide) (by decide) (by decide) (by kernel_rfl)) ?_
          rintro _ _ ⟨b62, rfl, rfl⟩
          refine ⟨_, .nil, ?_⟩
          refine TV_q rfl rfl rfl (fun _ => QT_build rfl rfl YtjdaglmkljbfkaaDoorF.zero_33 YtjdaglmkljbfkaaDoorF.pl_33 rfl rfl rfl) ?_
          first
            | refine TV_e0 rfl rfl rfl (rfl) (ET_storeW 0 rfl rfl rfl YtjdaglmkljbfkaaDoorF.sz_33 rfl rfl rfl) ?_
            | refine TV_e0 rfl rfl rfl (rfl) (ET_storeW 1 rfl rfl rfl YtjdaglmkljbfkaaDoorF.sz_33 rfl rfl rfl) ?_
            | refine TV_e0 rfl rfl rfl (rfl) (ET_storeW 2 rfl rfl rfl YtjdaglmkljbfkaaDoorF.sz_33 rfl rfl rfl) ?_
            | refine TV_e0 rfl rfl rfl (rfl) (ET_storeW 3 rfl rfl rfl YtjdaglmkljbfkaaDoorF.sz_33 rfl rfl rfl) ?_
            | refine TV_e0 rfl rfl rfl (rfl) (ET_storeW 4 rfl rfl rfl YtjdaglmkljbfkaaDoorF.sz_33 rfl rfl rfl) ?_
            | refine TV_e0 rfl rfl rfl (rfl) (ET_store 0 rfl rfl rfl rfl YtjdaglmkljbfkaaDoorF.sz_33 rfl rfl rfl) ?_
            | refine TV_e0 rfl rfl rfl (rfl) (ET_store 1 rfl rfl rfl rfl YtjdaglmkljbfkaaDoorF.sz_33 rfl rfl rfl) ?_
            | refine TV_e0 rfl rfl rfl (rfl) (ET_store 2 rfl rfl rfl rfl YtjdaglmkljbfkaaDoorF.sz_33 rfl rfl rfl) ?_
            | refine TV_e0 rfl rfl rfl (rfl) (ET_store 3 rfl rfl rfl rfl YtjdaglmkljbfkaaDoorF.sz_33 rfl rfl rfl) ?_
            | refine TV_e0 rfl rfl rfl (rfl) (ET_store 4 rfl rfl rfl rfl YtjdaglmkljbfkaaDoorF.sz_33 rfl rfl rfl) ?_
          rintro _ _ ⟨rfl, rfl⟩
          refine ⟨_, .nil, ?_⟩
          refine TV_end ?_
          exact TX_joined (b62, b63, b12) (by exact ⟨rfl, rfl, rfl, rfl, rfl, rfl, rfl, rfl, trivial⟩) (fun w h => h.cnt fun p => by simp only [upd, both_cells, List.countP_append, List.countP_cons, List.countP_nil]; omega)
end Go.Proofs.YtjdaglmkljbfkaaDoor
namespace Go.Proofs.YtjdaglmkljbfkaaDoor
open Go Go.Gx Go.RowKit
set_option maxRecDepth 100000
theorem byte_again : ∀ (b : Fin 256) (r : Fin 8), bitsOf .andNot .u8 ((b.1 / 2 ^ r.1 * 2 ^ r.1 : Nat) : Int) ((b.1 : Nat) : Int) = 0 ∧ bitsOf .and .u8 (bitsOf .xor .u8 ((b.1 : Nat) : Int) ((b.1 / 2 ^ r.1 * 2 ^ r.1 : Nat) : Int)) 128 = 0 := by decide +kernel
set_option maxHeartbeats 8000000 in
theorem law_streamsAgain (w0 : Base) (η : Heap) (hG : Sets w0) (hE : T12.Edges w0) (L : Lay) (bv : Value) (bs : List Nat) (hs : SlA (St w0 η) bv 1 bs.length (byV bs)) (hb : ∀ c ∈ bs, c < 256) :
    CallsT Tryd.prog 3 [L.val, bv] (St w0 η) fun v A' => v = .bool true ∧ A' = St w0 η := by
  have hs0 := hs
  obtain ⟨hxl, ba, bc, bb, bo, rfl, hcap, had, hrd⟩ := hs.some
  have hs1 : ∀ X : Heap, SlA (St w0 (X ++ η)) (.slice ba bs.length bc) 1 bs.length (byV bs) := fun X => hs0.mono fun _ h => h.app_right
  refine CallsT.body Tryd.func3 rfl rfl ?_
  simp only [Tryd.ntmps3, slotsOf, Nat.reduceAdd]
  refine TC_seq ?_
  refine TC_reg ?_
  refine TL_e rfl rfl rfl (rfl) (ET_box rfl rfl) ?_
  rintro _ _ ⟨b2, rfl, rfl⟩
  refine TL_q rfl rfl (QT_assign rfl rfl rfl) ?_
  refine TL_nil ?_
  refine TX_then ?_
  refine TC_seq ?_
  refine TC_seq ?_
  refine TC_reg ?_
  refine TL_q rfl rfl (QT_move rfl rfl rfl) ?_
  refine TL_q rfl rfl (QT_len rfl rfl Tryd.underlying28 rfl) ?_
  refine TL_q rfl rfl (QT_gtr rfl rfl rfl rfl) ?_
  refine TL_nil ?_
  refine TX_then ?_
  first
    | refine TC_cond_dec rfl (fun h14 => ?_) (fun h14 => ?_)
    | refine TC_cond rfl (fun h14 => ?_) (fun h14 => ?_)
  ·
    refine TC_seq ?_
    refine TC_reg ?_
    refine TL_cq rfl rfl rfl rfl YtjdaglmkljbfkaaDoorF.cal_6 rfl (fun _ => lives13 w0 _ hG hE) ?_
    refine TL_q rfl rfl (QT_assign rfl rfl rfl) ?_
    refine TL_nil ?_
    refine TX_then ?_
    refine TC_ret ?_
    refine TX_then_ret ?_
    exact TX_ret (.inl rfl) (res1 rfl rfl) ⟨_, ⟨rfl, rfl⟩, (fun _ h => by first | exact h | exact h.tail | exact h.tail.tail | exact h.tail.tail.tail | exact h.tail.tail.tail.tail | exact h.tail.tail.tail.tail.tail | exact h.tail.tail.tail.tail.tail.tail | exact h.tail.tail.tail.tail.tail.tail.tail | exact h.tail.tail.tail.tail.tail.tail.tail.tail | exact h.tail.tail.tail.tail.tail.tail.tail.tail.tail | exact h.tail.tail.tail.tail.tail.tail.tail.tail.tail.tail | exact h.tail.tail.tail.tail.tail.tail.tail.tail.tail.tail.tail | exact h.tail.tail.tail.tail.tail.tail.tail.tail.tail.tail.tail.tail | exact h.tail.tail.tail.tail.tail.tail.tail.tail.tail.tail.tail.tail.tail)⟩
  ·
    refine TC_skip ?_
    refine TX_then ?_
    refine TC_seq ?_
    have hn : bs.length ≤ 3000 := by omega
    refine TC_A (St w0 ((b2, 27, L.cells) :: η)) (fun _ h => h) ?_
    refine TC_reg ?_
    first
      | refine TL_q rfl rfl (QT_loadW 0 rfl rfl Tryd.underlying27 rfl rfl rfl YtjdaglmkljbfkaaDoorF.sz_27) ?_
      | refine TL_q rfl rfl (QT_loadW 1 rfl rfl Tryd.underlying27 rfl rfl rfl YtjdaglmkljbfkaaDoorF.sz_27) ?_
      | refine TL_q rfl rfl (QT_loadW 2 rfl rfl Tryd.underlying27 rfl rfl rfl YtjdaglmkljbfkaaDoorF.sz_27) ?_
      | refine TL_q rfl rfl (QT_loadA 0 rfl rfl Tryd.underlying27 rfl rfl rfl YtjdaglmkljbfkaaDoorF.sz_27 (fun _ => rfl)) ?_
      | refine TL_q rfl rfl (QT_loadA 1 rfl rfl Tryd.underlying27 rfl rfl rfl YtjdaglmkljbfkaaDoorF.sz_27 (fun _ => rfl)) ?_
      | refine TL_q rfl rfl (QT_loadA 2 rfl rfl Tryd.underlying27 rfl rfl rfl YtjdaglmkljbfkaaDoorF.sz_27 (fun _ => rfl)) ?_
    refine TL_q rfl rfl (QT_move rfl rfl rfl) ?_
    refine TL_e rfl rfl rfl (rfl) (ET_call rfl YtjdaglmkljbfkaaDoorF.cal_7 rfl (Decode_spec w0 _ hG hE L _ bs (hs1 [_]) hb (by omega))) ?_
    rintro _ _ ⟨rv, H1, tv, G1, rfl, hF1, hT1, rfl⟩
    refine TL_q rfl rfl (QT_move rfl rfl rfl) ?_
    refine TL_q rfl rfl (QT_extract rfl rfl rfl rfl) ?_
    refine TL_q rfl rfl (QT_extract rfl rfl rfl rfl) ?_
    refine TL_e rfl rfl rfl (rfl) (ET_alloc rfl YtjdaglmkljbfkaaDoorF.zero_33) ?_
    rintro _ _ ⟨b5, rfl, rfl⟩
    have hrr : ∀ r ∈ dmR L bs, RcF r := dmR_rcf
    have hqq : ∀ r ∈ dmS L bs, ShF r := dmS_shf
    have hrl := dmR_len L bs
    have hql := dmS_len L bs
    obtain ⟨rad, rcap, rfl, _, _⟩ := hF1.slice
    obtain ⟨tad, tcap, rfl, _, _⟩ := hT1.slice
    first
      | refine TL_e0 rfl rfl (rfl) (ET_storeW 0 rfl rfl rfl YtjdaglmkljbfkaaDoorF.sz_33 rfl rfl rfl) ?_
      | refine TL_e0 rfl rfl (rfl) (ET_storeW 1 rfl rfl rfl YtjdaglmkljbfkaaDoorF.sz_33 rfl rfl rfl) ?_
      | refine TL_e0 rfl rfl (rfl) (ET_storeW 2 rfl rfl rfl YtjdaglmkljbfkaaDoorF.sz_33 rfl rfl rfl) ?_
      | refine TL_e0 rfl rfl (rfl) (ET_store 0 rfl rfl rfl rfl YtjdaglmkljbfkaaDoorF.sz_33 rfl rfl rfl) ?_
      | refine TL_e0 rfl rfl (rfl) (ET_store 1 rfl rfl rfl rfl YtjdaglmkljbfkaaDoorF.sz_33 rfl rfl rfl) ?_
      | refine TL_e0 rfl rfl (rfl) (ET_store 2 rfl rfl rfl rfl YtjdaglmkljbfkaaDoorF.sz_33 rfl rfl rfl) ?_
    rintro _ _ ⟨rfl, rfl⟩
    refine TL_q rfl rfl (QT_assign rfl rfl rfl) ?_
    refine TL_nil ?_
    refine TX_then ?_
    refine TC_seq ?_
    refine TC_seq ?_
    refine TC_A (St w0 ((b5, 33, [.slice rad (dmR L bs).length rcap, .slice tad (dmS L bs).length tcap]) :: (b2, 27, L.cells) :: (H1 ++ (G1 ++ η)))) (fun w h => h.cnt fun p => by simp only [upd, List.countP_append, List.countP_cons, List.countP_nil]; omega) ?_
    refine TC_reg ?_
    refine TL_q rfl rfl (QT_move rfl rfl rfl) ?_
    refine TL_q rfl rfl (QT_neq rfl rfl rfl rfl) ?_
    refine TL_nil ?_
    refine TX_then ?_
    first
      | refine TC_cond_dec rfl (fun h23 => ?_) (fun h23 => ?_)
      | refine TC_cond rfl (fun h23 => ?_) (fun h23 => ?_)
    ·
      refine TC_seq ?_
      have h23' : dmE L bs ≠ 0 := h23
      simp only [(dm_bad h23').1, (dm_bad h23').2, List.length_nil]
      refine TC_reg ?_
      refine TL_q rfl rfl (QT_field rfl rfl YtjdaglmkljbfkaaDoorF.fld_33_0 rfl) ?_
      first
        | refine TL_q rfl rfl (QT_load 0 rfl rfl Tryd.underlying30 rfl rfl rfl (fun _ => rfl)) ?_
        | refine TL_q rfl rfl (QT_load 1 rfl rfl Tryd.underlying30 rfl rfl rfl (fun _ => rfl)) ?_
        | refine TL_q rfl rfl (QT_load 2 rfl rfl Tryd.underlying30 rfl rfl rfl (fun _ => rfl)) ?_
      refine TL_q rfl rfl (QT_len rfl rfl Tryd.underlying30 rfl) ?_
      refine TL_q rfl rfl (QT_field rfl rfl YtjdaglmkljbfkaaDoorF.fld_33_1 rfl) ?_
      first
        | refine TL_q rfl rfl (QT_load 0 rfl rfl Tryd.underlying31 rfl rfl rfl (fun _ => rfl)) ?_
        | refine TL_q rfl rfl (QT_load 1 rfl rfl Tryd.underlying31 rfl rfl rfl (fun _ => rfl)) ?_
        | refine TL_q rfl rfl (QT_load 2 rfl rfl Tryd.underlying31 rfl rfl rfl (fun _ => rfl)) ?_
      refine TL_q rfl rfl (QT_len rfl rfl Tryd.underlying31 rfl) ?_
      refine TL_q rfl rfl (QT_add rfl rfl rfl rfl (fun _ => ⟨by omega, by omega⟩)) ?_
      refine TL_q rfl rfl (QT_eql rfl rfl rfl rfl) ?_
      refine TL_q rfl rfl (QT_move rfl rfl rfl) ?_
      refine TL_cq rfl rfl rfl rfl YtjdaglmkljbfkaaDoorF.cal_6 rfl (fun _ => lives13 w0 _ hG hE) ?_
      refine TL_q rfl rfl (QT_and rfl rfl rfl rfl) ?_
      refine TL_q rfl rfl (QT_assign rfl rfl rfl) ?_
      refine TL_nil ?_
      refine TX_then ?_
      refine TC_ret ?_
      refine TX_then_ret ?_
      exact TX_ret (.inl rfl) (res1 rfl rfl) ⟨_, ⟨congrArg Value.bool (show (_ : Bool) = true by rfl), rfl⟩, fun w h => h.cnt fun p => by simp only [List.countP_append, List.countP_cons, List.countP_nil]; omega⟩
    ·
      refine TC_skip ?_
      refine TX_then ?_
      refine TC_seq ?_
      have e0 := Classical.not_not.1 h23
      obtain ⟨a1, a2, a3⟩ := again13 hb e0
      obtain ⟨d1, d2, d3⟩ := back13 hrr hqq a1
      have hlt : ∀ c ∈ emO L (dmR L bs) (dmS L bs), c < 256 := emO_lt
      generalize hRE : dmR L bs = rs at *
      generalize hSE : dmS L bs = ss at *
      generalize hCE : emO L rs ss = cs at *
      refine TC_A (St w0 ((b5, 33, [.slice rad rs.length rcap, .slice tad ss.length tcap]) :: (b2, 27, L.cells) :: (H1 ++ (G1 ++ η)))) (fun _ h => h) ?_
      refine TC_reg ?_
      first
        | refine TL_q rfl rfl (QT_loadW 0 rfl rfl Tryd.underlying27 rfl rfl rfl YtjdaglmkljbfkaaDoorF.sz_27) ?_
        | refine TL_q rfl rfl (QT_loadW 1 rfl rfl Tryd.underlying27 rfl rfl rfl YtjdaglmkljbfkaaDoorF.sz_27) ?_
        | refine TL_q rfl rfl (QT_loadW 2 rfl rfl Tryd.underlying27 rfl rfl rfl YtjdaglmkljbfkaaDoorF.sz_27) ?_
        | refine TL_q rfl rfl (QT_loadA 0 rfl rfl Tryd.underlying27 rfl rfl rfl YtjdaglmkljbfkaaDoorF.sz_27 (fun _ => rfl)) ?_
        | refine TL_q rfl rfl (QT_loadA 1 rfl rfl Tryd.underlying27 rfl rfl rfl YtjdaglmkljbfkaaDoorF.sz_27 (fun _ => rfl)) ?_
        | refine TL_q rfl rfl (QT_loadA 2 rfl rfl Tryd.underlying27 rfl rfl rfl YtjdaglmkljbfkaaDoorF.sz_27 (fun _ => rfl)) ?_
      first
        | refine TL_q rfl rfl (QT_loadW 0 rfl rfl Tryd.underlying33 rfl rfl rfl YtjdaglmkljbfkaaDoorF.sz_33) ?_
        | refine TL_q rfl rfl (QT_loadW 1 rfl rfl Tryd.underlying33 rfl rfl rfl YtjdaglmkljbfkaaDoorF.sz_33) ?_
        | refine TL_q rfl rfl (QT_loadW 2 rfl rfl Tryd.underlying33 rfl rfl rfl YtjdaglmkljbfkaaDoorF.sz_33) ?_
        | refine TL_q rfl rfl (QT_loadA 0 rfl rfl Tryd.underlying33 rfl rfl rfl YtjdaglmkljbfkaaDoorF.sz_33 (fun _ => rfl)) ?_
        | refine TL_q rfl rfl (QT_loadA 1 rfl rfl Tryd.underlying33 rfl rfl rfl YtjdaglmkljbfkaaDoorF.sz_33 (fun _ => rfl)) ?_
        | refine TL_q rfl rfl (QT_loadA 2 rfl rfl Tryd.underlying33 rfl rfl rfl YtjdaglmkljbfkaaDoorF.sz_33 (fun _ => rfl)) ?_
      refine TL_e rfl rfl rfl (rfl) (ET_call rfl YtjdaglmkljbfkaaDoorF.cal_8 rfl (Encode_spec w0 _ hG hE L _ _ rs ss (hF1.within fun p => by simp only [List.countP_append, List.countP_cons]; omega) (hT1.within fun p => by simp only [List.countP_append, List.countP_cons]; omega) hrr hqq (by omega) (by omega))) ?_
      rintro _ _ ⟨cv, H2, rfl, hF2, rfl⟩
      refine TL_q rfl rfl (QT_move rfl rfl rfl) ?_
      refine TL_q rfl rfl (QT_extract rfl rfl rfl rfl) ?_
      refine TL_q rfl rfl (QT_extract rfl rfl rfl rfl) ?_
      refine TL_q rfl rfl (QT_assign rfl rfl rfl) ?_
      refine TL_q rfl rfl (QT_assign rfl rfl rfl) ?_
      refine TL_nil ?_
      refine TX_then ?_
      refine TC_seq ?_
      rw [hCE] at hF2
      simp only [a1]
      obtain ⟨cad, ccap, rfl, _, _⟩ := hF2.slice
      refine TC_A (St w0 ((b5, 33, [.slice rad rs.length rcap, .slice tad ss.length tcap]) :: (b2, 27, L.cells) :: (H1 ++ (G1 ++ (H2 ++ η))))) (fun w h => h.cnt fun p => by simp only [List.countP_append, List.countP_cons, List.countP_nil]; omega) ?_
      refine TC_reg ?_
      first
        | refine TL_q rfl rfl (QT_loadW 0 rfl rfl Tryd.underlying27 rfl rfl rfl YtjdaglmkljbfkaaDoorF.sz_27) ?_
        | refine TL_q rfl rfl (QT_loadW 1 rfl rfl Tryd.underlying27 rfl rfl rfl YtjdaglmkljbfkaaDoorF.sz_27) ?_
        | refine TL_q rfl rfl (QT_loadW 2 rfl rfl Tryd.underlying27 rfl rfl rfl YtjdaglmkljbfkaaDoorF.sz_27) ?_
        | refine TL_q rfl rfl (QT_loadA 0 rfl rfl Tryd.underlying27 rfl rfl rfl YtjdaglmkljbfkaaDoorF.sz_27 (fun _ => rfl)) ?_
        | refine TL_q rfl rfl (QT_loadA 1 rfl rfl Tryd.underlying27 rfl rfl rfl YtjdaglmkljbfkaaDoorF.sz_27 (fun _ => rfl)) ?_
        | refine TL_q rfl rfl (QT_loadA 2 rfl rfl Tryd.underlying27 rfl rfl rfl YtjdaglmkljbfkaaDoorF.sz_27 (fun _ => rfl)) ?_
      refine TL_q rfl rfl (QT_move rfl rfl rfl) ?_
      refine TL_e rfl rfl rfl (rfl) (ET_call rfl YtjdaglmkljbfkaaDoorF.cal_7 rfl (Decode_spec w0 _ hG hE L _ cs (hF2.within fun p => by simp only [List.countP_append, List.countP_cons]; omega) hlt (by omega))) ?_
      rintro _ _ ⟨nv, H3, mv, G3, rfl, hF3, hT3, rfl⟩
      refine TL_q rfl rfl (QT_move rfl rfl rfl) ?_
      refine TL_q rfl rfl (QT_extract rfl rfl rfl rfl) ?_
      refine TL_q rfl rfl (QT_extract rfl rfl rfl rfl) ?_
      refine TL_e rfl rfl rfl (rfl) (ET_alloc rfl YtjdaglmkljbfkaaDoorF.zero_33) ?_
      rintro _ _ ⟨b9, rfl, rfl⟩
      rw [d2] at hF3
      rw [d3] at hT3
      obtain ⟨nad, ncap, rfl, _, _⟩ := hF3.slice
      obtain ⟨mad, mcap, rfl, _, _⟩ := hT3.slice
      first
        | refine TL_e0 rfl rfl (rfl) (ET_storeW 0 rfl rfl rfl YtjdaglmkljbfkaaDoorF.sz_33 rfl rfl rfl) ?_
        | refine TL_e0 rfl rfl (rfl) (ET_storeW 1 rfl rfl rfl YtjdaglmkljbfkaaDoorF.sz_33 rfl rfl rfl) ?_
        | refine TL_e0 rfl rfl (rfl) (ET_storeW 2 rfl rfl rfl YtjdaglmkljbfkaaDoorF.sz_33 rfl rfl rfl) ?_
        | refine TL_e0 rfl rfl (rfl) (ET_store 0 rfl rfl rfl rfl YtjdaglmkljbfkaaDoorF.sz_33 rfl rfl rfl) ?_
        | refine TL_e0 rfl rfl (rfl) (ET_store 1 rfl rfl rfl rfl YtjdaglmkljbfkaaDoorF.sz_33 rfl rfl rfl) ?_
        | refine TL_e0 rfl rfl (rfl) (ET_store 2 rfl rfl rfl rfl YtjdaglmkljbfkaaDoorF.sz_33 rfl rfl rfl) ?_
      rintro _ _ ⟨rfl, rfl⟩
      refine TL_q rfl rfl (QT_assign rfl rfl rfl) ?_
      refine TL_nil ?_
      refine TX_then ?_
      refine TC_seq ?_
      refine TC_seq ?_
      simp only [d1]
      refine TC_A (St w0 ((b9, 33, [.slice nad rs.length ncap, .slice mad ss.length mcap]) :: (b5, 33, [.slice rad rs.length rcap, .slice tad ss.length tcap]) :: (b2, 27, L.cells) :: (H1 ++ (G1 ++ (H2 ++ (H3 ++ (G3 ++ η))))))) (fun w h => h.cnt fun p => by simp only [upd, List.countP_append, List.countP_cons, List.countP_nil]; omega) ?_
      refine TC_reg ?_
      refine TL_q rfl rfl (QT_move rfl rfl rfl) ?_
      refine TL_q rfl rfl (QT_neq rfl rfl rfl rfl) ?_
      refine TL_q rfl rfl (QT_move rfl rfl rfl) ?_
      refine TL_q rfl rfl (QT_move rfl rfl rfl) ?_
      refine TL_q rfl rfl (QT_neq rfl rfl rfl rfl) ?_
      refine TL_q rfl rfl (QT_or rfl rfl rfl rfl) ?_
      refine TL_q rfl rfl (QT_move rfl rfl rfl) ?_
      refine TL_q rfl rfl (QT_move rfl rfl rfl) ?_
      refine TL_q rfl rfl (QT_len rfl rfl Tryd.underlying28 rfl) ?_
      refine TL_q rfl rfl (QT_move rfl rfl rfl) ?_
      refine TL_q rfl rfl (QT_len rfl rfl Tryd.underlying28 rfl) ?_
      refine TL_q rfl rfl (QT_neq rfl rfl rfl rfl) ?_
      refine TL_q rfl rfl (QT_or rfl rfl rfl rfl) ?_
      refine TL_q rfl rfl (QT_move rfl rfl rfl) ?_
      first
        | refine TL_q rfl rfl (QT_loadW 0 rfl rfl Tryd.underlying33 rfl rfl rfl YtjdaglmkljbfkaaDoorF.sz_33) ?_
        | refine TL_q rfl rfl (QT_loadW 1 rfl rfl Tryd.underlying33 rfl rfl rfl YtjdaglmkljbfkaaDoorF.sz_33) ?_
        | refine TL_q rfl rfl (QT_loadW 2 rfl rfl Tryd.underlying33 rfl rfl rfl YtjdaglmkljbfkaaDoorF.sz_33) ?_
        | refine TL_q rfl rfl (QT_loadA 0 rfl rfl Tryd.underlying33 rfl rfl rfl YtjdaglmkljbfkaaDoorF.sz_33 (fun _ => rfl)) ?_
        | refine TL_q rfl rfl (QT_loadA 1 rfl rfl Tryd.underlying33 rfl rfl rfl YtjdaglmkljbfkaaDoorF.sz_33 (fun _ => rfl)) ?_
        | refine TL_q rfl rfl (QT_loadA 2 rfl rfl Tryd.underlying33 rfl rfl rfl YtjdaglmkljbfkaaDoorF.sz_33 (fun _ => rfl)) ?_
      first
        | refine TL_q rfl rfl (QT_loadW 0 rfl rfl Tryd.underlying33 rfl rfl rfl YtjdaglmkljbfkaaDoorF.sz_33) ?_
        | refine TL_q rfl rfl (QT_loadW 1 rfl rfl Tryd.underlying33 rfl rfl rfl YtjdaglmkljbfkaaDoorF.sz_33) ?_
        | refine TL_q rfl rfl (QT_loadW 2 rfl rfl Tryd.underlying33 rfl rfl rfl YtjdaglmkljbfkaaDoorF.sz_33) ?_
        | refine TL_q rfl rfl (QT_loadA 0 rfl rfl Tryd.underlying33 rfl rfl rfl YtjdaglmkljbfkaaDoorF.sz_33 (fun _ => rfl)) ?_
        | refine TL_q rfl rfl (QT_loadA 1 rfl rfl Tryd.underlying33 rfl rfl rfl YtjdaglmkljbfkaaDoorF.sz_33 (fun _ => rfl)) ?_
        | refine TL_q rfl rfl (QT_loadA 2 rfl rfl Tryd.underlying33 rfl rfl rfl YtjdaglmkljbfkaaDoorF.sz_33 (fun _ => rfl)) ?_
      refine TL_cq rfl rfl rfl rfl YtjdaglmkljbfkaaDoorF.cal_9 rfl (fun _ => sameOk_Mesh w0 _ _ _ _ _ rs ss (hF1.within fun p => by simp only [List.countP_append, List.countP_cons]; omega) (hF3.within fun p => by simp only [List.countP_append, List.countP_cons]; omega) (hT1.within fun p => by simp only [List.countP_append, List.countP_cons]; omega) (hT3.within fun p => by simp only [List.countP_append, List.countP_cons]; omega) hrr hqq) ?_
      refine TL_q rfl rfl (QT_not rfl rfl rfl) ?_
      refine TL_q rfl rfl (QT_or rfl rfl rfl rfl) ?_
      refine TL_nil ?_
      refine TX_then ?_
      refine TC_cond rfl (fun h => absurd (h.symm.trans ((show (_ : Bool) = false by simp [a2]))) (by decide)) (fun _ => ?_)
      refine TC_skip ?_
      refine TX_then ?_
      refine TC_seq ?_
      refine TC_seq ?_
      refine TC_A (St w0 (H2 ++ η)) (fun w h => h.cnt fun p => by simp only [List.countP_append, List.countP_cons, List.countP_nil]; omega) ?_
      obtain ⟨_, cad2, ccap2, cb, co, hce, _, hcad, hcrd⟩ := (hF2.sla (w0 := w0) (η := η)).some
      obtain ⟨rfl, _, rfl⟩ := Value.slice.inj hce
      have hBr : Rd (St w0 (H2 ++ η)) bb bo (byV bs) := hrd.mono fun w h => h.app_right
      refine TC_reg ?_
      refine TL_q rfl rfl (QT_assign rfl rfl rfl) ?_
      refine TL_nil ?_
      refine TX_then ?_
      refine TC_block ?_
      refine TC_loop (γ := { i : Nat // i ≤ bs.length }) (fun u => [(1, true, .slice ba bs.length bc), (7, true, .slice cad cs.length ccap), (11, true, .int .i64 (u.1 : Int))]) (fun _ => St w0 (H2 ++ η)) (fun u => bs.length - u.1) ⟨0, Nat.zero_le _⟩ ⟨rfl, rfl, rfl, trivial⟩ (fun _ h => h) ?_
      rintro ⟨i, hi⟩
      dsimp only
      refine TC_seq ?_
      refine TC_seq ?_
      refine TC_reg ?_
      refine TL_q rfl rfl (QT_move rfl rfl rfl) ?_
      refine TL_q rfl rfl (QT_move rfl rfl rfl) ?_
      refine TL_q rfl rfl (QT_len rfl rfl Tryd.underlying28 rfl) ?_
      refine TL_q rfl rfl (QT_lss rfl rfl rfl rfl) ?_
      refine TL_nil ?_
      refine TX_then ?_
      first
        | refine TC_cond_dec rfl (fun h69 => ?_) (fun h69 => ?_)
        | refine TC_cond rfl (fun h69 => ?_) (fun h69 => ?_)
      ·
        have hi' : i < bs.length := by omega
        obtain ⟨b, r, hr7, hb8, hbi, hci⟩ := a3 i hi'
        have hvb : (byV bs)[i * 1]? = some (.int .u8 (b : Int)) := by rw [Nat.mul_one]; simp [byV, hbi]
        have hvc : (byV cs)[i * 1]? = some (.int .u8 ((b / 2 ^ r * 2 ^ r : Nat) : Int)) := by rw [Nat.mul_one]; simp [byV, hci]
        obtain ⟨k1, k2⟩ := byte_again ⟨b, hb8⟩ ⟨r, by omega⟩
        simp only at k1 k2
        generalize b / 2 ^ r * 2 ^ r = c at hvc k1 k2
        refine TC_skip ?_
        refine TX_then ?_
        refine TC_seq ?_
        refine TC_block ?_
        refine TC_seq ?_
        refine TC_draw [(0, 0), (1, 0), (2, 0), (3, 0), (4, 0), (5, 0), (6, 0), (7, 0), (8, 0), (9, 0), (10, 0), (11, 0), (12, 0), (13, 0), (14, 0), (15, 0), (16, 0), (17, 0), (18, 0), (19, 0), (20, 0), (21, 0), (22, 0)] YtjdaglmkljbfkaaDoorF.mixed (by kernel_rfl) (St.calm _ _) ?_
        refine TV_q rfl rfl rfl (fun _ => QT_move rfl rfl rfl) ?_
        refine TV_q rfl rfl rfl (fun _ => QT_move rfl rfl rfl) ?_
        refine TV_q rfl rfl rfl (fun _ => QT_indexG i rfl rfl Tryd.underlying28 YtjdaglmkljbfkaaDoorF.sz_5 rfl rfl rfl (fun _ => by omega) (fun _ => hcad (by omega))) ?_
        refine TV_ql rfl rfl rfl (QT_loadRj (v := .int .u8 (c : Int)) (i * 1) rfl rfl Tryd.underlying5 rfl hcrd rfl (fun _ => hvc)) ?_
        refine TV_q rfl rfl rfl (fun _ => QT_move rfl rfl rfl) ?_
        refine TV_q rfl rfl rfl (fun _ => QT_move rfl rfl rfl) ?_
        refine TV_q rfl rfl rfl (fun _ => QT_indexG i rfl rfl Tryd.underlying28 YtjdaglmkljbfkaaDoorF.sz_5 rfl rfl rfl (fun _ => hi') (fun _ => had (by omega))) ?_
        refine TV_ql rfl rfl rfl (QT_loadRj (v := .int .u8 (b : Int)) (i * 1) rfl rfl Tryd.underlying5 rfl hBr rfl (fun _ => hvb)) ?_
        refine TV_q rfl rfl rfl (fun _ => QT_bits rfl rfl (by decide) rfl rfl) ?_
        refine TV_q rfl rfl rfl (fun _ => QT_neq rfl rfl rfl rfl) ?_
        refine TV_q rfl rfl rfl (fun _ => QT_move rfl rfl rfl) ?_
        refine TV_q rfl rfl rfl (fun _ => QT_move rfl rfl rfl) ?_
        refine TV_q rfl rfl rfl (fun _ => QT_move rfl rfl rfl) ?_
        refine TV_q rfl rfl rfl (fun _ => QT_indexG i rfl rfl Tryd.underlying28 YtjdaglmkljbfkaaDoorF.sz_5 rfl rfl rfl (fun _ => hi') (fun _ => had (by omega))) ?_
        refine TV_ql rfl rfl rfl (QT_loadRj (v := .int .u8 (b : Int)) (i * 1) rfl rfl Tryd.underlying5 rfl hBr rfl (fun _ => hvb)) ?_
        refine TV_q rfl rfl rfl (fun _ => QT_move rfl rfl rfl) ?_
        refine TV_q rfl rfl rfl (fun _ => QT_move rfl rfl rfl) ?_
        refine TV_q rfl rfl rfl (fun _ => QT_indexG i rfl rfl Tryd.underlying28 YtjdaglmkljbfkaaDoorF.sz_5 rfl rfl rfl (fun _ => by omega) (fun _ => hcad (by omega))) ?_
        refine TV_ql rfl rfl rfl (QT_loadRj (v := .int .u8 (c : Int)) (i * 1) rfl rfl Tryd.underlying5 rfl hcrd rfl (fun _ => hvc)) ?_
        refine TV_q rfl rfl rfl (fun _ => QT_bits rfl rfl (by decide) rfl rfl) ?_
        refine TV_q rfl rfl rfl (fun _ => QT_bits rfl rfl (by decide) rfl rfl) ?_
        refine TV_q rfl rfl rfl (fun _ => QT_neq rfl rfl rfl rfl) ?_
        refine TV_q rfl rfl rfl (fun _ => QT_or rfl rfl rfl rfl) ?_
        refine TV_end ?_
        refine TX_then ?_
        refine TC_cond rfl (fun h => absurd (h.symm.trans ((show (_ : Bool) = false by simp [k1, k2]))) (by decide)) (fun _ => ?_)
        refine TC_skip ?_
        refine TX_block_normal ?_
        refine TX_then ?_
        refine TC_reg ?_
        refine TL_q rfl rfl (QT_move rfl rfl rfl) ?_
        refine TL_q rfl rfl (QT_add rfl rfl rfl rfl (fun _ => ⟨by omega, by omega⟩)) ?_
        refine TL_q rfl rfl (QT_assign rfl rfl rfl) ?_
        refine TL_nil ?_
        exact TX_round ⟨i + 1, by omega⟩ (by dsimp only; omega) ⟨rfl, rfl, slotI rfl (by dsimp only; omega), trivial⟩ (fun _ h => h)
      ·
        refine TC_exit ?_
        refine TX_then_exit ?_
        refine TX_then_exit ?_
        refine TX_block_here ?_
        refine TX_then ?_
        refine TC_seq ?_
        refine TC_reg ?_
        refine TL_cq rfl rfl rfl rfl YtjdaglmkljbfkaaDoorF.cal_6 rfl (fun _ => lives13 w0 _ hG hE) ?_
        refine TL_q rfl rfl (QT_assign rfl rfl rfl) ?_
        refine TL_nil ?_
        refine TX_then ?_
        refine TC_ret ?_
        exact TX_ret (.inl rfl) (res1 rfl rfl) ⟨_, ⟨rfl, rfl⟩, fun _ h => h.app_right⟩
end Go.Proofs.YtjdaglmkljbfkaaDoor
namespace Go.Gx
open Go Go.RowKit Go.ChangeShapes Go.WideShapes
section
variable {H : Type} {enc : TypeId × Value → H} {P : Program} {w : World} {base : Nat} {spare : Nat → Bool} {held : Bool}
/-- Two slices in a structure by value. -/
theorem open_st2 {t e0 e1 : TypeId} {f0 f1 : Field} {ks0 ks1 : List IntKind} {v : Value} {d : DataW H} {p : List MemPlace} (ha : P.underlying t = some (.struct #[f0, f1])) (ho0 : f0.offset = 0) (ho1 : f1.offset = 1) (hc0 : P.cellsOf f0.type = 1) (hc1 : P.cellsOf f1.type = 1) (hct : P.cellsOf t = 2)
    (ht0 : P.underlying f0.type = some (.slice e0)) (ht1 : P.underlying f1.type = some (.slice e1)) (hk0 : flat P 8 e0 = some ks0) (hk1 : flat P 8 e1 = some ks1) (h00 : 0 < ks0.length) (h01 : 0 < ks1.length) {B0 B1 : Nat} (hB0 : P.bytesOf e0 = B0) (hB1 : P.bytesOf e1 = B1) {r : Reach} {b0 : Nat}
    (hv : Value.okWide P w r b0 t v) (h : DataW.Trod enc P w base spare held t v d p) (hw : ∀ m ∈ d.weights P t, m ≤ reachBytes) :
    ∃ (s1 s2 : Value) (n m : Nat) (xs ys : List Value), v = .agg #[s1, s2] ∧ (SlA (St w []) s1 ks0.length n xs ∧ Ints (rep n ks0) xs ∧ n * B0 ≤ 140737488351232) ∧ (SlA (St w []) s2 ks1.length m ys ∧ Ints (rep m ks1) ys ∧ m * B1 ≤ 140737488351232) := by
  obtain ⟨fuel, hf⟩ := h
  obtain ⟨cs, rfl⟩ : ∃ cs, v = .agg cs := by
    simp only [Value.okWide, ha] at hv
    cases v <;> simp_all
  obtain ⟨xs, m, rfl, hx, hlen, hxl, hel⟩ := DataW.trod_struct ha hf
  have hd : d = .agg (xs.map (·.1)) := congrArg Prod.fst hx
  subst hd
  have hcs : cs.toList.length = 2 := by rw [← hct]; exact hlen
  obtain ⟨c0, c1, hce⟩ : ∃ c0 c1, cs.toList = [c0, c1] := by
    match hl : cs.toList, hcs with
    | [c0, c1], _ => exact ⟨c0, c1, rfl⟩
  obtain ⟨y0, y1, rfl⟩ : ∃ y0 y1, xs = [y0, y1] := by
    match xs, hxl with
    | [y0, y1], _ => exact ⟨y0, y1, rfl⟩
  have hcc : (Value.agg cs).cells.toList = [c0, c1] := hce
  have h1 := hel 0 f0 rfl
  have h2 := hel 1 f1 rfl
  rw [hcc, ho0, hc0] at h1
  rw [hcc, ho1, hc1] at h2
  obtain ⟨v1, n1, xs1, e1', a1, a2, a3⟩ := open_slc ht0 hk0 h00 (x := y0) h1
  obtain ⟨v2, n2, xs2, e2', b1, b2, b3⟩ := open_slc ht1 hk1 h01 (x := y1) h2
  have e1'' : c0 = v1 := by simpa using e1'
  have e2'' : c1 = v2 := by simpa using e2'
  subst e1'' e2''
  have hw0 : ∀ m ∈ y0.1.weights P f0.type, m ≤ reachBytes := fun m hm => by
    refine hw m ?_
    simp only [DataW.weights, ha, List.map_cons, List.map_nil, DataW.weightsEach, List.append_nil]
    exact List.mem_append_left _ hm
  have hw1 : ∀ m ∈ y1.1.weights P f1.type, m ≤ reachBytes := fun m hm => by
    refine hw m ?_
    simp only [DataW.weights, ha, List.map_cons, List.map_nil, DataW.weightsEach, List.append_nil]
    exact List.mem_append_right _ hm
  refine ⟨c0, c1, n1, n2, xs1, xs2, congrArg Value.agg (Array.ext' (by simpa using hce)), ⟨a1, a2, ?_⟩, ⟨b1, b2, ?_⟩⟩
  · rw [← hB0]; exact a3 hw0
  · rw [← hB1]; exact b3 hw1
end
end Go.Gx
namespace Go.Proofs.YtjdaglmkljbfkaaDoor
open Go Go.Gx Go.RowKit Go.ChangeShapes Go.WideShapes Go.ChangeAt
set_option maxRecDepth 100000
theorem open_mesh {H : Type} {enc : TypeId × Value → H} {W : World} {base b0 : Nat} {spare : Nat → Bool} {held : Bool} {r : Reach} {v : Value} {d : DataW H} {p : List MemPlace}
    (hv : Value.okWide Tryd.prog W r b0 33 v) (h : DataW.Trod enc Tryd.prog W base spare held 33 v d p) (hw : ∀ m ∈ d.weights Tryd.prog 33, m ≤ reachBytes) :
    ∃ (rv tv : Value) (rs ss : List (List Nat)), v = .agg #[rv, tv] ∧ SlA (St W []) rv 7 rs.length (flatR rs) ∧ (∀ r ∈ rs, RcF r) ∧ SlA (St W []) tv 49 ss.length (flatS ss) ∧ (∀ r ∈ ss, ShF r) := by
  obtain ⟨s1, s2, n, m, xs, ys, rfl, ⟨h1, h2, _⟩, h3, h4, _⟩ := open_st2 Tryd.underlying33 rfl rfl (by kernel_rfl) (by kernel_rfl) (by kernel_rfl) Tryd.underlying30 Tryd.underlying31 flat_RecR flat_Sheet (by decide) (by decide) rfl rfl hv h hw
  obtain ⟨rs, _, h5, h6⟩ := open_recsR h1 h2
  obtain ⟨ss, _, h7, h8⟩ := open_sheets h3 h4
  exact ⟨s1, s2, rs, ss, rfl, h5, h6, h7, h8⟩
end Go.Proofs.YtjdaglmkljbfkaaDoor

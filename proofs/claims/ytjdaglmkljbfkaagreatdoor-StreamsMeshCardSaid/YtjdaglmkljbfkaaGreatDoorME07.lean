/- STREAMS: Decode. STREAMS: Decode, of patches; what it gives in all cases. STREAMS: Encode. STREAMS: Encode in all cases; Faces. STREAMS: meshes compared; slices of zeros; the chapter's examples. STREAMS: the chapter's examples. STREAMS: what is encoded is decoded as it was, and the other way round: plain facts. THE LAW: what may be encoded is decoded as it was. THE LAW: whoever reads vertices, or sheets, and asks for their faces, is told what Decode and Faces tell. THE LAW: what is decoded is encoded as bytes that are decoded as the same. WHAT THE ROWS OF THE STREAMS LIST: the sets of numbers of bits, the edges; a parameter of bytes, of a mesh by value. STREAMS, by the document's answer: faces, decoding, encoding: the same. STREAMS, by the document's answer: decoding, encoding: the same. STREAMS, by the document's answer: decoding in all cases, encoding. MESHES in the book; a twin of a mesh, and what is left of it. THE LAW: what any bytes tell is what the chapter says, in new memory, or refused; the bytes stay as they were. THE LAW: the bytes, and the faces, of any mesh are what the chapter says, in new memory, or refused; the mesh stays as it was. -/
import Derived.Test.YtjdaglmkljbfkaaGreatDoorME06
namespace Go.Gx
open Go Go.RowKit
/-- a call that gives memory of its own and keeps the rest, while a map stands beside -/
theorem callsT_mapH {P : Program} {f : FuncId} {vs : List Value} {w0 : Base} {η : Heap} {m clock : Nat} {es : List MapEntry} {R : Value → Heap → Prop}
    (h : ∀ B : Base, (∀ w, St B η w → St w0 η w) → (∀ p v, w0.cell? p = some v → B.cell? p = some v) → CallsT P f vs (St B η) fun v A' => ∃ H, R v H ∧ A' = St B (H ++ η)) :
    CallsT P f vs (StM w0 η m es clock) fun v A' => ∃ H, R v H ∧ A' = StM w0 (H ++ η) m es clock := by
  rintro w ⟨hS, hm, h0⟩
  obtain ⟨B, hB⟩ : ∃ B : Base, B = ⟨w, fun k => !(k == m) && (w0.hole k || decide (w0.w.heap.size ≤ k))⟩ := ⟨_, rfl⟩
  have hBw : B.w = w := by rw [hB]
  have hBh : ∀ k, B.hole k = (!(k == m) && (w0.hole k || decide (w0.w.heap.size ≤ k))) := fun k => by rw [hB]
  have hsz := hS.below.size
  have hs : St B η w := by
    refine ⟨⟨by rw [hBw], by rw [hBw], by rw [hBw], by rw [hBw]; exact Nat.le_refl _, fun k _ _ => by rw [hBw]⟩, hS.blk, fun x hx => .inr ?_, hS.nodup⟩
    have ho := hS.own x hx
    have hne : x.1 ≠ m := fun e => by
      have := hS.blk x hx
      rw [e, hm] at this
      exact absurd this (by simp)
    rw [hBh]
    simp only [Bool.and_eq_true, Bool.not_eq_true', beq_eq_false_iff_ne, Bool.or_eq_true, decide_eq_true_eq]
    exact ⟨hne, ho.symm⟩
  have back : ∀ (X : Heap) w', St B X w' → St w0 X w' := by
    intro X w' hS'
    refine ⟨⟨?_, ?_, ?_, ?_, ?_⟩, hS'.blk, fun x hx => ?_, hS'.nodup⟩
    · rw [hS'.below.os, hBw]; exact hS.below.os
    · rw [hS'.below.tape, hBw]; exact hS.below.tape
    · rw [hS'.below.output, hBw]; exact hS.below.output
    · have h1 := hS'.below.size
      rw [hBw] at h1
      omega
    · intro k hk hh
      rw [hS'.below.block k (by rw [hBw]; omega) (by rw [hBh, hh]; simp; omega), hBw]
      exact hS.below.block k hk hh
    · rcases hS'.own x hx with h1 | h1
      · rw [hBw] at h1
        exact .inl (by omega)
      · rw [hBh] at h1
        simp only [Bool.and_eq_true, Bool.or_eq_true, decide_eq_true_eq] at h1
        exact h1.2.symm
  refine (h B (back η) ?_ w hs).mono ?_
  · intro p v hp
    unfold Base.cell? at hp ⊢
    cases hh : w0.hole p.block with
    | true => simp [hh] at hp
    | false =>
      simp only [hh, cond_false] at hp
      have hlt : p.block < w0.w.heap.size := block_lt_of_cell hp
      have e : B.hole p.block = false := by rw [hBh, hh]; simp; omega
      rw [e, cond_false, hBw, hS.below.cell hlt hh]
      exact hp
  · rintro e w' ⟨v, A', rfl, ⟨H, hR, rfl⟩, hS'⟩
    refine ⟨_, _, rfl, ⟨H, hR, rfl⟩, back _ w' hS', ?_, h0⟩
    rw [hS'.below.block m (by rw [hBw]; exact lt_of_heap hm) (by rw [hBh]; simp), hBw]
    exact hm
end Go.Gx
namespace Go.Proofs.YtjdaglmkljbfkaaGreatDoor
open Go Go.Gx Go.RowKit
set_option maxRecDepth 100000
theorem callsT_H2 {P : Program} {f : FuncId} {vs : List Value} {B : Base} {η : Heap} {A : World → Prop} {R S : Value → Value → Heap → Prop} (h : CallsT P f vs A fun v A' => ∃ rv H, R v rv H ∧ S v rv H ∧ A' = St B (H ++ η)) :
  CallsT P f vs A fun v A' => ∃ H, (∃ rv, R v rv H ∧ S v rv H) ∧ A' = St B (H ++ η) := h.mono fun _ _ ⟨rv, H, hR, hS, he⟩ => ⟨_, ⟨H, ⟨rv, hR, hS⟩, he⟩, fun _ h => h⟩
theorem Sets.up {w0 B : Base} (h : Sets w0) (hB : ∀ p v, w0.cell? p = some v → B.cell? p = some v) : Sets B := fun j v hv => hB _ _ (h j v hv)
theorem edgesUp {w0 B : Base} (h : T12.Edges w0) (hB : ∀ p v, w0.cell? p = some v → B.cell? p = some v) : T12.Edges B := fun j v hv => hB _ _ (h j v hv)
set_option maxHeartbeats 1000000 in
theorem Decode_A (w0 : Base) (η : Heap) (hG : Sets w0) (L : Lay) (hk : okB L = true) (hty : L.ty = 4 ∨ L.ty = 5) (sv : Value) (bs : List Nat) (hs : SlA (St w0 η) sv 1 bs.length (byV bs)) (hb : ∀ c ∈ bs, c < 256) :
    CallsT Tryz.prog 7 [L.val, sv] (St w0 η) fun v A' => ∃ rv H, v = .tuple #[.agg #[rv, nilS], .int .i64 (dcE L bs)] ∧ Frag 77 7 rv (dcO L bs).length (flatR (dcO L bs)) H ∧ A' = St w0 (H ++ η) := by
  have he : errOf L = 0 := by unfold errOf; rw [if_pos hk]
  obtain ⟨j, hj⟩ := ways_A hty
  refine CallsT.body Tryz.func7 rfl rfl ?_
  simp only [Tryz.ntmps7, slotsOf, Nat.reduceAdd]
  refine Qe (Qg ?_)
  refine TL_e rfl rfl rfl (rfl) (ET_box rfl rfl) ?_
  rintro _ _ ⟨b2, rfl, rfl⟩
  refine TL_e rfl rfl rfl (rfl) (ET_alloc rfl KF.zero_34) ?_
  rintro _ _ ⟨b4, rfl, rfl⟩
  refine Qa rfl rfl (Qd rfl rfl rfl) ?_
  refine Qf (Qb (Qe (Qe ?_)))
  refine TC_A (St w0 ((b4, 34, [nilS, nilS]) :: (b2, 27, L.cells) :: η)) (fun _ h => h) ?_
  refine Qg ?_
  refine Qa rfl rfl (Ql 1 rfl rfl Tryz.underlying27 rfl rfl rfl KF.sz_27) ?_
  refine TL_cq rfl rfl rfl rfl KF.cal_26 rfl (fun _ => check_spec w0 _ hG L) ?_
  refine Qa rfl rfl (QT_neq rfl rfl rfl rfl) ?_
  refine Qf (Qb ?_)
  refine TC_cond rfl (fun h => absurd (h.symm.trans ((show decide (errOf L ≠ 0) = false by rw [he]; decide))) (by decide)) (fun _ => ?_)
  refine Qt (Qb (Qe ?_))
  refine TC_draw [(1, 0), (2, 0), (5, 0), (6, 0), (0, 1), (3, 0), (4, 0), (7, 1), (8, 0), (9, 0), (10, 1), (11, 0)] KF.mixed (by kernel_rfl) (St.calm _ _) ?_
  refine Qk rfl rfl rfl (fun _ => Qh rfl rfl KF.fld_27_0 rfl) ?_
  refine Qz rfl rfl rfl (Qj (v := .int .i64 L.ty) 1 rfl rfl Tryz.underlying3 rfl rfl rfl (fun _ => rfl)) ?_
  refine Qz rfl rfl rfl (Ql (cs := L.cells) 1 rfl rfl Tryz.underlying27 rfl rfl rfl KF.sz_27) ?_
  refine Qk rfl rfl rfl (fun _ => Qc rfl rfl rfl) ?_
  refine TV_e rfl rfl rfl rfl (rfl) (ET_call rfl KF.cal_27 rfl (byType_spec w0 _)) ?_
  rintro _ _ ⟨m10, rfl, rfl⟩
  refine ⟨_, .keep (by kernel_rfl) rfl (by first | exact Ql (cs := L.cells) 1 rfl rfl Tryz.underlying27 rfl rfl rfl KF.sz_27 | exact QT_under (Ql (w0 := w0) (η := (b4, 34, [nilS, nilS]) :: (b2, 27, L.cells) :: η) (cs := L.cells) 1 rfl rfl Tryz.underlying27 rfl rfl rfl KF.sz_27) (fun w h => h.1)) (.keep (by kernel_rfl) rfl (by first | exact Qj (v := .int .i64 L.ty) 1 rfl rfl Tryz.underlying3 rfl rfl rfl (fun _ => rfl) | exact QT_under (Qj (w0 := w0) (η := (b4, 34, [nilS, nilS]) :: (b2, 27, L.cells) :: η) (v := .int .i64 L.ty) 1 rfl rfl Tryz.underlying3 rfl rfl rfl (fun _ => rfl)) (fun w h => h.1) | exact QT_under (Qj (w0 := w0) (η := (b4, 34, [nilS, nilS]) :: (b2, 27, L.cells) :: η) (v := .int .i64 L.ty) 1 rfl rfl Tryz.underlying3 rfl rfl rfl (fun _ => rfl)) (fun w h => h.1.app_right)) (.nil)), ?_⟩
  refine Qz rfl rfl rfl ((by exact QT_lookup rfl rfl rfl rfl Tryz.underlying85 Tryz.underlying3 (show MapKept.IsKey (.int .i64) (.int .i64 L.ty) from rfl) hj)) ?_
  refine Qk rfl rfl rfl (fun _ => QT_fieldv rfl rfl Tryz.underlying84 rfl Tryz.underlying37 rfl rfl (fun _ => rfl)) ?_
  refine TV_e rfl rfl rfl rfl (rfl) (ET_goes (Goes.value rfl rfl KF.cal_92 rfl) (callsT_mapH fun B h1 h2 => callsT_H2 (decA_spec B ((b4, 34, [nilS, nilS]) :: (b2, 27, L.cells) :: η) (hG.up h2) L _ bs (hs.mono fun w h => (h1 w h).tail.tail) hb))) ?_
  rintro _ _ ⟨H1, ⟨rv, rfl, hF1⟩, rfl⟩
  refine ⟨_, .keep (by kernel_rfl) rfl (by first | exact (by exact QT_lookup rfl rfl rfl rfl Tryz.underlying85 Tryz.underlying3 (show MapKept.IsKey (.int .i64) (.int .i64 L.ty) from rfl) hj)) (.drop (by kernel_rfl) (.keep (by kernel_rfl) rfl (by first | exact Qj (v := .int .i64 L.ty) 1 rfl rfl Tryz.underlying3 rfl rfl rfl (fun _ => rfl) | exact QT_under (Qj (w0 := w0) (η := (b4, 34, [nilS, nilS]) :: (b2, 27, L.cells) :: η) (v := .int .i64 L.ty) 1 rfl rfl Tryz.underlying3 rfl rfl rfl (fun _ => rfl)) (fun w h => h.1) | exact QT_under (Qj (w0 := w0) (η := (b4, 34, [nilS, nilS]) :: (b2, 27, L.cells) :: η) (v := .int .i64 L.ty) 1 rfl rfl Tryz.underlying3 rfl rfl rfl (fun _ => rfl)) (fun w h => h.1.app_right)) (.nil))), ?_⟩
  refine Qk rfl rfl rfl (fun _ => Qx rfl rfl rfl rfl) ?_
  refine Qk rfl rfl rfl (fun _ => Qx rfl rfl rfl rfl) ?_
  obtain ⟨rad, rcap, rfl, _, _⟩ := hF1.slice
  refine TV_e0 rfl rfl rfl (rfl) (ET_under (ET_storeW (w0 := w0) (η := (b4, 34, [nilS, nilS]) :: (H1 ++ ((b2, 27, L.cells) :: η))) (vs := [.slice rad (dcO L bs).length rcap, nilS]) 0 rfl rfl rfl KF.sz_34 rfl rfl rfl) (fun w h => h.1.cnt fun p => by simp only [List.countP_append, List.countP_cons, List.countP_nil]; omega)) ?_
  rintro _ _ ⟨rfl, rfl⟩
  refine ⟨_, .drop (by kernel_rfl) (.drop (by kernel_rfl) (.nil)), ?_⟩
  refine Qk rfl rfl rfl (fun _ => Qd rfl rfl rfl) ?_
  refine TV_end (Qb ?_)
  refine Qu ?_
  exact Qs (.inl rfl) (resCT 0 rfl rfl rfl Tryz.underlying34 rfl rfl KF.sz_34) ⟨_, ⟨_, H1, rfl, hF1, rfl⟩, fun w h => h.cnt fun p => by simp only [upd, List.countP_append, List.countP_cons, List.countP_nil]; omega⟩
end Go.Proofs.YtjdaglmkljbfkaaGreatDoor
namespace Go.Proofs.YtjdaglmkljbfkaaGreatDoor
open Go Go.Gx Go.RowKit
set_option maxRecDepth 100000
end Go.Proofs.YtjdaglmkljbfkaaGreatDoor
namespace Go.Proofs.YtjdaglmkljbfkaaGreatDoor
open Go Go.Gx Go.RowKit
set_option maxRecDepth 100000
theorem Encode_no (w0 : Base) (η : Heap) (L : Lay) (ra sa : Option Addr) (nr ns rc sc : Nat) (E : Int) (hE0 : E ≠ 0)
  (hmay : ∀ X : Heap, CallsT Tryz.prog 78 [L.val, .agg #[.slice ra nr rc, .slice sa ns sc]] (St w0 X) fun v A' => v = .int .i64 E ∧ A' = St w0 X) :
  CallsT Tryz.prog 15 [L.val, .agg #[.slice ra nr rc, .slice sa ns sc]] (St w0 η) fun v A' => v = .tuple #[nilS, .int .i64 E] ∧ A' = St w0 η := by
 refine CallsT.body Tryz.func15 rfl rfl ?_
 simp only [Tryz.ntmps15, slotsOf, Nat.reduceAdd]
 refine Qe (Qg ?_)
 refine TL_e rfl rfl rfl (rfl) (ET_box rfl rfl) ?_
 rintro _ _ ⟨b2, rfl, rfl⟩
 refine TL_e rfl rfl rfl (rfl) (ET_box rfl rfl) ?_
 rintro _ _ ⟨b3, rfl, rfl⟩
 refine Qa rfl rfl (Qd rfl rfl rfl) ?_
 refine Qa rfl rfl (Qd rfl rfl rfl) ?_
 refine Qf (Qb (Qe (Qe ?_)))
 refine TC_A (St w0 ((b3, 34, [.slice ra nr rc, .slice sa ns sc]) :: (b2, 27, L.cells) :: η)) (fun _ h => h) ?_
 refine Qg ?_
 refine Qa rfl rfl (Ql 1 rfl rfl Tryz.underlying27 rfl rfl rfl KF.sz_27) ?_
 refine Qa rfl rfl (Ql 0 rfl rfl Tryz.underlying34 rfl rfl rfl KF.sz_34) ?_
 refine TL_cq rfl rfl rfl rfl KF.cal_78 rfl (fun _ => hmay _) ?_
 refine Qa rfl rfl (Qd rfl rfl rfl) ?_
 refine Qf (Qb (Qe (Qg ?_)))
 refine Qa rfl rfl (Qc rfl rfl rfl) ?_
 refine Qa rfl rfl (QT_neq rfl rfl rfl rfl) ?_
 refine Qf (Qb ?_)
 refine TC_cond rfl (fun _ => ?_) (fun h => absurd (h.symm.trans ((show decide (E ≠ 0) = true from decide_eq_true hE0))) (by decide))
 refine Qe (Qg ?_)
 refine Qa rfl rfl (Qc rfl rfl rfl) ?_
 refine Qa rfl rfl (Qd rfl rfl rfl) ?_
 refine Qa rfl rfl (Qd rfl rfl rfl) ?_
 refine Qf (Qb ?_)
 refine Qu ?_
 refine Qn ?_
 exact Qs (.inl rfl) (res2 rfl rfl rfl) ⟨_, ⟨rfl, rfl⟩, fun _ h => h.tail.tail⟩
set_option maxHeartbeats 1000000 in
theorem Encode_A (w0 : Base) (η : Heap) (hG : Sets w0) (hE : T12.Edges w0) (L : Lay) (hk : okB L = true) (hty : (L.ty = 4 ∨ L.ty = 5)) (ra sa : Option Addr) (n rc sc : Nat) (rs : List (List Nat)) (hs : SlA (St w0 η) (.slice ra rs.length rc) 7 rs.length (flatR rs)) (hr : ∀ r ∈ rs, RcF r) (hn : rs.length ≤ 100000000) (h0 : n = 0) :
    CallsT Tryz.prog 15 [L.val, .agg #[.slice ra rs.length rc, .slice sa n sc]] (St w0 η) fun v A' => ∃ bv H, v = .tuple #[bv, .int .i64 (ecE L rs)] ∧ Frag 5 1 bv (ecO L rs).length (byV (ecO L rs)) H ∧ A' = St w0 (H ++ η) := by
  obtain ⟨j, hj⟩ := ways_A hty
  have he : (if n = 0 then (0 : Int) else 1) = 0 := if_pos h0
  refine CallsT.body Tryz.func15 rfl rfl ?_
  simp only [Tryz.ntmps15, slotsOf, Nat.reduceAdd]
  refine Qe (Qg ?_)
  refine TL_e rfl rfl rfl (rfl) (ET_box rfl rfl) ?_
  rintro _ _ ⟨b2, rfl, rfl⟩
  refine TL_e rfl rfl rfl (rfl) (ET_box rfl rfl) ?_
  rintro _ _ ⟨b3, rfl, rfl⟩
  refine Qa rfl rfl (Qd rfl rfl rfl) ?_
  refine Qa rfl rfl (Qd rfl rfl rfl) ?_
  refine Qf (Qb (Qe (Qe ?_)))
  refine TC_A (St w0 ((b3, 34, [.slice ra rs.length rc, .slice sa n sc]) :: (b2, 27, L.cells) :: η)) (fun _ h => h) ?_
  refine Qg ?_
  refine Qa rfl rfl (Ql 1 rfl rfl Tryz.underlying27 rfl rfl rfl KF.sz_27) ?_
  refine Qa rfl rfl (Ql 0 rfl rfl Tryz.underlying34 rfl rfl rfl KF.sz_34) ?_
  refine TL_cq rfl rfl rfl rfl KF.cal_78 rfl (fun _ => may_A w0 _ hG L hk hty _ _ _ _ _ _) ?_
  refine Qa rfl rfl (Qd rfl rfl rfl) ?_
  refine Qf (Qb (Qe (Qg ?_)))
  refine Qa rfl rfl (Qc rfl rfl rfl) ?_
  refine Qa rfl rfl (QT_neq rfl rfl rfl rfl) ?_
  refine Qf (Qb ?_)
  refine TC_cond rfl (fun h => absurd (h.symm.trans ((show decide ((if n = 0 then (0 : Int) else 1) ≠ 0) = false by rw [he]; decide))) (by decide)) (fun _ => ?_)
  refine Qt (Qb (Qe ?_))
  refine TC_draw [(1, 0), (2, 0), (5, 0), (6, 0), (0, 1), (3, 0), (4, 0), (7, 1), (8, 0), (9, 0), (10, 0), (11, 0)] KF.mixed (by kernel_rfl) (St.calm _ _) ?_
  refine Qk rfl rfl rfl (fun _ => Qh rfl rfl KF.fld_27_0 rfl) ?_
  refine Qz rfl rfl rfl (Qj (v := .int .i64 L.ty) 1 rfl rfl Tryz.underlying3 rfl rfl rfl (fun _ => rfl)) ?_
  refine Qz rfl rfl rfl (Ql (cs := L.cells) 1 rfl rfl Tryz.underlying27 rfl rfl rfl KF.sz_27) ?_
  refine Qz rfl rfl rfl (Ql (cs := [.slice ra rs.length rc, .slice sa n sc]) 0 rfl rfl Tryz.underlying34 rfl rfl rfl KF.sz_34) ?_
  refine TV_e rfl rfl rfl rfl (rfl) (ET_call rfl KF.cal_27 rfl (byType_spec w0 _)) ?_
  rintro _ _ ⟨m13, rfl, rfl⟩
  refine ⟨_, .keep (by kernel_rfl) rfl (by first | exact Ql (cs := [.slice ra rs.length rc, .slice sa n sc]) 0 rfl rfl Tryz.underlying34 rfl rfl rfl KF.sz_34 | exact QT_under (Ql (w0 := w0) (η := (b3, 34, [.slice ra rs.length rc, .slice sa n sc]) :: (b2, 27, L.cells) :: η) (cs := [.slice ra rs.length rc, .slice sa n sc]) 0 rfl rfl Tryz.underlying34 rfl rfl rfl KF.sz_34) (fun w h => h.1)) (.keep (by kernel_rfl) rfl (by first | exact Ql (cs := L.cells) 1 rfl rfl Tryz.underlying27 rfl rfl rfl KF.sz_27 | exact QT_under (Ql (w0 := w0) (η := (b3, 34, [.slice ra rs.length rc, .slice sa n sc]) :: (b2, 27, L.cells) :: η) (cs := L.cells) 1 rfl rfl Tryz.underlying27 rfl rfl rfl KF.sz_27) (fun w h => h.1)) (.keep (by kernel_rfl) rfl (by first | exact Qj (v := .int .i64 L.ty) 1 rfl rfl Tryz.underlying3 rfl rfl rfl (fun _ => rfl) | exact QT_under (Qj (w0 := w0) (η := (b3, 34, [.slice ra rs.length rc, .slice sa n sc]) :: (b2, 27, L.cells) :: η) (v := .int .i64 L.ty) 1 rfl rfl Tryz.underlying3 rfl rfl rfl (fun _ => rfl)) (fun w h => h.1) | exact QT_under (Qj (w0 := w0) (η := (b3, 34, [.slice ra rs.length rc, .slice sa n sc]) :: (b2, 27, L.cells) :: η) (v := .int .i64 L.ty) 1 rfl rfl Tryz.underlying3 rfl rfl rfl (fun _ => rfl)) (fun w h => h.1.app_right)) (.nil))), ?_⟩
  refine Qz rfl rfl rfl ((by exact QT_lookup rfl rfl rfl rfl Tryz.underlying85 Tryz.underlying3 (show MapKept.IsKey (.int .i64) (.int .i64 L.ty) from rfl) hj)) ?_
  refine Qk rfl rfl rfl (fun _ => QT_fieldv rfl rfl Tryz.underlying84 rfl Tryz.underlying60 rfl rfl (fun _ => rfl)) ?_
  refine TV_e rfl rfl rfl rfl (rfl) (ET_goes (Goes.value rfl rfl KF.cal_95 rfl) (callsT_mapH fun B h1 h2 => callsT_H2 (encA_spec B ((b3, 34, [.slice ra rs.length rc, .slice sa n sc]) :: (b2, 27, L.cells) :: η) (hG.up h2) L _ _ _ _ _ rs (hs.mono fun w h => (h1 w h).tail.tail) hr hn))) ?_
  rintro _ _ ⟨H1, ⟨bv, rfl, hF1⟩, rfl⟩
  refine ⟨_, .keep (by kernel_rfl) rfl (by first | exact (by exact QT_lookup rfl rfl rfl rfl Tryz.underlying85 Tryz.underlying3 (show MapKept.IsKey (.int .i64) (.int .i64 L.ty) from rfl) hj)) (.drop (by kernel_rfl) (.drop (by kernel_rfl) (.keep (by kernel_rfl) rfl (by first | exact Qj (v := .int .i64 L.ty) 1 rfl rfl Tryz.underlying3 rfl rfl rfl (fun _ => rfl) | exact QT_under (Qj (w0 := w0) (η := (b3, 34, [.slice ra rs.length rc, .slice sa n sc]) :: (b2, 27, L.cells) :: η) (v := .int .i64 L.ty) 1 rfl rfl Tryz.underlying3 rfl rfl rfl (fun _ => rfl)) (fun w h => h.1) | exact QT_under (Qj (w0 := w0) (η := (b3, 34, [.slice ra rs.length rc, .slice sa n sc]) :: (b2, 27, L.cells) :: η) (v := .int .i64 L.ty) 1 rfl rfl Tryz.underlying3 rfl rfl rfl (fun _ => rfl)) (fun w h => h.1.app_right)) (.nil)))), ?_⟩
  refine Qk rfl rfl rfl (fun _ => Qx rfl rfl rfl rfl) ?_
  refine Qk rfl rfl rfl (fun _ => Qx rfl rfl rfl rfl) ?_
  refine Qk rfl rfl rfl (fun _ => Qd rfl rfl rfl) ?_
  refine Qk rfl rfl rfl (fun _ => Qd rfl rfl rfl) ?_
  refine TV_end (Qb ?_)
  refine Qu ?_
  exact Qs (.inl rfl) (res2 rfl rfl rfl) ⟨_, ⟨_, H1, rfl, hF1, rfl⟩, fun w h => h.1.cnt fun p => by simp only [List.countP_append, List.countP_cons, List.countP_nil]; omega⟩
set_option maxHeartbeats 1000000 in
theorem Encode_B (w0 : Base) (η : Heap) (hG : Sets w0) (hE : T12.Edges w0) (L : Lay) (hk : okB L = true) (hty : (L.ty = 6 ∨ L.ty = 7)) (ra sa : Option Addr) (n rc sc : Nat) (rs : List (List Nat)) (hs : SlA (St w0 η) (.slice sa rs.length sc) 49 rs.length (flatS rs)) (hr : ∀ r ∈ rs, ShF r) (hn : rs.length ≤ 1000000) (h0 : n = 0) :
    CallsT Tryz.prog 15 [L.val, .agg #[.slice ra n rc, .slice sa rs.length sc]] (St w0 η) fun v A' => ∃ bv H, v = .tuple #[bv, .int .i64 (esE L rs)] ∧ Frag 5 1 bv (esO L rs).length (byV (esO L rs)) H ∧ A' = St w0 (H ++ η) := by
  obtain ⟨j, hj⟩ := ways_B hty
  have he : (if n = 0 then (0 : Int) else 1) = 0 := if_pos h0
  refine CallsT.body Tryz.func15 rfl rfl ?_
  simp only [Tryz.ntmps15, slotsOf, Nat.reduceAdd]
  refine Qe (Qg ?_)
  refine TL_e rfl rfl rfl (rfl) (ET_box rfl rfl) ?_
  rintro _ _ ⟨b2, rfl, rfl⟩
  refine TL_e rfl rfl rfl (rfl) (ET_box rfl rfl) ?_
  rintro _ _ ⟨b3, rfl, rfl⟩
  refine Qa rfl rfl (Qd rfl rfl rfl) ?_
  refine Qa rfl rfl (Qd rfl rfl rfl) ?_
  refine Qf (Qb (Qe (Qe ?_)))
  refine TC_A (St w0 ((b3, 34, [.slice ra n rc, .slice sa rs.length sc]) :: (b2, 27, L.cells) :: η)) (fun _ h => h) ?_
  refine Qg ?_
  refine Qa rfl rfl (Ql 1 rfl rfl Tryz.underlying27 rfl rfl rfl KF.sz_27) ?_
  refine Qa rfl rfl (Ql 0 rfl rfl Tryz.underlying34 rfl rfl rfl KF.sz_34) ?_
  refine TL_cq rfl rfl rfl rfl KF.cal_78 rfl (fun _ => may_B w0 _ hG L hk hty _ _ _ _ _ _) ?_
  refine Qa rfl rfl (Qd rfl rfl rfl) ?_
  refine Qf (Qb (Qe (Qg ?_)))
  refine Qa rfl rfl (Qc rfl rfl rfl) ?_
  refine Qa rfl rfl (QT_neq rfl rfl rfl rfl) ?_
  refine Qf (Qb ?_)
  refine TC_cond rfl (fun h => absurd (h.symm.trans ((show decide ((if n = 0 then (0 : Int) else 1) ≠ 0) = false by rw [he]; decide))) (by decide)) (fun _ => ?_)
  refine Qt (Qb (Qe ?_))
  refine TC_draw [(1, 0), (2, 0), (5, 0), (6, 0), (0, 1), (3, 0), (4, 0), (7, 1), (8, 0), (9, 0), (10, 0), (11, 0)] KF.mixed (by kernel_rfl) (St.calm _ _) ?_
  refine Qk rfl rfl rfl (fun _ => Qh rfl rfl KF.fld_27_0 rfl) ?_
  refine Qz rfl rfl rfl (Qj (v := .int .i64 L.ty) 1 rfl rfl Tryz.underlying3 rfl rfl rfl (fun _ => rfl)) ?_
  refine Qz rfl rfl rfl (Ql (cs := L.cells) 1 rfl rfl Tryz.underlying27 rfl rfl rfl KF.sz_27) ?_
  refine Qz rfl rfl rfl (Ql (cs := [.slice ra n rc, .slice sa rs.length sc]) 0 rfl rfl Tryz.underlying34 rfl rfl rfl KF.sz_34) ?_
  refine TV_e rfl rfl rfl rfl (rfl) (ET_call rfl KF.cal_27 rfl (byType_spec w0 _)) ?_
  rintro _ _ ⟨m13, rfl, rfl⟩
  refine ⟨_, .keep (by kernel_rfl) rfl (by first | exact Ql (cs := [.slice ra n rc, .slice sa rs.length sc]) 0 rfl rfl Tryz.underlying34 rfl rfl rfl KF.sz_34 | exact QT_under (Ql (w0 := w0) (η := (b3, 34, [.slice ra n rc, .slice sa rs.length sc]) :: (b2, 27, L.cells) :: η) (cs := [.slice ra n rc, .slice sa rs.length sc]) 0 rfl rfl Tryz.underlying34 rfl rfl rfl KF.sz_34) (fun w h => h.1)) (.keep (by kernel_rfl) rfl (by first | exact Ql (cs := L.cells) 1 rfl rfl Tryz.underlying27 rfl rfl rfl KF.sz_27 | exact QT_under (Ql (w0 := w0) (η := (b3, 34, [.slice ra n rc, .slice sa rs.length sc]) :: (b2, 27, L.cells) :: η) (cs := L.cells) 1 rfl rfl Tryz.underlying27 rfl rfl rfl KF.sz_27) (fun w h => h.1)) (.keep (by kernel_rfl) rfl (by first | exact Qj (v := .int .i64 L.ty) 1 rfl rfl Tryz.underlying3 rfl rfl rfl (fun _ => rfl) | exact QT_under (Qj (w0 := w0) (η := (b3, 34, [.slice ra n rc, .slice sa rs.length sc]) :: (b2, 27, L.cells) :: η) (v := .int .i64 L.ty) 1 rfl rfl Tryz.underlying3 rfl rfl rfl (fun _ => rfl)) (fun w h => h.1) | exact QT_under (Qj (w0 := w0) (η := (b3, 34, [.slice ra n rc, .slice sa rs.length sc]) :: (b2, 27, L.cells) :: η) (v := .int .i64 L.ty) 1 rfl rfl Tryz.underlying3 rfl rfl rfl (fun _ => rfl)) (fun w h => h.1.app_right)) (.nil))), ?_⟩
  refine Qz rfl rfl rfl ((by exact QT_lookup rfl rfl rfl rfl Tryz.underlying85 Tryz.underlying3 (show MapKept.IsKey (.int .i64) (.int .i64 L.ty) from rfl) hj)) ?_
  refine Qk rfl rfl rfl (fun _ => QT_fieldv rfl rfl Tryz.underlying84 rfl Tryz.underlying60 rfl rfl (fun _ => rfl)) ?_
  refine TV_e rfl rfl rfl rfl (rfl) (ET_goes (Goes.value rfl rfl KF.cal_101 rfl) (callsT_mapH fun B h1 h2 => callsT_H2 (encB_spec B ((b3, 34, [.slice ra n rc, .slice sa rs.length sc]) :: (b2, 27, L.cells) :: η) (hG.up h2) (edgesUp hE h2) L _ _ _ _ _ rs (hs.mono fun w h => (h1 w h).tail.tail) hr hn))) ?_
  rintro _ _ ⟨H1, ⟨bv, rfl, hF1⟩, rfl⟩
  refine ⟨_, .keep (by kernel_rfl) rfl (by first | exact (by exact QT_lookup rfl rfl rfl rfl Tryz.underlying85 Tryz.underlying3 (show MapKept.IsKey (.int .i64) (.int .i64 L.ty) from rfl) hj)) (.drop (by kernel_rfl) (.drop (by kernel_rfl) (.keep (by kernel_rfl) rfl (by first | exact Qj (v := .int .i64 L.ty) 1 rfl rfl Tryz.underlying3 rfl rfl rfl (fun _ => rfl) | exact QT_under (Qj (w0 := w0) (η := (b3, 34, [.slice ra n rc, .slice sa rs.length sc]) :: (b2, 27, L.cells) :: η) (v := .int .i64 L.ty) 1 rfl rfl Tryz.underlying3 rfl rfl rfl (fun _ => rfl)) (fun w h => h.1) | exact QT_under (Qj (w0 := w0) (η := (b3, 34, [.slice ra n rc, .slice sa rs.length sc]) :: (b2, 27, L.cells) :: η) (v := .int .i64 L.ty) 1 rfl rfl Tryz.underlying3 rfl rfl rfl (fun _ => rfl)) (fun w h => h.1.app_right)) (.nil)))), ?_⟩
  refine Qk rfl rfl rfl (fun _ => Qx rfl rfl rfl rfl) ?_
  refine Qk rfl rfl rfl (fun _ => Qx rfl rfl rfl rfl) ?_
  refine Qk rfl rfl rfl (fun _ => Qd rfl rfl rfl) ?_
  refine Qk rfl rfl rfl (fun _ => Qd rfl rfl rfl) ?_
  refine TV_end (Qb ?_)
  refine Qu ?_
  exact Qs (.inl rfl) (res2 rfl rfl rfl) ⟨_, ⟨_, H1, rfl, hF1, rfl⟩, fun w h => h.1.cnt fun p => by simp only [List.countP_append, List.countP_cons, List.countP_nil]; omega⟩
end Go.Proofs.YtjdaglmkljbfkaaGreatDoor
namespace Go.Gx
open Go Go.RowKit
variable {P : Program} {n : Nat} {σ : Slots} {A : World → Prop} {v : Value}
theorem res3 {fn : Func} {t u s : Nat} {x y : Value} (hr : fn.results = #[.tmp t, .tmp u, .tmp s]) (hv : look σ t = some (true, v)) (hx : look σ u = some (true, x)) (hy : look σ s = some (true, y)) : ∀ a w, Fr n σ a → A w → (results fn a.tmps).run P w = .ok (.tuple #[v, x, y]) w := by
 intro a w hf hA
 have h1 := hf.known t true _ hv
 have h2 := hf.known u true _ hx
 have h3 := hf.known s true _ hy
 simp only [cond_true] at h1 h2 h3
 have h1' : a.tmps[t]?.getD undef = v := by simpa using h1
 have h2' : a.tmps[u]?.getD undef = x := by simpa using h2
 have h3' : a.tmps[s]?.getD undef = y := by simpa using h3
 simp [results, hr, h1', h2', h3']
end Go.Gx
namespace Go.Proofs.YtjdaglmkljbfkaaGreatDoor
open Go Go.Gx Go.RowKit
set_option maxRecDepth 100000
/-- is a mesh of a layout's kind? -/
def kiE (L : Lay) (nr ns : Nat) : Int := if okB L = true then (if L.ty ≤ 5 then (if ns = 0 then 0 else 1) else if nr = 0 then 0 else 1) else 4
theorem may_all (w0 : Base) (hG : Sets w0) (L : Lay) (ra sa : Option Addr) (nr ns rc sc : Nat) (η : Heap) :
    CallsT Tryz.prog 78 [L.val, .agg #[.slice ra nr rc, .slice sa ns sc]] (St w0 η) fun v A' => v = .int .i64 (kiE L nr ns) ∧ A' = St w0 η := by
  unfold kiE
  by_cases hk : okB L = true
  · have h4 := (okB_bounds hk).2.2.2.1
    rw [if_pos hk]
    by_cases h5 : L.ty ≤ 5
    · rw [if_pos h5]
      exact may_A w0 η hG L hk (by omega) ra sa nr ns rc sc
    · rw [if_neg h5]
      exact may_B w0 η hG L hk (by omega) ra sa nr ns rc sc
  · rw [if_neg hk]
    exact may_bad w0 η hG L (by simpa using hk) ra sa nr ns rc sc
/-- bytes of a mesh -/
def emE (L : Lay) (rs ss : List (List Nat)) : Int := if kiE L rs.length ss.length = 0 then (if L.ty ≤ 5 then ecE L rs else esE L ss) else kiE L rs.length ss.length
def emO (L : Lay) (rs ss : List (List Nat)) : List Nat := if kiE L rs.length ss.length = 0 then (if L.ty ≤ 5 then ecO L rs else esO L ss) else []
theorem kiE_A {L : Lay} {nr ns : Nat} (h : kiE L nr ns = 0) (h5 : L.ty ≤ 5) : okB L = true ∧ ns = 0 := by
  unfold kiE at h
  by_cases hk : okB L = true
  · rw [if_pos hk, if_pos h5] at h
    exact ⟨hk, by by_cases h1 : ns = 0; exact h1; rw [if_neg h1] at h; cases h⟩
  · rw [if_neg hk] at h
    cases h
theorem kiE_B {L : Lay} {nr ns : Nat} (h : kiE L nr ns = 0) (h5 : ¬L.ty ≤ 5) : okB L = true ∧ nr = 0 := by
  unfold kiE at h
  by_cases hk : okB L = true
  · rw [if_pos hk, if_neg h5] at h
    exact ⟨hk, by by_cases h1 : nr = 0; exact h1; rw [if_neg h1] at h; cases h⟩
  · rw [if_neg hk] at h
    cases h
theorem slval {A : World → Prop} {v : Value} {s n : Nat} {xs : List Value} (h : SlA A v s n xs) : ∃ ad cap, v = .slice ad n cap := by
 obtain ⟨_, ad, cap, rfl, _⟩ := h
 exact ⟨ad, cap, rfl⟩
theorem Encode_spec (w0 : Base) (η : Heap) (hG : Sets w0) (hE : T12.Edges w0) (L : Lay) (rv tv : Value) (rs ss : List (List Nat)) (hs : SlA (St w0 η) rv 7 rs.length (flatR rs)) (ht : SlA (St w0 η) tv 49 ss.length (flatS ss)) (hr : ∀ r ∈ rs, RcF r) (hq : ∀ r ∈ ss, ShF r) (hn : rs.length ≤ 1000000) (hm : ss.length ≤ 1000000) :
    CallsT Tryz.prog 15 [L.val, .agg #[rv, tv]] (St w0 η) fun v A' => ∃ bv H, v = .tuple #[bv, .int .i64 (emE L rs ss)] ∧ Frag 5 1 bv (emO L rs ss).length (byV (emO L rs ss)) H ∧ A' = St w0 (H ++ η) := by
  obtain ⟨ra, rc, rfl⟩ := slval hs
  obtain ⟨sa, sc, rfl⟩ := slval ht
  by_cases h0 : kiE L rs.length ss.length = 0
  · by_cases h5 : L.ty ≤ 5
    · obtain ⟨hk, hz⟩ := kiE_A h0 h5
      have h4 := (okB_bounds hk).2.2.2.1
      have e1 : emE L rs ss = ecE L rs := by unfold emE; rw [if_pos h0, if_pos h5]
      have e2 : emO L rs ss = ecO L rs := by unfold emO; rw [if_pos h0, if_pos h5]
      rw [e1, e2]
      exact Encode_A w0 η hG hE L hk (by omega) ra sa _ rc sc rs hs hr (by omega) hz
    · obtain ⟨hk, hz⟩ := kiE_B h0 h5
      have h4 := (okB_bounds hk).2.2.2.1
      have e1 : emE L rs ss = esE L ss := by unfold emE; rw [if_pos h0, if_neg h5]
      have e2 : emO L rs ss = esO L ss := by unfold emO; rw [if_pos h0, if_neg h5]
      rw [e1, e2]
      exact Encode_B w0 η hG hE L hk (by omega) ra sa _ rc sc ss ht hq (by omega) hz
  · have e1 : emE L rs ss = kiE L rs.length ss.length := by unfold emE; rw [if_neg h0]
    have e2 : emO L rs ss = [] := by unfold emO; rw [if_neg h0]
    refine (Encode_no w0 η L ra sa _ _ rc sc _ h0 (may_all w0 hG L ra sa _ _ rc sc)).mono ?_
    rintro _ _ ⟨rfl, rfl⟩
    exact ⟨_, ⟨nilS, [], by rw [e1], by rw [e2]; exact Frag.nil _ _, rfl⟩, fun _ h => h⟩
theorem Faces_no (w0 : Base) (η : Heap) (L : Lay) (ra sa : Option Addr) (nr ns rc sc : Nat) (E : Int) (hE0 : E ≠ 0)
  (hmay : ∀ X : Heap, CallsT Tryz.prog 78 [L.val, .agg #[.slice ra nr rc, .slice sa ns sc]] (St w0 X) fun v A' => v = .int .i64 E ∧ A' = St w0 X) :
  CallsT Tryz.prog 17 [L.val, .agg #[.slice ra nr rc, .slice sa ns sc]] (St w0 η) fun v A' => v = .tuple #[nilS, nilS, .int .i64 E] ∧ A' = St w0 η := by
 refine CallsT.body Tryz.func17 rfl rfl ?_
 simp only [Tryz.ntmps17, slotsOf, Nat.reduceAdd]
 refine Qe (Qg ?_)
 refine TL_e rfl rfl rfl (rfl) (ET_box rfl rfl) ?_
 rintro _ _ ⟨b2, rfl, rfl⟩
 refine TL_e rfl rfl rfl (rfl) (ET_box rfl rfl) ?_
 rintro _ _ ⟨b3, rfl, rfl⟩
 refine Qa rfl rfl (Qd rfl rfl rfl) ?_
 refine Qa rfl rfl (Qd rfl rfl rfl) ?_
 refine Qa rfl rfl (Qd rfl rfl rfl) ?_
 refine Qf (Qb (Qe (Qe ?_)))
 refine TC_A (St w0 ((b3, 34, [.slice ra nr rc, .slice sa ns sc]) :: (b2, 27, L.cells) :: η)) (fun _ h => h) ?_
 refine Qg ?_
 refine Qa rfl rfl (Ql 1 rfl rfl Tryz.underlying27 rfl rfl rfl KF.sz_27) ?_
 refine Qa rfl rfl (Ql 0 rfl rfl Tryz.underlying34 rfl rfl rfl KF.sz_34) ?_
 refine TL_cq rfl rfl rfl rfl KF.cal_78 rfl (fun _ => hmay _) ?_
 refine Qa rfl rfl (Qd rfl rfl rfl) ?_
 refine Qf (Qb (Qe (Qg ?_)))
 refine Qa rfl rfl (Qc rfl rfl rfl) ?_
 refine Qa rfl rfl (QT_neq rfl rfl rfl rfl) ?_
 refine Qf (Qb ?_)
 refine TC_cond rfl (fun _ => ?_) (fun h => absurd (h.symm.trans ((show decide (E ≠ 0) = true from decide_eq_true hE0))) (by decide))
 refine Qe (Qg ?_)
 refine Qa rfl rfl (Qc rfl rfl rfl) ?_
 refine Qa rfl rfl (Qd rfl rfl rfl) ?_
 refine Qa rfl rfl (Qd rfl rfl rfl) ?_
 refine Qa rfl rfl (Qd rfl rfl rfl) ?_
 refine Qf (Qb ?_)
 refine Qu ?_
 refine Qn ?_
 exact Qs (.inl rfl) (res3 rfl rfl rfl rfl) ⟨_, ⟨rfl, rfl⟩, fun _ h => h.tail.tail⟩
set_option maxHeartbeats 1000000 in
theorem Faces_A (w0 : Base) (η : Heap) (hG : Sets w0) (L : Lay) (h5 : L.ty ≤ 5) (ra sa : Option Addr) (n rc sc : Nat) (rs : List (List Nat)) (hs : SlA (St w0 η) (.slice ra rs.length rc) 7 rs.length (flatR rs)) (hr : ∀ r ∈ rs, RcF r) (hn : rs.length ≤ 1000000) (h0 : kiE L rs.length n = 0) :
    CallsT Tryz.prog 17 [L.val, .agg #[.slice ra rs.length rc, .slice sa n sc]] (St w0 η) fun v A' => ∃ pv H, v = .tuple #[pv, nilS, .int .i64 (trioF L (rs.map rvV)).2] ∧ Frag 79 21 pv (trioF L (rs.map rvV)).1.length (trioF L (rs.map rvV)).1.flatten H ∧ ∃ X, A' = St w0 (H ++ (X ++ η)) := by
  have hs2 : SlA (St w0 η) (.slice ra rs.length rc) 7 (rs.map rvV).length (rs.map rvV).flatten := by rw [List.length_map]; exact hs
  refine CallsT.body Tryz.func17 rfl rfl ?_
  simp only [Tryz.ntmps17, slotsOf, Nat.reduceAdd]
  refine Qe (Qg ?_)
  refine TL_e rfl rfl rfl (rfl) (ET_box rfl rfl) ?_
  rintro _ _ ⟨b2, rfl, rfl⟩
  refine TL_e rfl rfl rfl (rfl) (ET_box rfl rfl) ?_
  rintro _ _ ⟨b3, rfl, rfl⟩
  refine Qa rfl rfl (Qd rfl rfl rfl) ?_
  refine Qa rfl rfl (Qd rfl rfl rfl) ?_
  refine Qa rfl rfl (Qd rfl rfl rfl) ?_
  refine Qf (Qb (Qe (Qe ?_)))
  refine TC_A (St w0 ((b3, 34, [.slice ra rs.length rc, .slice sa n sc]) :: (b2, 27, L.cells) :: η)) (fun _ h => h) ?_
  refine Qg ?_
  refine Qa rfl rfl (Ql 1 rfl rfl Tryz.underlying27 rfl rfl rfl KF.sz_27) ?_
  refine Qa rfl rfl (Ql 0 rfl rfl Tryz.underlying34 rfl rfl rfl KF.sz_34) ?_
  refine TL_cq rfl rfl rfl rfl KF.cal_78 rfl (fun _ => may_all w0 hG L ra sa _ _ rc sc _) ?_
  refine Qa rfl rfl (Qd rfl rfl rfl) ?_
  refine Qf (Qb (Qe (Qg ?_)))
  refine Qa rfl rfl (Qc rfl rfl rfl) ?_
  refine Qa rfl rfl (QT_neq rfl rfl rfl rfl) ?_
  refine Qf (Qb ?_)
  refine TC_cond rfl (fun h => absurd (h.symm.trans ((show decide (kiE L rs.length n ≠ 0) = false by rw [h0]; decide))) (by decide)) (fun _ => ?_)
  refine Qt (Qb (Qe (Qe (Qg ?_))))
  refine Qa rfl rfl (Qh rfl rfl KF.fld_27_0 rfl) ?_
  refine Qa rfl rfl (Qj 1 rfl rfl Tryz.underlying3 rfl rfl rfl (fun _ => rfl)) ?_
  refine Qa rfl rfl (QT_lss rfl rfl rfl rfl) ?_
  refine Qf (Qb ?_)
  refine TC_cond rfl (fun _ => ?_) (fun h => absurd (h.symm.trans ((show decide (L.ty < 6) = true from decide_eq_true (by omega)))) (by decide))
  refine Qe (Qg ?_)
  refine Qa rfl rfl (Ql 1 rfl rfl Tryz.underlying27 rfl rfl rfl KF.sz_27) ?_
  refine Qa rfl rfl (Qh rfl rfl KF.fld_34_0 rfl) ?_
  refine Qa rfl rfl (Qj 0 rfl rfl Tryz.underlying31 rfl rfl rfl (fun _ => rfl)) ?_
  refine TL_e rfl rfl rfl (rfl) (ET_call rfl KF.cal_81 rfl (of_spec w0 _ hG L _ (rs.map rvV) (hs2.mono fun _ h => h.tail.tail) (all7R hr) (by rw [List.length_map]; omega))) ?_
  rintro _ _ ⟨pv, H1, rfl, hF1, X, rfl⟩
  refine Qa rfl rfl (Qc rfl rfl rfl) ?_
  refine Qa rfl rfl (Qx rfl rfl rfl rfl) ?_
  refine Qa rfl rfl (Qx rfl rfl rfl rfl) ?_
  refine Qa rfl rfl (Qd rfl rfl rfl) ?_
  refine Qa rfl rfl (Qd rfl rfl rfl) ?_
  refine Qf (Qb (Qe (Qg ?_)))
  refine Qa rfl rfl (Qc rfl rfl rfl) ?_
  refine Qa rfl rfl (Qc rfl rfl rfl) ?_
  refine Qa rfl rfl (Qd rfl rfl rfl) ?_
  refine Qa rfl rfl (Qd rfl rfl rfl) ?_
  refine Qa rfl rfl (Qd rfl rfl rfl) ?_
  refine Qf (Qb ?_)
  refine Qu ?_
  refine Qn ?_
  exact Qs (.inl rfl) (res3 rfl rfl rfl rfl) ⟨_, ⟨pv, H1, rfl, hF1, X, rfl⟩, fun w h => h.cnt fun p => by simp only [List.countP_append, List.countP_cons, List.countP_nil]; omega⟩
set_option maxHeartbeats 1000000 in
theorem Faces_B (w0 : Base) (η : Heap) (hG : Sets w0) (hE : T12.Edges w0) (L : Lay) (h5 : ¬L.ty ≤ 5) (ra sa : Option Addr) (n rc sc : Nat) (rs : List (List Nat)) (hs : SlA (St w0 η) (.slice sa rs.length sc) 49 rs.length (flatS rs)) (hr : ∀ r ∈ rs, ShF r) (hn : rs.length ≤ 1000000) (h0 : kiE L n rs.length = 0) :
    CallsT Tryz.prog 17 [L.val, .agg #[.slice ra n rc, .slice sa rs.length sc]] (St w0 η) fun v A' => ∃ pv H, v = .tuple #[nilS, pv, .int .i64 (T12.errT L rs.length (flatS rs))] ∧ Frag 112 48 pv (T12.cntT L rs.length (flatS rs)) (T12.outT L rs.length (flatS rs)) H ∧ A' = St w0 (H ++ η) := by
  refine CallsT.body Tryz.func17 rfl rfl ?_
  simp only [Tryz.ntmps17, slotsOf, Nat.reduceAdd]
  refine Qe (Qg ?_)
  refine TL_e rfl rfl rfl (rfl) (ET_box rfl rfl) ?_
  rintro _ _ ⟨b2, rfl, rfl⟩
  refine TL_e rfl rfl rfl (rfl) (ET_box rfl rfl) ?_
  rintro _ _ ⟨b3, rfl, rfl⟩
  refine Qa rfl rfl (Qd rfl rfl rfl) ?_
  refine Qa rfl rfl (Qd rfl rfl rfl) ?_
  refine Qa rfl rfl (Qd rfl rfl rfl) ?_
  refine Qf (Qb (Qe (Qe ?_)))
  refine TC_A (St w0 ((b3, 34, [.slice ra n rc, .slice sa rs.length sc]) :: (b2, 27, L.cells) :: η)) (fun _ h => h) ?_
  refine Qg ?_
  refine Qa rfl rfl (Ql 1 rfl rfl Tryz.underlying27 rfl rfl rfl KF.sz_27) ?_
  refine Qa rfl rfl (Ql 0 rfl rfl Tryz.underlying34 rfl rfl rfl KF.sz_34) ?_
  refine TL_cq rfl rfl rfl rfl KF.cal_78 rfl (fun _ => may_all w0 hG L ra sa _ _ rc sc _) ?_
  refine Qa rfl rfl (Qd rfl rfl rfl) ?_
  refine Qf (Qb (Qe (Qg ?_)))
  refine Qa rfl rfl (Qc rfl rfl rfl) ?_
  refine Qa rfl rfl (QT_neq rfl rfl rfl rfl) ?_
  refine Qf (Qb ?_)
  refine TC_cond rfl (fun h => absurd (h.symm.trans ((show decide (kiE L n rs.length ≠ 0) = false by rw [h0]; decide))) (by decide)) (fun _ => ?_)
  refine Qt (Qb (Qe (Qe (Qg ?_))))
  refine Qa rfl rfl (Qh rfl rfl KF.fld_27_0 rfl) ?_
  refine Qa rfl rfl (Qj 1 rfl rfl Tryz.underlying3 rfl rfl rfl (fun _ => rfl)) ?_
  refine Qa rfl rfl (QT_lss rfl rfl rfl rfl) ?_
  refine Qf (Qb ?_)
  refine TC_cond rfl (fun h => absurd (h.symm.trans ((show decide (L.ty < 6) = false from decide_eq_false (by omega)))) (by decide)) (fun _ => ?_)
  refine Qt (Qb (Qe (Qg ?_)))
  refine Qa rfl rfl (Ql 1 rfl rfl Tryz.underlying27 rfl rfl rfl KF.sz_27) ?_
  refine Qa rfl rfl (Qh rfl rfl KF.fld_34_1 rfl) ?_
  refine Qa rfl rfl (Qj 0 rfl rfl Tryz.underlying32 rfl rfl rfl (fun _ => rfl)) ?_
  refine TL_e rfl rfl rfl (rfl) (ET_call rfl KF.cal_82 rfl (T12.of_spec w0 _ hG hE L _ _ (flatS rs) (hs.mono fun _ h => h.tail.tail) (flatS_ints hr) (by omega))) ?_
  rintro _ _ ⟨pv, H1, rfl, hF1, rfl⟩
  refine Qa rfl rfl (Qc rfl rfl rfl) ?_
  refine Qa rfl rfl (Qx rfl rfl rfl rfl) ?_
  refine Qa rfl rfl (Qx rfl rfl rfl rfl) ?_
  refine Qa rfl rfl (Qd rfl rfl rfl) ?_
  refine Qa rfl rfl (Qd rfl rfl rfl) ?_
  refine Qf (Qb (Qe (Qg ?_)))
  refine Qa rfl rfl (Qc rfl rfl rfl) ?_
  refine Qa rfl rfl (Qc rfl rfl rfl) ?_
  refine Qa rfl rfl (Qd rfl rfl rfl) ?_
  refine Qa rfl rfl (Qd rfl rfl rfl) ?_
  refine Qa rfl rfl (Qd rfl rfl rfl) ?_
  refine Qf (Qb ?_)
  refine Qu ?_
  exact Qs (.inl rfl) (res3 rfl rfl rfl rfl) ⟨_, ⟨pv, H1, rfl, hF1, rfl⟩, fun w h => h.cnt fun p => by simp only [List.countP_append, List.countP_cons, List.countP_nil]; omega⟩
/-- the faces of a mesh: the refusal, the triangles, the patches -/
def faE (L : Lay) (rs ss : List (List Nat)) : Int := if kiE L rs.length ss.length = 0 then (if L.ty ≤ 5 then (trioF L (rs.map rvV)).2 else T12.errT L ss.length (flatS ss)) else kiE L rs.length ss.length
def faT (L : Lay) (rs ss : List (List Nat)) : List (List Value) := if kiE L rs.length ss.length = 0 ∧ L.ty ≤ 5 then (trioF L (rs.map rvV)).1 else []
def faN (L : Lay) (rs ss : List (List Nat)) : Nat := if kiE L rs.length ss.length = 0 ∧ ¬L.ty ≤ 5 then T12.cntT L ss.length (flatS ss) else 0
def faP (L : Lay) (rs ss : List (List Nat)) : List Value := if kiE L rs.length ss.length = 0 ∧ ¬L.ty ≤ 5 then T12.outT L ss.length (flatS ss) else []
theorem Faces_spec (w0 : Base) (η : Heap) (hG : Sets w0) (hE : T12.Edges w0) (L : Lay) (rv tv : Value) (rs ss : List (List Nat)) (hs : SlA (St w0 η) rv 7 rs.length (flatR rs)) (ht : SlA (St w0 η) tv 49 ss.length (flatS ss)) (hr : ∀ r ∈ rs, RcF r) (hq : ∀ r ∈ ss, ShF r) (hn : rs.length ≤ 1000000) (hm : ss.length ≤ 1000000) :
    CallsT Tryz.prog 17 [L.val, .agg #[rv, tv]] (St w0 η) fun v A' => ∃ pv H qv H', v = .tuple #[pv, qv, .int .i64 (faE L rs ss)] ∧ Frag 79 21 pv (faT L rs ss).length (faT L rs ss).flatten H ∧ Frag 112 48 qv (faN L rs ss) (faP L rs ss) H' ∧ ∃ X, A' = St w0 (H ++ (H' ++ (X ++ η))) := by
  obtain ⟨ra, rc, rfl⟩ := slval hs
  obtain ⟨sa, sc, rfl⟩ := slval ht
  by_cases h0 : kiE L rs.length ss.length = 0
  · by_cases h5 : L.ty ≤ 5
    · have e1 : faE L rs ss = (trioF L (rs.map rvV)).2 := by unfold faE; rw [if_pos h0, if_pos h5]
      have e2 : faT L rs ss = (trioF L (rs.map rvV)).1 := by unfold faT; rw [if_pos ⟨h0, h5⟩]
      have e3 : faN L rs ss = 0 := by unfold faN; rw [if_neg fun h => h.2 h5]
      have e4 : faP L rs ss = [] := by unfold faP; rw [if_neg fun h => h.2 h5]
      refine (Faces_A w0 η hG L h5 ra sa _ rc sc rs hs hr hn h0).mono ?_
      rintro _ _ ⟨pv, H, rfl, hF, X, rfl⟩
      exact ⟨_, ⟨pv, H, nilS, [], by rw [e1], by rw [e2]; exact hF, by rw [e3, e4]; exact Frag.nil _ _, X, rfl⟩, fun _ h => h⟩
    · have e1 : faE L rs ss = T12.errT L ss.length (flatS ss) := by unfold faE; rw [if_pos h0, if_neg h5]
      have e2 : faT L rs ss = [] := by unfold faT; rw [if_neg fun h => h5 h.2]
      have e3 : faN L rs ss = T12.cntT L ss.length (flatS ss) := by unfold faN; rw [if_pos ⟨h0, h5⟩]
      have e4 : faP L rs ss = T12.outT L ss.length (flatS ss) := by unfold faP; rw [if_pos ⟨h0, h5⟩]
      refine (Faces_B w0 η hG hE L h5 ra sa _ rc sc ss ht hq hm h0).mono ?_
      rintro _ _ ⟨pv, H, rfl, hF, rfl⟩
      exact ⟨_, ⟨nilS, [], pv, H, by rw [e1], by rw [e2]; exact Frag.nil _ _, by rw [e3, e4]; exact hF, [], rfl⟩, fun _ h => h⟩
  · have e1 : faE L rs ss = kiE L rs.length ss.length := by unfold faE; rw [if_neg h0]
    have e2 : faT L rs ss = [] := by unfold faT; rw [if_neg fun h => h0 h.1]
    have e3 : faN L rs ss = 0 := by unfold faN; rw [if_neg fun h => h0 h.1]
    have e4 : faP L rs ss = [] := by unfold faP; rw [if_neg fun h => h0 h.1]
    refine (Faces_no w0 η L ra sa _ _ rc sc _ h0 (may_all w0 hG L ra sa _ _ rc sc)).mono ?_
    rintro _ _ ⟨rfl, rfl⟩
    exact ⟨_, ⟨nilS, [], nilS, [], by rw [e1], by rw [e2]; exact Frag.nil _ _, by rw [e3, e4]; exact Frag.nil _ _, [], rfl⟩, fun _ h => h⟩
end Go.Proofs.YtjdaglmkljbfkaaGreatDoor
namespace Go.Gx
open Go Go.RowKit
section
variable {P : Program} {n : Nat} {σ : Slots} {o : Oper} {x y : Operand} {t : TypeId}
/-- make, of zeros -/
theorem ET_makeN {w0 : Base} {η : Heap} {e size bytes : Nat} {zv : Value} {kl kc : IntKind} {p q : Int} (l cp : Nat) (zl : List Value) (hop : o.op = .makeSlice t x y) (ht : P.underlying t = some (.slice e)) (he : ElemOk P e size bytes zv)
    (hx : ev σ x = some (true, .int kl p)) (hy : ev σ y = some (true, .int kc q)) (hp : p = (l : Int)) (hq : q = (cp : Int)) (hlc : l ≤ cp) (hb : bytes * cp ≤ 281474976710656) (h63 : cp ≤ 9223372036854775807) (hzl : (madeCells zv.cells (cp * size)).toList = zl) :
    ET P n o σ (St w0 η) fun r A' => ∃ b, r = .slice (some ⟨b, 0, none⟩) l cp ∧ A' = St w0 ((b, e, zl) :: η) := by
  intro a w hf hw K Q hK
  subst hp hq
  obtain ⟨⟨i, hi, hs, hbt, hz⟩, hzs, hpos⟩ := he
  subst hs; subst hbt
  have hr := run_make (P := P) w t e i zv ht hi hz kl kc (l : Int) (cp : Int) (by omega) (by omega) (by rw [← Int.natCast_mul]; omega) (by omega)
  unfold Oper.wp
  have : (execOp a.eval o).run P w = .ok (.value (.slice (some ⟨w.heap.size, 0, none⟩) l cp)) (w.alloc (.cells (madeCells zv.cells (cp * i.size)) e)) := by
    simp [execOp, hop, hf.eval hx rfl, hf.eval hy rfl, hr]
  rw [this, Oper.upon_value]
  refine hK _ _ _ ⟨_, rfl, ?_⟩ (St.alloc hw e _)
  rw [← hzl]
end
end Go.Gx
namespace Go.Proofs.YtjdaglmkljbfkaaGreatDoor
open Go Go.Gx Go.RowKit
set_option maxRecDepth 100000
def L13 : Lay := ⟨4, 8, 8, 8, 1, 0, fun _ => 0⟩
def b13 : List Nat := [0, 1, 2, 3, 0, 4, 5, 6, 0, 7, 8, 9]
def r13 : List (List Nat) := [[0, 1, 2, 3, 0, 0, 0], [0, 4, 5, 6, 0, 0, 0], [0, 7, 8, 9, 0, 0, 0]]
def z7 : List Nat := [0, 0, 0, 0, 0, 0, 0]
def z49 : List Nat := List.replicate 49 0
theorem rcf_z7 : RcF z7 := rcf_chk rfl (by decide)
end Go.Proofs.YtjdaglmkljbfkaaGreatDoor
namespace Go.Proofs.YtjdaglmkljbfkaaGreatDoor
open Go Go.Gx Go.RowKit
set_option maxRecDepth 100000
theorem eq_SpotM : EqOk Tryz.prog 72 spotK := ⟨by kernel_rfl, by kernel_rfl, by kernel_rfl, by kernel_rfl⟩
theorem spot78 : Ints spotK [.int .u32 7, .int .u32 8] := by
 exact .cons (by decide) (.cons (by decide) .nil)
theorem callsT_N {P : Program} {f : FuncId} {vs : List Value} {B : Base} {η : Heap} {A : World → Prop} {x : Value} (h : CallsT P f vs A fun v A' => v = x ∧ A' = St B η) :
  CallsT P f vs A fun v A' => ∃ H, (v = x ∧ H = []) ∧ A' = St B (H ++ η) := h.mono fun _ _ ⟨hv, he⟩ => ⟨_, ⟨[], ⟨hv, rfl⟩, he⟩, fun _ h => h⟩
set_option maxHeartbeats 1000000 in
theorem encodeR_err (w0 : Base) (η : Heap) (hG : Sets w0) (L : Lay) (sv : Value) (rs : List (List Nat)) (hs : SlA (St w0 η) sv 7 rs.length (flatR rs)) (hr : ∀ r ∈ rs, RcF r) (hn : rs.length ≤ 100000000) (E : Int) (hE : (trioF L (rs.map rvV)).2 = E) (h0 : E ≠ 0) :
    CallsT Tryz.prog 96 [.agg kindA.toArray, L.val, sv] (St w0 η) fun v A' => v = .tuple #[nilS, .int .i64 E] ∧ A' = St w0 η := by
  have hs2 : SlA (St w0 η) sv 7 (rs.map rvV).length (rs.map rvV).flatten := by rw [List.length_map]; exact hs
  refine CallsT.body Tryz.func96 rfl rfl ?_
  simp only [Tryz.ntmps96, slotsOf, Nat.reduceAdd]
  refine Qe (Qg ?_)
  refine TL_e rfl rfl rfl (rfl) (ET_box rfl rfl) ?_
  rintro _ _ ⟨b3, rfl, rfl⟩
  refine TL_e rfl rfl rfl (rfl) (ET_box rfl rfl) ?_
  rintro _ _ ⟨b4, rfl, rfl⟩
  refine Qa rfl rfl (Qd rfl rfl rfl) ?_
  refine Qa rfl rfl (Qd rfl rfl rfl) ?_
  refine Qf (Qb (Qe (Qe ?_)))
  refine TC_A (St w0 ((b4, 27, L.cells) :: (b3, 166, kindA) :: η)) (fun _ h => h) ?_
  refine Qg ?_
  refine Qa rfl rfl (Qh rfl rfl KF.fld_166_2 rfl) ?_
  refine Qa rfl rfl (Qj (v := .func (.func 81) #[] #[]) 1 rfl rfl Tryz.underlying156 rfl rfl rfl (fun _ => rfl)) ?_
  refine Qa rfl rfl (Ql 0 rfl rfl Tryz.underlying27 rfl rfl rfl KF.sz_27) ?_
  refine Qa rfl rfl (Qc rfl rfl rfl) ?_
  refine TL_e rfl rfl rfl (rfl) (ET_goes (Goes.value rfl rfl KF.cal_81 rfl) (of_spec w0 _ hG L _ (rs.map rvV) (hs2.mono fun _ h => h.tail.tail) (all7R hr) (by rw [List.length_map]; omega))) ?_
  rintro _ _ ⟨pv, H2, rfl, hF3, X, rfl⟩
  refine Qa rfl rfl (Qc rfl rfl rfl) ?_
  refine Qa rfl rfl (Qx rfl rfl rfl rfl) ?_
  refine Qa rfl rfl (Qx rfl rfl rfl rfl) ?_
  refine Qa rfl rfl (Qd rfl rfl rfl) ?_
  refine Qa rfl rfl (Qd rfl rfl rfl) ?_
  refine Qf (Qb (Qe (Qg ?_)))
  refine Qa rfl rfl (Qc rfl rfl rfl) ?_
  refine Qa rfl rfl (QT_neq rfl rfl rfl rfl) ?_
  refine Qf (Qb ?_)
  refine TC_cond rfl (fun _ => ?_) (fun h => absurd (h.symm.trans ((show decide ((trioF L (rs.map rvV)).2 ≠ 0) = true by rw [hE]; exact decide_eq_true h0))) (by decide))
  refine Qe (Qg ?_)
  refine Qa rfl rfl (Qc rfl rfl rfl) ?_
  refine Qa rfl rfl (Qd rfl rfl rfl) ?_
  refine Qa rfl rfl (Qd rfl rfl rfl) ?_
  refine Qf (Qb ?_)
  refine Qu ?_
  refine Qn ?_
  exact Qs (.inl rfl) (res2 rfl rfl rfl) ⟨_, ⟨by rw [hE]; rfl, rfl⟩, fun w h => h.cnt fun p => by simp only [List.countP_append, List.countP_cons, List.countP_nil]; omega⟩
theorem encA_err (w0 : Base) (η : Heap) (hG : Sets w0) (L : Lay) (ra sa : Option Addr) (ns rc sc : Nat) (rs : List (List Nat)) (hs : SlA (St w0 η) (.slice ra rs.length rc) 7 rs.length (flatR rs)) (hr : ∀ r ∈ rs, RcF r) (hn : rs.length ≤ 100000000) (E : Int) (hE : (trioF L (rs.map rvV)).2 = E) (h0 : E ≠ 0) :
  CallsT Tryz.prog 95 [L.val, .agg #[.slice ra rs.length rc, .slice sa ns sc]] (St w0 η) fun v A' => v = .tuple #[nilS, .int .i64 E] ∧ A' = St w0 η := by
 refine CallsT.body Tryz.func95 rfl rfl ?_
 simp only [Tryz.ntmps95, slotsOf, Nat.reduceAdd]
 refine Qe (Qg ?_)
 refine TL_e rfl rfl rfl (rfl) (ET_box rfl rfl) ?_
 rintro _ _ ⟨b2, rfl, rfl⟩
 refine TL_e rfl rfl rfl (rfl) (ET_box rfl rfl) ?_
 rintro _ _ ⟨b3, rfl, rfl⟩
 refine Qa rfl rfl (Qd rfl rfl rfl) ?_
 refine Qa rfl rfl (Qd rfl rfl rfl) ?_
 refine Qf (Qb (Qe ?_))
 refine TC_A (St w0 ((b3, 34, [.slice ra rs.length rc, .slice sa ns sc]) :: (b2, 27, L.cells) :: η)) (fun _ h => h) ?_
 refine TC_draw [(1, 0), (2, 0), (3, 0), (0, 1), (4, 1), (5, 0), (6, 0), (7, 0), (8, 0)] KF.mixed (by kernel_rfl) (St.calm _ _) ?_
 refine Qz rfl rfl rfl (Ql 1 rfl rfl Tryz.underlying27 rfl rfl rfl KF.sz_27) ?_
 refine Qk rfl rfl rfl (fun _ => Qh rfl rfl KF.fld_34_0 rfl) ?_
 refine Qz rfl rfl rfl (Qj 0 rfl rfl Tryz.underlying31 rfl rfl rfl (fun _ => rfl)) ?_
 refine TV_cq rfl rfl rfl rfl rfl KF.cal_94 rfl (fun _ => vertices_spec w0 _) (.keep (by kernel_rfl) rfl (by first | exact Qj 0 rfl rfl Tryz.underlying31 rfl rfl rfl (fun _ => rfl) | exact Qj 1 rfl rfl Tryz.underlying31 rfl rfl rfl (fun _ => rfl) | exact Qj 2 rfl rfl Tryz.underlying31 rfl rfl rfl (fun _ => rfl)) (.keep (by kernel_rfl) rfl (by first | exact Ql 0 rfl rfl Tryz.underlying27 rfl rfl rfl KF.sz_27 | exact Ql 1 rfl rfl Tryz.underlying27 rfl rfl rfl KF.sz_27 | exact Ql 2 rfl rfl Tryz.underlying27 rfl rfl rfl KF.sz_27 | exact QT_loadA 0 rfl rfl Tryz.underlying27 rfl rfl rfl KF.sz_27 (fun _ => rfl) | exact QT_loadA 1 rfl rfl Tryz.underlying27 rfl rfl rfl KF.sz_27 (fun _ => rfl) | exact QT_loadA 2 rfl rfl Tryz.underlying27 rfl rfl rfl KF.sz_27 (fun _ => rfl)) (.nil))) ?_
 refine TV_e rfl rfl rfl rfl (rfl) (ET_call rfl KF.cal_96 rfl (encodeR_err w0 _ hG L _ rs (hs.mono fun _ h => h.tail.tail) hr hn E hE h0)) ?_
 rintro _ _ ⟨rfl, rfl⟩
 refine ⟨_, .drop (by kernel_rfl) (.drop (by kernel_rfl) (.nil)), ?_⟩
 refine Qk rfl rfl rfl (fun _ => Qx rfl rfl rfl rfl) ?_
 refine Qk rfl rfl rfl (fun _ => Qx rfl rfl rfl rfl) ?_
 refine Qk rfl rfl rfl (fun _ => Qd rfl rfl rfl) ?_
 refine Qk rfl rfl rfl (fun _ => Qd rfl rfl rfl) ?_
 refine TV_end (Qb ?_)
 refine Qu ?_
 exact Qs (.inl rfl) (res2 rfl rfl rfl) ⟨_, ⟨rfl, rfl⟩, fun w h => h.tail.tail⟩
set_option maxHeartbeats 1000000 in
theorem Encode_err (w0 : Base) (η : Heap) (hG : Sets w0) (L : Lay) (hk : okB L = true) (hty : (L.ty = 4 ∨ L.ty = 5)) (ra sa : Option Addr) (n rc sc : Nat) (rs : List (List Nat)) (hs : SlA (St w0 η) (.slice ra rs.length rc) 7 rs.length (flatR rs)) (hr : ∀ r ∈ rs, RcF r) (hn : rs.length ≤ 100000000) (h0 : n = 0) (E : Int) (hE : (trioF L (rs.map rvV)).2 = E) (hE0 : E ≠ 0) :
    CallsT Tryz.prog 15 [L.val, .agg #[.slice ra rs.length rc, .slice sa n sc]] (St w0 η) fun v A' => v = .tuple #[nilS, .int .i64 E] ∧ A' = St w0 η := by
  obtain ⟨j, hj⟩ := ways_A hty
  have he : (if n = 0 then (0 : Int) else 1) = 0 := if_pos h0
  refine CallsT.body Tryz.func15 rfl rfl ?_
  simp only [Tryz.ntmps15, slotsOf, Nat.reduceAdd]
  refine Qe (Qg ?_)
  refine TL_e rfl rfl rfl (rfl) (ET_box rfl rfl) ?_
  rintro _ _ ⟨b2, rfl, rfl⟩
  refine TL_e rfl rfl rfl (rfl) (ET_box rfl rfl) ?_
  rintro _ _ ⟨b3, rfl, rfl⟩
  refine Qa rfl rfl (Qd rfl rfl rfl) ?_
  refine Qa rfl rfl (Qd rfl rfl rfl) ?_
  refine Qf (Qb (Qe (Qe ?_)))
  refine TC_A (St w0 ((b3, 34, [.slice ra rs.length rc, .slice sa n sc]) :: (b2, 27, L.cells) :: η)) (fun _ h => h) ?_
  refine Qg ?_
  refine Qa rfl rfl (Ql 1 rfl rfl Tryz.underlying27 rfl rfl rfl KF.sz_27) ?_
  refine Qa rfl rfl (Ql 0 rfl rfl Tryz.underlying34 rfl rfl rfl KF.sz_34) ?_
  refine TL_cq rfl rfl rfl rfl KF.cal_78 rfl (fun _ => may_A w0 _ hG L hk hty _ _ _ _ _ _) ?_
  refine Qa rfl rfl (Qd rfl rfl rfl) ?_
  refine Qf (Qb (Qe (Qg ?_)))
  refine Qa rfl rfl (Qc rfl rfl rfl) ?_
  refine Qa rfl rfl (QT_neq rfl rfl rfl rfl) ?_
  refine Qf (Qb ?_)
  refine TC_cond rfl (fun h => absurd (h.symm.trans ((show decide ((if n = 0 then (0 : Int) else 1) ≠ 0) = false by rw [he]; decide))) (by decide)) (fun _ => ?_)
  refine Qt (Qb (Qe ?_))
  refine TC_draw [(1, 0), (2, 0), (5, 0), (6, 0), (0, 1), (3, 0), (4, 0), (7, 1), (8, 0), (9, 0), (10, 0), (11, 0)] KF.mixed (by kernel_rfl) (St.calm _ _) ?_
  refine Qk rfl rfl rfl (fun _ => Qh rfl rfl KF.fld_27_0 rfl) ?_
  refine Qz rfl rfl rfl (Qj (v := .int .i64 L.ty) 1 rfl rfl Tryz.underlying3 rfl rfl rfl (fun _ => rfl)) ?_
  refine Qz rfl rfl rfl (Ql (cs := L.cells) 1 rfl rfl Tryz.underlying27 rfl rfl rfl KF.sz_27) ?_
  refine Qz rfl rfl rfl (Ql (cs := [.slice ra rs.length rc, .slice sa n sc]) 0 rfl rfl Tryz.underlying34 rfl rfl rfl KF.sz_34) ?_
  refine TV_e rfl rfl rfl rfl (rfl) (ET_call rfl KF.cal_27 rfl (byType_spec w0 _)) ?_
  rintro _ _ ⟨m13, rfl, rfl⟩
  refine ⟨_, .keep (by kernel_rfl) rfl (by first | exact Ql (cs := [.slice ra rs.length rc, .slice sa n sc]) 0 rfl rfl Tryz.underlying34 rfl rfl rfl KF.sz_34 | exact QT_under (Ql (w0 := w0) (η := (b3, 34, [.slice ra rs.length rc, .slice sa n sc]) :: (b2, 27, L.cells) :: η) (cs := [.slice ra rs.length rc, .slice sa n sc]) 0 rfl rfl Tryz.underlying34 rfl rfl rfl KF.sz_34) (fun w h => h.1)) (.keep (by kernel_rfl) rfl (by first | exact Ql (cs := L.cells) 1 rfl rfl Tryz.underlying27 rfl rfl rfl KF.sz_27 | exact QT_under (Ql (w0 := w0) (η := (b3, 34, [.slice ra rs.length rc, .slice sa n sc]) :: (b2, 27, L.cells) :: η) (cs := L.cells) 1 rfl rfl Tryz.underlying27 rfl rfl rfl KF.sz_27) (fun w h => h.1)) (.keep (by kernel_rfl) rfl (by first | exact Qj (v := .int .i64 L.ty) 1 rfl rfl Tryz.underlying3 rfl rfl rfl (fun _ => rfl) | exact QT_under (Qj (w0 := w0) (η := (b3, 34, [.slice ra rs.length rc, .slice sa n sc]) :: (b2, 27, L.cells) :: η) (v := .int .i64 L.ty) 1 rfl rfl Tryz.underlying3 rfl rfl rfl (fun _ => rfl)) (fun w h => h.1) | exact QT_under (Qj (w0 := w0) (η := (b3, 34, [.slice ra rs.length rc, .slice sa n sc]) :: (b2, 27, L.cells) :: η) (v := .int .i64 L.ty) 1 rfl rfl Tryz.underlying3 rfl rfl rfl (fun _ => rfl)) (fun w h => h.1.app_right)) (.nil))), ?_⟩
  refine Qz rfl rfl rfl ((by exact QT_lookup rfl rfl rfl rfl Tryz.underlying85 Tryz.underlying3 (show MapKept.IsKey (.int .i64) (.int .i64 L.ty) from rfl) hj)) ?_
  refine Qk rfl rfl rfl (fun _ => QT_fieldv rfl rfl Tryz.underlying84 rfl Tryz.underlying60 rfl rfl (fun _ => rfl)) ?_
  refine TV_e rfl rfl rfl rfl (rfl) (ET_goes (Goes.value rfl rfl KF.cal_95 rfl) (callsT_mapH fun B h1 h2 => callsT_N (encA_err B ((b3, 34, [.slice ra rs.length rc, .slice sa n sc]) :: (b2, 27, L.cells) :: η) (hG.up h2) L _ _ _ _ _ rs (hs.mono fun w h => (h1 w h).tail.tail) hr hn E hE hE0))) ?_
  rintro _ _ ⟨H1, ⟨rfl, rfl⟩, rfl⟩
  refine ⟨_, .keep (by kernel_rfl) rfl (by first | exact (by exact QT_lookup rfl rfl rfl rfl Tryz.underlying85 Tryz.underlying3 (show MapKept.IsKey (.int .i64) (.int .i64 L.ty) from rfl) hj)) (.drop (by kernel_rfl) (.drop (by kernel_rfl) (.keep (by kernel_rfl) rfl (by first | exact Qj (v := .int .i64 L.ty) 1 rfl rfl Tryz.underlying3 rfl rfl rfl (fun _ => rfl) | exact QT_under (Qj (w0 := w0) (η := (b3, 34, [.slice ra rs.length rc, .slice sa n sc]) :: (b2, 27, L.cells) :: η) (v := .int .i64 L.ty) 1 rfl rfl Tryz.underlying3 rfl rfl rfl (fun _ => rfl)) (fun w h => h.1) | exact QT_under (Qj (w0 := w0) (η := (b3, 34, [.slice ra rs.length rc, .slice sa n sc]) :: (b2, 27, L.cells) :: η) (v := .int .i64 L.ty) 1 rfl rfl Tryz.underlying3 rfl rfl rfl (fun _ => rfl)) (fun w h => h.1.app_right)) (.nil)))), ?_⟩
  refine Qk rfl rfl rfl (fun _ => Qx rfl rfl rfl rfl) ?_
  refine Qk rfl rfl rfl (fun _ => Qx rfl rfl rfl rfl) ?_
  refine Qk rfl rfl rfl (fun _ => Qd rfl rfl rfl) ?_
  refine Qk rfl rfl rfl (fun _ => Qd rfl rfl rfl) ?_
  refine TV_end (Qb ?_)
  refine Qu ?_
  exact Qs (.inl rfl) (res2 rfl rfl rfl) ⟨_, ⟨rfl, rfl⟩, fun w h => h.1.tail.tail⟩
theorem m13_1 : dcE L13 b13 = 0 ∧ dcO L13 b13 = r13 := by decide +kernel
theorem m13_2 : (trioF L13 (r13.map rvV)).2 = 0 ∧ (trioF L13 (r13.map rvV)).1.length = 1 := by decide +kernel
theorem m13_3 : dcE L13 [1, 2, 3, 4] = 6 := by decide +kernel
theorem m13_4 : dcE L13 [0, 1, 2] = 5 := by decide +kernel
theorem m13_7 : ((trioF L13 (r13.map rvV)).1.flatten.drop 15).take 2 = [.int .u32 7, .int .u32 8] := by kernel_rfl
theorem m13_may (w0 : Base) (hG : Sets w0) {ra sa : Option Addr} {rc sc : Nat} (X : Heap) : CallsT Tryz.prog 78 [L13.val, .agg #[.slice ra 0 rc, .slice sa 1 sc]] (St w0 X) fun v A' => v = .int .i64 1 ∧ A' = St w0 X :=
 may_A w0 X hG L13 (by decide +kernel) (.inl rfl) ra sa 0 1 rc sc
set_option maxHeartbeats 4000000 in
theorem lives13 (w0 : Base) (η : Heap) (hG : Sets w0) (hE : T12.Edges w0) :
    CallsT Tryz.prog 5 [] (St w0 η) fun v A' => v = .bool true ∧ A' = St w0 η := by
  refine CallsT.body Tryz.func5 rfl rfl ?_
  simp only [Tryz.ntmps5, slotsOf, Nat.reduceAdd]
  refine Qe (Qg ?_)
  refine Qa rfl rfl (Qd rfl rfl rfl) ?_
  refine Qf (Qb (Qe (Qg ?_)))
  refine Qa rfl rfl (QT_build rfl rfl KF.zero_27 KF.pl_27 rfl rfl rfl) ?_
  refine TL_e rfl rfl rfl (rfl) (ET_alloc rfl KF.zero_27) ?_
  rintro _ _ ⟨b1, rfl, rfl⟩
  refine TL_e0 rfl rfl (rfl) (ET_storeW 0 rfl rfl rfl KF.sz_27 rfl rfl rfl) ?_
  rintro _ _ ⟨rfl, rfl⟩
  refine Qf (Qb (Qe ?_))
  refine TC_A (St w0 ((b1, 27, L13.cells) :: η)) (fun _ h => h) ?_
  refine Qg ?_
  refine Qa rfl rfl (Ql 0 rfl rfl Tryz.underlying27 rfl rfl rfl KF.sz_27) ?_
  refine TL_e rfl rfl rfl (rfl) (ET_buildN [_, _, _, _, _, _, _, _, _, _, _, _] rfl Tryz.underlying28 KF.sz_5 KF.zero_5 rfl rfl rfl (fun v hv => by simp only [List.mem_cons, List.not_mem_nil, or_false] at hv; rcases hv with rfl | rfl | rfl | rfl | rfl | rfl | rfl | rfl | rfl | rfl | rfl | rfl <;> rfl)) ?_
  rintro _ _ ⟨b18, rfl, rfl⟩
  refine TL_e rfl rfl rfl (rfl) (ET_call rfl KF.cal_7 rfl (Decode_A w0 _ hG L13 (by decide +kernel) (.inl rfl) _ b13 (SlA.own (n := 12) (xs := byV b13) 0 rfl rfl (by decide) (by decide)) (by decide))) ?_
  rintro _ _ ⟨rv2, H2, rfl, hF2, rfl⟩
  refine Qa rfl rfl (Qc rfl rfl rfl) ?_
  refine Qa rfl rfl (Qx rfl rfl rfl rfl) ?_
  refine Qa rfl rfl (Qx rfl rfl rfl rfl) ?_
  refine TL_e rfl rfl rfl (rfl) (ET_alloc rfl KF.zero_34) ?_
  rintro _ _ ⟨b2, rfl, rfl⟩
  rw [m13_1.2] at hF2
  obtain ⟨ad2, cap2, rfl, _, _⟩ := hF2.slice
  refine TL_e0 rfl rfl (rfl) (ET_storeW 0 rfl rfl rfl KF.sz_34 rfl rfl rfl) ?_
  rintro _ _ ⟨rfl, rfl⟩
  refine Qa rfl rfl (Qd rfl rfl rfl) ?_
  refine Qf (Qb (Qe ?_))
  simp only [m13_1.1]
  refine TC_A (St w0 ((b2, 34, [.slice ad2 r13.length cap2, nilS]) :: (b1, 27, L13.cells) :: (H2 ++ η))) (fun w h => h.cnt fun p => by simp only [upd, List.countP_append, List.countP_cons, List.countP_nil]; omega) ?_
  refine Qg ?_
  refine Qa rfl rfl (Ql 1 rfl rfl Tryz.underlying27 rfl rfl rfl KF.sz_27) ?_
  refine Qa rfl rfl (Ql 0 rfl rfl Tryz.underlying34 rfl rfl rfl KF.sz_34) ?_
  refine TL_e rfl rfl rfl (rfl) (ET_call rfl KF.cal_17 rfl (Faces_A w0 _ hG L13 (by decide) _ _ _ _ _ r13 (hF2.within fun p => by simp only [List.countP_append, List.countP_cons]; omega) (fun r hr => by simp only [r13, List.mem_cons, List.not_mem_nil, or_false] at hr; rcases hr with rfl | rfl | rfl <;> exact rcf_chk rfl (by decide)) (by decide) (by decide +kernel))) ?_
  rintro _ _ ⟨pv, H4, rfl, hF4, X4, rfl⟩
  refine Qa rfl rfl (Qc rfl rfl rfl) ?_
  refine Qa rfl rfl (Qx rfl rfl rfl rfl) ?_
  refine Qa rfl rfl (Qx rfl rfl rfl rfl) ?_
  refine Qa rfl rfl (Qx rfl rfl rfl rfl) ?_
  refine Qa rfl rfl (Qd rfl rfl rfl) ?_
  refine Qa rfl rfl (Qd rfl rfl rfl) ?_
  refine Qa rfl rfl (Qd rfl rfl rfl) ?_
  refine Qf (Qb (Qe ?_))
  rw [m13_2.2] at hF4
  simp only [m13_2.1]
  obtain ⟨ad4, cap4, rfl, _, h4⟩ := hF4.slice
  obtain ⟨b40, rest4, rfl, hH4⟩ := h4 (by decide)
  refine TC_A (St w0 ((b2, 34, [.slice ad2 r13.length cap2, nilS]) :: (b1, 27, L13.cells) :: (H4 ++ η))) (fun w h => h.cnt fun p => by simp only [List.countP_append, List.countP_cons, List.countP_nil]; omega) ?_
  refine Qg ?_
  refine Qa rfl rfl (Ql 1 rfl rfl Tryz.underlying27 rfl rfl rfl KF.sz_27) ?_
  refine TL_e rfl rfl rfl (rfl) (ET_buildN [_, _, _, _] rfl Tryz.underlying28 KF.sz_5 KF.zero_5 rfl rfl rfl (fun v hv => by simp only [List.mem_cons, List.not_mem_nil, or_false] at hv; rcases hv with rfl | rfl | rfl | rfl <;> rfl)) ?_
  rintro _ _ ⟨b31, rfl, rfl⟩
  refine TL_e rfl rfl rfl (rfl) (ET_call rfl KF.cal_7 rfl (Decode_A w0 _ hG L13 (by decide +kernel) (.inl rfl) _ [1, 2, 3, 4] (SlA.own (n := 4) (xs := byV [1, 2, 3, 4]) 0 rfl rfl (by decide) (by decide)) (by decide))) ?_
  rintro _ _ ⟨rv7, H7, rfl, hF7, rfl⟩
  refine Qa rfl rfl (Qc rfl rfl rfl) ?_
  refine Qa rfl rfl (Qx rfl rfl rfl rfl) ?_
  refine Qa rfl rfl (Qx rfl rfl rfl rfl) ?_
  refine TL_e rfl rfl rfl (rfl) (ET_alloc rfl KF.zero_34) ?_
  rintro _ _ ⟨b7, rfl, rfl⟩
  obtain ⟨ad7, cap7, rfl, _, _⟩ := hF7.slice
  refine TL_e0 rfl rfl (rfl) (ET_storeW 0 rfl rfl rfl KF.sz_34 rfl rfl rfl) ?_
  rintro _ _ ⟨rfl, rfl⟩
  refine Qa rfl rfl (Qd rfl rfl rfl) ?_
  refine Qf (Qb (Qe ?_))
  simp only [m13_3]
  refine TC_A (St w0 ((b2, 34, [.slice ad2 r13.length cap2, nilS]) :: (b1, 27, L13.cells) :: (H4 ++ η))) (fun w h => h.cnt fun p => by simp only [upd, List.countP_append, List.countP_cons, List.countP_nil]; omega) ?_
  refine Qg ?_
  refine Qa rfl rfl (Ql 1 rfl rfl Tryz.underlying27 rfl rfl rfl KF.sz_27) ?_
  refine TL_e rfl rfl rfl (rfl) (ET_buildN [_, _, _] rfl Tryz.underlying28 KF.sz_5 KF.zero_5 rfl rfl rfl (fun v hv => by simp only [List.mem_cons, List.not_mem_nil, or_false] at hv; rcases hv with rfl | rfl | rfl <;> rfl)) ?_
  rintro _ _ ⟨b37, rfl, rfl⟩
  refine TL_e rfl rfl rfl (rfl) (ET_call rfl KF.cal_7 rfl (Decode_A w0 _ hG L13 (by decide +kernel) (.inl rfl) _ [0, 1, 2] (SlA.own (n := 3) (xs := byV [0, 1, 2]) 0 rfl rfl (by decide) (by decide)) (by decide))) ?_
  rintro _ _ ⟨rv9, H9, rfl, hF9, rfl⟩
  refine Qa rfl rfl (Qc rfl rfl rfl) ?_
  refine Qa rfl rfl (Qx rfl rfl rfl rfl) ?_
  refine Qa rfl rfl (Qx rfl rfl rfl rfl) ?_
  refine TL_e rfl rfl rfl (rfl) (ET_alloc rfl KF.zero_34) ?_
  rintro _ _ ⟨b9, rfl, rfl⟩
  obtain ⟨ad9, cap9, rfl, _, _⟩ := hF9.slice
  refine TL_e0 rfl rfl (rfl) (ET_storeW 0 rfl rfl rfl KF.sz_34 rfl rfl rfl) ?_
  rintro _ _ ⟨rfl, rfl⟩
  refine Qa rfl rfl (Qd rfl rfl rfl) ?_
  refine Qf (Qb (Qe ?_))
  simp only [m13_4]
  refine TC_A (St w0 ((b2, 34, [.slice ad2 r13.length cap2, nilS]) :: (b1, 27, L13.cells) :: (H4 ++ η))) (fun w h => h.cnt fun p => by simp only [upd, List.countP_append, List.countP_cons, List.countP_nil]; omega) ?_
  refine TC_draw [(0, 0), (1, 1), (2, 0), (3, 1), (4, 0), (5, 0), (6, 0), (7, 0), (8, 0)] KF.mixed (by kernel_rfl) (St.calm _ _) ?_
  refine Qz rfl rfl rfl (Ql 1 rfl rfl Tryz.underlying27 rfl rfl rfl KF.sz_27) ?_
  refine TV_e rfl rfl rfl rfl (rfl) (ET_makeN 1 1 (flatS [z49]) rfl Tryz.underlying32 el_Sheet rfl rfl rfl rfl (by decide) (by decide) (by decide) (by kernel_rfl)) ?_
  rintro _ _ ⟨b43, rfl, rfl⟩
  refine ⟨_, .keep (by kernel_rfl) rfl (by first | exact Ql 0 rfl rfl Tryz.underlying27 rfl rfl rfl KF.sz_27 | exact Ql 1 rfl rfl Tryz.underlying27 rfl rfl rfl KF.sz_27 | exact Ql 2 rfl rfl Tryz.underlying27 rfl rfl rfl KF.sz_27 | exact QT_loadA 0 rfl rfl Tryz.underlying27 rfl rfl rfl KF.sz_27 (fun _ => rfl) | exact QT_loadA 1 rfl rfl Tryz.underlying27 rfl rfl rfl KF.sz_27 (fun _ => rfl) | exact QT_loadA 2 rfl rfl Tryz.underlying27 rfl rfl rfl KF.sz_27 (fun _ => rfl)) (.nil), ?_⟩
  refine Qk rfl rfl rfl (fun _ => QT_build rfl rfl KF.zero_34 KF.pl_34 rfl rfl rfl) ?_
  refine TV_e rfl rfl rfl rfl (rfl) (ET_call rfl KF.cal_15 rfl (Encode_no w0 _ L13 _ _ _ _ _ _ 1 (by decide) (m13_may w0 hG))) ?_
  rintro _ _ ⟨rfl, rfl⟩
  refine ⟨_, .drop (by kernel_rfl) (.nil), ?_⟩
  refine Qk rfl rfl rfl (fun _ => Qc rfl rfl rfl) ?_
  refine Qk rfl rfl rfl (fun _ => Qx rfl rfl rfl rfl) ?_
  refine Qk rfl rfl rfl (fun _ => Qx rfl rfl rfl rfl) ?_
  refine Qk rfl rfl rfl (fun _ => Qd rfl rfl rfl) ?_
  refine Qk rfl rfl rfl (fun _ => Qd rfl rfl rfl) ?_
  refine TV_end (Qb (Qe ?_))
  refine TC_A (St w0 ((b2, 34, [.slice ad2 r13.length cap2, nilS]) :: (b1, 27, L13.cells) :: (H4 ++ η))) (fun w h => h.cnt fun p => by simp only [upd, List.countP_append, List.countP_cons, List.countP_nil]; omega) ?_
  refine TC_draw [(0, 0), (1, 1), (2, 0), (3, 1), (4, 0), (5, 0), (6, 0), (7, 0), (8, 0)] KF.mixed (by kernel_rfl) (St.calm _ _) ?_
  refine Qz rfl rfl rfl (Ql 1 rfl rfl Tryz.underlying27 rfl rfl rfl KF.sz_27) ?_
  refine TV_e rfl rfl rfl rfl (rfl) (ET_makeN 2 2 (flatR [z7, z7]) rfl Tryz.underlying31 el_Rec rfl rfl rfl rfl (by decide) (by decide) (by decide) (by kernel_rfl)) ?_
  rintro _ _ ⟨b50, rfl, rfl⟩
  refine ⟨_, .keep (by kernel_rfl) rfl (by first | exact Ql 0 rfl rfl Tryz.underlying27 rfl rfl rfl KF.sz_27 | exact Ql 1 rfl rfl Tryz.underlying27 rfl rfl rfl KF.sz_27 | exact Ql 2 rfl rfl Tryz.underlying27 rfl rfl rfl KF.sz_27 | exact QT_loadA 0 rfl rfl Tryz.underlying27 rfl rfl rfl KF.sz_27 (fun _ => rfl) | exact QT_loadA 1 rfl rfl Tryz.underlying27 rfl rfl rfl KF.sz_27 (fun _ => rfl) | exact QT_loadA 2 rfl rfl Tryz.underlying27 rfl rfl rfl KF.sz_27 (fun _ => rfl)) (.nil), ?_⟩
  refine Qk rfl rfl rfl (fun _ => QT_build rfl rfl KF.zero_34 KF.pl_34 rfl rfl rfl) ?_
  refine TV_e rfl rfl rfl rfl (rfl) (ET_call rfl KF.cal_15 rfl (Encode_err w0 _ hG L13 (by decide +kernel) (.inl rfl) _ _ _ _ _ [z7, z7] (SlA.own (n := 2) (off := 0) (xs := flatR [z7, z7]) 0 rfl rfl (by decide) (by decide)) (fun r hr => by simp only [List.mem_cons, List.not_mem_nil, or_false, or_self] at hr; subst hr; exact rcf_z7) (by decide) rfl 5 (by decide +kernel) (by decide))) ?_
  rintro _ _ ⟨rfl, rfl⟩
  refine ⟨_, .drop (by kernel_rfl) (.nil), ?_⟩
  refine Qk rfl rfl rfl (fun _ => Qc rfl rfl rfl) ?_
  refine Qk rfl rfl rfl (fun _ => Qx rfl rfl rfl rfl) ?_
  refine Qk rfl rfl rfl (fun _ => Qx rfl rfl rfl rfl) ?_
  refine Qk rfl rfl rfl (fun _ => Qd rfl rfl rfl) ?_
  refine Qk rfl rfl rfl (fun _ => Qd rfl rfl rfl) ?_
  refine TV_end (Qb (Qe ?_))
  refine TC_A (St w0 ((b2, 34, [.slice ad2 r13.length cap2, nilS]) :: (b1, 27, L13.cells) :: (H4 ++ η))) (fun w h => h.cnt fun p => by simp only [upd, List.countP_append, List.countP_cons, List.countP_nil]; omega) ?_
  have hrd4 : Rd (St w0 ((b2, 34, [.slice ad2 r13.length cap2, nilS]) :: (b1, 27, L13.cells) :: (H4 ++ η))) b40 0 (trioF L13 (r13.map rvV)).1.flatten := Rd.ownA (T := 79) (cs := (trioF L13 (r13.map rvV)).1.flatten ++ rest4) (by rw [hH4]; simp) 0 (by simp)
  refine Qg ?_
  refine Qa rfl rfl (Qh rfl rfl KF.fld_34_0 rfl) ?_
  refine Qa rfl rfl (Qj 0 rfl rfl Tryz.underlying31 rfl rfl rfl (fun _ => rfl)) ?_
  refine Qa rfl rfl (Za rfl rfl Tryz.underlying31 rfl) ?_
  refine Qa rfl rfl (QT_eql rfl rfl rfl rfl) ?_
  refine Qa rfl rfl (Qc rfl rfl rfl) ?_
  refine Qa rfl rfl (Qc rfl rfl rfl) ?_
  refine Qa rfl rfl (QT_eql rfl rfl rfl rfl) ?_
  refine Qa rfl rfl (QT_and rfl rfl rfl rfl) ?_
  refine Qa rfl rfl (Qc rfl rfl rfl) ?_
  refine Qa rfl rfl (Qc rfl rfl rfl) ?_
  refine Qa rfl rfl (Za rfl rfl Tryz.underlying61 rfl) ?_
  refine Qa rfl rfl (QT_eql rfl rfl rfl rfl) ?_
  refine Qa rfl rfl (QT_and rfl rfl rfl rfl) ?_
  refine Qa rfl rfl (Qc rfl rfl rfl) ?_
  refine Qa rfl rfl (Qc rfl rfl rfl) ?_
  refine Qa rfl rfl (Za rfl rfl Tryz.underlying62 rfl) ?_
  refine Qa rfl rfl (QT_eql rfl rfl rfl rfl) ?_
  refine Qa rfl rfl (QT_and rfl rfl rfl rfl) ?_
  refine Qa rfl rfl (Qc rfl rfl rfl) ?_
  refine Qa rfl rfl (Qc rfl rfl rfl) ?_
  refine Qa rfl rfl (QT_eql rfl rfl rfl rfl) ?_
  refine Qa rfl rfl (QT_and rfl rfl rfl rfl) ?_
  refine Qa rfl rfl (Qc rfl rfl rfl) ?_
  refine Qa rfl rfl (Qc rfl rfl rfl) ?_
  refine Qa rfl rfl (Qq (0) rfl rfl Tryz.underlying61 KF.sz_79 rfl rfl (rfl) (fun _ => by omega)) ?_
  refine Qa rfl rfl (QT_indexArr (2) rfl rfl Tryz.underlying79 KF.sz_77 rfl rfl (rfl) (fun _ => by decide)) ?_
  refine Qa rfl rfl (Qh rfl rfl KF.fld_77_1 rfl) ?_
  refine Qa rfl rfl (Qy (out := [.int .u32 7, .int .u32 8]) 15 rfl rfl Tryz.underlying72 rfl KF.sz_72 hrd4 rfl (fun _ => by have := hF4.1; rw [this]; decide) (fun _ => m13_7) (by decide)) ?_
  refine Qa rfl rfl (QT_build rfl rfl KF.zero_72 KF.pl_72 rfl rfl rfl) ?_
  refine Qa rfl rfl (QT_eqA rfl rfl eq_SpotM rfl rfl (fun _ => spot78) (fun _ => spot78)) ?_
  refine Qa rfl rfl (QT_and rfl rfl rfl rfl) ?_
  refine Qa rfl rfl (Qc rfl rfl rfl) ?_
  refine Qa rfl rfl (Qc rfl rfl rfl) ?_
  refine Qa rfl rfl (QT_eql rfl rfl rfl rfl) ?_
  refine Qa rfl rfl (QT_and rfl rfl rfl rfl) ?_
  refine Qa rfl rfl (Qc rfl rfl rfl) ?_
  refine Qa rfl rfl (Qc rfl rfl rfl) ?_
  refine Qa rfl rfl (QT_eql rfl rfl rfl rfl) ?_
  refine Qa rfl rfl (QT_and rfl rfl rfl rfl) ?_
  refine Qa rfl rfl (Qc rfl rfl rfl) ?_
  refine Qa rfl rfl (Qc rfl rfl rfl) ?_
  refine Qa rfl rfl (QT_eql rfl rfl rfl rfl) ?_
  refine Qa rfl rfl (QT_and rfl rfl rfl rfl) ?_
  refine Qa rfl rfl (Qc rfl rfl rfl) ?_
  refine Qa rfl rfl (Qc rfl rfl rfl) ?_
  refine Qa rfl rfl (QT_eql rfl rfl rfl rfl) ?_
  refine Qa rfl rfl (QT_and rfl rfl rfl rfl) ?_
  refine Qa rfl rfl (Qd rfl rfl rfl) ?_
  refine Qf (Qb ?_)
  refine Qu ?_
  exact Qs (.inl rfl) (res1 rfl rfl) ⟨_, ⟨rfl, rfl⟩, fun _ h => h.tail.tail.app_right⟩
end Go.Proofs.YtjdaglmkljbfkaaGreatDoor
namespace Go.Proofs.YtjdaglmkljbfkaaGreatDoor
open Go Go.Gx Go.RowKit
set_option maxRecDepth 100000
theorem emO_bad {L : Lay} {rs ss : List (List Nat)} (h : emE L rs ss ≠ 0) : emO L rs ss = [] := by
  unfold emE at h
  unfold emO
  by_cases h0 : kiE L rs.length ss.length = 0
  · rw [if_pos h0] at h ⊢
    by_cases h5 : L.ty ≤ 5
    · rw [if_pos h5] at h ⊢
      unfold ecO; rw [if_neg h]
    · rw [if_neg h5] at h ⊢
      unfold esO; rw [if_neg h]
  · rw [if_neg h0]
theorem emO_lt {L : Lay} {rs ss : List (List Nat)} : ∀ c ∈ emO L rs ss, c < 256 := by
  intro c hc
  unfold emO at hc
  split at hc
  · split at hc
    · unfold ecO at hc
      split at hc
      · exact outRP_lt L rs c hc
      · exact absurd hc List.not_mem_nil
    · unfold esO at hc
      split at hc
      · exact outP_lt L ss c hc
      · exact absurd hc List.not_mem_nil
  · exact absurd hc List.not_mem_nil
theorem emO_len (L : Lay) (rs ss : List (List Nat)) : (emO L rs ss).length ≤ 65536 := by
  unfold emO
  split
  · split
    · unfold ecO
      split
      · exact outRP_len L rs
      · exact Nat.zero_le _
    · unfold esO
      split
      · exact outP_len L ss
      · exact Nat.zero_le _
  · exact Nat.zero_le _
end Go.Proofs.YtjdaglmkljbfkaaGreatDoor
namespace Go.Proofs.YtjdaglmkljbfkaaGreatDoor
open Go Go.Gx Go.RowKit
set_option maxRecDepth 100000
end Go.Proofs.YtjdaglmkljbfkaaGreatDoor
namespace Go.Proofs.YtjdaglmkljbfkaaGreatDoor
open Go Go.Gx Go.RowKit
set_option maxRecDepth 100000
theorem trisM_flat {L : Lay} {rs : List R} (ha : All7 rs) : Ints (rep (trioF L rs).1.length triK) (trioF L rs).1.flatten := flat_ints (s := 21) (trio_ints ha).1
theorem sameOk_TrisM (w0 : Base) (η : Heap) (va vb : Value) (n : Nat) (xs : List Value) (ha : SlA (St w0 η) va 21 n xs) (hb : SlA (St w0 η) vb 21 n xs) (hi : Ints (rep n triK) xs) :
  CallsT Tryz.prog 22 [va, vb] (St w0 η) fun v A' => v = .bool true ∧ A' = St w0 η := by
 have h := same_Tris w0 η va vb n n xs xs ha hb hi hi
 rwa [eqC_refl hi] at h
theorem sameOk_TilesM (w0 : Base) (η : Heap) (va vb : Value) (n : Nat) (xs : List Value) (ha : SlA (St w0 η) va 48 n xs) (hb : SlA (St w0 η) vb 48 n xs) (hi : Ints (rep n patchK) xs) :
  CallsT Tryz.prog 23 [va, vb] (St w0 η) fun v A' => v = .bool true ∧ A' = St w0 η := by
 have h := same_Tiles w0 η va vb n n xs xs ha hb hi hi
 rwa [eqC_refl hi] at h
end Go.Proofs.YtjdaglmkljbfkaaGreatDoor
namespace Go.Proofs.YtjdaglmkljbfkaaGreatDoor
open Go Go.Gx Go.RowKit
set_option maxRecDepth 100000
end Go.Proofs.YtjdaglmkljbfkaaGreatDoor
namespace Go.Gx
open Go Go.RowKit Go.ChangeShapes Go.WideShapes
section
variable {H : Type} {enc : TypeId × Value → H} {P : Program} {w : World} {base : Nat} {spare : Nat → Bool} {held : Bool}
/-- Two slices in a structure by value. -/
theorem open_st2 {t e0 e1 : TypeId} {f0 f1 : Field} {ks0 ks1 : List IntKind} {v : Value} {d : DataW H} {p : List MemPlace} (ha : P.underlying t = some (.struct #[f0, f1])) (ho0 : f0.offset = 0) (ho1 : f1.offset = 1) (hc0 : P.cellsOf f0.type = 1) (hc1 : P.cellsOf f1.type = 1) (hct : P.cellsOf t = 2)
    (ht0 : P.underlying f0.type = some (.slice e0)) (ht1 : P.underlying f1.type = some (.slice e1)) (hk0 : flat P 8 e0 = some ks0) (hk1 : flat P 8 e1 = some ks1) (h00 : 0 < ks0.length) (h01 : 0 < ks1.length) {B0 B1 : Nat} (hB0 : P.bytesOf e0 = B0) (hB1 : P.bytesOf e1 = B1) {r : Reach} {b0 : Nat}
    (hv : Value.okWide P w r b0 t v) (h : DataW.Trod enc P w base spare held t v d p) (hw : ∀ m ∈ d.weights P t, m ≤ reachBytes) :
    ∃ (s1 s2 : Value) (n m : Nat) (xs ys : List Value), v = .agg #[s1, s2] ∧ (SlA (St w []) s1 ks0.length n xs ∧ Ints (rep n ks0) xs ∧ n * B0 ≤ 140737488351232) ∧ (SlA (St w []) s2 ks1.length m ys ∧ Ints (rep m ks1) ys ∧ m * B1 ≤ 140737488351232) := by
  obtain ⟨fuel, hf⟩ := h
  obtain ⟨cs, rfl⟩ : ∃ cs, v = .agg cs := by
    simp only [Value.okWide, ha] at hv
    cases v <;> simp_all
  obtain ⟨xs, m, rfl, hx, hlen, hxl, hel⟩ := DataW.trod_struct ha hf
  have hd : d = .agg (xs.map (·.1)) := congrArg Prod.fst hx
  subst hd
  have hcs : cs.toList.length = 2 := by rw [← hct]; exact hlen
  obtain ⟨c0, c1, hce⟩ : ∃ c0 c1, cs.toList = [c0, c1] := by
    match hl : cs.toList, hcs with
    | [c0, c1], _ => exact ⟨c0, c1, rfl⟩
  obtain ⟨y0, y1, rfl⟩ : ∃ y0 y1, xs = [y0, y1] := by
    match xs, hxl with
    | [y0, y1], _ => exact ⟨y0, y1, rfl⟩
  have hcc : (Value.agg cs).cells.toList = [c0, c1] := hce
  have h1 := hel 0 f0 rfl
  have h2 := hel 1 f1 rfl
  rw [hcc, ho0, hc0] at h1
  rw [hcc, ho1, hc1] at h2
  obtain ⟨v1, n1, xs1, e1', a1, a2, a3⟩ := open_slc ht0 hk0 h00 (x := y0) h1
  obtain ⟨v2, n2, xs2, e2', b1, b2, b3⟩ := open_slc ht1 hk1 h01 (x := y1) h2
  have e1'' : c0 = v1 := by simpa using e1'
  have e2'' : c1 = v2 := by simpa using e2'
  subst e1'' e2''
  have hw0 : ∀ m ∈ y0.1.weights P f0.type, m ≤ reachBytes := fun m hm => by
    refine hw m ?_
    simp only [DataW.weights, ha, List.map_cons, List.map_nil, DataW.weightsEach, List.append_nil]
    exact List.mem_append_left _ hm
  have hw1 : ∀ m ∈ y1.1.weights P f1.type, m ≤ reachBytes := fun m hm => by
    refine hw m ?_
    simp only [DataW.weights, ha, List.map_cons, List.map_nil, DataW.weightsEach, List.append_nil]
    exact List.mem_append_right _ hm
  refine ⟨c0, c1, n1, n2, xs1, xs2, congrArg Value.agg (Array.ext' (by simpa using hce)), ⟨a1, a2, ?_⟩, ⟨b1, b2, ?_⟩⟩
  · rw [← hB0]; exact a3 hw0
  · rw [← hB1]; exact b3 hw1
end
end Go.Gx
namespace Go.Proofs.YtjdaglmkljbfkaaGreatDoor
open Go Go.Gx Go.RowKit Go.ChangeShapes Go.WideShapes Go.ChangeAt
set_option maxRecDepth 100000
theorem open_mesh {H : Type} {enc : TypeId × Value → H} {W : World} {base b0 : Nat} {spare : Nat → Bool} {held : Bool} {r : Reach} {v : Value} {d : DataW H} {p : List MemPlace}
  (hv : Value.okWide Tryz.prog W r b0 34 v) (h : DataW.Trod enc Tryz.prog W base spare held 34 v d p) (hw : ∀ m ∈ d.weights Tryz.prog 34, m ≤ reachBytes) :
  ∃ (rv tv : Value) (rs ss : List (List Nat)), v = .agg #[rv, tv] ∧ SlA (St W []) rv 7 rs.length (flatR rs) ∧ (∀ r ∈ rs, RcF r) ∧ SlA (St W []) tv 49 ss.length (flatS ss) ∧ (∀ r ∈ ss, ShF r) := by
 obtain ⟨s1, s2, n, m, xs, ys, rfl, ⟨h1, h2, _⟩, h3, h4, _⟩ := open_st2 Tryz.underlying34 rfl rfl (by kernel_rfl) (by kernel_rfl) (by kernel_rfl) Tryz.underlying31 Tryz.underlying32 flat_RecR flat_Sheet (by decide) (by decide) rfl rfl hv h hw
 obtain ⟨rs, _, h5, h6⟩ := open_recsR h1 h2
 obtain ⟨ss, _, h7, h8⟩ := open_sheets h3 h4
 exact ⟨s1, s2, rs, ss, rfl, h5, h6, h7, h8⟩
end Go.Proofs.YtjdaglmkljbfkaaGreatDoor
namespace Go.Proofs.YtjdaglmkljbfkaaGreatDoor
open Go Go.Gx Go.RowKit
set_option maxRecDepth 100000
theorem rFaces_bad (w0 : Base) (η : Heap) (L : Lay) (hk : okB L = false) (ra sa : Option Addr) (nr ns rc sc : Nat) :
  CallsT Tryz.prog 18 [L.val, .agg #[.slice ra nr rc, .slice sa ns sc]] (St w0 η) fun v A' => v = .tuple #[nilS, nilS, .int .i64 4] ∧ A' = St w0 η := by
 have he : errOf L = 4 := by unfold errOf; rw [hk]; rfl
 refine CallsT.body Tryz.func18 rfl rfl ?_
 simp only [Tryz.ntmps18, slotsOf, Nat.reduceAdd]
 refine Qe (Qg ?_)
 refine TL_e rfl rfl rfl (rfl) (ET_box rfl rfl) ?_
 rintro _ _ ⟨b2, rfl, rfl⟩
 refine TL_e rfl rfl rfl (rfl) (ET_box rfl rfl) ?_
 rintro _ _ ⟨b3, rfl, rfl⟩
 refine Qa rfl rfl (Qd rfl rfl rfl) ?_
 refine Qa rfl rfl (Qd rfl rfl rfl) ?_
 refine Qa rfl rfl (Qd rfl rfl rfl) ?_
 refine Qf (Qb (Qe (Qe ?_)))
 refine TC_A (St w0 ((b3, 34, [.slice ra nr rc, .slice sa ns sc]) :: (b2, 27, L.cells) :: η)) (fun _ h => h) ?_
 refine Qg ?_
 refine Qa rfl rfl (Ql 1 rfl rfl Tryz.underlying27 rfl rfl rfl KF.sz_27) ?_
 refine TL_cq rfl rfl rfl rfl KF.cal_28 rfl (fun _ => rcheck_spec w0 _ L) ?_
 refine Qa rfl rfl (QT_neq rfl rfl rfl rfl) ?_
 refine Qf (Qb ?_)
 refine TC_cond rfl (fun _ => ?_) (fun h => absurd (h.symm.trans ((show decide (errOf L ≠ 0) = true by rw [he]; decide))) (by decide))
 refine Qe (Qg ?_)
 refine Qa rfl rfl (Qd rfl rfl rfl) ?_
 refine Qa rfl rfl (Qd rfl rfl rfl) ?_
 refine Qa rfl rfl (Qd rfl rfl rfl) ?_
 refine Qf (Qb ?_)
 refine Qu ?_
 refine Qn ?_
 exact Qs (.inl rfl) (res3 rfl rfl rfl rfl) ⟨_, ⟨rfl, rfl⟩, fun _ h => h.tail.tail⟩
theorem rFaces_wrong (w0 : Base) (η : Heap) (L : Lay) (hk : okB L = true) (ra sa : Option Addr) (nr ns rc sc : Nat) (hw : (L.ty ≤ 5 ∧ 0 < ns) ∨ (6 ≤ L.ty ∧ 0 < nr)) :
  CallsT Tryz.prog 18 [L.val, .agg #[.slice ra nr rc, .slice sa ns sc]] (St w0 η) fun v A' => v = .tuple #[nilS, nilS, .int .i64 1] ∧ A' = St w0 η := by
 have he : errOf L = 0 := by unfold errOf; rw [if_pos hk]
 refine CallsT.body Tryz.func18 rfl rfl ?_
 simp only [Tryz.ntmps18, slotsOf, Nat.reduceAdd]
 refine Qe (Qg ?_)
 refine TL_e rfl rfl rfl (rfl) (ET_box rfl rfl) ?_
 rintro _ _ ⟨b2, rfl, rfl⟩
 refine TL_e rfl rfl rfl (rfl) (ET_box rfl rfl) ?_
 rintro _ _ ⟨b3, rfl, rfl⟩
 refine Qa rfl rfl (Qd rfl rfl rfl) ?_
 refine Qa rfl rfl (Qd rfl rfl rfl) ?_
 refine Qa rfl rfl (Qd rfl rfl rfl) ?_
 refine Qf (Qb (Qe (Qe ?_)))
 refine TC_A (St w0 ((b3, 34, [.slice ra nr rc, .slice sa ns sc]) :: (b2, 27, L.cells) :: η)) (fun _ h => h) ?_
 refine Qg ?_
 refine Qa rfl rfl (Ql 1 rfl rfl Tryz.underlying27 rfl rfl rfl KF.sz_27) ?_
 refine TL_cq rfl rfl rfl rfl KF.cal_28 rfl (fun _ => rcheck_spec w0 _ L) ?_
 refine Qa rfl rfl (QT_neq rfl rfl rfl rfl) ?_
 refine Qf (Qb ?_)
 refine TC_cond rfl (fun h => absurd (h.symm.trans ((show decide (errOf L ≠ 0) = false by rw [he]; decide))) (by decide)) (fun _ => ?_)
 refine Qt (Qb (Qe (Qe (Qg ?_))))
 refine Qa rfl rfl (Qh rfl rfl KF.fld_27_0 rfl) ?_
 refine Qa rfl rfl (Qj 1 rfl rfl Tryz.underlying3 rfl rfl rfl (fun _ => rfl)) ?_
 refine Qa rfl rfl (QT_leq rfl rfl rfl rfl) ?_
 refine Qa rfl rfl (Qc rfl rfl rfl) ?_
 refine Qa rfl rfl (Qh rfl rfl KF.fld_34_1 rfl) ?_
 refine Qa rfl rfl (Qj 0 rfl rfl Tryz.underlying32 rfl rfl rfl (fun _ => rfl)) ?_
 refine Qa rfl rfl (Za rfl rfl Tryz.underlying32 rfl) ?_
 refine Qa rfl rfl (QT_gtr rfl rfl rfl rfl) ?_
 refine Qa rfl rfl (QT_and rfl rfl rfl rfl) ?_
 refine Qa rfl rfl (Qc rfl rfl rfl) ?_
 refine Qa rfl rfl (Qh rfl rfl KF.fld_27_0 rfl) ?_
 refine Qa rfl rfl (Qj 1 rfl rfl Tryz.underlying3 rfl rfl rfl (fun _ => rfl)) ?_
 refine Qa rfl rfl (QT_geq rfl rfl rfl rfl) ?_
 refine Qa rfl rfl (Qc rfl rfl rfl) ?_
 refine Qa rfl rfl (Qh rfl rfl KF.fld_34_0 rfl) ?_
 refine Qa rfl rfl (Qj 0 rfl rfl Tryz.underlying31 rfl rfl rfl (fun _ => rfl)) ?_
 refine Qa rfl rfl (Za rfl rfl Tryz.underlying31 rfl) ?_
 refine Qa rfl rfl (QT_gtr rfl rfl rfl rfl) ?_
 refine Qa rfl rfl (QT_and rfl rfl rfl rfl) ?_
 refine Qa rfl rfl (QT_or rfl rfl rfl rfl) ?_
 refine Qf (Qb ?_)
 refine TC_cond rfl (fun _ => ?_) (fun h => absurd (h.symm.trans ((show (_ : Bool) = true by simp only [Bool.or_eq_true, Bool.and_eq_true, decide_eq_true_eq]; omega))) (by decide))
 refine Qe (Qg ?_)
 refine Qa rfl rfl (Qd rfl rfl rfl) ?_
 refine Qa rfl rfl (Qd rfl rfl rfl) ?_
 refine Qa rfl rfl (Qd rfl rfl rfl) ?_
 refine Qf (Qb ?_)
 refine Qu ?_
 refine Qn ?_
 exact Qs (.inl rfl) (res3 rfl rfl rfl rfl) ⟨_, ⟨rfl, rfl⟩, fun _ h => h.tail.tail⟩
set_option maxHeartbeats 1000000 in
theorem rFaces_A (w0 : Base) (η : Heap) (L : Lay) (hk : okB L = true) (h5 : L.ty ≤ 5) (ra sa : Option Addr) (rc sc : Nat) (rs : List (List Nat)) (hs : SlA (St w0 η) (.slice ra rs.length rc) 7 rs.length (flatR rs)) (hr : ∀ r ∈ rs, RcF r) (hn : rs.length ≤ 1000000) :
    CallsT Tryz.prog 18 [L.val, .agg #[.slice ra rs.length rc, .slice sa 0 sc]] (St w0 η) fun v A' => ∃ pv H, v = .tuple #[pv, nilS, .int .i64 (trioF L (rs.map rvV)).2] ∧ Frag 79 21 pv (trioF L (rs.map rvV)).1.length (trioF L (rs.map rvV)).1.flatten H ∧ A' = St w0 (H ++ η) := by
  have he : errOf L = 0 := by unfold errOf; rw [if_pos hk]
  have hs2 : SlA (St w0 η) (.slice ra rs.length rc) 7 (rs.map rvV).length (rs.map rvV).flatten := by rw [List.length_map]; exact hs
  refine CallsT.body Tryz.func18 rfl rfl ?_
  simp only [Tryz.ntmps18, slotsOf, Nat.reduceAdd]
  refine Qe (Qg ?_)
  refine TL_e rfl rfl rfl (rfl) (ET_box rfl rfl) ?_
  rintro _ _ ⟨b2, rfl, rfl⟩
  refine TL_e rfl rfl rfl (rfl) (ET_box rfl rfl) ?_
  rintro _ _ ⟨b3, rfl, rfl⟩
  refine Qa rfl rfl (Qd rfl rfl rfl) ?_
  refine Qa rfl rfl (Qd rfl rfl rfl) ?_
  refine Qa rfl rfl (Qd rfl rfl rfl) ?_
  refine Qf (Qb (Qe (Qe ?_)))
  refine TC_A (St w0 ((b3, 34, [.slice ra rs.length rc, .slice sa 0 sc]) :: (b2, 27, L.cells) :: η)) (fun _ h => h) ?_
  refine Qg ?_
  refine Qa rfl rfl (Ql 1 rfl rfl Tryz.underlying27 rfl rfl rfl KF.sz_27) ?_
  refine TL_cq rfl rfl rfl rfl KF.cal_28 rfl (fun _ => rcheck_spec w0 _ L) ?_
  refine Qa rfl rfl (QT_neq rfl rfl rfl rfl) ?_
  refine Qf (Qb ?_)
  refine TC_cond rfl (fun h => absurd (h.symm.trans ((show decide (errOf L ≠ 0) = false by rw [he]; decide))) (by decide)) (fun _ => ?_)
  refine Qt (Qb (Qe (Qe (Qg ?_))))
  refine Qa rfl rfl (Qh rfl rfl KF.fld_27_0 rfl) ?_
  refine Qa rfl rfl (Qj 1 rfl rfl Tryz.underlying3 rfl rfl rfl (fun _ => rfl)) ?_
  refine Qa rfl rfl (QT_leq rfl rfl rfl rfl) ?_
  refine Qa rfl rfl (Qc rfl rfl rfl) ?_
  refine Qa rfl rfl (Qh rfl rfl KF.fld_34_1 rfl) ?_
  refine Qa rfl rfl (Qj 0 rfl rfl Tryz.underlying32 rfl rfl rfl (fun _ => rfl)) ?_
  refine Qa rfl rfl (Za rfl rfl Tryz.underlying32 rfl) ?_
  refine Qa rfl rfl (QT_gtr rfl rfl rfl rfl) ?_
  refine Qa rfl rfl (QT_and rfl rfl rfl rfl) ?_
  refine Qa rfl rfl (Qc rfl rfl rfl) ?_
  refine Qa rfl rfl (Qh rfl rfl KF.fld_27_0 rfl) ?_
  refine Qa rfl rfl (Qj 1 rfl rfl Tryz.underlying3 rfl rfl rfl (fun _ => rfl)) ?_
  refine Qa rfl rfl (QT_geq rfl rfl rfl rfl) ?_
  refine Qa rfl rfl (Qc rfl rfl rfl) ?_
  refine Qa rfl rfl (Qh rfl rfl KF.fld_34_0 rfl) ?_
  refine Qa rfl rfl (Qj 0 rfl rfl Tryz.underlying31 rfl rfl rfl (fun _ => rfl)) ?_
  refine Qa rfl rfl (Za rfl rfl Tryz.underlying31 rfl) ?_
  refine Qa rfl rfl (QT_gtr rfl rfl rfl rfl) ?_
  refine Qa rfl rfl (QT_and rfl rfl rfl rfl) ?_
  refine Qa rfl rfl (QT_or rfl rfl rfl rfl) ?_
  refine Qf (Qb ?_)
  refine TC_cond rfl (fun h => absurd (h.symm.trans ((show (_ : Bool) = false by simp only [Bool.or_eq_false_iff, Bool.and_eq_false_iff, decide_eq_false_iff_not]; omega))) (by decide)) (fun _ => ?_)
  refine Qt (Qb (Qe (Qe (Qg ?_))))
  refine Qa rfl rfl (Qh rfl rfl KF.fld_27_0 rfl) ?_
  refine Qa rfl rfl (Qj 1 rfl rfl Tryz.underlying3 rfl rfl rfl (fun _ => rfl)) ?_
  refine Qa rfl rfl (QT_leq rfl rfl rfl rfl) ?_
  refine Qf (Qb ?_)
  refine TC_cond rfl (fun _ => ?_) (fun h => absurd (h.symm.trans ((show decide (L.ty ≤ 5) = true from decide_eq_true h5))) (by decide))
  refine Qe (Qg ?_)
  refine Qa rfl rfl (Ql 1 rfl rfl Tryz.underlying27 rfl rfl rfl KF.sz_27) ?_
  refine Qa rfl rfl (Qh rfl rfl KF.fld_34_0 rfl) ?_
  refine Qa rfl rfl (Qj 0 rfl rfl Tryz.underlying31 rfl rfl rfl (fun _ => rfl)) ?_
  refine TL_e rfl rfl rfl (rfl) (ET_call rfl KF.cal_83 rfl (rof_spec w0 _ L _ (rs.map rvV) (hs2.mono fun _ h => h.tail.tail) (all7R hr) (by rw [List.length_map]; omega))) ?_
  rintro _ _ ⟨pv, H1, rfl, hF1, rfl⟩
  refine Qa rfl rfl (Qc rfl rfl rfl) ?_
  refine Qa rfl rfl (Qx rfl rfl rfl rfl) ?_
  refine Qa rfl rfl (Qx rfl rfl rfl rfl) ?_
  refine Qa rfl rfl (Qd rfl rfl rfl) ?_
  refine Qa rfl rfl (Qd rfl rfl rfl) ?_
  refine Qf (Qb (Qe (Qg ?_)))
  refine Qa rfl rfl (Qc rfl rfl rfl) ?_
  refine Qa rfl rfl (Qc rfl rfl rfl) ?_
  refine Qa rfl rfl (Qd rfl rfl rfl) ?_
  refine Qa rfl rfl (Qd rfl rfl rfl) ?_
  refine Qa rfl rfl (Qd rfl rfl rfl) ?_
  refine Qf (Qb ?_)
  refine Qu ?_
  refine Qn ?_
  exact Qs (.inl rfl) (res3 rfl rfl rfl rfl) ⟨_, ⟨pv, H1, rfl, hF1, rfl⟩, fun w h => h.cnt fun p => by simp only [List.countP_append, List.countP_cons, List.countP_nil]; omega⟩
set_option maxHeartbeats 1000000 in
theorem rFaces_B (w0 : Base) (η : Heap) (L : Lay) (hk : okB L = true) (h5 : ¬L.ty ≤ 5) (ra sa : Option Addr) (rc sc : Nat) (rs : List (List Nat)) (hs : SlA (St w0 η) (.slice sa rs.length sc) 49 rs.length (flatS rs)) (hr : ∀ r ∈ rs, ShF r) (hn : rs.length ≤ 1000000) :
    CallsT Tryz.prog 18 [L.val, .agg #[.slice ra 0 rc, .slice sa rs.length sc]] (St w0 η) fun v A' => ∃ pv H, v = .tuple #[nilS, pv, .int .i64 (T12.errT L rs.length (flatS rs))] ∧ Frag 112 48 pv (T12.cntT L rs.length (flatS rs)) (T12.outT L rs.length (flatS rs)) H ∧ A' = St w0 (H ++ η) := by
  have he : errOf L = 0 := by unfold errOf; rw [if_pos hk]
  refine CallsT.body Tryz.func18 rfl rfl ?_
  simp only [Tryz.ntmps18, slotsOf, Nat.reduceAdd]
  refine Qe (Qg ?_)
  refine TL_e rfl rfl rfl (rfl) (ET_box rfl rfl) ?_
  rintro _ _ ⟨b2, rfl, rfl⟩
  refine TL_e rfl rfl rfl (rfl) (ET_box rfl rfl) ?_
  rintro _ _ ⟨b3, rfl, rfl⟩
  refine Qa rfl rfl (Qd rfl rfl rfl) ?_
  refine Qa rfl rfl (Qd rfl rfl rfl) ?_
  refine Qa rfl rfl (Qd rfl rfl rfl) ?_
  refine Qf (Qb (Qe (Qe ?_)))
  refine TC_A (St w0 ((b3, 34, [.slice ra 0 rc, .slice sa rs.length sc]) :: (b2, 27, L.cells) :: η)) (fun _ h => h) ?_
  refine Qg ?_
  refine Qa rfl rfl (Ql 1 rfl rfl Tryz.underlying27 rfl rfl rfl KF.sz_27) ?_
  refine TL_cq rfl rfl rfl rfl KF.cal_28 rfl (fun _ => rcheck_spec w0 _ L) ?_
  refine Qa rfl rfl (QT_neq rfl rfl rfl rfl) ?_
  refine Qf (Qb ?_)
  refine TC_cond rfl (fun h => absurd (h.symm.trans ((show decide (errOf L ≠ 0) = false by rw [he]; decide))) (by decide)) (fun _ => ?_)
  refine Qt (Qb (Qe (Qe (Qg ?_))))
  refine Qa rfl rfl (Qh rfl rfl KF.fld_27_0 rfl) ?_
  refine Qa rfl rfl (Qj 1 rfl rfl Tryz.underlying3 rfl rfl rfl (fun _ => rfl)) ?_
  refine Qa rfl rfl (QT_leq rfl rfl rfl rfl) ?_
  refine Qa rfl rfl (Qc rfl rfl rfl) ?_
  refine Qa rfl rfl (Qh rfl rfl KF.fld_34_1 rfl) ?_
  refine Qa rfl rfl (Qj 0 rfl rfl Tryz.underlying32 rfl rfl rfl (fun _ => rfl)) ?_
  refine Qa rfl rfl (Za rfl rfl Tryz.underlying32 rfl) ?_
  refine Qa rfl rfl (QT_gtr rfl rfl rfl rfl) ?_
  refine Qa rfl rfl (QT_and rfl rfl rfl rfl) ?_
  refine Qa rfl rfl (Qc rfl rfl rfl) ?_
  refine Qa rfl rfl (Qh rfl rfl KF.fld_27_0 rfl) ?_
  refine Qa rfl rfl (Qj 1 rfl rfl Tryz.underlying3 rfl rfl rfl (fun _ => rfl)) ?_
  refine Qa rfl rfl (QT_geq rfl rfl rfl rfl) ?_
  refine Qa rfl rfl (Qc rfl rfl rfl) ?_
  refine Qa rfl rfl (Qh rfl rfl KF.fld_34_0 rfl) ?_
  refine Qa rfl rfl (Qj 0 rfl rfl Tryz.underlying31 rfl rfl rfl (fun _ => rfl)) ?_
  refine Qa rfl rfl (Za rfl rfl Tryz.underlying31 rfl) ?_
  refine Qa rfl rfl (QT_gtr rfl rfl rfl rfl) ?_
  refine Qa rfl rfl (QT_and rfl rfl rfl rfl) ?_
  refine Qa rfl rfl (QT_or rfl rfl rfl rfl) ?_
  refine Qf (Qb ?_)
  refine TC_cond rfl (fun h => absurd (h.symm.trans ((show (_ : Bool) = false by simp only [Bool.or_eq_false_iff, Bool.and_eq_false_iff, decide_eq_false_iff_not]; omega))) (by decide)) (fun _ => ?_)
  refine Qt (Qb (Qe (Qe (Qg ?_))))
  refine Qa rfl rfl (Qh rfl rfl KF.fld_27_0 rfl) ?_
  refine Qa rfl rfl (Qj 1 rfl rfl Tryz.underlying3 rfl rfl rfl (fun _ => rfl)) ?_
  refine Qa rfl rfl (QT_leq rfl rfl rfl rfl) ?_
  refine Qf (Qb ?_)
  refine TC_cond rfl (fun h => absurd (h.symm.trans ((show decide (L.ty ≤ 5) = false from decide_eq_false h5))) (by decide)) (fun _ => ?_)
  refine Qt (Qb (Qe (Qg ?_)))
  refine Qa rfl rfl (Ql 1 rfl rfl Tryz.underlying27 rfl rfl rfl KF.sz_27) ?_
  refine Qa rfl rfl (Qh rfl rfl KF.fld_34_1 rfl) ?_
  refine Qa rfl rfl (Qj 0 rfl rfl Tryz.underlying32 rfl rfl rfl (fun _ => rfl)) ?_
  refine TL_e rfl rfl rfl (rfl) (ET_call rfl KF.cal_84 rfl (T12.rof_spec w0 _ L _ _ (flatS rs) (hs.mono fun _ h => h.tail.tail) (flatS_ints hr) (by omega))) ?_
  rintro _ _ ⟨pv, H1, rfl, hF1, rfl⟩
  refine Qa rfl rfl (Qc rfl rfl rfl) ?_
  refine Qa rfl rfl (Qx rfl rfl rfl rfl) ?_
  refine Qa rfl rfl (Qx rfl rfl rfl rfl) ?_
  refine Qa rfl rfl (Qd rfl rfl rfl) ?_
  refine Qa rfl rfl (Qd rfl rfl rfl) ?_
  refine Qf (Qb (Qe (Qg ?_)))
  refine Qa rfl rfl (Qc rfl rfl rfl) ?_
  refine Qa rfl rfl (Qc rfl rfl rfl) ?_
  refine Qa rfl rfl (Qd rfl rfl rfl) ?_
  refine Qa rfl rfl (Qd rfl rfl rfl) ?_
  refine Qa rfl rfl (Qd rfl rfl rfl) ?_
  refine Qf (Qb ?_)
  refine Qu ?_
  exact Qs (.inl rfl) (res3 rfl rfl rfl rfl) ⟨_, ⟨pv, H1, rfl, hF1, rfl⟩, fun w h => h.cnt fun p => by simp only [List.countP_append, List.countP_cons, List.countP_nil]; omega⟩
theorem rFaces_spec (w0 : Base) (η : Heap) (L : Lay) (rv tv : Value) (rs ss : List (List Nat)) (hs : SlA (St w0 η) rv 7 rs.length (flatR rs)) (ht : SlA (St w0 η) tv 49 ss.length (flatS ss)) (hr : ∀ r ∈ rs, RcF r) (hq : ∀ r ∈ ss, ShF r) (hn : rs.length ≤ 1000000) (hm : ss.length ≤ 1000000) :
    CallsT Tryz.prog 18 [L.val, .agg #[rv, tv]] (St w0 η) fun v A' => ∃ pv H qv H', v = .tuple #[pv, qv, .int .i64 (faE L rs ss)] ∧ Frag 79 21 pv (faT L rs ss).length (faT L rs ss).flatten H ∧ Frag 112 48 qv (faN L rs ss) (faP L rs ss) H' ∧ A' = St w0 (H ++ (H' ++ η)) := by
  obtain ⟨ra, rc, rfl⟩ := slval hs
  obtain ⟨sa, sc, rfl⟩ := slval ht
  by_cases h0 : kiE L rs.length ss.length = 0
  · by_cases h5 : L.ty ≤ 5
    · obtain ⟨hk, hz⟩ := kiE_A h0 h5
      have e1 : faE L rs ss = (trioF L (rs.map rvV)).2 := by unfold faE; rw [if_pos h0, if_pos h5]
      have e2 : faT L rs ss = (trioF L (rs.map rvV)).1 := by unfold faT; rw [if_pos ⟨h0, h5⟩]
      have e3 : faN L rs ss = 0 := by unfold faN; rw [if_neg fun h => h.2 h5]
      have e4 : faP L rs ss = [] := by unfold faP; rw [if_neg fun h => h.2 h5]
      obtain rfl : ss = [] := List.eq_nil_of_length_eq_zero hz
      refine (rFaces_A w0 η L hk h5 ra sa rc sc rs hs hr hn).mono ?_
      rintro _ _ ⟨pv, H, rfl, hF, rfl⟩
      exact ⟨_, ⟨pv, H, nilS, [], by rw [e1], by rw [e2]; exact hF, by rw [e3, e4]; exact Frag.nil _ _, rfl⟩, fun _ h => h⟩
    · obtain ⟨hk, hz⟩ := kiE_B h0 h5
      have e1 : faE L rs ss = T12.errT L ss.length (flatS ss) := by unfold faE; rw [if_pos h0, if_neg h5]
      have e2 : faT L rs ss = [] := by unfold faT; rw [if_neg fun h => h5 h.2]
      have e3 : faN L rs ss = T12.cntT L ss.length (flatS ss) := by unfold faN; rw [if_pos ⟨h0, h5⟩]
      have e4 : faP L rs ss = T12.outT L ss.length (flatS ss) := by unfold faP; rw [if_pos ⟨h0, h5⟩]
      obtain rfl : rs = [] := List.eq_nil_of_length_eq_zero hz
      refine (rFaces_B w0 η L hk h5 ra sa rc sc ss ht hq hm).mono ?_
      rintro _ _ ⟨pv, H, rfl, hF, rfl⟩
      exact ⟨_, ⟨nilS, [], pv, H, by rw [e1], by rw [e2]; exact Frag.nil _ _, by rw [e3, e4]; exact hF, rfl⟩, fun _ h => h⟩
  · have e1 : faE L rs ss = kiE L rs.length ss.length := by unfold faE; rw [if_neg h0]
    have e2 : faT L rs ss = [] := by unfold faT; rw [if_neg fun h => h0 h.1]
    have e3 : faN L rs ss = 0 := by unfold faN; rw [if_neg fun h => h0 h.1]
    have e4 : faP L rs ss = [] := by unfold faP; rw [if_neg fun h => h0 h.1]
    by_cases hk : okB L = true
    · have hk1 : kiE L rs.length ss.length = 1 ∧ ((L.ty ≤ 5 ∧ 0 < ss.length) ∨ (6 ≤ L.ty ∧ 0 < rs.length)) := by
        unfold kiE at h0 ⊢
        rw [if_pos hk] at h0 ⊢
        by_cases h5 : L.ty ≤ 5
        · rw [if_pos h5] at h0 ⊢
          by_cases hz : ss.length = 0
          · rw [if_pos hz] at h0; exact absurd rfl h0
          · rw [if_neg hz]; exact ⟨rfl, .inl ⟨h5, by omega⟩⟩
        · rw [if_neg h5] at h0 ⊢
          by_cases hz : rs.length = 0
          · rw [if_pos hz] at h0; exact absurd rfl h0
          · rw [if_neg hz]; exact ⟨rfl, .inr ⟨by omega, by omega⟩⟩
      refine (rFaces_wrong w0 η L hk ra sa _ _ rc sc hk1.2).mono ?_
      rintro _ _ ⟨rfl, rfl⟩
      exact ⟨_, ⟨nilS, [], nilS, [], by rw [e1, hk1.1], by rw [e2]; exact Frag.nil _ _, by rw [e3, e4]; exact Frag.nil _ _, rfl⟩, fun _ h => h⟩
    · have hk1 : kiE L rs.length ss.length = 4 := by unfold kiE; rw [if_neg hk]
      refine (rFaces_bad w0 η L (by simpa using hk) ra sa _ _ rc sc).mono ?_
      rintro _ _ ⟨rfl, rfl⟩
      exact ⟨_, ⟨nilS, [], nilS, [], by rw [e1, hk1], by rw [e2]; exact Frag.nil _ _, by rw [e3, e4]; exact Frag.nil _ _, rfl⟩, fun _ h => h⟩
end Go.Proofs.YtjdaglmkljbfkaaGreatDoor
namespace Go.Proofs.YtjdaglmkljbfkaaGreatDoor
open Go Go.Gx Go.RowKit
set_option maxRecDepth 100000
end Go.Proofs.YtjdaglmkljbfkaaGreatDoor
namespace Go.Proofs.YtjdaglmkljbfkaaGreatDoor
open Go Go.Gx Go.RowKit
set_option maxRecDepth 100000
theorem em_no {L : Lay} {rs ss : List (List Nat)} (h : faE L rs ss ≠ 0) : emE L rs ss = faE L rs ss ∧ emO L rs ss = [] := by
  have e : emE L rs ss = faE L rs ss := by
    unfold faE at h ⊢
    unfold emE
    by_cases h0 : kiE L rs.length ss.length = 0
    · rw [if_pos h0] at h
      rw [if_pos h0, if_pos h0]
      by_cases h5 : L.ty ≤ 5
      · rw [if_pos h5] at h
        rw [if_pos h5, if_pos h5]
        unfold ecE; rw [if_neg h]
      · rw [if_neg h5] at h
        rw [if_neg h5, if_neg h5]
        unfold esE; rw [if_neg h]
    · rw [if_neg h0, if_neg h0]
  exact ⟨e, emO_bad (by rw [e]; exact h)⟩
theorem em_A {L : Lay} {rs ss : List (List Nat)} (h : faE L rs ss = 0) (h5 : L.ty ≤ 5) : emE L rs ss = errRP L rs ∧ emO L rs ss = outRP L rs := by
  unfold faE at h
  by_cases h0 : kiE L rs.length ss.length = 0
  · rw [if_pos h0, if_pos h5] at h
    refine ⟨?_, ?_⟩
    · unfold emE; rw [if_pos h0, if_pos h5]; unfold ecE; rw [if_pos h]
    · unfold emO; rw [if_pos h0, if_pos h5, ecO_eq h]
  · rw [if_neg h0] at h; exact absurd h h0
theorem em_B {L : Lay} {rs ss : List (List Nat)} (h : faE L rs ss = 0) (h5 : ¬L.ty ≤ 5) : emE L rs ss = errP L ss ∧ emO L rs ss = outP L ss := by
  unfold faE at h
  by_cases h0 : kiE L rs.length ss.length = 0
  · rw [if_pos h0, if_neg h5] at h
    refine ⟨?_, ?_⟩
    · unfold emE; rw [if_pos h0, if_neg h5]; unfold esE; rw [if_pos h]
    · unfold emO; rw [if_pos h0, if_neg h5, esO_eq h]
  · rw [if_neg h0] at h; exact absurd h h0
set_option maxHeartbeats 1000000 in
theorem rEncode_spec (w0 : Base) (η : Heap) (L : Lay) (rv tv : Value) (rs ss : List (List Nat)) (hs : SlA (St w0 η) rv 7 rs.length (flatR rs)) (ht : SlA (St w0 η) tv 49 ss.length (flatS ss)) (hr : ∀ r ∈ rs, RcF r) (hq : ∀ r ∈ ss, ShF r) (hn : rs.length ≤ 1000000) (hm : ss.length ≤ 1000000) :
    CallsT Tryz.prog 16 [L.val, .agg #[rv, tv]] (St w0 η) fun v A' => ∃ bv H, v = .tuple #[bv, .int .i64 (emE L rs ss)] ∧ Frag 5 1 bv (emO L rs ss).length (byV (emO L rs ss)) H ∧ ∃ X, A' = St w0 (H ++ (X ++ η)) := by
  have hs0 := hs
  have ht0 := ht
  obtain ⟨ra, rc, rfl⟩ := slval hs
  obtain ⟨sa, sc, rfl⟩ := slval ht
  refine CallsT.body Tryz.func16 rfl rfl ?_
  simp only [Tryz.ntmps16, slotsOf, Nat.reduceAdd]
  refine Qe (Qg ?_)
  refine TL_e rfl rfl rfl (rfl) (ET_box rfl rfl) ?_
  rintro _ _ ⟨b2, rfl, rfl⟩
  refine TL_e rfl rfl rfl (rfl) (ET_box rfl rfl) ?_
  rintro _ _ ⟨b3, rfl, rfl⟩
  refine Qa rfl rfl (Qd rfl rfl rfl) ?_
  refine Qa rfl rfl (Qd rfl rfl rfl) ?_
  refine Qf (Qb (Qe ?_))
  refine TC_A (St w0 ((b3, 34, [.slice ra rs.length rc, .slice sa ss.length sc]) :: (b2, 27, L.cells) :: η)) (fun _ h => h) ?_
  refine Qg ?_
  refine Qa rfl rfl (Ql 1 rfl rfl Tryz.underlying27 rfl rfl rfl KF.sz_27) ?_
  refine Qa rfl rfl (Ql 0 rfl rfl Tryz.underlying34 rfl rfl rfl KF.sz_34) ?_
  refine TL_e rfl rfl rfl (rfl) (ET_call rfl KF.cal_18 rfl (rFaces_spec w0 _ L _ _ rs ss (hs0.mono fun _ h => h.tail.tail) (ht0.mono fun _ h => h.tail.tail) hr hq hn hm)) ?_
  rintro _ _ ⟨pv, H1, qv, G1, rfl, hF1, hT1, rfl⟩
  refine Qa rfl rfl (Qc rfl rfl rfl) ?_
  refine Qa rfl rfl (Qx rfl rfl rfl rfl) ?_
  refine Qa rfl rfl (Qx rfl rfl rfl rfl) ?_
  refine Qa rfl rfl (Qx rfl rfl rfl rfl) ?_
  refine Qa rfl rfl (Qd rfl rfl rfl) ?_
  refine Qa rfl rfl (Qd rfl rfl rfl) ?_
  refine Qa rfl rfl (Qd rfl rfl rfl) ?_
  refine Qf (Qb (Qe (Qe ?_)))
  refine TC_A (St w0 ((b3, 34, [.slice ra rs.length rc, .slice sa ss.length sc]) :: (b2, 27, L.cells) :: η)) (fun _ h => h.app_right.app_right) ?_
  refine Qg ?_
  refine Qa rfl rfl (Qc rfl rfl rfl) ?_
  refine Qa rfl rfl (QT_neq rfl rfl rfl rfl) ?_
  refine Qf (Qb ?_)
  refine Qm rfl (fun h17 => ?_) (fun h17 => ?_)
  ·
    refine Qe (Qg ?_)
    refine Qa rfl rfl (Qc rfl rfl rfl) ?_
    refine Qa rfl rfl (Qd rfl rfl rfl) ?_
    refine Qa rfl rfl (Qd rfl rfl rfl) ?_
    refine Qf (Qb ?_)
    refine Qu ?_
    refine Qn ?_
    obtain ⟨e1, e2⟩ := em_no h17
    exact Qs (.inl rfl) (res2 rfl rfl rfl) ⟨_, ⟨nilS, [], by rw [e1]; rfl, by rw [e2]; exact Frag.nil _ _, [], rfl⟩, fun w h => h.tail.tail⟩
  ·
    refine Qt (Qb (Qe (Qe (Qg ?_))))
    refine Qa rfl rfl (Qh rfl rfl KF.fld_27_0 rfl) ?_
    refine Qa rfl rfl (Qj 1 rfl rfl Tryz.underlying3 rfl rfl rfl (fun _ => rfl)) ?_
    refine Qa rfl rfl (QT_leq rfl rfl rfl rfl) ?_
    refine Qf (Qb ?_)
    refine Qm rfl (fun h21 => ?_) (fun h21 => ?_)
    ·
      refine Qe (Qg ?_)
      refine Qa rfl rfl (Ql 1 rfl rfl Tryz.underlying27 rfl rfl rfl KF.sz_27) ?_
      refine Qa rfl rfl (Qh rfl rfl KF.fld_34_0 rfl) ?_
      refine Qa rfl rfl (Qj 0 rfl rfl Tryz.underlying31 rfl rfl rfl (fun _ => rfl)) ?_
      refine TL_e rfl rfl rfl (rfl) (ET_call rfl KF.cal_79 rfl (rrput_spec w0 _ L _ rs (hs0.mono fun _ h => h.tail.tail) hr (by omega))) ?_
      rintro _ _ ⟨bv, H2, rfl, hF2, rfl⟩
      refine Qa rfl rfl (Qx rfl rfl rfl rfl) ?_
      refine Qa rfl rfl (Qx rfl rfl rfl rfl) ?_
      refine Qa rfl rfl (Qd rfl rfl rfl) ?_
      refine Qa rfl rfl (Qd rfl rfl rfl) ?_
      refine Qf (Qb ?_)
      refine Qu ?_
      refine Qn ?_
      obtain ⟨e1, e2⟩ := em_A (Classical.not_not.1 h17) (by assumption)
      exact Qs (.inl rfl) (res2 rfl rfl rfl) ⟨_, ⟨bv, H2, by rw [e1]; rfl, by rw [e2]; exact hF2, [], rfl⟩, fun w h => h.cnt fun p => by simp only [List.countP_append, List.countP_cons, List.countP_nil]; omega⟩
    ·
      refine Qt (Qb (Qe (Qg ?_)))
      refine Qa rfl rfl (Ql 1 rfl rfl Tryz.underlying27 rfl rfl rfl KF.sz_27) ?_
      refine Qa rfl rfl (Qh rfl rfl KF.fld_34_1 rfl) ?_
      refine Qa rfl rfl (Qj 0 rfl rfl Tryz.underlying32 rfl rfl rfl (fun _ => rfl)) ?_
      refine TL_e rfl rfl rfl (rfl) (ET_call rfl KF.cal_80 rfl (rsput_spec w0 _ L _ ss (ht0.mono fun _ h => h.tail.tail) hq (by omega))) ?_
      rintro _ _ ⟨bv, H2, rfl, hF2, rfl⟩
      refine Qa rfl rfl (Qx rfl rfl rfl rfl) ?_
      refine Qa rfl rfl (Qx rfl rfl rfl rfl) ?_
      refine Qa rfl rfl (Qd rfl rfl rfl) ?_
      refine Qa rfl rfl (Qd rfl rfl rfl) ?_
      refine Qf (Qb ?_)
      refine Qu ?_
      obtain ⟨e1, e2⟩ := em_B (Classical.not_not.1 h17) (by assumption)
      exact Qs (.inl rfl) (res2 rfl rfl rfl) ⟨_, ⟨bv, H2, by rw [e1]; rfl, by rw [e2]; exact hF2, [], rfl⟩, fun w h => h.cnt fun p => by simp only [List.countP_append, List.countP_cons, List.countP_nil]; omega⟩
end Go.Proofs.YtjdaglmkljbfkaaGreatDoor
namespace Go.Proofs.YtjdaglmkljbfkaaGreatDoor
open Go Go.Gx Go.RowKit
set_option maxRecDepth 100000
set_option maxHeartbeats 1000000 in
theorem book_Mesh (w0 : Base) (η HR HS : Heap) (kb : Nat) (k : Bk) (sr ss : List Strip) (rv tv : Value) (n m : Nat) (xs ys : List Value) (Hv Gv : Heap) (h0 : 0 ≤ k.many ∧ k.many ≤ 900) (hF : Frag 186 9 k.recs sr.length (arrOf sr) HR) (hs : ∀ s ∈ sr, s.ok 77 7 recK) (hsl : sr.length ≤ 900)
    (hF2 : Frag 188 51 k.sheets ss.length (arrOf ss) HS) (hs2 : ∀ s ∈ ss, s.ok 102 49 sheetK) (hsl2 : ss.length ≤ 900) (hv : ∃ ad n cap, rv = .slice ad n cap) (hv2 : ∃ ad n cap, tv = .slice ad n cap) :
    CallsT Tryz.prog 10 [.pointer (some ⟨kb, 0, none⟩), .agg #[rv, tv]] (St w0 ((kb, 52, k.cells) :: (HR ++ (HS ++ η)))) fun _ A' => ∃ r HR' s HS', Frag 186 9 r (sr.length + 1) (arrOf (sr ++ [⟨rv, n, xs, nilS, rcMark (k.many + 1), Hv⟩])) HR' ∧
      Frag 188 51 s (ss.length + 1) (arrOf (ss ++ [⟨tv, m, ys, nilS, shMark (k.many + 1 + 1), Gv⟩])) HS' ∧ A' = St w0 ((kb, 52, { k with many := k.many + 1 + 1, recs := r, sheets := s }.cells) :: (HR' ++ (HS' ++ η))) := by
  obtain ⟨rad, rn, rcap, rfl⟩ := hv
  obtain ⟨tad, tn, tcap, rfl⟩ := hv2
  refine CallsT.body Tryz.func10 rfl rfl ?_
  simp only [Tryz.ntmps10, slotsOf, Nat.reduceAdd]
  refine Qe (Qg ?_)
  refine TL_e rfl rfl rfl (rfl) (ET_box rfl rfl) ?_
  rintro _ _ ⟨b3, rfl, rfl⟩
  refine Qf (Qb (Qe ?_))
  refine TC_A (St w0 ((b3, 34, [.slice rad rn rcap, .slice tad tn tcap]) :: (kb, 52, k.cells) :: (HR ++ (HS ++ η)))) (fun _ h => h) ?_
  refine Qg ?_
  refine Qa rfl rfl (Qc rfl rfl rfl) ?_
  refine Qa rfl rfl (Qh rfl rfl KF.fld_34_0 rfl) ?_
  refine Qa rfl rfl (Qj 0 rfl rfl Tryz.underlying31 rfl rfl rfl (fun _ => rfl)) ?_
  refine TL_A (St w0 ((kb, 52, k.cells) :: (HR ++ ((b3, 34, [.slice rad rn rcap, .slice tad tn tcap]) :: (HS ++ η))))) (fun _ h => h.cnt fun p => by simp only [List.countP_append, List.countP_cons, List.countP_nil]; omega) ?_
  refine TL_e rfl rfl rfl (rfl) (ET_call rfl KF.cal_32 rfl (book_Recs w0 _ HR kb k sr _ n xs Hv (by omega) hF hs (by omega) ⟨_, _, _, rfl⟩)) ?_
  rintro _ _ ⟨r1, HR', hF1, rfl⟩
  refine Qf (Qb ?_)
  refine TC_A (St w0 ((b3, 34, [.slice rad rn rcap, .slice tad tn tcap]) :: (kb, 52, Bk.cells { k with many := k.many + 1, recs := r1 }) :: (HR' ++ (HS ++ η)))) (fun _ h => h.cnt fun p => by simp only [List.countP_append, List.countP_cons, List.countP_nil]; omega) ?_
  refine Qg ?_
  refine Qa rfl rfl (Qc rfl rfl rfl) ?_
  refine Qa rfl rfl (Qh rfl rfl KF.fld_34_1 rfl) ?_
  refine Qa rfl rfl (Qj 0 rfl rfl Tryz.underlying32 rfl rfl rfl (fun _ => rfl)) ?_
  refine TL_A (St w0 ((kb, 52, Bk.cells { k with many := k.many + 1, recs := r1 }) :: (HS ++ ((b3, 34, [.slice rad rn rcap, .slice tad tn tcap]) :: (HR' ++ η))))) (fun _ h => h.cnt fun p => by simp only [List.countP_append, List.countP_cons, List.countP_nil]; omega) ?_
  refine TL_e rfl rfl rfl (rfl) (ET_call rfl KF.cal_33 rfl (book_Sheets w0 _ HS kb { k with many := k.many + 1, recs := r1 } ss _ m ys Gv (by dsimp only; omega) hF2 hs2 (by omega) ⟨_, _, _, rfl⟩)) ?_
  rintro _ _ ⟨r2, HS', hF3, rfl⟩
  refine Qf ?_
  exact Qs (.inr rfl) (res0 rfl) ⟨_, ⟨r1, HR', r2, HS', hF1, hF3, rfl⟩, fun _ h => h.cnt fun p => by simp only [List.countP_append, List.countP_cons, List.countP_nil]; omega⟩
set_option maxHeartbeats 1000000 in
theorem twin_Mesh (w0 : Base) (η : Heap) (rv tv : Value) (n m : Nat) (xs ys : List Value) (ha : SlA (St w0 η) rv recK.length n xs) (hi : Ints (rep n recK) xs) (hn : n ≤ 1000000) (hb : SlA (St w0 η) tv sheetK.length m ys) (hj : Ints (rep m sheetK) ys) (hm : m ≤ 1000000) :
    CallsT Tryz.prog 14 [.agg #[rv, tv]] (St w0 η) fun v A' => ∃ b c, v = .agg #[.slice (some ⟨b, 0, none⟩) n (n + 3), .slice (some ⟨c, 0, none⟩) m (m + 3)] ∧ A' = St w0 ((c, 102, ys ++ (mark_Sheet ++ (mark_Sheet ++ mark_Sheet))) :: (b, 77, xs ++ (mark_Rec ++ (mark_Rec ++ mark_Rec))) :: η) := by
  have ha0 := ha
  have hb0 := hb
  obtain ⟨rad, rcap, rfl⟩ := slval ha
  obtain ⟨tad, tcap, rfl⟩ := slval hb
  refine CallsT.body Tryz.func14 rfl rfl ?_
  simp only [Tryz.ntmps14, slotsOf, Nat.reduceAdd]
  refine Qe (Qg ?_)
  refine TL_e rfl rfl rfl (rfl) (ET_box rfl rfl) ?_
  rintro _ _ ⟨b1, rfl, rfl⟩
  refine TL_e rfl rfl rfl (rfl) (ET_alloc rfl KF.zero_34) ?_
  rintro _ _ ⟨b2, rfl, rfl⟩
  refine Qf (Qb (Qe ?_))
  refine TC_A (St w0 ((b2, 34, [nilS, nilS]) :: (b1, 34, [.slice rad n rcap, .slice tad m tcap]) :: η)) (fun _ h => h) ?_
  refine TC_draw [(0, 0), (1, 0), (3, 0), (4, 0), (2, 1), (5, 1), (6, 0), (7, 1)] KF.mixed (by kernel_rfl) (St.calm _ _) ?_
  refine Qk rfl rfl rfl (fun _ => Qh rfl rfl KF.fld_34_0 rfl) ?_
  refine Qz rfl rfl rfl (Qj 1 rfl rfl Tryz.underlying31 rfl rfl rfl (fun _ => rfl)) ?_
  refine Qk rfl rfl rfl (fun _ => Qh rfl rfl KF.fld_34_1 rfl) ?_
  refine Qz rfl rfl rfl (Qj 1 rfl rfl Tryz.underlying32 rfl rfl rfl (fun _ => rfl)) ?_
  refine TV_e rfl rfl rfl rfl (rfl) (ET_call rfl KF.cal_76 rfl (twin_Recs w0 _ _ n xs (ha0.mono fun _ h => h.tail.tail) hi hn)) ?_
  rintro _ _ ⟨b5, rfl, rfl⟩
  refine ⟨_, .keep (by kernel_rfl) rfl (by first | exact Qj 0 rfl rfl Tryz.underlying32 rfl rfl rfl (fun _ => rfl) | exact Qj 1 rfl rfl Tryz.underlying32 rfl rfl rfl (fun _ => rfl) | exact Qj 2 rfl rfl Tryz.underlying32 rfl rfl rfl (fun _ => rfl)) (.drop (by kernel_rfl) (.nil)), ?_⟩
  refine TV_e rfl rfl rfl rfl (rfl) (ET_call rfl KF.cal_77 rfl (twin_Sheets w0 _ _ m ys (hb0.mono fun _ h => h.tail.tail.tail) hj hm)) ?_
  rintro _ _ ⟨b8, rfl, rfl⟩
  refine ⟨_, .drop (by kernel_rfl) (.nil), ?_⟩
  refine Qk rfl rfl rfl (fun _ => QT_build rfl rfl KF.zero_34 KF.pl_34 rfl rfl rfl) ?_
  refine TV_e0 rfl rfl rfl (rfl) (ET_storeW 2 rfl rfl rfl KF.sz_34 rfl rfl rfl) ?_
  rintro _ _ ⟨rfl, rfl⟩
  refine ⟨_, .nil, ?_⟩
  refine TV_end (Qb ?_)
  refine Qu ?_
  exact Qs (.inl rfl) (resC 2 rfl rfl Tryz.underlying34 rfl rfl KF.sz_34) ⟨_, ⟨b5, b8, rfl, rfl⟩, fun _ h => h.cnt fun p => by simp only [upd, List.countP_append, List.countP_cons, List.countP_nil]; omega⟩
set_option maxHeartbeats 1000000 in
theorem left_Mesh (w0 : Base) (η : Heap) (rv tv : Value) (b c n m : Nat) (xs ys : List Value) (ha : SlA (St w0 η) rv recK.length n xs) (hbm : (b, 77, xs ++ (mark_Rec ++ (mark_Rec ++ mark_Rec))) ∈ η) (hi : Ints (rep n recK) xs) (hn : n ≤ 1000000)
    (hb : SlA (St w0 η) tv sheetK.length m ys) (hcm : (c, 102, ys ++ (mark_Sheet ++ (mark_Sheet ++ mark_Sheet))) ∈ η) (hj : Ints (rep m sheetK) ys) (hm : m ≤ 1000000) :
    CallsT Tryz.prog 24 [.agg #[.slice (some ⟨b, 0, none⟩) n (n + 3), .slice (some ⟨c, 0, none⟩) m (m + 3)], .agg #[rv, tv]] (St w0 η) fun v A' => v = .bool true ∧ A' = St w0 η := by
  have ha0 := ha
  have hb0 := hb
  obtain ⟨rad, rcap, rfl⟩ := slval ha
  obtain ⟨tad, tcap, rfl⟩ := slval hb
  refine CallsT.body Tryz.func24 rfl rfl ?_
  simp only [Tryz.ntmps24, slotsOf, Nat.reduceAdd]
  refine Qe (Qg ?_)
  refine TL_e rfl rfl rfl (rfl) (ET_box rfl rfl) ?_
  rintro _ _ ⟨b2, rfl, rfl⟩
  refine TL_e rfl rfl rfl (rfl) (ET_box rfl rfl) ?_
  rintro _ _ ⟨b3, rfl, rfl⟩
  refine Qa rfl rfl (Qd rfl rfl rfl) ?_
  refine Qf (Qb (Qe ?_))
  refine TC_A (St w0 ((b3, 34, [.slice rad n rcap, .slice tad m tcap]) :: (b2, 34, [.slice (some ⟨b, 0, none⟩) n (n + 3), .slice (some ⟨c, 0, none⟩) m (m + 3)]) :: η)) (fun _ h => h) ?_
  refine Qg ?_
  refine Qa rfl rfl (Qh rfl rfl KF.fld_34_0 rfl) ?_
  refine Qa rfl rfl (Qj 1 rfl rfl Tryz.underlying31 rfl rfl rfl (fun _ => rfl)) ?_
  refine Qa rfl rfl (Qh rfl rfl KF.fld_34_0 rfl) ?_
  refine Qa rfl rfl (Qj 0 rfl rfl Tryz.underlying31 rfl rfl rfl (fun _ => rfl)) ?_
  refine TL_cq rfl rfl rfl rfl KF.cal_88 rfl (fun _ => left_Recs w0 _ _ b n xs (ha0.mono fun _ h => h.tail.tail) (List.mem_cons_of_mem _ (List.mem_cons_of_mem _ hbm)) hi hn) ?_
  refine Qa rfl rfl (Qc rfl rfl rfl) ?_
  refine Qa rfl rfl (Qh rfl rfl KF.fld_34_1 rfl) ?_
  refine Qa rfl rfl (Qj 1 rfl rfl Tryz.underlying32 rfl rfl rfl (fun _ => rfl)) ?_
  refine Qa rfl rfl (Qh rfl rfl KF.fld_34_1 rfl) ?_
  refine Qa rfl rfl (Qj 0 rfl rfl Tryz.underlying32 rfl rfl rfl (fun _ => rfl)) ?_
  refine TL_cq rfl rfl rfl rfl KF.cal_89 rfl (fun _ => left_Sheets w0 _ _ c m ys (hb0.mono fun _ h => h.tail.tail) (List.mem_cons_of_mem _ (List.mem_cons_of_mem _ hcm)) hj hm) ?_
  refine Qa rfl rfl (QT_and rfl rfl rfl rfl) ?_
  refine Qa rfl rfl (Qd rfl rfl rfl) ?_
  refine Qf (Qb ?_)
  refine Qu ?_
  exact Qs (.inl rfl) (res1 rfl rfl) ⟨_, ⟨rfl, rfl⟩, fun _ h => h.tail.tail⟩
theorem faT_ints {L : Lay} {rs ss : List (List Nat)} (hr : ∀ r ∈ rs, RcF r) : Ints (rep (faT L rs ss).length triK) (faT L rs ss).flatten ∧ (faT L rs ss).length ≤ 2 * rs.length := by
 unfold faT
 split
 · exact ⟨trisM_flat (all7R hr), by have := (trio_ints (L := L) (all7R hr)).2; rwa [List.length_map] at this⟩
 · exact ⟨.nil, Nat.zero_le _⟩
theorem faP_ints {L : Lay} {rs ss : List (List Nat)} (hq : ∀ r ∈ ss, ShF r) : Ints (rep (faN L rs ss) patchK) (faP L rs ss) ∧ faN L rs ss ≤ ss.length := by
 unfold faN faP
 split
 · exact ⟨T12.outT_ints (flatS_ints hq), by unfold T12.cntT; split <;> omega⟩
 · exact ⟨.nil, Nat.zero_le _⟩
end Go.Proofs.YtjdaglmkljbfkaaGreatDoor
namespace Go.Proofs.YtjdaglmkljbfkaaGreatDoor
open Go Go.Gx Go.RowKit
set_option maxRecDepth 100000
end Go.Proofs.YtjdaglmkljbfkaaGreatDoor
namespace Go.Proofs.YtjdaglmkljbfkaaGreatDoor
open Go Go.Gx Go.RowKit
set_option maxRecDepth 100000
set_option maxHeartbeats 8000000 in
theorem law_streamsMesh (w0 : Base) (η : Heap) (hG : Sets w0) (hE : T12.Edges w0) (L : Lay) (rv tv : Value) (rs ss : List (List Nat)) (hs : SlA (St w0 η) rv 7 rs.length (flatR rs)) (ht : SlA (St w0 η) tv 49 ss.length (flatS ss)) (hr : ∀ r ∈ rs, RcF r) (hq : ∀ r ∈ ss, ShF r) :
    CallsT Tryz.prog 4 [L.val, .agg #[rv, tv]] (St w0 η) fun v A' => v = .bool true ∧ A' = St w0 η := by
  have hs0 := hs
  have ht0 := ht
  have hxl := hs.1
  have hyl := ht.1
  obtain ⟨ra, rc, rfl⟩ := slval hs
  obtain ⟨sa, sc, rfl⟩ := slval ht
  have hri := flatR_ints hr
  have hqi := flatS_ints hq
  refine CallsT.body Tryz.func4 rfl rfl ?_
  simp only [Tryz.ntmps4, slotsOf, Nat.reduceAdd]
  refine Qe (Qg ?_)
  refine TL_e rfl rfl rfl (rfl) (ET_box rfl rfl) ?_
  rintro _ _ ⟨b2, rfl, rfl⟩
  refine TL_e rfl rfl rfl (rfl) (ET_box rfl rfl) ?_
  rintro _ _ ⟨b3, rfl, rfl⟩
  refine Qa rfl rfl (Qd rfl rfl rfl) ?_
  refine Qf (Qb (Qe (Qe ?_)))
  refine TC_A (St w0 ((b3, 34, [.slice ra rs.length rc, .slice sa ss.length sc]) :: ((b2, 27, L.cells) :: η))) (fun _ h => h) ?_
  refine Qg ?_
  refine Qa rfl rfl (Qh rfl rfl KF.fld_34_0 rfl) ?_
  refine Qa rfl rfl (Qj 0 rfl rfl Tryz.underlying31 rfl rfl rfl (fun _ => rfl)) ?_
  refine Qa rfl rfl (Za rfl rfl Tryz.underlying31 rfl) ?_
  refine Qa rfl rfl (QT_gtr rfl rfl rfl rfl) ?_
  refine Qa rfl rfl (Qc rfl rfl rfl) ?_
  refine Qa rfl rfl (Qh rfl rfl KF.fld_34_1 rfl) ?_
  refine Qa rfl rfl (Qj 0 rfl rfl Tryz.underlying32 rfl rfl rfl (fun _ => rfl)) ?_
  refine Qa rfl rfl (Za rfl rfl Tryz.underlying32 rfl) ?_
  refine Qa rfl rfl (QT_gtr rfl rfl rfl rfl) ?_
  refine Qa rfl rfl (QT_or rfl rfl rfl rfl) ?_
  refine Qf (Qb ?_)
  refine TC_cond rfl (fun h26 => ?_) (fun h26 => ?_)
  ·
    refine Qe (Qg ?_)
    refine TL_cq rfl rfl rfl rfl KF.cal_5 rfl (fun _ => lives13 w0 _ hG hE) ?_
    refine Qa rfl rfl (Qd rfl rfl rfl) ?_
    refine Qf (Qb ?_)
    refine Qu ?_
    refine Qn ?_
    exact Qs (.inl rfl) (res1 rfl rfl) ⟨_, ⟨rfl, rfl⟩, fun _ h => h.tail.tail⟩
  ·
    refine Qt (Qb (Qe ?_))
    have hn : rs.length ≤ 300 ∧ ss.length ≤ 40 := by simp at h26; omega
    have hol := emO_len L rs ss
    have hlt : ∀ c ∈ emO L rs ss, c < 256 := emO_lt
    obtain ⟨hti, htl⟩ := faT_ints (L := L) (ss := ss) hr
    obtain ⟨hpi, hpl⟩ := faP_ints (L := L) (rs := rs) hq
    have hEnc := fun (X : Heap) (a b : Value) (h1 : SlA (St w0 X) a 7 rs.length (flatR rs)) (h2 : SlA (St w0 X) b 49 ss.length (flatS ss)) => Encode_spec w0 X hG hE L a b rs ss h1 h2 hr hq (by omega) (by omega)
    have hrEnc := fun (X : Heap) (a b : Value) (h1 : SlA (St w0 X) a 7 rs.length (flatR rs)) (h2 : SlA (St w0 X) b 49 ss.length (flatS ss)) => rEncode_spec w0 X L a b rs ss h1 h2 hr hq (by omega) (by omega)
    have hFa := fun (X : Heap) (a b : Value) (h1 : SlA (St w0 X) a 7 rs.length (flatR rs)) (h2 : SlA (St w0 X) b 49 ss.length (flatS ss)) => Faces_spec w0 X hG hE L a b rs ss h1 h2 hr hq (by omega) (by omega)
    have hrFa := fun (X : Heap) (a b : Value) (h1 : SlA (St w0 X) a 7 rs.length (flatR rs)) (h2 : SlA (St w0 X) b 49 ss.length (flatS ss)) => rFaces_spec w0 X L a b rs ss h1 h2 hr hq (by omega) (by omega)
    generalize hEE : emE L rs ss = E at *
    generalize hCE : emO L rs ss = cs at *
    generalize hFE : faE L rs ss = F at *
    generalize hTE : faT L rs ss = ts at *
    generalize hNE : faN L rs ss = np at *
    generalize hPE : faP L rs ss = ps at *
    refine TC_A (St w0 ((b3, 34, [.slice ra rs.length rc, .slice sa ss.length sc]) :: ((b2, 27, L.cells) :: η))) (fun _ h => h) ?_
    refine Qg ?_
    refine Qa rfl rfl (Ql 0 rfl rfl Tryz.underlying34 rfl rfl rfl KF.sz_34) ?_
    refine TL_e rfl rfl rfl (rfl) (ET_call rfl KF.cal_14 rfl (twin_Mesh w0 _ _ _ rs.length ss.length (flatR rs) (flatS ss) (hs0.mono fun _ h => h.tail.tail) hri (by omega) (ht0.mono fun _ h => h.tail.tail) hqi (by omega))) ?_
    rintro _ _ ⟨tb, tc, rfl, rfl⟩
    refine TL_e rfl rfl rfl (rfl) (ET_alloc rfl KF.zero_34) ?_
    rintro _ _ ⟨b5, rfl, rfl⟩
    refine TL_e0 rfl rfl (rfl) (ET_storeW 0 rfl rfl rfl KF.sz_34 rfl rfl rfl) ?_
    rintro _ _ ⟨rfl, rfl⟩
    refine Qf (Qb (Qe ?_))
    have hTRf : Frag 77 7 (.slice (some ⟨tb, 0, none⟩) rs.length (rs.length + 3)) rs.length (flatR rs) [(tb, 77, flatR rs ++ (mark_Rec ++ (mark_Rec ++ mark_Rec)))] := twinFragRR hxl rfl (by omega)
    have hTSf : Frag 102 49 (.slice (some ⟨tc, 0, none⟩) ss.length (ss.length + 3)) ss.length (flatS ss) [(tc, 102, flatS ss ++ (mark_Sheet ++ (mark_Sheet ++ mark_Sheet)))] := twinFragS hyl rfl (by omega)
    refine TC_A (St w0 ((b5, 34, [.slice (some ⟨tb, 0, none⟩) rs.length (rs.length + 3), .slice (some ⟨tc, 0, none⟩) ss.length (ss.length + 3)]) :: ((tc, 102, flatS ss ++ (mark_Sheet ++ (mark_Sheet ++ mark_Sheet))) :: ((tb, 77, flatR rs ++ (mark_Rec ++ (mark_Rec ++ mark_Rec))) :: ((b3, 34, [.slice ra rs.length rc, .slice sa ss.length sc]) :: ((b2, 27, L.cells) :: η)))))) (fun _ h => h) ?_
    refine TC_A (St w0 ((b5, 34, [.slice (some ⟨tb, 0, none⟩) rs.length (rs.length + 3), .slice (some ⟨tc, 0, none⟩) ss.length (ss.length + 3)]) :: ((b3, 34, [.slice ra rs.length rc, .slice sa ss.length sc]) :: ((b2, 27, L.cells) :: ((tc, 102, flatS ss ++ (mark_Sheet ++ (mark_Sheet ++ mark_Sheet))) :: ((tb, 77, flatR rs ++ (mark_Rec ++ (mark_Rec ++ mark_Rec))) :: η)))))) (fun _ h => h.cnt fun p => by simp only [upd, List.countP_append, List.countP_cons, List.countP_nil]; omega) ?_
    refine Qg ?_
    refine Qa rfl rfl (Ql 2 rfl rfl Tryz.underlying27 rfl rfl rfl KF.sz_27) ?_
    refine Qa rfl rfl (Ql 0 rfl rfl Tryz.underlying34 rfl rfl rfl KF.sz_34) ?_
    refine TL_e rfl rfl rfl (rfl) (ET_call rfl KF.cal_15 rfl (hEnc _ _ _ (hTRf.within fun p => by simp only [List.countP_append, List.countP_cons, List.countP_nil]; omega) (hTSf.within fun p => by simp only [List.countP_append, List.countP_cons, List.countP_nil]; omega))) ?_
    rintro _ _ ⟨bv, H1, rfl, hF1, rfl⟩
    refine Qa rfl rfl (Qc rfl rfl rfl) ?_
    refine Qa rfl rfl (Qx rfl rfl rfl rfl) ?_
    refine Qa rfl rfl (Qx rfl rfl rfl rfl) ?_
    refine Qa rfl rfl (Qd rfl rfl rfl) ?_
    refine Qa rfl rfl (Qd rfl rfl rfl) ?_
    refine Qf (Qb (Qe ?_))
    obtain ⟨bad, bcap, rfl, _, _⟩ := hF1.slice
    refine TC_A (St w0 ((b5, 34, [.slice (some ⟨tb, 0, none⟩) rs.length (rs.length + 3), .slice (some ⟨tc, 0, none⟩) ss.length (ss.length + 3)]) :: ((b3, 34, [.slice ra rs.length rc, .slice sa ss.length sc]) :: ((b2, 27, L.cells) :: ((tc, 102, flatS ss ++ (mark_Sheet ++ (mark_Sheet ++ mark_Sheet))) :: ((tb, 77, flatR rs ++ (mark_Rec ++ (mark_Rec ++ mark_Rec))) :: (H1 ++ η))))))) (fun _ h => h.cnt fun p => by simp only [upd, List.countP_append, List.countP_cons, List.countP_nil]; omega) ?_
    refine Qg ?_
    refine Qa rfl rfl (Ql 2 rfl rfl Tryz.underlying27 rfl rfl rfl KF.sz_27) ?_
    refine Qa rfl rfl (Ql 1 rfl rfl Tryz.underlying34 rfl rfl rfl KF.sz_34) ?_
    refine TL_e rfl rfl rfl (rfl) (ET_call rfl KF.cal_16 rfl (hrEnc _ _ _ (hs0.mono fun _ h => h.tail.tail.tail.tail.tail.app_right) (ht0.mono fun _ h => h.tail.tail.tail.tail.tail.app_right))) ?_
    rintro _ _ ⟨cv, H2, rfl, hF2, X2, rfl⟩
    refine Qa rfl rfl (Qc rfl rfl rfl) ?_
    refine Qa rfl rfl (Qx rfl rfl rfl rfl) ?_
    refine Qa rfl rfl (Qx rfl rfl rfl rfl) ?_
    refine Qa rfl rfl (Qd rfl rfl rfl) ?_
    refine Qa rfl rfl (Qd rfl rfl rfl) ?_
    refine Qf (Qb (Qe ?_))
    obtain ⟨cad, ccap, rfl, _, _⟩ := hF2.slice
    refine TC_A (St w0 ((b5, 34, [.slice (some ⟨tb, 0, none⟩) rs.length (rs.length + 3), .slice (some ⟨tc, 0, none⟩) ss.length (ss.length + 3)]) :: ((b3, 34, [.slice ra rs.length rc, .slice sa ss.length sc]) :: ((b2, 27, L.cells) :: ((tc, 102, flatS ss ++ (mark_Sheet ++ (mark_Sheet ++ mark_Sheet))) :: ((tb, 77, flatR rs ++ (mark_Rec ++ (mark_Rec ++ mark_Rec))) :: (H1 ++ (H2 ++ η)))))))) (fun _ h => h.cnt fun p => by simp only [upd, List.countP_append, List.countP_cons, List.countP_nil]; omega) ?_
    refine Qg ?_
    refine Qa rfl rfl (Ql 2 rfl rfl Tryz.underlying27 rfl rfl rfl KF.sz_27) ?_
    refine Qa rfl rfl (Ql 0 rfl rfl Tryz.underlying34 rfl rfl rfl KF.sz_34) ?_
    refine TL_e rfl rfl rfl (rfl) (ET_call rfl KF.cal_17 rfl (hFa _ _ _ (hTRf.within fun p => by simp only [List.countP_append, List.countP_cons, List.countP_nil]; omega) (hTSf.within fun p => by simp only [List.countP_append, List.countP_cons, List.countP_nil]; omega))) ?_
    rintro _ _ ⟨pv, H3, qv, G3, rfl, hF3, hT3, X3, rfl⟩
    refine Qa rfl rfl (Qc rfl rfl rfl) ?_
    refine Qa rfl rfl (Qx rfl rfl rfl rfl) ?_
    refine Qa rfl rfl (Qx rfl rfl rfl rfl) ?_
    refine Qa rfl rfl (Qx rfl rfl rfl rfl) ?_
    refine Qa rfl rfl (Qd rfl rfl rfl) ?_
    refine Qa rfl rfl (Qd rfl rfl rfl) ?_
    refine Qa rfl rfl (Qd rfl rfl rfl) ?_
    refine Qf (Qb (Qe ?_))
    obtain ⟨pad, pcap, rfl, _, _⟩ := hF3.slice
    obtain ⟨qad, qcap, rfl, _, _⟩ := hT3.slice
    refine TC_A (St w0 ((b5, 34, [.slice (some ⟨tb, 0, none⟩) rs.length (rs.length + 3), .slice (some ⟨tc, 0, none⟩) ss.length (ss.length + 3)]) :: ((b3, 34, [.slice ra rs.length rc, .slice sa ss.length sc]) :: ((b2, 27, L.cells) :: ((tc, 102, flatS ss ++ (mark_Sheet ++ (mark_Sheet ++ mark_Sheet))) :: ((tb, 77, flatR rs ++ (mark_Rec ++ (mark_Rec ++ mark_Rec))) :: (H1 ++ (H2 ++ (H3 ++ (G3 ++ η)))))))))) (fun _ h => h.cnt fun p => by simp only [upd, List.countP_append, List.countP_cons, List.countP_nil]; omega) ?_
    refine Qg ?_
    refine Qa rfl rfl (Ql 2 rfl rfl Tryz.underlying27 rfl rfl rfl KF.sz_27) ?_
    refine Qa rfl rfl (Ql 1 rfl rfl Tryz.underlying34 rfl rfl rfl KF.sz_34) ?_
    refine TL_e rfl rfl rfl (rfl) (ET_call rfl KF.cal_18 rfl (hrFa _ _ _ (hs0.mono fun _ h => h.tail.tail.tail.tail.tail.app_right.app_right.app_right.app_right) (ht0.mono fun _ h => h.tail.tail.tail.tail.tail.app_right.app_right.app_right.app_right))) ?_
    rintro _ _ ⟨uv, H4, wv, G4, rfl, hF4, hT4, rfl⟩
    refine Qa rfl rfl (Qc rfl rfl rfl) ?_
    refine Qa rfl rfl (Qx rfl rfl rfl rfl) ?_
    refine Qa rfl rfl (Qx rfl rfl rfl rfl) ?_
    refine Qa rfl rfl (Qx rfl rfl rfl rfl) ?_
    refine Qa rfl rfl (Qd rfl rfl rfl) ?_
    refine Qa rfl rfl (Qd rfl rfl rfl) ?_
    refine Qa rfl rfl (Qd rfl rfl rfl) ?_
    refine Qf (Qb (Qe ?_))
    obtain ⟨uad, ucap, rfl, _, _⟩ := hF4.slice
    obtain ⟨wad, wcap, rfl, _, _⟩ := hT4.slice
    refine TC_A (St w0 ((b5, 34, [.slice (some ⟨tb, 0, none⟩) rs.length (rs.length + 3), .slice (some ⟨tc, 0, none⟩) ss.length (ss.length + 3)]) :: ((b3, 34, [.slice ra rs.length rc, .slice sa ss.length sc]) :: ((tc, 102, flatS ss ++ (mark_Sheet ++ (mark_Sheet ++ mark_Sheet))) :: ((tb, 77, flatR rs ++ (mark_Rec ++ (mark_Rec ++ mark_Rec))) :: (H1 ++ (H2 ++ (H3 ++ (G3 ++ (H4 ++ (G4 ++ η))))))))))) (fun _ h => h.cnt fun p => by simp only [upd, List.countP_append, List.countP_cons, List.countP_nil]; omega) ?_
    refine Qg ?_
    refine Qa rfl rfl (QT_build rfl rfl KF.zero_52 KF.pl_52 rfl rfl rfl) ?_
    refine TL_e rfl rfl rfl (rfl) (ET_alloc rfl KF.zero_52) ?_
    rintro _ _ ⟨b16, rfl, rfl⟩
    refine TL_e0 rfl rfl (rfl) (ET_storeW 0 rfl rfl rfl KF.sz_52 rfl rfl rfl) ?_
    rintro _ _ ⟨rfl, rfl⟩
    refine Qf (Qb (Qe ?_))
    refine TC_A (St w0 ((b16, 52, Bk.new.cells) :: ((b5, 34, [.slice (some ⟨tb, 0, none⟩) rs.length (rs.length + 3), .slice (some ⟨tc, 0, none⟩) ss.length (ss.length + 3)]) :: ((b3, 34, [.slice ra rs.length rc, .slice sa ss.length sc]) :: ((tc, 102, flatS ss ++ (mark_Sheet ++ (mark_Sheet ++ mark_Sheet))) :: ((tb, 77, flatR rs ++ (mark_Rec ++ (mark_Rec ++ mark_Rec))) :: (H1 ++ (H2 ++ (H3 ++ (G3 ++ (H4 ++ (G4 ++ η)))))))))))) (fun w h => by rw [newCells]; exact h) ?_
    refine TC_A (St w0 ((b5, 34, [.slice (some ⟨tb, 0, none⟩) rs.length (rs.length + 3), .slice (some ⟨tc, 0, none⟩) ss.length (ss.length + 3)]) :: ((b16, 52, Bk.new.cells) :: ((b3, 34, [.slice ra rs.length rc, .slice sa ss.length sc]) :: ((tc, 102, flatS ss ++ (mark_Sheet ++ (mark_Sheet ++ mark_Sheet))) :: ((tb, 77, flatR rs ++ (mark_Rec ++ (mark_Rec ++ mark_Rec))) :: (H1 ++ (H2 ++ (H3 ++ (G3 ++ (H4 ++ (G4 ++ η)))))))))))) (fun _ h => h.cnt fun p => by simp only [upd, List.countP_append, List.countP_cons, List.countP_nil]; omega) ?_
    refine Qg ?_
    refine Qa rfl rfl (Ql 0 rfl rfl Tryz.underlying34 rfl rfl rfl KF.sz_34) ?_
    refine TL_A (St w0 ((b16, 52, Bk.new.cells) :: ([] ++ ([] ++ ((b5, 34, [.slice (some ⟨tb, 0, none⟩) rs.length (rs.length + 3), .slice (some ⟨tc, 0, none⟩) ss.length (ss.length + 3)]) :: ((b3, 34, [.slice ra rs.length rc, .slice sa ss.length sc]) :: ((tc, 102, flatS ss ++ (mark_Sheet ++ (mark_Sheet ++ mark_Sheet))) :: ((tb, 77, flatR rs ++ (mark_Rec ++ (mark_Rec ++ mark_Rec))) :: (H1 ++ (H2 ++ (H3 ++ (G3 ++ (H4 ++ (G4 ++ η)))))))))))))) (fun _ h => h.cnt fun p => by simp only [upd, List.countP_append, List.countP_cons, List.countP_nil]; omega) ?_
    refine TL_e rfl rfl rfl (rfl) (ET_call rfl KF.cal_10 rfl (book_Mesh w0 _ [] [] b16 Bk.new [] [] (.slice (some ⟨tb, 0, none⟩) rs.length (rs.length + 3)) (.slice (some ⟨tc, 0, none⟩) ss.length (ss.length + 3)) rs.length ss.length (flatR rs) (flatS ss) [(tb, 77, flatR rs ++ (mark_Rec ++ (mark_Rec ++ mark_Rec)))] [(tc, 102, flatS ss ++ (mark_Sheet ++ (mark_Sheet ++ mark_Sheet)))] (by decide) (Frag.nil _ _) (fun s h => by cases h) (Nat.zero_le _) (Frag.nil _ _) (fun s h => by cases h) (Nat.zero_le _) ⟨_, _, _, rfl⟩ ⟨_, _, _, rfl⟩)) ?_
    rintro _ _ ⟨r1, HR, r2, HS, hFR, hFS, rfl⟩
    refine Qf (Qb (Qe ?_))
    refine TC_A (St w0 ((b16, 52, Bk.cells { Bk.new with many := 0 + 1 + 1, recs := r1, sheets := r2 }) :: (HR ++ (HS ++ ((b5, 34, [.slice (some ⟨tb, 0, none⟩) rs.length (rs.length + 3), .slice (some ⟨tc, 0, none⟩) ss.length (ss.length + 3)]) :: ((b3, 34, [.slice ra rs.length rc, .slice sa ss.length sc]) :: ((tc, 102, flatS ss ++ (mark_Sheet ++ (mark_Sheet ++ mark_Sheet))) :: ((tb, 77, flatR rs ++ (mark_Rec ++ (mark_Rec ++ mark_Rec))) :: (H1 ++ (H2 ++ (H3 ++ (G3 ++ (H4 ++ (G4 ++ η)))))))))))))) (fun _ h => h) ?_
    refine Qg ?_
    refine Qa rfl rfl (Qc rfl rfl rfl) ?_
    refine TL_A (St w0 ((b16, 52, Bk.cells { Bk.new with many := 0 + 1 + 1, recs := r1, sheets := r2 }) :: ([] ++ (HR ++ (HS ++ ((b5, 34, [.slice (some ⟨tb, 0, none⟩) rs.length (rs.length + 3), .slice (some ⟨tc, 0, none⟩) ss.length (ss.length + 3)]) :: ((b3, 34, [.slice ra rs.length rc, .slice sa ss.length sc]) :: ((tc, 102, flatS ss ++ (mark_Sheet ++ (mark_Sheet ++ mark_Sheet))) :: ((tb, 77, flatR rs ++ (mark_Rec ++ (mark_Rec ++ mark_Rec))) :: (H1 ++ (H2 ++ (H3 ++ (G3 ++ (H4 ++ (G4 ++ η))))))))))))))) (fun _ h => h) ?_
    refine TL_e rfl rfl rfl (rfl) (ET_call rfl KF.cal_9 rfl (book_Bytes w0 _ [] b16 { Bk.new with many := 0 + 1 + 1, recs := r1, sheets := r2 } [] (.slice bad cs.length bcap) cs.length (byV cs) H1 (by dsimp only; omega) (Frag.nil _ _) (fun s h => by cases h) (Nat.zero_le _) ⟨_, _, _, rfl⟩)) ?_
    rintro _ _ ⟨r3, HB, hFB, rfl⟩
    refine Qf (Qb (Qe ?_))
    refine TC_A (St w0 ((b16, 52, Bk.cells { Bk.new with many := 0 + 1 + 1 + 1, recs := r1, sheets := r2, bytes := r3 }) :: (HB ++ (HR ++ (HS ++ ((b5, 34, [.slice (some ⟨tb, 0, none⟩) rs.length (rs.length + 3), .slice (some ⟨tc, 0, none⟩) ss.length (ss.length + 3)]) :: ((b3, 34, [.slice ra rs.length rc, .slice sa ss.length sc]) :: ((tc, 102, flatS ss ++ (mark_Sheet ++ (mark_Sheet ++ mark_Sheet))) :: ((tb, 77, flatR rs ++ (mark_Rec ++ (mark_Rec ++ mark_Rec))) :: (H1 ++ (H2 ++ (H3 ++ (G3 ++ (H4 ++ (G4 ++ η))))))))))))))) (fun _ h => h) ?_
    refine Qg ?_
    refine Qa rfl rfl (Qc rfl rfl rfl) ?_
    refine TL_A (St w0 ((b16, 52, Bk.cells { Bk.new with many := 0 + 1 + 1 + 1, recs := r1, sheets := r2, bytes := r3 }) :: ([] ++ (HB ++ (HR ++ (HS ++ ((b5, 34, [.slice (some ⟨tb, 0, none⟩) rs.length (rs.length + 3), .slice (some ⟨tc, 0, none⟩) ss.length (ss.length + 3)]) :: ((b3, 34, [.slice ra rs.length rc, .slice sa ss.length sc]) :: ((tc, 102, flatS ss ++ (mark_Sheet ++ (mark_Sheet ++ mark_Sheet))) :: ((tb, 77, flatR rs ++ (mark_Rec ++ (mark_Rec ++ mark_Rec))) :: (H1 ++ (H2 ++ (H3 ++ (G3 ++ (H4 ++ (G4 ++ η)))))))))))))))) (fun _ h => h) ?_
    refine TL_e rfl rfl rfl (rfl) (ET_call rfl KF.cal_19 rfl (book_Tris w0 _ [] b16 { Bk.new with many := 0 + 1 + 1 + 1, recs := r1, sheets := r2, bytes := r3 } [] (.slice pad ts.length pcap) ts.length ts.flatten H3 (by dsimp only; omega) (Frag.nil _ _) (fun s h => by cases h) (Nat.zero_le _) ⟨_, _, _, rfl⟩)) ?_
    rintro _ _ ⟨r4, HT, hFT, rfl⟩
    refine Qf (Qb (Qe ?_))
    refine TC_A (St w0 ((b16, 52, Bk.cells { Bk.new with many := 0 + 1 + 1 + 1 + 1, recs := r1, sheets := r2, bytes := r3, tris := r4 }) :: (HT ++ (HB ++ (HR ++ (HS ++ ((b5, 34, [.slice (some ⟨tb, 0, none⟩) rs.length (rs.length + 3), .slice (some ⟨tc, 0, none⟩) ss.length (ss.length + 3)]) :: ((b3, 34, [.slice ra rs.length rc, .slice sa ss.length sc]) :: ((tc, 102, flatS ss ++ (mark_Sheet ++ (mark_Sheet ++ mark_Sheet))) :: ((tb, 77, flatR rs ++ (mark_Rec ++ (mark_Rec ++ mark_Rec))) :: (H1 ++ (H2 ++ (H3 ++ (G3 ++ (H4 ++ (G4 ++ η)))))))))))))))) (fun _ h => h) ?_
    refine Qg ?_
    refine Qa rfl rfl (Qc rfl rfl rfl) ?_
    refine TL_A (St w0 ((b16, 52, Bk.cells { Bk.new with many := 0 + 1 + 1 + 1 + 1, recs := r1, sheets := r2, bytes := r3, tris := r4 }) :: ([] ++ (HT ++ (HB ++ (HR ++ (HS ++ ((b5, 34, [.slice (some ⟨tb, 0, none⟩) rs.length (rs.length + 3), .slice (some ⟨tc, 0, none⟩) ss.length (ss.length + 3)]) :: ((b3, 34, [.slice ra rs.length rc, .slice sa ss.length sc]) :: ((tc, 102, flatS ss ++ (mark_Sheet ++ (mark_Sheet ++ mark_Sheet))) :: ((tb, 77, flatR rs ++ (mark_Rec ++ (mark_Rec ++ mark_Rec))) :: (H1 ++ (H2 ++ (H3 ++ (G3 ++ (H4 ++ (G4 ++ η))))))))))))))))) (fun _ h => h) ?_
    refine TL_e rfl rfl rfl (rfl) (ET_call rfl KF.cal_20 rfl (book_Tiles w0 _ [] b16 { Bk.new with many := 0 + 1 + 1 + 1 + 1, recs := r1, sheets := r2, bytes := r3, tris := r4 } [] (.slice qad np qcap) np ps G3 (by dsimp only; omega) (Frag.nil _ _) (fun s h => by cases h) (Nat.zero_le _) ⟨_, _, _, rfl⟩)) ?_
    rintro _ _ ⟨r5, HP, hFP, rfl⟩
    refine Qf (Qb (Qe ?_))
    refine TC_A (St w0 ((b16, 52, Bk.cells { Bk.new with many := 0 + 1 + 1 + 1 + 1 + 1, recs := r1, sheets := r2, bytes := r3, tris := r4, tiles := r5 }) :: (HP ++ (HT ++ (HB ++ (HR ++ (HS ++ ((b5, 34, [.slice (some ⟨tb, 0, none⟩) rs.length (rs.length + 3), .slice (some ⟨tc, 0, none⟩) ss.length (ss.length + 3)]) :: ((b3, 34, [.slice ra rs.length rc, .slice sa ss.length sc]) :: ((tc, 102, flatS ss ++ (mark_Sheet ++ (mark_Sheet ++ mark_Sheet))) :: ((tb, 77, flatR rs ++ (mark_Rec ++ (mark_Rec ++ mark_Rec))) :: (H1 ++ (H2 ++ (H3 ++ (G3 ++ (H4 ++ (G4 ++ η))))))))))))))))) (fun _ h => h) ?_
    refine TC_A (St w0 ((b5, 34, [.slice (some ⟨tb, 0, none⟩) rs.length (rs.length + 3), .slice (some ⟨tc, 0, none⟩) ss.length (ss.length + 3)]) :: ((b3, 34, [.slice ra rs.length rc, .slice sa ss.length sc]) :: ((tc, 102, flatS ss ++ (mark_Sheet ++ (mark_Sheet ++ mark_Sheet))) :: ((tb, 77, flatR rs ++ (mark_Rec ++ (mark_Rec ++ mark_Rec))) :: ((b16, 52, Bk.cells { Bk.new with many := 0 + 1 + 1 + 1 + 1 + 1, recs := r1, sheets := r2, bytes := r3, tris := r4, tiles := r5 }) :: (HP ++ (HT ++ (HB ++ (HR ++ (HS ++ (H1 ++ (H2 ++ (H3 ++ (G3 ++ (H4 ++ (G4 ++ η))))))))))))))))) (fun _ h => h.cnt fun p => by simp only [upd, List.countP_append, List.countP_cons, List.countP_nil]; omega) ?_
    refine Qg ?_
    refine Qa rfl rfl (Qc rfl rfl rfl) ?_
    refine Qa rfl rfl (Qc rfl rfl rfl) ?_
    refine Qa rfl rfl (QT_eql rfl rfl rfl rfl) ?_
    refine Qa rfl rfl (Qc rfl rfl rfl) ?_
    refine Qa rfl rfl (Qc rfl rfl rfl) ?_
    refine Qa rfl rfl (Qc rfl rfl rfl) ?_
    refine TL_cq rfl rfl rfl rfl KF.cal_21 rfl (fun _ => sameOk_Bytes w0 _ _ _ cs.length (byV cs) (hF1.within fun p => by simp only [List.countP_append, List.countP_cons, List.countP_nil]; omega) (hF2.within fun p => by simp only [List.countP_append, List.countP_cons, List.countP_nil]; omega) (byV_ints hlt)) ?_
    refine Qa rfl rfl (QT_and rfl rfl rfl rfl) ?_
    refine Qa rfl rfl (Qc rfl rfl rfl) ?_
    refine Qa rfl rfl (Qc rfl rfl rfl) ?_
    refine Qa rfl rfl (Qc rfl rfl rfl) ?_
    refine Qa rfl rfl (QT_eql rfl rfl rfl rfl) ?_
    refine Qa rfl rfl (QT_and rfl rfl rfl rfl) ?_
    refine Qa rfl rfl (Qc rfl rfl rfl) ?_
    refine Qa rfl rfl (Qc rfl rfl rfl) ?_
    refine Qa rfl rfl (Qc rfl rfl rfl) ?_
    refine TL_cq rfl rfl rfl rfl KF.cal_22 rfl (fun _ => sameOk_TrisM w0 _ _ _ ts.length ts.flatten (hF3.within fun p => by simp only [List.countP_append, List.countP_cons, List.countP_nil]; omega) (hF4.within fun p => by simp only [List.countP_append, List.countP_cons, List.countP_nil]; omega) hti) ?_
    refine Qa rfl rfl (QT_and rfl rfl rfl rfl) ?_
    refine Qa rfl rfl (Qc rfl rfl rfl) ?_
    refine Qa rfl rfl (Qc rfl rfl rfl) ?_
    refine Qa rfl rfl (Qc rfl rfl rfl) ?_
    refine TL_cq rfl rfl rfl rfl KF.cal_23 rfl (fun _ => sameOk_TilesM w0 _ _ _ np ps (hT3.within fun p => by simp only [List.countP_append, List.countP_cons, List.countP_nil]; omega) (hT4.within fun p => by simp only [List.countP_append, List.countP_cons, List.countP_nil]; omega) hpi) ?_
    refine Qa rfl rfl (QT_and rfl rfl rfl rfl) ?_
    refine Qa rfl rfl (Qc rfl rfl rfl) ?_
    refine Qa rfl rfl (Ql 0 rfl rfl Tryz.underlying34 rfl rfl rfl KF.sz_34) ?_
    refine Qa rfl rfl (Ql 1 rfl rfl Tryz.underlying34 rfl rfl rfl KF.sz_34) ?_
    refine TL_cq rfl rfl rfl rfl KF.cal_24 rfl (fun _ => left_Mesh w0 _ _ _ tb tc rs.length ss.length (flatR rs) (flatS ss) (hs0.mono fun _ h => h.cnt fun p => by simp only [List.countP_append, List.countP_cons, List.countP_nil]; omega) (by simp) hri (by omega) (ht0.mono fun _ h => h.cnt fun p => by simp only [List.countP_append, List.countP_cons, List.countP_nil]; omega) (by simp) hqi (by omega)) ?_
    refine Qa rfl rfl (QT_and rfl rfl rfl rfl) ?_
    refine Qa rfl rfl (Qc rfl rfl rfl) ?_
    refine TL_A (St w0 ((b16, 52, Bk.cells { Bk.new with many := 0 + 1 + 1 + 1 + 1 + 1, recs := r1, sheets := r2, bytes := r3, tris := r4, tiles := r5 }) :: (HB ++ (HR ++ (HT ++ (HS ++ (HP ++ (heapOf [⟨.slice bad cs.length bcap, cs.length, byV cs, nilS, [.int .u8 (0 + 1 + 1 + 1)], H1⟩] ++ (heapOf [⟨.slice (some ⟨tb, 0, none⟩) rs.length (rs.length + 3), rs.length, flatR rs, nilS, rcMark (0 + 1), [(tb, 77, flatR rs ++ (mark_Rec ++ (mark_Rec ++ mark_Rec)))]⟩] ++ (heapOf [⟨.slice pad ts.length pcap, ts.length, ts.flatten, nilS, trMark (0 + 1 + 1 + 1 + 1), H3⟩] ++ (heapOf [⟨.slice (some ⟨tc, 0, none⟩) ss.length (ss.length + 3), ss.length, flatS ss, nilS, shMark (0 + 1 + 1), [(tc, 102, flatS ss ++ (mark_Sheet ++ (mark_Sheet ++ mark_Sheet)))]⟩] ++ (heapOf [⟨.slice qad np qcap, np, ps, nilS, tlMark (0 + 1 + 1 + 1 + 1 + 1), G3⟩] ++ η)))))))))))) (fun _ h => h.cnt fun p => by simp only [heapOf, List.map_cons, List.map_nil, List.flatten_cons, List.flatten_nil, List.countP_append, List.countP_cons, List.countP_nil]; omega) ?_
    refine TL_e rfl rfl rfl ((by simp)) (ET_call rfl KF.cal_13 rfl (apart_spec w0 η b16 { Bk.new with many := 0 + 1 + 1 + 1 + 1 + 1, recs := r1, sheets := r2, bytes := r3, tris := r4, tiles := r5 } (by dsimp only; omega) [⟨.slice bad cs.length bcap, cs.length, byV cs, nilS, [.int .u8 (0 + 1 + 1 + 1)], H1⟩] HB hFB (fun s h => by
     cases List.mem_singleton.1 h
     exact ⟨hF1, .cons (by decide) .nil, by show cs.length ≤ 2000000; omega⟩) [⟨.slice (some ⟨tb, 0, none⟩) rs.length (rs.length + 3), rs.length, flatR rs, nilS, rcMark (0 + 1), [(tb, 77, flatR rs ++ (mark_Rec ++ (mark_Rec ++ mark_Rec)))]⟩] HR hFR (fun s h => by
     cases List.mem_singleton.1 h
     exact ⟨hTRf, rcMark_ints (by decide), by show rs.length ≤ 2000000; omega⟩) [⟨.slice pad ts.length pcap, ts.length, ts.flatten, nilS, trMark (0 + 1 + 1 + 1 + 1), H3⟩] HT hFT (fun s h => by
     cases List.mem_singleton.1 h
     exact ⟨hF3, trMark_ints (by decide), by show ts.length ≤ 2000000; omega⟩) [⟨.slice (some ⟨tc, 0, none⟩) ss.length (ss.length + 3), ss.length, flatS ss, nilS, shMark (0 + 1 + 1), [(tc, 102, flatS ss ++ (mark_Sheet ++ (mark_Sheet ++ mark_Sheet)))]⟩] HS hFS (fun s h => by
     cases List.mem_singleton.1 h
     exact ⟨hTSf, shMark_ints (by decide), by show ss.length ≤ 2000000; omega⟩) [⟨.slice qad np qcap, np, ps, nilS, tlMark (0 + 1 + 1 + 1 + 1 + 1), G3⟩] HP hFP (fun s h => by
     cases List.mem_singleton.1 h
     exact ⟨hT3, tlMark_ints (by decide), by show np ≤ 2000000; omega⟩) rfl rfl rfl rfl rfl rfl rfl rfl)) ?_
    rintro _ _ ⟨rfl, rfl⟩
    refine Qa rfl rfl (QT_and rfl rfl rfl rfl) ?_
    refine Qa rfl rfl (Qc rfl rfl rfl) ?_
    refine TL_cq rfl rfl rfl rfl KF.cal_5 rfl (fun _ => lives13 w0 _ hG hE) ?_
    refine Qa rfl rfl (QT_and rfl rfl rfl rfl) ?_
    refine Qa rfl rfl (Qd rfl rfl rfl) ?_
    refine Qf (Qb ?_)
    refine Qu ?_
    exact Qs (.inl rfl) (res1 rfl rfl) ⟨_, ⟨by simp, rfl⟩, fun _ h => h⟩
end Go.Proofs.YtjdaglmkljbfkaaGreatDoor

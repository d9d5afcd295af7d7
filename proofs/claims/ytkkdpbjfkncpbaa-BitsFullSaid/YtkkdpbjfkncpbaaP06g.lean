/- THE LAW's OWN HELPERS: is that number there; is it refused; the chapter's examples. -/
import Derived.Test.YtkkdpbjfkncpbaaP06f
namespace Go.Proofs.Ytkkdpbjfkncpbaa
open Go Go.Gx Go.RowKit
set_option maxRecDepth 100000

theorem got_spec (w0 : World) (η : Heap) (sv : Value) (bs : List Nat) (p n want : Int) (hs : SlA (St w0 η) sv 1 bs.length (byV bs)) (hb : ∀ c ∈ bs, c < 256) (hp : I64 p) (hn : I64 n) (hl : bs.length ≤ 140737488355328) :
    CallsT Try.prog 29 [sv, .int .i64 p, .int .i64 n, .int .u32 want] (St w0 η) fun v A' => v = .bool (decide (((getV bs p n : Nat) : Int) = want) && decide (getE bs.length p n = 0)) ∧ A' = St w0 η := by
  refine CallsT.body Try.func29 rfl rfl ?_
  simp only [Try.ntmps29, slotsOf, Nat.reduceAdd]
  refine TC_seq ?_
  refine TC_reg ?_
  refine TL_q rfl rfl (QT_assign rfl rfl rfl) ?_
  refine TL_nil ?_
  refine TX_then ?_
  refine TC_seq ?_
  refine TC_reg ?_
  refine TL_q rfl rfl (QT_move rfl rfl rfl) ?_
  refine TL_q rfl rfl (QT_move rfl rfl rfl) ?_
  refine TL_q rfl rfl (QT_move rfl rfl rfl) ?_
  refine TL_cq rfl rfl rfl rfl YtkkdpbjfkncpbaaF.cal_12 rfl (fun _ => get_spec w0 η sv bs p n hs hb hp hn hl) ?_
  refine TL_q rfl rfl (QT_move rfl rfl rfl) ?_
  refine TL_q rfl rfl (QT_extract rfl rfl rfl rfl) ?_
  refine TL_q rfl rfl (QT_extract rfl rfl rfl rfl) ?_
  refine TL_q rfl rfl (QT_assign rfl rfl rfl) ?_
  refine TL_q rfl rfl (QT_assign rfl rfl rfl) ?_
  refine TL_nil ?_
  refine TX_then ?_
  refine TC_seq ?_
  refine TC_reg ?_
  refine TL_q rfl rfl (QT_move rfl rfl rfl) ?_
  refine TL_q rfl rfl (QT_move rfl rfl rfl) ?_
  refine TL_q rfl rfl (QT_eql rfl rfl rfl rfl) ?_
  refine TL_q rfl rfl (QT_move rfl rfl rfl) ?_
  refine TL_q rfl rfl (QT_move rfl rfl rfl) ?_
  refine TL_q rfl rfl (QT_eql rfl rfl rfl rfl) ?_
  refine TL_q rfl rfl (QT_and rfl rfl rfl rfl) ?_
  refine TL_q rfl rfl (QT_assign rfl rfl rfl) ?_
  refine TL_nil ?_
  refine TX_then ?_
  refine TC_ret ?_
  exact TX_ret (.inl rfl) (res1 rfl rfl) ⟨_, ⟨rfl, rfl⟩, fun _ h => h⟩
theorem no_spec (w0 : World) (η : Heap) (sv : Value) (bs : List Nat) (p n want : Int) (hs : SlA (St w0 η) sv 1 bs.length (byV bs)) (hb : ∀ c ∈ bs, c < 256) (hp : I64 p) (hn : I64 n) (hl : bs.length ≤ 140737488355328) :
    CallsT Try.prog 30 [sv, .int .i64 p, .int .i64 n, .int .i64 want] (St w0 η) fun v A' => v = .bool (decide (((getV bs p n : Nat) : Int) = 0) && decide (getE bs.length p n = want)) ∧ A' = St w0 η := by
  refine CallsT.body Try.func30 rfl rfl ?_
  simp only [Try.ntmps30, slotsOf, Nat.reduceAdd]
  refine TC_seq ?_
  refine TC_reg ?_
  refine TL_q rfl rfl (QT_assign rfl rfl rfl) ?_
  refine TL_nil ?_
  refine TX_then ?_
  refine TC_seq ?_
  refine TC_reg ?_
  refine TL_q rfl rfl (QT_move rfl rfl rfl) ?_
  refine TL_q rfl rfl (QT_move rfl rfl rfl) ?_
  refine TL_q rfl rfl (QT_move rfl rfl rfl) ?_
  refine TL_cq rfl rfl rfl rfl YtkkdpbjfkncpbaaF.cal_12 rfl (fun _ => get_spec w0 η sv bs p n hs hb hp hn hl) ?_
  refine TL_q rfl rfl (QT_move rfl rfl rfl) ?_
  refine TL_q rfl rfl (QT_extract rfl rfl rfl rfl) ?_
  refine TL_q rfl rfl (QT_extract rfl rfl rfl rfl) ?_
  refine TL_q rfl rfl (QT_assign rfl rfl rfl) ?_
  refine TL_q rfl rfl (QT_assign rfl rfl rfl) ?_
  refine TL_nil ?_
  refine TX_then ?_
  refine TC_seq ?_
  refine TC_reg ?_
  refine TL_q rfl rfl (QT_move rfl rfl rfl) ?_
  refine TL_q rfl rfl (QT_eql rfl rfl rfl rfl) ?_
  refine TL_q rfl rfl (QT_move rfl rfl rfl) ?_
  refine TL_q rfl rfl (QT_move rfl rfl rfl) ?_
  refine TL_q rfl rfl (QT_move rfl rfl rfl) ?_
  refine TL_q rfl rfl (QT_eql rfl rfl rfl rfl) ?_
  refine TL_q rfl rfl (QT_and rfl rfl rfl rfl) ?_
  refine TL_q rfl rfl (QT_assign rfl rfl rfl) ?_
  refine TL_nil ?_
  refine TX_then ?_
  refine TC_ret ?_
  exact TX_ret (.inl rfl) (res1 rfl rfl) ⟨_, ⟨rfl, rfl⟩, fun _ h => h⟩
theorem got_ok {w0 : World} {η : Heap} {sv : Value} {bs : List Nat} {p n : Int} {want : Nat} (hs : SlA (St w0 η) sv 1 bs.length (byV bs)) (hb : ∀ c ∈ bs, c < 256) (hp : I64 p) (hn : I64 n) (hl : bs.length ≤ 140737488355328) (he : getE bs.length p n = 0) (hv : getV bs p n = want) :
    CallsT Try.prog 29 [sv, .int .i64 p, .int .i64 n, .int .u32 (want : Int)] (St w0 η) fun v A' => v = .bool true ∧ A' = St w0 η := by
  have h := got_spec w0 η sv bs p n want hs hb hp hn hl
  rwa [he, hv, decide_eq_true rfl, decide_eq_true rfl] at h
theorem no_ok {w0 : World} {η : Heap} {sv : Value} {bs : List Nat} {p n want : Int} (hs : SlA (St w0 η) sv 1 bs.length (byV bs)) (hb : ∀ c ∈ bs, c < 256) (hp : I64 p) (hn : I64 n) (hl : bs.length ≤ 140737488355328) (he : getE bs.length p n = want) (hw : want ≠ 0) :
    CallsT Try.prog 30 [sv, .int .i64 p, .int .i64 n, .int .i64 want] (St w0 η) fun v A' => v = .bool true ∧ A' = St w0 η := by
  have h := no_spec w0 η sv bs p n want hs hb hp hn hl
  have hv : getV bs p n = 0 := by unfold getV; rw [if_neg (by rw [he]; exact hw)]
  have e : (decide (((getV bs p n : Nat) : Int) = 0) && decide (getE bs.length p n = want)) = true := by rw [hv, he]; simp
  rwa [e] at h
theorem put_at {w0 : World} {η K : Heap} {rb : Nat} {l l2 : List Bool} {v : Nat} {n e : Int} (hK : RowAt rb l K) (hv : v < 4294967296) (hn : I64 n) (hl : l.length ≤ 524288) (he : putE l.length v n = e) (h2 : putL l v n = l2) :
    CallsT Try.prog 19 [.pointer (some ⟨rb, 0, none⟩), .int .u32 (v : Int), .int .i64 n] (St w0 (K ++ η)) fun r A' => ∃ K', r = .int .i64 e ∧ RowAt rb l2 K' ∧ A' = St w0 (K' ++ η) := by
  have h := put_spec w0 η K rb l v n hK hv hn hl
  rwa [he, h2] at h
theorem len_at {w0 : World} {rb : Nat} {l : List Bool} {K : Heap} {n : Nat} (η : Heap) (hK : RowAt rb l K) (h : l.length = n) (hl : n ≤ 600000) :
    CallsT Try.prog 22 [.pointer (some ⟨rb, 0, none⟩)] (St w0 (K ++ η)) fun v A' => v = .int .i64 (n : Int) ∧ A' = St w0 (K ++ η) := by
  subst h; exact RowAt.len η hK hl
theorem newRow_spec (w0 : World) (η : Heap) :
    CallsT Try.prog 15 [] (St w0 η) fun v A' => ∃ rb K, v = .pointer (some ⟨rb, 0, none⟩) ∧ RowAt rb [] K ∧ A' = St w0 (K ++ η) :=
  (new_spec w0 η).mono fun v A' ⟨rb, hv, hA⟩ => ⟨St w0 ([(rb, 62, rowC (.slice none 0 0) 0 1)] ++ η), ⟨rb, [(rb, 62, rowC (.slice none 0 0) 0 1)], hv, ⟨[], _, 0, [], Frag.nil _ _, Packed.nil, by decide, rfl⟩, rfl⟩, fun w h => by rw [hA] at h; exact h⟩
theorem byB_inj : ∀ {a b : List Nat}, byB a = byB b → (∀ c ∈ a, c < 256) → (∀ c ∈ b, c < 256) → a = b
  | [], [], _, _, _ => rfl
  | [], c :: b, h, _, _ => by have := congrArg List.length h; rw [byB_len, byB_len] at this; simp at this
  | c :: a, [], h, _, _ => by have := congrArg List.length h; rw [byB_len, byB_len] at this; simp at this
  | c :: a, d :: b, h, ha, hb => by
    have h1 : bitsN 8 c ++ byB a = bitsN 8 d ++ byB b := by simpa [byB] using h
    obtain ⟨h2, h3⟩ := List.append_inj h1 (by rw [bitsN_len, bitsN_len])
    have h4 := congrArg num h2
    rw [num_bitsN, num_bitsN, Nat.mod_eq_of_lt (ha c (List.mem_cons_self ..)), Nat.mod_eq_of_lt (hb d (List.mem_cons_self ..))] at h4
    rw [h4, byB_inj h3 (fun x hx => ha x (List.mem_cons_of_mem _ hx)) (fun x hx => hb x (List.mem_cons_of_mem _ hx))]
def lv1 : List Bool := bitsN 3 5
def lv2 : List Bool := bitsN 3 5 ++ bitsN 7 1
theorem lives_bytes {bs : List Nat} (h : byB bs = lv2 ++ List.replicate (8 * ((lv2.length + 7) / 8) - lv2.length) false ∧ ∀ c ∈ bs, c < 256) : bs = [160, 64] :=
  byB_inj (h.1.trans (by decide : lv2 ++ List.replicate (8 * ((lv2.length + 7) / 8) - lv2.length) false = byB [160, 64])) h.2 (by decide)
theorem own2 {w0 : World} {η : Heap} {b : Nat} (bs : List Nat) : SlA (St w0 ((b, 5, byV bs) :: η)) (.slice (some ⟨b, 0, none⟩) bs.length bs.length) 1 bs.length (byV bs) ∨ 9223372036854775807 < bs.length := by
  by_cases h : 9223372036854775807 < bs.length
  · exact .inr h
  · exact .inl (SlA.own 0 rfl (by rw [List.drop_zero, List.take_of_length_le (by rw [byV_len]; omega)]) (by rw [byV_len]; omega) (by omega))

theorem lives06 (w0 : World) (η : Heap) :
    CallsT Try.prog 10 [] (St w0 η) fun v A' => v = .bool true ∧ A' = St w0 η := by
  refine CallsT.body Try.func10 rfl rfl ?_
  simp only [Try.ntmps10, slotsOf, Nat.reduceAdd]
  refine TC_seq ?_
  refine TC_reg ?_
  refine TL_q rfl rfl (QT_assign rfl rfl rfl) ?_
  refine TL_nil ?_
  refine TX_then ?_
  refine TC_seq ?_
  refine TC_reg ?_
  refine TL_e rfl rfl rfl (rfl) (ET_call rfl YtkkdpbjfkncpbaaF.cal_15 rfl (newRow_spec w0 η)) ?_
  rintro _ _ ⟨rb, K, rfl, hK, rfl⟩
  refine TL_q rfl rfl (QT_assign rfl rfl rfl) ?_
  refine TL_nil ?_
  refine TX_then ?_
  refine TC_seq ?_
  refine TC_seq ?_
  refine TC_reg ?_
  refine TL_q rfl rfl (QT_move rfl rfl rfl) ?_
  refine TL_e rfl rfl rfl (rfl) (ET_call rfl YtkkdpbjfkncpbaaF.cal_19 rfl (put_at (v := 5) (n := 3) (e := 0) (l2 := lv1) hK (by decide) (by decide) (by decide) (by decide) (by decide))) ?_
  rintro _ _ ⟨K1, rfl, hK1, rfl⟩
  refine TL_q rfl rfl (QT_neq rfl rfl rfl rfl) ?_
  refine TL_q rfl rfl (QT_move rfl rfl rfl) ?_
  refine TL_q rfl rfl (QT_move rfl rfl rfl) ?_
  refine TL_e rfl rfl rfl (rfl) (ET_call rfl YtkkdpbjfkncpbaaF.cal_19 rfl (put_at (v := 8) (n := 3) (e := 1) (l2 := lv1) hK1 (by decide) (by decide) (by decide) (by decide) (by decide))) ?_
  rintro _ _ ⟨K2, rfl, hK2, rfl⟩
  refine TL_q rfl rfl (QT_neq rfl rfl rfl rfl) ?_
  refine TL_q rfl rfl (QT_or rfl rfl rfl rfl) ?_
  refine TL_q rfl rfl (QT_move rfl rfl rfl) ?_
  refine TL_q rfl rfl (QT_move rfl rfl rfl) ?_
  refine TL_e rfl rfl rfl (rfl) (ET_call rfl YtkkdpbjfkncpbaaF.cal_19 rfl (put_at (v := 1) (n := 7) (e := 0) (l2 := lv2) hK2 (by decide) (by decide) (by decide) (by decide) (by decide))) ?_
  rintro _ _ ⟨K3, rfl, hK3, rfl⟩
  refine TL_q rfl rfl (QT_neq rfl rfl rfl rfl) ?_
  refine TL_q rfl rfl (QT_or rfl rfl rfl rfl) ?_
  refine TL_q rfl rfl (QT_move rfl rfl rfl) ?_
  refine TL_q rfl rfl (QT_move rfl rfl rfl) ?_
  refine TL_cq rfl rfl rfl rfl YtkkdpbjfkncpbaaF.cal_22 rfl (fun _ => len_at (n := 10) η hK3 (by decide) (by decide)) ?_
  refine TL_q rfl rfl (QT_neq rfl rfl rfl rfl) ?_
  refine TL_q rfl rfl (QT_or rfl rfl rfl rfl) ?_
  refine TL_q rfl rfl (QT_move rfl rfl rfl) ?_
  refine TL_q rfl rfl (QT_move rfl rfl rfl) ?_
  refine TL_e rfl rfl rfl (rfl) (ET_call rfl YtkkdpbjfkncpbaaF.cal_21 rfl (RowAt.bytes η hK3 (by decide))) ?_
  rintro sv _ ⟨bs, H2, hF2, hbs, rfl⟩
  obtain rfl := lives_bytes hbs
  obtain ⟨sad, scap, rfl, _, _⟩ := hF2.slice
  refine TL_q rfl rfl (QT_convBS (l := [160, 64]) rfl rfl Try.underlying22 Try.underlying5 Try.underlying9 rfl (fun _ => hF2.within fun p => by simp only [List.countP_append]; omega)) ?_
  refine TL_q rfl rfl (QT_neStr rfl rfl rfl rfl) ?_
  refine TL_q rfl rfl (QT_or rfl rfl rfl rfl) ?_
  refine TL_q rfl rfl (QT_move rfl rfl rfl) ?_
  refine TL_A (St w0 (K3 ++ η)) (fun _ h => h.app_right) ?_
  refine TL_q rfl rfl (QT_move rfl rfl rfl) ?_
  refine TL_e rfl rfl rfl ((by simp)) (ET_call rfl YtkkdpbjfkncpbaaF.cal_17 rfl (RowAt.pad η hK3)) ?_
  rintro _ _ ⟨K4, rfl, hK4, rfl⟩
  refine TL_q rfl rfl (QT_neq rfl rfl rfl rfl) ?_
  refine TL_q rfl rfl (QT_or rfl rfl rfl rfl) ?_
  refine TL_q rfl rfl (QT_move rfl rfl rfl) ?_
  refine TL_q rfl rfl (QT_move rfl rfl rfl) ?_
  refine TL_cq rfl rfl rfl rfl YtkkdpbjfkncpbaaF.cal_22 rfl (fun _ => len_at (n := 16) η hK4 (by decide) (by decide)) ?_
  refine TL_q rfl rfl (QT_neq rfl rfl rfl rfl) ?_
  refine TL_q rfl rfl (QT_or rfl rfl rfl rfl) ?_
  refine TL_nil ?_
  refine TX_then ?_
  refine TC_cond rfl (fun h => absurd (h.symm.trans ((show (_ : Bool) = false by simp))) (by decide)) (fun _ => ?_)
  refine TC_skip ?_
  refine TX_then ?_
  refine TC_seq ?_
  refine TC_A (St w0 η) (fun _ h => h.app_right) ?_
  refine TC_reg ?_
  refine TL_e rfl rfl rfl (rfl) (ET_buildSlice rfl Try.underlying22 YtkkdpbjfkncpbaaF.sz_5 YtkkdpbjfkncpbaaF.zero_5 rfl rfl rfl) ?_
  rintro _ _ ⟨b37, rfl, rfl⟩
  refine TL_cq rfl rfl rfl rfl YtkkdpbjfkncpbaaF.cal_29 rfl (fun _ => got_ok (bs := [172, 1]) (p := 0) (n := 4) (want := 10) ((own2 [172, 1]).resolve_right (by decide)) (by decide) (by decide) (by decide) (by decide) (by decide) (by decide)) ?_
  refine TL_q rfl rfl (QT_move rfl rfl rfl) ?_
  refine TL_e rfl rfl rfl (rfl) (ET_buildSlice rfl Try.underlying22 YtkkdpbjfkncpbaaF.sz_5 YtkkdpbjfkncpbaaF.zero_5 rfl rfl rfl) ?_
  rintro _ _ ⟨b40, rfl, rfl⟩
  refine TL_cq rfl rfl rfl rfl YtkkdpbjfkncpbaaF.cal_29 rfl (fun _ => got_ok (bs := [172, 1]) (p := 6) (n := 10) (want := 1) ((own2 [172, 1]).resolve_right (by decide)) (by decide) (by decide) (by decide) (by decide) (by decide) (by decide)) ?_
  refine TL_q rfl rfl (QT_and rfl rfl rfl rfl) ?_
  refine TL_q rfl rfl (QT_move rfl rfl rfl) ?_
  refine TL_e rfl rfl rfl (rfl) (ET_buildSlice rfl Try.underlying22 YtkkdpbjfkncpbaaF.sz_5 YtkkdpbjfkncpbaaF.zero_5 rfl rfl rfl) ?_
  rintro _ _ ⟨b44, rfl, rfl⟩
  refine TL_cq rfl rfl rfl rfl YtkkdpbjfkncpbaaF.cal_30 rfl (fun _ => no_ok (bs := [172]) (p := 4) (n := 5) (want := 5) ((own2 [172]).resolve_right (by decide)) (by decide) (by decide) (by decide) (by decide) (by decide) (by decide)) ?_
  refine TL_q rfl rfl (QT_and rfl rfl rfl rfl) ?_
  refine TL_q rfl rfl (QT_move rfl rfl rfl) ?_
  refine TL_e rfl rfl rfl (rfl) (ET_buildSlice rfl Try.underlying22 YtkkdpbjfkncpbaaF.sz_5 YtkkdpbjfkncpbaaF.zero_5 rfl rfl rfl) ?_
  rintro _ _ ⟨b48, rfl, rfl⟩
  refine TL_cq rfl rfl rfl rfl YtkkdpbjfkncpbaaF.cal_29 rfl (fun _ => got_ok (bs := [172]) (p := 8) (n := 0) (want := 0) ((own2 [172]).resolve_right (by decide)) (by decide) (by decide) (by decide) (by decide) (by decide) (by decide)) ?_
  refine TL_q rfl rfl (QT_and rfl rfl rfl rfl) ?_
  refine TL_q rfl rfl (QT_move rfl rfl rfl) ?_
  refine TL_e rfl rfl rfl (rfl) (ET_buildSlice rfl Try.underlying22 YtkkdpbjfkncpbaaF.sz_5 YtkkdpbjfkncpbaaF.zero_5 rfl rfl rfl) ?_
  rintro _ _ ⟨b52, rfl, rfl⟩
  refine TL_cq rfl rfl rfl rfl YtkkdpbjfkncpbaaF.cal_30 rfl (fun _ => no_ok (bs := [172]) (p := 9) (n := 0) (want := 5) ((own2 [172]).resolve_right (by decide)) (by decide) (by decide) (by decide) (by decide) (by decide) (by decide)) ?_
  refine TL_q rfl rfl (QT_and rfl rfl rfl rfl) ?_
  refine TL_q rfl rfl (QT_move rfl rfl rfl) ?_
  refine TL_cq rfl rfl rfl rfl YtkkdpbjfkncpbaaF.cal_30 rfl (fun _ => no_ok (bs := []) (p := 0) (n := 33) (want := 1) ⟨rfl, none, 0, rfl, ⟨Nat.le_refl _, by decide⟩, .inl rfl⟩ (by decide) (by decide) (by decide) (by decide) (by decide) (by decide)) ?_
  refine TL_q rfl rfl (QT_and rfl rfl rfl rfl) ?_
  refine TL_q rfl rfl (QT_assign rfl rfl rfl) ?_
  refine TL_nil ?_
  refine TX_then ?_
  refine TC_ret ?_
  exact TX_ret (.inl rfl) (res1 rfl rfl) ⟨_, ⟨rfl, rfl⟩, (fun _ h => by first | exact h | exact h.tail | exact h.tail.tail | exact h.tail.tail.tail | exact h.tail.tail.tail.tail | exact h.tail.tail.tail.tail.tail | exact h.tail.tail.tail.tail.tail.tail | exact h.tail.tail.tail.tail.tail.tail.tail | exact h.tail.tail.tail.tail.tail.tail.tail.tail | exact h.tail.tail.tail.tail.tail.tail.tail.tail.tail | exact h.tail.tail.tail.tail.tail.tail.tail.tail.tail.tail | exact h.tail.tail.tail.tail.tail.tail.tail.tail.tail.tail.tail | exact h.tail.tail.tail.tail.tail.tail.tail.tail.tail.tail.tail.tail | exact h.tail.tail.tail.tail.tail.tail.tail.tail.tail.tail.tail.tail.tail)⟩
end Go.Proofs.Ytkkdpbjfkncpbaa

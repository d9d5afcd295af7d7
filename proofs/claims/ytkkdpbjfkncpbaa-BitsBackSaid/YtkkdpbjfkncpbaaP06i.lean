/- THE LAW OF WHAT IS PUT, AND GOT: one behind the other. -/
import Derived.Test.YtkkdpbjfkncpbaaP06h
namespace Go.Proofs.Ytkkdpbjfkncpbaa
open Go Go.Gx Go.RowKit
set_option maxRecDepth 100000

theorem QT_toG {P : Program} {n : Nat} {ops : Array Oper} {o : Oper} {σ : Slots} {A : World → Prop} {g : Bool} {v v' : Value} (h : QT P n ops o σ A g v) (e : g = true → v = v') : QT P n ops o σ A g v' := by
  cases g with
  | true => exact e rfl ▸ h
  | false => exact fun a w hf hA => ⟨(h a w hf hA).1, fun h => by cases h⟩

def ldV (ls : List (Nat × Int)) : List Value := ls.flatMap fun x => [.int .u32 (x.1 : Int), .int .i64 x.2]
theorem ldV_len : ∀ ls : List (Nat × Int), (ldV ls).length = ls.length * 2
  | [] => rfl
  | x :: r => by
    have := ldV_len r
    simp only [ldV, List.flatMap_cons, List.length_append, List.length_cons, List.length_nil] at this ⊢
    omega
theorem ldV_at : ∀ {ls : List (Nat × Int)} {i : Nat} {x : Nat × Int}, ls[i]? = some x → (ldV ls)[i * 2]? = some (.int .u32 (x.1 : Int)) ∧ (ldV ls)[i * 2 + 1]? = some (.int .i64 x.2) ∧ ((ldV ls).drop (i * 2)).take 2 = [.int .u32 (x.1 : Int), .int .i64 x.2]
  | [], i, x, h => by simp at h
  | y :: r, 0, x, h => by
    simp only [List.getElem?_cons_zero, Option.some.injEq] at h
    subst h
    exact ⟨rfl, rfl, rfl⟩
  | y :: r, i + 1, x, h => by
    have ih := ldV_at (ls := r) (i := i) (x := x) (by simpa using h)
    rw [show (i + 1) * 2 = i * 2 + 2 by omega]
    exact ⟨ih.1, ih.2.1, ih.2.2⟩
def Lds (ls : List (Nat × Int)) : Prop := ∀ x ∈ ls, x.1 < 4294967296 ∧ I64 x.2
theorem ldV_of : ∀ {n : Nat} {xs : List Value}, Ints (rep n [.u32, .i64]) xs → ∃ ls : List (Nat × Int), xs = ldV ls ∧ ls.length = n ∧ Lds ls
  | 0, xs, h => by
    rw [show rep 0 [.u32, .i64] = [] from rfl] at h
    obtain rfl := h.inv_nil
    exact ⟨[], rfl, rfl, fun _ h => absurd h List.not_mem_nil⟩
  | n + 1, xs, h => by
    rw [rep_succ] at h
    obtain ⟨z, cs, rfl, hw, h2⟩ := (show Ints (.u32 :: (.i64 :: rep n [.u32, .i64])) xs from h).inv
    obtain ⟨y, cs, rfl, hy, h3⟩ := h2.inv
    obtain ⟨ls, rfl, rfl, hb⟩ := ldV_of h3
    have hz := wf_u32 hw
    obtain ⟨c, rfl⟩ := Int.eq_ofNat_of_zero_le hz.1
    exact ⟨(c, y) :: ls, rfl, rfl, fun x hx => by
      rcases List.mem_cons.1 hx with rfl | hx
      · exact ⟨by show c < 4294967296; omega, wf_i64 hy⟩
      · exact hb x hx⟩
def okLd (x : Nat × Int) : Bool := (decide (0 ≤ x.2) && decide (x.2 ≤ 32)) && decide (x.1 / 2 ^ x.2.toNat = 0)
theorem okLd_true {x : Nat × Int} (h : okLd x = true) : 0 ≤ x.2 ∧ x.2 ≤ 32 ∧ x.1 < 2 ^ x.2.toNat := by
  simp only [okLd, Bool.and_eq_true, decide_eq_true_eq] at h
  refine ⟨h.1.1, h.1.2, ?_⟩
  rcases Nat.div_eq_zero_iff.1 h.2 with h4 | h4
  · exact absurd h4 (Nat.ne_of_gt (Nat.two_pow_pos _))
  · exact h4
theorem may_spec (w0 : World) (η : Heap) (x : Nat × Int) (hv : x.1 < 4294967296) (hn : I64 x.2) :
    CallsT Try.prog 28 [.agg #[.int .u32 (x.1 : Int), .int .i64 x.2]] (St w0 η) fun v A' => v = .bool (okLd x) ∧ A' = St w0 η := by
  obtain ⟨v, n⟩ := x
  dsimp only at hv hn ⊢
  refine CallsT.body Try.func28 rfl rfl ?_
  simp only [Try.ntmps28, slotsOf, Nat.reduceAdd]
  refine TC_seq ?_
  refine TC_reg ?_
  refine TL_e rfl rfl rfl (rfl) (ET_box rfl rfl) ?_
  rintro _ _ ⟨b1, rfl, rfl⟩
  refine TL_q rfl rfl (QT_assign rfl rfl rfl) ?_
  refine TL_nil ?_
  refine TX_then ?_
  refine TC_seq ?_
  refine TC_reg ?_
  refine TL_q rfl rfl (QT_field rfl rfl YtkkdpbjfkncpbaaF.fld_52_1 rfl) ?_
  first
    | refine TL_q rfl rfl (QT_load 0 rfl rfl Try.underlying3 rfl rfl rfl (fun _ => rfl)) ?_
    | refine TL_q rfl rfl (QT_load 1 rfl rfl Try.underlying3 rfl rfl rfl (fun _ => rfl)) ?_
    | refine TL_q rfl rfl (QT_load 2 rfl rfl Try.underlying3 rfl rfl rfl (fun _ => rfl)) ?_
  refine TL_q rfl rfl (QT_geq rfl rfl rfl rfl) ?_
  refine TL_q rfl rfl (QT_move rfl rfl rfl) ?_
  refine TL_q rfl rfl (QT_field rfl rfl YtkkdpbjfkncpbaaF.fld_52_1 rfl) ?_
  first
    | refine TL_q rfl rfl (QT_load 0 rfl rfl Try.underlying3 rfl rfl rfl (fun _ => rfl)) ?_
    | refine TL_q rfl rfl (QT_load 1 rfl rfl Try.underlying3 rfl rfl rfl (fun _ => rfl)) ?_
    | refine TL_q rfl rfl (QT_load 2 rfl rfl Try.underlying3 rfl rfl rfl (fun _ => rfl)) ?_
  refine TL_q rfl rfl (QT_leq rfl rfl rfl rfl) ?_
  refine TL_q rfl rfl (QT_and rfl rfl rfl rfl) ?_
  refine TL_q rfl rfl (QT_move rfl rfl rfl) ?_
  refine TL_q rfl rfl (QT_field rfl rfl YtkkdpbjfkncpbaaF.fld_52_0 rfl) ?_
  first
    | refine TL_q rfl rfl (QT_load 0 rfl rfl Try.underlying25 rfl rfl rfl (fun _ => rfl)) ?_
    | refine TL_q rfl rfl (QT_load 1 rfl rfl Try.underlying25 rfl rfl rfl (fun _ => rfl)) ?_
    | refine TL_q rfl rfl (QT_load 2 rfl rfl Try.underlying25 rfl rfl rfl (fun _ => rfl)) ?_
  refine TL_q rfl rfl (QT_convN rfl rfl Try.underlying25 Try.underlying70 rfl (show IntKind.u64.wrap (v : Int) = (v : Int) from IntWalk.u64_in _ ⟨by omega, by omega⟩)) ?_
  refine TL_q rfl rfl (QT_field rfl rfl YtkkdpbjfkncpbaaF.fld_52_1 rfl) ?_
  first
    | refine TL_q rfl rfl (QT_load 0 rfl rfl Try.underlying3 rfl rfl rfl (fun _ => rfl)) ?_
    | refine TL_q rfl rfl (QT_load 1 rfl rfl Try.underlying3 rfl rfl rfl (fun _ => rfl)) ?_
    | refine TL_q rfl rfl (QT_load 2 rfl rfl Try.underlying3 rfl rfl rfl (fun _ => rfl)) ?_
  refine TL_q rfl rfl (QT_shr rfl rfl rfl rfl (fun h => by simp at h; omega)) ?_
  refine TL_q rfl rfl (QT_eql rfl rfl rfl rfl) ?_
  refine TL_q rfl rfl (QT_and rfl rfl rfl rfl) ?_
  refine TL_q rfl rfl (QT_assign rfl rfl rfl) ?_
  refine TL_nil ?_
  refine TX_then ?_
  refine TC_ret ?_
  refine TX_ret (.inl rfl) (res1 rfl rfl) ⟨_, ⟨?_, rfl⟩, (fun _ h => by first | exact h | exact h.tail | exact h.tail.tail | exact h.tail.tail.tail | exact h.tail.tail.tail.tail | exact h.tail.tail.tail.tail.tail | exact h.tail.tail.tail.tail.tail.tail | exact h.tail.tail.tail.tail.tail.tail.tail | exact h.tail.tail.tail.tail.tail.tail.tail.tail | exact h.tail.tail.tail.tail.tail.tail.tail.tail.tail | exact h.tail.tail.tail.tail.tail.tail.tail.tail.tail.tail | exact h.tail.tail.tail.tail.tail.tail.tail.tail.tail.tail.tail | exact h.tail.tail.tail.tail.tail.tail.tail.tail.tail.tail.tail.tail | exact h.tail.tail.tail.tail.tail.tail.tail.tail.tail.tail.tail.tail.tail)⟩
  unfold okLd
  by_cases h0 : 0 ≤ n
  · rw [shr64 hv h0]
    generalize v / 2 ^ n.toNat = X
    by_cases hX : X = 0 <;> simp [hX]
  · simp [h0]
def catL (ls : List (Nat × Int)) (i : Nat) : List Bool := (ls.take i).flatMap fun x => bitsN x.2.toNat x.1
theorem catL_succ {ls : List (Nat × Int)} {i : Nat} {x : Nat × Int} (h : ls[i]? = some x) : catL ls (i + 1) = catL ls i ++ bitsN x.2.toNat x.1 := by
  unfold catL
  rw [List.take_add_one, h, List.flatMap_append]
  simp
theorem catL_le {ls : List (Nat × Int)} (h : ∀ x ∈ ls, okLd x = true) : ∀ i, (catL ls i).length ≤ 32 * i
  | 0 => by simp [catL]
  | i + 1 => by
    have ih := catL_le h i
    cases hx : ls[i]? with
    | none =>
      have e : catL ls (i + 1) = catL ls i := by unfold catL; rw [List.take_add_one, hx]; simp
      rw [e]; omega
    | some x =>
      have := okLd_true (h x (List.mem_of_getElem? hx))
      rw [catL_succ hx, List.length_append, bitsN_len]; omega
theorem catL_split {ls : List (Nat × Int)} {i : Nat} {x : Nat × Int} (h : ls[i]? = some x) : ∃ r, catL ls ls.length = catL ls i ++ bitsN x.2.toNat x.1 ++ r := by
  have hi : i < ls.length := (List.getElem?_eq_some_iff.1 h).1
  refine ⟨(ls.drop (i + 1)).flatMap fun x => bitsN x.2.toNat x.1, ?_⟩
  rw [← catL_succ h]
  unfold catL
  rw [← List.flatMap_append, List.take_length, List.take_append_drop]
theorem got_at {bs : List Nat} {ls : List (Nat × Int)} {i : Nat} {x : Nat × Int} {p : List Bool} (hbs : byB bs = catL ls ls.length ++ p) (h : ls[i]? = some x) (hx : okLd x = true) :
    getE bs.length ((catL ls i).length : Int) x.2 = 0 ∧ getV bs ((catL ls i).length : Int) x.2 = x.1 := by
  obtain ⟨h0, h1, h2⟩ := okLd_true hx
  obtain ⟨v, n⟩ := x
  dsimp only at h0 h1 h2 ⊢
  obtain ⟨m, rfl⟩ := Int.eq_ofNat_of_zero_le h0
  obtain ⟨r, hr⟩ := catL_split h
  rw [hr] at hbs
  dsimp only at hbs
  rw [Int.toNat_natCast] at hbs h2
  have hl := congrArg List.length hbs
  simp only [byB_len, List.length_append, bitsN_len] at hl
  obtain ⟨a, b⟩ := getV_ok (bs := bs) (q := (catL ls i).length) (m := m) (by omega) (by omega)
  refine ⟨a, ?_⟩
  rw [b, hbs, List.append_assoc, List.append_assoc, List.drop_left, List.take_left' (bitsN_len m v), num_bitsN, Nat.mod_eq_of_lt h2]

set_option maxHeartbeats 1000000 in
theorem law_bitsBack (w0 : World) (η : Heap) (sv : Value) (ls : List (Nat × Int)) (hs : SlA (St w0 η) sv 2 ls.length (ldV ls)) (hb : Lds ls) :
    CallsT Try.prog 6 [sv] (St w0 η) fun v A' => v = .bool true ∧ A' = St w0 η := by
  obtain ⟨_, ad, cap, b, off, rfl, hcap, had, hrd⟩ := hs.some
  have hR : ∀ X : Heap, Rd (St w0 (X ++ η)) b off (ldV ls) := fun X => hrd.mono fun _ h => h.app_right
  refine CallsT.body Try.func6 rfl rfl ?_
  simp only [Try.ntmps6, slotsOf, Nat.reduceAdd]
  refine TC_seq ?_
  refine TC_reg ?_
  refine TL_q rfl rfl (QT_assign rfl rfl rfl) ?_
  refine TL_nil ?_
  refine TX_then ?_
  refine TC_seq ?_
  refine TC_seq ?_
  refine TC_reg ?_
  refine TL_q rfl rfl (QT_move rfl rfl rfl) ?_
  refine TL_q rfl rfl (QT_len rfl rfl Try.underlying31 rfl) ?_
  refine TL_q rfl rfl (QT_gtr rfl rfl rfl rfl) ?_
  refine TL_nil ?_
  refine TX_then ?_
  first
    | refine TC_cond_dec rfl (fun h11 => ?_) (fun h11 => ?_)
    | refine TC_cond rfl (fun h11 => ?_) (fun h11 => ?_)
  ·
    refine TC_seq ?_
    refine TC_reg ?_
    refine TL_cq rfl rfl rfl rfl YtkkdpbjfkncpbaaF.cal_10 rfl (fun _ => lives06 w0 _) ?_
    refine TL_q rfl rfl (QT_assign rfl rfl rfl) ?_
    refine TL_nil ?_
    refine TX_then ?_
    refine TC_ret ?_
    refine TX_then_ret ?_
    exact TX_ret (.inl rfl) (res1 rfl rfl) ⟨_, ⟨rfl, rfl⟩, (fun _ h => by first | exact h | exact h.tail | exact h.tail.tail | exact h.tail.tail.tail | exact h.tail.tail.tail.tail | exact h.tail.tail.tail.tail.tail | exact h.tail.tail.tail.tail.tail.tail | exact h.tail.tail.tail.tail.tail.tail.tail | exact h.tail.tail.tail.tail.tail.tail.tail.tail | exact h.tail.tail.tail.tail.tail.tail.tail.tail.tail | exact h.tail.tail.tail.tail.tail.tail.tail.tail.tail.tail | exact h.tail.tail.tail.tail.tail.tail.tail.tail.tail.tail.tail | exact h.tail.tail.tail.tail.tail.tail.tail.tail.tail.tail.tail.tail | exact h.tail.tail.tail.tail.tail.tail.tail.tail.tail.tail.tail.tail.tail)⟩
  ·
    refine TC_skip ?_
    refine TX_then ?_
    refine TC_seq ?_
    refine TC_reg ?_
    refine TL_e rfl rfl rfl (rfl) (ET_call rfl YtkkdpbjfkncpbaaF.cal_15 rfl (newRow_spec w0 η)) ?_
    rintro _ _ ⟨rb, K0, rfl, hK0, rfl⟩
    refine TL_q rfl rfl (QT_assign rfl rfl rfl) ?_
    refine TL_nil ?_
    refine TX_then ?_
    refine TC_seq ?_
    refine TC_reg ?_
    refine TL_q rfl rfl (QT_assign rfl rfl rfl) ?_
    refine TL_nil ?_
    refine TX_then ?_
    refine TC_seq ?_
    refine TC_seq ?_
    refine TC_reg ?_
    refine TL_q rfl rfl (QT_assign rfl rfl rfl) ?_
    refine TL_nil ?_
    refine TX_then ?_
    refine TC_block ?_
    have hn200 : ls.length ≤ 200 := by omega
    refine TC_loop (γ := { t : Nat × Heap // t.1 ≤ ls.length ∧ RowAt rb (catL ls t.1) t.2 ∧ ∀ j x, j < t.1 → ls[j]? = some x → okLd x = true }) (fun t => [(0, true, .slice ad ls.length cap), (3, true, .pointer (some ⟨rb, 0, none⟩)), (4, true, .int .i64 ((catL ls t.1.1).length : Int)), (5, true, .int .i64 (t.1.1 : Int))]) (fun t => St w0 (t.1.2 ++ η)) (fun t => ls.length - t.1.1) ⟨(0, K0), Nat.zero_le _, hK0, fun j x h => absurd h (Nat.not_lt_zero j)⟩ ⟨rfl, rfl, rfl, rfl, trivial⟩ (fun _ h => h) ?_
    rintro ⟨⟨i, K⟩, hi, hK, hok⟩
    dsimp only at hi hK hok ⊢
    have hcl : (catL ls i).length ≤ 32 * i := by
      have : ∀ j, j ≤ i → (catL ls j).length ≤ 32 * j := by
        intro j
        induction j with
        | zero => intro _; simp [catL]
        | succ j ih =>
          intro hj
          obtain ⟨x, hx⟩ : ∃ x, ls[j]? = some x := ⟨_, List.getElem?_eq_getElem (show j < ls.length by omega)⟩
          have := okLd_true (hok j x (by omega) hx)
          have := ih (by omega)
          rw [catL_succ hx, List.length_append, bitsN_len]; omega
      exact this i (Nat.le_refl _)
    refine TC_seq ?_
    refine TC_seq ?_
    refine TC_reg ?_
    refine TL_q rfl rfl (QT_move rfl rfl rfl) ?_
    refine TL_q rfl rfl (QT_move rfl rfl rfl) ?_
    refine TL_q rfl rfl (QT_len rfl rfl Try.underlying31 rfl) ?_
    refine TL_q rfl rfl (QT_lss rfl rfl rfl rfl) ?_
    refine TL_nil ?_
    refine TX_then ?_
    first
      | refine TC_cond_dec rfl (fun h17 => ?_) (fun h17 => ?_)
      | refine TC_cond rfl (fun h17 => ?_) (fun h17 => ?_)
    ·
      have hi' : i < ls.length := by omega
      obtain rfl := had (by omega)
      obtain ⟨x, hx⟩ : ∃ x, ls[i]? = some x := ⟨_, List.getElem?_eq_getElem hi'⟩
      obtain ⟨hx1, hx2⟩ := hb x (List.mem_of_getElem? hx)
      obtain ⟨ha1, ha2, ha3⟩ := ldV_at hx
      have hle : i * 2 + 2 ≤ (ldV ls).length := by rw [ldV_len]; omega
      refine TC_skip ?_
      refine TX_then ?_
      refine TC_seq ?_
      refine TC_block ?_
      refine TC_seq ?_
      refine TC_seq ?_
      refine TC_reg ?_
      refine TL_q rfl rfl (QT_move rfl rfl rfl) ?_
      refine TL_q rfl rfl (QT_move rfl rfl rfl) ?_
      refine TL_q rfl rfl (QT_indexSlice (i) rfl rfl Try.underlying31 YtkkdpbjfkncpbaaF.sz_52 rfl rfl (rfl) (fun _ => hi')) ?_
      refine TL_q rfl rfl (QT_loadRAj (i * 2) rfl rfl Try.underlying52 rfl YtkkdpbjfkncpbaaF.sz_52 (hR _) rfl (fun _ => hle) (fun _ => ha3)) ?_
      refine TL_cq rfl rfl rfl rfl YtkkdpbjfkncpbaaF.cal_28 rfl (fun _ => may_spec w0 _ x hx1 hx2) ?_
      refine TL_q rfl rfl (QT_not rfl rfl rfl) ?_
      refine TL_nil ?_
      refine TX_then ?_
      first
        | refine TC_cond_dec rfl (fun h25 => ?_) (fun h25 => ?_)
        | refine TC_cond rfl (fun h25 => ?_) (fun h25 => ?_)
      ·
        refine TC_seq ?_
        refine TC_reg ?_
        refine TL_cq rfl rfl rfl rfl YtkkdpbjfkncpbaaF.cal_10 rfl (fun _ => lives06 w0 _) ?_
        refine TL_q rfl rfl (QT_assign rfl rfl rfl) ?_
        refine TL_nil ?_
        refine TX_then ?_
        refine TC_ret ?_
        refine TX_then_ret ?_
        refine TX_block_ret ?_
        refine TX_then_ret ?_
        refine TX_then_ret ?_
        refine TX_block_ret ?_
        refine TX_then_ret ?_
        exact TX_ret (.inl rfl) (res1 rfl rfl) ⟨_, ⟨rfl, rfl⟩, fun _ h => h.app_right⟩
      ·
        refine TC_skip ?_
        refine TX_then ?_
        refine TC_seq ?_
        refine TC_seq ?_
        have hokx : okLd x = true := by simpa using h25
        obtain ⟨g0, g1, g2⟩ := okLd_true hokx
        obtain ⟨v, n⟩ := x
        dsimp only at hx1 hx2 ha1 ha2 ha3 g0 g1 g2
        obtain ⟨m, rfl⟩ := Int.eq_ofNat_of_zero_le g0
        rw [Int.toNat_natCast] at g2
        have hcs := catL_succ hx
        dsimp only at hcs
        rw [Int.toNat_natCast] at hcs
        have he : putE (catL ls i).length v (m : Int) = 0 := put0 (by omega) g2 (by omega)
        have hpl : putL (catL ls i) v (m : Int) = catL ls (i + 1) := by unfold putL; rw [if_pos he, Int.toNat_natCast, hcs]
        have hcl2 : (catL ls (i + 1)).length = (catL ls i).length + m := by rw [hcs, List.length_append, bitsN_len]
        refine TC_draw [(0, 0), (1, 0), (2, 0), (3, 0), (4, 0), (5, 0), (6, 0), (7, 0), (8, 0), (9, 0), (10, 0), (11, 1), (12, 0)] YtkkdpbjfkncpbaaF.mixed (by kernel_rfl) (St.calm _ _) ?_
        refine TV_q rfl rfl rfl (fun _ => QT_move rfl rfl rfl) ?_
        refine TV_q rfl rfl rfl (fun _ => QT_move rfl rfl rfl) ?_
        refine TV_q rfl rfl rfl (fun _ => QT_move rfl rfl rfl) ?_
        refine TV_q rfl rfl rfl (fun _ => QT_indexSlice (i) rfl rfl Try.underlying31 YtkkdpbjfkncpbaaF.sz_52 rfl rfl (rfl) (fun _ => hi')) ?_
        refine TV_q rfl rfl rfl (fun _ => QT_field rfl rfl YtkkdpbjfkncpbaaF.fld_52_0 rfl) ?_
        refine TV_ql rfl rfl rfl (QT_loadRj (i * 2) rfl rfl Try.underlying25 rfl (hR _) rfl (fun _ => ha1)) ?_
        refine TV_q rfl rfl rfl (fun _ => QT_move rfl rfl rfl) ?_
        refine TV_q rfl rfl rfl (fun _ => QT_move rfl rfl rfl) ?_
        refine TV_q rfl rfl rfl (fun _ => QT_indexSlice (i) rfl rfl Try.underlying31 YtkkdpbjfkncpbaaF.sz_52 rfl rfl (rfl) (fun _ => hi')) ?_
        refine TV_q rfl rfl rfl (fun _ => QT_field rfl rfl YtkkdpbjfkncpbaaF.fld_52_1 rfl) ?_
        refine TV_ql rfl rfl rfl (QT_loadRj (i * 2 + 1) rfl rfl Try.underlying3 rfl (hR _) rfl (fun _ => ha2)) ?_
        refine TV_e rfl rfl rfl rfl (rfl) (ET_call rfl YtkkdpbjfkncpbaaF.cal_19 rfl (put_at (v := v) (n := (m : Int)) hK (by omega) ⟨by omega, by omega⟩ (by omega) he hpl)) ?_
        rintro _ _ ⟨K1, rfl, hK1, rfl⟩
        refine ⟨_, .drop (by kernel_rfl) (.drop (by kernel_rfl) (.nil)), ?_⟩
        refine TV_q rfl rfl rfl (fun _ => QT_neq rfl rfl rfl rfl) ?_
        refine TV_end ?_
        refine TX_then ?_
        refine TC_cond rfl (fun h => absurd (h.symm.trans ((show (_ : Bool) = false by rfl))) (by decide)) (fun _ => ?_)
        refine TC_skip ?_
        refine TX_then ?_
        refine TC_seq ?_
        refine TC_reg ?_
        refine TL_q rfl rfl (QT_move rfl rfl rfl) ?_
        refine TL_q rfl rfl (QT_move rfl rfl rfl) ?_
        refine TL_q rfl rfl (QT_move rfl rfl rfl) ?_
        refine TL_q rfl rfl (QT_indexSlice (i) rfl rfl Try.underlying31 YtkkdpbjfkncpbaaF.sz_52 rfl rfl (rfl) (fun _ => hi')) ?_
        refine TL_q rfl rfl (QT_field rfl rfl YtkkdpbjfkncpbaaF.fld_52_1 rfl) ?_
        refine TL_q rfl rfl (QT_loadRj (i * 2 + 1) rfl rfl Try.underlying3 rfl (hR _) rfl (fun _ => ha2)) ?_
        refine TL_q rfl rfl (QT_add rfl rfl rfl rfl (fun _ => ⟨by omega, by omega⟩)) ?_
        refine TL_q rfl rfl (QT_assign rfl rfl rfl) ?_
        refine TL_nil ?_
        refine TX_then ?_
        refine TC_seq ?_
        refine TC_reg ?_
        refine TL_q rfl rfl (QT_move rfl rfl rfl) ?_
        refine TL_cq rfl rfl rfl rfl YtkkdpbjfkncpbaaF.cal_22 rfl (fun _ => RowAt.len η hK1 (by omega)) ?_
        refine TL_q rfl rfl (QT_move rfl rfl rfl) ?_
        refine TL_q rfl rfl (QT_neq rfl rfl rfl rfl) ?_
        refine TL_nil ?_
        refine TX_then ?_
        refine TC_cond rfl (fun h => absurd (h.symm.trans ((show (_ : Bool) = false by simp; omega))) (by decide)) (fun _ => ?_)
        refine TC_skip ?_
        refine TX_block_normal ?_
        refine TX_then ?_
        refine TC_reg ?_
        refine TL_q rfl rfl (QT_move rfl rfl rfl) ?_
        refine TL_q rfl rfl (QT_add rfl rfl rfl rfl (fun _ => ⟨by omega, by omega⟩)) ?_
        refine TL_q rfl rfl (QT_assign rfl rfl rfl) ?_
        refine TL_nil ?_
        exact TX_round ⟨(i + 1, K1), hi', hK1, fun j y hj hy => by
          by_cases h : j < i
          · exact hok j y h hy
          · obtain rfl : j = i := by omega
            rw [hx] at hy
            cases hy
            exact hokx⟩ (by show ls.length - (i + 1) < ls.length - i; omega) ⟨rfl, rfl, slotI rfl (by dsimp only; omega), rfl, trivial⟩ (fun _ h => h)
    ·
      refine TC_exit ?_
      refine TX_then_exit ?_
      refine TX_then_exit ?_
      refine TX_block_here ?_
      refine TX_then ?_
      refine TC_seq ?_
      obtain rfl : i = ls.length := by omega
      refine TC_reg ?_
      refine TL_q rfl rfl (QT_move rfl rfl rfl) ?_
      refine TL_e rfl rfl rfl (rfl) (ET_call rfl YtkkdpbjfkncpbaaF.cal_21 rfl (RowAt.bytes η hK (by omega))) ?_
      rintro bv _ ⟨bs, H2, hF2, hbs, rfl⟩
      refine TL_q rfl rfl (QT_assign rfl rfl rfl) ?_
      refine TL_nil ?_
      refine TX_then ?_
      refine TC_seq ?_
      refine TC_seq ?_
      obtain ⟨bad, bcap, rfl, hbc, _⟩ := hF2.slice
      have hbl : 8 * bs.length = 8 * (((catL ls ls.length).length + 7) / 8) := by
        have := congrArg List.length hbs.1
        rw [byB_len, List.length_append, List.length_replicate] at this
        omega
      generalize hLL : (catL ls ls.length).length = LL at hcl hbl hbs
      have hbs1 := hbs.1
      have hbs2 := hbs.2
      refine TC_reg ?_
      refine TL_q rfl rfl (QT_move rfl rfl rfl) ?_
      refine TL_q rfl rfl (QT_len rfl rfl Try.underlying22 rfl) ?_
      refine TL_q rfl rfl (QT_move rfl rfl rfl) ?_
      refine TL_q rfl rfl (QT_add rfl rfl rfl rfl (fun _ => ⟨by omega, by omega⟩)) ?_
      refine TL_q rfl rfl (QT_to (QT_quo rfl rfl rfl rfl (fun _ => ⟨by omega, by omega, by omega⟩)) (show ((LL : Int) + 7) / 8 = (bs.length : Int) by omega)) ?_
      refine TL_q rfl rfl (QT_neq rfl rfl rfl rfl) ?_
      refine TL_q rfl rfl (QT_move rfl rfl rfl) ?_
      refine TL_q rfl rfl (QT_move rfl rfl rfl) ?_
      refine TL_A (St w0 (K ++ (H2 ++ η))) (fun _ h => h.cnt fun p => by simp only [List.countP_append]; omega) ?_
      refine TL_e rfl rfl rfl ((by simp)) (ET_call rfl YtkkdpbjfkncpbaaF.cal_17 rfl (RowAt.pad (H2 ++ η) hK)) ?_
      rintro _ _ ⟨K2, rfl, hK2, rfl⟩
      refine TL_q rfl rfl (QT_neq rfl rfl rfl rfl) ?_
      refine TL_q rfl rfl (QT_or rfl rfl rfl rfl) ?_
      refine TL_q rfl rfl (QT_move rfl rfl rfl) ?_
      refine TL_q rfl rfl (QT_move rfl rfl rfl) ?_
      rw [hLL] at hK2
      have hpl2 : (catL ls ls.length ++ List.replicate (8 * ((LL + 7) / 8) - LL) false).length = 8 * bs.length := by rw [List.length_append, List.length_replicate, hLL]; omega
      refine TL_cq rfl rfl rfl rfl YtkkdpbjfkncpbaaF.cal_22 rfl (fun _ => len_at (n := 8 * bs.length) (H2 ++ η) hK2 hpl2 (by omega)) ?_
      refine TL_q rfl rfl (QT_move rfl rfl rfl) ?_
      refine TL_q rfl rfl (QT_len rfl rfl Try.underlying22 rfl) ?_
      refine TL_q rfl rfl (QT_to (QT_mul rfl rfl rfl rfl (fun _ => ⟨by omega, by omega⟩)) (show (8 : Int) * (bs.length : Int) = ((8 * bs.length : Nat) : Int) by simp)) ?_
      refine TL_q rfl rfl (QT_neq rfl rfl rfl rfl) ?_
      refine TL_q rfl rfl (QT_or rfl rfl rfl rfl) ?_
      refine TL_q rfl rfl (QT_move rfl rfl rfl) ?_
      refine TL_q rfl rfl (QT_move rfl rfl rfl) ?_
      refine TL_e rfl rfl rfl ((by simp)) (ET_call rfl YtkkdpbjfkncpbaaF.cal_21 rfl (RowAt.bytes (H2 ++ η) hK2 (by omega))) ?_
      rintro cv _ ⟨bs2, H3, hF3, hbs3, rfl⟩
      have hsame : bs2 = bs := byB_inj (hbs3.1.trans (by rw [hbs1, hpl2, show 8 * ((8 * bs.length + 7) / 8) - 8 * bs.length = 0 by omega]; simp)) hbs3.2 hbs2
      subst hsame
      refine TL_q rfl rfl (QT_move rfl rfl rfl) ?_
      refine TL_cq rfl rfl rfl rfl YtkkdpbjfkncpbaaF.cal_24 rfl (fun _ => sameOk_Bytes w0 _ cv _ bs2.length (byV bs2) (hF3.within fun p => by simp only [List.countP_append]; omega) (hF2.within fun p => by simp only [List.countP_append]; omega) (byV_ints hbs2)) ?_
      refine TL_q rfl rfl (QT_not rfl rfl rfl) ?_
      refine TL_q rfl rfl (QT_or rfl rfl rfl rfl) ?_
      refine TL_nil ?_
      refine TX_then ?_
      refine TC_cond rfl (fun h => absurd (h.symm.trans ((show (_ : Bool) = false by simp))) (by decide)) (fun _ => ?_)
      refine TC_skip ?_
      refine TX_then ?_
      refine TC_seq ?_
      refine TC_reg ?_
      refine TL_q rfl rfl (QT_assign rfl rfl rfl) ?_
      refine TL_nil ?_
      refine TX_then ?_
      refine TC_seq ?_
      refine TC_seq ?_
      refine TC_reg ?_
      refine TL_q rfl rfl (QT_assign rfl rfl rfl) ?_
      refine TL_nil ?_
      refine TX_then ?_
      refine TC_block ?_
      refine TC_loop (γ := { i : Nat // i ≤ ls.length }) (fun t => [(0, true, .slice ad ls.length cap), (6, true, .slice bad bs2.length bcap), (7, true, .int .i64 ((catL ls t.1).length : Int)), (8, true, .int .i64 (t.1 : Int))]) (fun _ => St w0 (H2 ++ η)) (fun t => ls.length - t.1) ⟨0, Nat.zero_le _⟩ ⟨rfl, rfl, rfl, rfl, trivial⟩ (fun _ h => h.cnt fun p => by simp only [List.countP_append]; omega) ?_
      rintro ⟨i, hi⟩
      dsimp only
      refine TC_seq ?_
      refine TC_seq ?_
      refine TC_reg ?_
      refine TL_q rfl rfl (QT_move rfl rfl rfl) ?_
      refine TL_q rfl rfl (QT_move rfl rfl rfl) ?_
      refine TL_q rfl rfl (QT_len rfl rfl Try.underlying31 rfl) ?_
      refine TL_q rfl rfl (QT_lss rfl rfl rfl rfl) ?_
      refine TL_nil ?_
      refine TX_then ?_
      first
        | refine TC_cond_dec rfl (fun h82 => ?_) (fun h82 => ?_)
        | refine TC_cond rfl (fun h82 => ?_) (fun h82 => ?_)
      ·
        have hi' : i < ls.length := by omega
        obtain rfl := had (by omega)
        obtain ⟨x, hx⟩ : ∃ x, ls[i]? = some x := ⟨_, List.getElem?_eq_getElem hi'⟩
        obtain ⟨hx1, hx2⟩ := hb x (List.mem_of_getElem? hx)
        obtain ⟨ha1, ha2, ha3⟩ := ldV_at hx
        have hokx := hok i x hi' hx
        obtain ⟨q1, q2⟩ := got_at hbs1 hx hokx
        obtain ⟨g0, g1, g2⟩ := okLd_true hokx
        obtain ⟨v, n⟩ := x
        dsimp only at hx1 hx2 ha1 ha2 ha3 g0 g1 g2 q1 q2
        obtain ⟨m, rfl⟩ := Int.eq_ofNat_of_zero_le g0
        have hcs := catL_succ hx
        dsimp only at hcs
        rw [Int.toNat_natCast] at hcs
        have hcl2 : (catL ls (i + 1)).length = (catL ls i).length + m := by rw [hcs, List.length_append, bitsN_len]
        have hcl3 : (catL ls i).length + m ≤ LL := by
          obtain ⟨r, hr⟩ := catL_split hx
          have := congrArg List.length hr
          dsimp only at this
          rw [Int.toNat_natCast, List.length_append, List.length_append, bitsN_len, hLL] at this
          omega
        have hB : SlA (St w0 (H2 ++ η)) (.slice bad bs2.length bcap) 1 bs2.length (byV bs2) := hF2.within fun p => by simp only [List.countP_append]; omega
        have hBf := hB.front (k := bs2.length - 1) (by omega)
        rw [byV_take] at hBf
        have htl : (bs2.take (bs2.length - 1)).length = bs2.length - 1 := by rw [List.length_take]; omega
        have hBf2 : SlA (St w0 (H2 ++ η)) (.slice bad (bs2.length - 1) bcap) 1 (bs2.take (bs2.length - 1)).length (byV (bs2.take (bs2.length - 1))) := by rw [htl]; exact hBf
        refine TC_skip ?_
        refine TX_then ?_
        refine TC_seq ?_
        refine TC_block ?_
        refine TC_seq ?_
        refine TC_seq ?_
        refine TC_draw [(0, 0), (1, 0), (2, 0), (3, 0), (4, 0), (5, 0), (6, 0), (7, 0), (8, 0), (9, 0), (10, 0), (11, 0), (12, 1), (13, 0)] YtkkdpbjfkncpbaaF.mixed (by kernel_rfl) (St.calm _ _) ?_
        refine TV_q rfl rfl rfl (fun _ => QT_move rfl rfl rfl) ?_
        refine TV_q rfl rfl rfl (fun _ => QT_move rfl rfl rfl) ?_
        refine TV_q rfl rfl rfl (fun _ => QT_move rfl rfl rfl) ?_
        refine TV_q rfl rfl rfl (fun _ => QT_move rfl rfl rfl) ?_
        refine TV_q rfl rfl rfl (fun _ => QT_indexSlice (i) rfl rfl Try.underlying31 YtkkdpbjfkncpbaaF.sz_52 rfl rfl (rfl) (fun _ => hi')) ?_
        refine TV_q rfl rfl rfl (fun _ => QT_field rfl rfl YtkkdpbjfkncpbaaF.fld_52_1 rfl) ?_
        refine TV_ql rfl rfl rfl (QT_loadRj (i * 2 + 1) rfl rfl Try.underlying3 rfl (hR _) rfl (fun _ => ha2)) ?_
        refine TV_q rfl rfl rfl (fun _ => QT_move rfl rfl rfl) ?_
        refine TV_q rfl rfl rfl (fun _ => QT_move rfl rfl rfl) ?_
        refine TV_q rfl rfl rfl (fun _ => QT_indexSlice (i) rfl rfl Try.underlying31 YtkkdpbjfkncpbaaF.sz_52 rfl rfl (rfl) (fun _ => hi')) ?_
        refine TV_q rfl rfl rfl (fun _ => QT_field rfl rfl YtkkdpbjfkncpbaaF.fld_52_0 rfl) ?_
        refine TV_ql rfl rfl rfl (QT_loadRj (i * 2) rfl rfl Try.underlying25 rfl (hR _) rfl (fun _ => ha1)) ?_
        refine TV_cq rfl rfl rfl rfl rfl YtkkdpbjfkncpbaaF.cal_29 rfl (fun _ => got_ok hB hbs2 ⟨by omega, by omega⟩ ⟨by omega, by omega⟩ (by omega) q1 q2) (.drop (by kernel_rfl) (.drop (by kernel_rfl) (.nil))) ?_
        refine TV_q rfl rfl rfl (fun _ => QT_not rfl rfl rfl) ?_
        refine TV_end ?_
        refine TX_then ?_
        refine TC_cond rfl (fun h => absurd (h.symm.trans ((show (_ : Bool) = false by rfl))) (by decide)) (fun _ => ?_)
        refine TC_skip ?_
        refine TX_then ?_
        refine TC_seq ?_
        refine TC_reg ?_
        refine TL_q rfl rfl (QT_move rfl rfl rfl) ?_
        refine TL_q rfl rfl (QT_move rfl rfl rfl) ?_
        refine TL_q rfl rfl (QT_move rfl rfl rfl) ?_
        refine TL_q rfl rfl (QT_indexSlice (i) rfl rfl Try.underlying31 YtkkdpbjfkncpbaaF.sz_52 rfl rfl (rfl) (fun _ => hi')) ?_
        refine TL_q rfl rfl (QT_field rfl rfl YtkkdpbjfkncpbaaF.fld_52_1 rfl) ?_
        refine TL_q rfl rfl (QT_loadRj (i * 2 + 1) rfl rfl Try.underlying3 rfl (hR _) rfl (fun _ => ha2)) ?_
        refine TL_q rfl rfl (QT_to (QT_add rfl rfl rfl rfl (fun _ => ⟨by omega, by omega⟩)) (show ((catL ls i).length : Int) + (m : Int) = ((catL ls (i + 1)).length : Int) by omega)) ?_
        refine TL_q rfl rfl (QT_assign rfl rfl rfl) ?_
        refine TL_nil ?_
        refine TX_then ?_
        refine TC_seq ?_
        refine TC_draw [(0, 0), (1, 0), (2, 0), (3, 0), (4, 0), (5, 0), (6, 0), (7, 0), (8, 0), (9, 0), (10, 0), (11, 0), (12, 0), (13, 0), (14, 0), (15, 0), (16, 0), (17, 0), (18, 0), (19, 0), (20, 0), (21, 0), (22, 0), (23, 0), (24, 0), (25, 0), (26, 0), (27, 0), (28, 0), (29, 0), (30, 0), (31, 0), (32, 1), (33, 0), (34, 0)] YtkkdpbjfkncpbaaF.mixed (by kernel_rfl) (St.calm _ _) ?_
        refine TV_q rfl rfl rfl (fun _ => QT_move rfl rfl rfl) ?_
        refine TV_q rfl rfl rfl (fun _ => QT_move rfl rfl rfl) ?_
        refine TV_q rfl rfl rfl (fun _ => QT_len rfl rfl Try.underlying22 rfl) ?_
        refine TV_q rfl rfl rfl (fun _ => QT_mul rfl rfl rfl rfl (fun _ => ⟨by omega, by omega⟩)) ?_
        refine TV_q rfl rfl rfl (fun _ => QT_sub rfl rfl rfl rfl (fun _ => ⟨by omega, by omega⟩)) ?_
        refine TV_q rfl rfl rfl (fun _ => QT_gtr rfl rfl rfl rfl) ?_
        refine TV_q rfl rfl rfl (fun _ => QT_move rfl rfl rfl) ?_
        refine TV_q rfl rfl rfl (fun _ => QT_move rfl rfl rfl) ?_
        refine TV_q rfl rfl rfl (fun _ => QT_move rfl rfl rfl) ?_
        refine TV_q rfl rfl rfl (fun _ => QT_indexSlice (i) rfl rfl Try.underlying31 YtkkdpbjfkncpbaaF.sz_52 rfl rfl (rfl) (fun _ => hi')) ?_
        refine TV_q rfl rfl rfl (fun _ => QT_field rfl rfl YtkkdpbjfkncpbaaF.fld_52_1 rfl) ?_
        refine TV_ql rfl rfl rfl (QT_loadRj (i * 2 + 1) rfl rfl Try.underlying3 rfl (hR _) rfl (fun _ => ha2)) ?_
        refine TV_q rfl rfl rfl (fun _ => QT_gtr rfl rfl rfl rfl) ?_
        refine TV_q rfl rfl rfl (fun _ => QT_and rfl rfl rfl rfl) ?_
        refine TV_q rfl rfl rfl (fun _ => QT_move rfl rfl rfl) ?_
        refine TV_q rfl rfl rfl (fun _ => QT_move rfl rfl rfl) ?_
        refine TV_q rfl rfl rfl (fun _ => QT_move rfl rfl rfl) ?_
        refine TV_q rfl rfl rfl (fun _ => QT_len rfl rfl Try.underlying22 rfl) ?_
        refine TV_q rfl rfl rfl (fun _ => QT_toG (QT_sub rfl rfl rfl rfl (fun _ => ⟨by omega, by omega⟩)) (v' := .int .i64 ((bs2.length - 1 : Nat) : Int)) (fun h => by
         have : 0 < bs2.length := by
           simp at h
           omega
         congr 1; omega)) ?_
        refine TV_q rfl rfl rfl (fun _ => QT_slcH (bs2.length - 1) rfl rfl rfl rfl Try.underlying22 YtkkdpbjfkncpbaaF.sz_5 rfl rfl rfl (fun _ => by omega)) ?_
        refine TV_q rfl rfl rfl (fun _ => QT_move rfl rfl rfl) ?_
        refine TV_q rfl rfl rfl (fun _ => QT_move rfl rfl rfl) ?_
        refine TV_q rfl rfl rfl (fun _ => QT_move rfl rfl rfl) ?_
        refine TV_q rfl rfl rfl (fun _ => QT_indexSlice (i) rfl rfl Try.underlying31 YtkkdpbjfkncpbaaF.sz_52 rfl rfl (rfl) (fun _ => hi')) ?_
        refine TV_q rfl rfl rfl (fun _ => QT_field rfl rfl YtkkdpbjfkncpbaaF.fld_52_1 rfl) ?_
        refine TV_ql rfl rfl rfl (QT_loadRj (i * 2 + 1) rfl rfl Try.underlying3 rfl (hR _) rfl (fun _ => ha2)) ?_
        refine TV_q rfl rfl rfl (fun _ => QT_to (QT_sub rfl rfl rfl rfl (fun _ => ⟨by omega, by omega⟩)) (show ((catL ls (i + 1)).length : Int) - (m : Int) = ((catL ls i).length : Int) by omega)) ?_
        refine TV_q rfl rfl rfl (fun _ => QT_move rfl rfl rfl) ?_
        refine TV_q rfl rfl rfl (fun _ => QT_move rfl rfl rfl) ?_
        refine TV_q rfl rfl rfl (fun _ => QT_indexSlice (i) rfl rfl Try.underlying31 YtkkdpbjfkncpbaaF.sz_52 rfl rfl (rfl) (fun _ => hi')) ?_
        refine TV_q rfl rfl rfl (fun _ => QT_field rfl rfl YtkkdpbjfkncpbaaF.fld_52_1 rfl) ?_
        refine TV_ql rfl rfl rfl (QT_loadRj (i * 2 + 1) rfl rfl Try.underlying3 rfl (hR _) rfl (fun _ => ha2)) ?_
        refine TV_cq (hc := (by intro h; simp only [h]; rfl)) rfl rfl rfl rfl rfl YtkkdpbjfkncpbaaF.cal_30 rfl (fun _ => no_spec w0 _ _ (bs2.take (bs2.length - 1)) ((catL ls i).length : Int) (m : Int) 5 hBf2 (fun c hc => hbs2 c (List.mem_of_mem_take hc)) ⟨by omega, by omega⟩ ⟨by omega, by omega⟩ (by omega)) (.drop (by kernel_rfl) (.keep (by kernel_rfl) rfl (by first | exact QT_loadRj (i * 2 + 1) rfl rfl Try.underlying3 rfl (hR _) rfl (fun _ => ha2)) (.keep (by kernel_rfl) rfl (by first | exact QT_loadRj (i * 2 + 1) rfl rfl Try.underlying3 rfl (hR _) rfl (fun _ => ha2)) (.nil)))) ?_
        refine TV_q rfl rfl rfl (fun _ => QT_not rfl rfl rfl) ?_
        refine TV_q rfl rfl rfl (fun _ => QT_and rfl rfl rfl rfl) ?_
        refine TV_end ?_
        refine TX_then ?_
        refine TC_cond rfl (fun h => absurd (h.symm.trans ((show (_ : Bool) = false by
         by_cases h1 : 8 * (bs2.length : Int) - 8 < ((catL ls (i + 1)).length : Int) ∧ 0 < (m : Int)
         · have e5 : getE (bs2.take (bs2.length - 1)).length ((catL ls i).length : Int) (m : Int) = 5 := by rw [htl]; unfold getE; rw [if_neg (by omega), if_pos (by omega)]
           have v5 : getV (bs2.take (bs2.length - 1)) ((catL ls i).length : Int) (m : Int) = 0 := by unfold getV; rw [e5, if_neg (by decide)]
           rw [e5, v5]; simp
         · have : (decide (8 * (bs2.length : Int) - 8 < ((catL ls (i + 1)).length : Int)) && decide (0 < (m : Int))) = false := by
             rw [Bool.and_eq_false_iff, decide_eq_false_iff_not, decide_eq_false_iff_not]
             omega
           rw [this]; rfl))) (by decide)) (fun _ => ?_)
        refine TC_skip ?_
        refine TX_block_normal ?_
        refine TX_then ?_
        refine TC_reg ?_
        refine TL_q rfl rfl (QT_move rfl rfl rfl) ?_
        refine TL_q rfl rfl (QT_add rfl rfl rfl rfl (fun _ => ⟨by omega, by omega⟩)) ?_
        refine TL_q rfl rfl (QT_assign rfl rfl rfl) ?_
        refine TL_nil ?_
        exact TX_round ⟨i + 1, hi'⟩ (by show ls.length - (i + 1) < ls.length - i; omega) ⟨rfl, rfl, rfl, rfl, trivial⟩ (fun _ h => h)
      ·
        refine TC_exit ?_
        refine TX_then_exit ?_
        refine TX_then_exit ?_
        refine TX_block_here ?_
        refine TX_then ?_
        refine TC_seq ?_
        refine TC_reg ?_
        refine TL_cq rfl rfl rfl rfl YtkkdpbjfkncpbaaF.cal_10 rfl (fun _ => lives06 w0 _) ?_
        refine TL_q rfl rfl (QT_assign rfl rfl rfl) ?_
        refine TL_nil ?_
        refine TX_then ?_
        refine TC_ret ?_
        exact TX_ret (.inl rfl) (res1 rfl rfl) ⟨_, ⟨rfl, rfl⟩, fun _ h => h.app_right⟩
end Go.Proofs.Ytkkdpbjfkncpbaa

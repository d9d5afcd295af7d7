/- THE LAW: a record that tells anything that it has no room for is refused, wherever it stands. -/
import Derived.Test.YtjehicncbpljaaaDoorS09u
import Derived.Test.YtjehicncbpljaaaDoorS09o
namespace Go.Proofs.YtjehicncbpljaaaDoor
open Go Go.Gx Go.RowKit Go.ChangeShapes Go.WideShapes Go.ChangeAt
set_option maxRecDepth 100000
theorem slotVR {σ : Slots} {t : Nat} {c : Bool} {v v' : Value} (hl : Go.Gx.look σ t = some (c, v)) (h : v = v') : Go.Gx.look σ t = some (c, v') := h ▸ hl
theorem or_u32R {a b : Nat} (ha : a < 4294967296) (hb : b < 4294967296) : bitsOf .or .u32 (a : Int) (b : Int) = ((a ||| b : Nat) : Int) ∧ a ||| b < 4294967296 := by
  have h : a ||| b < 2 ^ 32 := Nat.or_lt_two_pow (show a < 2 ^ 32 from ha) (show b < 2 ^ 32 from hb)
  refine ⟨?_, h⟩
  show IntKind.u32.wrap ((BitVec.ofInt 32 (a : Int) ||| BitVec.ofInt 32 (b : Int)).toNat : Int) = _
  rw [BitVec.toNat_or, ofInt_u32 a ha, ofInt_u32 b hb]
  exact IntWalk.u32_in ((a ||| b : Nat) : Int) ⟨by omega, by omega⟩
theorem or_u16R {a b : Nat} (ha : a < 65536) (hb : b < 65536) : bitsOf .or .u16 (a : Int) (b : Int) = ((a ||| b : Nat) : Int) ∧ a ||| b < 65536 := by
  have h : a ||| b < 2 ^ 16 := Nat.or_lt_two_pow (show a < 2 ^ 16 from ha) (show b < 2 ^ 16 from hb)
  refine ⟨?_, h⟩
  show IntKind.u16.wrap ((BitVec.ofInt 16 (a : Int) ||| BitVec.ofInt 16 (b : Int)).toNat : Int) = _
  rw [BitVec.toNat_or, ofInt16R a ha, ofInt16R b hb]
  exact IntWalk.u16_in ((a ||| b : Nat) : Int) ⟨by omega, by omega⟩
theorem shl_u32R : ∀ w : Fin 17, IntKind.u32.wrap (1 * 2 ^ (min ((w.1 : Nat) : Int).toNat IntKind.u32.bits)) = ((2 ^ w.1 : Nat) : Int) := by decide +kernel
theorem wrapR32 (x : Nat) : IntKind.u32.wrap (x : Int) = ((x % 4294967296 : Nat) : Int) := by
  show (x : Int) % 4294967296 = _
  omega
theorem flat_setR : ∀ {ys : List (List Nat)}, (∀ y ∈ ys, RcF y) → ∀ {i p v : Nat} {y : List Nat} (rest : List Value), ys[i]? = some y → p < 7 → setAt (flatR ys ++ rest) (i * 7 + p) [.int (rkK p) (v : Int)] = flatR (ys.set i (y.set p v)) ++ rest
  | [], _, i, p, v, y, rest, h, _ => by simp at h
  | z :: ys, hy, 0, p, v, y, rest, h, hp => by
    obtain rfl : z = y := by simpa using h
    have hl := rvV_len (hy z (List.mem_cons_self ..)).len
    have e : ∀ (a : List Nat), flatR (a :: ys) = rvV a ++ flatR ys := fun a => by simp [flatR]
    show (flatR (z :: ys) ++ rest).set (0 * 7 + p) _ = _
    rw [List.set_cons_zero, e, e, List.append_assoc, List.set_append_left _ _ (by omega), show 0 * 7 + p = p by omega, rvV_set hp, List.append_assoc]
  | z :: ys, hy, i + 1, p, v, y, rest, h, hp => by
    have hl := rvV_len (hy z (List.mem_cons_self ..)).len
    have e : ∀ (l : List (List Nat)), flatR (z :: l) = rvV z ++ flatR l := fun l => by simp [flatR]
    have ih := flat_setR (ys := ys) (fun w hw => hy w (List.mem_cons_of_mem _ hw)) (i := i) (p := p) (v := v) rest (by simpa using h) hp
    show (flatR (z :: ys) ++ rest).set ((i + 1) * 7 + p) _ = _
    rw [List.set_cons_succ, e, e, List.append_assoc, List.set_append_right _ _ (by omega), hl, show (i + 1) * 7 + p - 7 = i * 7 + p by omega, List.append_assoc]
    exact congrArg (rvV z ++ ·) ih
theorem rcf_set {r : List Nat} (h : RcF r) {k v : Nat} (hv : v < rkM k) : RcF (r.set k v) := by
  refine ⟨by rw [List.length_set, h.len], fun {p x} hx => ?_⟩
  rw [List.getElem?_set] at hx
  split at hx
  · rename_i e
    subst e
    split at hx
    · cases hx; exact hv
    · cases hx
  · exact h.lt hx
theorem mem_setR {W : List (List Nat)} {i : Nat} {y z : List Nat} (h : W[i]? = some y) : z ∈ W.set i z :=
  List.mem_of_getElem? (i := i) (by rw [List.getElem?_set, if_pos rfl, if_pos (List.getElem?_eq_some_iff.1 h).1])
theorem set_rcf {W : List (List Nat)} (hW : ∀ y ∈ W, RcF y) {i : Nat} {z : List Nat} (hz : RcF z) : ∀ y ∈ W.set i z, RcF y := by
  intro y hy
  rcases List.mem_or_eq_of_mem_set hy with h | rfl
  · exact hW y h
  · exact hz
theorem room_badR {L : Lay} (hc : okB L = true ∧ L.ty ≤ 5) {W : List (List Nat)} (hW : ∀ y ∈ W, RcF y) {i k v : Nat} {y : List Nat} (hy : W[i]? = some y) (hk : k < 7) (hv : 2 ^ wdR L k ≤ v) : errRP L (W.set i (y.set k v)) = 1 := by
  have hF := hW y (List.mem_of_getElem? hy)
  exact errRP_one hc (mem_setR hy) (fitR_not (x := v) (by rw [List.length_set, hF.len]) (by rw [List.getElem?_set, if_pos rfl, if_pos (by rw [hF.len]; exact hk)]) (by omega))
theorem room_sameR {W : List (List Nat)} {i p a : Nat} {y : List Nat} (hy : W[i]? = some y) (ha : y[p]? = some a) : W.set i (y.set p a) = W := by
  have e1 : y.set p a = y := by
    apply List.ext_getElem?
    intro k
    rw [List.getElem?_set]
    by_cases e : p = k
    · subst e; rw [if_pos rfl, if_pos (List.getElem?_eq_some_iff.1 ha).1]; exact ha.symm
    · rw [if_neg e]
  rw [e1]
  apply List.ext_getElem?
  intro k
  rw [List.getElem?_set]
  by_cases e : i = k
  · subst e; rw [if_pos rfl, if_pos (List.getElem?_eq_some_iff.1 hy).1]; exact hy.symm
  · rw [if_neg e]
theorem wfBR {z : Int} (h : (Lit.int .u8 z).wf = true) : ∃ v : Nat, z = (v : Int) ∧ v ≤ 255 := by
  obtain ⟨x, hx, h2⟩ := wfUR (.inl rfl) h
  rw [if_pos rfl] at h2
  exact ⟨x, hx, by omega⟩
/-- two bytes in an array by value -/
theorem open_twoR {H : Type} {enc : TypeId × Value → H} {W : World} {base b0 : Nat} {spare : Nat → Bool} {held : Bool} {r : Reach} {v : Value} {d : DataW H} {p : List MemPlace} {t : TypeId} (ha : Tryd.prog.underlying t = some (.array 2 5)) (hk : flat Tryd.prog 8 t = some [.u8, .u8])
    (hv : Value.okWide Tryd.prog W r b0 t v) (h : DataW.Trod enc Tryd.prog W base spare held t v d p) :
    ∃ x y : Nat, v = .agg #[.int .u8 (x : Int), .int .u8 (y : Int)] ∧ x ≤ 255 ∧ y ≤ 255 := by
  obtain ⟨cs, rfl⟩ : ∃ cs, v = .agg cs := by
    simp only [Value.okWide, ha] at hv
    cases v <;> simp_all
  obtain ⟨fuel, hf⟩ := h
  have hi := trod_flat 8 t _ hk fuel _ _ hf
  obtain ⟨z0, c1, e1, w1, hi⟩ := hi.inv
  obtain ⟨z1, c2, e2, w2, hi⟩ := hi.inv
  obtain rfl := hi.inv_nil
  subst e2
  obtain ⟨x, rfl, hx⟩ := wfBR w1
  obtain ⟨y, rfl, hy⟩ := wfBR w2
  exact ⟨x, y, congrArg Value.agg (Array.ext' (by simpa [Value.cells] using e1)), hx, hy⟩
set_option maxHeartbeats 8000000 in
theorem law_recordsRoom (w0 : Base) (η : Heap) (hG : Sets w0) (L : Lay) (sv : Value) (rs : List (List Nat)) (z0 z1 : Nat) (hs : SlA (St w0 η) sv 7 rs.length (flatR rs)) (hr : ∀ r ∈ rs, RcF r) (hz0 : z0 ≤ 255) (hz1 : z1 ≤ 255) :
    CallsT Tryd.prog 8 [L.val, sv, .agg #[.int .u8 (z0 : Int), .int .u8 (z1 : Int)]] (St w0 η) fun v A' => v = .bool true ∧ A' = St w0 η := by
  have hs0 := hs
  obtain ⟨hxl, ad, cap, sb, so, rfl, hcap, had, hrd⟩ := hs.some
  refine CallsT.body Tryd.func8 rfl rfl ?_
  simp only [Tryd.ntmps8, slotsOf, Nat.reduceAdd]
  refine TC_seq ?_
  refine TC_reg ?_
  refine TL_e rfl rfl rfl (rfl) (ET_box rfl rfl) ?_
  rintro _ _ ⟨b3, rfl, rfl⟩
  refine TL_e rfl rfl rfl (rfl) (ET_box rfl rfl) ?_
  rintro _ _ ⟨b5, rfl, rfl⟩
  refine TL_q rfl rfl (QT_assign rfl rfl rfl) ?_
  refine TL_nil ?_
  refine TX_then ?_
  refine TC_seq ?_
  refine TC_seq ?_
  refine TC_A (St w0 ((b5, 70, [.int .u8 (z0 : Int), .int .u8 (z1 : Int)]) :: (b3, 27, L.cells) :: η)) (fun _ h => h) ?_
  refine TC_reg ?_
  first
    | refine TL_q rfl rfl (QT_loadW 0 rfl rfl Tryd.underlying27 rfl rfl rfl YtjehicncbpljaaaDoorF.sz_27) ?_
    | refine TL_q rfl rfl (QT_loadW 1 rfl rfl Tryd.underlying27 rfl rfl rfl YtjehicncbpljaaaDoorF.sz_27) ?_
    | refine TL_q rfl rfl (QT_loadW 2 rfl rfl Tryd.underlying27 rfl rfl rfl YtjehicncbpljaaaDoorF.sz_27) ?_
    | refine TL_q rfl rfl (QT_loadA 0 rfl rfl Tryd.underlying27 rfl rfl rfl YtjehicncbpljaaaDoorF.sz_27 (fun _ => rfl)) ?_
    | refine TL_q rfl rfl (QT_loadA 1 rfl rfl Tryd.underlying27 rfl rfl rfl YtjehicncbpljaaaDoorF.sz_27 (fun _ => rfl)) ?_
    | refine TL_q rfl rfl (QT_loadA 2 rfl rfl Tryd.underlying27 rfl rfl rfl YtjehicncbpljaaaDoorF.sz_27 (fun _ => rfl)) ?_
  refine TL_cq rfl rfl rfl rfl YtjehicncbpljaaaDoorF.cal_23 rfl (fun _ => check_spec w0 _ hG L) ?_
  refine TL_q rfl rfl (QT_neq rfl rfl rfl rfl) ?_
  refine TL_q rfl rfl (QT_move rfl rfl rfl) ?_
  refine TL_q rfl rfl (QT_field rfl rfl YtjehicncbpljaaaDoorF.fld_27_0 rfl) ?_
  refine TL_q rfl rfl (QT_load (v := .int .i64 L.ty) 1 rfl rfl Tryd.underlying3 rfl rfl rfl (fun _ => rfl)) ?_
  refine TL_q rfl rfl (QT_gtr rfl rfl rfl rfl) ?_
  refine TL_q rfl rfl (QT_or rfl rfl rfl rfl) ?_
  refine TL_q rfl rfl (QT_move rfl rfl rfl) ?_
  refine TL_q rfl rfl (QT_move rfl rfl rfl) ?_
  refine TL_q rfl rfl (QT_len rfl rfl Tryd.underlying31 rfl) ?_
  refine TL_q rfl rfl (QT_gtr rfl rfl rfl rfl) ?_
  refine TL_q rfl rfl (QT_or rfl rfl rfl rfl) ?_
  refine TL_q rfl rfl (QT_move rfl rfl rfl) ?_
  refine TL_q rfl rfl (QT_move rfl rfl rfl) ?_
  refine TL_q rfl rfl (QT_len rfl rfl Tryd.underlying31 rfl) ?_
  refine TL_q rfl rfl (QT_eql rfl rfl rfl rfl) ?_
  refine TL_q rfl rfl (QT_or rfl rfl rfl rfl) ?_
  refine TL_q rfl rfl (QT_move rfl rfl rfl) ?_
  refine TL_q rfl rfl (QT_field rfl rfl YtjehicncbpljaaaDoorF.fld_27_0 rfl) ?_
  refine TL_q rfl rfl (QT_load (v := .int .i64 L.ty) 1 rfl rfl Tryd.underlying3 rfl rfl rfl (fun _ => rfl)) ?_
  refine TL_q rfl rfl (QT_eql rfl rfl rfl rfl) ?_
  refine TL_q rfl rfl (QT_move rfl rfl rfl) ?_
  refine TL_q rfl rfl (QT_field rfl rfl YtjehicncbpljaaaDoorF.fld_27_3 rfl) ?_
  refine TL_q rfl rfl (QT_load (v := .int .i64 L.fl) 1 rfl rfl Tryd.underlying3 rfl rfl rfl (fun _ => rfl)) ?_
  refine TL_q rfl rfl (QT_lss rfl rfl rfl rfl) ?_
  refine TL_q rfl rfl (QT_move rfl rfl rfl) ?_
  refine TL_q rfl rfl (QT_field rfl rfl YtjehicncbpljaaaDoorF.fld_27_3 rfl) ?_
  refine TL_q rfl rfl (QT_load (v := .int .i64 L.fl) 1 rfl rfl Tryd.underlying3 rfl rfl rfl (fun _ => rfl)) ?_
  refine TL_q rfl rfl (QT_gtr rfl rfl rfl rfl) ?_
  refine TL_q rfl rfl (QT_or rfl rfl rfl rfl) ?_
  refine TL_q rfl rfl (QT_and rfl rfl rfl rfl) ?_
  refine TL_q rfl rfl (QT_or rfl rfl rfl rfl) ?_
  refine TL_nil ?_
  refine TX_then ?_
  first
    | refine TC_cond_dec rfl (fun h48 => ?_) (fun h48 => ?_)
    | refine TC_cond rfl (fun h48 => ?_) (fun h48 => ?_)
  ·
    refine TC_seq ?_
    refine TC_reg ?_
    refine TL_cq rfl rfl rfl rfl YtjehicncbpljaaaDoorF.cal_9 rfl (fun _ => lives09 w0 _ hG) ?_
    refine TL_q rfl rfl (QT_assign rfl rfl rfl) ?_
    refine TL_nil ?_
    refine TX_then ?_
    refine TC_ret ?_
    refine TX_then_ret ?_
    exact TX_ret (.inl rfl) (res1 rfl rfl) ⟨_, ⟨rfl, rfl⟩, (fun _ h => by first | exact h | exact h.tail | exact h.tail.tail | exact h.tail.tail.tail | exact h.tail.tail.tail.tail | exact h.tail.tail.tail.tail.tail | exact h.tail.tail.tail.tail.tail.tail | exact h.tail.tail.tail.tail.tail.tail.tail | exact h.tail.tail.tail.tail.tail.tail.tail.tail | exact h.tail.tail.tail.tail.tail.tail.tail.tail.tail | exact h.tail.tail.tail.tail.tail.tail.tail.tail.tail.tail | exact h.tail.tail.tail.tail.tail.tail.tail.tail.tail.tail.tail | exact h.tail.tail.tail.tail.tail.tail.tail.tail.tail.tail.tail.tail | exact h.tail.tail.tail.tail.tail.tail.tail.tail.tail.tail.tail.tail.tail)⟩
  ·
    obtain ⟨hc, hn, hn0, hf⟩ : (okB L = true ∧ L.ty ≤ 5) ∧ rs.length ≤ 100 ∧ 0 < rs.length ∧ (0 ≤ L.fl ∧ L.fl ≤ 60) := by
      rw [Bool.or_eq_false_iff, Bool.or_eq_false_iff, Bool.or_eq_false_iff] at h48
      have hc := keptR_of h48.1.1.1
      refine ⟨hc, ?_, ?_, ?_⟩
      · have := h48.1.1.2
        simp only [decide_eq_false_iff_not] at this
        omega
      · have := h48.1.2
        simp only [decide_eq_false_iff_not] at this
        omega
      · have h2 := h48.2
        simp only [Bool.and_eq_false_iff, Bool.or_eq_false_iff, decide_eq_false_iff_not] at h2
        rcases h2 with h2 | h2
        · have := (okB_bounds hc.1).2.2.2.2.2 h2; omega
        · omega
    obtain ⟨hWF, hWf⟩ := cutAllR (L := L) hr
    have hszb := szR_bd hc.1
    have hbd := okB_bounds hc.1
    have hco : (L.co.toNat : Int) = L.co := by have := hbd.1; omega
    have hcm : (L.cm.toNat : Int) = L.cm := by have := hbd.2.1; omega
    have hcs : (L.cs.toNat : Int) = L.cs := by have := hbd.2.2.1; omega
    have hco32 : L.co.toNat ≤ 32 := by have := hbd.1; omega
    have hcm16 : L.cm.toNat ≤ 16 := by have := hbd.2.1; omega
    have hcs4 : 1 ≤ L.cs.toNat ∧ L.cs.toNat ≤ 4 := by have := hbd.2.2.1; omega
    have lco : L.cells[0 + 1]? = some (.int .i64 (L.co.toNat : Int)) := layR_at rfl hco
    have lcm : L.cells[0 + 2]? = some (.int .i64 (L.cm.toNat : Int)) := layR_at rfl hcm
    have lcs : L.cells[0 + 4]? = some (.int .i64 (L.cs.toNat : Int)) := layR_at rfl hcs
    have hw1 : wdR L 1 = L.co.toNat := rfl
    have hw2 : wdR L 2 = L.co.toNat := rfl
    have hw3 : ∀ c, wdR L (3 + c) = if c < L.cs.toNat then L.cm.toNat else 0 := fun c => by unfold wdR; rw [if_neg (by omega), if_neg (by omega), show 3 + c - 3 = c by omega]
    have hw0a : L.ty = 4 → wdR L 0 = L.fl.toNat ∧ L.fl.toNat ≤ 8 := fun h => by
      refine ⟨?_, by have := hbd.2.2.2.2.2 (by omega); omega⟩
      show flN L = _; unfold flN flb; rw [if_neg (by omega)]
    have hw0b : L.ty ≠ 4 → wdR L 0 = 0 := fun h => by
      have := ty45 hc
      show flN L = 0; unfold flN flb; rw [if_pos (by omega)]; rfl
    have hfe : ((L.fl.toNat : Nat) : Int) = L.fl := by omega
    have lfl : L.cells[0 + 3]? = some (.int .i64 (L.fl.toNat : Int)) := layR_at rfl hfe
    generalize hCO : L.co.toNat = CO at lco hco32 hw1 hw2
    generalize hCM : L.cm.toNat = CM at lcm hcm16 hw3
    generalize hCS : L.cs.toNat = CS at lcs hcs4 hw3
    generalize hFL : L.fl.toNat = FL at lfl hw0a hfe
    refine TC_skip ?_
    refine TX_then ?_
    refine TC_seq ?_
    refine TC_reg ?_
    refine TL_q rfl rfl (QT_assign rfl rfl rfl) ?_
    refine TL_nil ?_
    refine TX_then ?_
    refine TC_seq ?_
    refine TC_seq ?_
    refine TC_reg ?_
    refine TL_q rfl rfl (QT_assign rfl rfl rfl) ?_
    refine TL_nil ?_
    refine TX_then ?_
    refine TC_block ?_
    refine TC_loop (γ := { t : Nat × Value × Heap // t.1 ≤ rs.length ∧ Frag 67 7 t.2.1 t.1 (flatR ((rs.take t.1).map (cutR L))) t.2.2 }) (fun u => [(1, true, .slice ad rs.length cap), (3, true, .pointer (some ⟨b3, 0, none⟩)), (5, true, .pointer (some ⟨b5, 0, none⟩)), (7, true, u.1.2.1), (8, true, .int .i64 (u.1.1 : Int))]) (fun u => St w0 ((b5, 70, [.int .u8 (z0 : Int), .int .u8 (z1 : Int)]) :: (b3, 27, L.cells) :: (u.1.2.2 ++ η))) (fun u => rs.length - u.1.1) ⟨(0, .slice none 0 0, []), Nat.zero_le _, Frag.nil _ _⟩ ⟨rfl, rfl, rfl, rfl, rfl, trivial⟩ (fun _ h => h) ?_
    rintro ⟨⟨i, ov, H⟩, hin, hF⟩
    dsimp only at hin hF ⊢
    refine TC_seq ?_
    refine TC_seq ?_
    refine TC_reg ?_
    refine TL_q rfl rfl (QT_move rfl rfl rfl) ?_
    refine TL_q rfl rfl (QT_move rfl rfl rfl) ?_
    refine TL_q rfl rfl (QT_len rfl rfl Tryd.underlying31 rfl) ?_
    refine TL_q rfl rfl (QT_lss rfl rfl rfl rfl) ?_
    refine TL_nil ?_
    refine TX_then ?_
    first
      | refine TC_cond_dec rfl (fun h53 => ?_) (fun h53 => ?_)
      | refine TC_cond rfl (fun h53 => ?_) (fun h53 => ?_)
    ·
      have hi' : i < rs.length := by omega
      obtain ⟨y, hyi⟩ : ∃ y, rs[i]? = some y := ⟨_, List.getElem?_eq_getElem hi'⟩
      have hyF := hr y (List.mem_of_getElem? hyi)
      obtain ⟨hat1, hat2⟩ := flatR_at hr hyi
      have htk := take_snocX hyi
      have hcF := cutR_rcf (L := L) hyF
      have hcl : (rvV (cutR L y)).length = 7 := rvV_len hcF.len
      have hci := rvV_ints hcF
      refine TC_skip ?_
      refine TX_then ?_
      refine TC_seq ?_
      refine TC_block ?_
      refine TC_draw [(0, 0), (1, 0), (2, 0), (3, 0), (4, 0), (5, 0), (6, 1), (7, 1), (8, 1), (9, 0)] YtjehicncbpljaaaDoorF.mixed (by kernel_rfl) (St.calm _ _) ?_
      refine TV_q rfl rfl rfl (fun _ => QT_move rfl rfl rfl) ?_
      first
        | refine TV_ql rfl rfl rfl (QT_loadW (cs := L.cells) 1 rfl rfl Tryd.underlying27 rfl rfl rfl YtjehicncbpljaaaDoorF.sz_27) ?_
        | refine TV_ql rfl rfl rfl (QT_loadW (cs := L.cells) 2 rfl rfl Tryd.underlying27 rfl rfl rfl YtjehicncbpljaaaDoorF.sz_27) ?_
      refine TV_q rfl rfl rfl (fun _ => QT_move rfl rfl rfl) ?_
      refine TV_q rfl rfl rfl (fun _ => QT_move rfl rfl rfl) ?_
      refine TV_q rfl rfl rfl (fun _ => QT_indexG i rfl rfl Tryd.underlying31 YtjehicncbpljaaaDoorF.sz_67 rfl rfl rfl (fun _ => hi') (fun _ => had (by omega))) ?_
      refine TV_ql rfl rfl rfl (QT_loadRAj (out := rvV y) (i * 7) rfl rfl Tryd.underlying67 rfl YtjehicncbpljaaaDoorF.sz_67 (hrd.mono fun _ h => h.tail.tail.app_right) rfl (fun _ => hat1) (fun _ => hat2)) ?_
      refine TV_cq rfl rfl rfl rfl rfl YtjehicncbpljaaaDoorF.cal_24 rfl (fun _ => fittingR_spec w0 _ L hc hf y hyF) (.drop (by kernel_rfl) (.drop (by kernel_rfl) (.nil))) ?_
      refine TV_e rfl rfl rfl rfl (rfl) (ET_buildN [_] rfl Tryd.underlying31 YtjehicncbpljaaaDoorF.sz_67 YtjehicncbpljaaaDoorF.zero_67 rfl rfl rfl (fun v hv => by cases List.mem_singleton.1 hv; exact hcl)) ?_
      rintro _ _ ⟨b63, rfl, rfl⟩
      refine ⟨_, .nil, ?_⟩
      refine TV_e rfl rfl rfl rfl (rfl) (ET_appendL (L := [_, _, _]) rfl Tryd.underlying31 el_RecR rfl rfl hF (fun _ h => h) (SlA.own (n := 1) (xs := rvV (cutR L y)) 0 rfl (by rw [List.drop_zero, List.take_of_length_le (by simp [Value.cells, hcl])]; simp [Value.cells]) (by simp [Value.cells, hcl]) (by omega)) hci.oneCell (by omega) (by omega)) ?_
      rintro sv2 _ ⟨H', hF', rfl⟩
      refine ⟨_, .nil, ?_⟩
      refine TV_q rfl rfl rfl (fun _ => QT_assign rfl rfl rfl) ?_
      refine TV_end ?_
      refine TX_block_normal ?_
      refine TX_then ?_
      refine TC_reg ?_
      refine TL_q rfl rfl (QT_move rfl rfl rfl) ?_
      refine TL_q rfl rfl (QT_add rfl rfl rfl rfl (fun _ => ⟨by omega, by omega⟩)) ?_
      refine TL_q rfl rfl (QT_assign rfl rfl rfl) ?_
      refine TL_nil ?_
      exact TX_round ⟨(i + 1, sv2, H'), hi', by rw [htk, List.map_append, flatR_append]; simpa [flatR] using hF'⟩ (by show rs.length - (i + 1) < rs.length - i; omega) ⟨rfl, rfl, rfl, rfl, rfl, trivial⟩ (fun _ h => h.tail)
    ·
      refine TC_exit ?_
      refine TX_then_exit ?_
      refine TX_then_exit ?_
      refine TX_block_here ?_
      refine TX_then ?_
      refine TC_seq ?_
      obtain rfl : i = rs.length := by omega
      rw [List.take_of_length_le (Nat.le_refl _)] at hF
      have hWl : (rs.map (cutR L)).length = rs.length := List.length_map ..
      rw [← hWl] at hF
      obtain ⟨W, hWE⟩ : ∃ W, W = rs.map (cutR L) := ⟨_, rfl⟩
      rw [← hWE] at hF hWF hWf hWl
      have hWb := bytesR_len (L := L) hWF
      have hbdW : (bytesR L W).length ≤ 1700 := by
        rw [hWb, hWl]
        exact Nat.le_trans (Nat.mul_le_mul hn hszb.2.1) (by decide)
      obtain ⟨p1, p2⟩ := put_okR hc hWf (by omega)
      obtain ⟨wad, wcap, rfl, hwcap, hwb⟩ := hF.slice
      obtain ⟨wb, rest, rfl, rfl⟩ := hwb (by omega)
      rw [hWl] at hwcap
      have hW0 : 0 < W.length := by omega
      obtain ⟨xi, hxi⟩ : ∃ xi, xi = z0 % W.length := ⟨_, rfl⟩
      have hxl' : xi < W.length := by rw [hxi]; exact Nat.mod_lt _ hW0
      obtain ⟨y, hyi⟩ : ∃ y, W[xi]? = some y := ⟨_, List.getElem?_eq_getElem hxl'⟩
      have hyF := hWF y (List.mem_of_getElem? hyi)
      have hfL := flatR_len hWF
      have hel : ∀ {p : Nat} {a : Nat}, p < 7 → y[p]? = some a → (flatR W ++ rest)[xi * 7 + p]? = some (.int (rkK p) (a : Int)) := fun {p a} hp ha => by
        rw [List.getElem?_append_left (by rw [hfL]; omega), flatR_elem hWF hyi hp]
        exact rvV_at hp ha
      have hset := fun {p v : Nat} (hp : p < 7) => flat_setR hWF (i := xi) (p := p) (v := v) rest hyi hp
      have hble : ∀ {p : Nat}, p < 7 → Nat.ble (xi * 7 + p + 1) (flatR W ++ rest).length = true := fun {p} hp => Nat.ble_eq_true_of_le (by rw [List.length_append, hfL]; omega)
      obtain ⟨m, hm⟩ : ∃ m, m = z1 % 7 := ⟨_, rfl⟩
      have hm7 : m < 7 := by omega
      obtain ⟨ym, hym⟩ := get7 hyF.len hm7
      have hWl2 : ((rs.length : Nat) : Int) = (W.length : Int) := by rw [hWl]
      rw [← hWl] at hwcap
      refine TC_A (St w0 ((wb, 67, flatR W ++ rest) :: (b5, 70, [.int .u8 (z0 : Int), .int .u8 (z1 : Int)]) :: (b3, 27, L.cells) :: η)) (fun w h => h.cnt fun p => by simp only [List.countP_append, List.countP_cons, List.countP_nil]; omega) ?_
      refine TC_reg ?_
      refine TL_q rfl rfl (QT_indexArr (0) rfl rfl Tryd.underlying70 YtjehicncbpljaaaDoorF.sz_5 rfl rfl (rfl) (fun _ => by decide)) ?_
      refine TL_q rfl rfl (QT_load (v := .int .u8 (z0 : Int)) 1 rfl rfl Tryd.underlying5 rfl rfl rfl (fun _ => rfl)) ?_
      refine TL_q rfl rfl (QT_convN rfl rfl Tryd.underlying5 Tryd.underlying3 rfl (IntWalk.i64_in _ ⟨by omega, by omega⟩)) ?_
      refine TL_q rfl rfl (QT_move rfl rfl rfl) ?_
      refine TL_q rfl rfl (QT_len rfl rfl Tryd.underlying31 rfl) ?_
      refine TL_q rfl rfl (QT_to (QT_rem rfl rfl rfl rfl (fun _ => ⟨by omega, by omega⟩)) (show (z0 : Int) % (W.length : Int) = (xi : Int) by rw [hxi]; rfl)) ?_
      refine TL_q rfl rfl (QT_assign rfl rfl rfl) ?_
      refine TL_nil ?_
      refine TX_then ?_
      refine TC_seq ?_
      refine TC_reg ?_
      refine TL_q rfl rfl (QT_assign rfl rfl rfl) ?_
      refine TL_nil ?_
      refine TX_then ?_
      refine TC_cut (γ := { t : Bool × List (List Nat) // (∀ y ∈ t.2, RcF y) ∧ t.2.length = W.length ∧ errRP L t.2 = (if t.1 = true then 1 else 0) }) (fun u => [(3, true, .pointer (some ⟨b3, 0, none⟩)), (7, true, .slice (some ⟨wb, 0, none⟩) W.length wcap), (10, true, .bool u.1.1)]) (fun u => St w0 ((wb, 67, flatR u.1.2 ++ rest) :: (b5, 70, [.int .u8 (z0 : Int), .int .u8 (z1 : Int)]) :: (b3, 27, L.cells) :: η)) ?_ ?_
      ·
        refine TC_seq ?_
        refine TC_reg ?_
        refine TL_q rfl rfl (QT_indexArr (1) rfl rfl Tryd.underlying70 YtjehicncbpljaaaDoorF.sz_5 rfl rfl (rfl) (fun _ => by decide)) ?_
        refine TL_q rfl rfl (QT_load (v := .int .u8 (z1 : Int)) 1 rfl rfl Tryd.underlying5 rfl rfl rfl (fun _ => rfl)) ?_
        refine TL_q rfl rfl (QT_to (QT_rem rfl rfl rfl rfl (fun _ => ⟨by omega, by omega⟩)) (show (z1 : Int) % 7 = (m : Int) by omega)) ?_
        refine TL_q rfl rfl (QT_assign rfl rfl rfl) ?_
        refine TL_nil ?_
        refine TX_then ?_
        refine TC_seq ?_
        refine TC_reg ?_
        refine TL_q rfl rfl (QT_move rfl rfl rfl) ?_
        refine TL_nil ?_
        refine TX_then ?_
        refine TC_block ?_
        refine TC_cut (γ := Unit) (fun _ => [(3, true, .pointer (some ⟨b3, 0, none⟩)), (5, true, .pointer (some ⟨b5, 0, none⟩)), (7, true, .slice (some ⟨wb, 0, none⟩) W.length wcap), (9, true, .int .i64 (xi : Int)), (10, true, .bool true), (11, true, .int .u8 (m : Int)), (74, true, .int .u8 (m : Int)), (75, true, .bool (decide (m < 4)))]) (fun _ => St w0 ((wb, 67, flatR W ++ rest) :: (b5, 70, [.int .u8 (z0 : Int), .int .u8 (z1 : Int)]) :: (b3, 27, L.cells) :: η)) ?_ ?_
        ·
          refine TC_seq ?_
          refine TC_reg ?_
          refine TL_q rfl rfl (QT_eql rfl rfl rfl rfl) ?_
          refine TL_q rfl rfl (QT_assign rfl rfl rfl) ?_
          refine TL_nil ?_
          refine TX_then ?_
          first
            | refine TC_cond_dec rfl (fun h75 => ?_) (fun h75 => ?_)
            | refine TC_cond rfl (fun h75 => ?_) (fun h75 => ?_)
          ·
            have h75m : m < 4 := by omega
            have hkm : rkM (3 + m) = 65536 := by unfold rkM; rw [if_neg (by omega), if_neg (by omega)]
            have hkk : rkK (3 + m) = .u16 := by unfold rkK; rw [if_neg (by omega), if_neg (by omega)]
            obtain ⟨a, ha⟩ := get7 hyF.len (show 3 + m < 7 by omega)
            have ha16 : a < 65536 := by rw [← hkm]; exact hyF.lt ha
            have hva := hel (by omega) ha
            rw [hkk] at hva
            obtain ⟨V, hV⟩ : ∃ V, V = if m < CS then 2 ^ CM % 65536 else 1 := ⟨_, rfl⟩
            have hV16 : V < 65536 := by rw [hV]; split; exact Nat.mod_lt _ (by decide); decide
            obtain ⟨or1, or2⟩ := or_u16R ha16 hV16
            have hst := hset (p := 3 + m) (v := a ||| V) (by omega)
            rw [hkk] at hst
            refine TC_skip ?_
            exact TX_cut () ⟨rfl, rfl, rfl, rfl, rfl, rfl, rfl, slotVR rfl (congrArg Value.bool (by rw [Bool.eq_iff_iff, decide_eq_true_eq, decide_eq_true_eq]; omega)), trivial⟩ (fun _ h => h)
          ·
            refine TC_seq ?_
            refine TC_reg ?_
            refine TL_q rfl rfl (QT_eql rfl rfl rfl rfl) ?_
            refine TL_q rfl rfl (QT_assign rfl rfl rfl) ?_
            refine TL_nil ?_
            refine TX_then ?_
            first
              | refine TC_cond_dec rfl (fun h75 => ?_) (fun h75 => ?_)
              | refine TC_cond rfl (fun h75 => ?_) (fun h75 => ?_)
            ·
              have h75m : m < 4 := by omega
              have hkm : rkM (3 + m) = 65536 := by unfold rkM; rw [if_neg (by omega), if_neg (by omega)]
              have hkk : rkK (3 + m) = .u16 := by unfold rkK; rw [if_neg (by omega), if_neg (by omega)]
              obtain ⟨a, ha⟩ := get7 hyF.len (show 3 + m < 7 by omega)
              have ha16 : a < 65536 := by rw [← hkm]; exact hyF.lt ha
              have hva := hel (by omega) ha
              rw [hkk] at hva
              obtain ⟨V, hV⟩ : ∃ V, V = if m < CS then 2 ^ CM % 65536 else 1 := ⟨_, rfl⟩
              have hV16 : V < 65536 := by rw [hV]; split; exact Nat.mod_lt _ (by decide); decide
              obtain ⟨or1, or2⟩ := or_u16R ha16 hV16
              have hst := hset (p := 3 + m) (v := a ||| V) (by omega)
              rw [hkk] at hst
              refine TC_skip ?_
              exact TX_cut () ⟨rfl, rfl, rfl, rfl, rfl, rfl, rfl, slotVR rfl (congrArg Value.bool (by rw [Bool.eq_iff_iff, decide_eq_true_eq, decide_eq_true_eq]; omega)), trivial⟩ (fun _ h => h)
            ·
              refine TC_seq ?_
              refine TC_reg ?_
              refine TL_q rfl rfl (QT_eql rfl rfl rfl rfl) ?_
              refine TL_q rfl rfl (QT_assign rfl rfl rfl) ?_
              refine TL_nil ?_
              refine TX_then ?_
              first
                | refine TC_cond_dec rfl (fun h75 => ?_) (fun h75 => ?_)
                | refine TC_cond rfl (fun h75 => ?_) (fun h75 => ?_)
              ·
                have h75m : m < 4 := by omega
                have hkm : rkM (3 + m) = 65536 := by unfold rkM; rw [if_neg (by omega), if_neg (by omega)]
                have hkk : rkK (3 + m) = .u16 := by unfold rkK; rw [if_neg (by omega), if_neg (by omega)]
                obtain ⟨a, ha⟩ := get7 hyF.len (show 3 + m < 7 by omega)
                have ha16 : a < 65536 := by rw [← hkm]; exact hyF.lt ha
                have hva := hel (by omega) ha
                rw [hkk] at hva
                obtain ⟨V, hV⟩ : ∃ V, V = if m < CS then 2 ^ CM % 65536 else 1 := ⟨_, rfl⟩
                have hV16 : V < 65536 := by rw [hV]; split; exact Nat.mod_lt _ (by decide); decide
                obtain ⟨or1, or2⟩ := or_u16R ha16 hV16
                have hst := hset (p := 3 + m) (v := a ||| V) (by omega)
                rw [hkk] at hst
                refine TC_skip ?_
                exact TX_cut () ⟨rfl, rfl, rfl, rfl, rfl, rfl, rfl, slotVR rfl (congrArg Value.bool (by rw [Bool.eq_iff_iff, decide_eq_true_eq, decide_eq_true_eq]; omega)), trivial⟩ (fun _ h => h)
              ·
                refine TC_reg ?_
                refine TL_q rfl rfl (QT_eql rfl rfl rfl rfl) ?_
                refine TL_q rfl rfl (QT_assign rfl rfl rfl) ?_
                refine TL_nil ?_
                exact TX_cut () ⟨rfl, rfl, rfl, rfl, rfl, rfl, rfl, slotVR rfl (congrArg Value.bool (by rw [Bool.eq_iff_iff, decide_eq_true_eq, decide_eq_true_eq]; omega)), trivial⟩ (fun _ h => h)
        rintro ⟨⟩
        first
          | refine TC_cond_dec rfl (fun h75 => ?_) (fun h75 => ?_)
          | refine TC_cond rfl (fun h75 => ?_) (fun h75 => ?_)
        ·
          have h75m : m < 4 := by omega
          have hkm : rkM (3 + m) = 65536 := by unfold rkM; rw [if_neg (by omega), if_neg (by omega)]
          have hkk : rkK (3 + m) = .u16 := by unfold rkK; rw [if_neg (by omega), if_neg (by omega)]
          obtain ⟨a, ha⟩ := get7 hyF.len (show 3 + m < 7 by omega)
          have ha16 : a < 65536 := by rw [← hkm]; exact hyF.lt ha
          have hva := hel (by omega) ha
          rw [hkk] at hva
          obtain ⟨V, hV⟩ : ∃ V, V = if m < CS then 2 ^ CM % 65536 else 1 := ⟨_, rfl⟩
          have hV16 : V < 65536 := by rw [hV]; split; exact Nat.mod_lt _ (by decide); decide
          obtain ⟨or1, or2⟩ := or_u16R ha16 hV16
          have hst := hset (p := 3 + m) (v := a ||| V) (by omega)
          rw [hkk] at hst
          refine TC_seq ?_
          refine TC_reg ?_
          refine TL_q rfl rfl (QT_assign rfl rfl rfl) ?_
          refine TL_nil ?_
          refine TX_then ?_
          refine TC_cut (γ := Unit) (fun _ => [(3, true, .pointer (some ⟨b3, 0, none⟩)), (7, true, .slice (some ⟨wb, 0, none⟩) W.length wcap), (9, true, .int .i64 (xi : Int)), (11, true, .int .u8 (m : Int)), (12, true, .int .u16 (V : Int))]) (fun _ => St w0 ((wb, 67, flatR W ++ rest) :: (b5, 70, [.int .u8 (z0 : Int), .int .u8 (z1 : Int)]) :: (b3, 27, L.cells) :: η)) ?_ ?_
          ·
            refine TC_seq ?_
            refine TC_reg ?_
            refine TL_q rfl rfl (QT_move rfl rfl rfl) ?_
            refine TL_q rfl rfl (QT_convN rfl rfl Tryd.underlying5 Tryd.underlying3 rfl (IntWalk.i64_in _ ⟨by omega, by omega⟩)) ?_
            refine TL_q rfl rfl (QT_field rfl rfl YtjehicncbpljaaaDoorF.fld_27_4 rfl) ?_
            refine TL_q rfl rfl (QT_load (v := .int .i64 (CS : Int)) 2 rfl rfl Tryd.underlying3 rfl rfl rfl (fun _ => lcs)) ?_
            refine TL_q rfl rfl (QT_lss rfl rfl rfl rfl) ?_
            refine TL_nil ?_
            refine TX_then ?_
            first
              | refine TC_cond_dec rfl (fun h84 => ?_) (fun h84 => ?_)
              | refine TC_cond rfl (fun h84 => ?_) (fun h84 => ?_)
            ·
              refine TC_reg ?_
              refine TL_q rfl rfl (QT_field rfl rfl YtjehicncbpljaaaDoorF.fld_27_2 rfl) ?_
              refine TL_q rfl rfl (QT_load (v := .int .i64 (CM : Int)) 2 rfl rfl Tryd.underlying3 rfl rfl rfl (fun _ => lcm)) ?_
              refine TL_q rfl rfl (QT_to (QT_shl rfl rfl rfl rfl (fun _ => by omega)) (shl_u32R ⟨CM, by omega⟩)) ?_
              refine TL_q rfl rfl (QT_convN rfl rfl Tryd.underlying60 Tryd.underlying63 rfl (wrapR16 _)) ?_
              refine TL_q rfl rfl (QT_assign rfl rfl rfl) ?_
              refine TL_nil ?_
              exact TX_cut () ⟨rfl, rfl, rfl, rfl, slotI rfl (by rw [hV, if_pos (by omega)]), trivial⟩ (fun _ h => h)
            ·
              refine TC_skip ?_
              exact TX_cut () ⟨rfl, rfl, rfl, rfl, slotI rfl (by rw [hV, if_neg (by omega)]; rfl), trivial⟩ (fun _ h => h)
          rintro ⟨⟩
          refine TC_seq ?_
          refine TC_reg ?_
          refine TL_q rfl rfl (QT_move rfl rfl rfl) ?_
          refine TL_q rfl rfl (QT_neq rfl rfl rfl rfl) ?_
          refine TL_q rfl rfl (QT_assign rfl rfl rfl) ?_
          refine TL_nil ?_
          refine TX_then ?_
          refine TC_draw [(0, 0), (1, 0), (2, 0), (3, 0), (4, 0), (5, 0), (6, 0), (7, 0), (8, 0), (9, 0), (10, 0), (11, 0), (12, 0), (13, 0), (14, 0), (15, 1)] YtjehicncbpljaaaDoorF.mixed (by kernel_rfl) (St.calm _ _) ?_
          refine TV_q rfl rfl rfl (fun _ => QT_move rfl rfl rfl) ?_
          refine TV_q rfl rfl rfl (fun _ => QT_move rfl rfl rfl) ?_
          refine TV_q rfl rfl rfl (fun _ => QT_move rfl rfl rfl) ?_
          refine TV_q rfl rfl rfl (fun _ => QT_move rfl rfl rfl) ?_
          refine TV_q rfl rfl rfl (fun _ => QT_move rfl rfl rfl) ?_
          refine TV_q rfl rfl rfl (fun _ => QT_move rfl rfl rfl) ?_
          refine TV_q rfl rfl rfl (fun _ => QT_indexG xi rfl rfl Tryd.underlying31 YtjehicncbpljaaaDoorF.sz_67 rfl rfl rfl (fun _ => hxl') (fun _ => rfl)) ?_
          refine TV_q rfl rfl rfl (fun _ => QT_field rfl rfl YtjehicncbpljaaaDoorF.fld_67_2 rfl) ?_
          refine TV_q rfl rfl rfl (fun _ => QT_indexArr m rfl rfl Tryd.underlying65 YtjehicncbpljaaaDoorF.sz_63 rfl rfl rfl (fun _ => h75m)) ?_
          refine TV_ql rfl rfl rfl (QT_loadRj (v := .int .u16 (a : Int)) (xi * 7 + (3 + m)) rfl rfl Tryd.underlying63 rfl (Rd.own 0 rfl) rfl (fun _ => hva)) ?_
          refine TV_q rfl rfl rfl (fun _ => QT_move rfl rfl rfl) ?_
          refine TV_q rfl rfl rfl (fun _ => QT_to (QT_bits rfl rfl (by decide) rfl rfl) or1) ?_
          refine TV_q rfl rfl rfl (fun _ => QT_indexG xi rfl rfl Tryd.underlying31 YtjehicncbpljaaaDoorF.sz_67 rfl rfl rfl (fun _ => hxl') (fun _ => rfl)) ?_
          refine TV_q rfl rfl rfl (fun _ => QT_field rfl rfl YtjehicncbpljaaaDoorF.fld_67_2 rfl) ?_
          refine TV_q rfl rfl rfl (fun _ => QT_indexArr m rfl rfl Tryd.underlying65 YtjehicncbpljaaaDoorF.sz_63 rfl rfl rfl (fun _ => h75m)) ?_
          refine TV_e0 rfl rfl rfl (rfl) (ET_store (vs := [.int .u16 ((a ||| V : Nat) : Int)]) 0 rfl rfl rfl rfl YtjehicncbpljaaaDoorF.sz_63 rfl rfl (by rw [show 0 + xi * 7 + 3 + m * 1 = xi * 7 + (3 + m) by omega]; exact hble (by omega))) ?_
          rintro _ _ ⟨rfl, rfl⟩
          refine ⟨_, .drop (by kernel_rfl) (.nil), ?_⟩
          refine TV_end ?_
          refine TX_block_normal ?_
          refine TX_cut ⟨(decide ((V : Int) ≠ 0), W.set xi (y.set (3 + m) (a ||| V))), set_rcf hWF (rcf_set hyF (by rw [hkm]; exact or2)), List.length_set .., ?_⟩ ⟨rfl, rfl, rfl, trivial⟩ (fun w h => ?_)
          · by_cases hv0 : V = 0
            · rw [if_neg (by simp [hv0])]
              show errRP L (W.set xi (y.set (3 + m) (a ||| V))) = 0
              rw [hv0, Nat.or_zero, room_sameR hyi ha]
              exact p1
            · rw [if_pos (by rw [decide_eq_true_eq]; omega)]
              refine room_badR hc hWF hyi (by omega) ?_
              rw [hw3]
              by_cases hmc : m < CS
              · rw [if_pos hmc] at hV ⊢
                have hlt : CM < 16 := by
                  rcases Nat.lt_or_ge CM 16 with h | h
                  · exact h
                  · rw [show CM = 16 by omega] at hV
                    exact absurd hV hv0
                have hp16 : 2 ^ CM < 2 ^ 16 := Nat.pow_lt_pow_right (by decide) hlt
                rw [Nat.mod_eq_of_lt (show 2 ^ CM < 65536 from hp16)] at hV
                rw [← hV]
                exact Nat.right_le_or
              · rw [if_neg hmc] at hV ⊢
                rw [hV]
                exact Nat.right_le_or
          · have h' : St w0 ((wb, 67, setAt (flatR W ++ rest) (0 + xi * 7 + 3 + m * 1) [.int .u16 ((a ||| V : Nat) : Int)]) :: (b5, 70, [.int .u8 (z0 : Int), .int .u8 (z1 : Int)]) :: (b3, 27, L.cells) :: η) w := h
            rw [show 0 + xi * 7 + 3 + m * 1 = xi * 7 + (3 + m) by omega, hst] at h'
            exact h'
        ·
          refine TC_seq ?_
          refine TC_reg ?_
          refine TL_q rfl rfl (QT_eql rfl rfl rfl rfl) ?_
          refine TL_q rfl rfl (QT_assign rfl rfl rfl) ?_
          refine TL_nil ?_
          refine TX_then ?_
          first
            | refine TC_cond_dec rfl (fun h106 => ?_) (fun h106 => ?_)
            | refine TC_cond rfl (fun h106 => ?_) (fun h106 => ?_)
          ·
            refine TC_seq ?_
            refine TC_reg ?_
            refine TL_q rfl rfl (QT_field rfl rfl YtjehicncbpljaaaDoorF.fld_27_1 rfl) ?_
            refine TL_q rfl rfl (QT_load (v := .int .i64 (CO : Int)) 2 rfl rfl Tryd.underlying3 rfl rfl rfl (fun _ => lco)) ?_
            refine TL_q rfl rfl (QT_lss rfl rfl rfl rfl) ?_
            refine TL_q rfl rfl (QT_assign rfl rfl rfl) ?_
            refine TL_nil ?_
            refine TX_then ?_
            obtain ⟨a, ha⟩ := get7 hyF.len (show 1 < 7 by decide)
            have ha32 : a < 4294967296 := hyF.lt ha
            have hva := hel (by decide) ha
            rw [show rkK 1 = .u32 from rfl] at hva
            obtain ⟨V, hV⟩ : ∃ V, V = 2 ^ CO % 4294967296 := ⟨_, rfl⟩
            have hV32 : V < 4294967296 := by rw [hV]; exact Nat.mod_lt _ (by decide)
            obtain ⟨or1, or2⟩ := or_u32R ha32 hV32
            have hst := hset (p := 1) (v := a ||| V) (by decide)
            rw [show rkK 1 = .u32 from rfl] at hst
            refine TC_draw [(0, 0), (1, 0), (2, 0), (3, 0), (4, 0), (5, 0), (6, 0), (7, 0), (8, 0), (9, 0), (10, 0), (11, 0), (12, 0), (13, 0), (14, 0), (15, 0), (16, 1)] YtjehicncbpljaaaDoorF.mixed (by kernel_rfl) (St.calm _ _) ?_
            refine TV_q rfl rfl rfl (fun _ => QT_move rfl rfl rfl) ?_
            refine TV_q rfl rfl rfl (fun _ => QT_move rfl rfl rfl) ?_
            refine TV_q rfl rfl rfl (fun _ => QT_move rfl rfl rfl) ?_
            refine TV_q rfl rfl rfl (fun _ => QT_move rfl rfl rfl) ?_
            refine TV_q rfl rfl rfl (fun _ => QT_indexG xi rfl rfl Tryd.underlying31 YtjehicncbpljaaaDoorF.sz_67 rfl rfl rfl (fun _ => hxl') (fun _ => rfl)) ?_
            refine TV_q rfl rfl rfl (fun _ => QT_field rfl rfl YtjehicncbpljaaaDoorF.fld_67_1 rfl) ?_
            refine TV_q rfl rfl rfl (fun _ => QT_field rfl rfl YtjehicncbpljaaaDoorF.fld_62_0 rfl) ?_
            refine TV_ql rfl rfl rfl (QT_loadRj (v := .int .u32 (a : Int)) (xi * 7 + 1) rfl rfl Tryd.underlying60 rfl (Rd.own 0 rfl) rfl (fun _ => hva)) ?_
            refine TV_q rfl rfl rfl (fun _ => QT_field rfl rfl YtjehicncbpljaaaDoorF.fld_27_1 rfl) ?_
            refine TV_ql rfl rfl rfl (QT_load (v := .int .i64 (CO : Int)) 2 rfl rfl Tryd.underlying3 rfl rfl rfl (fun _ => lco)) ?_
            refine TV_q rfl rfl rfl (fun _ => QT_to (QT_shl rfl rfl rfl rfl (fun _ => by omega)) (two_u64 hco32)) ?_
            refine TV_q rfl rfl rfl (fun _ => QT_convN rfl rfl Tryd.underlying71 Tryd.underlying60 rfl ((wrapR32 _).trans (by rw [← hV]))) ?_
            refine TV_q rfl rfl rfl (fun _ => QT_to (QT_bits rfl rfl (by decide) rfl rfl) or1) ?_
            refine TV_q rfl rfl rfl (fun _ => QT_indexG xi rfl rfl Tryd.underlying31 YtjehicncbpljaaaDoorF.sz_67 rfl rfl rfl (fun _ => hxl') (fun _ => rfl)) ?_
            refine TV_q rfl rfl rfl (fun _ => QT_field rfl rfl YtjehicncbpljaaaDoorF.fld_67_1 rfl) ?_
            refine TV_q rfl rfl rfl (fun _ => QT_field rfl rfl YtjehicncbpljaaaDoorF.fld_62_0 rfl) ?_
            refine TV_e0 rfl rfl rfl (rfl) (ET_store (vs := [.int .u32 ((a ||| V : Nat) : Int)]) 0 rfl rfl rfl rfl YtjehicncbpljaaaDoorF.sz_60 rfl rfl (by rw [show 0 + xi * 7 + 1 + 0 = xi * 7 + 1 by omega]; exact hble (by decide))) ?_
            rintro _ _ ⟨rfl, rfl⟩
            refine ⟨_, .drop (by kernel_rfl) (.drop (by kernel_rfl) (.nil)), ?_⟩
            refine TV_end ?_
            refine TX_block_normal ?_
            refine TX_cut ⟨(decide ((CO : Int) < 32), W.set xi (y.set 1 (a ||| V))), set_rcf hWF (rcf_set hyF (show a ||| V < 4294967296 from or2)), List.length_set .., ?_⟩ ⟨rfl, rfl, rfl, trivial⟩ (fun w h => ?_)
            · by_cases hlt : CO < 32
              · rw [if_pos (by rw [decide_eq_true_eq]; omega)]
                have hp32 : 2 ^ CO < 2 ^ 32 := Nat.pow_lt_pow_right (by decide) hlt
                rw [Nat.mod_eq_of_lt (show 2 ^ CO < 4294967296 from hp32)] at hV
                refine room_badR hc hWF hyi (by decide) ?_
                rw [hw1, ← hV]
                exact Nat.right_le_or
              · rw [if_neg (by rw [decide_eq_true_eq]; omega)]
                rw [show CO = 32 by omega, show 2 ^ 32 % 4294967296 = 0 from rfl] at hV
                show errRP L (W.set xi (y.set 1 (a ||| V))) = 0
                rw [hV, Nat.or_zero, room_sameR hyi ha]
                exact p1
            · have h' : St w0 ((wb, 67, setAt (flatR W ++ rest) (0 + xi * 7 + 1 + 0) [.int .u32 ((a ||| V : Nat) : Int)]) :: (b5, 70, [.int .u8 (z0 : Int), .int .u8 (z1 : Int)]) :: (b3, 27, L.cells) :: η) w := h
              rw [show 0 + xi * 7 + 1 + 0 = xi * 7 + 1 by omega, hst] at h'
              exact h'
          ·
            refine TC_seq ?_
            refine TC_reg ?_
            refine TL_q rfl rfl (QT_eql rfl rfl rfl rfl) ?_
            refine TL_q rfl rfl (QT_assign rfl rfl rfl) ?_
            refine TL_nil ?_
            refine TX_then ?_
            first
              | refine TC_cond_dec rfl (fun h127 => ?_) (fun h127 => ?_)
              | refine TC_cond rfl (fun h127 => ?_) (fun h127 => ?_)
            ·
              refine TC_seq ?_
              refine TC_reg ?_
              refine TL_q rfl rfl (QT_field rfl rfl YtjehicncbpljaaaDoorF.fld_27_1 rfl) ?_
              refine TL_q rfl rfl (QT_load (v := .int .i64 (CO : Int)) 2 rfl rfl Tryd.underlying3 rfl rfl rfl (fun _ => lco)) ?_
              refine TL_q rfl rfl (QT_lss rfl rfl rfl rfl) ?_
              refine TL_q rfl rfl (QT_assign rfl rfl rfl) ?_
              refine TL_nil ?_
              refine TX_then ?_
              obtain ⟨a, ha⟩ := get7 hyF.len (show 2 < 7 by decide)
              have ha32 : a < 4294967296 := hyF.lt ha
              have hva := hel (by decide) ha
              rw [show rkK 2 = .u32 from rfl] at hva
              obtain ⟨V, hV⟩ : ∃ V, V = 2 ^ CO % 4294967296 := ⟨_, rfl⟩
              have hV32 : V < 4294967296 := by rw [hV]; exact Nat.mod_lt _ (by decide)
              obtain ⟨or1, or2⟩ := or_u32R ha32 hV32
              have hst := hset (p := 2) (v := a ||| V) (by decide)
              rw [show rkK 2 = .u32 from rfl] at hst
              refine TC_draw [(0, 0), (1, 0), (2, 0), (3, 0), (4, 0), (5, 0), (6, 0), (7, 0), (8, 0), (9, 0), (10, 0), (11, 0), (12, 0), (13, 0), (14, 0), (15, 0), (16, 1)] YtjehicncbpljaaaDoorF.mixed (by kernel_rfl) (St.calm _ _) ?_
              refine TV_q rfl rfl rfl (fun _ => QT_move rfl rfl rfl) ?_
              refine TV_q rfl rfl rfl (fun _ => QT_move rfl rfl rfl) ?_
              refine TV_q rfl rfl rfl (fun _ => QT_move rfl rfl rfl) ?_
              refine TV_q rfl rfl rfl (fun _ => QT_move rfl rfl rfl) ?_
              refine TV_q rfl rfl rfl (fun _ => QT_indexG xi rfl rfl Tryd.underlying31 YtjehicncbpljaaaDoorF.sz_67 rfl rfl rfl (fun _ => hxl') (fun _ => rfl)) ?_
              refine TV_q rfl rfl rfl (fun _ => QT_field rfl rfl YtjehicncbpljaaaDoorF.fld_67_1 rfl) ?_
              refine TV_q rfl rfl rfl (fun _ => QT_field rfl rfl YtjehicncbpljaaaDoorF.fld_62_1 rfl) ?_
              refine TV_ql rfl rfl rfl (QT_loadRj (v := .int .u32 (a : Int)) (xi * 7 + 2) rfl rfl Tryd.underlying60 rfl (Rd.own 0 rfl) rfl (fun _ => hva)) ?_
              refine TV_q rfl rfl rfl (fun _ => QT_field rfl rfl YtjehicncbpljaaaDoorF.fld_27_1 rfl) ?_
              refine TV_ql rfl rfl rfl (QT_load (v := .int .i64 (CO : Int)) 2 rfl rfl Tryd.underlying3 rfl rfl rfl (fun _ => lco)) ?_
              refine TV_q rfl rfl rfl (fun _ => QT_to (QT_shl rfl rfl rfl rfl (fun _ => by omega)) (two_u64 hco32)) ?_
              refine TV_q rfl rfl rfl (fun _ => QT_convN rfl rfl Tryd.underlying71 Tryd.underlying60 rfl ((wrapR32 _).trans (by rw [← hV]))) ?_
              refine TV_q rfl rfl rfl (fun _ => QT_to (QT_bits rfl rfl (by decide) rfl rfl) or1) ?_
              refine TV_q rfl rfl rfl (fun _ => QT_indexG xi rfl rfl Tryd.underlying31 YtjehicncbpljaaaDoorF.sz_67 rfl rfl rfl (fun _ => hxl') (fun _ => rfl)) ?_
              refine TV_q rfl rfl rfl (fun _ => QT_field rfl rfl YtjehicncbpljaaaDoorF.fld_67_1 rfl) ?_
              refine TV_q rfl rfl rfl (fun _ => QT_field rfl rfl YtjehicncbpljaaaDoorF.fld_62_1 rfl) ?_
              refine TV_e0 rfl rfl rfl (rfl) (ET_store (vs := [.int .u32 ((a ||| V : Nat) : Int)]) 0 rfl rfl rfl rfl YtjehicncbpljaaaDoorF.sz_60 rfl rfl (by rw [show 0 + xi * 7 + 1 + 1 = xi * 7 + 2 by omega]; exact hble (by decide))) ?_
              rintro _ _ ⟨rfl, rfl⟩
              refine ⟨_, .drop (by kernel_rfl) (.drop (by kernel_rfl) (.nil)), ?_⟩
              refine TV_end ?_
              refine TX_block_normal ?_
              refine TX_cut ⟨(decide ((CO : Int) < 32), W.set xi (y.set 2 (a ||| V))), set_rcf hWF (rcf_set hyF (show a ||| V < 4294967296 from or2)), List.length_set .., ?_⟩ ⟨rfl, rfl, rfl, trivial⟩ (fun w h => ?_)
              · by_cases hlt : CO < 32
                · rw [if_pos (by rw [decide_eq_true_eq]; omega)]
                  have hp32 : 2 ^ CO < 2 ^ 32 := Nat.pow_lt_pow_right (by decide) hlt
                  rw [Nat.mod_eq_of_lt (show 2 ^ CO < 4294967296 from hp32)] at hV
                  refine room_badR hc hWF hyi (by decide) ?_
                  rw [hw2, ← hV]
                  exact Nat.right_le_or
                · rw [if_neg (by rw [decide_eq_true_eq]; omega)]
                  rw [show CO = 32 by omega, show 2 ^ 32 % 4294967296 = 0 from rfl] at hV
                  show errRP L (W.set xi (y.set 2 (a ||| V))) = 0
                  rw [hV, Nat.or_zero, room_sameR hyi ha]
                  exact p1
              · have h' : St w0 ((wb, 67, setAt (flatR W ++ rest) (0 + xi * 7 + 1 + 1) [.int .u32 ((a ||| V : Nat) : Int)]) :: (b5, 70, [.int .u8 (z0 : Int), .int .u8 (z1 : Int)]) :: (b3, 27, L.cells) :: η) w := h
                rw [show 0 + xi * 7 + 1 + 1 = xi * 7 + 2 by omega, hst] at h'
                exact h'
            ·
              refine TC_seq ?_
              refine TC_reg ?_
              refine TL_q rfl rfl (QT_eql rfl rfl rfl rfl) ?_
              refine TL_q rfl rfl (QT_assign rfl rfl rfl) ?_
              refine TL_nil ?_
              refine TX_then ?_
              refine TC_cond rfl (fun _ => ?_) (fun h => absurd (h.symm.trans (decide_eq_true (by omega))) (by decide))
              refine TC_seq ?_
              obtain ⟨a, ha⟩ := get7 hyF.len (show 0 < 7 by decide)
              have ha8 : a < 256 := hyF.lt ha
              have hva := hel (by decide) ha
              rw [show rkK 0 = .u8 from rfl] at hva
              obtain ⟨V, hV⟩ : ∃ V, V = if L.ty = 4 then 2 ^ FL % 256 else 1 := ⟨_, rfl⟩
              have hV8 : V < 256 := by rw [hV]; split; exact Nat.mod_lt _ (by decide); decide
              have or2 : a ||| V < 256 := Nat.or_lt_two_pow (n := 8) ha8 hV8
              have or1 := or_u8 ha8 hV8 or2
              have hst := hset (p := 0) (v := a ||| V) (by decide)
              rw [show rkK 0 = .u8 from rfl] at hst
              refine TC_reg ?_
              refine TL_q rfl rfl (QT_assign rfl rfl rfl) ?_
              refine TL_nil ?_
              refine TX_then ?_
              refine TC_cut (γ := Unit) (fun _ => [(3, true, .pointer (some ⟨b3, 0, none⟩)), (7, true, .slice (some ⟨wb, 0, none⟩) W.length wcap), (9, true, .int .i64 (xi : Int)), (13, true, .int .u8 (V : Int))]) (fun _ => St w0 ((wb, 67, flatR W ++ rest) :: (b5, 70, [.int .u8 (z0 : Int), .int .u8 (z1 : Int)]) :: (b3, 27, L.cells) :: η)) ?_ ?_
              ·
                refine TC_seq ?_
                refine TC_reg ?_
                refine TL_q rfl rfl (QT_field rfl rfl YtjehicncbpljaaaDoorF.fld_27_0 rfl) ?_
                refine TL_q rfl rfl (QT_load (v := .int .i64 L.ty) 2 rfl rfl Tryd.underlying3 rfl rfl rfl (fun _ => rfl)) ?_
                refine TL_q rfl rfl (QT_eql rfl rfl rfl rfl) ?_
                refine TL_nil ?_
                refine TX_then ?_
                first
                  | refine TC_cond_dec rfl (fun h152 => ?_) (fun h152 => ?_)
                  | refine TC_cond rfl (fun h152 => ?_) (fun h152 => ?_)
                ·
                  have hfl8 := (hw0a h152).2
                  refine TC_reg ?_
                  refine TL_q rfl rfl (QT_field rfl rfl YtjehicncbpljaaaDoorF.fld_27_3 rfl) ?_
                  refine TL_q rfl rfl (QT_load (v := .int .i64 (FL : Int)) 2 rfl rfl Tryd.underlying3 rfl rfl rfl (fun _ => lfl)) ?_
                  refine TL_q rfl rfl (QT_to (QT_shl rfl rfl rfl rfl (fun _ => by omega)) (shl_u32R ⟨FL, by omega⟩)) ?_
                  refine TL_q rfl rfl (QT_convN rfl rfl Tryd.underlying60 Tryd.underlying5 rfl (wrapR8 _)) ?_
                  refine TL_q rfl rfl (QT_assign rfl rfl rfl) ?_
                  refine TL_nil ?_
                  exact TX_cut () ⟨rfl, rfl, rfl, slotI rfl (by rw [hV, if_pos h152]), trivial⟩ (fun _ h => h)
                ·
                  refine TC_skip ?_
                  exact TX_cut () ⟨rfl, rfl, rfl, slotI rfl (by rw [hV, if_neg h152]; rfl), trivial⟩ (fun _ h => h)
              rintro ⟨⟩
              refine TC_seq ?_
              refine TC_reg ?_
              refine TL_q rfl rfl (QT_move rfl rfl rfl) ?_
              refine TL_q rfl rfl (QT_neq rfl rfl rfl rfl) ?_
              refine TL_q rfl rfl (QT_assign rfl rfl rfl) ?_
              refine TL_nil ?_
              refine TX_then ?_
              refine TC_reg ?_
              refine TL_q rfl rfl (QT_move rfl rfl rfl) ?_
              refine TL_q rfl rfl (QT_move rfl rfl rfl) ?_
              refine TL_q rfl rfl (QT_move rfl rfl rfl) ?_
              refine TL_q rfl rfl (QT_move rfl rfl rfl) ?_
              refine TL_q rfl rfl (QT_indexG xi rfl rfl Tryd.underlying31 YtjehicncbpljaaaDoorF.sz_67 rfl rfl rfl (fun _ => hxl') (fun _ => rfl)) ?_
              refine TL_q rfl rfl (QT_field rfl rfl YtjehicncbpljaaaDoorF.fld_67_0 rfl) ?_
              refine TL_q rfl rfl (QT_loadRj (v := .int .u8 (a : Int)) (xi * 7 + 0) rfl rfl Tryd.underlying5 rfl (Rd.own 0 rfl) rfl (fun _ => hva)) ?_
              refine TL_q rfl rfl (QT_move rfl rfl rfl) ?_
              refine TL_q rfl rfl (QT_to (QT_bits rfl rfl (by decide) rfl rfl) or1) ?_
              refine TL_q rfl rfl (QT_indexG xi rfl rfl Tryd.underlying31 YtjehicncbpljaaaDoorF.sz_67 rfl rfl rfl (fun _ => hxl') (fun _ => rfl)) ?_
              refine TL_q rfl rfl (QT_field rfl rfl YtjehicncbpljaaaDoorF.fld_67_0 rfl) ?_
              refine TL_e0 rfl rfl (rfl) (ET_store (vs := [.int .u8 ((a ||| V : Nat) : Int)]) 0 rfl rfl rfl rfl YtjehicncbpljaaaDoorF.sz_5 rfl rfl (by rw [show 0 + xi * 7 + 0 = xi * 7 + 0 by omega]; exact hble (by decide))) ?_
              rintro _ _ ⟨rfl, rfl⟩
              refine TL_nil ?_
              refine TX_block_normal ?_
              refine TX_cut ⟨(decide ((V : Int) ≠ 0), W.set xi (y.set 0 (a ||| V))), set_rcf hWF (rcf_set hyF (show a ||| V < 256 from or2)), List.length_set .., ?_⟩ ⟨rfl, rfl, rfl, trivial⟩ (fun w h => ?_)
              · by_cases hv0 : V = 0
                · rw [if_neg (by simp [hv0])]
                  show errRP L (W.set xi (y.set 0 (a ||| V))) = 0
                  rw [hv0, Nat.or_zero, room_sameR hyi ha]
                  exact p1
                · rw [if_pos (by rw [decide_eq_true_eq]; omega)]
                  refine room_badR hc hWF hyi (by decide) ?_
                  by_cases h4 : L.ty = 4
                  · obtain ⟨q1, q2⟩ := hw0a h4
                    rw [if_pos h4] at hV
                    rw [q1]
                    have hlt : FL < 8 := by
                      rcases Nat.lt_or_ge FL 8 with h | h
                      · exact h
                      · rw [show FL = 8 by omega] at hV
                        exact absurd hV hv0
                    have hp8 : 2 ^ FL < 2 ^ 8 := Nat.pow_lt_pow_right (by decide) hlt
                    rw [Nat.mod_eq_of_lt (show 2 ^ FL < 256 from hp8)] at hV
                    rw [← hV]
                    exact Nat.right_le_or
                  · rw [if_neg h4] at hV
                    rw [hw0b h4, hV]
                    exact Nat.right_le_or
              · have h' : St w0 ((wb, 67, setAt (flatR W ++ rest) (0 + xi * 7 + 0) [.int .u8 ((a ||| V : Nat) : Int)]) :: (b5, 70, [.int .u8 (z0 : Int), .int .u8 (z1 : Int)]) :: (b3, 27, L.cells) :: η) w := h
                rw [show 0 + xi * 7 + 0 = xi * 7 + 0 by omega, hst] at h'
                exact h'
      rintro ⟨⟨more, W2⟩, hW2, hl2, he2⟩
      dsimp only at hW2 hl2 he2 ⊢
      have hf2 := flatR_len hW2
      refine TC_seq ?_
      refine TC_reg ?_
      refine TL_q rfl rfl (QT_loadW (cs := L.cells) 2 rfl rfl Tryd.underlying27 rfl rfl rfl YtjehicncbpljaaaDoorF.sz_27) ?_
      refine TL_q rfl rfl (QT_move rfl rfl rfl) ?_
      refine TL_e rfl rfl rfl (rfl) (ET_call rfl YtjehicncbpljaaaDoorF.cal_19 rfl (rput0_spec w0 _ hG L _ W2 (by
       rw [← hl2] at hwcap ⊢
       exact SlA.own (n := W2.length) 0 rfl (by rw [List.drop_zero, ← hf2, List.take_left]) (by rw [List.length_append, hf2]; omega) hwcap) hW2 (by omega))) ?_
      rintro _ _ ⟨bv, H3, rfl, hF3, rfl⟩
      refine TL_q rfl rfl (QT_move rfl rfl rfl) ?_
      refine TL_q rfl rfl (QT_extract rfl rfl rfl rfl) ?_
      refine TL_q rfl rfl (QT_extract rfl rfl rfl rfl) ?_
      refine TL_q rfl rfl (QT_assign rfl rfl rfl) ?_
      refine TL_q rfl rfl (QT_assign rfl rfl rfl) ?_
      refine TL_nil ?_
      refine TX_then ?_
      refine TC_seq ?_
      refine TC_seq ?_
      rw [he2]
      refine TC_A (St w0 (H3 ++ η)) (fun w h => h.cnt fun p => by simp only [List.countP_append, List.countP_cons, List.countP_nil]; omega) ?_
      refine TC_reg ?_
      refine TL_q rfl rfl (QT_move rfl rfl rfl) ?_
      refine TL_q rfl rfl (QT_not rfl rfl rfl) ?_
      refine TL_nil ?_
      refine TX_then ?_
      first
        | refine TC_cond_dec rfl (fun h177 => ?_) (fun h177 => ?_)
        | refine TC_cond rfl (fun h177 => ?_) (fun h177 => ?_)
      ·
        obtain rfl : more = false := by simpa using h177
        refine TC_seq ?_
        refine TC_reg ?_
        refine TL_q rfl rfl (QT_move rfl rfl rfl) ?_
        refine TL_q rfl rfl (QT_eql rfl rfl rfl rfl) ?_
        refine TL_q rfl rfl (QT_move rfl rfl rfl) ?_
        refine TL_cq rfl rfl rfl rfl YtjehicncbpljaaaDoorF.cal_9 rfl (fun _ => lives09 w0 _ hG) ?_
        refine TL_q rfl rfl (QT_and rfl rfl rfl rfl) ?_
        refine TL_q rfl rfl (QT_assign rfl rfl rfl) ?_
        refine TL_nil ?_
        refine TX_then ?_
        refine TC_ret ?_
        refine TX_then_ret ?_
        exact TX_ret (.inl rfl) (res1 rfl rfl) ⟨_, ⟨congrArg Value.bool (show (_ : Bool) = true by rfl), rfl⟩, fun w h => h.app_right⟩
      ·
        obtain rfl : more = true := by simpa using h177
        rw [if_pos rfl] at he2
        rw [errRP_bad (by rw [he2]; decide)] at hF3
        obtain ⟨bad, bcap, rfl, _, _⟩ := hF3.slice
        refine TC_skip ?_
        refine TX_then ?_
        refine TC_seq ?_
        refine TC_reg ?_
        refine TL_q rfl rfl (QT_move rfl rfl rfl) ?_
        refine TL_q rfl rfl (QT_eql rfl rfl rfl rfl) ?_
        refine TL_q rfl rfl (QT_move rfl rfl rfl) ?_
        refine TL_q rfl rfl (QT_move rfl rfl rfl) ?_
        refine TL_q rfl rfl (QT_len rfl rfl Tryd.underlying28 rfl) ?_
        refine TL_q rfl rfl (QT_eql rfl rfl rfl rfl) ?_
        refine TL_q rfl rfl (QT_and rfl rfl rfl rfl) ?_
        refine TL_q rfl rfl (QT_move rfl rfl rfl) ?_
        refine TL_cq rfl rfl rfl rfl YtjehicncbpljaaaDoorF.cal_9 rfl (fun _ => lives09 w0 _ hG) ?_
        refine TL_q rfl rfl (QT_and rfl rfl rfl rfl) ?_
        refine TL_q rfl rfl (QT_assign rfl rfl rfl) ?_
        refine TL_nil ?_
        refine TX_then ?_
        refine TC_ret ?_
        exact TX_ret (.inl rfl) (res1 rfl rfl) ⟨_, ⟨congrArg Value.bool (show (_ : Bool) = true by rfl), rfl⟩, fun w h => h.app_right⟩
end Go.Proofs.YtjehicncbpljaaaDoor

/- THE LAW: a sheet that tells anything that it has no room for is refused, wherever it stands. -/
import Derived.Test.YtlmbpdlobpcahaaDoorS11u
namespace Go.Proofs.YtlmbpdlobpcahaaDoor
open Go Go.Gx Go.RowKit
set_option maxRecDepth 100000
theorem or_u32 {a b : Nat} (ha : a < 4294967296) (hb : b < 4294967296) : bitsOf .or .u32 (a : Int) (b : Int) = ((a ||| b : Nat) : Int) ∧ a ||| b < 4294967296 := by
  have h : a ||| b < 2 ^ 32 := Nat.or_lt_two_pow (show a < 2 ^ 32 from ha) (show b < 2 ^ 32 from hb)
  refine ⟨?_, h⟩
  show IntKind.u32.wrap ((BitVec.ofInt 32 (a : Int) ||| BitVec.ofInt 32 (b : Int)).toNat : Int) = _
  rw [BitVec.toNat_or, ofInt_u32 a ha, ofInt_u32 b hb]
  exact IntWalk.u32_in ((a ||| b : Nat) : Int) ⟨by omega, by omega⟩
theorem or_u16 {a b : Nat} (ha : a < 65536) (hb : b < 65536) : bitsOf .or .u16 (a : Int) (b : Int) = ((a ||| b : Nat) : Int) ∧ a ||| b < 65536 := by
  have h : a ||| b < 2 ^ 16 := Nat.or_lt_two_pow (show a < 2 ^ 16 from ha) (show b < 2 ^ 16 from hb)
  refine ⟨?_, h⟩
  show IntKind.u16.wrap ((BitVec.ofInt 16 (a : Int) ||| BitVec.ofInt 16 (b : Int)).toNat : Int) = _
  rw [BitVec.toNat_or, ofInt16 a ha, ofInt16 b hb]
  exact IntWalk.u16_in ((a ||| b : Nat) : Int) ⟨by omega, by omega⟩
theorem shl_u32 : ∀ w : Fin 17, IntKind.u32.wrap (1 * 2 ^ (min ((w.1 : Nat) : Int).toNat IntKind.u32.bits)) = ((2 ^ w.1 : Nat) : Int) := by decide +kernel
theorem wrapN32 (x : Nat) : IntKind.u32.wrap (x : Int) = ((x % 4294967296 : Nat) : Int) := by
  show (x : Int) % 4294967296 = _
  omega
theorem flat_set : ∀ {ys : List (List Nat)}, (∀ y ∈ ys, ShF y) → ∀ {i p v : Nat} {y : List Nat} (rest : List Value), ys[i]? = some y → p < 49 → setAt (flatS ys ++ rest) (i * 49 + p) [.int (skK p) (v : Int)] = flatS (ys.set i (y.set p v)) ++ rest
  | [], _, i, p, v, y, rest, h, _ => by simp at h
  | z :: ys, hy, 0, p, v, y, rest, h, hp => by
    obtain rfl : z = y := by simpa using h
    have hl := shV_len (hy z (List.mem_cons_self ..)).len
    have e : ∀ (a : List Nat), flatS (a :: ys) = shV a ++ flatS ys := fun a => by simp [flatS]
    show (flatS (z :: ys) ++ rest).set (0 * 49 + p) _ = _
    rw [List.set_cons_zero, e, e, List.append_assoc, List.set_append_left _ _ (by omega), show 0 * 49 + p = p by omega, shV_set hp, List.append_assoc]
  | z :: ys, hy, i + 1, p, v, y, rest, h, hp => by
    have hl := shV_len (hy z (List.mem_cons_self ..)).len
    have e : ∀ (l : List (List Nat)), flatS (z :: l) = shV z ++ flatS l := fun l => by simp [flatS]
    have ih := flat_set (ys := ys) (fun w hw => hy w (List.mem_cons_of_mem _ hw)) (i := i) (p := p) (v := v) rest (by simpa using h) hp
    show (flatS (z :: ys) ++ rest).set ((i + 1) * 49 + p) _ = _
    rw [List.set_cons_succ, e, e, List.append_assoc, List.set_append_right _ _ (by omega), hl, show (i + 1) * 49 + p - 49 = i * 49 + p by omega, List.append_assoc]
    exact congrArg (shV z ++ ·) ih
theorem shf_set {y : List Nat} (h : ShF y) {k v : Nat} (hk : k < 48) (h1 : k < 32 → v < 4294967296) (h2 : 32 ≤ k → v < 65536) : ShF (y.set (k + 1) v) := by
  obtain ⟨x0, X, rfl, h0, hX⟩ := h
  refine ⟨x0, X.set k v, rfl, h0, by rw [List.length_set, hX.len], fun {p x} hx hp => ?_, fun {p x} hx hp => ?_⟩
  · rw [List.getElem?_set] at hx
    split at hx
    · rename_i e
      split at hx
      · cases hx; exact h1 (by omega)
      · cases hx
    · exact hX.pt hx hp
  · rw [List.getElem?_set] at hx
    split at hx
    · rename_i e
      split at hx
      · cases hx; exact h2 (by omega)
      · cases hx
    · exact hX.cl hx hp
theorem errP_one {L : Lay} (hc : okB L = true ∧ 6 ≤ L.ty) {W : List (List Nat)} {y : List Nat} (hm : y ∈ W) (hf : fitS L y = false) : errP L W = 1 := by
  unfold errP
  rw [if_pos hc, if_neg]
  intro ha
  have := List.all_eq_true.1 ha y hm
  rw [hf] at this
  exact absurd this (by decide)
theorem mem_set {W : List (List Nat)} {i : Nat} {y z : List Nat} (h : W[i]? = some y) : z ∈ W.set i z :=
  List.mem_of_getElem? (i := i) (by rw [List.getElem?_set, if_pos rfl, if_pos (List.getElem?_eq_some_iff.1 h).1])
theorem set_shf {W : List (List Nat)} (hW : ∀ y ∈ W, ShF y) {i : Nat} {z : List Nat} (hz : ShF z) : ∀ y ∈ W.set i z, ShF y := by
  intro y hy
  rcases List.mem_or_eq_of_mem_set hy with h | rfl
  · exact hW y h
  · exact hz
theorem room_bad {L : Lay} (hc : okB L = true ∧ 6 ≤ L.ty) {W : List (List Nat)} (hW : ∀ y ∈ W, ShF y) {i k w m v : Nat} {y : List Nat} (hy : W[i]? = some y) (hw : (wS L (y.headD 0))[k]? = some (w, m)) (hv : 2 ^ w ≤ v) : errP L (W.set i (y.set (k + 1) v)) = 1 := by
  have hF := hW y (List.mem_of_getElem? hy)
  obtain ⟨x0, X, rfl, h0, hX⟩ := hF
  refine errP_one hc (mem_set hy) ?_
  have hk : k < 48 := by rw [← wS_len L x0]; exact (List.getElem?_eq_some_iff.1 hw).1
  cases hf : fitS L ((x0 :: X).set (k + 1) v) with
  | false => rfl
  | true =>
    have h1 : fitB (fS L x0) (x0 :: X.set k v) = true := hf
    have := fitB_at h1 (k := k + 1) (w := w) (m := m) (x := v) (by rw [fS, List.getElem?_cons_succ]; exact hw) (by rw [List.getElem?_cons_succ, List.getElem?_set, if_pos rfl, if_pos (by rw [hX.len]; exact hk)])
    omega
theorem room_flag {L : Lay} (hc : okB L = true ∧ 6 ≤ L.ty) {W : List (List Nat)} (hW : ∀ y ∈ W, ShF y) {i v : Nat} {y : List Nat} (hy : W[i]? = some y) (hv : 2 ^ L.fl.toNat ≤ v) : errP L (W.set i (y.set 0 v)) = 1 := by
  have hF := hW y (List.mem_of_getElem? hy)
  obtain ⟨x0, X, rfl, h0, hX⟩ := hF
  refine errP_one hc (mem_set hy) ?_
  show fitB (fS L v) (v :: X) = false
  rw [fS, fitB, show decide (v < 2 ^ L.fl.toNat) = false by simpa using hv]
  rfl
theorem shf_flag {y : List Nat} (h : ShF y) {v : Nat} (hv : v < 256) : ShF (y.set 0 v) := by
  obtain ⟨x0, X, rfl, h0, hX⟩ := h
  exact ⟨v, X, rfl, hv, hX⟩
theorem room_same {W : List (List Nat)} {i p a : Nat} {y : List Nat} (hy : W[i]? = some y) (ha : y[p]? = some a) : W.set i (y.set p a) = W := by
  have e1 : y.set p a = y := by
    apply List.ext_getElem?
    intro k
    rw [List.getElem?_set]
    by_cases e : p = k
    · subst e; rw [if_pos rfl, if_pos (List.getElem?_eq_some_iff.1 ha).1]; exact ha.symm
    · rw [if_neg e]
  rw [e1]
  apply List.ext_getElem?
  intro k
  rw [List.getElem?_set]
  by_cases e : i = k
  · subst e; rw [if_pos rfl, if_pos (List.getElem?_eq_some_iff.1 hy).1]; exact hy.symm
  · rw [if_neg e]
set_option maxHeartbeats 4000000 in
theorem law_sheetsRoom (w0 : World) (η : Heap) (hG : Sets w0) (L : Lay) (sv : Value) (ys : List (List Nat)) (z0 z1 : Nat) (hs : SlA (St w0 η) sv 49 ys.length (flatS ys)) (hy : ∀ y ∈ ys, ShF y) (hz0 : z0 ≤ 255) (hz1 : z1 ≤ 255) :
    CallsT Tryd.prog 8 [L.val, sv, .agg #[.int .u8 (z0 : Int), .int .u8 (z1 : Int)]] (St w0 η) fun v A' => v = .bool true ∧ A' = St w0 η := by
  have hs0 := hs
  obtain ⟨hxl, ad, cap, rfl, hcap, hsr⟩ := hs
  refine CallsT.body Tryd.func8 rfl rfl ?_
  simp only [Tryd.ntmps8, slotsOf, Nat.reduceAdd]
  refine TC_seq ?_
  refine TC_reg ?_
  refine TL_e rfl rfl rfl (rfl) (ET_box rfl rfl) ?_
  rintro _ _ ⟨b3, rfl, rfl⟩
  refine TL_e rfl rfl rfl (rfl) (ET_box rfl rfl) ?_
  rintro _ _ ⟨b5, rfl, rfl⟩
  refine TL_q rfl rfl (QT_assign rfl rfl rfl) ?_
  refine TL_nil ?_
  refine TX_then ?_
  refine TC_seq ?_
  refine TC_seq ?_
  refine TC_A (St w0 ((b5, 74, [.int .u8 (z0 : Int), .int .u8 (z1 : Int)]) :: (b3, 27, L.cells) :: η)) (fun _ h => h) ?_
  refine TC_reg ?_
  first
    | refine TL_q rfl rfl (QT_loadW 0 rfl rfl Tryd.underlying27 rfl rfl rfl YtlmbpdlobpcahaaDoorF.sz_27) ?_
    | refine TL_q rfl rfl (QT_loadW 1 rfl rfl Tryd.underlying27 rfl rfl rfl YtlmbpdlobpcahaaDoorF.sz_27) ?_
    | refine TL_q rfl rfl (QT_loadW 2 rfl rfl Tryd.underlying27 rfl rfl rfl YtlmbpdlobpcahaaDoorF.sz_27) ?_
    | refine TL_q rfl rfl (QT_loadA 0 rfl rfl Tryd.underlying27 rfl rfl rfl YtlmbpdlobpcahaaDoorF.sz_27 (fun _ => rfl)) ?_
    | refine TL_q rfl rfl (QT_loadA 1 rfl rfl Tryd.underlying27 rfl rfl rfl YtlmbpdlobpcahaaDoorF.sz_27 (fun _ => rfl)) ?_
    | refine TL_q rfl rfl (QT_loadA 2 rfl rfl Tryd.underlying27 rfl rfl rfl YtlmbpdlobpcahaaDoorF.sz_27 (fun _ => rfl)) ?_
  refine TL_cq rfl rfl rfl rfl YtlmbpdlobpcahaaDoorF.cal_23 rfl (fun _ => check_spec w0 _ hG L) ?_
  refine TL_q rfl rfl (QT_neq rfl rfl rfl rfl) ?_
  refine TL_q rfl rfl (QT_move rfl rfl rfl) ?_
  refine TL_q rfl rfl (QT_field rfl rfl YtlmbpdlobpcahaaDoorF.fld_27_0 rfl) ?_
  first
    | refine TL_q rfl rfl (QT_load 0 rfl rfl Tryd.underlying3 rfl rfl rfl (fun _ => rfl)) ?_
    | refine TL_q rfl rfl (QT_load 1 rfl rfl Tryd.underlying3 rfl rfl rfl (fun _ => rfl)) ?_
    | refine TL_q rfl rfl (QT_load 2 rfl rfl Tryd.underlying3 rfl rfl rfl (fun _ => rfl)) ?_
  refine TL_q rfl rfl (QT_lss rfl rfl rfl rfl) ?_
  refine TL_q rfl rfl (QT_or rfl rfl rfl rfl) ?_
  refine TL_q rfl rfl (QT_move rfl rfl rfl) ?_
  refine TL_q rfl rfl (QT_move rfl rfl rfl) ?_
  refine TL_q rfl rfl (QT_len rfl rfl Tryd.underlying31 rfl) ?_
  refine TL_q rfl rfl (QT_gtr rfl rfl rfl rfl) ?_
  refine TL_q rfl rfl (QT_or rfl rfl rfl rfl) ?_
  refine TL_q rfl rfl (QT_move rfl rfl rfl) ?_
  refine TL_q rfl rfl (QT_move rfl rfl rfl) ?_
  refine TL_q rfl rfl (QT_len rfl rfl Tryd.underlying31 rfl) ?_
  refine TL_q rfl rfl (QT_eql rfl rfl rfl rfl) ?_
  refine TL_q rfl rfl (QT_or rfl rfl rfl rfl) ?_
  refine TL_nil ?_
  refine TX_then ?_
  first
    | refine TC_cond_dec rfl (fun h33 => ?_) (fun h33 => ?_)
    | refine TC_cond rfl (fun h33 => ?_) (fun h33 => ?_)
  ·
    refine TC_seq ?_
    refine TC_reg ?_
    refine TL_cq rfl rfl rfl rfl YtlmbpdlobpcahaaDoorF.cal_9 rfl (fun _ => lives11 w0 _ hG) ?_
    refine TL_q rfl rfl (QT_assign rfl rfl rfl) ?_
    refine TL_nil ?_
    refine TX_then ?_
    refine TC_ret ?_
    refine TX_then_ret ?_
    exact TX_ret (.inl rfl) (res1 rfl rfl) ⟨_, ⟨rfl, rfl⟩, (fun _ h => by first | exact h | exact h.tail | exact h.tail.tail | exact h.tail.tail.tail | exact h.tail.tail.tail.tail | exact h.tail.tail.tail.tail.tail | exact h.tail.tail.tail.tail.tail.tail | exact h.tail.tail.tail.tail.tail.tail.tail | exact h.tail.tail.tail.tail.tail.tail.tail.tail | exact h.tail.tail.tail.tail.tail.tail.tail.tail.tail | exact h.tail.tail.tail.tail.tail.tail.tail.tail.tail.tail | exact h.tail.tail.tail.tail.tail.tail.tail.tail.tail.tail.tail | exact h.tail.tail.tail.tail.tail.tail.tail.tail.tail.tail.tail.tail | exact h.tail.tail.tail.tail.tail.tail.tail.tail.tail.tail.tail.tail.tail)⟩
  ·
    refine TC_skip ?_
    refine TX_then ?_
    refine TC_seq ?_
    obtain ⟨hc, hn, hn0⟩ : (okB L = true ∧ 6 ≤ L.ty) ∧ ys.length ≤ 20 ∧ 0 < ys.length := by
      rw [Bool.or_eq_false_iff, Bool.or_eq_false_iff] at h33
      refine ⟨kept_of (v := 0) h33.1.1, ?_, ?_⟩
      · have := h33.1.2
        simp only [decide_eq_false_iff_not] at this
        omega
      · have := h33.2
        simp only [decide_eq_false_iff_not] at this
        omega
    have hty := ty67 hc
    obtain ⟨hWF, hWf⟩ := cutAll (L := L) hy
    have hWl : (ys.map (cutS L)).length ≤ 20 ∧ 0 < (ys.map (cutS L)).length := by rw [List.length_map]; exact ⟨hn, hn0⟩
    have hbd0 := okB_bounds hc.1
    have hfl : (L.fl.toNat : Int) = L.fl := by have := hbd0.2.2.2.2.2 (by omega); omega
    have hco : (L.co.toNat : Int) = L.co := by have := hbd0.1; omega
    have hcm : (L.cm.toNat : Int) = L.cm := by have := hbd0.2.1; omega
    have hcsn : (L.cs.toNat : Int) = L.cs := by have := hbd0.2.2.1; omega
    have hfl8 : L.fl.toNat ≤ 8 := by have := hbd0.2.2.2.2.2 (by omega); omega
    have hco32 : L.co.toNat ≤ 32 := by have := hbd0.1; omega
    have hcm16 : L.cm.toNat ≤ 16 := by have := hbd0.2.1; omega
    have hcs4 : 1 ≤ L.cs.toNat ∧ L.cs.toNat ≤ 4 := by have := hbd0.2.2.1; omega
    have lfl : L.cells[0 + 3]? = some (.int .i64 (L.fl.toNat : Int)) := lay_at rfl hfl
    have lco : L.cells[0 + 1]? = some (.int .i64 (L.co.toNat : Int)) := lay_at rfl hco
    have lcm : L.cells[0 + 2]? = some (.int .i64 (L.cm.toNat : Int)) := lay_at rfl hcm
    have lcs : L.cells[0 + 4]? = some (.int .i64 (L.cs.toNat : Int)) := lay_at rfl hcsn
    refine TC_reg ?_
    first
      | refine TL_q rfl rfl (QT_loadW 0 rfl rfl Tryd.underlying27 rfl rfl rfl YtlmbpdlobpcahaaDoorF.sz_27) ?_
      | refine TL_q rfl rfl (QT_loadW 1 rfl rfl Tryd.underlying27 rfl rfl rfl YtlmbpdlobpcahaaDoorF.sz_27) ?_
      | refine TL_q rfl rfl (QT_loadW 2 rfl rfl Tryd.underlying27 rfl rfl rfl YtlmbpdlobpcahaaDoorF.sz_27) ?_
      | refine TL_q rfl rfl (QT_loadA 0 rfl rfl Tryd.underlying27 rfl rfl rfl YtlmbpdlobpcahaaDoorF.sz_27 (fun _ => rfl)) ?_
      | refine TL_q rfl rfl (QT_loadA 1 rfl rfl Tryd.underlying27 rfl rfl rfl YtlmbpdlobpcahaaDoorF.sz_27 (fun _ => rfl)) ?_
      | refine TL_q rfl rfl (QT_loadA 2 rfl rfl Tryd.underlying27 rfl rfl rfl YtlmbpdlobpcahaaDoorF.sz_27 (fun _ => rfl)) ?_
    refine TL_q rfl rfl (QT_move rfl rfl rfl) ?_
    refine TL_e rfl rfl rfl (rfl) (ET_call rfl YtlmbpdlobpcahaaDoorF.cal_24 rfl (cut_spec w0 _ L hc.1 hty _ ys (hs0.mono fun _ h => h.tail.tail) hy (by omega))) ?_
    rintro wv _ ⟨H1, hF1, rfl⟩
    refine TL_q rfl rfl (QT_assign rfl rfl rfl) ?_
    refine TL_nil ?_
    refine TX_then ?_
    refine TC_seq ?_
    generalize ys.map (cutS L) = W at hF1 hWF hWf hWl
    have hbd := bytesS_bd hc.1 hty hWF
    obtain ⟨p1, p2⟩ := put_ok hc hWf (by omega)
    obtain ⟨wad, wcap, rfl, hwcap, hwb⟩ := hF1.slice
    obtain ⟨wb, rest, rfl, rfl⟩ := hwb hWl.2
    obtain ⟨xi, hxi⟩ : ∃ xi, xi = z0 % W.length := ⟨_, rfl⟩
    have hxl' : xi < W.length := by rw [hxi]; exact Nat.mod_lt _ hWl.2
    obtain ⟨y, hyi⟩ : ∃ y, W[xi]? = some y := ⟨_, List.getElem?_eq_getElem hxl'⟩
    have hyF := hWF y (List.mem_of_getElem? hyi)
    have hfL := flatS_len hWF
    have hyh : y[0]? = some (y.headD 0) := by obtain ⟨x0, X, rfl, _, _⟩ := hyF; rfl
    have hel : ∀ {p : Nat} {a : Nat}, p < 49 → y[p]? = some a → (flatS W ++ rest)[xi * 49 + p]? = some (.int (skK p) (a : Int)) := fun {p a} hp ha => by
      rw [List.getElem?_append_left (by rw [hfL]; omega), flatS_elem hWF hyi hp]
      exact shV_at hp ha
    have hset := fun {p v : Nat} (hp : p < 49) => flat_set hWF (i := xi) (p := p) (v := v) rest hyi hp
    have hble : ∀ {p : Nat}, p < 49 → Nat.ble (xi * 49 + p + 1) (flatS W ++ rest).length = true := fun {p} hp => Nat.ble_eq_true_of_le (by rw [List.length_append, hfL]; omega)
    have hv0 := hel (p := 0) (by decide) hyh
    have hpt := ptN_bd L (y.headD 0)
    have hcl := clN_bd L (y.headD 0)
    have hp2 := hpt.2.2
    have hc2 := hcl.2.2
    unfold ptsZ at hp2
    unfold colZ at hc2
    refine TC_A (St w0 ((wb, 71, flatS W ++ rest) :: (b5, 74, [.int .u8 (z0 : Int), .int .u8 (z1 : Int)]) :: (b3, 27, L.cells) :: η)) (fun w h => h) ?_
    refine TC_reg ?_
    refine TL_q rfl rfl (QT_move rfl rfl rfl) ?_
    refine TL_q rfl rfl (QT_indexArr (0) rfl rfl Tryd.underlying74 YtlmbpdlobpcahaaDoorF.sz_5 rfl rfl (rfl) (fun _ => by decide)) ?_
    refine TL_q rfl rfl (QT_load (v := .int .u8 (z0 : Int)) 1 rfl rfl Tryd.underlying5 rfl rfl rfl (fun _ => rfl)) ?_
    refine TL_q rfl rfl (QT_convN rfl rfl Tryd.underlying5 Tryd.underlying3 rfl (IntWalk.i64_in _ ⟨by omega, by omega⟩)) ?_
    refine TL_q rfl rfl (QT_move rfl rfl rfl) ?_
    refine TL_q rfl rfl (QT_len rfl rfl Tryd.underlying31 rfl) ?_
    refine TL_q rfl rfl (QT_to (QT_rem rfl rfl rfl rfl (fun _ => ⟨by omega, by omega⟩)) (show (z0 : Int) % (W.length : Int) = (xi : Int) by rw [hxi]; rfl)) ?_
    refine TL_q rfl rfl (QT_indexG xi rfl rfl Tryd.underlying31 YtlmbpdlobpcahaaDoorF.sz_71 rfl rfl rfl (fun _ => hxl') (fun _ => rfl)) ?_
    refine TL_q rfl rfl (QT_assign rfl rfl rfl) ?_
    refine TL_nil ?_
    refine TX_then ?_
    refine TC_seq ?_
    refine TC_reg ?_
    refine TL_q rfl rfl (QT_field rfl rfl YtlmbpdlobpcahaaDoorF.fld_27_0 rfl) ?_
    refine TL_q rfl rfl (QT_load (v := .int .i64 L.ty) 2 rfl rfl Tryd.underlying3 rfl rfl rfl (fun _ => rfl)) ?_
    refine TL_q rfl rfl (QT_sub rfl rfl rfl rfl (fun _ => ⟨by omega, by omega⟩)) ?_
    refine TL_q rfl rfl (QT_mul rfl rfl rfl rfl (fun _ => ⟨by omega, by omega⟩)) ?_
    refine TL_q rfl rfl (QT_add rfl rfl rfl rfl (fun _ => ⟨by omega, by omega⟩)) ?_
    refine TL_q rfl rfl (QT_assign rfl rfl rfl) ?_
    refine TL_nil ?_
    refine TX_then ?_
    refine TC_seq ?_
    refine TC_reg ?_
    refine TL_q rfl rfl (QT_assign rfl rfl rfl) ?_
    refine TL_nil ?_
    refine TX_then ?_
    refine TC_cut (γ := Unit) (fun _ => [(3, true, .pointer (some ⟨b3, 0, none⟩)), (5, true, .pointer (some ⟨b5, 0, none⟩)), (7, true, .slice (some ⟨wb, 0, none⟩) W.length wcap), (8, true, .pointer (some ⟨wb, 0 + xi * 49, none⟩)), (9, true, .int .i64 (ptN L (y.headD 0) : Int)), (10, true, .int .i64 (clN L (y.headD 0) : Int))]) (fun _ => St w0 ((wb, 71, flatS W ++ rest) :: (b5, 74, [.int .u8 (z0 : Int), .int .u8 (z1 : Int)]) :: (b3, 27, L.cells) :: η)) ?_ ?_
    ·
      refine TC_seq ?_
      refine TC_reg ?_
      refine TL_q rfl rfl (QT_move rfl rfl rfl) ?_
      refine TL_q rfl rfl (QT_nilCheck rfl rfl rfl) ?_
      refine TL_q rfl rfl (QT_field rfl rfl YtlmbpdlobpcahaaDoorF.fld_71_0 rfl) ?_
      refine TL_q rfl rfl (QT_loadRj (v := .int .u8 (y.headD 0 : Int)) (xi * 49 + 0) rfl rfl Tryd.underlying5 rfl (Rd.own 0 rfl) rfl (fun _ => hv0)) ?_
      refine TL_q rfl rfl (QT_eql rfl rfl rfl rfl) ?_
      refine TL_nil ?_
      refine TX_then ?_
      first
        | refine TC_cond_dec rfl (fun h55 => ?_) (fun h55 => ?_)
        | refine TC_cond rfl (fun h55 => ?_) (fun h55 => ?_)
      ·
        refine TC_seq ?_
        refine TC_reg ?_
        refine TL_q rfl rfl (QT_move rfl rfl rfl) ?_
        refine TL_q rfl rfl (QT_add rfl rfl rfl rfl (fun _ => ⟨by omega, by omega⟩)) ?_
        refine TL_q rfl rfl (QT_assign rfl rfl rfl) ?_
        refine TL_nil ?_
        refine TX_then ?_
        refine TC_reg ?_
        refine TL_q rfl rfl (QT_assign rfl rfl rfl) ?_
        refine TL_nil ?_
        exact TX_cut () ⟨rfl, rfl, rfl, rfl, slotI rfl (by rw [← hp2]; rcases hty with h | h <;> simp only [h, h55, if_true, if_false] <;> simp), slotI rfl (by rw [← hc2]; rcases hty with h | h <;> simp only [h, h55, if_true, if_false] <;> simp), trivial⟩ (fun _ h => h)
      ·
        refine TC_skip ?_
        exact TX_cut () ⟨rfl, rfl, rfl, rfl, slotI rfl (by rw [← hp2]; rcases hty with h | h <;> simp only [h, h55, if_true, if_false] <;> simp), slotI rfl (by rw [← hc2]; rcases hty with h | h <;> simp only [h, h55, if_true, if_false] <;> simp), trivial⟩ (fun _ h => h)
    rintro ⟨⟩
    obtain ⟨ii, hii⟩ : ∃ ii, ii = z1 % 16 := ⟨_, rfl⟩
    obtain ⟨kk, hkk⟩ : ∃ kk, kk = z1 / 16 % 4 := ⟨_, rfl⟩
    have hi16 : ii < 16 := by omega
    have hk4 : kk < 4 := by omega
    obtain ⟨cc, hcc⟩ : ∃ cc, cc = ii % 4 := ⟨_, rfl⟩
    have hc4 : cc < 4 := by omega
    refine TC_seq ?_
    refine TC_reg ?_
    refine TL_q rfl rfl (QT_indexArr (1) rfl rfl Tryd.underlying74 YtlmbpdlobpcahaaDoorF.sz_5 rfl rfl (rfl) (fun _ => by decide)) ?_
    refine TL_q rfl rfl (QT_load (v := .int .u8 (z1 : Int)) 1 rfl rfl Tryd.underlying5 rfl rfl rfl (fun _ => rfl)) ?_
    refine TL_q rfl rfl (QT_convN rfl rfl Tryd.underlying5 Tryd.underlying3 rfl (IntWalk.i64_in _ ⟨by omega, by omega⟩)) ?_
    refine TL_q rfl rfl (QT_to (QT_rem rfl rfl rfl rfl (fun _ => ⟨by omega, by omega⟩)) (show (z1 : Int) % 16 = (ii : Int) by omega)) ?_
    refine TL_q rfl rfl (QT_assign rfl rfl rfl) ?_
    refine TL_nil ?_
    refine TX_then ?_
    refine TC_seq ?_
    refine TC_reg ?_
    refine TL_q rfl rfl (QT_indexArr (1) rfl rfl Tryd.underlying74 YtlmbpdlobpcahaaDoorF.sz_5 rfl rfl (rfl) (fun _ => by decide)) ?_
    refine TL_q rfl rfl (QT_load (v := .int .u8 (z1 : Int)) 1 rfl rfl Tryd.underlying5 rfl rfl rfl (fun _ => rfl)) ?_
    refine TL_q rfl rfl (QT_convN rfl rfl Tryd.underlying5 Tryd.underlying3 rfl (IntWalk.i64_in _ ⟨by omega, by omega⟩)) ?_
    refine TL_q rfl rfl (QT_quo rfl rfl rfl rfl (fun _ => ⟨by omega, by omega, by omega⟩)) ?_
    refine TL_q rfl rfl (QT_to (QT_rem rfl rfl rfl rfl (fun _ => ⟨by omega, by omega⟩)) (show (z1 : Int) / 16 % 4 = (kk : Int) by omega)) ?_
    refine TL_q rfl rfl (QT_assign rfl rfl rfl) ?_
    refine TL_nil ?_
    refine TX_then ?_
    refine TC_seq ?_
    refine TC_reg ?_
    refine TL_q rfl rfl (QT_assign rfl rfl rfl) ?_
    refine TL_nil ?_
    refine TX_then ?_
    refine TC_cut (γ := { t : Bool × List (List Nat) // (∀ y ∈ t.2, ShF y) ∧ t.2.length = W.length ∧ errP L t.2 = (if t.1 = true then 1 else 0) }) (fun u => [(3, true, .pointer (some ⟨b3, 0, none⟩)), (7, true, .slice (some ⟨wb, 0, none⟩) W.length wcap), (13, true, .bool u.1.1)]) (fun u => St w0 ((wb, 71, flatS u.1.2 ++ rest) :: (b5, 74, [.int .u8 (z0 : Int), .int .u8 (z1 : Int)]) :: (b3, 27, L.cells) :: η)) ?_ ?_
    ·
      refine TC_block ?_
      refine TC_seq ?_
      refine TC_reg ?_
      refine TL_q rfl rfl (QT_indexArr (1) rfl rfl Tryd.underlying74 YtlmbpdlobpcahaaDoorF.sz_5 rfl rfl (rfl) (fun _ => by decide)) ?_
      refine TL_q rfl rfl (QT_load (v := .int .u8 (z1 : Int)) 1 rfl rfl Tryd.underlying5 rfl rfl rfl (fun _ => rfl)) ?_
      refine TL_q rfl rfl (QT_geq rfl rfl rfl rfl) ?_
      refine TL_q rfl rfl (QT_assign rfl rfl rfl) ?_
      refine TL_nil ?_
      refine TX_then ?_
      first
        | refine TC_cond_dec rfl (fun h75 => ?_) (fun h75 => ?_)
        | refine TC_cond rfl (fun h75 => ?_) (fun h75 => ?_)
      ·
        refine TC_seq ?_
        refine TC_reg ?_
        refine TL_q rfl rfl (QT_move rfl rfl rfl) ?_
        refine TL_q rfl rfl (QT_field rfl rfl YtlmbpdlobpcahaaDoorF.fld_27_3 rfl) ?_
        refine TL_q rfl rfl (QT_load (v := .int .i64 (L.fl.toNat : Int)) 2 rfl rfl Tryd.underlying3 rfl rfl rfl (fun _ => lfl)) ?_
        refine TL_q rfl rfl (QT_to (QT_shl rfl rfl rfl rfl (fun _ => by omega)) (shl_u32 ⟨L.fl.toNat, by omega⟩)) ?_
        refine TL_q rfl rfl (QT_convN rfl rfl Tryd.underlying62 Tryd.underlying5 rfl (wrapN8 _)) ?_
        refine TL_q rfl rfl (QT_nilCheck rfl rfl rfl) ?_
        refine TL_q rfl rfl (QT_field rfl rfl YtlmbpdlobpcahaaDoorF.fld_71_0 rfl) ?_
        refine TL_e0 rfl rfl (rfl) (ET_store (vs := [.int .u8 ((2 ^ L.fl.toNat % 256 : Nat) : Int)]) 0 rfl rfl rfl rfl YtlmbpdlobpcahaaDoorF.sz_5 rfl rfl (by rw [show 0 + xi * 49 + 0 = xi * 49 + 0 by omega]; exact hble (by decide))) ?_
        rintro _ _ ⟨rfl, rfl⟩
        refine TL_nil ?_
        refine TX_then ?_
        refine TC_seq ?_
        refine TC_reg ?_
        refine TL_q rfl rfl (QT_field rfl rfl YtlmbpdlobpcahaaDoorF.fld_27_3 rfl) ?_
        refine TL_q rfl rfl (QT_load (v := .int .i64 (L.fl.toNat : Int)) 2 rfl rfl Tryd.underlying3 rfl rfl rfl (fun _ => lfl)) ?_
        refine TL_q rfl rfl (QT_lss rfl rfl rfl rfl) ?_
        refine TL_q rfl rfl (QT_assign rfl rfl rfl) ?_
        refine TL_nil ?_
        refine TX_then ?_
        refine TC_seq ?_
        refine TC_reg ?_
        refine TL_q rfl rfl (QT_move rfl rfl rfl) ?_
        refine TL_q rfl rfl (QT_not rfl rfl rfl) ?_
        refine TL_nil ?_
        refine TX_then ?_
        first
          | refine TC_cond_dec rfl (fun h90 => ?_) (fun h90 => ?_)
          | refine TC_cond rfl (fun h90 => ?_) (fun h90 => ?_)
        ·
          refine TC_seq ?_
          refine TC_reg ?_
          refine TL_cq rfl rfl rfl rfl YtlmbpdlobpcahaaDoorF.cal_9 rfl (fun _ => lives11 w0 _ hG) ?_
          refine TL_q rfl rfl (QT_assign rfl rfl rfl) ?_
          refine TL_nil ?_
          refine TX_then ?_
          refine TC_ret ?_
          refine TX_block_ret ?_
          refine TX_then_ret ?_
          exact TX_ret (.inl rfl) (res1 rfl rfl) ⟨_, ⟨rfl, rfl⟩, fun w h => by
            have h' : St w0 ((wb, 71, _) :: (b5, 74, _) :: (b3, 27, L.cells) :: η) w := h
            exact h'.tail.tail.tail⟩
        ·
          refine TC_skip ?_
          refine TX_block_normal ?_
          have hlt : L.fl.toNat < 8 := by
            simp only [Bool.not_eq_false', decide_eq_true_eq] at h90
            omega
          have hp8 : 2 ^ L.fl.toNat < 2 ^ 8 := Nat.pow_lt_pow_right (by decide) hlt
          have hm8 : 2 ^ L.fl.toNat % 256 = 2 ^ L.fl.toNat := Nat.mod_eq_of_lt hp8
          refine TX_cut ⟨(true, W.set xi (y.set 0 (2 ^ L.fl.toNat))), set_shf hWF (shf_flag hyF hp8), List.length_set .., room_flag hc hWF hyi (Nat.le_refl _)⟩ ⟨rfl, rfl, slotV rfl (congrArg Value.bool (by rw [decide_eq_true_eq]; omega)), trivial⟩ (fun w h => ?_)
          have h' : St w0 ((wb, 71, setAt (flatS W ++ rest) (0 + xi * 49 + 0) [.int .u8 ((2 ^ L.fl.toNat % 256 : Nat) : Int)]) :: (b5, 74, [.int .u8 (z0 : Int), .int .u8 (z1 : Int)]) :: (b3, 27, L.cells) :: η) w := h
          rw [hm8, show 0 + xi * 49 + 0 = xi * 49 + 0 by omega, show Value.int .u8 ((2 ^ L.fl.toNat : Nat) : Int) = .int (skK 0) ((2 ^ L.fl.toNat : Nat) : Int) from rfl, hset (by decide)] at h'
          exact h'
      ·
        refine TC_seq ?_
        refine TC_reg ?_
        refine TL_q rfl rfl (QT_indexArr (1) rfl rfl Tryd.underlying74 YtlmbpdlobpcahaaDoorF.sz_5 rfl rfl (rfl) (fun _ => by decide)) ?_
        refine TL_q rfl rfl (QT_load (v := .int .u8 (z1 : Int)) 1 rfl rfl Tryd.underlying5 rfl rfl rfl (fun _ => rfl)) ?_
        refine TL_q rfl rfl (QT_geq rfl rfl rfl rfl) ?_
        refine TL_q rfl rfl (QT_move rfl rfl rfl) ?_
        refine TL_q rfl rfl (QT_move rfl rfl rfl) ?_
        refine TL_q rfl rfl (QT_move rfl rfl rfl) ?_
        refine TL_q rfl rfl (QT_lss rfl rfl rfl rfl) ?_
        refine TL_q rfl rfl (QT_and rfl rfl rfl rfl) ?_
        refine TL_q rfl rfl (QT_assign rfl rfl rfl) ?_
        refine TL_nil ?_
        refine TX_then ?_
        first
          | refine TC_cond_dec rfl (fun h92 => ?_) (fun h92 => ?_)
          | refine TC_cond rfl (fun h92 => ?_) (fun h92 => ?_)
        ·
          obtain ⟨hpi, hq⟩ : ii < ptN L (y.headD 0) ∧ 128 ≤ z1 := by
            simp only [Bool.and_eq_true, decide_eq_true_eq] at h92
            omega
          have hw1 := wS_pt (L := L) (f := y.headD 0) hi16 (p := 2 * ii + 1) (.inr rfl)
          rw [show wPt L (y.headD 0) ii = L.co.toNat by unfold wPt; rw [if_pos hpi]] at hw1
          obtain ⟨a, ha⟩ : ∃ a, y[2 * ii + 1 + 1]? = some a := ⟨_, List.getElem?_eq_getElem (by rw [hyF.len]; omega)⟩
          have ha32 : a < 4294967296 := by
            obtain ⟨x0, X, rfl, _, hX⟩ := hyF
            exact hX.pt (p := 2 * ii + 1) (by rw [List.getElem?_cons_succ] at ha; exact ha) (by omega)
          have hva := hel (by omega) ha
          have hu1 : skK (2 * ii + 1 + 1) = .u32 := by unfold skK; rw [if_neg (by omega), if_pos (by omega)]
          rw [hu1] at hva
          have hm32 : 2 ^ L.co.toNat % 4294967296 < 4294967296 := Nat.mod_lt _ (by decide)
          obtain ⟨or1, or2⟩ := or_u32 ha32 hm32
          have hst := hset (p := 2 * ii + 1 + 1) (v := a ||| 2 ^ L.co.toNat % 4294967296) (by omega)
          rw [hu1] at hst
          refine TC_seq ?_
          refine TC_reg ?_
          refine TL_q rfl rfl (QT_field rfl rfl YtlmbpdlobpcahaaDoorF.fld_27_1 rfl) ?_
          refine TL_q rfl rfl (QT_load (v := .int .i64 (L.co.toNat : Int)) 2 rfl rfl Tryd.underlying3 rfl rfl rfl (fun _ => lco)) ?_
          refine TL_q rfl rfl (QT_lss rfl rfl rfl rfl) ?_
          refine TL_q rfl rfl (QT_assign rfl rfl rfl) ?_
          refine TL_nil ?_
          refine TX_then ?_
          refine TC_draw [(0, 0), (1, 0), (2, 0), (3, 0), (4, 0), (5, 0), (6, 0), (7, 0), (8, 0), (9, 0), (10, 0), (11, 0), (12, 0), (13, 0), (14, 0), (15, 0), (16, 0), (17, 0), (18, 1)] YtlmbpdlobpcahaaDoorF.mixed (by kernel_rfl) (St.calm _ _) ?_
          refine TV_q rfl rfl rfl (fun _ => QT_move rfl rfl rfl) ?_
          refine TV_q rfl rfl rfl (fun _ => QT_move rfl rfl rfl) ?_
          refine TV_q rfl rfl rfl (fun _ => QT_move rfl rfl rfl) ?_
          refine TV_q rfl rfl rfl (fun _ => QT_move rfl rfl rfl) ?_
          refine TV_q rfl rfl rfl (fun _ => QT_nilCheck rfl rfl rfl) ?_
          refine TV_q rfl rfl rfl (fun _ => QT_field rfl rfl YtlmbpdlobpcahaaDoorF.fld_71_1 rfl) ?_
          refine TV_q rfl rfl rfl (fun _ => QT_indexArr ii rfl rfl Tryd.underlying65 YtlmbpdlobpcahaaDoorF.sz_64 rfl rfl rfl (fun _ => hi16)) ?_
          refine TV_q rfl rfl rfl (fun _ => QT_field rfl rfl YtlmbpdlobpcahaaDoorF.fld_64_1 rfl) ?_
          refine TV_ql rfl rfl rfl (QT_loadRj (v := .int .u32 (a : Int)) (xi * 49 + (2 * ii + 1 + 1)) rfl rfl Tryd.underlying62 rfl (Rd.own 0 rfl) rfl (fun _ => hva)) ?_
          refine TV_q rfl rfl rfl (fun _ => QT_field rfl rfl YtlmbpdlobpcahaaDoorF.fld_27_1 rfl) ?_
          refine TV_ql rfl rfl rfl (QT_load (v := .int .i64 (L.co.toNat : Int)) 2 rfl rfl Tryd.underlying3 rfl rfl rfl (fun _ => lco)) ?_
          refine TV_q rfl rfl rfl (fun _ => QT_to (QT_shl rfl rfl rfl rfl (fun _ => by omega)) (two_u64 hco32)) ?_
          refine TV_q rfl rfl rfl (fun _ => QT_convN rfl rfl Tryd.underlying76 Tryd.underlying62 rfl (wrapN32 _)) ?_
          refine TV_q rfl rfl rfl (fun _ => QT_to (QT_bits rfl rfl (by decide) rfl rfl) or1) ?_
          refine TV_q rfl rfl rfl (fun _ => QT_nilCheck rfl rfl rfl) ?_
          refine TV_q rfl rfl rfl (fun _ => QT_field rfl rfl YtlmbpdlobpcahaaDoorF.fld_71_1 rfl) ?_
          refine TV_q rfl rfl rfl (fun _ => QT_indexArr ii rfl rfl Tryd.underlying65 YtlmbpdlobpcahaaDoorF.sz_64 rfl rfl rfl (fun _ => hi16)) ?_
          refine TV_q rfl rfl rfl (fun _ => QT_field rfl rfl YtlmbpdlobpcahaaDoorF.fld_64_1 rfl) ?_
          refine TV_e0 rfl rfl rfl (rfl) (ET_store (vs := [.int .u32 ((a ||| 2 ^ L.co.toNat % 4294967296 : Nat) : Int)]) 0 rfl rfl rfl rfl YtlmbpdlobpcahaaDoorF.sz_62 rfl rfl (by rw [show 0 + xi * 49 + 1 + ii * 2 + 1 = xi * 49 + (2 * ii + 1 + 1) by omega]; exact hble (by omega))) ?_
          rintro _ _ ⟨rfl, rfl⟩
          refine ⟨_, .drop (by kernel_rfl) (.drop (by kernel_rfl) (.nil)), ?_⟩
          refine TV_end ?_
          refine TX_block_normal ?_
          refine TX_cut ⟨(decide (L.co.toNat < 32), W.set xi (y.set (2 * ii + 1 + 1) (a ||| 2 ^ L.co.toNat % 4294967296))), set_shf hWF (shf_set hyF (by omega) (fun _ => or2) (fun h => by omega)), List.length_set .., ?_⟩ ⟨rfl, rfl, slotV rfl (congrArg Value.bool (by rw [Bool.eq_iff_iff]; simp; omega)), trivial⟩ (fun w h => ?_)
          · by_cases hlt : L.co.toNat < 32
            · rw [if_pos (by simpa using hlt)]
              have hp32 : 2 ^ L.co.toNat < 2 ^ 32 := Nat.pow_lt_pow_right (by decide) hlt
              rw [Nat.mod_eq_of_lt (show 2 ^ L.co.toNat < 4294967296 from hp32)]
              exact room_bad hc hWF hyi hw1 Nat.right_le_or
            · rw [if_neg (by simpa using hlt), show L.co.toNat = 32 by omega, show 2 ^ 32 % 4294967296 = 0 from rfl, Nat.or_zero, room_same hyi ha]
              exact p1
          · have h' : St w0 ((wb, 71, setAt (flatS W ++ rest) (0 + xi * 49 + 1 + ii * 2 + 1) [.int .u32 ((a ||| 2 ^ L.co.toNat % 4294967296 : Nat) : Int)]) :: (b5, 74, [.int .u8 (z0 : Int), .int .u8 (z1 : Int)]) :: (b3, 27, L.cells) :: η) w := h
            rw [show 0 + xi * 49 + 1 + ii * 2 + 1 = xi * 49 + (2 * ii + 1 + 1) by omega, hst] at h'
            exact h'
        ·
          refine TC_seq ?_
          refine TC_reg ?_
          refine TL_q rfl rfl (QT_indexArr (1) rfl rfl Tryd.underlying74 YtlmbpdlobpcahaaDoorF.sz_5 rfl rfl (rfl) (fun _ => by decide)) ?_
          refine TL_q rfl rfl (QT_load (v := .int .u8 (z1 : Int)) 1 rfl rfl Tryd.underlying5 rfl rfl rfl (fun _ => rfl)) ?_
          refine TL_q rfl rfl (QT_geq rfl rfl rfl rfl) ?_
          refine TL_q rfl rfl (QT_assign rfl rfl rfl) ?_
          refine TL_nil ?_
          refine TX_then ?_
          first
            | refine TC_cond_dec rfl (fun h122 => ?_) (fun h122 => ?_)
            | refine TC_cond rfl (fun h122 => ?_) (fun h122 => ?_)
          ·
            have hpi : ¬ ii < ptN L (y.headD 0) := by
              simp only [Bool.and_eq_false_iff, decide_eq_false_iff_not] at h92
              omega
            have hw1 := wS_pt (L := L) (f := y.headD 0) hi16 (p := 2 * ii) (.inl rfl)
            rw [show wPt L (y.headD 0) ii = 0 by unfold wPt; rw [if_neg hpi]] at hw1
            have hu1 : skK (2 * ii + 1) = .u32 := by unfold skK; rw [if_neg (by omega), if_pos (by omega)]
            have hst := hset (p := 2 * ii + 1) (v := 1) (by omega)
            rw [hu1] at hst
            refine TC_reg ?_
            refine TL_q rfl rfl (QT_move rfl rfl rfl) ?_
            refine TL_q rfl rfl (QT_move rfl rfl rfl) ?_
            refine TL_q rfl rfl (QT_nilCheck rfl rfl rfl) ?_
            refine TL_q rfl rfl (QT_field rfl rfl YtlmbpdlobpcahaaDoorF.fld_71_1 rfl) ?_
            refine TL_q rfl rfl (QT_indexArr ii rfl rfl Tryd.underlying65 YtlmbpdlobpcahaaDoorF.sz_64 rfl rfl rfl (fun _ => hi16)) ?_
            refine TL_q rfl rfl (QT_field rfl rfl YtlmbpdlobpcahaaDoorF.fld_64_0 rfl) ?_
            refine TL_e0 rfl rfl (rfl) (ET_store (vs := [.int .u32 1]) 0 rfl rfl rfl rfl YtlmbpdlobpcahaaDoorF.sz_62 rfl rfl (by rw [show 0 + xi * 49 + 1 + ii * 2 + 0 = xi * 49 + (2 * ii + 1) by omega]; exact hble (by omega))) ?_
            rintro _ _ ⟨rfl, rfl⟩
            refine TL_nil ?_
            refine TX_block_normal ?_
            refine TX_cut ⟨(true, W.set xi (y.set (2 * ii + 1) 1)), set_shf hWF (shf_set hyF (by omega) (fun _ => by decide) (fun h => by omega)), List.length_set .., room_bad hc hWF hyi hw1 (by decide)⟩ ⟨rfl, rfl, rfl, trivial⟩ (fun w h => ?_)
            have h' : St w0 ((wb, 71, setAt (flatS W ++ rest) (0 + xi * 49 + 1 + ii * 2 + 0) [.int .u32 1]) :: (b5, 74, [.int .u8 (z0 : Int), .int .u8 (z1 : Int)]) :: (b3, 27, L.cells) :: η) w := h
            rw [show 0 + xi * 49 + 1 + ii * 2 + 0 = xi * 49 + (2 * ii + 1) by omega] at h'
            rw [← hst]
            exact h'
          ·
            refine TC_seq ?_
            obtain ⟨a, ha⟩ : ∃ a, y[32 + 4 * cc + kk + 1]? = some a := ⟨_, List.getElem?_eq_getElem (by rw [hyF.len]; omega)⟩
            have ha16 : a < 65536 := by
              obtain ⟨x0, X, rfl, _, hX⟩ := hyF
              exact hX.cl (p := 32 + 4 * cc + kk) (by rw [List.getElem?_cons_succ] at ha; exact ha) (by omega)
            have hva := hel (by omega) ha
            have hu1 : skK (32 + 4 * cc + kk + 1) = .u16 := by unfold skK; rw [if_neg (by omega), if_neg (by omega)]
            rw [hu1] at hva
            have hw1 : (wS L (y.headD 0))[32 + 4 * cc + kk]? = some (wCl L (y.headD 0) (4 * cc + kk), 65536) := by rw [Nat.add_assoc]; exact wS_cl (by omega)
            have hwc : wCl L (y.headD 0) (4 * cc + kk) = if cc < clN L (y.headD 0) ∧ kk < L.cs.toNat then L.cm.toNat else 0 := by
              unfold wCl; rw [show (4 * cc + kk) / 4 = cc by omega, show (4 * cc + kk) % 4 = kk by omega]
            rw [hwc] at hw1
            refine TC_reg ?_
            refine TL_q rfl rfl (QT_move rfl rfl rfl) ?_
            refine TL_q rfl rfl (QT_to (QT_rem rfl rfl rfl rfl (fun _ => ⟨by omega, by omega⟩)) (show (ii : Int) % 4 = (cc : Int) by omega)) ?_
            refine TL_q rfl rfl (QT_move rfl rfl rfl) ?_
            refine TL_q rfl rfl (QT_lss rfl rfl rfl rfl) ?_
            refine TL_q rfl rfl (QT_move rfl rfl rfl) ?_
            refine TL_q rfl rfl (QT_move rfl rfl rfl) ?_
            refine TL_q rfl rfl (QT_field rfl rfl YtlmbpdlobpcahaaDoorF.fld_27_4 rfl) ?_
            refine TL_q rfl rfl (QT_load (v := .int .i64 (L.cs.toNat : Int)) 2 rfl rfl Tryd.underlying3 rfl rfl rfl (fun _ => lcs)) ?_
            refine TL_q rfl rfl (QT_lss rfl rfl rfl rfl) ?_
            refine TL_q rfl rfl (QT_and rfl rfl rfl rfl) ?_
            refine TL_q rfl rfl (QT_assign rfl rfl rfl) ?_
            refine TL_nil ?_
            refine TX_then ?_
            first
              | refine TC_cond_dec rfl (fun h132 => ?_) (fun h132 => ?_)
              | refine TC_cond rfl (fun h132 => ?_) (fun h132 => ?_)
            ·
              obtain ⟨hq1, hq2⟩ : cc < clN L (y.headD 0) ∧ kk < L.cs.toNat := by
                simp only [Bool.and_eq_true, decide_eq_true_eq] at h132
                omega
              rw [if_pos ⟨hq1, hq2⟩] at hw1
              have hm16 : 2 ^ L.cm.toNat % 65536 < 65536 := Nat.mod_lt _ (by decide)
              obtain ⟨or1, or2⟩ := or_u16 ha16 hm16
              have hst := hset (p := 32 + 4 * cc + kk + 1) (v := a ||| 2 ^ L.cm.toNat % 65536) (by omega)
              rw [hu1] at hst
              refine TC_seq ?_
              refine TC_reg ?_
              refine TL_q rfl rfl (QT_field rfl rfl YtlmbpdlobpcahaaDoorF.fld_27_2 rfl) ?_
              refine TL_q rfl rfl (QT_load (v := .int .i64 (L.cm.toNat : Int)) 2 rfl rfl Tryd.underlying3 rfl rfl rfl (fun _ => lcm)) ?_
              refine TL_q rfl rfl (QT_lss rfl rfl rfl rfl) ?_
              refine TL_q rfl rfl (QT_assign rfl rfl rfl) ?_
              refine TL_nil ?_
              refine TX_then ?_
              refine TC_draw [(0, 0), (1, 0), (2, 0), (3, 0), (4, 0), (5, 0), (6, 0), (7, 0), (8, 0), (9, 0), (10, 0), (11, 0), (12, 0), (13, 0), (14, 0), (15, 0), (16, 0), (17, 0), (18, 0), (19, 0), (20, 0), (21, 0), (22, 1)] YtlmbpdlobpcahaaDoorF.mixed (by kernel_rfl) (St.calm _ _) ?_
              refine TV_q rfl rfl rfl (fun _ => QT_move rfl rfl rfl) ?_
              refine TV_q rfl rfl rfl (fun _ => QT_move rfl rfl rfl) ?_
              refine TV_q rfl rfl rfl (fun _ => QT_to (QT_rem rfl rfl rfl rfl (fun _ => ⟨by omega, by omega⟩)) (show (ii : Int) % 4 = (cc : Int) by omega)) ?_
              refine TV_q rfl rfl rfl (fun _ => QT_move rfl rfl rfl) ?_
              refine TV_q rfl rfl rfl (fun _ => QT_move rfl rfl rfl) ?_
              refine TV_q rfl rfl rfl (fun _ => QT_move rfl rfl rfl) ?_
              refine TV_q rfl rfl rfl (fun _ => QT_to (QT_rem rfl rfl rfl rfl (fun _ => ⟨by omega, by omega⟩)) (show (ii : Int) % 4 = (cc : Int) by omega)) ?_
              refine TV_q rfl rfl rfl (fun _ => QT_move rfl rfl rfl) ?_
              refine TV_q rfl rfl rfl (fun _ => QT_nilCheck rfl rfl rfl) ?_
              refine TV_q rfl rfl rfl (fun _ => QT_field rfl rfl YtlmbpdlobpcahaaDoorF.fld_71_2 rfl) ?_
              refine TV_q rfl rfl rfl (fun _ => QT_indexArr cc rfl rfl Tryd.underlying69 YtlmbpdlobpcahaaDoorF.sz_68 rfl rfl rfl (fun _ => hc4)) ?_
              refine TV_q rfl rfl rfl (fun _ => QT_indexArr kk rfl rfl Tryd.underlying68 YtlmbpdlobpcahaaDoorF.sz_66 rfl rfl rfl (fun _ => hk4)) ?_
              refine TV_ql rfl rfl rfl (QT_loadRj (v := .int .u16 (a : Int)) (xi * 49 + (32 + 4 * cc + kk + 1)) rfl rfl Tryd.underlying66 rfl (Rd.own 0 rfl) rfl (fun _ => hva)) ?_
              refine TV_q rfl rfl rfl (fun _ => QT_field rfl rfl YtlmbpdlobpcahaaDoorF.fld_27_2 rfl) ?_
              refine TV_ql rfl rfl rfl (QT_load (v := .int .i64 (L.cm.toNat : Int)) 2 rfl rfl Tryd.underlying3 rfl rfl rfl (fun _ => lcm)) ?_
              refine TV_q rfl rfl rfl (fun _ => QT_to (QT_shl rfl rfl rfl rfl (fun _ => by omega)) (shl_u32 ⟨L.cm.toNat, by omega⟩)) ?_
              refine TV_q rfl rfl rfl (fun _ => QT_convN rfl rfl Tryd.underlying62 Tryd.underlying66 rfl (wrapN16 _)) ?_
              refine TV_q rfl rfl rfl (fun _ => QT_to (QT_bits rfl rfl (by decide) rfl rfl) or1) ?_
              refine TV_q rfl rfl rfl (fun _ => QT_nilCheck rfl rfl rfl) ?_
              refine TV_q rfl rfl rfl (fun _ => QT_field rfl rfl YtlmbpdlobpcahaaDoorF.fld_71_2 rfl) ?_
              refine TV_q rfl rfl rfl (fun _ => QT_indexArr cc rfl rfl Tryd.underlying69 YtlmbpdlobpcahaaDoorF.sz_68 rfl rfl rfl (fun _ => hc4)) ?_
              refine TV_q rfl rfl rfl (fun _ => QT_indexArr kk rfl rfl Tryd.underlying68 YtlmbpdlobpcahaaDoorF.sz_66 rfl rfl rfl (fun _ => hk4)) ?_
              refine TV_e0 rfl rfl rfl (rfl) (ET_store (vs := [.int .u16 ((a ||| 2 ^ L.cm.toNat % 65536 : Nat) : Int)]) 0 rfl rfl rfl rfl YtlmbpdlobpcahaaDoorF.sz_66 rfl rfl (by rw [show 0 + xi * 49 + 33 + cc * 4 + kk * 1 = xi * 49 + (32 + 4 * cc + kk + 1) by omega]; exact hble (by omega))) ?_
              rintro _ _ ⟨rfl, rfl⟩
              refine ⟨_, .drop (by kernel_rfl) (.drop (by kernel_rfl) (.nil)), ?_⟩
              refine TV_end ?_
              refine TX_block_normal ?_
              refine TX_cut ⟨(decide (L.cm.toNat < 16), W.set xi (y.set (32 + 4 * cc + kk + 1) (a ||| 2 ^ L.cm.toNat % 65536))), set_shf hWF (shf_set hyF (by omega) (fun h => by omega) (fun _ => or2)), List.length_set .., ?_⟩ ⟨rfl, rfl, slotV rfl (congrArg Value.bool (by rw [Bool.eq_iff_iff]; simp; omega)), trivial⟩ (fun w h => ?_)
              · by_cases hlt : L.cm.toNat < 16
                · rw [if_pos (by simpa using hlt)]
                  have hp16 : 2 ^ L.cm.toNat < 2 ^ 16 := Nat.pow_lt_pow_right (by decide) hlt
                  rw [Nat.mod_eq_of_lt (show 2 ^ L.cm.toNat < 65536 from hp16)]
                  exact room_bad hc hWF hyi hw1 Nat.right_le_or
                · rw [if_neg (by simpa using hlt), show L.cm.toNat = 16 by omega, show 2 ^ 16 % 65536 = 0 from rfl, Nat.or_zero, room_same hyi ha]
                  exact p1
              · have h' : St w0 ((wb, 71, setAt (flatS W ++ rest) (0 + xi * 49 + 33 + cc * 4 + kk * 1) [.int .u16 ((a ||| 2 ^ L.cm.toNat % 65536 : Nat) : Int)]) :: (b5, 74, [.int .u8 (z0 : Int), .int .u8 (z1 : Int)]) :: (b3, 27, L.cells) :: η) w := h
                rw [show 0 + xi * 49 + 33 + cc * 4 + kk * 1 = xi * 49 + (32 + 4 * cc + kk + 1) by omega, hst] at h'
                exact h'
            ·
              rw [if_neg (by simp only [Bool.and_eq_false_iff, decide_eq_false_iff_not] at h132; omega)] at hw1
              have hst := hset (p := 32 + 4 * cc + kk + 1) (v := 1) (by omega)
              rw [hu1] at hst
              refine TC_reg ?_
              refine TL_q rfl rfl (QT_move rfl rfl rfl) ?_
              refine TL_q rfl rfl (QT_move rfl rfl rfl) ?_
              refine TL_q rfl rfl (QT_to (QT_rem rfl rfl rfl rfl (fun _ => ⟨by omega, by omega⟩)) (show (ii : Int) % 4 = (cc : Int) by omega)) ?_
              refine TL_q rfl rfl (QT_move rfl rfl rfl) ?_
              refine TL_q rfl rfl (QT_nilCheck rfl rfl rfl) ?_
              refine TL_q rfl rfl (QT_field rfl rfl YtlmbpdlobpcahaaDoorF.fld_71_2 rfl) ?_
              refine TL_q rfl rfl (QT_indexArr cc rfl rfl Tryd.underlying69 YtlmbpdlobpcahaaDoorF.sz_68 rfl rfl rfl (fun _ => hc4)) ?_
              refine TL_q rfl rfl (QT_indexArr kk rfl rfl Tryd.underlying68 YtlmbpdlobpcahaaDoorF.sz_66 rfl rfl rfl (fun _ => hk4)) ?_
              refine TL_e0 rfl rfl (rfl) (ET_store (vs := [.int .u16 1]) 0 rfl rfl rfl rfl YtlmbpdlobpcahaaDoorF.sz_66 rfl rfl (by rw [show 0 + xi * 49 + 33 + cc * 4 + kk * 1 = xi * 49 + (32 + 4 * cc + kk + 1) by omega]; exact hble (by omega))) ?_
              rintro _ _ ⟨rfl, rfl⟩
              refine TL_nil ?_
              refine TX_block_normal ?_
              refine TX_cut ⟨(true, W.set xi (y.set (32 + 4 * cc + kk + 1) 1)), set_shf hWF (shf_set hyF (by omega) (fun h => by omega) (fun _ => by decide)), List.length_set .., room_bad hc hWF hyi hw1 (by decide)⟩ ⟨rfl, rfl, rfl, trivial⟩ (fun w h => ?_)
              have h' : St w0 ((wb, 71, setAt (flatS W ++ rest) (0 + xi * 49 + 33 + cc * 4 + kk * 1) [.int .u16 1]) :: (b5, 74, [.int .u8 (z0 : Int), .int .u8 (z1 : Int)]) :: (b3, 27, L.cells) :: η) w := h
              rw [show 0 + xi * 49 + 33 + cc * 4 + kk * 1 = xi * 49 + (32 + 4 * cc + kk + 1) by omega] at h'
              rw [← hst]
              exact h'
    rintro ⟨⟨more, W2⟩, hW2, hl2, he2⟩
    dsimp only at hW2 hl2 he2 ⊢
    have hf2 := flatS_len hW2
    refine TC_seq ?_
    refine TC_reg ?_
    refine TL_q rfl rfl (QT_loadW (cs := L.cells) 2 rfl rfl Tryd.underlying27 rfl rfl rfl YtlmbpdlobpcahaaDoorF.sz_27) ?_
    refine TL_q rfl rfl (QT_move rfl rfl rfl) ?_
    refine TL_e rfl rfl rfl (rfl) (ET_call rfl YtlmbpdlobpcahaaDoorF.cal_19 rfl (sput_spec w0 _ hG L _ W2 (by
     rw [← hl2] at hwcap ⊢
     exact SlA.own (n := W2.length) 0 rfl (by rw [List.drop_zero, ← hf2, List.take_left]) (by rw [List.length_append, hf2]; omega) hwcap) hW2 (by omega))) ?_
    rintro _ _ ⟨bv, H3, rfl, hF3, rfl⟩
    refine TL_q rfl rfl (QT_move rfl rfl rfl) ?_
    refine TL_q rfl rfl (QT_extract rfl rfl rfl rfl) ?_
    refine TL_q rfl rfl (QT_extract rfl rfl rfl rfl) ?_
    refine TL_q rfl rfl (QT_assign rfl rfl rfl) ?_
    refine TL_q rfl rfl (QT_assign rfl rfl rfl) ?_
    refine TL_nil ?_
    refine TX_then ?_
    refine TC_seq ?_
    refine TC_seq ?_
    rw [he2]
    refine TC_A (St w0 (H3 ++ η)) (fun w h => h.cnt fun p => by simp only [List.countP_append, List.countP_cons, List.countP_nil]; omega) ?_
    refine TC_reg ?_
    refine TL_q rfl rfl (QT_move rfl rfl rfl) ?_
    refine TL_q rfl rfl (QT_not rfl rfl rfl) ?_
    refine TL_nil ?_
    refine TX_then ?_
    first
      | refine TC_cond_dec rfl (fun h175 => ?_) (fun h175 => ?_)
      | refine TC_cond rfl (fun h175 => ?_) (fun h175 => ?_)
    ·
      obtain rfl : more = false := by simpa using h175
      refine TC_seq ?_
      refine TC_reg ?_
      refine TL_q rfl rfl (QT_move rfl rfl rfl) ?_
      refine TL_q rfl rfl (QT_eql rfl rfl rfl rfl) ?_
      refine TL_q rfl rfl (QT_move rfl rfl rfl) ?_
      refine TL_cq rfl rfl rfl rfl YtlmbpdlobpcahaaDoorF.cal_9 rfl (fun _ => lives11 w0 _ hG) ?_
      refine TL_q rfl rfl (QT_and rfl rfl rfl rfl) ?_
      refine TL_q rfl rfl (QT_assign rfl rfl rfl) ?_
      refine TL_nil ?_
      refine TX_then ?_
      refine TC_ret ?_
      refine TX_then_ret ?_
      exact TX_ret (.inl rfl) (res1 rfl rfl) ⟨_, ⟨congrArg Value.bool (show (_ : Bool) = true by rfl), rfl⟩, fun w h => h.app_right⟩
    ·
      obtain rfl : more = true := by simpa using h175
      rw [if_pos rfl] at he2
      rw [errP_bad (by rw [he2]; decide)] at hF3
      obtain ⟨bad, bcap, rfl, _, _⟩ := hF3.slice
      refine TC_skip ?_
      refine TX_then ?_
      refine TC_seq ?_
      refine TC_reg ?_
      refine TL_q rfl rfl (QT_move rfl rfl rfl) ?_
      refine TL_q rfl rfl (QT_eql rfl rfl rfl rfl) ?_
      refine TL_q rfl rfl (QT_move rfl rfl rfl) ?_
      refine TL_q rfl rfl (QT_move rfl rfl rfl) ?_
      refine TL_q rfl rfl (QT_len rfl rfl Tryd.underlying28 rfl) ?_
      refine TL_q rfl rfl (QT_eql rfl rfl rfl rfl) ?_
      refine TL_q rfl rfl (QT_and rfl rfl rfl rfl) ?_
      refine TL_q rfl rfl (QT_move rfl rfl rfl) ?_
      refine TL_cq rfl rfl rfl rfl YtlmbpdlobpcahaaDoorF.cal_9 rfl (fun _ => lives11 w0 _ hG) ?_
      refine TL_q rfl rfl (QT_and rfl rfl rfl rfl) ?_
      refine TL_q rfl rfl (QT_assign rfl rfl rfl) ?_
      refine TL_nil ?_
      refine TX_then ?_
      refine TC_ret ?_
      exact TX_ret (.inl rfl) (res1 rfl rfl) ⟨_, ⟨congrArg Value.bool (show (_ : Bool) = true by rfl), rfl⟩, fun w h => h.app_right⟩
end Go.Proofs.YtlmbpdlobpcahaaDoor

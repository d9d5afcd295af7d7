/- THE LAW: bytes that are got are put as bytes that are got as the same. -/
import Derived.Test.YtlmbpdlobpcahaaDoorS11n
namespace Go.Proofs.YtlmbpdlobpcahaaDoor
open Go Go.Gx Go.RowKit
set_option maxRecDepth 100000
theorem put_ok {L : Lay} {ys : List (List Nat)} (hc : okB L = true ∧ 6 ≤ L.ty) (hf : ys.all (fitS L) = true) (hl : (bytesS L ys).length ≤ 65536) : errP L ys = 0 ∧ outP L ys = bytesS L ys := by
  have e : errP L ys = 0 := by unfold errP; rw [if_pos hc, if_pos hf, if_neg (by omega)]
  exact ⟨e, by unfold outP; rw [if_pos e]⟩
theorem get_ok {L : Lay} {ys : List (List Nat)} (hc : okB L = true ∧ 6 ≤ L.ty) (hy : ∀ y ∈ ys, ShF y) (hf : ys.all (fitS L) = true) (hl : (bytesS L ys).length ≤ 65536) : errG L (bytesS L ys) = 0 ∧ outG L (bytesS L ys) = ys := by
  have h := getS_bytes hc.1 (ty67 hc) hy hf []
  rw [List.append_nil, getS_nil] at h
  exact errG_ok hc (by omega) (h.trans (by simp))
theorem xor_u8 {a b : Nat} (ha : a < 256) (hb : b < 256) : bitsOf .xor .u8 (a : Int) (b : Int) = ((a ^^^ b : Nat) : Int) := by
  have h : (a ^^^ b) < 2 ^ 8 := Nat.xor_lt_two_pow (show a < 2 ^ 8 from ha) (show b < 2 ^ 8 from hb)
  show IntKind.u8.wrap ((BitVec.ofInt 8 (a : Int) ^^^ BitVec.ofInt 8 (b : Int)).toNat : Int) = _
  rw [BitVec.toNat_xor, ofInt_u8 a ha, ofInt_u8 b hb]
  exact IntWalk.u8_in ((a ^^^ b : Nat) : Int) ⟨by omega, by omega⟩
/-- a record, byte by byte -/
theorem rec_rel {L : Lay} (hc : okB L = true ∧ 6 ≤ L.ty) {bs : List Nat} {ys : List (List Nat)} {y : List Nat} {i j : Nat} (hb : ∀ c ∈ bs, c < 256) (hg : getS L bs = some ys) (hy : ys[i]? = some y) (hj : j < szN L (y.headD 0)) :
    ∃ b r, r ≤ 7 ∧ (j + 1 < szN L (y.headD 0) → r = 0) ∧ b < 256 ∧ bs[(bytesS L (ys.take i)).length + j]? = some b ∧ (bytesS L ys)[(bytesS L (ys.take i)).length + j]? = some (b / 2 ^ r * 2 ^ r) := by
  have hty := ty67 hc
  obtain ⟨h1, h2⟩ := got_at hc.1 hty i hg hy
  have hsh := (got_facts hc.1 hty bs.length (Nat.le_refl _) hg).1
  have hyF := hsh y (List.mem_of_getElem? hy)
  have hpl := packS_len (L := L) hyF
  obtain ⟨at', hat⟩ : ∃ a, a = (bytesS L (ys.take i)).length := ⟨_, rfl⟩
  rw [← hat] at h1 h2 ⊢
  have hn : szN L (y.headD 0) = (tot (fS L (y.headD 0)) + 7) / 8 := rfl
  obtain ⟨ch, hch⟩ : ∃ ch, ch = (bs.drop at').take (szN L (y.headD 0)) := ⟨_, rfl⟩
  have hcl : ch.length = szN L (y.headD 0) := by rw [hch, List.length_take, List.length_drop]; omega
  have hcb : ∀ c ∈ ch, c < 256 := fun c hx => hb c (by rw [hch] at hx; exact List.mem_of_mem_drop (List.mem_of_mem_take hx))
  have hl : encS L y = (byB ch).take (tot (fS L (y.headD 0))) := by
    rw [h2, hch, byB_take, List.take_take, Nat.min_eq_left (by omega)]
  obtain ⟨b, hbj⟩ : ∃ b, ch[j]? = some b := ⟨_, List.getElem?_eq_getElem (by omega)⟩
  obtain ⟨c, hcj⟩ : ∃ c, (packS L y)[j]? = some c := ⟨_, List.getElem?_eq_getElem (by omega)⟩
  obtain ⟨r, hr1, hr2, hr3⟩ := byte_rel hcb (by rw [hcl]; omega) (by rw [hcl]; omega) hl hbj hcj
  have hb1 : bs[at' + j]? = some b := by
    rw [hch, List.getElem?_take, if_pos (by omega), List.getElem?_drop] at hbj
    exact hbj
  refine ⟨b, r, hr1, by rw [← hcl]; exact hr2, hcb b (List.mem_of_getElem? hbj), hb1, ?_⟩
  have hi : i < ys.length := (List.getElem?_eq_some_iff.1 hy).1
  have hsp : ys = ys.take i ++ (y :: ys.drop (i + 1)) := by
    rw [← (List.getElem?_eq_some_iff.1 hy).2, ← List.drop_eq_getElem_cons hi, List.take_append_drop]
  have e : bytesS L ys = bytesS L (ys.take i) ++ (packS L y ++ bytesS L (ys.drop (i + 1))) := by
    conv => lhs; rw [hsp]
    rw [bytesS_append]; simp [bytesS]
  rw [e, List.getElem?_append_right (by omega), List.getElem?_append_left (by omega), ← hat, show at' + j - at' = j by omega, hcj, hr3]
set_option maxHeartbeats 2000000 in
theorem law_sheetsAgain (w0 : World) (η : Heap) (hG : Sets w0) (L : Lay) (bv : Value) (bs : List Nat) (hs : SlA (St w0 η) bv 1 bs.length (byV bs)) (hb : ∀ c ∈ bs, c < 256) (hl : bs.length ≤ 140737488355328) :
    CallsT Tryd.prog 6 [L.val, bv] (St w0 η) fun v A' => v = .bool true ∧ A' = St w0 η := by
  have hs0 := hs
  obtain ⟨hxl, ad, cap, bb, bo, rfl, hcap, had, hrd⟩ := hs.some
  have hs : ∀ X : Heap, SlA (St w0 (X ++ η)) (.slice ad bs.length cap) 1 bs.length (byV bs) := fun X => hs0.mono fun _ h => h.app_right
  refine CallsT.body Tryd.func6 rfl rfl ?_
  simp only [Tryd.ntmps6, slotsOf, Nat.reduceAdd]
  refine TC_seq ?_
  refine TC_reg ?_
  refine TL_e rfl rfl rfl (rfl) (ET_box rfl rfl) ?_
  rintro _ _ ⟨b2, rfl, rfl⟩
  refine TL_q rfl rfl (QT_assign rfl rfl rfl) ?_
  refine TL_nil ?_
  refine TX_then ?_
  refine TC_seq ?_
  refine TC_seq ?_
  refine TC_reg ?_
  refine TL_q rfl rfl (QT_move rfl rfl rfl) ?_
  refine TL_q rfl rfl (QT_len rfl rfl Tryd.underlying28 rfl) ?_
  refine TL_q rfl rfl (QT_gtr rfl rfl rfl rfl) ?_
  refine TL_nil ?_
  refine TX_then ?_
  first
    | refine TC_cond_dec rfl (fun h20 => ?_) (fun h20 => ?_)
    | refine TC_cond rfl (fun h20 => ?_) (fun h20 => ?_)
  ·
    refine TC_seq ?_
    refine TC_reg ?_
    refine TL_cq rfl rfl rfl rfl YtlmbpdlobpcahaaDoorF.cal_9 rfl (fun _ => lives11 w0 _ hG) ?_
    refine TL_q rfl rfl (QT_assign rfl rfl rfl) ?_
    refine TL_nil ?_
    refine TX_then ?_
    refine TC_ret ?_
    refine TX_then_ret ?_
    exact TX_ret (.inl rfl) (res1 rfl rfl) ⟨_, ⟨rfl, rfl⟩, (fun _ h => by first | exact h | exact h.tail | exact h.tail.tail | exact h.tail.tail.tail | exact h.tail.tail.tail.tail | exact h.tail.tail.tail.tail.tail | exact h.tail.tail.tail.tail.tail.tail | exact h.tail.tail.tail.tail.tail.tail.tail | exact h.tail.tail.tail.tail.tail.tail.tail.tail | exact h.tail.tail.tail.tail.tail.tail.tail.tail.tail | exact h.tail.tail.tail.tail.tail.tail.tail.tail.tail.tail | exact h.tail.tail.tail.tail.tail.tail.tail.tail.tail.tail.tail | exact h.tail.tail.tail.tail.tail.tail.tail.tail.tail.tail.tail.tail | exact h.tail.tail.tail.tail.tail.tail.tail.tail.tail.tail.tail.tail.tail)⟩
  ·
    refine TC_skip ?_
    refine TX_then ?_
    refine TC_seq ?_
    have hn : bs.length ≤ 4000 := by omega
    refine TC_A (St w0 ((b2, 27, L.cells) :: η)) (fun _ h => h) ?_
    refine TC_reg ?_
    first
      | refine TL_q rfl rfl (QT_loadW 0 rfl rfl Tryd.underlying27 rfl rfl rfl YtlmbpdlobpcahaaDoorF.sz_27) ?_
      | refine TL_q rfl rfl (QT_loadW 1 rfl rfl Tryd.underlying27 rfl rfl rfl YtlmbpdlobpcahaaDoorF.sz_27) ?_
      | refine TL_q rfl rfl (QT_loadW 2 rfl rfl Tryd.underlying27 rfl rfl rfl YtlmbpdlobpcahaaDoorF.sz_27) ?_
      | refine TL_q rfl rfl (QT_loadA 0 rfl rfl Tryd.underlying27 rfl rfl rfl YtlmbpdlobpcahaaDoorF.sz_27 (fun _ => rfl)) ?_
      | refine TL_q rfl rfl (QT_loadA 1 rfl rfl Tryd.underlying27 rfl rfl rfl YtlmbpdlobpcahaaDoorF.sz_27 (fun _ => rfl)) ?_
      | refine TL_q rfl rfl (QT_loadA 2 rfl rfl Tryd.underlying27 rfl rfl rfl YtlmbpdlobpcahaaDoorF.sz_27 (fun _ => rfl)) ?_
    refine TL_q rfl rfl (QT_move rfl rfl rfl) ?_
    refine TL_e rfl rfl rfl (rfl) (ET_call rfl YtlmbpdlobpcahaaDoorF.cal_11 rfl (sget_spec w0 _ hG L _ bs (hs [_]) hb (by omega))) ?_
    rintro _ _ ⟨sv, H1, rfl, hF1, rfl⟩
    refine TL_q rfl rfl (QT_move rfl rfl rfl) ?_
    refine TL_q rfl rfl (QT_extract rfl rfl rfl rfl) ?_
    refine TL_q rfl rfl (QT_extract rfl rfl rfl rfl) ?_
    refine TL_q rfl rfl (QT_assign rfl rfl rfl) ?_
    refine TL_q rfl rfl (QT_assign rfl rfl rfl) ?_
    refine TL_nil ?_
    refine TX_then ?_
    refine TC_seq ?_
    refine TC_seq ?_
    refine TC_reg ?_
    refine TL_q rfl rfl (QT_move rfl rfl rfl) ?_
    refine TL_q rfl rfl (QT_neq rfl rfl rfl rfl) ?_
    refine TL_nil ?_
    refine TX_then ?_
    first
      | refine TC_cond_dec rfl (fun h29 => ?_) (fun h29 => ?_)
      | refine TC_cond rfl (fun h29 => ?_) (fun h29 => ?_)
    ·
      have ho : outG L bs = [] := outG_bad h29
      rw [ho] at hF1
      obtain ⟨sad, scap, rfl, _, _⟩ := hF1.slice
      refine TC_seq ?_
      refine TC_reg ?_
      refine TL_q rfl rfl (QT_move rfl rfl rfl) ?_
      refine TL_q rfl rfl (QT_len rfl rfl Tryd.underlying31 rfl) ?_
      refine TL_q rfl rfl (QT_eql rfl rfl rfl rfl) ?_
      refine TL_q rfl rfl (QT_move rfl rfl rfl) ?_
      refine TL_cq rfl rfl rfl rfl YtlmbpdlobpcahaaDoorF.cal_9 rfl (fun _ => lives11 w0 _ hG) ?_
      refine TL_q rfl rfl (QT_and rfl rfl rfl rfl) ?_
      refine TL_q rfl rfl (QT_assign rfl rfl rfl) ?_
      refine TL_nil ?_
      refine TX_then ?_
      refine TC_ret ?_
      refine TX_then_ret ?_
      exact TX_ret (.inl rfl) (res1 rfl rfl) ⟨_, ⟨congrArg Value.bool (show (_ : Bool) = true by rfl), rfl⟩, fun w h => h.app_right.tail⟩
    ·
      refine TC_skip ?_
      refine TX_then ?_
      refine TC_seq ?_
      have e0 := Classical.not_not.1 h29
      obtain ⟨hc, _, hg⟩ := errG_zero e0
      have hty := ty67 hc
      have hol := outG_len L bs
      generalize outG L bs = ys at hF1 hg hol
      obtain ⟨hsh, hfit, hlen⟩ := got_facts hc.1 hty bs.length (Nat.le_refl _) hg
      have hgm := bytesS_ge hc.1 hty hsh
      obtain ⟨p1, p2⟩ := put_ok hc hfit (by omega)
      obtain ⟨g1, g2⟩ := get_ok hc hsh hfit (by omega)
      have hbl := bytesS_lt L ys
      refine TC_A (St w0 ((b2, 27, L.cells) :: (H1 ++ η))) (fun w h => h.cnt fun p => by simp only [List.countP_append, List.countP_cons, List.countP_nil]; omega) ?_
      refine TC_reg ?_
      first
        | refine TL_q rfl rfl (QT_loadW 0 rfl rfl Tryd.underlying27 rfl rfl rfl YtlmbpdlobpcahaaDoorF.sz_27) ?_
        | refine TL_q rfl rfl (QT_loadW 1 rfl rfl Tryd.underlying27 rfl rfl rfl YtlmbpdlobpcahaaDoorF.sz_27) ?_
        | refine TL_q rfl rfl (QT_loadW 2 rfl rfl Tryd.underlying27 rfl rfl rfl YtlmbpdlobpcahaaDoorF.sz_27) ?_
        | refine TL_q rfl rfl (QT_loadA 0 rfl rfl Tryd.underlying27 rfl rfl rfl YtlmbpdlobpcahaaDoorF.sz_27 (fun _ => rfl)) ?_
        | refine TL_q rfl rfl (QT_loadA 1 rfl rfl Tryd.underlying27 rfl rfl rfl YtlmbpdlobpcahaaDoorF.sz_27 (fun _ => rfl)) ?_
        | refine TL_q rfl rfl (QT_loadA 2 rfl rfl Tryd.underlying27 rfl rfl rfl YtlmbpdlobpcahaaDoorF.sz_27 (fun _ => rfl)) ?_
      refine TL_q rfl rfl (QT_move rfl rfl rfl) ?_
      refine TL_e rfl rfl rfl (rfl) (ET_call rfl YtlmbpdlobpcahaaDoorF.cal_19 rfl (sput_spec w0 _ hG L _ ys (hF1.within fun p => by simp only [List.countP_append, List.countP_cons]; omega) hsh (by omega))) ?_
      rintro _ _ ⟨cv, H2, rfl, hF2, rfl⟩
      refine TL_q rfl rfl (QT_move rfl rfl rfl) ?_
      refine TL_q rfl rfl (QT_extract rfl rfl rfl rfl) ?_
      refine TL_q rfl rfl (QT_extract rfl rfl rfl rfl) ?_
      refine TL_q rfl rfl (QT_assign rfl rfl rfl) ?_
      refine TL_q rfl rfl (QT_assign rfl rfl rfl) ?_
      refine TL_nil ?_
      refine TX_then ?_
      refine TC_seq ?_
      rw [p2] at hF2
      simp only [p1, e0]
      refine TC_A (St w0 ((b2, 27, L.cells) :: (H1 ++ (H2 ++ η)))) (fun w h => h.cnt fun p => by simp only [List.countP_append, List.countP_cons, List.countP_nil]; omega) ?_
      refine TC_reg ?_
      first
        | refine TL_q rfl rfl (QT_loadW 0 rfl rfl Tryd.underlying27 rfl rfl rfl YtlmbpdlobpcahaaDoorF.sz_27) ?_
        | refine TL_q rfl rfl (QT_loadW 1 rfl rfl Tryd.underlying27 rfl rfl rfl YtlmbpdlobpcahaaDoorF.sz_27) ?_
        | refine TL_q rfl rfl (QT_loadW 2 rfl rfl Tryd.underlying27 rfl rfl rfl YtlmbpdlobpcahaaDoorF.sz_27) ?_
        | refine TL_q rfl rfl (QT_loadA 0 rfl rfl Tryd.underlying27 rfl rfl rfl YtlmbpdlobpcahaaDoorF.sz_27 (fun _ => rfl)) ?_
        | refine TL_q rfl rfl (QT_loadA 1 rfl rfl Tryd.underlying27 rfl rfl rfl YtlmbpdlobpcahaaDoorF.sz_27 (fun _ => rfl)) ?_
        | refine TL_q rfl rfl (QT_loadA 2 rfl rfl Tryd.underlying27 rfl rfl rfl YtlmbpdlobpcahaaDoorF.sz_27 (fun _ => rfl)) ?_
      refine TL_q rfl rfl (QT_move rfl rfl rfl) ?_
      refine TL_e rfl rfl rfl (rfl) (ET_call rfl YtlmbpdlobpcahaaDoorF.cal_11 rfl (sget_spec w0 _ hG L _ (bytesS L ys) (hF2.within fun p => by simp only [List.countP_append, List.countP_cons]; omega) hbl (by omega))) ?_
      rintro _ _ ⟨nv, H3, rfl, hF3, rfl⟩
      refine TL_q rfl rfl (QT_move rfl rfl rfl) ?_
      refine TL_q rfl rfl (QT_extract rfl rfl rfl rfl) ?_
      refine TL_q rfl rfl (QT_extract rfl rfl rfl rfl) ?_
      refine TL_q rfl rfl (QT_assign rfl rfl rfl) ?_
      refine TL_q rfl rfl (QT_assign rfl rfl rfl) ?_
      refine TL_nil ?_
      refine TX_then ?_
      refine TC_seq ?_
      rw [g2] at hF3
      simp only [g1]
      refine TC_A (St w0 ((b2, 27, L.cells) :: (H1 ++ (H2 ++ (H3 ++ η))))) (fun w h => h.cnt fun p => by simp only [List.countP_append, List.countP_cons, List.countP_nil]; omega) ?_
      refine TC_reg ?_
      first
        | refine TL_q rfl rfl (QT_loadW 0 rfl rfl Tryd.underlying27 rfl rfl rfl YtlmbpdlobpcahaaDoorF.sz_27) ?_
        | refine TL_q rfl rfl (QT_loadW 1 rfl rfl Tryd.underlying27 rfl rfl rfl YtlmbpdlobpcahaaDoorF.sz_27) ?_
        | refine TL_q rfl rfl (QT_loadW 2 rfl rfl Tryd.underlying27 rfl rfl rfl YtlmbpdlobpcahaaDoorF.sz_27) ?_
        | refine TL_q rfl rfl (QT_loadA 0 rfl rfl Tryd.underlying27 rfl rfl rfl YtlmbpdlobpcahaaDoorF.sz_27 (fun _ => rfl)) ?_
        | refine TL_q rfl rfl (QT_loadA 1 rfl rfl Tryd.underlying27 rfl rfl rfl YtlmbpdlobpcahaaDoorF.sz_27 (fun _ => rfl)) ?_
        | refine TL_q rfl rfl (QT_loadA 2 rfl rfl Tryd.underlying27 rfl rfl rfl YtlmbpdlobpcahaaDoorF.sz_27 (fun _ => rfl)) ?_
      refine TL_q rfl rfl (QT_move rfl rfl rfl) ?_
      refine TL_e rfl rfl rfl (rfl) (ET_call rfl YtlmbpdlobpcahaaDoorF.cal_19 rfl (sput_spec w0 _ hG L _ ys (hF3.within fun p => by simp only [List.countP_append, List.countP_cons]; omega) hsh (by omega))) ?_
      rintro _ _ ⟨dv, H4, rfl, hF4, rfl⟩
      refine TL_q rfl rfl (QT_move rfl rfl rfl) ?_
      refine TL_q rfl rfl (QT_extract rfl rfl rfl rfl) ?_
      refine TL_q rfl rfl (QT_extract rfl rfl rfl rfl) ?_
      refine TL_q rfl rfl (QT_assign rfl rfl rfl) ?_
      refine TL_q rfl rfl (QT_assign rfl rfl rfl) ?_
      refine TL_nil ?_
      refine TX_then ?_
      refine TC_seq ?_
      refine TC_seq ?_
      rw [p2] at hF4
      simp only [p1]
      obtain ⟨cad, ccap, rfl, _, _⟩ := hF2.slice
      obtain ⟨sad, scap, rfl, _, _⟩ := hF1.slice
      refine TC_A (St w0 ((b2, 27, L.cells) :: (H1 ++ (H2 ++ (H3 ++ (H4 ++ η)))))) (fun w h => h.cnt fun p => by simp only [List.countP_append, List.countP_cons, List.countP_nil]; omega) ?_
      refine TC_reg ?_
      refine TL_q rfl rfl (QT_move rfl rfl rfl) ?_
      refine TL_q rfl rfl (QT_neq rfl rfl rfl rfl) ?_
      refine TL_q rfl rfl (QT_move rfl rfl rfl) ?_
      refine TL_q rfl rfl (QT_move rfl rfl rfl) ?_
      refine TL_q rfl rfl (QT_neq rfl rfl rfl rfl) ?_
      refine TL_q rfl rfl (QT_or rfl rfl rfl rfl) ?_
      refine TL_q rfl rfl (QT_move rfl rfl rfl) ?_
      refine TL_q rfl rfl (QT_move rfl rfl rfl) ?_
      refine TL_q rfl rfl (QT_neq rfl rfl rfl rfl) ?_
      refine TL_q rfl rfl (QT_or rfl rfl rfl rfl) ?_
      refine TL_q rfl rfl (QT_move rfl rfl rfl) ?_
      refine TL_q rfl rfl (QT_move rfl rfl rfl) ?_
      refine TL_q rfl rfl (QT_len rfl rfl Tryd.underlying28 rfl) ?_
      refine TL_q rfl rfl (QT_move rfl rfl rfl) ?_
      refine TL_q rfl rfl (QT_len rfl rfl Tryd.underlying28 rfl) ?_
      refine TL_q rfl rfl (QT_neq rfl rfl rfl rfl) ?_
      refine TL_q rfl rfl (QT_or rfl rfl rfl rfl) ?_
      refine TL_q rfl rfl (QT_move rfl rfl rfl) ?_
      refine TL_q rfl rfl (QT_move rfl rfl rfl) ?_
      refine TL_q rfl rfl (QT_move rfl rfl rfl) ?_
      refine TL_cq rfl rfl rfl rfl YtlmbpdlobpcahaaDoorF.cal_15 rfl (fun _ => sameOk_Sheets w0 _ _ _ ys.length (flatS ys) (hF1.within fun p => by simp only [List.countP_append, List.countP_cons]; omega) (hF3.within fun p => by simp only [List.countP_append, List.countP_cons]; omega) (flatS_ints hsh)) ?_
      refine TL_q rfl rfl (QT_not rfl rfl rfl) ?_
      refine TL_q rfl rfl (QT_or rfl rfl rfl rfl) ?_
      refine TL_q rfl rfl (QT_move rfl rfl rfl) ?_
      refine TL_q rfl rfl (QT_move rfl rfl rfl) ?_
      refine TL_q rfl rfl (QT_move rfl rfl rfl) ?_
      refine TL_cq rfl rfl rfl rfl YtlmbpdlobpcahaaDoorF.cal_21 rfl (fun _ => sameOk_Bytes w0 _ _ _ (bytesS L ys).length (byV (bytesS L ys)) (hF2.within fun p => by simp only [List.countP_append, List.countP_cons]; omega) (hF4.within fun p => by simp only [List.countP_append, List.countP_cons]; omega) (byV_ints hbl)) ?_
      refine TL_q rfl rfl (QT_not rfl rfl rfl) ?_
      refine TL_q rfl rfl (QT_or rfl rfl rfl rfl) ?_
      refine TL_nil ?_
      refine TX_then ?_
      refine TC_cond rfl (fun h => absurd (h.symm.trans ((show (_ : Bool) = false by simp [hlen]))) (by decide)) (fun _ => ?_)
      refine TC_skip ?_
      refine TX_then ?_
      refine TC_seq ?_
      refine TC_A (St w0 ((b2, 27, L.cells) :: (H1 ++ (H2 ++ η)))) (fun w h => h.cnt fun p => by simp only [List.countP_append, List.countP_cons, List.countP_nil]; omega) ?_
      obtain ⟨_, sad2, scap2, sb, so, hse, _, hsad, hsrd⟩ := (hF1.sla (w0 := w0) (η := [])).some
      obtain ⟨rfl, _, rfl⟩ := Value.slice.inj hse
      obtain ⟨_, cad2, ccap2, cb, co, hce, _, hcad, hcrd⟩ := (hF2.sla (w0 := w0) (η := [])).some
      obtain ⟨rfl, _, rfl⟩ := Value.slice.inj hce
      have hSr : Rd (St w0 ((b2, 27, L.cells) :: (H1 ++ (H2 ++ η)))) sb so (flatS ys) := hsrd.mono (fun w h => h.cnt fun p => by simp only [List.countP_append, List.countP_cons, List.countP_nil]; omega)
      have hCr : Rd (St w0 ((b2, 27, L.cells) :: (H1 ++ (H2 ++ η)))) cb co (byV (bytesS L ys)) := hcrd.mono (fun w h => h.cnt fun p => by simp only [List.countP_append, List.countP_cons, List.countP_nil]; omega)
      have hBr : Rd (St w0 ((b2, 27, L.cells) :: (H1 ++ (H2 ++ η)))) bb bo (byV bs) := hrd.mono fun w h => h.tail.app_right.app_right
      clear hsrd hcrd hF3 hF4 hrd
      refine TC_reg ?_
      refine TL_q rfl rfl (QT_assign rfl rfl rfl) ?_
      refine TL_nil ?_
      refine TX_then ?_
      refine TC_seq ?_
      refine TC_seq ?_
      refine TC_reg ?_
      refine TL_q rfl rfl (QT_assign rfl rfl rfl) ?_
      refine TL_nil ?_
      refine TX_then ?_
      refine TC_block ?_
      refine TC_loop (γ := { i : Nat // i ≤ ys.length }) (fun u => [(1, true, .slice ad bs.length cap), (2, true, .pointer (some ⟨b2, 0, none⟩)), (5, true, .slice sad ys.length scap), (7, true, .slice cad (bytesS L ys).length ccap), (13, true, .int .i64 ((bytesS L (ys.take u.1)).length : Int)), (14, true, .int .i64 (u.1 : Int))]) (fun _ => St w0 ((b2, 27, L.cells) :: (H1 ++ (H2 ++ η)))) (fun u => ys.length - u.1) ⟨0, Nat.zero_le _⟩ ⟨rfl, rfl, rfl, rfl, rfl, rfl, trivial⟩ (fun _ h => h) ?_
      rintro ⟨i, hi⟩
      dsimp only
      refine TC_seq ?_
      refine TC_seq ?_
      refine TC_reg ?_
      refine TL_q rfl rfl (QT_move rfl rfl rfl) ?_
      refine TL_q rfl rfl (QT_move rfl rfl rfl) ?_
      refine TL_q rfl rfl (QT_len rfl rfl Tryd.underlying31 rfl) ?_
      refine TL_q rfl rfl (QT_lss rfl rfl rfl rfl) ?_
      refine TL_nil ?_
      refine TX_then ?_
      first
        | refine TC_cond_dec rfl (fun h86 => ?_) (fun h86 => ?_)
        | refine TC_cond rfl (fun h86 => ?_) (fun h86 => ?_)
      ·
        have hi' : i < ys.length := by omega
        obtain ⟨y, hyi⟩ : ∃ y, ys[i]? = some y := ⟨_, List.getElem?_eq_getElem hi'⟩
        have hyF := hsh y (List.mem_of_getElem? hyi)
        obtain ⟨h1, h2⟩ := got_at hc.1 hty i hg hyi
        have hrel := fun {j : Nat} (hj : j < szN L (y.headD 0)) => rec_rel hc hb hg hyi hj
        have hk1 := szN_pos hc.1 hty (y.headD 0)
        have hszL := fun A => size_spec w0 A hG L (y.headD 0 : Int) (Int.natCast_nonneg _)
        rw [size_eq hc.1 hty] at hszL
        have hv0 : (flatS ys)[i * 49 + 0]? = some (.int .u8 (y.headD 0 : Int)) := by
          rw [flatS_elem hsh hyi (by decide)]
          exact shV_at (xs := y) (p := 0) (by decide) (by obtain ⟨x0, X, rfl, _, _⟩ := hyF; rfl)
        have hnext : (bytesS L (ys.take (i + 1))).length = (bytesS L (ys.take i)).length + szN L (y.headD 0) := by
          rw [show ys.take (i + 1) = ys.take i ++ [y] by rw [List.take_add_one, hyi]; rfl, bytesS_append, List.length_append]
          have : bytesS L [y] = packS L y := by simp [bytesS]
          rw [this, packS_len hyF]
        generalize szN L (y.headD 0) = m at h1 hrel hk1 hszL hnext
        generalize (bytesS L (ys.take i)).length = at1 at h1 hrel hnext
        clear h2
        refine TC_skip ?_
        refine TX_then ?_
        refine TC_seq ?_
        refine TC_block ?_
        refine TC_seq ?_
        refine TC_draw [(0, 0), (1, 0), (2, 0), (3, 0), (4, 0), (5, 0), (6, 1), (7, 0)] YtlmbpdlobpcahaaDoorF.mixed (by kernel_rfl) (St.calm _ _) ?_
        refine TV_ql rfl rfl rfl (QT_loadW (cs := L.cells) 0 rfl rfl Tryd.underlying27 rfl rfl rfl YtlmbpdlobpcahaaDoorF.sz_27) ?_
        refine TV_q rfl rfl rfl (fun _ => QT_move rfl rfl rfl) ?_
        refine TV_q rfl rfl rfl (fun _ => QT_move rfl rfl rfl) ?_
        refine TV_q rfl rfl rfl (fun _ => QT_indexG i rfl rfl Tryd.underlying31 YtlmbpdlobpcahaaDoorF.sz_71 rfl rfl rfl (fun _ => hi') (fun _ => hsad (by omega))) ?_
        refine TV_q rfl rfl rfl (fun _ => QT_field rfl rfl YtlmbpdlobpcahaaDoorF.fld_71_0 rfl) ?_
        refine TV_ql rfl rfl rfl (QT_loadRj (v := .int .u8 (y.headD 0 : Int)) (i * 49 + 0) rfl rfl Tryd.underlying5 rfl hSr rfl (fun _ => hv0)) ?_
        refine TV_cq rfl rfl rfl rfl rfl YtlmbpdlobpcahaaDoorF.cal_25 rfl (fun _ => hszL _) (.drop (by kernel_rfl) (.drop (by kernel_rfl) (.nil))) ?_
        refine TV_q rfl rfl rfl (fun _ => QT_assign rfl rfl rfl) ?_
        refine TV_end ?_
        refine TX_then ?_
        refine TC_seq ?_
        refine TC_seq ?_
        refine TC_reg ?_
        refine TL_q rfl rfl (QT_move rfl rfl rfl) ?_
        refine TL_q rfl rfl (QT_lss rfl rfl rfl rfl) ?_
        refine TL_q rfl rfl (QT_move rfl rfl rfl) ?_
        refine TL_q rfl rfl (QT_move rfl rfl rfl) ?_
        refine TL_q rfl rfl (QT_move rfl rfl rfl) ?_
        refine TL_q rfl rfl (QT_add rfl rfl rfl rfl (fun _ => ⟨by omega, by omega⟩)) ?_
        refine TL_q rfl rfl (QT_move rfl rfl rfl) ?_
        refine TL_q rfl rfl (QT_len rfl rfl Tryd.underlying28 rfl) ?_
        refine TL_q rfl rfl (QT_gtr rfl rfl rfl rfl) ?_
        refine TL_q rfl rfl (QT_or rfl rfl rfl rfl) ?_
        refine TL_nil ?_
        refine TX_then ?_
        refine TC_cond rfl (fun h => absurd (h.symm.trans ((show (_ : Bool) = false by simp only [Bool.or_eq_false_iff, decide_eq_false_iff_not]; omega))) (by decide)) (fun _ => ?_)
        refine TC_skip ?_
        refine TX_then ?_
        refine TC_seq ?_
        refine TC_seq ?_
        refine TC_reg ?_
        refine TL_q rfl rfl (QT_move rfl rfl rfl) ?_
        refine TL_q rfl rfl (QT_assign rfl rfl rfl) ?_
        refine TL_nil ?_
        refine TX_then ?_
        refine TC_block ?_
        refine TC_loop (γ := { k : Nat // at1 ≤ k ∧ k ≤ at1 + m }) (fun u => [(1, true, .slice ad bs.length cap), (2, true, .pointer (some ⟨b2, 0, none⟩)), (5, true, .slice sad ys.length scap), (7, true, .slice cad (bytesS L ys).length ccap), (13, true, .int .i64 (at1 : Int)), (14, true, .int .i64 (i : Int)), (15, true, .int .i64 (m : Int)), (16, true, .int .i64 (u.1 : Int))]) (fun _ => St w0 ((b2, 27, L.cells) :: (H1 ++ (H2 ++ η)))) (fun u => at1 + m - u.1) ⟨at1, by omega⟩ ⟨rfl, rfl, rfl, rfl, rfl, rfl, rfl, rfl, trivial⟩ (fun _ h => h) ?_
        rintro ⟨k, hka, hkb⟩
        dsimp only
        refine TC_seq ?_
        refine TC_seq ?_
        refine TC_reg ?_
        refine TL_q rfl rfl (QT_move rfl rfl rfl) ?_
        refine TL_q rfl rfl (QT_move rfl rfl rfl) ?_
        refine TL_q rfl rfl (QT_move rfl rfl rfl) ?_
        refine TL_q rfl rfl (QT_add rfl rfl rfl rfl (fun _ => ⟨by omega, by omega⟩)) ?_
        refine TL_q rfl rfl (QT_lss rfl rfl rfl rfl) ?_
        refine TL_nil ?_
        refine TX_then ?_
        first
          | refine TC_cond_dec rfl (fun h111 => ?_) (fun h111 => ?_)
          | refine TC_cond rfl (fun h111 => ?_) (fun h111 => ?_)
        ·
          have hkm : k < at1 + m := by omega
          obtain ⟨b, r, hr7, hr0, hb256, hbk, hck⟩ := hrel (show k - at1 < m by omega)
          rw [show at1 + (k - at1) = k by omega] at hbk hck
          obtain ⟨o1, o2, o3⟩ := byte_off ⟨b, hb256⟩ ⟨r, by omega⟩
          dsimp only at o1 o2 o3
          have hc256 := hbl _ (List.mem_of_getElem? hck)
          generalize b / 2 ^ r * 2 ^ r = c at hck o1 o2 o3 hc256
          have hx256 : b ^^^ c < 256 := Nat.xor_lt_two_pow (n := 8) hb256 hc256
          refine TC_skip ?_
          refine TX_then ?_
          refine TC_seq ?_
          refine TC_block ?_
          refine TC_seq ?_
          refine TC_draw [(0, 0), (1, 0), (2, 0), (3, 0), (4, 0), (5, 0), (6, 0), (7, 0), (8, 0), (9, 0)] YtlmbpdlobpcahaaDoorF.mixed (by kernel_rfl) (St.calm _ _) ?_
          refine TV_q rfl rfl rfl (fun _ => QT_move rfl rfl rfl) ?_
          refine TV_q rfl rfl rfl (fun _ => QT_move rfl rfl rfl) ?_
          refine TV_q rfl rfl rfl (fun _ => QT_indexG k rfl rfl Tryd.underlying28 YtlmbpdlobpcahaaDoorF.sz_5 rfl rfl rfl (fun _ => by omega) (fun _ => had (by omega))) ?_
          refine TV_ql rfl rfl rfl (QT_loadRj (v := .int .u8 (b : Int)) k rfl rfl Tryd.underlying5 rfl hBr rfl (fun _ => byV_at hbk)) ?_
          refine TV_q rfl rfl rfl (fun _ => QT_move rfl rfl rfl) ?_
          refine TV_q rfl rfl rfl (fun _ => QT_move rfl rfl rfl) ?_
          refine TV_q rfl rfl rfl (fun _ => QT_indexG k rfl rfl Tryd.underlying28 YtlmbpdlobpcahaaDoorF.sz_5 rfl rfl rfl (fun _ => by omega) (fun _ => hcad (by omega))) ?_
          refine TV_ql rfl rfl rfl (QT_loadRj (v := .int .u8 (c : Int)) k rfl rfl Tryd.underlying5 rfl hCr rfl (fun _ => byV_at hck)) ?_
          refine TV_q rfl rfl rfl (fun _ => QT_to (QT_bits rfl rfl (by decide) rfl rfl) (xor_u8 hb256 hc256)) ?_
          refine TV_q rfl rfl rfl (fun _ => QT_assign rfl rfl rfl) ?_
          refine TV_end ?_
          refine TX_then ?_
          refine TC_seq ?_
          refine TC_reg ?_
          refine TL_q rfl rfl (QT_move rfl rfl rfl) ?_
          refine TL_q rfl rfl (QT_neq rfl rfl rfl rfl) ?_
          refine TL_q rfl rfl (QT_move rfl rfl rfl) ?_
          refine TL_q rfl rfl (QT_move rfl rfl rfl) ?_
          refine TL_q rfl rfl (QT_move rfl rfl rfl) ?_
          refine TL_q rfl rfl (QT_move rfl rfl rfl) ?_
          refine TL_q rfl rfl (QT_add rfl rfl rfl rfl (fun _ => ⟨by omega, by omega⟩)) ?_
          refine TL_q rfl rfl (QT_sub rfl rfl rfl rfl (fun _ => ⟨by omega, by omega⟩)) ?_
          refine TL_q rfl rfl (QT_lss rfl rfl rfl rfl) ?_
          refine TL_q rfl rfl (QT_move rfl rfl rfl) ?_
          refine TL_q rfl rfl (QT_move rfl rfl rfl) ?_
          refine TL_q rfl rfl (QT_to (QT_bits rfl rfl (by decide) rfl rfl) (and_u8 (b := 128) hx256 (by decide))) ?_
          refine TL_q rfl rfl (QT_neq rfl rfl rfl rfl) ?_
          refine TL_q rfl rfl (QT_or rfl rfl rfl rfl) ?_
          refine TL_q rfl rfl (QT_move rfl rfl rfl) ?_
          refine TL_q rfl rfl (QT_move rfl rfl rfl) ?_
          refine TL_q rfl rfl (QT_move rfl rfl rfl) ?_
          refine TL_q rfl rfl (QT_indexG k rfl rfl Tryd.underlying28 YtlmbpdlobpcahaaDoorF.sz_5 rfl rfl rfl (fun _ => by omega) (fun _ => hcad (by omega))) ?_
          refine TL_q rfl rfl (QT_loadRj (v := .int .u8 (c : Int)) k rfl rfl Tryd.underlying5 rfl hCr rfl (fun _ => byV_at hck)) ?_
          refine TL_q rfl rfl (QT_move rfl rfl rfl) ?_
          refine TL_q rfl rfl (QT_to (QT_bits rfl rfl (by decide) rfl rfl) (and_u8 hc256 hx256)) ?_
          refine TL_q rfl rfl (QT_neq rfl rfl rfl rfl) ?_
          refine TL_q rfl rfl (QT_or rfl rfl rfl rfl) ?_
          refine TL_q rfl rfl (QT_and rfl rfl rfl rfl) ?_
          refine TL_nil ?_
          refine TX_then ?_
          refine TC_cond rfl (fun h => absurd (h.symm.trans ((show (_ : Bool) = false by
           rw [o1, o2]
           by_cases hz : r = 0
           · rw [o3 hz]; simp
           · have hlast : ¬ ((k : Int) < (at1 : Int) + (m : Int) - 1) := by
               intro hlt
               exact hz (hr0 (by omega))
             simp [hlast]))) (by decide)) (fun _ => ?_)
          refine TC_skip ?_
          refine TX_block_normal ?_
          refine TX_then ?_
          refine TC_reg ?_
          refine TL_q rfl rfl (QT_move rfl rfl rfl) ?_
          refine TL_q rfl rfl (QT_add rfl rfl rfl rfl (fun _ => ⟨by omega, by omega⟩)) ?_
          refine TL_q rfl rfl (QT_assign rfl rfl rfl) ?_
          refine TL_nil ?_
          exact TX_round ⟨k + 1, by omega, by omega⟩ (by show at1 + m - (k + 1) < at1 + m - k; omega) ⟨rfl, rfl, rfl, rfl, rfl, rfl, rfl, rfl, trivial⟩ (fun _ h => h)
        ·
          refine TC_exit ?_
          refine TX_then_exit ?_
          refine TX_then_exit ?_
          refine TX_block_here ?_
          refine TX_then ?_
          refine TC_reg ?_
          refine TL_q rfl rfl (QT_move rfl rfl rfl) ?_
          refine TL_q rfl rfl (QT_move rfl rfl rfl) ?_
          refine TL_q rfl rfl (QT_add rfl rfl rfl rfl (fun _ => ⟨by omega, by omega⟩)) ?_
          refine TL_q rfl rfl (QT_assign rfl rfl rfl) ?_
          refine TL_nil ?_
          refine TX_block_normal ?_
          refine TX_then ?_
          refine TC_reg ?_
          refine TL_q rfl rfl (QT_move rfl rfl rfl) ?_
          refine TL_q rfl rfl (QT_add rfl rfl rfl rfl (fun _ => ⟨by omega, by omega⟩)) ?_
          refine TL_q rfl rfl (QT_assign rfl rfl rfl) ?_
          refine TL_nil ?_
          exact TX_round ⟨i + 1, hi'⟩ (by show ys.length - (i + 1) < ys.length - i; omega) ⟨rfl, rfl, rfl, rfl, slotI rfl (by show (at1 : Int) + (m : Int) = ((bytesS L (ys.take (i + 1))).length : Int); omega), rfl, trivial⟩ (fun _ h => h)
      ·
        refine TC_exit ?_
        refine TX_then_exit ?_
        refine TX_then_exit ?_
        refine TX_block_here ?_
        refine TX_then ?_
        refine TC_seq ?_
        obtain rfl : i = ys.length := by omega
        rw [List.take_of_length_le (Nat.le_refl _)]
        refine TC_reg ?_
        refine TL_q rfl rfl (QT_move rfl rfl rfl) ?_
        refine TL_q rfl rfl (QT_move rfl rfl rfl) ?_
        refine TL_q rfl rfl (QT_len rfl rfl Tryd.underlying28 rfl) ?_
        refine TL_q rfl rfl (QT_eql rfl rfl rfl rfl) ?_
        refine TL_q rfl rfl (QT_move rfl rfl rfl) ?_
        refine TL_cq rfl rfl rfl rfl YtlmbpdlobpcahaaDoorF.cal_9 rfl (fun _ => lives11 w0 _ hG) ?_
        refine TL_q rfl rfl (QT_and rfl rfl rfl rfl) ?_
        refine TL_q rfl rfl (QT_assign rfl rfl rfl) ?_
        refine TL_nil ?_
        refine TX_then ?_
        refine TC_ret ?_
        exact TX_ret (.inl rfl) (res1 rfl rfl) ⟨_, ⟨by simp [hlen], rfl⟩, fun w h => h.tail.app_right.app_right⟩
end Go.Proofs.YtlmbpdlobpcahaaDoor

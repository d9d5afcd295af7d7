/- BYTES OF SHEETS: by definition, and the walk. -/
import Derived.Test.YtlmbpdlobpcahaaDoorS11f
namespace Go.Proofs.YtlmbpdlobpcahaaDoor
open Go Go.Gx Go.RowKit
set_option maxRecDepth 100000
def fitS (L : Lay) (y : List Nat) : Bool := fitB (fS L (y.headD 0)) y
def encS (L : Lay) (y : List Nat) : List Bool := enc (fS L (y.headD 0)) y
def packS (L : Lay) (y : List Nat) : List Nat := packB (encS L y)
def bytesS (L : Lay) (ys : List (List Nat)) : List Nat := ys.flatMap (packS L)
def errP (L : Lay) (ys : List (List Nat)) : Int := if okB L = true ∧ 6 ≤ L.ty then (if ys.all (fitS L) = true then (if 65536 < (bytesS L ys).length then 3 else 0) else 1) else 4
def outP (L : Lay) (ys : List (List Nat)) : List Nat := if errP L ys = 0 then bytesS L ys else []
theorem bytesS_append (L : Lay) (a b : List (List Nat)) : bytesS L (a ++ b) = bytesS L a ++ bytesS L b := by simp [bytesS]
theorem bytesS_lt (L : Lay) (ys : List (List Nat)) : ∀ c ∈ bytesS L ys, c < 256 := by
  intro c hc
  obtain ⟨y, _, h⟩ := List.mem_flatMap.1 hc
  exact packB_lt _ c h
theorem ShF.parts {y : List Nat} (h : ShF y) : y.headD 0 < 256 ∧ Sh y.tail ∧ y = y.headD 0 :: y.tail := by
  obtain ⟨x0, X, rfl, h0, hX⟩ := h
  exact ⟨h0, hX, rfl⟩
theorem encS_len {L : Lay} {y : List Nat} (h : ShF y) : (encS L y).length = tot (fS L (y.headD 0)) := by
  refine enc_len ?_
  rw [fS, List.length_cons, wS_len, h.len]
theorem packS_len {L : Lay} {y : List Nat} (h : ShF y) : (packS L y).length = szN L (y.headD 0) := by
  rw [packS, packB_len, encS_len h]; rfl
theorem bytesS_bd {L : Lay} (hk : okB L = true) (hty : L.ty = 6 ∨ L.ty = 7) : ∀ {ys : List (List Nat)}, (∀ y ∈ ys, ShF y) → (bytesS L ys).length ≤ 196 * ys.length
  | [], _ => by simp [bytesS]
  | y :: ys, h => by
    have h1 := packS_len (L := L) (h y (List.mem_cons_self ..))
    have h2 := (szN_pos hk hty (y.headD 0)).2
    have h3 := bytesS_bd hk hty (ys := ys) fun z hz => h z (List.mem_cons_of_mem _ hz)
    have e : bytesS L (y :: ys) = packS L y ++ bytesS L ys := by simp [bytesS]
    rw [e, List.length_append, List.length_cons]
    omega
theorem errP_bad {L : Lay} {ys : List (List Nat)} (h : errP L ys ≠ 0) : outP L ys = [] := by unfold outP; rw [if_neg h]
theorem fragNoneB {L : Lay} {ys : List (List Nat)} {e : Int} (h : errP L ys = e) (h0 : e ≠ 0) : Frag 5 1 (.slice none 0 0) (outP L ys).length (byV (outP L ys)) [] := by
  rw [errP_bad (by rw [h]; exact h0)]
  exact Frag.nil _ _
theorem flatS_len : ∀ {ys : List (List Nat)}, (∀ y ∈ ys, ShF y) → (flatS ys).length = ys.length * 49
  | [], _ => rfl
  | y :: ys, h => by
    have h1 := shV_len (h y (List.mem_cons_self ..)).len
    have h2 := flatS_len (ys := ys) fun z hz => h z (List.mem_cons_of_mem _ hz)
    have e : flatS (y :: ys) = shV y ++ flatS ys := by simp [flatS]
    rw [e, List.length_append, h1, h2, List.length_cons]; omega
theorem flatS_at : ∀ {ys : List (List Nat)}, (∀ y ∈ ys, ShF y) → ∀ {i : Nat} {y : List Nat}, ys[i]? = some y → i * 49 + 49 ≤ (flatS ys).length ∧ ((flatS ys).drop (i * 49)).take 49 = shV y
  | [], _, i, y, hi => by simp at hi
  | z :: ys, h, 0, y, hi => by
    obtain rfl : z = y := by simpa using hi
    have h1 := shV_len (h z (List.mem_cons_self ..)).len
    have e : flatS (z :: ys) = shV z ++ flatS ys := by simp [flatS]
    rw [e, List.length_append, h1, Nat.zero_mul, List.drop_zero, List.take_append_of_le_length (by omega), List.take_of_length_le (by omega)]
    exact ⟨by omega, rfl⟩
  | z :: ys, h, i + 1, y, hi => by
    have h1 := shV_len (h z (List.mem_cons_self ..)).len
    have e : flatS (z :: ys) = shV z ++ flatS ys := by simp [flatS]
    obtain ⟨h2, h3⟩ := flatS_at (ys := ys) (fun w hw => h w (List.mem_cons_of_mem _ hw)) (i := i) (y := y) (by simpa using hi)
    rw [e, List.length_append, h1]
    refine ⟨by omega, ?_⟩
    rw [List.drop_append, List.drop_eq_nil_of_le (by omega), h1, List.nil_append, show (i + 1) * 49 - 49 = i * 49 by omega, h3]
theorem newRowS (w0 : World) (η : Heap) :
    CallsT Tryd.prog 78 [] (St w0 η) fun v A' => ∃ rb K, v = .pointer (some ⟨rb, 0, none⟩) ∧ RowAt rb [] K ∧ A' = St w0 (K ++ η) :=
  (new_spec w0 η).mono fun v A' ⟨rb, hv, hA⟩ => ⟨St w0 ([(rb, 206, rowC (.slice none 0 0) 0 1)] ++ η), ⟨rb, [(rb, 206, rowC (.slice none 0 0) 0 1)], hv, ⟨[], _, 0, [], Frag.nil _ _, Packed.nil, by decide, rfl⟩, rfl⟩, fun w h => by rw [hA] at h; exact h⟩
theorem byBInj : ∀ {a b : List Nat}, byB a = byB b → (∀ c ∈ a, c < 256) → (∀ c ∈ b, c < 256) → a = b
  | [], [], _, _, _ => rfl
  | [], c :: b, h, _, _ => by have := congrArg List.length h; rw [byB_len, byB_len] at this; simp at this
  | c :: a, [], h, _, _ => by have := congrArg List.length h; rw [byB_len, byB_len] at this; simp at this
  | c :: a, d :: b, h, ha, hb => by
    have h1 : bitsN 8 c ++ byB a = bitsN 8 d ++ byB b := by simpa [byB] using h
    obtain ⟨h2, h3⟩ := List.append_inj h1 (by rw [bitsN_len, bitsN_len])
    have h4 := congrArg num h2
    rw [num_bitsN, num_bitsN, Nat.mod_eq_of_lt (ha c (List.mem_cons_self ..)), Nat.mod_eq_of_lt (hb d (List.mem_cons_self ..))] at h4
    rw [h4, byBInj h3 (fun x hx => ha x (List.mem_cons_of_mem _ hx)) (fun x hx => hb x (List.mem_cons_of_mem _ hx))]
theorem RowAt.bytesX {w0 : World} {rb : Nat} {l : List Bool} {K : Heap} (X η : Heap) (hK : RowAt rb l K) (hl : l.length ≤ 600000) :
    CallsT Tryd.prog 79 [.pointer (some ⟨rb, 0, none⟩)] (St w0 (X ++ (K ++ η))) fun v A' => ∃ H2, Frag 5 1 v (packB l).length (byV (packB l)) H2 ∧ A' = St w0 (H2 ++ (X ++ (K ++ η))) := by
  have h := RowAt.bytes (w0 := w0) (X ++ η) hK hl
  refine fun w hA => (h.mono ?_) w (hA.cnt fun p => by simp only [List.countP_append]; omega)
  rintro v A' ⟨bs, H2, hF, ⟨hb1, hb2⟩, rfl⟩
  obtain rfl : bs = packB l := byBInj (by rw [hb1, byB_packB]) hb2 (packB_lt l)
  exact ⟨_, ⟨H2, hF, rfl⟩, fun w h => h.cnt fun p => by simp only [List.countP_append]; omega⟩
set_option maxHeartbeats 1000000 in
theorem sput_spec (w0 : World) (η : Heap) (hG : Sets w0) (L : Lay) (sv : Value) (ys : List (List Nat)) (hs : SlA (St w0 η) sv 49 ys.length (flatS ys)) (hy : ∀ y ∈ ys, ShF y) (hn : ys.length ≤ 100000000) :
    CallsT Tryd.prog 19 [L.val, sv] (St w0 η) fun v A' => ∃ bv H, v = .tuple #[bv, .int .i64 (errP L ys)] ∧ Frag 5 1 bv (outP L ys).length (byV (outP L ys)) H ∧ A' = St w0 (H ++ η) := by
  obtain ⟨hfl, ad, cap, sb, so, rfl, hcap, had, hrd⟩ := hs.some
  refine CallsT.body Tryd.func19 rfl rfl ?_
  simp only [Tryd.ntmps19, slotsOf, Nat.reduceAdd]
  refine TC_seq ?_
  refine TC_reg ?_
  refine TL_e rfl rfl rfl (rfl) (ET_box rfl rfl) ?_
  rintro _ _ ⟨b2, rfl, rfl⟩
  refine TL_q rfl rfl (QT_assign rfl rfl rfl) ?_
  refine TL_q rfl rfl (QT_assign rfl rfl rfl) ?_
  refine TL_nil ?_
  refine TX_then ?_
  refine TC_seq ?_
  refine TC_seq ?_
  refine TC_reg ?_
  first
    | refine TL_q rfl rfl (QT_loadW 0 rfl rfl Tryd.underlying27 rfl rfl rfl YtlmbpdlobpcahaaDoorF.sz_27) ?_
    | refine TL_q rfl rfl (QT_loadW 1 rfl rfl Tryd.underlying27 rfl rfl rfl YtlmbpdlobpcahaaDoorF.sz_27) ?_
    | refine TL_q rfl rfl (QT_loadW 2 rfl rfl Tryd.underlying27 rfl rfl rfl YtlmbpdlobpcahaaDoorF.sz_27) ?_
    | refine TL_q rfl rfl (QT_loadA 0 rfl rfl Tryd.underlying27 rfl rfl rfl YtlmbpdlobpcahaaDoorF.sz_27 (fun _ => rfl)) ?_
    | refine TL_q rfl rfl (QT_loadA 1 rfl rfl Tryd.underlying27 rfl rfl rfl YtlmbpdlobpcahaaDoorF.sz_27 (fun _ => rfl)) ?_
    | refine TL_q rfl rfl (QT_loadA 2 rfl rfl Tryd.underlying27 rfl rfl rfl YtlmbpdlobpcahaaDoorF.sz_27 (fun _ => rfl)) ?_
  refine TL_cq rfl rfl rfl rfl YtlmbpdlobpcahaaDoorF.cal_28 rfl (fun _ => scheck_spec w0 _ hG L) ?_
  refine TL_q rfl rfl (QT_assign rfl rfl rfl) ?_
  refine TL_nil ?_
  refine TX_then ?_
  refine TC_seq ?_
  refine TC_reg ?_
  refine TL_q rfl rfl (QT_move rfl rfl rfl) ?_
  refine TL_q rfl rfl (QT_neq rfl rfl rfl rfl) ?_
  refine TL_nil ?_
  refine TX_then ?_
  first
    | refine TC_cond_dec rfl (fun h14 => ?_) (fun h14 => ?_)
    | refine TC_cond rfl (fun h14 => ?_) (fun h14 => ?_)
  ·
    refine TC_seq ?_
    refine TC_reg ?_
    refine TL_q rfl rfl (QT_move rfl rfl rfl) ?_
    refine TL_q rfl rfl (QT_assign rfl rfl rfl) ?_
    refine TL_q rfl rfl (QT_assign rfl rfl rfl) ?_
    refine TL_nil ?_
    refine TX_then ?_
    refine TC_ret ?_
    refine TX_then_ret ?_
    have e4 := (errC_bad h14).1
    have eP : errP L ys = 4 := by
      unfold errP; rw [if_neg]
      intro hc
      exact h14 (by unfold errC; rw [if_pos hc])
    exact TX_ret (.inl rfl) (res2 rfl rfl rfl) ⟨_, ⟨_, [], by rw [eP, e4], fragNoneB eP (by decide), rfl⟩, fun _ h => h.tail⟩
  ·
    refine TC_skip ?_
    refine TX_then ?_
    refine TC_seq ?_
    have hc := errC_ok (Classical.not_not.1 h14)
    have hty := ty67 hc
    refine TC_reg ?_
    refine TL_q rfl rfl (QT_assign rfl rfl rfl) ?_
    refine TL_nil ?_
    refine TX_then ?_
    refine TC_seq ?_
    refine TC_seq ?_
    refine TC_reg ?_
    refine TL_q rfl rfl (QT_move rfl rfl rfl) ?_
    refine TL_q rfl rfl (QT_len rfl rfl Tryd.underlying31 rfl) ?_
    refine TL_q rfl rfl (QT_move rfl rfl rfl) ?_
    refine TL_nil ?_
    refine TX_then ?_
    refine TC_block ?_
    refine TC_loop (γ := { t : Nat × Value × Heap // t.1 ≤ ys.length ∧ Frag 5 1 t.2.1 (bytesS L (ys.take t.1)).length (byV (bytesS L (ys.take t.1))) t.2.2 ∧ (ys.take t.1).all (fitS L) = true }) (fun u => [(2, true, .pointer (some ⟨b2, 0, none⟩)), (7, true, u.1.2.1), (16, true, .slice ad ys.length cap), (17, true, .int .i64 (ys.length : Int)), (18, true, .int .i64 (u.1.1 : Int))]) (fun u => St w0 ((b2, 27, L.cells) :: (u.1.2.2 ++ η))) (fun u => ys.length - u.1.1) ⟨(0, .slice none 0 0, []), Nat.zero_le _, Frag.nil _ _, rfl⟩ ⟨rfl, rfl, rfl, rfl, rfl, trivial⟩ (fun _ h => h) ?_
    rintro ⟨⟨i, bv, H⟩, hin, hF, hfit⟩
    dsimp only at hin hF hfit ⊢
    refine TC_seq ?_
    refine TC_reg ?_
    refine TL_q rfl rfl (QT_lss rfl rfl rfl rfl) ?_
    refine TL_nil ?_
    refine TX_then ?_
    refine TC_seq ?_
    first
      | refine TC_cond_dec rfl (fun h19 => ?_) (fun h19 => ?_)
      | refine TC_cond rfl (fun h19 => ?_) (fun h19 => ?_)
    ·
      have hi' : i < ys.length := by omega
      obtain ⟨y, hyi⟩ : ∃ y, ys[i]? = some y := ⟨_, List.getElem?_eq_getElem hi'⟩
      have hyF := hy y (List.mem_of_getElem? hyi)
      obtain ⟨hat1, hat2⟩ := flatS_at hy hyi
      obtain ⟨y0, Y, hyeq, h0, hY⟩ := id hyF
      have htk : ys.take (i + 1) = ys.take i ++ [y] := by rw [List.take_add_one, hyi]; rfl
      have hyl : (shV y).length = 49 := shV_len hyF.len
      have hyz : Sz Tryd.prog 71 (shV y).length := by rw [hyl]; exact YtlmbpdlobpcahaaDoorF.sz_71
      have hyi2 := shV_ints hyF
      have hb196 := bytesS_bd hc.1 hty (ys := ys.take i) fun z hz => hy z (List.mem_of_mem_take hz)
      have htl : (ys.take i).length = i := by rw [List.length_take]; omega
      rw [htl] at hb196
      have hsz2 := (szN_pos hc.1 hty y0).2
      have hpl : (packS L y).length ≤ 196 := by rw [packS_len hyF, hyeq]; exact hsz2
      have hthr := thr_L hc.1 hty h0 hY
      have hel : (encS L y).length ≤ 1568 := by rw [encS_len hyF]; exact (fS_tot hc.1 hty _).2.1
      have hfy : fitS L y = fitB (fS L y0) (y0 :: Y) := by rw [hyeq]; rfl
      have hey : encS L y = enc (fS L y0) (y0 :: Y) := by rw [hyeq]; rfl
      rw [← hfy, ← hey] at hthr
      have hspec := fun b9 b24 rb K0 (hK : RowAt rb [] K0) => through_spec (layer_ok w0 b24 rb) ((b2, 27, L.cells) :: (H ++ η)) ((b24, 151, [.pointer (some ⟨rb, 0, none⟩), .int .i64 0]) :: K0) L hc.1 hty ([], 0) b9 y0 Y h0 hY trivial ⟨K0, hK, rfl⟩ (by decide)
      rw [← hyeq] at hspec hthr
      obtain ⟨G, hGd⟩ : ∃ G, G = thr goL L y0 Y ([], 0) := ⟨_, rfl⟩
      rw [← hGd] at hthr hspec
      obtain ⟨zs, l, e⟩ := G
      obtain ⟨hz, hthr⟩ := hthr
      dsimp only at hz
      subst hz
      clear hGd hyeq
      refine TC_skip ?_
      refine TX_then ?_
      refine TC_seq ?_
      refine TC_block ?_
      refine TC_seq ?_
      refine TC_reg ?_
      refine TL_q rfl rfl (QT_indexG i rfl rfl Tryd.underlying31 YtlmbpdlobpcahaaDoorF.sz_71 rfl rfl rfl (fun _ => hi') (fun _ => had (by omega))) ?_
      refine TL_q rfl rfl (QT_loadRAj (out := shV zs) (i * 49) rfl rfl Tryd.underlying71 rfl YtlmbpdlobpcahaaDoorF.sz_71 (hrd.mono fun _ h => h.tail.app_right) rfl (fun _ => hat1) (fun _ => hat2)) ?_
      refine TL_e rfl rfl rfl (rfl) (ET_alloc rfl YtlmbpdlobpcahaaDoorF.zero_71) ?_
      rintro _ _ ⟨b9, rfl, rfl⟩
      refine TL_e0 rfl rfl (rfl) (ET_storeW (vs := shV zs) 0 rfl rfl rfl hyz rfl (List.all_eq_true.2 hyi2.oneCell) (by rw [hyl]; rfl)) ?_
      rintro _ _ ⟨rfl, rfl⟩
      refine TL_nil ?_
      refine TX_then ?_
      refine TC_seq ?_
      refine TC_reg ?_
      refine TL_e rfl rfl rfl (rfl) (ET_call rfl YtlmbpdlobpcahaaDoorF.cal_78 rfl (newRowS w0 _)) ?_
      rintro _ _ ⟨rb, K0, rfl, hK0, rfl⟩
      refine TL_q rfl rfl (QT_build rfl rfl YtlmbpdlobpcahaaDoorF.zero_151 YtlmbpdlobpcahaaDoorF.pl_151 rfl rfl rfl) ?_
      refine TL_e rfl rfl rfl (rfl) (ET_box rfl rfl) ?_
      rintro _ _ ⟨b24, rfl, rfl⟩
      refine TL_q rfl rfl (QT_assign rfl rfl rfl) ?_
      refine TL_nil ?_
      refine TX_then ?_
      refine TC_seq ?_
      refine TC_seq ?_
      refine TC_A (St w0 ((b9, 71, shV zs) :: (((b24, 151, [.pointer (some ⟨rb, 0, none⟩), .int .i64 0]) :: K0) ++ ((b2, 27, L.cells) :: (H ++ η))))) (fun w h => (show St w0 ((b24, 151, [.pointer (some ⟨rb, 0, none⟩), .int .i64 0]) :: (K0 ++ ((b9, 71, shV zs) :: (b2, 27, L.cells) :: (H ++ η)))) w from h).cnt fun p => by simp only [List.countP_append, List.countP_cons]; omega) ?_
      refine TC_reg ?_
      refine TL_q rfl rfl (QT_loadRAj (cs := L.cells) (out := L.cells) 0 rfl rfl Tryd.underlying27 rfl YtlmbpdlobpcahaaDoorF.sz_27 ((Rd.own (w0 := w0) (η := [(b2, 27, L.cells)]) 0 rfl).mono fun w h => h.cnt fun p => by simp only [List.countP_append, List.countP_cons, List.countP_nil]; omega) rfl (fun _ => Nat.le_refl 18) (fun _ => rfl)) ?_
      refine TL_q rfl rfl (QT_move rfl rfl rfl) ?_
      refine TL_q rfl rfl (QT_makeIface rfl rfl Tryd.underlying147 rfl rfl) ?_
      refine TL_e rfl rfl rfl (rfl) (ET_call rfl YtlmbpdlobpcahaaDoorF.cal_29 rfl (hspec b9 b24 rb K0 hK0)) ?_
      rintro _ _ ⟨rfl, K', hK', rfl⟩
      refine TL_nil ?_
      refine TX_then ?_
      refine TC_seq ?_
      obtain ⟨K1, hK1, rfl⟩ := hK'
      dsimp only at hK1
      refine TC_reg ?_
      refine TL_q rfl rfl (QT_move rfl rfl rfl) ?_
      refine TL_q rfl rfl (QT_nilCheck rfl rfl rfl) ?_
      refine TL_q rfl rfl (QT_field rfl rfl YtlmbpdlobpcahaaDoorF.fld_151_1 rfl) ?_
      refine TL_q rfl rfl (QT_load (v := .int .i64 e) 1 rfl rfl Tryd.underlying32 rfl rfl rfl (fun _ => rfl)) ?_
      refine TL_q rfl rfl (QT_neq rfl rfl rfl rfl) ?_
      refine TL_nil ?_
      refine TX_then ?_
      first
        | refine TC_cond_dec rfl (fun h33 => ?_) (fun h33 => ?_)
        | refine TC_cond rfl (fun h33 => ?_) (fun h33 => ?_)
      ·
        refine TC_seq ?_
        refine TC_draw [(0, 0), (1, 0), (2, 0), (3, 0), (4, 0), (5, 0)] YtlmbpdlobpcahaaDoorF.mixed (by kernel_rfl) (St.calm _ _) ?_
        refine TV_q rfl rfl rfl (fun _ => QT_move rfl rfl rfl) ?_
        refine TV_q rfl rfl rfl (fun _ => QT_nilCheck rfl rfl rfl) ?_
        refine TV_q rfl rfl rfl (fun _ => QT_field rfl rfl YtlmbpdlobpcahaaDoorF.fld_151_1 rfl) ?_
        refine TV_ql rfl rfl rfl (QT_load (v := .int .i64 e) 1 rfl rfl Tryd.underlying32 rfl rfl rfl (fun _ => rfl)) ?_
        refine TV_q rfl rfl rfl (fun _ => QT_assign rfl rfl rfl) ?_
        refine TV_q rfl rfl rfl (fun _ => QT_assign rfl rfl rfl) ?_
        refine TV_end ?_
        refine TX_then ?_
        refine TC_ret ?_
        refine TX_then_ret ?_
        refine TX_block_ret ?_
        refine TX_then_ret ?_
        refine TX_then_ret ?_
        refine TX_block_ret ?_
        refine TX_then_ret ?_
        have hbad : fitS L zs = false := by
          cases hf : fitS L zs with
          | false => rfl
          | true =>
            rw [hf, if_pos rfl] at hthr
            simp only [Prod.mk.injEq] at hthr
            exact absurd hthr.2 h33
        rw [hbad, if_neg (by decide)] at hthr
        have e1 : e = 1 := hthr
        have eP : errP L ys = 1 := by
          unfold errP
          rw [if_pos hc, if_neg]
          intro ha
          have := List.all_eq_true.1 ha zs (List.mem_of_getElem? hyi)
          rw [hbad] at this
          exact absurd this (by decide)
        exact TX_ret (.inl rfl) (res2 rfl rfl rfl) ⟨_, ⟨_, [], by rw [eP, e1], fragNoneB eP (by decide), rfl⟩, fun w h => h.cnt fun p => by simp only [List.countP_append, List.countP_cons, List.countP_nil]; omega⟩
      ·
        refine TC_skip ?_
        refine TX_then ?_
        have hok1 : fitS L zs = true := by
          cases hf : fitS L zs with
          | true => rfl
          | false =>
            rw [hf, if_neg (by decide)] at hthr
            have e1 : e = 1 := hthr
            rw [e1] at h33
            exact absurd (Classical.not_not.1 h33) (by decide)
        rw [hok1, if_pos rfl] at hthr
        simp only [Prod.mk.injEq] at hthr
        obtain ⟨rfl, rfl⟩ := hthr
        have hbx := RowAt.bytesX (w0 := w0) [(b9, 71, shV zs), (b24, 151, [.pointer (some ⟨rb, 0, none⟩), .int .i64 0])] ((b2, 27, L.cells) :: (H ++ η)) hK1 (by omega)
        rw [show packB (encS L zs) = packS L zs from rfl] at hbx
        refine TC_reg ?_
        refine TL_q rfl rfl (QT_move rfl rfl rfl) ?_
        refine TL_q rfl rfl (QT_move rfl rfl rfl) ?_
        refine TL_q rfl rfl (QT_nilCheck rfl rfl rfl) ?_
        refine TL_q rfl rfl (QT_field rfl rfl YtlmbpdlobpcahaaDoorF.fld_151_0 rfl) ?_
        refine TL_q rfl rfl (QT_load (v := .pointer (some ⟨rb, 0, none⟩)) 1 rfl rfl Tryd.underlying148 rfl rfl rfl (fun _ => rfl)) ?_
        refine TL_e rfl rfl rfl (rfl) (ET_call rfl YtlmbpdlobpcahaaDoorF.cal_79 rfl (hbx)) ?_
        rintro nv _ ⟨H2, hF2, rfl⟩
        refine TL_e rfl rfl rfl (rfl) (ET_appendL (η := η) (L := H2 ++ [(b2, 27, L.cells)]) rfl Tryd.underlying28 el_Byte rfl rfl hF (fun w h => h.cnt fun p => by simp only [List.countP_append, List.countP_cons, List.countP_nil]; omega) (hF2.within fun p => by simp only [List.countP_append]; omega) (byV_ints (packB_lt _)).oneCell (by omega) (by omega)) ?_
        rintro bv2 _ ⟨H', hF', rfl⟩
        refine TL_q rfl rfl (QT_assign rfl rfl rfl) ?_
        refine TL_nil ?_
        refine TX_block_normal ?_
        refine TX_then ?_
        refine TC_reg ?_
        refine TL_q rfl rfl (QT_add rfl rfl rfl rfl (fun _ => ⟨by omega, by omega⟩)) ?_
        refine TL_q rfl rfl (QT_move rfl rfl rfl) ?_
        refine TL_nil ?_
        refine TX_round ⟨(i + 1, bv2, H'), hi', ?_, ?_⟩ (by show ys.length - (i + 1) < ys.length - i; omega) ⟨rfl, rfl, rfl, rfl, rfl, trivial⟩ (fun w h => h.cnt fun p => by simp only [List.countP_append, List.countP_cons, List.countP_nil]; omega)
        · have e : bytesS L (ys.take (i + 1)) = bytesS L (ys.take i) ++ packS L zs := by rw [htk, bytesS_append]; simp [bytesS]
          show Frag _ 1 _ (bytesS L (ys.take (i + 1))).length (byV (bytesS L (ys.take (i + 1)))) H'
          rw [e, List.length_append, byV_append]
          exact hF'
        · show (ys.take (i + 1)).all (fitS L) = true
          rw [htk, List.all_append, hfit]
          simp [hok1]
    ·
      refine TC_exit ?_
      refine TX_then_exit ?_
      refine TX_then_exit ?_
      refine TX_block_here ?_
      refine TX_then ?_
      refine TC_seq ?_
      refine TC_seq ?_
      obtain rfl : i = ys.length := by omega
      rw [List.take_of_length_le (Nat.le_refl _)] at hF hfit
      have hbl := bytesS_bd hc.1 hty hy
      obtain ⟨bad, bcap, rfl, _, _⟩ := hF.slice
      refine TC_reg ?_
      refine TL_q rfl rfl (QT_move rfl rfl rfl) ?_
      refine TL_q rfl rfl (QT_len rfl rfl Tryd.underlying28 rfl) ?_
      refine TL_q rfl rfl (QT_gtr rfl rfl rfl rfl) ?_
      refine TL_nil ?_
      refine TX_then ?_
      first
        | refine TC_cond_dec rfl (fun h48 => ?_) (fun h48 => ?_)
        | refine TC_cond rfl (fun h48 => ?_) (fun h48 => ?_)
      ·
        refine TC_seq ?_
        refine TC_reg ?_
        refine TL_q rfl rfl (QT_assign rfl rfl rfl) ?_
        refine TL_q rfl rfl (QT_assign rfl rfl rfl) ?_
        refine TL_nil ?_
        refine TX_then ?_
        refine TC_ret ?_
        refine TX_then_ret ?_
        have eP : errP L ys = 3 := by unfold errP; rw [if_pos hc, if_pos hfit, if_pos (by omega)]
        exact TX_ret (.inl rfl) (res2 rfl rfl rfl) ⟨_, ⟨_, [], by rw [eP], fragNoneB eP (by decide), rfl⟩, fun w h => h.tail.app_right⟩
      ·
        refine TC_skip ?_
        refine TX_then ?_
        refine TC_seq ?_
        refine TC_reg ?_
        refine TL_q rfl rfl (QT_move rfl rfl rfl) ?_
        refine TL_A (St w0 (H ++ η)) (fun _ h => h.tail) ?_
        refine TL_e rfl rfl rfl (rfl) (ET_call rfl YtlmbpdlobpcahaaDoorF.cal_80 rfl (clipB_spec w0 η H _ _ _ hF)) ?_
        rintro cv _ ⟨hF2, rfl⟩
        refine TL_q rfl rfl (QT_assign rfl rfl rfl) ?_
        refine TL_q rfl rfl (QT_assign rfl rfl rfl) ?_
        refine TL_nil ?_
        refine TX_then ?_
        refine TC_ret ?_
        have eP : errP L ys = 0 := by unfold errP; rw [if_pos hc, if_pos hfit, if_neg (by omega)]
        exact TX_ret (.inl rfl) (res2 rfl rfl rfl) ⟨_, ⟨cv, H, by rw [eP], by unfold outP; rw [if_pos eP]; exact hF2, rfl⟩, fun _ h => h⟩
end Go.Proofs.YtlmbpdlobpcahaaDoor

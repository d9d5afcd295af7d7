/- RECORDS: how a field is read and set; numbers read one behind the other. BYTES OF RECORDS: the walk. RECORDS: slices.Chunk, and the function that it gives. RECORDS OF BYTES: the walk. THE DOCUMENT's RECORDS OF BYTES: the walk. THE DOCUMENT's BYTES OF RECORDS: the walk. THE CHAPTER's EXAMPLES OF RECORDS. (the book's Apart stands in a later text) THE LAWS OF THE RECORDS that ask the document's answer. RECORDS CUT DOWN to what a layout has room for; THE LAW: what has room is put, and got as it was; without the last byte it is not. THE LAW: what has room is put, and got as it was; without the last byte it is not. THE LAW: bytes that are got are put as the same, but for what fills each record's last byte. THE LAW: each record is got, and put, alone as among the others. HANDS: a reader of bytes, a layer of bits; a number of another kind through a hand. A SHEET's numbers; how many it tells; a number of another kind through a hand. A WHOLE SHEET through a hand. SHEETS OF BYTES, and bytes of sheets, by definition. Plain. SHEETS OF BYTES: the walk. BYTES OF SHEETS: by definition, and the walk. THE DOCUMENT's CHECK, and its ROOM. THE DOCUMENT's SHEETS OF BYTES: the walk. THE DOCUMENT's BYTES OF SHEETS: the walk. -/
import Derived.Test.YtjdaglmkljbfkaaGreatDoorDD03
namespace Go.Proofs.YtjdaglmkljbfkaaGreatDoor
open Go Go.Gx Go.RowKit
set_option maxRecDepth 100000
theorem wrapR8 (x : Nat) : IntKind.u8.wrap (x : Int) = ((x % 256 : Nat) : Int) := by
  show (x : Int) % 256 = _
  omega
theorem wrapR16 (x : Nat) : IntKind.u16.wrap (x : Int) = ((x % 65536 : Nat) : Int) := by
  show (x : Int) % 65536 = _
  omega
theorem QT_v0 {P : Program} {n : Nat} {ops : Array Oper} {o : Oper} {σ : Slots} {A : World → Prop} {g : Bool} {v v' : Value} (h : QT P n ops o σ A g v) (e : v = v') : QT P n ops o σ A g v' := e ▸ h
theorem set_0 (w0 : Base) (η : Heap) (xb : Nat) (r : List Nat) (v : Nat) (hr : r.length = 7) (hv : v < 4294967296) :
    CallsT Tryz.prog 149 [.pointer (some ⟨xb, 0, none⟩), .int .u32 (v : Int)] (St w0 ((xb, 77, rvV r) :: η)) fun z A' => z = .tuple #[] ∧ A' = St w0 ((xb, 77, rvV (r.set 0 (v % rkM 0))) :: η) := by
  have hs := rvV_set (xs := r) (p := 0) (v := v % rkM 0) (by decide)
  have hble : Nat.ble (0 + 1) (rvV r).length = true := by rw [rvV_len hr]; rfl
  refine CallsT.body Tryz.func149 rfl rfl ?_
  simp only [Tryz.ntmps149, slotsOf, Nat.reduceAdd]
  refine TC_reg ?_
  refine TL_q rfl rfl (QT_move rfl rfl rfl) ?_
  refine TL_q rfl rfl (QT_move rfl rfl rfl) ?_
  refine TL_q rfl rfl (QT_convN rfl rfl Tryz.underlying70 Tryz.underlying5 rfl (wrapR8 v)) ?_
  refine TL_q rfl rfl (QT_nilCheck rfl rfl rfl) ?_
  refine TL_q rfl rfl (QT_field rfl rfl YtjdaglmkljbfkaaGreatDoorF.fld_77_0 rfl) ?_
  refine TL_e0 rfl rfl (rfl) (ET_store (vs := [.int .u8 ((v % rkM 0 : Nat) : Int)]) 0 rfl rfl rfl rfl YtjdaglmkljbfkaaGreatDoorF.sz_5 rfl rfl hble) ?_
  rintro _ _ ⟨rfl, rfl⟩
  refine TL_nil ?_
  refine TX_ret (.inr rfl) (res0 rfl) ⟨_, ⟨rfl, rfl⟩, fun w h => ?_⟩
  rw [← hs]
  exact h
theorem set_1 (w0 : Base) (η : Heap) (xb : Nat) (r : List Nat) (v : Nat) (hr : r.length = 7) (hv : v < 4294967296) :
    CallsT Tryz.prog 151 [.pointer (some ⟨xb, 0, none⟩), .int .u32 (v : Int)] (St w0 ((xb, 77, rvV r) :: η)) fun z A' => z = .tuple #[] ∧ A' = St w0 ((xb, 77, rvV (r.set 1 (v % rkM 1))) :: η) := by
  have hs := rvV_set (xs := r) (p := 1) (v := v % rkM 1) (by decide)
  have hble : Nat.ble (1 + 1) (rvV r).length = true := by rw [rvV_len hr]; rfl
  refine CallsT.body Tryz.func151 rfl rfl ?_
  simp only [Tryz.ntmps151, slotsOf, Nat.reduceAdd]
  refine TC_reg ?_
  refine TL_q rfl rfl (QT_move rfl rfl rfl) ?_
  refine TL_q rfl rfl (QT_v0 (QT_move rfl rfl rfl) (show Value.int .u32 (v : Int) = .int .u32 ((v % rkM 1 : Nat) : Int) by rw [Nat.mod_eq_of_lt (show v < rkM 1 from hv)])) ?_
  refine TL_q rfl rfl (QT_nilCheck rfl rfl rfl) ?_
  refine TL_q rfl rfl (QT_field rfl rfl YtjdaglmkljbfkaaGreatDoorF.fld_77_1 rfl) ?_
  refine TL_q rfl rfl (QT_field rfl rfl YtjdaglmkljbfkaaGreatDoorF.fld_72_0 rfl) ?_
  refine TL_e0 rfl rfl (rfl) (ET_store (vs := [.int .u32 ((v % rkM 1 : Nat) : Int)]) 0 rfl rfl rfl rfl YtjdaglmkljbfkaaGreatDoorF.sz_70 rfl rfl hble) ?_
  rintro _ _ ⟨rfl, rfl⟩
  refine TL_nil ?_
  refine TX_ret (.inr rfl) (res0 rfl) ⟨_, ⟨rfl, rfl⟩, fun w h => ?_⟩
  rw [← hs]
  exact h
theorem set_2 (w0 : Base) (η : Heap) (xb : Nat) (r : List Nat) (v : Nat) (hr : r.length = 7) (hv : v < 4294967296) :
    CallsT Tryz.prog 153 [.pointer (some ⟨xb, 0, none⟩), .int .u32 (v : Int)] (St w0 ((xb, 77, rvV r) :: η)) fun z A' => z = .tuple #[] ∧ A' = St w0 ((xb, 77, rvV (r.set 2 (v % rkM 2))) :: η) := by
  have hs := rvV_set (xs := r) (p := 2) (v := v % rkM 2) (by decide)
  have hble : Nat.ble (2 + 1) (rvV r).length = true := by rw [rvV_len hr]; rfl
  refine CallsT.body Tryz.func153 rfl rfl ?_
  simp only [Tryz.ntmps153, slotsOf, Nat.reduceAdd]
  refine TC_reg ?_
  refine TL_q rfl rfl (QT_move rfl rfl rfl) ?_
  refine TL_q rfl rfl (QT_v0 (QT_move rfl rfl rfl) (show Value.int .u32 (v : Int) = .int .u32 ((v % rkM 2 : Nat) : Int) by rw [Nat.mod_eq_of_lt (show v < rkM 2 from hv)])) ?_
  refine TL_q rfl rfl (QT_nilCheck rfl rfl rfl) ?_
  refine TL_q rfl rfl (QT_field rfl rfl YtjdaglmkljbfkaaGreatDoorF.fld_77_1 rfl) ?_
  refine TL_q rfl rfl (QT_field rfl rfl YtjdaglmkljbfkaaGreatDoorF.fld_72_1 rfl) ?_
  refine TL_e0 rfl rfl (rfl) (ET_store (vs := [.int .u32 ((v % rkM 2 : Nat) : Int)]) 0 rfl rfl rfl rfl YtjdaglmkljbfkaaGreatDoorF.sz_70 rfl rfl hble) ?_
  rintro _ _ ⟨rfl, rfl⟩
  refine TL_nil ?_
  refine TX_ret (.inr rfl) (res0 rfl) ⟨_, ⟨rfl, rfl⟩, fun w h => ?_⟩
  rw [← hs]
  exact h
theorem set_3 (w0 : Base) (η : Heap) (xb pb c : Nat) (r : List Nat) (v : Nat) (hr : r.length = 7) (hc : c < 4) (hP : Rd (St w0 η) pb 0 [.int .i64 (c : Int)]) :
    CallsT Tryz.prog 155 [.pointer (some ⟨xb, 0, none⟩), .int .u32 (v : Int), .pointer (some ⟨pb, 0, none⟩)] (St w0 ((xb, 77, rvV r) :: η)) fun z A' => z = .tuple #[] ∧ A' = St w0 ((xb, 77, rvV (r.set (3 + c) (v % rkM (3 + c)))) :: η) := by
  have hm : rkM (3 + c) = 65536 := by unfold rkM; rw [if_neg (by omega), if_neg (by omega)]
  have hk : rkK (3 + c) = .u16 := by unfold rkK; rw [if_neg (by omega), if_neg (by omega)]
  have hs := rvV_set (xs := r) (p := 3 + c) (v := v % rkM (3 + c)) (by omega)
  rw [hk, hm] at hs
  rw [hm]
  have hble : Nat.ble (0 + 3 + c * 1 + 1) (rvV r).length = true := Nat.ble_eq_true_of_le (by rw [rvV_len hr]; omega)
  refine CallsT.body Tryz.func155 rfl rfl ?_
  simp only [Tryz.ntmps155, slotsOf, Nat.reduceAdd]
  refine TC_draw [(0, 0), (1, 0), (2, 0), (3, 0), (4, 0), (5, 0), (6, 0), (7, 1)] YtjdaglmkljbfkaaGreatDoorF.mixed (by kernel_rfl) (St.calm _ _) ?_
  refine TV_q rfl rfl rfl (fun _ => QT_move rfl rfl rfl) ?_
  refine TV_ql rfl rfl rfl (QT_loadRj (v := .int .i64 (c : Int)) 0 rfl rfl Tryz.underlying3 rfl (hP.mono fun _ h => h.tail) rfl (fun _ => rfl)) ?_
  refine TV_q rfl rfl rfl (fun _ => QT_move rfl rfl rfl) ?_
  refine TV_q rfl rfl rfl (fun _ => QT_convN rfl rfl Tryz.underlying70 Tryz.underlying73 rfl (wrapR16 v)) ?_
  refine TV_q rfl rfl rfl (fun _ => QT_nilCheck rfl rfl rfl) ?_
  refine TV_q rfl rfl rfl (fun _ => QT_field rfl rfl YtjdaglmkljbfkaaGreatDoorF.fld_77_2 rfl) ?_
  refine TV_q rfl rfl rfl (fun _ => QT_indexArr c rfl rfl Tryz.underlying75 YtjdaglmkljbfkaaGreatDoorF.sz_73 rfl rfl rfl (fun _ => hc)) ?_
  refine TV_e0 rfl rfl rfl (rfl) (ET_store (vs := [.int .u16 ((v % 65536 : Nat) : Int)]) 0 rfl rfl rfl rfl YtjdaglmkljbfkaaGreatDoorF.sz_73 rfl rfl hble) ?_
  rintro _ _ ⟨rfl, rfl⟩
  refine ⟨_, .drop (by kernel_rfl) (.nil), ?_⟩
  refine TV_end ?_
  refine TX_ret (.inr rfl) (res0 rfl) ⟨_, ⟨rfl, rfl⟩, fun w h => ?_⟩
  rw [← hs]
  have h' : St w0 ((xb, 77, (rvV r).set (0 + 3 + c * 1) (.int .u16 ((v % 65536 : Nat) : Int))) :: η) w := h
  rw [show 0 + 3 + c * 1 = 3 + c by omega] at h'
  exact h'
/-- the closures' own numbers -/
def PsOk (A : World → Prop) (ps : List Nat) : Prop := ∀ c, c < 4 → Rd A (ps.getD c 0) 0 [.int .i64 (c : Int)]
theorem psOk_of {w0 : Base} {η : Heap} {ps : List Nat} (h : ps.length = 4) (hs : ∀ p : Blk → Bool, (psHeap ps 0).countP p ≤ η.countP p) : PsOk (St w0 η) ps := fun c hc => by
  have hm := psHeap_mem (ps := ps) (i := 0) (c := c) (by omega)
  rw [Nat.zero_add] at hm
  exact (Rd.ownA (w0 := w0) (η := psHeap ps 0) hm 0 rfl).mono fun w h => h.cnt hs
theorem setter_spec (w0 : Base) (η : Heap) (ps : List Nat) (k xb : Nat) (r : List Nat) (v : Nat) (hk : k < 7) (hr : r.length = 7) (hv : v < 4294967296) (hP : PsOk (St w0 η) ps) :
    CallsT Tryz.prog (sF k) ([.pointer (some ⟨xb, 0, none⟩), .int .u32 (v : Int)] ++ (capF ps k).toList) (St w0 ((xb, 77, rvV r) :: η)) fun z A' => z = .tuple #[] ∧ A' = St w0 ((xb, 77, rvV (r.set k (v % rkM k))) :: η) := by
  match k, hk with
  | 0, _ => exact set_0 w0 η xb r v hr hv
  | 1, _ => exact set_1 w0 η xb r v hr hv
  | 2, _ => exact set_2 w0 η xb r v hr hv
  | 3, _ => exact set_3 w0 η xb _ 0 r v hr (by decide) (hP 0 (by decide))
  | 4, _ => exact set_3 w0 η xb _ 1 r v hr (by decide) (hP 1 (by decide))
  | 5, _ => exact set_3 w0 η xb _ 2 r v hr (by decide) (hP 2 (by decide))
  | 6, _ => exact set_3 w0 η xb _ 3 r v hr (by decide) (hP 3 (by decide))
  | k + 7, h => exact absurd h (by omega)
/-- numbers read one behind the other -/
def decN : Ws → List Bool → List Nat
  | [], _ => []
  | (w, _) :: r, l => num (l.take w) :: decN r (l.drop w)
theorem decN_len : ∀ (ws : Ws) (l : List Bool), (decN ws l).length = ws.length
  | [], _ => rfl
  | (w, m) :: r, l => by simp [decN, decN_len r]
theorem decN_at : ∀ {ws : Ws} {l : List Bool} {k w m : Nat}, ws[k]? = some (w, m) → (decN ws l)[k]? = some (num ((l.drop (tot (ws.take k))).take w))
  | [], l, k, w, m, h => by simp at h
  | (w, m) :: ws, l, 0, _, _, h => by
    cases h
    rfl
  | (w, m) :: ws, l, k + 1, _, _, h => by
    rw [decN, List.getElem?_cons_succ, decN_at (ws := ws) (l := l.drop w) (k := k) (by simpa using h), List.take_succ_cons, tot_cons, List.drop_drop]
theorem dec_at : ∀ {ws : Ws} {l : List Bool} {k w m : Nat}, ws[k]? = some (w, m) → (dec ws l)[k]? = some (num ((l.drop (tot (ws.take k))).take w) % m)
  | [], l, k, w, m, h => by simp at h
  | (w, m) :: ws, l, 0, _, _, h => by
    cases h
    rfl
  | (w, m) :: ws, l, k + 1, _, _, h => by
    rw [dec, List.getElem?_cons_succ, dec_at (ws := ws) (l := l.drop w) (k := k) (by simpa using h), List.take_succ_cons, tot_cons, List.drop_drop]
def u32V (vs : List Nat) : List Value := vs.map fun (v : Nat) => Value.int .u32 (v : Int)
def wV (ws : Ws) : List Value := ws.map fun p => Value.int .i64 (p.1 : Int)
theorem el_U32 : ElemOk Tryz.prog 70 1 4 (.int .u32 0) := .of YtjdaglmkljbfkaaGreatDoorF.sz_70 (by kernel_rfl) (by unfold ZeroOk; kernel_rfl) (by kernel_rfl) (by decide)
theorem tot_takeR (ws : Ws) (k : Nat) : tot (ws.take k) ≤ tot ws := by
  have := tot_append (ws.take k) (ws.drop k)
  rw [List.take_append_drop] at this
  omega
theorem tot_stepR {ws : Ws} {k w m : Nat} (h : ws[k]? = some (w, m)) : tot (ws.take (k + 1)) = tot (ws.take k) + w := by
  rw [List.take_add_one, h, tot_append]
  simp [tot]
theorem read_spec (w0 : Base) (η : Heap) (bv mv : Value) (bs : List Nat) (ws : Ws) (hs : SlA (St w0 η) bv 1 bs.length (byV bs)) (hb : ∀ c ∈ bs, c < 256) (hl : bs.length ≤ 1000000) (hm : SlA (St w0 η) mv 1 ws.length (wV ws)) (hwn : ws.length ≤ 1000) (hw : ∀ p ∈ ws, p.1 ≤ 32) (ht : tot ws ≤ 8 * bs.length) :
    CallsT Tryz.prog 140 [bv, mv] (St w0 η) fun v A' => ∃ H, Frag 70 1 v ws.length (u32V (decN ws (byB bs))) H ∧ A' = St w0 (H ++ η) := by
  obtain ⟨_, mad, mcap, mb, mo, rfl, hmcap, hmad, hmrd⟩ := hm.some
  refine CallsT.body Tryz.func140 rfl rfl ?_
  simp only [Tryz.ntmps140, slotsOf, Nat.reduceAdd]
  refine TC_seq ?_
  refine TC_reg ?_
  refine TL_q rfl rfl (QT_assign rfl rfl rfl) ?_
  refine TL_nil ?_
  refine TX_then ?_
  refine TC_seq ?_
  refine TC_reg ?_
  refine TL_q rfl rfl (QT_assign rfl rfl rfl) ?_
  refine TL_nil ?_
  refine TX_then ?_
  refine TC_seq ?_
  refine TC_reg ?_
  refine TL_q rfl rfl (QT_assign rfl rfl rfl) ?_
  refine TL_nil ?_
  refine TX_then ?_
  refine TC_seq ?_
  refine TC_seq ?_
  refine TC_reg ?_
  refine TL_q rfl rfl (QT_move rfl rfl rfl) ?_
  refine TL_q rfl rfl (QT_len rfl rfl Tryz.underlying175 rfl) ?_
  refine TL_q rfl rfl (QT_move rfl rfl rfl) ?_
  refine TL_nil ?_
  refine TX_then ?_
  refine TC_block ?_
  refine TC_loop (γ := { t : Nat × Value × Heap // t.1 ≤ ws.length ∧ Frag 70 1 t.2.1 t.1 (u32V ((decN ws (byB bs)).take t.1)) t.2.2 }) (fun u => [(0, true, bv), (5, true, u.1.2.1), (6, true, .int .i64 (tot (ws.take u.1.1) : Int)), (11, true, .slice mad ws.length mcap), (12, true, .int .i64 (ws.length : Int)), (13, true, .int .i64 (u.1.1 : Int))]) (fun u => St w0 (u.1.2.2 ++ η)) (fun u => ws.length - u.1.1) ⟨(0, .slice none 0 0, []), Nat.zero_le _, Frag.nil _ _⟩ ⟨rfl, rfl, rfl, rfl, rfl, rfl, trivial⟩ (fun _ h => h) ?_
  rintro ⟨⟨i, ov, H⟩, hi, hF⟩
  dsimp only at hi hF ⊢
  refine TC_seq ?_
  refine TC_reg ?_
  refine TL_q rfl rfl (QT_lss rfl rfl rfl rfl) ?_
  refine TL_nil ?_
  refine TX_then ?_
  refine TC_seq ?_
  refine TC_cond_dec rfl (fun h14 => ?_) (fun h14 => ?_)
  ·
    have hi' : i < ws.length := by omega
    obtain ⟨p, hpi⟩ : ∃ p, ws[i]? = some p := ⟨_, List.getElem?_eq_getElem hi'⟩
    obtain ⟨w1, m1⟩ := p
    have hw1 : w1 ≤ 32 := hw _ (List.mem_of_getElem? hpi)
    have hts := tot_stepR hpi
    have htt := tot_takeR ws (i + 1)
    have hwv : (wV ws)[i]? = some (.int .i64 (w1 : Int)) := by simp [wV, hpi]
    have hgv := getV_ok (bs := bs) (p := tot (ws.take i)) hw1 (by omega)
    have hdn := decN_at (l := byB bs) hpi
    rw [← hgv] at hdn
    have htk : u32V ((decN ws (byB bs)).take (i + 1)) = u32V ((decN ws (byB bs)).take i) ++ [.int .u32 (getV bs ((tot (ws.take i) : Nat) : Int) (w1 : Int) : Int)] := by
      rw [List.take_add_one, hdn]
      simp [u32V]
    generalize tot (ws.take i) = at1 at hts hgv hdn htk
    refine TC_skip ?_
    refine TX_then ?_
    refine TC_seq ?_
    refine TC_block ?_
    refine TC_seq ?_
    refine TC_reg ?_
    refine TL_q rfl rfl (QT_indexG i rfl rfl Tryz.underlying175 YtjdaglmkljbfkaaGreatDoorF.sz_3 rfl rfl rfl (fun _ => hi') (fun _ => hmad (by omega))) ?_
    refine TL_q rfl rfl (QT_loadRj (v := .int .i64 (w1 : Int)) i rfl rfl Tryz.underlying3 rfl (hmrd.mono fun _ h => h.app_right) rfl (fun _ => hwv)) ?_
    refine TL_q rfl rfl (QT_assign rfl rfl rfl) ?_
    refine TL_nil ?_
    refine TX_then ?_
    refine TC_seq ?_
    refine TC_reg ?_
    refine TL_q rfl rfl (QT_move rfl rfl rfl) ?_
    refine TL_q rfl rfl (QT_move rfl rfl rfl) ?_
    refine TL_q rfl rfl (QT_move rfl rfl rfl) ?_
    refine TL_cq rfl rfl rfl rfl YtjdaglmkljbfkaaGreatDoorF.cal_157 rfl (fun _ => get_spec w0 _ bv bs _ _ (hs.mono fun _ h => h.app_right) hb ⟨by omega, by omega⟩ ⟨by omega, by omega⟩ (by omega)) ?_
    refine TL_q rfl rfl (QT_move rfl rfl rfl) ?_
    refine TL_q rfl rfl (QT_extract rfl rfl rfl rfl) ?_
    refine TL_q rfl rfl (QT_extract rfl rfl rfl rfl) ?_
    refine TL_q rfl rfl (QT_assign rfl rfl rfl) ?_
    refine TL_q rfl rfl (QT_assign rfl rfl rfl) ?_
    refine TL_nil ?_
    refine TX_then ?_
    refine TC_reg ?_
    refine TL_q rfl rfl (QT_move rfl rfl rfl) ?_
    refine TL_q rfl rfl (QT_move rfl rfl rfl) ?_
    refine TL_e rfl rfl rfl (rfl) (ET_buildN [_] rfl Tryz.underlying255 YtjdaglmkljbfkaaGreatDoorF.sz_70 YtjdaglmkljbfkaaGreatDoorF.zero_70 rfl rfl rfl (fun v hv => by cases List.mem_singleton.1 hv; rfl)) ?_
    rintro _ _ ⟨b26, rfl, rfl⟩
    refine TL_e rfl rfl rfl (rfl) (ET_appendL (L := [_]) rfl Tryz.underlying255 el_U32 rfl rfl hF (fun _ h => h) (SlA.own (n := 1) (xs := [.int .u32 (getV bs (at1 : Int) (w1 : Int) : Int)]) 0 rfl rfl (Nat.le_refl 1) (by omega)) (fun u hu => by cases List.mem_singleton.1 hu; rfl) (by omega) (by omega)) ?_
    rintro ov2 _ ⟨H', hF', rfl⟩
    refine TL_q rfl rfl (QT_move rfl rfl rfl) ?_
    refine TL_q rfl rfl (QT_move rfl rfl rfl) ?_
    refine TL_q rfl rfl (QT_add rfl rfl rfl rfl (fun _ => ⟨by omega, by omega⟩)) ?_
    refine TL_q rfl rfl (QT_assign rfl rfl rfl) ?_
    refine TL_q rfl rfl (QT_assign rfl rfl rfl) ?_
    refine TL_nil ?_
    refine TX_block_normal ?_
    refine TX_then ?_
    refine TC_reg ?_
    refine TL_q rfl rfl (QT_add rfl rfl rfl rfl (fun _ => ⟨by omega, by omega⟩)) ?_
    refine TL_q rfl rfl (QT_move rfl rfl rfl) ?_
    refine TL_nil ?_
    exact TX_round ⟨(i + 1, ov2, H'), hi', by rw [← htk] at hF'; exact hF'⟩ (by show ws.length - (i + 1) < ws.length - i; omega) ⟨rfl, rfl, slotI rfl (by show (at1 : Int) + (w1 : Int) = (tot (ws.take (i + 1)) : Int); omega), rfl, rfl, rfl, trivial⟩ (fun _ h => h.tail)
  ·
    refine TC_exit ?_
    refine TX_then_exit ?_
    refine TX_then_exit ?_
    refine TX_block_here ?_
    refine TX_then ?_
    refine TC_seq ?_
    refine TC_reg ?_
    refine TL_q rfl rfl (QT_move rfl rfl rfl) ?_
    refine TL_q rfl rfl (QT_assign rfl rfl rfl) ?_
    refine TL_nil ?_
    refine TX_then ?_
    refine TC_ret ?_
    obtain rfl : i = ws.length := by omega
    rw [List.take_of_length_le (by rw [decN_len]; exact Nat.le_refl _)] at hF
    exact TX_ret (.inl rfl) (res1 rfl rfl) ⟨_, ⟨H, hF, rfl⟩, fun _ h => h⟩
end Go.Proofs.YtjdaglmkljbfkaaGreatDoor
namespace Go.Proofs.YtjdaglmkljbfkaaGreatDoor
open Go Go.Gx Go.RowKit
set_option maxRecDepth 100000
theorem errCR_ok {L : Lay} (h : errCR L = 0) : okB L = true ∧ L.ty ≤ 5 := by
  unfold errCR at h
  split at h
  · assumption
  · exact absurd h (by decide)
theorem fld_len (L : Lay) (ps : List Nat) (k : Nat) : (fld L ps k).length = 3 := rfl
theorem fldsC_part (L : Lay) (ps : List Nat) {n k : Nat} (h : k < n) : k * 3 + 3 ≤ (fldsC L ps n).length ∧ ((fldsC L ps n).drop (k * 3)).take 3 = fld L ps k := by
  refine ⟨by rw [fldsC_len]; omega, ?_⟩
  apply List.ext_getElem?
  intro j
  rw [List.getElem?_take]
  by_cases hj : j < 3
  · rw [if_pos hj, List.getElem?_drop, fldsC_at L ps h hj]
  · rw [if_neg hj, List.getElem?_eq_none (by rw [fld_len]; omega)]
end Go.Proofs.YtjdaglmkljbfkaaGreatDoor
namespace Go.Gx
open Go Go.RowKit
section
variable {P : Program} {n : Nat} {ops : Array Oper} {o : Oper} {σ : Slots} {A : World → Prop} {g : Bool} {x y z u : Operand} {c1 c2 c3 c4 : Bool} {t : TypeId} {k : IntKind} {p : Int}
/-- s[l:h:m] -/
theorem QT_slcLHM {e size len cap : Nat} {ad : Option Addr} {q r : Int} {k2 k3 : IntKind} (l h m : Nat) (hg : gdc ops σ o = some g) (hop : o.op = .slice t x (some y) (some z) (some u)) (hu : P.underlying t = some (.slice e)) (hm : Sz P e size)
    (hx : ev σ x = some (c1, .slice ad len cap)) (hy : ev σ y = some (c2, .int k p)) (hz : ev σ z = some (c3, .int k2 q)) (hv : ev σ u = some (c4, .int k3 r)) (hp : p = (l : Int)) (hq : q = (h : Int)) (hr : r = (m : Int)) (hl : g = true → l ≤ h ∧ h ≤ m ∧ m ≤ cap)
    (hc : g = true → c1 = true ∧ c2 = true ∧ c3 = true ∧ c4 = true := by first | exact fun _ => ⟨rfl, rfl, rfl, rfl⟩ | (intro h; first | grind | simp_all)) : QT P n ops o σ A g (.slice (if m = l then ad else ad.map (·.add (l * size))) (h - l) (m - l)) :=
  QT.mk hg fun a w hf _ hgt => by
    have e1 := fun code => run_bound (P := P) (w := w) (k := k) (code := code) hp (hl hgt).1
    have e2 := fun code => run_bound (P := P) (w := w) (k := k2) (code := code) hq (hl hgt).2.1
    have e3 := fun code => run_bound (P := P) (w := w) (k := k3) (code := code) hr (hl hgt).2.2
    simp [execOp, hop, hf.eval hx (hc hgt).1, hf.eval hy (hc hgt).2.1, hf.eval hz (hc hgt).2.2.1, hf.eval hv (hc hgt).2.2.2, Instr.sliceAt, Instr.slice, Instr.sliceBounds, run_underlying hu, e1, e2, e3, run_sizeOf hm]
end
section
variable {P : Program}
/-- what yield does at X -/
def Yields (P : Program) (l N : Nat) (cv : Nat → Value) (X : Nat → World → Prop) : Prop :=
  ∀ k W, k < N → X k W → ∃ fn tmps assign body, (Instr.yield l #[cv k]).run P W = .ok (.round l fn tmps assign body) W ∧ ∀ m', RoundIn (FR none) m' P l fn tmps assign body W fun e W' => e = .returned (.bool true) ∧ X (k + 1) W'
theorem iterOk_of {gf : FuncId} {fn : Func} {c : Code} {lb : List Value} {N l : Nat} {cv : Nat → Value} {X : Nat → World → Prop} (hf : P.funcs[gf]? = some fn) (hb : fn.body = some c) (hn : Nat.ble (lb.length + 1) fn.ntmps = true)
    (h : Yields P l N cv X → ∀ m, TCI P fn.ntmps none m c (bodyPost P fn fun e w' => ∃ v A', e = .returned v ∧ A' = X N ∧ A' w') (slotsOf (.func (.yield l) #[] #[] :: lb) 0) (X 0)) : IterOk P gf lb.toArray N cv l X := by
  intro w h0 hy m
  have hA : (#[.func (.yield l) #[] #[]] ++ lb.toArray : Array Value) = (.func (.yield l) #[] #[] :: lb).toArray := by apply Array.ext'; simp
  rw [hA]
  refine callsIn_of_wp hf hb trivial ?_
  refine wpIn_mono (Q := bodyPost P fn fun e w' => ∃ v A', e = .returned v ∧ A' = X N ∧ A' w') (h hy m (fun a w hx => by obtain ⟨v, A', he, _⟩ := hx; exact Ending.noConfusion he) _ w ⟨?_, rfl, fun t c v h => ?_⟩ h0) fun e a1 w1 h1 => ?_
  rotate_left 2
  ·
    cases e with
    | normal => obtain ⟨hd, v, hr, v', A', he, rfl, hX⟩ := h1; exact ⟨hd, v, hr, ⟨v', he⟩, hX⟩
    | ret => obtain ⟨hd, v, hr, v', A', he, rfl, hX⟩ := h1; exact ⟨hd, v, hr, ⟨v', he⟩, hX⟩
    | panic ch => obtain ⟨v', A', he, _⟩ := h1.2; exact Ending.noConfusion he
    | outgrown => obtain ⟨v', A', he, _⟩ := h1; exact Ending.noConfusion he
    | exit id => exact h1
    | goto id => exact h1
  · have := Nat.le_of_ble_eq_true hn
    simp; omega
  · obtain ⟨rfl, _, h3⟩ := look_slotsOf _ 0 t c v h
    simp only [Nat.sub_zero] at h3
    have hlt := (List.getElem?_eq_some_iff.1 h3).1
    simp only [Array.getD_eq_getD_getElem?, cond_true]
    rw [Array.getElem?_append_left (by simpa using hlt)]
    simp [h3]
end
end Go.Gx
namespace Go.Proofs.YtjdaglmkljbfkaaGreatDoor
open Go Go.Gx Go.RowKit
set_option maxRecDepth 100000
/-- the k-th part of a slice -/
def chkV (ad : Option Addr) (sz k : Nat) : Value := .slice (if k * sz + sz = k * sz then ad else ad.map (·.add (k * sz * 1))) (k * sz + sz - k * sz) (k * sz + sz - k * sz)
theorem chkV_sla {A : World → Prop} {ad : Option Addr} {n cap sz k : Nat} {cs : List Value} (h : SlA A (.slice ad n cap) 1 n cs) (hk : k * sz + sz ≤ n) (h0 : 0 < sz) : SlA A (chkV ad sz k) 1 sz ((cs.drop (k * sz)).take sz) := by
  unfold chkV
  obtain ⟨hl, ad', cap', hv, hc, hr⟩ := h
  obtain ⟨rfl, _, rfl⟩ := Value.slice.inj hv
  rw [if_neg (by omega), show k * sz + sz - k * sz = sz by omega]
  refine ⟨by rw [List.length_take, List.length_drop]; omega, _, _, rfl, ⟨Nat.le_refl _, by omega⟩, .inr ?_⟩
  obtain ⟨b, off, rfl, hrd⟩ := hr.resolve_left (by omega)
  refine ⟨b, off + k * sz, by simp [add_mk], fun w hw j v hv => ?_⟩
  rw [List.getElem?_take] at hv
  split at hv
  · rw [Nat.add_assoc]
    exact hrd w hw _ v (by rw [← List.getElem?_drop]; exact hv)
  · cases hv
set_option maxHeartbeats 1000000 in
theorem chunk_iter (X : Nat → World → Prop) (hcalm : ∀ k, Go.Gx.Calm (X k)) (b1 b2 n cap sz N l : Nat) (ad : Option Addr) (hcap : n ≤ cap ∧ cap ≤ 9223372036854775807) (hz : 0 < sz) (hN : N * sz = n) (hnm : n ≤ 1000000) (h1 : ∀ k, Rd (X k) b1 0 [.slice ad n cap]) (h2 : ∀ k, Rd (X k) b2 0 [.int .i64 (sz : Int)]) :
    IterOk Tryz.prog 156 [.pointer (some ⟨b1, 0, none⟩), .pointer (some ⟨b2, 0, none⟩)].toArray N (chkV ad sz) l X := by
  refine iterOk_of Tryz.func156 rfl rfl fun hY m => ?_
  simp only [Tryz.ntmps156, slotsOf, Nat.reduceAdd]
  refine TCI_seq ?_
  refine TCI_regI ?_
  refine TLI_q rfl rfl (QT_assign rfl rfl rfl) ?_
  refine TLI_nil ?_
  refine TXI_then ?_
  refine TCI_block ?_
  refine TCI_loop (γ := { k : Nat // k ≤ N }) (fun k => [(0, true, .func (.yield l) #[] #[]), (1, true, .pointer (some ⟨b1, 0, none⟩)), (2, true, .pointer (some ⟨b2, 0, none⟩)), (4, true, .int .i64 ((k.1 * sz : Nat) : Int))]) (fun k => X k.1) (fun k => N - k.1) ⟨0, Nat.zero_le _⟩ ⟨rfl, rfl, rfl, slotI rfl (by show (0 : Int) = ((0 * sz : Nat) : Int); omega), trivial⟩ (fun _ h => h) ?_
  rintro ⟨k, hkN⟩
  dsimp only at hkN ⊢
  have hkn : k * sz ≤ n := by rw [← hN]; exact Nat.mul_le_mul_right _ hkN
  refine TCI_seq ?_
  refine TCI_seq ?_
  refine TCI_regI ?_
  refine TLI_q rfl rfl (QT_move rfl rfl rfl) ?_
  refine TLI_q rfl rfl (QT_loadRj (v := .slice ad n cap) 0 rfl rfl Tryz.underlying28 rfl (h1 k) rfl (fun _ => rfl)) ?_
  refine TLI_q rfl rfl (QT_len rfl rfl Tryz.underlying28 rfl) ?_
  refine TLI_q rfl rfl (QT_lss rfl rfl rfl rfl) ?_
  refine TLI_nil ?_
  refine TXI_then ?_
  refine TCI_cond_dec rfl (fun h9 => ?_) (fun h9 => ?_)
  ·
    have hk : k < N := by
      refine Classical.byContradiction fun hk => ?_
      have : k = N := by omega
      rw [this] at h9
      omega
    have hks : k * sz + sz ≤ n := by
      have : (k + 1) * sz ≤ N * sz := Nat.mul_le_mul_right _ hk
      rw [Nat.add_mul] at this
      omega
    have hcv : chkV ad sz k = .slice (if k * sz + sz = k * sz then ad else ad.map (·.add (k * sz * 1))) (k * sz + sz - k * sz) (k * sz + sz - k * sz) := rfl
    have hk1 : (k + 1) * sz = k * sz + sz := by rw [Nat.add_mul]; omega
    generalize hcE : k * sz = c at hkn hks hcv hk1 h9 ⊢
    refine TCI_skip ?_
    refine TXI_then ?_
    refine TCI_seq ?_
    refine TCI_block ?_
    refine TCI_seq ?_
    refine TCI_draw [(0, 0), (1, 0), (2, 0), (3, 0), (4, 0), (5, 0), (6, 0)] YtjdaglmkljbfkaaGreatDoorF.mixed (by kernel_rfl) (hcalm _) ?_
    refine TV_ql rfl rfl rfl (QT_loadRj (v := .int .i64 (sz : Int)) 0 rfl rfl Tryz.underlying3 rfl (h2 k) rfl (fun _ => rfl)) ?_
    refine TV_ql rfl rfl rfl (QT_loadRj (v := .slice ad n cap) 0 rfl rfl Tryz.underlying28 rfl (h1 k) rfl (fun _ => rfl)) ?_
    refine TV_q rfl rfl rfl (fun _ => QT_move rfl rfl rfl) ?_
    refine TV_q rfl rfl rfl (fun _ => QT_slcL c rfl rfl rfl rfl Tryz.underlying28 YtjdaglmkljbfkaaGreatDoorF.sz_5 rfl rfl rfl (fun _ => hkn)) ?_
    refine TV_q rfl rfl rfl (fun _ => QT_len rfl rfl Tryz.underlying28 rfl) ?_
    refine TV_q rfl rfl rfl (fun _ => QT_min rfl rfl rfl rfl) ?_
    refine TV_q rfl rfl rfl (fun _ => QT_assign rfl rfl rfl) ?_
    refine TV_end ?_
    refine TXI_then ?_
    refine TCI_seq ?_
    refine TCI_regI ?_
    refine TLI_q rfl rfl (QT_move rfl rfl rfl) ?_
    refine TLI_q rfl rfl (QT_loadRj (v := .slice ad n cap) 0 rfl rfl Tryz.underlying28 rfl (h1 k) rfl (fun _ => rfl)) ?_
    refine TLI_q rfl rfl (QT_move rfl rfl rfl) ?_
    refine TLI_q rfl rfl (QT_move rfl rfl rfl) ?_
    refine TLI_q rfl rfl (QT_move rfl rfl rfl) ?_
    refine TLI_q rfl rfl (QT_add rfl rfl rfl rfl (fun _ => ⟨by omega, by omega⟩)) ?_
    refine TLI_q rfl rfl (QT_move rfl rfl rfl) ?_
    refine TLI_q rfl rfl (QT_move rfl rfl rfl) ?_
    refine TLI_q rfl rfl (QT_add rfl rfl rfl rfl (fun _ => ⟨by omega, by omega⟩)) ?_
    refine TLI_q rfl rfl (QT_slcLHM c (c + sz) (c + sz) rfl rfl Tryz.underlying28 YtjdaglmkljbfkaaGreatDoorF.sz_5 rfl rfl rfl rfl rfl (by omega) (by omega) (fun _ => ⟨by omega, by omega, by omega⟩)) ?_
    refine TLI_yield (A' := X (k + 1)) (l := l) rfl rfl rfl rfl rfl rfl (fun W hW => by rw [← hcv]; exact hY k W hk hW) ?_
    refine TLI_q rfl rfl (QT_not rfl rfl rfl) ?_
    refine TLI_nil ?_
    refine TXI_then ?_
    refine TCI_cond rfl (fun h => absurd h (by decide)) (fun _ => ?_)
    refine TCI_skip ?_
    refine TX_block_normal ?_
    refine TXI_then ?_
    refine TCI_regI ?_
    refine TLI_q rfl rfl (QT_move rfl rfl rfl) ?_
    refine TLI_q rfl rfl (QT_loadRj (v := .int .i64 (sz : Int)) 0 rfl rfl Tryz.underlying3 rfl (h2 (k + 1)) rfl (fun _ => rfl)) ?_
    refine TLI_q rfl rfl (QT_add rfl rfl rfl rfl (fun _ => ⟨by omega, by omega⟩)) ?_
    refine TLI_q rfl rfl (QT_assign rfl rfl rfl) ?_
    refine TLI_nil ?_
    exact TX_round ⟨k + 1, hk⟩ (by show N - (k + 1) < N - k; omega) ⟨rfl, rfl, rfl, slotI rfl (by show (c : Int) + (sz : Int) = (((k + 1) * sz : Nat) : Int); omega), trivial⟩ (fun _ h => h)
  ·
    obtain rfl : k = N := by
      refine Classical.byContradiction fun hk => ?_
      have : (k + 1) * sz ≤ N * sz := Nat.mul_le_mul_right _ (by omega)
      rw [Nat.add_mul] at this
      omega
    refine TCI_exit ?_
    refine TX_then_exit ?_
    refine TX_then_exit ?_
    refine TX_block_here ?_
    exact TX_ret (.inr rfl) (res0 rfl) ⟨_, rfl, fun _ h => h⟩
theorem chunk_spec (w0 : Base) (η : Heap) (n cap sz : Nat) (ad : Option Addr) (hz : 0 < sz) :
    CallsT Tryz.prog 139 [.slice ad n cap, .int .i64 (sz : Int)] (St w0 η) fun v A' => ∃ b1 b2, v = .func (.func 156) #[] #[.pointer (some ⟨b1, 0, none⟩), .pointer (some ⟨b2, 0, none⟩)] ∧ A' = St w0 ((b2, 3, [.int .i64 (sz : Int)]) :: (b1, 28, [.slice ad n cap]) :: η) := by
  refine CallsT.body Tryz.func139 rfl rfl ?_
  simp only [Tryz.ntmps139, slotsOf, Nat.reduceAdd]
  refine TC_seq ?_
  refine TC_reg ?_
  refine TL_e rfl rfl rfl (rfl) (ET_box rfl rfl) ?_
  rintro _ _ ⟨b2, rfl, rfl⟩
  refine TL_e rfl rfl rfl (rfl) (ET_box rfl rfl) ?_
  rintro _ _ ⟨b3, rfl, rfl⟩
  refine TL_q rfl rfl (QT_assign rfl rfl rfl) ?_
  refine TL_nil ?_
  refine TX_then ?_
  refine TC_seq ?_
  refine TC_seq ?_
  refine TC_reg ?_
  refine TL_q rfl rfl (QT_load 0 rfl rfl Tryz.underlying3 rfl rfl rfl (fun _ => rfl)) ?_
  refine TL_q rfl rfl (QT_lss rfl rfl rfl rfl) ?_
  refine TL_nil ?_
  refine TX_then ?_
  refine TC_cond rfl (fun h => absurd (h.symm.trans (decide_eq_false (by omega))) (by decide)) (fun _ => ?_)
  refine TC_skip ?_
  refine TX_then ?_
  refine TC_seq ?_
  refine TC_reg ?_
  refine TL_q rfl rfl (QT_makeFunc rfl rfl rfl rfl) ?_
  refine TL_q rfl rfl (QT_assign rfl rfl rfl) ?_
  refine TL_nil ?_
  refine TX_then ?_
  refine TC_ret ?_
  exact TX_ret (.inl rfl) (res1 rfl rfl) ⟨_, ⟨b2, b3, rfl, rfl⟩, fun _ h => h⟩
end Go.Proofs.YtjdaglmkljbfkaaGreatDoor
namespace Go.Proofs.YtjdaglmkljbfkaaGreatDoor
open Go Go.Gx Go.RowKit
set_option maxRecDepth 100000
theorem el_RecR : ElemOk Tryz.prog 77 7 20 (.agg #[.int .u8 0, .int .u32 0, .int .u32 0, .int .u16 0, .int .u16 0, .int .u16 0, .int .u16 0]) := .of YtjdaglmkljbfkaaGreatDoorF.sz_77 (by kernel_rfl) (by unfold ZeroOk; kernel_rfl) (by kernel_rfl) (by decide)
theorem el_IntR : ElemOk Tryz.prog 3 1 8 (.int .i64 0) := .of YtjdaglmkljbfkaaGreatDoorF.sz_3 (by kernel_rfl) (by unfold ZeroOk; kernel_rfl) (by kernel_rfl) (by decide)
theorem errRG_bad {L : Lay} {bs : List Nat} (h : errRG L bs ≠ 0) : outRG L bs = [] := by unfold outRG; rw [if_neg h]
theorem fragNoneRG {L : Lay} {bs : List Nat} {e : Int} (h : errRG L bs = e) (h0 : e ≠ 0) : Frag 77 7 (.slice none 0 0) (outRG L bs).length (flatR (outRG L bs)) [] := by
  rw [errRG_bad (by rw [h]; exact h0)]
  exact Frag.nil _ _
/-- a record whose first j numbers are set -/
def setRN (v : List Nat) (j : Nat) : List Nat := (List.range 7).map fun p => if p < j then v.getD p 0 % rkM p else 0
theorem setRN_len (v : List Nat) (j : Nat) : (setRN v j).length = 7 := by simp [setRN]
theorem setRN_step {v : List Nat} {j x : Nat} (hj : j < 7) (hx : v[j]? = some x) : (setRN v j).set j (x % rkM j) = setRN v (j + 1) := by
  apply List.ext_getElem?
  intro p
  rw [List.getElem?_set]
  by_cases e : j = p
  · subst e
    rw [if_pos rfl, if_pos (by rw [setRN_len]; exact hj), setRN, List.getElem?_map, List.getElem?_range hj]
    simp [hx]
  · rw [if_neg e, setRN, setRN, List.getElem?_map, List.getElem?_map]
    by_cases hp : p < 7
    · rw [List.getElem?_range hp]
      simp only [Option.map_some]
      congr 1
      by_cases h1 : p < j
      · rw [if_pos h1, if_pos (by omega)]
      · rw [if_neg h1, if_neg (by omega)]
    · rw [List.getElem?_eq_none (by simpa using hp)]
      rfl
theorem setRN_all {L : Lay} {l : List Bool} : setRN (decN (wR L) l) 7 = dcR L l := by
  apply List.ext_getElem?
  intro p
  by_cases hp : p < 7
  · rw [setRN, List.getElem?_map, List.getElem?_range hp, dcR, dec_at (wR_at hp)]
    simp only [Option.map_some]
    rw [if_pos hp]
    have := decN_at (l := l) (wR_at (L := L) hp)
    simp [this]
  · rw [List.getElem?_eq_none (by rw [setRN_len]; omega), List.getElem?_eq_none (by rw [(dcR_rcf L l).len]; omega)]
theorem recsB_snoc (L : Lay) (bs : List Nat) (k : Nat) : recsB L bs (k + 1) = recsB L bs k ++ [recAt L bs k] := by simp [recsB, List.range_succ]
theorem recsB_rcf {L : Lay} {bs : List Nat} {n : Nat} : ∀ r ∈ recsB L bs n, RcF r := by
  intro r hr
  obtain ⟨k, _, rfl⟩ := List.mem_map.1 hr
  exact dcR_rcf _ _
theorem recsB_len (L : Lay) (bs : List Nat) (n : Nat) : (recsB L bs n).length = n := by simp [recsB]
theorem recAt_cut {L : Lay} {bs : List Nat} {k : Nat} : dcR L (byB ((bs.drop (k * szR L)).take (szR L))) = recAt L bs k := by
  unfold recAt dcR
  rw [byB_take, dec_take]
  unfold szR
  omega
theorem wV_snoc {L : Lay} {k : Nat} (hk : k < 7) : wV ((wR L).take (k + 1)) = wV ((wR L).take k) ++ [.int .i64 (wdR L k : Int)] := by
  rw [take_snocX (wR_at hk)]
  simp [wV]
theorem byV_cut (bs : List Nat) (a b : Nat) : byV ((bs.drop a).take b) = ((byV bs).drop a).take b := by simp [byV, List.map_drop, List.map_take]
set_option maxHeartbeats 4000000 in
theorem rget0_spec (w0 : Base) (η : Heap) (hG : Sets w0) (L : Lay) (sv : Value) (bs : List Nat) (hs : SlA (St w0 η) sv 1 bs.length (byV bs)) (hb : ∀ c ∈ bs, c < 256) (hl : bs.length ≤ 100000000) :
    CallsT Tryz.prog 129 [L.val, sv] (St w0 η) fun v A' => ∃ rv H, v = .tuple #[rv, .int .i64 (errRG L bs)] ∧ Frag 77 7 rv (outRG L bs).length (flatR (outRG L bs)) H ∧ A' = St w0 (H ++ η) := by
  obtain ⟨hbl, ad, cap, sb, so, rfl, hcap, had, hrd⟩ := hs.some
  refine CallsT.bodyM Tryz.func129 rfl rfl ?_
  simp only [Tryz.ntmps129, slotsOf, Nat.reduceAdd]
  refine TC_seq ?_
  refine TC_reg ?_
  refine TL_e rfl rfl rfl (rfl) (ET_box rfl rfl) ?_
  rintro _ _ ⟨b2, rfl, rfl⟩
  refine TL_q rfl rfl (QT_assign rfl rfl rfl) ?_
  refine TL_q rfl rfl (QT_assign rfl rfl rfl) ?_
  refine TL_nil ?_
  refine TX_then ?_
  refine TC_seq ?_
  refine TC_A (St w0 ((b2, 27, L.cells) :: η)) (fun _ h => h) ?_
  refine TC_reg ?_
  refine TL_q rfl rfl (QT_loadW 0 rfl rfl Tryz.underlying27 rfl rfl rfl YtjdaglmkljbfkaaGreatDoorF.sz_27) ?_
  refine TL_cq rfl rfl rfl rfl YtjdaglmkljbfkaaGreatDoorF.cal_136 rfl (fun _ => size_spec w0 _ hG L 0 (by decide)) ?_
  refine TL_q rfl rfl (QT_assign rfl rfl rfl) ?_
  refine TL_nil ?_
  refine TX_then ?_
  refine TC_seq ?_
  refine TC_seq ?_
  refine TC_reg ?_
  refine TL_q rfl rfl (QT_loadW 0 rfl rfl Tryz.underlying27 rfl rfl rfl YtjdaglmkljbfkaaGreatDoorF.sz_27) ?_
  refine TL_cq rfl rfl rfl rfl YtjdaglmkljbfkaaGreatDoorF.cal_137 rfl (fun _ => rcheck0_spec w0 _ hG L) ?_
  refine TL_q rfl rfl (QT_assign rfl rfl rfl) ?_
  refine TL_nil ?_
  refine TX_then ?_
  refine TC_block ?_
  refine TC_seq ?_
  refine TC_reg ?_
  refine TL_q rfl rfl (QT_move rfl rfl rfl) ?_
  refine TL_q rfl rfl (QT_neq rfl rfl rfl rfl) ?_
  refine TL_q rfl rfl (QT_assign rfl rfl rfl) ?_
  refine TL_nil ?_
  refine TX_then ?_
  refine TC_cond_dec rfl (fun h21 => ?_) (fun h21 => ?_)
  ·
    refine TC_seq ?_
    refine TC_reg ?_
    refine TL_q rfl rfl (QT_move rfl rfl rfl) ?_
    refine TL_q rfl rfl (QT_assign rfl rfl rfl) ?_
    refine TL_q rfl rfl (QT_assign rfl rfl rfl) ?_
    refine TL_nil ?_
    refine TX_then ?_
    refine TC_ret ?_
    refine TX_block_ret ?_
    refine TX_then_ret ?_
    have hne : ¬ (okB L = true ∧ L.ty ≤ 5) := fun hc => h21 (by unfold errCR; rw [if_pos hc])
    have eP : errRG L bs = 4 := by unfold errRG; rw [if_neg hne]
    have eC : errCR L = 4 := by unfold errCR; rw [if_neg hne]
    exact TX_retM (.inl rfl) (res2 rfl rfl rfl) ⟨_, ⟨_, [], by rw [eP, eC], fragNoneRG eP (by decide), rfl⟩, fun _ h => h.tail⟩
  ·
    have hc := errCR_ok (Classical.not_not.1 h21)
    have hsz := sizeR_eq hc.1 (ty45 hc) 0
    have hszb := szR_bd hc.1
    have hsz1 : (szR L : Int) ≠ 0 := by omega
    refine TC_seq ?_
    refine TC_reg ?_
    refine TL_q rfl rfl (QT_move rfl rfl rfl) ?_
    refine TL_q rfl rfl (QT_len rfl rfl Tryz.underlying28 rfl) ?_
    refine TL_q rfl rfl (QT_gtr rfl rfl rfl rfl) ?_
    refine TL_q rfl rfl (QT_assign rfl rfl rfl) ?_
    refine TL_nil ?_
    refine TX_then ?_
    refine TC_cond_dec rfl (fun h25 => ?_) (fun h25 => ?_)
    ·
      refine TC_seq ?_
      refine TC_reg ?_
      refine TL_q rfl rfl (QT_assign rfl rfl rfl) ?_
      refine TL_q rfl rfl (QT_assign rfl rfl rfl) ?_
      refine TL_nil ?_
      refine TX_then ?_
      refine TC_ret ?_
      refine TX_block_ret ?_
      refine TX_then_ret ?_
      have eP : errRG L bs = 3 := by unfold errRG; rw [if_pos hc, if_pos (by omega)]
      exact TX_retM (.inl rfl) (res2 rfl rfl rfl) ⟨_, ⟨_, [], by rw [eP], fragNoneRG eP (by decide), rfl⟩, fun _ h => h.tail⟩
    ·
      refine TC_seq ?_
      refine TC_reg ?_
      refine TL_q rfl rfl (QT_move rfl rfl rfl) ?_
      refine TL_q rfl rfl (QT_len rfl rfl Tryz.underlying28 rfl) ?_
      refine TL_q rfl rfl (QT_move rfl rfl rfl) ?_
      refine TL_q rfl rfl (QT_rem rfl rfl rfl rfl (fun _ => ⟨by omega, by rw [hsz]; omega⟩)) ?_
      refine TL_q rfl rfl (QT_neq rfl rfl rfl rfl) ?_
      refine TL_q rfl rfl (QT_assign rfl rfl rfl) ?_
      refine TL_nil ?_
      refine TX_then ?_
      refine TC_cond_dec rfl (fun h29 => ?_) (fun h29 => ?_)
      ·
        refine TC_seq ?_
        refine TC_reg ?_
        refine TL_q rfl rfl (QT_assign rfl rfl rfl) ?_
        refine TL_q rfl rfl (QT_assign rfl rfl rfl) ?_
        refine TL_nil ?_
        refine TX_then ?_
        refine TC_ret ?_
        refine TX_block_ret ?_
        refine TX_then_ret ?_
        have eP : errRG L bs = 5 := by
          unfold errRG
          rw [if_pos hc, if_neg (by omega), if_neg]
          intro e
          rw [hsz] at h29
          apply h29
          rw [← Int.natCast_emod, e]
          rfl
        exact TX_retM (.inl rfl) (res2 rfl rfl rfl) ⟨_, ⟨_, [], by rw [eP], fragNoneRG eP (by decide), rfl⟩, fun _ h => h.tail⟩
      ·
        have hmod : bs.length % szR L = 0 := by
          have h := Classical.not_not.1 h29
          rw [hsz, ← Int.natCast_emod] at h
          omega
        have hNs : bs.length / szR L * szR L = bs.length := Nat.div_mul_cancel (Nat.dvd_of_mod_eq_zero hmod)
        have hNl : bs.length / szR L ≤ 65536 := Nat.le_trans (Nat.div_le_self _ _) (by omega)
        have eP : errRG L bs = 0 := by unfold errRG; rw [if_pos hc, if_neg (by omega), if_pos hmod]
        have eO : outRG L bs = recsB L bs (bs.length / szR L) := by unfold outRG; rw [if_pos eP]
        refine TC_skip ?_
        refine TX_block_normal ?_
        refine TX_then ?_
        refine TC_seq ?_
        refine TC_reg ?_
        refine TL_q rfl rfl (QT_loadW 0 rfl rfl Tryz.underlying27 rfl rfl rfl YtjdaglmkljbfkaaGreatDoorF.sz_27) ?_
        refine TL_e rfl rfl rfl (rfl) (ET_call rfl YtjdaglmkljbfkaaGreatDoorF.cal_138 rfl (fields_spec w0 _ L hc.1)) ?_
        rintro fv _ ⟨ps, Hf, hps, hFf, rfl⟩
        obtain ⟨_, fad, fcap, fb, fo, rfl, hfcap, hfad, hfrd⟩ := (hFf.sla (w0 := w0) (η := [])).some
        obtain rfl := hfad (by decide)
        refine TL_e rfl rfl rfl (rfl) (ET_alloc rfl YtjdaglmkljbfkaaGreatDoorF.zero_246) ?_
        rintro _ _ ⟨b8, rfl, rfl⟩
        refine TL_e0 rfl rfl (rfl) (ET_store 0 rfl rfl rfl rfl YtjdaglmkljbfkaaGreatDoorF.sz_246 rfl rfl rfl) ?_
        rintro _ _ ⟨rfl, rfl⟩
        refine TL_nil ?_
        refine TX_then ?_
        refine TC_seq ?_
        obtain ⟨E, hE⟩ : ∃ E, E = Hf ++ (psHeap ps 0 ++ ((b2, 27, L.cells) :: η)) := ⟨_, rfl⟩
        refine TC_A (St w0 ((b8, 246, [.slice (some ⟨fb, fo, none⟩) 7 fcap]) :: E)) (fun _ h => by rw [hE]; exact h) ?_
        have hEc : ∀ p : Blk → Bool, E.countP p = Hf.countP p + (psHeap ps 0).countP p + (List.countP p [(b2, 27, L.cells)]) + η.countP p := fun p => by
          rw [hE]; simp only [List.countP_append, List.countP_cons, List.countP_nil]; omega
        have hEf : ∀ {B : Base} {X : Heap}, (∀ p : Blk → Bool, E.countP p ≤ X.countP p) → Rd (St B X) fb fo (fldsC L ps 7) := fun {B X} h => by
          obtain ⟨_, gad, gcap, gb, go, hgv, _, hgad, hgrd⟩ := (hFf.sla (w0 := B) (η := [])).some
          obtain ⟨rfl, rfl⟩ : fb = gb ∧ fo = go := by
            have h1 := hgad (by decide)
            rw [h1] at hgv
            injection hgv with h2
            injection h2 with h3
            injection h3 with h4 h5
            exact ⟨h4, h5⟩
          exact hgrd.mono fun w hw => hw.cnt fun p => by
            have := h p
            rw [hEc] at this
            simp only [List.countP_append, List.countP_nil]
            omega
        have hEp : ∀ {B : Base} {X : Heap}, (∀ p : Blk → Bool, E.countP p ≤ X.countP p) → PsOk (St B X) ps := fun {B X} h => psOk_of hps fun p => by
          have := h p
          rw [hEc] at this
          omega
        have hEη : ∀ {B : Base} {X : Heap} {w : World}, Under w0 B → (∀ p : Blk → Bool, E.countP p ≤ X.countP p) → St B X w → St w0 η w := fun {B X w} hU h hw => (hU.back hw).cnt fun p => by
          have := h p
          rw [hEc] at this
          omega
        refine TC_reg ?_
        refine TL_e rfl rfl rfl (rfl) (ET_alloc rfl YtjdaglmkljbfkaaGreatDoorF.zero_175) ?_
        rintro _ _ ⟨b9, rfl, rfl⟩
        refine TL_nil ?_
        refine TX_then ?_
        refine TC_seq ?_
        refine TC_seq ?_
        refine TC_reg ?_
        refine TL_q rfl rfl (QT_load 1 rfl rfl Tryz.underlying246 rfl rfl rfl (fun _ => rfl)) ?_
        refine TL_q rfl rfl (QT_len rfl rfl Tryz.underlying246 rfl) ?_
        refine TL_q rfl rfl (QT_move rfl rfl rfl) ?_
        refine TL_nil ?_
        refine TX_then ?_
        refine TC_block ?_
        refine TC_loop (γ := { t : Nat × Value × Heap // t.1 ≤ 7 ∧ Frag 3 1 t.2.1 t.1 (wV ((wR L).take t.1)) t.2.2 }) (fun u => [(1, true, .slice ad bs.length cap), (6, true, .int .i64 (sizeZ L 0)), (8, true, .pointer (some ⟨b8, 0, none⟩)), (9, true, .pointer (some ⟨b9, 0, none⟩)), (37, true, .slice (some ⟨fb, fo, none⟩) 7 fcap), (38, true, .int .i64 7), (39, true, .int .i64 (u.1.1 : Int))]) (fun u => St w0 ((b9, 175, [u.1.2.1]) :: (u.1.2.2 ++ ((b8, 246, [.slice (some ⟨fb, fo, none⟩) 7 fcap]) :: E)))) (fun u => 7 - u.1.1) ⟨(0, .slice none 0 0, []), Nat.zero_le _, Frag.nil _ _⟩ ⟨rfl, rfl, rfl, rfl, rfl, rfl, rfl, trivial⟩ (fun _ h => h) ?_
        rintro ⟨⟨k, wv, Hw⟩, hk7, hF⟩
        dsimp only at hk7 hF ⊢
        refine TC_seq ?_
        refine TC_reg ?_
        refine TL_q rfl rfl (QT_lss rfl rfl rfl rfl) ?_
        refine TL_nil ?_
        refine TX_then ?_
        refine TC_seq ?_
        refine TC_cond_dec rfl (fun h40 => ?_) (fun h40 => ?_)
        ·
          have hk : k < 7 := by omega
          obtain ⟨hp1, hp2⟩ := fldsC_part L ps (n := 7) hk
          have hfz : Sz Tryz.prog 251 (fld L ps k).length := YtjdaglmkljbfkaaGreatDoorF.sz_251
          have hwl := wdR_le hc.1 k
          refine TC_skip ?_
          refine TX_then ?_
          refine TC_seq ?_
          refine TC_block ?_
          refine TC_seq ?_
          refine TC_reg ?_
          refine TL_q rfl rfl (QT_indexG k rfl rfl Tryz.underlying246 YtjdaglmkljbfkaaGreatDoorF.sz_251 rfl rfl rfl (fun _ => hk) (fun _ => rfl)) ?_
          refine TL_q rfl rfl (QT_loadRAj (out := fld L ps k) (k * 3) rfl rfl Tryz.underlying251 rfl YtjdaglmkljbfkaaGreatDoorF.sz_251 (hEf fun p => by simp only [List.countP_append, List.countP_cons]; omega) rfl (fun _ => hp1) (fun _ => hp2)) ?_
          refine TL_e rfl rfl rfl (rfl) (ET_alloc rfl YtjdaglmkljbfkaaGreatDoorF.zero_251) ?_
          rintro _ _ ⟨b11, rfl, rfl⟩
          refine TL_e0 rfl rfl (rfl) (ET_storeW (vs := fld L ps k) 0 rfl rfl rfl hfz rfl (List.all_eq_true.2 (fld_one L ps k)) rfl) ?_
          rintro _ _ ⟨rfl, rfl⟩
          refine TL_nil ?_
          refine TX_then ?_
          refine TC_A (St w0 ((b11, 251, fld L ps k) :: (b9, 175, [wv]) :: (Hw ++ ((b8, 246, [.slice (some ⟨fb, fo, none⟩) 7 fcap]) :: E)))) (fun _ h => h) ?_
          refine TC_reg ?_
          refine TL_q rfl rfl (QT_load (v := wv) 1 rfl rfl Tryz.underlying175 rfl rfl rfl (fun _ => rfl)) ?_
          refine TL_q rfl rfl (QT_field rfl rfl YtjdaglmkljbfkaaGreatDoorF.fld_251_0 rfl) ?_
          refine TL_q rfl rfl (QT_load (v := .int .i64 (wdR L k : Int)) 0 rfl rfl Tryz.underlying3 rfl rfl rfl (fun _ => rfl)) ?_
          refine TL_e rfl rfl rfl (rfl) (ET_buildN [_] rfl Tryz.underlying175 YtjdaglmkljbfkaaGreatDoorF.sz_3 YtjdaglmkljbfkaaGreatDoorF.zero_3 rfl rfl rfl (fun v hv => by cases List.mem_singleton.1 hv; rfl)) ?_
          rintro _ _ ⟨b46, rfl, rfl⟩
          refine TL_e rfl rfl rfl (rfl) (ET_appendL (L := [_, _, _]) rfl Tryz.underlying175 el_IntR rfl rfl hF (fun _ h => h) (SlA.own (n := 1) (xs := [.int .i64 (wdR L k : Int)]) 0 rfl rfl (Nat.le_refl 1) (by omega)) (fun u hu => by cases List.mem_singleton.1 hu; rfl) (by omega) (by omega)) ?_
          rintro wv2 _ ⟨H', hF', rfl⟩
          obtain ⟨wad2, wcap2, rfl, _, _⟩ := hF'.slice
          refine TL_e0 rfl rfl (rfl) (ET_store 2 rfl rfl rfl rfl YtjdaglmkljbfkaaGreatDoorF.sz_175 rfl rfl rfl) ?_
          rintro _ _ ⟨rfl, rfl⟩
          refine TL_nil ?_
          refine TX_block_normal ?_
          refine TX_then ?_
          refine TC_reg ?_
          refine TL_q rfl rfl (QT_add rfl rfl rfl rfl (fun _ => ⟨by omega, by omega⟩)) ?_
          refine TL_q rfl rfl (QT_move rfl rfl rfl) ?_
          refine TL_nil ?_
          exact TX_round ⟨(k + 1, _, H'), by show k + 1 ≤ 7; omega, by rw [← wV_snoc hk] at hF'; exact hF'⟩ (by show 7 - (k + 1) < 7 - k; omega) ⟨rfl, rfl, rfl, rfl, rfl, rfl, rfl, trivial⟩ (fun _ h => h.tail.tail)
        ·
          refine TC_exit ?_
          refine TX_then_exit ?_
          refine TX_then_exit ?_
          refine TX_block_here ?_
          refine TX_then ?_
          refine TC_seq ?_
          obtain rfl : k = 7 := by omega
          rw [List.take_of_length_le (by rw [wR_len]; exact Nat.le_refl _)] at hF
          refine TC_reg ?_
          refine TL_q rfl rfl (QT_move rfl rfl rfl) ?_
          refine TL_q rfl rfl (QT_len rfl rfl Tryz.underlying28 rfl) ?_
          refine TL_q rfl rfl (QT_move rfl rfl rfl) ?_
          refine TL_q rfl rfl (QT_quo rfl rfl rfl rfl (fun _ => ⟨by omega, by omega, by rw [hsz]; omega⟩)) ?_
          refine TL_e rfl rfl rfl (rfl) (ET_make (bs.length / szR L) rfl Tryz.underlying31 el_RecR rfl rfl rfl (by rw [hsz, Int.natCast_ediv]) (by omega) (by omega)) ?_
          rintro _ _ ⟨b53, rest, rfl, hrest, rfl⟩
          refine TL_e rfl rfl rfl (rfl) (ET_alloc rfl YtjdaglmkljbfkaaGreatDoorF.zero_31) ?_
          rintro _ _ ⟨b12, rfl, rfl⟩
          refine TL_e0 rfl rfl (rfl) (ET_store 0 rfl rfl rfl rfl YtjdaglmkljbfkaaGreatDoorF.sz_31 rfl rfl rfl) ?_
          rintro _ _ ⟨rfl, rfl⟩
          refine TL_nil ?_
          refine TX_then ?_
          refine TC_seq ?_
          refine TC_seq ?_
          rw [hsz]
          refine TC_reg ?_
          refine TL_q rfl rfl (QT_move rfl rfl rfl) ?_
          refine TL_q rfl rfl (QT_move rfl rfl rfl) ?_
          refine TL_e rfl rfl rfl (rfl) (ET_call rfl YtjdaglmkljbfkaaGreatDoorF.cal_139 rfl (chunk_spec w0 _ bs.length cap (szR L) ad (by omega))) ?_
          rintro _ _ ⟨c1, c2, rfl, rfl⟩
          refine TL_nil ?_
          refine TX_then ?_
          refine TC_block ?_
          obtain ⟨Y, hY⟩ : ∃ Y : Heap, Y = (c2, 3, [.int .i64 (szR L : Int)]) :: (c1, 28, [.slice ad bs.length cap]) :: (b9, 175, [wv]) :: (Hw ++ ((b8, 246, [.slice (some ⟨fb, fo, none⟩) 7 fcap]) :: E)) := ⟨_, rfl⟩
          refine TC_A (St w0 ((b12, 31, [.slice (some ⟨b53, 0, none⟩) 0 (bs.length / szR L)]) :: ([(b53, 77, [] ++ rest)] ++ Y))) (fun w h => by rw [hY]; exact (show St w0 ((c2, 3, [.int .i64 (szR L : Int)]) :: (c1, 28, [.slice ad bs.length cap]) :: (b12, 31, [.slice (some ⟨b53, 0, none⟩) 0 (bs.length / szR L)]) :: (b53, 77, [] ++ rest) :: (b9, 175, [wv]) :: (Hw ++ ((b8, 246, [.slice (some ⟨fb, fo, none⟩) 7 fcap]) :: E))) w from h).cnt fun p => by simp only [List.countP_append, List.countP_cons, List.countP_nil]; omega) ?_
          have hYc : ∀ p : Blk → Bool, Y.countP p = List.countP p [(c2, 3, [.int .i64 (szR L : Int)])] + List.countP p [(c1, 28, [.slice ad bs.length cap])] + List.countP p [(b9, 175, [wv])] + Hw.countP p + List.countP p [(b8, 246, [.slice (some ⟨fb, fo, none⟩) 7 fcap])] + E.countP p := fun p => by
            rw [hY]; simp only [List.countP_append, List.countP_cons, List.countP_nil]; omega
          have hYE : ∀ {X : Heap}, (∀ p : Blk → Bool, Y.countP p ≤ X.countP p) → ∀ p : Blk → Bool, E.countP p ≤ X.countP p := fun h p => by have := h p; rw [hYc] at this; omega
          have hm9 : (b9, 175, [wv]) ∈ Y := by rw [hY]; simp
          have hm8 : (b8, 246, [.slice (some ⟨fb, fo, none⟩) 7 fcap]) ∈ Y := by rw [hY]; simp
          have hm1 : (c1, 28, [.slice ad bs.length cap]) ∈ Y := by rw [hY]; simp
          have hm2 : (c2, 3, [.int .i64 (szR L : Int)]) ∈ Y := by rw [hY]; simp
          have hYw : ∀ {B : Base} {X : Heap}, (∀ p : Blk → Bool, Y.countP p ≤ X.countP p) → SlA (St B X) wv 1 (wR L).length (wV (wR L)) := fun {B X} h => by
            rw [wR_len]
            exact hF.within fun p => by have := h p; rw [hYc] at this; omega
          refine TC_range (m := 0) (bs.length / szR L) (chkV ad (szR L)) (fun k ζ => ∃ rv H, Frag 77 7 rv k (flatR (recsB L bs k)) H ∧ ζ = (b12, 31, [rv]) :: (H ++ Y)) (fun k => [(8, true, .pointer (some ⟨b8, 0, none⟩)), (9, true, .pointer (some ⟨b9, 0, none⟩)), (12, true, .pointer (some ⟨b12, 0, none⟩)), (13, true, chkV ad (szR L) k)]) rfl YtjdaglmkljbfkaaGreatDoorF.cal_156 ⟨_, [(b53, 77, [] ++ rest)], ⟨rfl, .inr ⟨b53, _, rest, rfl, ⟨Nat.zero_le _, by omega⟩, by show bs.length / szR L * 7 ≤ rest.length; rw [hrest]; exact Nat.le_refl _, rfl⟩⟩, rfl⟩ rfl (fun B hU l => chunk_iter _ (fun k w h => by obtain ⟨ζ, hK, hS⟩ := h; exact ⟨ζ, hK, St.calm _ _ _ hS⟩) c1 c2 bs.length cap (szR L) (bs.length / szR L) l ad hcap (by omega) hNs (by omega) (fun k w h => by
            obtain ⟨ζ, ⟨rv, H, _, rfl⟩, hS⟩ := h
            exact Rd.ownA (w0 := B) (List.mem_cons_of_mem _ (List.mem_append_right _ hm1)) 0 rfl w hS) (fun k w h => by
            obtain ⟨ζ, ⟨rv, H, _, rfl⟩, hS⟩ := h
            exact Rd.ownA (w0 := B) (List.mem_cons_of_mem _ (List.mem_append_right _ hm2)) 0 rfl w hS)) ?assign ?body ?done
          ·
            intro B l k ζ hU hk hK
            refine TCI_reg ?_
            refine TL_q rfl rfl (QT_assign rfl rfl rfl) ?_
            refine TL_nil ?_
            exact TX_AQ ⟨rfl, rfl, rfl, rfl, trivial⟩ (fun _ h => h)
          ·
            intro B l k ζ hU hk hK
            obtain ⟨rv, H, hFr, rfl⟩ := hK
            have hks : k * szR L + szR L ≤ bs.length := by
              have : (k + 1) * szR L ≤ bs.length / szR L * szR L := Nat.mul_le_mul_right _ hk
              rw [Nat.add_mul, hNs] at this
              omega
            obtain ⟨cs, hcs⟩ : ∃ cs, cs = (bs.drop (k * szR L)).take (szR L) := ⟨_, rfl⟩
            have hcl : cs.length = szR L := by rw [hcs, List.length_take, List.length_drop]; omega
            have hcb : ∀ c ∈ cs, c < 256 := fun c hc => hb c (by rw [hcs] at hc; exact List.mem_of_mem_drop (List.mem_of_mem_take hc))
            have hcv : ∀ {X : Heap}, (∀ p : Blk → Bool, Y.countP p ≤ X.countP p) → SlA (St B X) (chkV ad (szR L) k) 1 cs.length (byV cs) := fun h => by
              rw [hcl, hcs, byV_cut]
              exact (chkV_sla hs hks (by omega)).mono fun w hw => hEη hU (hYE h) hw
            have htot : tot (wR L) ≤ 8 * cs.length := by rw [hcl]; unfold szR; omega
            obtain ⟨v, hv⟩ : ∃ v, v = decN (wR L) (byB cs) := ⟨_, rfl⟩
            have hvl : v.length = 7 := by rw [hv, decN_len, wR_len]
            have hrec : setRN v 7 = recAt L bs k := by rw [hv, setRN_all, hcs, recAt_cut]
            refine TCI_block ?_
            refine TCI_seq ?_
            refine TCI_reg ?_
            refine TL_e rfl rfl rfl (rfl) (ET_alloc rfl YtjdaglmkljbfkaaGreatDoorF.zero_77) ?_
            rintro _ _ ⟨b14, rfl, rfl⟩
            refine TL_nil ?_
            refine TXI_then ?_
            refine TCI_seq ?_
            refine TCI_seq ?_
            refine TCI_A (St B ((b14, 77, rvV (setRN v 0)) :: (b12, 31, [rv]) :: (H ++ Y))) (fun _ h => h) ?_
            refine TCI_reg ?_
            refine TL_q rfl rfl (QT_move rfl rfl rfl) ?_
            refine TL_q rfl rfl (QT_loadRj (cs := [wv]) (v := wv) 0 rfl rfl Tryz.underlying175 rfl (Rd.ownA (w0 := B) (List.mem_cons_of_mem _ (List.mem_cons_of_mem _ (List.mem_append_right _ hm9))) 0 rfl) rfl (fun _ => rfl)) ?_
            refine TL_e rfl rfl rfl (rfl) (ET_call rfl YtjdaglmkljbfkaaGreatDoorF.cal_140 rfl (read_spec B _ (chkV ad (szR L) k) wv cs (wR L) (hcv fun p => by simp only [List.countP_append, List.countP_cons]; omega) hcb (by omega) (hYw fun p => by simp only [List.countP_append, List.countP_cons]; omega) (by rw [wR_len]; decide) (wR_le hc.1) htot)) ?_
            rintro uv _ ⟨Hu, hFu, rfl⟩
            rw [wR_len, ← hv] at hFu
            obtain ⟨_, uad, ucap, ub, uo, rfl, hucap, huad, hurd⟩ := (hFu.sla (w0 := B) (η := [])).some
            obtain rfl := huad (by decide)
            refine TL_q rfl rfl (QT_len rfl rfl Tryz.underlying255 rfl) ?_
            refine TL_q rfl rfl (QT_move rfl rfl rfl) ?_
            refine TL_nil ?_
            refine TXI_then ?_
            refine TCI_block ?_
            refine TCI_loop (γ := { j : Nat // j ≤ 7 }) (fun u => [(8, true, .pointer (some ⟨b8, 0, none⟩)), (9, true, .pointer (some ⟨b9, 0, none⟩)), (12, true, .pointer (some ⟨b12, 0, none⟩)), (14, true, .pointer (some ⟨b14, 0, none⟩)), (60, true, .slice (some ⟨ub, uo, none⟩) 7 ucap), (61, true, .int .i64 7), (62, true, .int .i64 (u.1 : Int))]) (fun u => St B ((b14, 77, rvV (setRN v u.1)) :: (Hu ++ ((b12, 31, [rv]) :: (H ++ Y))))) (fun u => 7 - u.1) ⟨0, Nat.zero_le _⟩ ⟨rfl, rfl, rfl, rfl, rfl, rfl, rfl, trivial⟩ (fun w h => h.cnt fun p => by simp only [List.countP_append, List.countP_cons, List.countP_nil]; omega) ?_
            rintro ⟨j, hj7⟩
            dsimp only at hj7 ⊢
            refine TCI_seq ?_
            refine TCI_reg ?_
            refine TL_q rfl rfl (QT_lss rfl rfl rfl rfl) ?_
            refine TL_nil ?_
            refine TXI_then ?_
            refine TCI_seq ?_
            refine TCI_cond_dec rfl (fun h63 => ?_) (fun h63 => ?_)
            ·
              have hj : j < 7 := by omega
              obtain ⟨x, hx⟩ := get7 hvl hj
              have hst := setRN_step hj hx
              have hxv : (u32V v)[j]? = some (.int .u32 (x : Int)) := by simp [u32V, hx]
              have hx32 : x < 4294967296 := by
                rw [hv, decN_at (wR_at hj)] at hx
                cases hx
                have h1 := num_lt (((byB cs).drop (tot ((wR L).take j))).take (wdR L j))
                have h2 : (((byB cs).drop (tot ((wR L).take j))).take (wdR L j)).length ≤ 32 := by
                  rw [List.length_take]
                  have := wdR_le hc.1 j
                  omega
                exact Nat.lt_of_lt_of_le h1 (Nat.le_trans (Nat.pow_le_pow_right (by decide) h2) (by decide))
              have hfs : (fldsC L ps 7)[j * 3 + 2]? = some (.func (.func (sF j)) #[] (capF ps j)) := by rw [fldsC_at L ps hj (by decide)]; rfl
              refine TCI_skip ?_
              refine TXI_then ?_
              refine TCI_seq ?_
              refine TCI_block ?_
              refine TCI_seq ?_
              refine TCI_reg ?_
              refine TL_q rfl rfl (QT_move rfl rfl rfl) ?_
              refine TL_q rfl rfl (QT_indexG j rfl rfl Tryz.underlying255 YtjdaglmkljbfkaaGreatDoorF.sz_70 rfl rfl rfl (fun _ => hj) (fun _ => rfl)) ?_
              refine TL_q rfl rfl (QT_loadRj (v := .int .u32 (x : Int)) j rfl rfl Tryz.underlying70 rfl (hurd.mono fun w h => h.cnt fun p => by simp only [List.countP_append, List.countP_cons, List.countP_nil]; omega) rfl (fun _ => hxv)) ?_
              refine TL_q rfl rfl (QT_assign rfl rfl rfl) ?_
              refine TL_q rfl rfl (QT_assign rfl rfl rfl) ?_
              refine TL_nil ?_
              refine TXI_then ?_
              refine TCI_reg ?_
              refine TL_q rfl rfl (QT_loadRj (cs := [.slice (some ⟨fb, fo, none⟩) 7 fcap]) (v := .slice (some ⟨fb, fo, none⟩) 7 fcap) 0 rfl rfl Tryz.underlying246 rfl (Rd.ownA (w0 := B) (List.mem_cons_of_mem _ (List.mem_append_right _ (List.mem_cons_of_mem _ (List.mem_append_right _ hm8)))) 0 rfl) rfl (fun _ => rfl)) ?_
              refine TL_q rfl rfl (QT_move rfl rfl rfl) ?_
              refine TL_q rfl rfl (QT_indexG j rfl rfl Tryz.underlying246 YtjdaglmkljbfkaaGreatDoorF.sz_251 rfl rfl rfl (fun _ => hj) (fun _ => rfl)) ?_
              refine TL_q rfl rfl (QT_field rfl rfl YtjdaglmkljbfkaaGreatDoorF.fld_251_2 rfl) ?_
              refine TL_q rfl rfl (QT_loadRj (v := .func (.func (sF j)) #[] (capF ps j)) (j * 3 + 2) rfl rfl Tryz.underlying249 rfl (hEf (hYE fun p => by simp only [List.countP_append, List.countP_cons]; omega)) rfl (fun _ => hfs)) ?_
              refine TL_q rfl rfl (QT_move rfl rfl rfl) ?_
              refine TL_e rfl rfl rfl (rfl) (ET_goes (Goes.value rfl rfl (sF_ok j) rfl) (setter_spec B _ ps j b14 (setRN v j) x hj (setRN_len v j) hx32 (hEp (hYE fun p => by simp only [List.countP_append, List.countP_cons]; omega)))) ?_
              rintro _ _ ⟨rfl, rfl⟩
              refine TL_nil ?_
              refine TX_block_normal ?_
              refine TXI_then ?_
              refine TCI_reg ?_
              refine TL_q rfl rfl (QT_add rfl rfl rfl rfl (fun _ => ⟨by omega, by omega⟩)) ?_
              refine TL_q rfl rfl (QT_move rfl rfl rfl) ?_
              refine TL_nil ?_
              exact TX_round ⟨j + 1, hj⟩ (by show 7 - (j + 1) < 7 - j; omega) ⟨rfl, rfl, rfl, rfl, rfl, rfl, rfl, trivial⟩ (fun _ h => by rw [hst] at h; exact h)
            ·
              refine TCI_exit ?_
              refine TX_then_exit ?_
              refine TX_then_exit ?_
              refine TX_block_here ?_
              refine TXI_then ?_
              obtain rfl : j = 7 := by omega
              rw [hrec]
              have hrF : RcF (recAt L bs k) := dcR_rcf _ _
              have hrl : (rvV (recAt L bs k)).length = 7 := rvV_len hrF.len
              have hri := rvV_ints hrF
              refine TCI_A (St B ((b12, 31, [rv]) :: (b14, 77, rvV (recAt L bs k)) :: (H ++ Y))) (fun w h => h.cnt fun p => by simp only [List.countP_append, List.countP_cons, List.countP_nil]; omega) ?_
              refine TCI_reg ?_
              refine TL_q rfl rfl (QT_load 0 rfl rfl Tryz.underlying31 rfl rfl rfl (fun _ => rfl)) ?_
              refine TL_q rfl rfl (QT_loadRAj (out := rvV (recAt L bs k)) 0 rfl rfl Tryz.underlying77 rfl YtjdaglmkljbfkaaGreatDoorF.sz_77 (Rd.own (w0 := B) (cs := rvV (recAt L bs k)) 1 rfl) rfl (fun _ => by omega) (fun _ => by rw [List.drop_zero, List.take_of_length_le (by omega)])) ?_
              refine TL_e rfl rfl rfl (rfl) (ET_buildN [_] rfl Tryz.underlying31 YtjdaglmkljbfkaaGreatDoorF.sz_77 YtjdaglmkljbfkaaGreatDoorF.zero_77 rfl rfl rfl (fun v hv => by cases List.mem_singleton.1 hv; exact hrl)) ?_
              rintro _ _ ⟨b77, rfl, rfl⟩
              refine TL_e rfl rfl rfl (rfl) (ET_appendL (L := [_, _, _]) rfl Tryz.underlying31 el_RecR rfl rfl hFr (fun _ h => h) (SlA.own (n := 1) (xs := rvV (recAt L bs k)) 0 rfl (by rw [List.drop_zero, List.take_of_length_le (by simp [Value.cells, hrl])]; simp [Value.cells]) (by simp [Value.cells, hrl]) (by omega)) hri.oneCell (by omega) (by omega)) ?_
              rintro rv2 _ ⟨H', hF', rfl⟩
              obtain ⟨rad2, rcap2, rfl, _, _⟩ := hF'.slice
              refine TL_e0 rfl rfl (rfl) (ET_store 1 rfl rfl rfl rfl YtjdaglmkljbfkaaGreatDoorF.sz_31 rfl rfl rfl) ?_
              rintro _ _ ⟨rfl, rfl⟩
              refine TL_nil ?_
              refine TX_block_normal ?_
              refine TX_RQ fun w h => ⟨_, ⟨_, H', by rw [recsB_snoc, flatR_snoc]; exact hF', rfl⟩, ?_⟩
              have h' : St B ((b77, 77, _) :: (b12, 31, [.slice rad2 (k + 1) rcap2]) :: (b14, 77, rvV (recAt L bs k)) :: (H' ++ Y)) w := h
              exact h'.cnt fun p => by simp only [List.countP_append, List.countP_cons, List.countP_nil]; omega
          ·
            intro D ζ hK
            obtain ⟨rv, H, hFr, rfl⟩ := hK
            refine TXD_block ?_
            refine TXD_then ?_
            refine TCD_seq ?_
            refine TCD_reg ?_
            refine TLD_q rfl rfl (QT_under (QT_load (w0 := w0) (η := (b12, 31, [rv]) :: (H ++ Y)) (v := rv) 0 rfl rfl Tryz.underlying31 rfl rfl rfl (fun _ => rfl)) (fun w h => h.1)) ?_
            refine TLD_q rfl rfl (QT_assign rfl rfl rfl) ?_
            refine TLD_q rfl rfl (QT_assign rfl rfl rfl) ?_
            refine TLD_nil ?_
            refine TXD_then ?_
            refine TCD_ret ?_
            exact fun a w hf hd hA => TXD_ret (w0 := w0) (η := H ++ η) (D := D) (fun a w hf => res2 (A := fun _ => True) rfl rfl rfl a w hf trivial) ⟨rv, H, by rw [eP], by rw [eO, recsB_len]; exact hFr, rfl⟩ a w hf hd ⟨hA.1.cnt fun p => by
              simp only [List.countP_append, List.countP_cons]
              rw [hYc, hEc]
              omega, hA.2⟩
end Go.Proofs.YtjdaglmkljbfkaaGreatDoor
namespace Go.Proofs.YtjdaglmkljbfkaaGreatDoor
open Go Go.Gx Go.RowKit
set_option maxRecDepth 100000
theorem layR_at {L : Lay} {k : Nat} {z : Int} {n : Nat} (h : L.cells[k]? = some (.int .i64 z)) (e : (n : Int) = z) : L.cells[k]? = some (.int .i64 (n : Int)) := by rw [e]; exact h
theorem getV_ltR (bs : List Nat) (p n : Int) : getV bs p n < 4294967296 := by
  unfold getV
  split
  · rename_i h
    unfold getE at h
    have hn : ¬ (p < 0 ∨ n < 0 ∨ 32 < n) := fun hx => by rw [if_pos hx] at h; exact absurd h (by decide)
    refine Nat.lt_of_lt_of_le (num_lt _) (Nat.le_trans (Nat.pow_le_pow_right (by decide) (show _ ≤ 32 by rw [List.length_take]; omega)) (by decide))
  · decide
def okRB (L : Lay) : Bool := decide (okB L = true ∧ L.ty ≤ 5)
theorem rrcheck_spec (w0 : Base) (η : Heap) (L : Lay) :
    CallsT Tryz.prog 104 [L.val] (St w0 η) fun v A' => v = .bool (okRB L) ∧ A' = St w0 η := by
  refine CallsT.body Tryz.func104 rfl rfl ?_
  simp only [Tryz.ntmps104, slotsOf, Nat.reduceAdd]
  refine TC_seq ?_
  refine TC_reg ?_
  refine TL_e rfl rfl rfl (rfl) (ET_box rfl rfl) ?_
  rintro _ _ ⟨b1, rfl, rfl⟩
  refine TL_q rfl rfl (QT_assign rfl rfl rfl) ?_
  refine TL_nil ?_
  refine TX_then ?_
  refine TC_seq ?_
  refine TC_reg ?_
  refine TL_q rfl rfl (QT_loadW 0 rfl rfl Tryz.underlying27 rfl rfl rfl YtjdaglmkljbfkaaGreatDoorF.sz_27) ?_
  refine TL_cq rfl rfl rfl rfl YtjdaglmkljbfkaaGreatDoorF.cal_28 rfl (fun _ => rcheck_spec w0 _ L) ?_
  refine TL_q rfl rfl (QT_eql rfl rfl rfl rfl) ?_
  refine TL_q rfl rfl (QT_move rfl rfl rfl) ?_
  refine TL_q rfl rfl (QT_field rfl rfl YtjdaglmkljbfkaaGreatDoorF.fld_27_0 rfl) ?_
  refine TL_q rfl rfl (QT_load 0 rfl rfl Tryz.underlying3 rfl rfl rfl (fun _ => rfl)) ?_
  refine TL_q rfl rfl (QT_eql rfl rfl rfl rfl) ?_
  refine TL_q rfl rfl (QT_move rfl rfl rfl) ?_
  refine TL_q rfl rfl (QT_field rfl rfl YtjdaglmkljbfkaaGreatDoorF.fld_27_0 rfl) ?_
  refine TL_q rfl rfl (QT_load 0 rfl rfl Tryz.underlying3 rfl rfl rfl (fun _ => rfl)) ?_
  refine TL_q rfl rfl (QT_eql rfl rfl rfl rfl) ?_
  refine TL_q rfl rfl (QT_or rfl rfl rfl rfl) ?_
  refine TL_q rfl rfl (QT_and rfl rfl rfl rfl) ?_
  refine TL_q rfl rfl (QT_assign rfl rfl rfl) ?_
  refine TL_nil ?_
  refine TX_then ?_
  refine TC_ret ?_
  exact TX_ret (.inl rfl) (res1 rfl rfl) ⟨_, ⟨by
    unfold okRB errOf
    by_cases h : okB L = true
    · have := (okB_bounds h).2.2.2.1
      rw [if_pos h]
      congr 1
      rw [Bool.eq_iff_iff]
      simp [h]
      omega
    · simp [h], rfl⟩, (fun _ h => by first | exact h | exact h.tail | exact h.tail.tail | exact h.tail.tail.tail | exact h.tail.tail.tail.tail | exact h.tail.tail.tail.tail.tail | exact h.tail.tail.tail.tail.tail.tail | exact h.tail.tail.tail.tail.tail.tail.tail | exact h.tail.tail.tail.tail.tail.tail.tail.tail | exact h.tail.tail.tail.tail.tail.tail.tail.tail.tail | exact h.tail.tail.tail.tail.tail.tail.tail.tail.tail.tail | exact h.tail.tail.tail.tail.tail.tail.tail.tail.tail.tail.tail | exact h.tail.tail.tail.tail.tail.tail.tail.tail.tail.tail.tail.tail | exact h.tail.tail.tail.tail.tail.tail.tail.tail.tail.tail.tail.tail.tail)⟩
theorem rflag_spec (w0 : Base) (η : Heap) (L : Lay) (hok : okB L = true) :
    CallsT Tryz.prog 107 [L.val] (St w0 η) fun v A' => v = .int .i64 (flN L : Int) ∧ A' = St w0 η := by
  have hfn := (flN_bd hok).2
  refine CallsT.body Tryz.func107 rfl rfl ?_
  simp only [Tryz.ntmps107, slotsOf, Nat.reduceAdd]
  refine TC_seq ?_
  refine TC_reg ?_
  refine TL_e rfl rfl rfl (rfl) (ET_box rfl rfl) ?_
  rintro _ _ ⟨b1, rfl, rfl⟩
  refine TL_q rfl rfl (QT_assign rfl rfl rfl) ?_
  refine TL_nil ?_
  refine TX_then ?_
  refine TC_seq ?_
  refine TC_seq ?_
  refine TC_reg ?_
  refine TL_q rfl rfl (QT_field rfl rfl YtjdaglmkljbfkaaGreatDoorF.fld_27_0 rfl) ?_
  refine TL_q rfl rfl (QT_load (v := .int .i64 L.ty) 0 rfl rfl Tryz.underlying3 rfl rfl rfl (fun _ => rfl)) ?_
  refine TL_q rfl rfl (QT_eql rfl rfl rfl rfl) ?_
  refine TL_nil ?_
  refine TX_then ?_
  refine TC_cond_dec rfl (fun h5 => ?_) (fun h5 => ?_)
  ·
    refine TC_seq ?_
    refine TC_reg ?_
    refine TL_q rfl rfl (QT_assign rfl rfl rfl) ?_
    refine TL_nil ?_
    refine TX_then ?_
    refine TC_ret ?_
    refine TX_then_ret ?_
    exact TX_ret (.inl rfl) (res1 rfl rfl) ⟨_, ⟨by rw [hfn]; unfold flb; rw [if_pos h5], rfl⟩, fun _ h => h.tail⟩
  ·
    refine TC_skip ?_
    refine TX_then ?_
    refine TC_seq ?_
    refine TC_reg ?_
    refine TL_q rfl rfl (QT_field rfl rfl YtjdaglmkljbfkaaGreatDoorF.fld_27_3 rfl) ?_
    refine TL_q rfl rfl (QT_load (v := .int .i64 L.fl) 0 rfl rfl Tryz.underlying3 rfl rfl rfl (fun _ => rfl)) ?_
    refine TL_q rfl rfl (QT_assign rfl rfl rfl) ?_
    refine TL_nil ?_
    refine TX_then ?_
    refine TC_ret ?_
    exact TX_ret (.inl rfl) (res1 rfl rfl) ⟨_, ⟨by rw [hfn]; unfold flb; rw [if_neg h5], rfl⟩, fun _ h => h.tail⟩
theorem rtake_spec (w0 : Base) (η : Heap) (sv : Value) (bs : List Nat) (a n : Nat) (hs : SlA (St w0 η) sv 1 bs.length (byV bs)) (hb : ∀ c ∈ bs, c < 256) (ha : a ≤ 1000000000000) (hn : n ≤ 1000) (hl : bs.length ≤ 140737488355328) :
    CallsT Tryz.prog 106 [sv, .int .i64 (a : Int), .int .i64 (n : Int)] (St w0 η) fun v A' => v = .tuple #[.int .u32 ((getV bs (a : Int) (n : Int) : Nat) : Int), .int .i64 ((a + n : Nat) : Int)] ∧ A' = St w0 η := by
  refine CallsT.body Tryz.func106 rfl rfl ?_
  simp only [Tryz.ntmps106, slotsOf, Nat.reduceAdd]
  refine TC_seq ?_
  refine TC_reg ?_
  refine TL_q rfl rfl (QT_assign rfl rfl rfl) ?_
  refine TL_q rfl rfl (QT_assign rfl rfl rfl) ?_
  refine TL_nil ?_
  refine TX_then ?_
  refine TC_seq ?_
  refine TC_reg ?_
  refine TL_q rfl rfl (QT_move rfl rfl rfl) ?_
  refine TL_q rfl rfl (QT_move rfl rfl rfl) ?_
  refine TL_q rfl rfl (QT_move rfl rfl rfl) ?_
  refine TL_cq rfl rfl rfl rfl YtjdaglmkljbfkaaGreatDoorF.cal_109 rfl (fun _ => rget_spec w0 _ _ bs _ _ hs hb ⟨by omega, by omega⟩ ⟨by omega, by omega⟩ hl) ?_
  refine TL_q rfl rfl (QT_move rfl rfl rfl) ?_
  refine TL_q rfl rfl (QT_extract rfl rfl rfl rfl) ?_
  refine TL_q rfl rfl (QT_extract rfl rfl rfl rfl) ?_
  refine TL_q rfl rfl (QT_assign rfl rfl rfl) ?_
  refine TL_q rfl rfl (QT_assign rfl rfl rfl) ?_
  refine TL_nil ?_
  refine TX_then ?_
  refine TC_seq ?_
  refine TC_reg ?_
  refine TL_q rfl rfl (QT_move rfl rfl rfl) ?_
  refine TL_q rfl rfl (QT_move rfl rfl rfl) ?_
  refine TL_q rfl rfl (QT_move rfl rfl rfl) ?_
  refine TL_q rfl rfl (QT_to (QT_add rfl rfl rfl rfl (fun _ => ⟨by omega, by omega⟩)) (show (a : Int) + (n : Int) = ((a + n : Nat) : Int) by omega)) ?_
  refine TL_q rfl rfl (QT_assign rfl rfl rfl) ?_
  refine TL_q rfl rfl (QT_assign rfl rfl rfl) ?_
  refine TL_nil ?_
  refine TX_then ?_
  refine TC_ret ?_
  exact TX_ret (.inl rfl) (res2 rfl rfl rfl) ⟨_, ⟨rfl, rfl⟩, fun _ h => h⟩
theorem setRN_skip {L : Lay} {l : List Bool} : ∀ (n k : Nat), k + n ≤ 7 → (∀ p, k ≤ p → p < k + n → wdR L p = 0) → setRN (decN (wR L) l) (k + n) = setRN (decN (wR L) l) k
  | 0, _, _, _ => rfl
  | n + 1, k, hn, h => by
    rw [← Nat.add_assoc]
    have hk : k + n < 7 := by omega
    have hx := decN_at (l := l) (wR_at (L := L) hk)
    rw [← setRN_step hk hx, setRN_skip n k (by omega) fun p h1 h2 => h p h1 (by omega), h (k + n) (by omega) (by omega), List.take_zero]
    have e : num ([] : List Bool) % rkM (k + n) = 0 := Nat.zero_mod _
    rw [e]
    apply List.ext_getElem?
    intro p
    rw [List.getElem?_set]
    by_cases hp : k + n = p
    · subst hp
      rw [if_pos rfl, if_pos (by rw [setRN_len]; exact hk), setRN, List.getElem?_map, List.getElem?_range hk]
      simp only [Option.map_some]
      by_cases h1 : k + n < k
      · omega
      · rw [if_neg h1]
    · rw [if_neg hp]
set_option maxHeartbeats 4000000 in
theorem rrget_spec (w0 : Base) (η : Heap) (L : Lay) (sv : Value) (bs : List Nat) (hs : SlA (St w0 η) sv 1 bs.length (byV bs)) (hb : ∀ c ∈ bs, c < 256) (hl : bs.length ≤ 100000000) :
    CallsT Tryz.prog 29 [L.val, sv] (St w0 η) fun v A' => ∃ rv H, v = .tuple #[rv, .int .i64 (errRG L bs)] ∧ Frag 77 7 rv (outRG L bs).length (flatR (outRG L bs)) H ∧ A' = St w0 (H ++ η) := by
  have hs0 := hs
  obtain ⟨hbl, ad, cap, sb, so, rfl, hcap, had, hrd⟩ := hs.some
  refine CallsT.body Tryz.func29 rfl rfl ?_
  simp only [Tryz.ntmps29, slotsOf, Nat.reduceAdd]
  refine TC_seq ?_
  refine TC_reg ?_
  refine TL_e rfl rfl rfl (rfl) (ET_box rfl rfl) ?_
  rintro _ _ ⟨b2, rfl, rfl⟩
  refine TL_q rfl rfl (QT_assign rfl rfl rfl) ?_
  refine TL_q rfl rfl (QT_assign rfl rfl rfl) ?_
  refine TL_nil ?_
  refine TX_then ?_
  refine TC_seq ?_
  refine TC_seq ?_
  refine TC_A (St w0 ((b2, 27, L.cells) :: η)) (fun _ h => h) ?_
  refine TC_reg ?_
  refine TL_q rfl rfl (QT_loadW 0 rfl rfl Tryz.underlying27 rfl rfl rfl YtjdaglmkljbfkaaGreatDoorF.sz_27) ?_
  refine TL_cq rfl rfl rfl rfl YtjdaglmkljbfkaaGreatDoorF.cal_104 rfl (fun _ => rrcheck_spec w0 _ L) ?_
  refine TL_q rfl rfl (QT_not rfl rfl rfl) ?_
  refine TL_nil ?_
  refine TX_then ?_
  refine TC_cond rfl (fun h15 => ?_) (fun h15 => ?_)
  ·
    refine TC_seq ?_
    refine TC_reg ?_
    refine TL_q rfl rfl (QT_assign rfl rfl rfl) ?_
    refine TL_q rfl rfl (QT_assign rfl rfl rfl) ?_
    refine TL_nil ?_
    refine TX_then ?_
    refine TC_ret ?_
    refine TX_then_ret ?_
    have eP : errRG L bs = 4 := by
      unfold errRG; rw [if_neg]
      intro hc
      unfold okRB at h15
      simp [hc.1, hc.2] at h15
    exact TX_ret (.inl rfl) (res2 rfl rfl rfl) ⟨_, ⟨_, [], by rw [eP], fragNoneRG eP (by decide), rfl⟩, fun _ h => h.tail⟩
  ·
    refine TC_skip ?_
    refine TX_then ?_
    refine TC_seq ?_
    refine TC_seq ?_
    have hc : okB L = true ∧ L.ty ≤ 5 := by
      unfold okRB at h15
      simpa using h15
    have hsz := sizeR_eq hc.1 (ty45 hc) 0
    have hszb := szR_bd hc.1
    have hsz1 : (szR L : Int) ≠ 0 := by omega
    have hbd := okB_bounds hc.1
    have hco : (L.co.toNat : Int) = L.co := by have := hbd.1; omega
    have hcm : (L.cm.toNat : Int) = L.cm := by have := hbd.2.1; omega
    have hcs : (L.cs.toNat : Int) = L.cs := by have := hbd.2.2.1; omega
    have hco32 : L.co.toNat ≤ 32 := by have := hbd.1; omega
    have hcm16 : L.cm.toNat ≤ 16 := by have := hbd.2.1; omega
    have hcs4 : 1 ≤ L.cs.toNat ∧ L.cs.toNat ≤ 4 := by have := hbd.2.2.1; omega
    have lco : L.cells[0 + 1]? = some (.int .i64 (L.co.toNat : Int)) := layR_at rfl hco
    have lcm : L.cells[0 + 2]? = some (.int .i64 (L.cm.toNat : Int)) := layR_at rfl hcm
    have lcs : L.cells[0 + 4]? = some (.int .i64 (L.cs.toNat : Int)) := layR_at rfl hcs
    have hfl8 := (flN_bd hc.1).1
    have hflag := fun A => rflag_spec w0 A L hc.1
    have hw0 : wdR L 0 = flN L := rfl
    have hw1 : wdR L 1 = L.co.toNat := rfl
    have hw2 : wdR L 2 = L.co.toNat := rfl
    have hw3 : ∀ c, wdR L (3 + c) = if c < L.cs.toNat then L.cm.toNat else 0 := fun c => by unfold wdR; rw [if_neg (by omega), if_neg (by omega), show 3 + c - 3 = c by omega]
    generalize hFL : flN L = FL at hfl8 hflag hw0
    generalize hCO : L.co.toNat = CO at lco hco32 hw1 hw2
    generalize hCM : L.cm.toNat = CM at lcm hcm16 hw3
    generalize hCS : L.cs.toNat = CS at lcs hcs4 hw3
    refine TC_reg ?_
    refine TL_q rfl rfl (QT_move rfl rfl rfl) ?_
    refine TL_q rfl rfl (QT_len rfl rfl Tryz.underlying28 rfl) ?_
    refine TL_q rfl rfl (QT_gtr rfl rfl rfl rfl) ?_
    refine TL_nil ?_
    refine TX_then ?_
    refine TC_cond_dec rfl (fun h18 => ?_) (fun h18 => ?_)
    ·
      refine TC_seq ?_
      refine TC_reg ?_
      refine TL_q rfl rfl (QT_assign rfl rfl rfl) ?_
      refine TL_q rfl rfl (QT_assign rfl rfl rfl) ?_
      refine TL_nil ?_
      refine TX_then ?_
      refine TC_ret ?_
      refine TX_then_ret ?_
      have eP : errRG L bs = 3 := by unfold errRG; rw [if_pos hc, if_pos (by omega)]
      exact TX_ret (.inl rfl) (res2 rfl rfl rfl) ⟨_, ⟨_, [], by rw [eP], fragNoneRG eP (by decide), rfl⟩, fun _ h => h.tail⟩
    ·
      refine TC_skip ?_
      refine TX_then ?_
      refine TC_seq ?_
      refine TC_reg ?_
      refine TL_q rfl rfl (QT_loadW 0 rfl rfl Tryz.underlying27 rfl rfl rfl YtjdaglmkljbfkaaGreatDoorF.sz_27) ?_
      refine TL_cq rfl rfl rfl rfl YtjdaglmkljbfkaaGreatDoorF.cal_105 rfl (fun _ => rsize_spec w0 _ L 0 (by decide)) ?_
      refine TL_q rfl rfl (QT_assign rfl rfl rfl) ?_
      refine TL_nil ?_
      refine TX_then ?_
      refine TC_seq ?_
      refine TC_seq ?_
      refine TC_reg ?_
      refine TL_q rfl rfl (QT_move rfl rfl rfl) ?_
      refine TL_q rfl rfl (QT_len rfl rfl Tryz.underlying28 rfl) ?_
      refine TL_q rfl rfl (QT_move rfl rfl rfl) ?_
      refine TL_q rfl rfl (QT_rem rfl rfl rfl rfl (fun _ => ⟨by omega, by rw [hsz]; omega⟩)) ?_
      refine TL_q rfl rfl (QT_neq rfl rfl rfl rfl) ?_
      refine TL_nil ?_
      refine TX_then ?_
      refine TC_cond_dec rfl (fun h25 => ?_) (fun h25 => ?_)
      ·
        refine TC_seq ?_
        refine TC_reg ?_
        refine TL_q rfl rfl (QT_assign rfl rfl rfl) ?_
        refine TL_q rfl rfl (QT_assign rfl rfl rfl) ?_
        refine TL_nil ?_
        refine TX_then ?_
        refine TC_ret ?_
        refine TX_then_ret ?_
        have eP : errRG L bs = 5 := by
          unfold errRG
          rw [if_pos hc, if_neg (by omega), if_neg]
          intro e
          rw [hsz] at h25
          apply h25
          rw [← Int.natCast_emod, e]
          rfl
        exact TX_ret (.inl rfl) (res2 rfl rfl rfl) ⟨_, ⟨_, [], by rw [eP], fragNoneRG eP (by decide), rfl⟩, fun _ h => h.tail⟩
      ·
        have hmod : bs.length % szR L = 0 := by
          have h := Classical.not_not.1 h25
          rw [hsz, ← Int.natCast_emod] at h
          omega
        have hNs : bs.length / szR L * szR L = bs.length := Nat.div_mul_cancel (Nat.dvd_of_mod_eq_zero hmod)
        have hNl : bs.length / szR L ≤ 65536 := Nat.le_trans (Nat.div_le_self _ _) (by omega)
        have eP : errRG L bs = 0 := by unfold errRG; rw [if_pos hc, if_neg (by omega), if_pos hmod]
        have eO : outRG L bs = recsB L bs (bs.length / szR L) := by unfold outRG; rw [if_pos eP]
        obtain ⟨N, hN⟩ : ∃ N, N = bs.length / szR L := ⟨_, rfl⟩
        rw [← hN] at hNs hNl eO
        rw [hsz]
        have hsz17 := hszb.2.1
        have hsz0 := hszb.1
        have htot : tot (wR L) ≤ 8 * szR L := by unfold szR; omega
        have hrA : ∀ k, dcR L (byB (bs.drop (k * szR L))) = recAt L bs k := fun k => rfl
        have hkk : ∀ k, (k + 1) * szR L = k * szR L + szR L := fun k => by rw [Nat.add_mul, Nat.one_mul]
        have hkl : ∀ k, k < N → k * szR L + szR L ≤ bs.length := fun k hk => by
          have : (k + 1) * szR L ≤ N * szR L := Nat.mul_le_mul_right _ hk
          rw [hkk, hNs] at this
          exact this
        generalize hSZ : szR L = SZ at *
        refine TC_skip ?_
        refine TX_then ?_
        refine TC_seq ?_
        refine TC_reg ?_
        refine TL_q rfl rfl (QT_assign rfl rfl rfl) ?_
        refine TL_nil ?_
        refine TX_then ?_
        refine TC_seq ?_
        refine TC_seq ?_
        refine TC_reg ?_
        refine TL_q rfl rfl (QT_assign rfl rfl rfl) ?_
        refine TL_nil ?_
        refine TX_then ?_
        refine TC_block ?_
        refine TC_loop (γ := { t : Nat × Value × Heap // t.1 ≤ N ∧ Frag 77 7 t.2.1 t.1 (flatR (recsB L bs t.1)) t.2.2 }) (fun u => [(1, true, .slice ad bs.length cap), (2, true, .pointer (some ⟨b2, 0, none⟩)), (6, true, .int .i64 (SZ : Int)), (7, true, u.1.2.1), (8, true, .int .i64 ((u.1.1 * SZ : Nat) : Int))]) (fun u => St w0 ((b2, 27, L.cells) :: (u.1.2.2 ++ η))) (fun u => N - u.1.1) ⟨(0, .slice none 0 0, []), Nat.zero_le _, Frag.nil _ _⟩ ⟨rfl, rfl, rfl, rfl, slotI rfl (by show (0 : Int) = ((0 * SZ : Nat) : Int); omega), trivial⟩ (fun _ h => h) ?_
        rintro ⟨⟨k, rv, H⟩, hkN, hF⟩
        dsimp only at hkN hF ⊢
        refine TC_seq ?_
        refine TC_seq ?_
        refine TC_reg ?_
        refine TL_q rfl rfl (QT_move rfl rfl rfl) ?_
        refine TL_q rfl rfl (QT_move rfl rfl rfl) ?_
        refine TL_q rfl rfl (QT_len rfl rfl Tryz.underlying28 rfl) ?_
        refine TL_q rfl rfl (QT_lss rfl rfl rfl rfl) ?_
        refine TL_nil ?_
        refine TX_then ?_
        refine TC_cond_dec rfl (fun h29 => ?_) (fun h29 => ?_)
        ·
          have hk : k < N := by
            refine Classical.byContradiction fun hk => ?_
            have : k = N := by omega
            rw [this, hNs] at h29
            omega
          have hks := hkl k hk
          have hk1 := hkk k
          obtain ⟨v, hv⟩ : ∃ v, v = decN (wR L) (byB (bs.drop (k * SZ))) := ⟨_, rfl⟩
          have hvx : ∀ {j w : Nat}, j < 7 → wdR L j = w → v[j]? = some (getV bs ((8 * (k * SZ) + tot ((wR L).take j) : Nat) : Int) (w : Int)) := fun {j w} hj hw => by
            have h1 := wdR_le hc.1 j
            have h2 := tot_stepR (wR_at (L := L) hj)
            have h3 := tot_takeR (wR L) (j + 1)
            rw [hv, decN_at (wR_at hj), ← hw, getV_ok h1 (by omega), byB_drop, List.drop_drop]
          have hrec : setRN v 7 = recAt L bs k := by rw [hv, setRN_all, hrA]
          have hskip : ∀ n k, k + n ≤ 7 → (∀ p, k ≤ p → p < k + n → wdR L p = 0) → setRN v (k + n) = setRN v k := fun n k h1 h2 => by rw [hv]; exact setRN_skip n k h1 h2
          generalize hA0 : k * SZ = a0 at *
          have t1 := tot_stepR (wR_at (L := L) (p := 0) (by decide))
          have t2 := tot_stepR (wR_at (L := L) (p := 1) (by decide))
          have t3 := tot_stepR (wR_at (L := L) (p := 2) (by decide))
          have t0 : tot ((wR L).take 0) = 0 := rfl
          rw [t0, hw0] at t1
          rw [t1, hw1] at t2
          rw [t2, hw2] at t3
          have x0 := hvx (j := 0) (by decide) hw0
          have x1 := hvx (j := 1) (by decide) hw1
          have x2 := hvx (j := 2) (by decide) hw2
          rw [t0] at x0
          rw [t1] at x1
          rw [t2] at x2
          rw [show 8 * a0 + 0 = 8 * a0 by omega] at x0
          rw [show 8 * a0 + (0 + FL) = 8 * a0 + FL by omega] at x1
          rw [show 8 * a0 + (0 + FL + CO) = 8 * a0 + FL + CO by omega] at x2
          have hle : 0 + FL + CO + CO ≤ 136 := by
            have := tot_takeR (wR L) 3
            have h136 := hszb.2.2.1
            omega
          have s0 := rvV_set (xs := setRN v 0) (p := 0) (v := getV bs ((8 * a0 : Nat) : Int) (FL : Int) % rkM 0) (by decide)
          have s1 := rvV_set (xs := setRN v 1) (p := 1) (v := getV bs ((8 * a0 + FL : Nat) : Int) (CO : Int) % rkM 1) (by decide)
          have s2 := rvV_set (xs := setRN v 2) (p := 2) (v := getV bs ((8 * a0 + FL + CO : Nat) : Int) (CO : Int) % rkM 2) (by decide)
          rw [setRN_step (by decide) x0] at s0
          rw [setRN_step (by decide) x1] at s1
          rw [setRN_step (by decide) x2] at s2
          have hble : ∀ {c j : Nat}, c < 7 → Nat.ble (c + 1) (rvV (setRN v j)).length = true := fun h => Nat.ble_eq_true_of_le (by rw [rvV_len (setRN_len _ _)]; omega)
          have m1 : getV bs ((8 * a0 + FL : Nat) : Int) (CO : Int) % rkM 1 = getV bs ((8 * a0 + FL : Nat) : Int) (CO : Int) := Nat.mod_eq_of_lt (getV_ltR ..)
          have m2 : getV bs ((8 * a0 + FL + CO : Nat) : Int) (CO : Int) % rkM 2 = getV bs ((8 * a0 + FL + CO : Nat) : Int) (CO : Int) := Nat.mod_eq_of_lt (getV_ltR ..)
          refine TC_skip ?_
          refine TX_then ?_
          refine TC_seq ?_
          refine TC_block ?_
          refine TC_seq ?_
          refine TC_reg ?_
          refine TL_q rfl rfl (QT_move rfl rfl rfl) ?_
          refine TL_q rfl rfl (QT_to (QT_mul rfl rfl rfl rfl (fun _ => ⟨by omega, by omega⟩)) (show 8 * (a0 : Int) = ((8 * a0 : Nat) : Int) by omega)) ?_
          refine TL_q rfl rfl (QT_assign rfl rfl rfl) ?_
          refine TL_nil ?_
          refine TX_then ?_
          refine TC_seq ?_
          refine TC_reg ?_
          refine TL_q rfl rfl (QT_build rfl rfl YtjdaglmkljbfkaaGreatDoorF.zero_77 YtjdaglmkljbfkaaGreatDoorF.pl_77 rfl rfl rfl) ?_
          refine TL_e rfl rfl rfl (rfl) (ET_alloc rfl YtjdaglmkljbfkaaGreatDoorF.zero_77) ?_
          rintro _ _ ⟨b10, rfl, rfl⟩
          refine TL_e0 rfl rfl (rfl) (ET_storeW 0 rfl rfl rfl YtjdaglmkljbfkaaGreatDoorF.sz_77 rfl rfl rfl) ?_
          rintro _ _ ⟨rfl, rfl⟩
          refine TL_nil ?_
          refine TX_then ?_
          refine TC_seq ?_
          refine TC_A (St w0 ((b10, 77, rvV (setRN v 0)) :: (b2, 27, L.cells) :: (H ++ η))) (fun _ h => h) ?_
          refine TC_reg ?_
          refine TL_q rfl rfl (QT_assign rfl rfl rfl) ?_
          refine TL_nil ?_
          refine TX_then ?_
          refine TC_seq ?_
          refine TC_reg ?_
          refine TL_q rfl rfl (QT_move rfl rfl rfl) ?_
          refine TL_q rfl rfl (QT_move rfl rfl rfl) ?_
          refine TL_q rfl rfl (QT_loadW 1 rfl rfl Tryz.underlying27 rfl rfl rfl YtjdaglmkljbfkaaGreatDoorF.sz_27) ?_
          refine TL_cq rfl rfl rfl rfl YtjdaglmkljbfkaaGreatDoorF.cal_107 rfl (fun _ => hflag _) ?_
          refine TL_cq rfl rfl rfl rfl YtjdaglmkljbfkaaGreatDoorF.cal_106 rfl (fun _ => rtake_spec w0 _ _ bs _ _ (hs0.mono fun _ h => h.tail.tail.app_right) hb (by omega) (by omega) (by omega)) ?_
          refine TL_q rfl rfl (QT_move rfl rfl rfl) ?_
          refine TL_q rfl rfl (QT_extract rfl rfl rfl rfl) ?_
          refine TL_q rfl rfl (QT_extract rfl rfl rfl rfl) ?_
          refine TL_q rfl rfl (QT_assign rfl rfl rfl) ?_
          refine TL_q rfl rfl (QT_assign rfl rfl rfl) ?_
          refine TL_nil ?_
          refine TX_then ?_
          refine TC_seq ?_
          refine TC_reg ?_
          refine TL_q rfl rfl (QT_move rfl rfl rfl) ?_
          refine TL_q rfl rfl (QT_convN rfl rfl Tryz.underlying70 Tryz.underlying5 rfl (wrapR8 _)) ?_
          refine TL_q rfl rfl (QT_field rfl rfl YtjdaglmkljbfkaaGreatDoorF.fld_77_0 rfl) ?_
          refine TL_e0 rfl rfl (rfl) (ET_store (vs := [.int .u8 ((getV bs ((8 * a0 : Nat) : Int) (FL : Int) % 256 : Nat) : Int)]) 0 rfl rfl rfl rfl YtjdaglmkljbfkaaGreatDoorF.sz_5 rfl rfl (hble (by decide))) ?_
          rintro _ _ ⟨rfl, rfl⟩
          refine TL_nil ?_
          refine TX_then ?_
          refine TC_seq ?_
          refine TC_A (St w0 ((b10, 77, rvV (setRN v 1)) :: (b2, 27, L.cells) :: (H ++ η))) (fun _ h => by rw [← s0]; exact h) ?_
          refine TC_reg ?_
          refine TL_q rfl rfl (QT_move rfl rfl rfl) ?_
          refine TL_q rfl rfl (QT_move rfl rfl rfl) ?_
          refine TL_q rfl rfl (QT_field rfl rfl YtjdaglmkljbfkaaGreatDoorF.fld_27_1 rfl) ?_
          refine TL_q rfl rfl (QT_load (v := .int .i64 (CO : Int)) 1 rfl rfl Tryz.underlying3 rfl rfl rfl (fun _ => lco)) ?_
          refine TL_cq rfl rfl rfl rfl YtjdaglmkljbfkaaGreatDoorF.cal_106 rfl (fun _ => rtake_spec w0 _ _ bs _ _ (hs0.mono fun _ h => h.tail.tail.app_right) hb (by omega) (by omega) (by omega)) ?_
          refine TL_q rfl rfl (QT_move rfl rfl rfl) ?_
          refine TL_q rfl rfl (QT_extract rfl rfl rfl rfl) ?_
          refine TL_q rfl rfl (QT_extract rfl rfl rfl rfl) ?_
          refine TL_q rfl rfl (QT_field rfl rfl YtjdaglmkljbfkaaGreatDoorF.fld_77_1 rfl) ?_
          refine TL_q rfl rfl (QT_field rfl rfl YtjdaglmkljbfkaaGreatDoorF.fld_72_0 rfl) ?_
          refine TL_e0 rfl rfl (rfl) (ET_store (vs := [.int .u32 ((getV bs ((8 * a0 + FL : Nat) : Int) (CO : Int) : Nat) : Int)]) 0 rfl rfl rfl rfl YtjdaglmkljbfkaaGreatDoorF.sz_70 rfl rfl (hble (by decide))) ?_
          rintro _ _ ⟨rfl, rfl⟩
          refine TL_q rfl rfl (QT_assign rfl rfl rfl) ?_
          refine TL_nil ?_
          refine TX_then ?_
          refine TC_seq ?_
          refine TC_A (St w0 ((b10, 77, rvV (setRN v 2)) :: (b2, 27, L.cells) :: (H ++ η))) (fun _ h => by rw [← s1, m1]; exact h) ?_
          refine TC_reg ?_
          refine TL_q rfl rfl (QT_move rfl rfl rfl) ?_
          refine TL_q rfl rfl (QT_move rfl rfl rfl) ?_
          refine TL_q rfl rfl (QT_field rfl rfl YtjdaglmkljbfkaaGreatDoorF.fld_27_1 rfl) ?_
          refine TL_q rfl rfl (QT_load (v := .int .i64 (CO : Int)) 1 rfl rfl Tryz.underlying3 rfl rfl rfl (fun _ => lco)) ?_
          refine TL_cq rfl rfl rfl rfl YtjdaglmkljbfkaaGreatDoorF.cal_106 rfl (fun _ => rtake_spec w0 _ _ bs _ _ (hs0.mono fun _ h => h.tail.tail.app_right) hb (by omega) (by omega) (by omega)) ?_
          refine TL_q rfl rfl (QT_move rfl rfl rfl) ?_
          refine TL_q rfl rfl (QT_extract rfl rfl rfl rfl) ?_
          refine TL_q rfl rfl (QT_extract rfl rfl rfl rfl) ?_
          refine TL_q rfl rfl (QT_field rfl rfl YtjdaglmkljbfkaaGreatDoorF.fld_77_1 rfl) ?_
          refine TL_q rfl rfl (QT_field rfl rfl YtjdaglmkljbfkaaGreatDoorF.fld_72_1 rfl) ?_
          refine TL_e0 rfl rfl (rfl) (ET_store (vs := [.int .u32 ((getV bs ((8 * a0 + FL + CO : Nat) : Int) (CO : Int) : Nat) : Int)]) 0 rfl rfl rfl rfl YtjdaglmkljbfkaaGreatDoorF.sz_70 rfl rfl (hble (by decide))) ?_
          rintro _ _ ⟨rfl, rfl⟩
          refine TL_q rfl rfl (QT_assign rfl rfl rfl) ?_
          refine TL_nil ?_
          refine TX_then ?_
          refine TC_seq ?_
          refine TC_seq ?_
          refine TC_A (St w0 ((b10, 77, rvV (setRN v 3)) :: (b2, 27, L.cells) :: (H ++ η))) (fun _ h => by rw [← s2, m2]; exact h) ?_
          refine TC_reg ?_
          refine TL_q rfl rfl (QT_assign rfl rfl rfl) ?_
          refine TL_nil ?_
          refine TX_then ?_
          refine TC_block ?_
          refine TC_loop (γ := { c : Nat // c ≤ CS }) (fun u => [(1, true, .slice ad bs.length cap), (2, true, .pointer (some ⟨b2, 0, none⟩)), (6, true, .int .i64 (SZ : Int)), (7, true, rv), (8, true, .int .i64 (a0 : Int)), (9, true, .int .i64 ((8 * a0 + tot ((wR L).take (3 + u.1)) : Nat) : Int)), (10, true, .pointer (some ⟨b10, 0, none⟩)), (12, true, .int .i64 (u.1 : Int))]) (fun u => St w0 ((b10, 77, rvV (setRN v (3 + u.1))) :: (b2, 27, L.cells) :: (H ++ η))) (fun u => CS - u.1) ⟨0, Nat.zero_le _⟩ ⟨rfl, rfl, rfl, rfl, rfl, slotI rfl (by show ((8 * a0 + FL + CO + CO : Nat) : Int) = ((8 * a0 + tot ((wR L).take 3) : Nat) : Int); rw [t3]; congr 1; omega), rfl, rfl, trivial⟩ (fun _ h => h) ?_
          rintro ⟨c, hcc⟩
          dsimp only
          refine TC_seq ?_
          refine TC_seq ?_
          refine TC_reg ?_
          refine TL_q rfl rfl (QT_move rfl rfl rfl) ?_
          refine TL_q rfl rfl (QT_field rfl rfl YtjdaglmkljbfkaaGreatDoorF.fld_27_4 rfl) ?_
          refine TL_q rfl rfl (QT_load (v := .int .i64 (CS : Int)) 1 rfl rfl Tryz.underlying3 rfl rfl rfl (fun _ => lcs)) ?_
          refine TL_q rfl rfl (QT_lss rfl rfl rfl rfl) ?_
          refine TL_nil ?_
          refine TX_then ?_
          refine TC_cond_dec rfl (fun h70 => ?_) (fun h70 => ?_)
          ·
            have hcC : c < CS := by omega
            have hwc : wdR L (3 + c) = CM := by rw [hw3, if_pos hcC]
            have tc := tot_stepR (wR_at (L := L) (p := 3 + c) (by omega))
            rw [hwc] at tc
            have xc := hvx (j := 3 + c) (by omega) hwc
            have tt := tot_takeR (wR L) (3 + c)
            have h136 := hszb.2.2.1
            have sc := rvV_set (xs := setRN v (3 + c)) (p := 3 + c) (v := getV bs ((8 * a0 + tot ((wR L).take (3 + c)) : Nat) : Int) (CM : Int) % rkM (3 + c)) (by omega)
            rw [setRN_step (by omega) xc] at sc
            have hkm : rkM (3 + c) = 65536 := by unfold rkM; rw [if_neg (by omega), if_neg (by omega)]
            have hkk3 : rkK (3 + c) = .u16 := by unfold rkK; rw [if_neg (by omega), if_neg (by omega)]
            rw [hkm, hkk3] at sc
            obtain ⟨ac, hac⟩ : ∃ ac, ac = 8 * a0 + tot ((wR L).take (3 + c)) := ⟨_, rfl⟩
            rw [← hac] at sc xc ⊢
            refine TC_skip ?_
            refine TX_then ?_
            refine TC_seq ?_
            refine TC_block ?_
            refine TC_seq ?_
            refine TC_reg ?_
            refine TL_q rfl rfl (QT_move rfl rfl rfl) ?_
            refine TL_q rfl rfl (QT_move rfl rfl rfl) ?_
            refine TL_q rfl rfl (QT_field rfl rfl YtjdaglmkljbfkaaGreatDoorF.fld_27_2 rfl) ?_
            refine TL_q rfl rfl (QT_load (v := .int .i64 (CM : Int)) 1 rfl rfl Tryz.underlying3 rfl rfl rfl (fun _ => lcm)) ?_
            refine TL_cq rfl rfl rfl rfl YtjdaglmkljbfkaaGreatDoorF.cal_106 rfl (fun _ => rtake_spec w0 _ _ bs _ _ (hs0.mono fun _ h => h.tail.tail.app_right) hb (by omega) (by omega) (by omega)) ?_
            refine TL_q rfl rfl (QT_move rfl rfl rfl) ?_
            refine TL_q rfl rfl (QT_extract rfl rfl rfl rfl) ?_
            refine TL_q rfl rfl (QT_extract rfl rfl rfl rfl) ?_
            refine TL_q rfl rfl (QT_assign rfl rfl rfl) ?_
            refine TL_q rfl rfl (QT_assign rfl rfl rfl) ?_
            refine TL_nil ?_
            refine TX_then ?_
            refine TC_reg ?_
            refine TL_q rfl rfl (QT_move rfl rfl rfl) ?_
            refine TL_q rfl rfl (QT_move rfl rfl rfl) ?_
            refine TL_q rfl rfl (QT_convN rfl rfl Tryz.underlying70 Tryz.underlying73 rfl (wrapR16 _)) ?_
            refine TL_q rfl rfl (QT_field rfl rfl YtjdaglmkljbfkaaGreatDoorF.fld_77_2 rfl) ?_
            refine TL_q rfl rfl (QT_indexArr c rfl rfl Tryz.underlying75 YtjdaglmkljbfkaaGreatDoorF.sz_73 rfl rfl rfl (fun _ => by omega)) ?_
            refine TL_e0 rfl rfl (rfl) (ET_store (vs := [.int .u16 ((getV bs (ac : Int) (CM : Int) % 65536 : Nat) : Int)]) 0 rfl rfl rfl rfl YtjdaglmkljbfkaaGreatDoorF.sz_73 rfl rfl (hble (c := 0 + 3 + c * 1) (by omega))) ?_
            rintro _ _ ⟨rfl, rfl⟩
            refine TL_nil ?_
            refine TX_block_normal ?_
            refine TX_then ?_
            refine TC_A (St w0 ((b10, 77, rvV (setRN v (3 + c + 1))) :: (b2, 27, L.cells) :: (H ++ η))) (fun w h => by
              rw [← sc]
              have h' : St w0 ((b10, 77, (rvV (setRN v (3 + c))).set (0 + 3 + c * 1) (.int .u16 ((getV bs (ac : Int) (CM : Int) % 65536 : Nat) : Int))) :: (b2, 27, L.cells) :: (H ++ η)) w := h
              rw [show 0 + 3 + c * 1 = 3 + c by omega] at h'
              exact h') ?_
            refine TC_reg ?_
            refine TL_q rfl rfl (QT_move rfl rfl rfl) ?_
            refine TL_q rfl rfl (QT_add rfl rfl rfl rfl (fun _ => ⟨by omega, by omega⟩)) ?_
            refine TL_q rfl rfl (QT_assign rfl rfl rfl) ?_
            refine TL_nil ?_
            exact TX_round ⟨c + 1, hcC⟩ (by show CS - (c + 1) < CS - c; omega) ⟨rfl, rfl, rfl, rfl, rfl, slotI rfl (by show ((ac + CM : Nat) : Int) = ((8 * a0 + tot ((wR L).take (3 + c + 1)) : Nat) : Int); rw [tc]; congr 1; omega), rfl, rfl, trivial⟩ (fun _ h => h)
          ·
            refine TC_exit ?_
            refine TX_then_exit ?_
            refine TX_then_exit ?_
            refine TX_block_here ?_
            refine TX_then ?_
            obtain rfl : c = CS := by omega
            have k3 := hskip (7 - (3 + c)) (3 + c) (by omega) fun p h1 h2 => by
              have := hw3 (p - 3)
              rw [show 3 + (p - 3) = p by omega, if_neg (by omega)] at this
              exact this
            rw [show 3 + c + (7 - (3 + c)) = 7 by omega, hrec] at k3
            rw [← k3]
            have hrF : RcF (recAt L bs k) := dcR_rcf _ _
            have hrl : (rvV (recAt L bs k)).length = 7 := rvV_len hrF.len
            have hrz : Sz Tryz.prog 77 (rvV (recAt L bs k)).length := by rw [hrl]; exact YtjdaglmkljbfkaaGreatDoorF.sz_77
            have hri := rvV_ints hrF
            refine TC_reg ?_
            refine TL_q rfl rfl (QT_move rfl rfl rfl) ?_
            refine TL_q rfl rfl (QT_loadW (cs := rvV (recAt L bs k)) 0 rfl rfl Tryz.underlying77 rfl rfl rfl hrz) ?_
            refine TL_e rfl rfl rfl (rfl) (ET_buildN [_] rfl Tryz.underlying31 YtjdaglmkljbfkaaGreatDoorF.sz_77 YtjdaglmkljbfkaaGreatDoorF.zero_77 rfl rfl rfl (fun v hv => by cases List.mem_singleton.1 hv; exact hrl)) ?_
            rintro _ _ ⟨b88, rfl, rfl⟩
            refine TL_e rfl rfl rfl (rfl) (ET_appendL (L := [_, _, _]) rfl Tryz.underlying31 el_RecR rfl rfl hF (fun _ h => h) (SlA.own (n := 1) (xs := rvV (recAt L bs k)) 0 rfl (by rw [List.drop_zero, List.take_of_length_le (by simp [Value.cells, hrl])]; simp [Value.cells]) (by simp [Value.cells, hrl]) (by omega)) hri.oneCell (by omega) (by omega)) ?_
            rintro rv2 _ ⟨H', hF', rfl⟩
            refine TL_q rfl rfl (QT_assign rfl rfl rfl) ?_
            refine TL_nil ?_
            refine TX_block_normal ?_
            refine TX_then ?_
            refine TC_reg ?_
            refine TL_q rfl rfl (QT_move rfl rfl rfl) ?_
            refine TL_q rfl rfl (QT_move rfl rfl rfl) ?_
            refine TL_q rfl rfl (QT_add rfl rfl rfl rfl (fun _ => ⟨by omega, by omega⟩)) ?_
            refine TL_q rfl rfl (QT_assign rfl rfl rfl) ?_
            refine TL_nil ?_
            exact TX_round ⟨(k + 1, rv2, H'), hk, by rw [recsB_snoc, flatR_snoc]; exact hF'⟩ (by show N - (k + 1) < N - k; omega) ⟨rfl, rfl, rfl, rfl, slotI rfl (by show (a0 : Int) + (SZ : Int) = (((k + 1) * SZ : Nat) : Int); omega), trivial⟩ (fun _ h => h.tail.tail)
        ·
          refine TC_exit ?_
          refine TX_then_exit ?_
          refine TX_then_exit ?_
          refine TX_block_here ?_
          refine TX_then ?_
          refine TC_seq ?_
          refine TC_reg ?_
          refine TL_q rfl rfl (QT_move rfl rfl rfl) ?_
          refine TL_q rfl rfl (QT_assign rfl rfl rfl) ?_
          refine TL_q rfl rfl (QT_assign rfl rfl rfl) ?_
          refine TL_nil ?_
          refine TX_then ?_
          refine TC_ret ?_
          obtain rfl : k = N := by
            refine Classical.byContradiction fun hk => ?_
            have := hkl k (by omega)
            omega
          exact TX_ret (.inl rfl) (res2 rfl rfl rfl) ⟨_, ⟨rv, H, by rw [eP], by rw [eO, recsB_len]; exact hF, rfl⟩, fun _ h => h.tail⟩
end Go.Proofs.YtjdaglmkljbfkaaGreatDoor
namespace Go.Proofs.YtjdaglmkljbfkaaGreatDoor
open Go Go.Gx Go.RowKit
set_option maxRecDepth 100000
end Go.Proofs.YtjdaglmkljbfkaaGreatDoor
namespace Go.Proofs.YtjdaglmkljbfkaaGreatDoor
open Go Go.Gx Go.RowKit
set_option maxRecDepth 100000
theorem rcf_chk {r : List Nat} (hl : r.length = 7) (h : ∀ p, p < 7 → r.getD p 0 < rkM p) : RcF r := ⟨hl, fun {p x} hx => by
  have hp : p < 7 := by rw [← hl]; exact (List.getElem?_eq_some_iff.1 hx).1
  have := h p hp
  rw [List.getD_eq_getElem?_getD, hx] at this
  exact this⟩
end Go.Proofs.YtjdaglmkljbfkaaGreatDoor
namespace Go.Proofs.YtjdaglmkljbfkaaGreatDoor
end Go.Proofs.YtjdaglmkljbfkaaGreatDoor
namespace Go.Proofs.YtjdaglmkljbfkaaGreatDoor
open Go Go.Gx Go.RowKit
set_option maxRecDepth 100000
theorem errRG_zero {L : Lay} {bs : List Nat} (h : errRG L bs = 0) : (okB L = true ∧ L.ty ≤ 5) ∧ bs.length ≤ 65536 ∧ bs.length % szR L = 0 ∧ outRG L bs = recsB L bs (bs.length / szR L) := by
  have h0 := h
  unfold errRG at h
  split at h
  · rename_i hc
    split at h
    · exact absurd h (by decide)
    · split at h
      · exact ⟨hc, by omega, by assumption, by unfold outRG; rw [if_pos h0]⟩
      · exact absurd h (by decide)
  · exact absurd h (by decide)
theorem outRG_rcf {L : Lay} {bs : List Nat} : ∀ r ∈ outRG L bs, RcF r := by
  intro r hr
  unfold outRG at hr
  split at hr
  · exact recsB_rcf r hr
  · exact absurd hr List.not_mem_nil
theorem outRG_len (L : Lay) (bs : List Nat) : (outRG L bs).length ≤ bs.length := by
  unfold outRG
  split
  · rw [recsB_len]; exact Nat.div_le_self _ _
  · exact Nat.zero_le _
end Go.Proofs.YtjdaglmkljbfkaaGreatDoor
namespace Go.Proofs.YtjdaglmkljbfkaaGreatDoor
open Go Go.Gx Go.RowKit
set_option maxRecDepth 100000
end Go.Proofs.YtjdaglmkljbfkaaGreatDoor
namespace Go.Proofs.YtjdaglmkljbfkaaGreatDoor
open Go Go.Gx Go.RowKit
set_option maxRecDepth 100000
end Go.Proofs.YtjdaglmkljbfkaaGreatDoor
namespace Go.Proofs.YtjdaglmkljbfkaaGreatDoor
open Go Go.Gx Go.RowKit
set_option maxRecDepth 100000
end Go.Proofs.YtjdaglmkljbfkaaGreatDoor
namespace Go.Proofs.YtjdaglmkljbfkaaGreatDoor
open Go Go.Gx Go.RowKit
set_option maxRecDepth 100000
theorem rget0_long (w0 : Base) (η : Heap) (hG : Sets w0) (L : Lay) (sv : Value) (bs : List Nat) (hs : SlA (St w0 η) sv 1 bs.length (byV bs)) (h0 : 65536 < bs.length) :
    CallsT Tryz.prog 129 [L.val, sv] (St w0 η) fun v A' => ∃ rv H, v = .tuple #[rv, .int .i64 (errRG L bs)] ∧ Frag 77 7 rv (outRG L bs).length (flatR (outRG L bs)) H ∧ A' = St w0 (H ++ η) := by
  obtain ⟨hbl, ad, cap, sb, so, rfl, hcap, had, hrd⟩ := hs.some
  refine CallsT.bodyM Tryz.func129 rfl rfl ?_
  simp only [Tryz.ntmps129, slotsOf, Nat.reduceAdd]
  refine TC_seq ?_
  refine TC_reg ?_
  refine TL_e rfl rfl rfl (rfl) (ET_box rfl rfl) ?_
  rintro _ _ ⟨b2, rfl, rfl⟩
  refine TL_q rfl rfl (QT_assign rfl rfl rfl) ?_
  refine TL_q rfl rfl (QT_assign rfl rfl rfl) ?_
  refine TL_nil ?_
  refine TX_then ?_
  refine TC_seq ?_
  refine TC_A (St w0 ((b2, 27, L.cells) :: η)) (fun _ h => h) ?_
  refine TC_reg ?_
  refine TL_q rfl rfl (QT_loadW 0 rfl rfl Tryz.underlying27 rfl rfl rfl YtjdaglmkljbfkaaGreatDoorF.sz_27) ?_
  refine TL_cq rfl rfl rfl rfl YtjdaglmkljbfkaaGreatDoorF.cal_136 rfl (fun _ => size_spec w0 _ hG L 0 (by decide)) ?_
  refine TL_q rfl rfl (QT_assign rfl rfl rfl) ?_
  refine TL_nil ?_
  refine TX_then ?_
  refine TC_seq ?_
  refine TC_seq ?_
  refine TC_reg ?_
  refine TL_q rfl rfl (QT_loadW 0 rfl rfl Tryz.underlying27 rfl rfl rfl YtjdaglmkljbfkaaGreatDoorF.sz_27) ?_
  refine TL_cq rfl rfl rfl rfl YtjdaglmkljbfkaaGreatDoorF.cal_137 rfl (fun _ => rcheck0_spec w0 _ hG L) ?_
  refine TL_q rfl rfl (QT_assign rfl rfl rfl) ?_
  refine TL_nil ?_
  refine TX_then ?_
  refine TC_block ?_
  refine TC_seq ?_
  refine TC_reg ?_
  refine TL_q rfl rfl (QT_move rfl rfl rfl) ?_
  refine TL_q rfl rfl (QT_neq rfl rfl rfl rfl) ?_
  refine TL_q rfl rfl (QT_assign rfl rfl rfl) ?_
  refine TL_nil ?_
  refine TX_then ?_
  refine TC_cond_dec rfl (fun h21 => ?_) (fun h21 => ?_)
  ·
    refine TC_seq ?_
    refine TC_reg ?_
    refine TL_q rfl rfl (QT_move rfl rfl rfl) ?_
    refine TL_q rfl rfl (QT_assign rfl rfl rfl) ?_
    refine TL_q rfl rfl (QT_assign rfl rfl rfl) ?_
    refine TL_nil ?_
    refine TX_then ?_
    refine TC_ret ?_
    refine TX_block_ret ?_
    refine TX_then_ret ?_
    have hne : ¬ (okB L = true ∧ L.ty ≤ 5) := fun hc => h21 (by unfold errCR; rw [if_pos hc])
    have eP : errRG L bs = 4 := by unfold errRG; rw [if_neg hne]
    have eC : errCR L = 4 := by unfold errCR; rw [if_neg hne]
    exact TX_retM (.inl rfl) (res2 rfl rfl rfl) ⟨_, ⟨_, [], by rw [eP, eC], fragNoneRG eP (by decide), rfl⟩, fun _ h => h.tail⟩
  ·
    refine TC_seq ?_
    refine TC_reg ?_
    refine TL_q rfl rfl (QT_move rfl rfl rfl) ?_
    refine TL_q rfl rfl (QT_len rfl rfl Tryz.underlying28 rfl) ?_
    refine TL_q rfl rfl (QT_gtr rfl rfl rfl rfl) ?_
    refine TL_q rfl rfl (QT_assign rfl rfl rfl) ?_
    refine TL_nil ?_
    refine TX_then ?_
    refine TC_cond rfl (fun _ => ?_) (fun h => absurd (h.symm.trans (decide_eq_true (by omega))) (by decide))
    refine TC_seq ?_
    refine TC_reg ?_
    refine TL_q rfl rfl (QT_assign rfl rfl rfl) ?_
    refine TL_q rfl rfl (QT_assign rfl rfl rfl) ?_
    refine TL_nil ?_
    refine TX_then ?_
    refine TC_ret ?_
    refine TX_block_ret ?_
    refine TX_then_ret ?_
    have hc := errCR_ok (Classical.not_not.1 h21)
    have eP : errRG L bs = 3 := by unfold errRG; rw [if_pos hc, if_pos (by omega)]
    exact TX_retM (.inl rfl) (res2 rfl rfl rfl) ⟨_, ⟨_, [], by rw [eP], fragNoneRG eP (by decide), rfl⟩, fun _ h => h.tail⟩
theorem rget0_any (w0 : Base) (η : Heap) (hG : Sets w0) (L : Lay) (sv : Value) (bs : List Nat) (hs : SlA (St w0 η) sv 1 bs.length (byV bs)) (hb : ∀ c ∈ bs, c < 256) :
    CallsT Tryz.prog 129 [L.val, sv] (St w0 η) fun v A' => ∃ rv H, v = .tuple #[rv, .int .i64 (errRG L bs)] ∧ Frag 77 7 rv (outRG L bs).length (flatR (outRG L bs)) H ∧ A' = St w0 (H ++ η) := by
  by_cases h : 65536 < bs.length
  · exact rget0_long w0 η hG L sv bs hs h
  · exact rget0_spec w0 η hG L sv bs hs hb (by omega)
end Go.Proofs.YtjdaglmkljbfkaaGreatDoor
namespace Go.Proofs.YtjdaglmkljbfkaaGreatDoor
open Go Go.Gx Go.RowKit
set_option maxRecDepth 100000
/-- What is known of a hand: what it makes of a number of so many bits, and of its state. -/
structure HandOk (w0 : Base) {S : Type} (t : TypeId) (r : Value) (f : FuncId) (go : S → Nat → Nat → Nat × S) (sz : S → Nat) (Rep : S → Heap → Prop) (Ok : Heap → Prop) : Prop where
  cal : CalleeOk Tryz.prog f
  met : ∀ w, (method (Tryz.prog.types.size + Made.depth) t r "gouache/sheets.goes").run Tryz.prog w = .ok (f, r) w
  nil : ∀ w, (nilAhead (Tryz.prog.types.size + Made.depth) t r "gouache/sheets.goes").run Tryz.prog w = .ok (some false) w
  lt : ∀ s v w, v < 4294967296 → (go s v w).1 < 4294967296
  grow : ∀ s v w, sz (go s v w).2 ≤ sz s + w
  more : ∀ η b, Ok η → Ok (b :: η)
  goes : ∀ (η K : Heap) (s : S) (pb : Nat) (tt : TypeId) (cells : List Value) (off v w : Nat), Ok η → Rep s K → sz s ≤ 100000 → cells[off]? = some (.int .u32 (v : Int)) → v < 4294967296 → w ≤ 32 →
    CallsT Tryz.prog f [r, .pointer (some ⟨pb, off, none⟩), .int .i64 (w : Int)] (St w0 ((pb, tt, cells) :: (K ++ η))) fun z A' => z = .tuple #[] ∧ ∃ K', Rep (go s v w).2 K' ∧ A' = St w0 ((pb, tt, setAt cells off [.int .u32 ((go s v w).1 : Int)]) :: (K' ++ η))
/-- with others' memory between -/
theorem HandOk.deep {w0 : Base} {S : Type} {t : TypeId} {r : Value} {f : FuncId} {go : S → Nat → Nat → Nat × S} {sz : S → Nat} {Rep : S → Heap → Prop} {Ok : Heap → Prop} (h : HandOk w0 t r f go sz Rep Ok) (X η K : Heap) (s : S) (pb : Nat) (tt : TypeId) (cells : List Value) (off v w : Nat) (hO : Ok η) (hK : Rep s K) (hs : sz s ≤ 100000) (hc : cells[off]? = some (.int .u32 (v : Int))) (hv : v < 4294967296) (hw : w ≤ 32) :
    CallsT Tryz.prog f [r, .pointer (some ⟨pb, off, none⟩), .int .i64 (w : Int)] (St w0 ((pb, tt, cells) :: (X ++ (K ++ η)))) fun z A' => z = .tuple #[] ∧ ∃ K', Rep (go s v w).2 K' ∧ A' = St w0 ((pb, tt, setAt cells off [.int .u32 ((go s v w).1 : Int)]) :: (X ++ (K' ++ η))) := by
  have hO' : Ok (X ++ η) := by
    induction X with
    | nil => exact hO
    | cons b X ih => exact h.more _ b ih
  have := h.goes (X ++ η) K s pb tt cells off v w hO' hK hs hc hv hw
  refine fun w hA => (this.mono (R' := fun z A' => z = .tuple #[] ∧ ∃ K', Rep (go s v _).2 K' ∧ A' = St w0 ((pb, tt, setAt cells off [.int .u32 ((go s v _).1 : Int)]) :: (X ++ (K' ++ η)))) ?_) w (hA.cnt fun p => by simp only [List.countP_append, List.countP_cons]; omega)
  rintro z A' ⟨hz, K', hK', rfl⟩
  exact ⟨_, ⟨hz, K', hK', rfl⟩, fun w h => h.cnt fun p => by simp only [List.countP_append, List.countP_cons]; omega⟩
def RepR (rb : Nat) (bv : Value) (s : Nat × Int) (K : Heap) : Prop := K = [(rb, 262, [bv, .int .i64 (s.1 : Int), .int .i64 s.2])]
theorem getV_lt (bs : List Nat) (p n : Int) : getV bs p n < 4294967296 := by
  unfold getV
  split
  · rename_i h
    unfold getE at h
    have hn : ¬ (p < 0 ∨ n < 0 ∨ 32 < n) := fun hx => by rw [if_pos hx] at h; exact absurd h (by decide)
    refine Nat.lt_of_lt_of_le (num_lt _) (Nat.le_trans (Nat.pow_le_pow_right (by decide) (show _ ≤ 32 by rw [List.length_take]; omega)) (by decide))
  · decide
theorem set_same {l : List Value} {i : Nat} {v : Value} (h : l[i]? = some v) : l.set i v = l := by
  apply List.ext_getElem?
  intro k
  rw [List.getElem?_set]
  by_cases e : i = k
  · subst e; rw [if_pos rfl, if_pos (List.getElem?_eq_some_iff.1 h).1]; exact h.symm
  · rw [if_neg e]
theorem cells_lt {cells : List Value} {off : Nat} {v : Value} (h : cells[off]? = some v) : Nat.ble (off + 1) cells.length = true := Nat.ble_eq_true_of_le (List.getElem?_eq_some_iff.1 h).1
theorem met_R : ∃ i m, Tryz.prog.info? 260 = some i ∧ i.methods.find? (·.name == "gouache/sheets.goes") = some m ∧ m.path = #[] ∧ m.func = some (183, true) := method_of (by kernel_rfl)
theorem reader_goes (w0 : Base) (η : Heap) (rb : Nat) (bv : Value) (bs : List Nat) (hb : ∀ c ∈ bs, c < 256) (hl : bs.length ≤ 140737488355328) (s : Nat × Int) (pb : Nat) (tt : TypeId) (cells : List Value) (off v w : Nat)
    (hO : SlA (St w0 η) bv 1 bs.length (byV bs)) (hs : s.1 ≤ 100000) (hc : cells[off]? = some (.int .u32 (v : Int))) (hw : w ≤ 32) :
    CallsT Tryz.prog 183 [.pointer (some ⟨rb, 0, none⟩), .pointer (some ⟨pb, off, none⟩), .int .i64 (w : Int)] (St w0 ((pb, tt, cells) :: (rb, 262, [bv, .int .i64 (s.1 : Int), .int .i64 s.2]) :: η)) fun z A' => z = .tuple #[] ∧ A' = St w0 ((pb, tt, setAt cells off [.int .u32 ((goR bs s v w).1 : Int)]) :: (rb, 262, [bv, .int .i64 ((goR bs s v w).2.1 : Int), .int .i64 (goR bs s v w).2.2]) :: η) := by
  have hlt := cells_lt hc
  have hset : setAt cells off [.int .u32 (v : Int)] = cells := by
    simp only [setAt]
    rw [set_same hc]
  obtain ⟨a, e⟩ := s
  have hs' : a ≤ 100000 := hs
  have hsla := hO.mono (fun w (h : St w0 ((pb, tt, cells) :: (rb, 262, [bv, .int .i64 (a : Int), .int .i64 e]) :: η) w) => h.tail.tail)
  refine CallsT.body Tryz.func183 rfl rfl ?_
  simp only [Tryz.ntmps183, slotsOf, Nat.reduceAdd]
  refine TC_seq ?_
  refine TC_seq ?_
  refine TC_reg ?_
  refine TL_q rfl rfl (QT_move rfl rfl rfl) ?_
  refine TL_q rfl rfl (QT_nilCheck rfl rfl rfl) ?_
  refine TL_q rfl rfl (QT_field rfl rfl YtjdaglmkljbfkaaGreatDoorF.fld_262_2 rfl) ?_
  refine TL_q rfl rfl (QT_load 1 rfl rfl Tryz.underlying35 rfl rfl rfl (fun _ => rfl)) ?_
  refine TL_q rfl rfl (QT_eql rfl rfl rfl rfl) ?_
  refine TL_nil ?_
  refine TX_then ?_
  refine TC_cond_dec rfl (fun h10 => ?_) (fun h10 => ?_)
  ·
    have eg : goR bs (a, e) v w = (getV bs a w, (a + w, getE bs.length a w)) := by unfold goR; rw [if_pos h10]
    rw [eg]
    refine TC_draw [(0, 0), (1, 0), (2, 0), (3, 0), (4, 0), (5, 0), (6, 0), (7, 0), (8, 0), (9, 0), (10, 0), (11, 1), (12, 0), (13, 0), (14, 0), (15, 0), (16, 1), (17, 0), (18, 0), (19, 1)] YtjdaglmkljbfkaaGreatDoorF.mixed (by kernel_rfl) (St.calm _ _) ?_
    refine TV_q rfl rfl rfl (fun _ => QT_move rfl rfl rfl) ?_
    refine TV_q rfl rfl rfl (fun _ => QT_move rfl rfl rfl) ?_
    refine TV_q rfl rfl rfl (fun _ => QT_move rfl rfl rfl) ?_
    refine TV_q rfl rfl rfl (fun _ => QT_nilCheck rfl rfl rfl) ?_
    refine TV_q rfl rfl rfl (fun _ => QT_field rfl rfl YtjdaglmkljbfkaaGreatDoorF.fld_262_0 rfl) ?_
    refine TV_ql rfl rfl rfl (QT_load 1 rfl rfl Tryz.underlying28 rfl rfl rfl (fun _ => rfl)) ?_
    refine TV_q rfl rfl rfl (fun _ => QT_move rfl rfl rfl) ?_
    refine TV_q rfl rfl rfl (fun _ => QT_nilCheck rfl rfl rfl) ?_
    refine TV_q rfl rfl rfl (fun _ => QT_field rfl rfl YtjdaglmkljbfkaaGreatDoorF.fld_262_1 rfl) ?_
    refine TV_ql rfl rfl rfl (QT_load 1 rfl rfl Tryz.underlying3 rfl rfl rfl (fun _ => rfl)) ?_
    refine TV_q rfl rfl rfl (fun _ => QT_move rfl rfl rfl) ?_
    refine TV_cq rfl rfl rfl rfl rfl YtjdaglmkljbfkaaGreatDoorF.cal_157 rfl (fun _ => get_spec w0 _ bv bs a w hsla hb ⟨by omega, by omega⟩ ⟨by omega, by omega⟩ hl) (.drop (by kernel_rfl) (.drop (by kernel_rfl) (.nil))) ?_
    refine TV_q rfl rfl rfl (fun _ => QT_move rfl rfl rfl) ?_
    refine TV_q rfl rfl rfl (fun _ => QT_extract rfl rfl rfl rfl) ?_
    refine TV_q rfl rfl rfl (fun _ => QT_extract rfl rfl rfl rfl) ?_
    refine TV_q rfl rfl rfl (fun _ => QT_nilCheck rfl rfl rfl) ?_
    refine TV_e0 rfl rfl rfl (rfl) (ET_store (vs := [.int .u32 (getV bs a w : Int)]) 0 rfl rfl rfl rfl YtjdaglmkljbfkaaGreatDoorF.sz_70 rfl rfl hlt) ?_
    rintro _ _ ⟨rfl, rfl⟩
    refine ⟨_, .nil, ?_⟩
    refine TV_q rfl rfl rfl (fun _ => QT_nilCheck rfl rfl rfl) ?_
    refine TV_q rfl rfl rfl (fun _ => QT_field rfl rfl YtjdaglmkljbfkaaGreatDoorF.fld_262_2 rfl) ?_
    refine TV_e0 rfl rfl rfl (rfl) (ET_store 1 rfl rfl rfl rfl YtjdaglmkljbfkaaGreatDoorF.sz_35 rfl rfl rfl) ?_
    rintro _ _ ⟨rfl, rfl⟩
    refine ⟨_, .nil, ?_⟩
    refine TV_end ?_
    refine TX_then ?_
    refine TC_reg ?_
    refine TL_q rfl rfl (QT_move rfl rfl rfl) ?_
    refine TL_q rfl rfl (QT_nilCheck rfl rfl rfl) ?_
    refine TL_q rfl rfl (QT_field rfl rfl YtjdaglmkljbfkaaGreatDoorF.fld_262_1 rfl) ?_
    refine TL_q rfl rfl (QT_load 1 rfl rfl Tryz.underlying3 rfl rfl rfl (fun _ => rfl)) ?_
    refine TL_q rfl rfl (QT_move rfl rfl rfl) ?_
    refine TL_q rfl rfl (QT_add rfl rfl rfl rfl (fun _ => ⟨by omega, by omega⟩)) ?_
    refine TL_q rfl rfl (QT_nilCheck rfl rfl rfl) ?_
    refine TL_q rfl rfl (QT_field rfl rfl YtjdaglmkljbfkaaGreatDoorF.fld_262_1 rfl) ?_
    refine TL_e0 rfl rfl (rfl) (ET_store 1 rfl rfl rfl rfl YtjdaglmkljbfkaaGreatDoorF.sz_3 rfl rfl rfl) ?_
    rintro _ _ ⟨rfl, rfl⟩
    refine TL_nil ?_
    exact TX_ret (.inr rfl) (res0 rfl) ⟨_, ⟨rfl, rfl⟩, fun _ h => h⟩
  ·
    have eg : goR bs (a, e) v w = (v, (a + w, e)) := by unfold goR; rw [if_neg h10]
    rw [eg]
    simp only [hset]
    refine TC_skip ?_
    refine TX_then ?_
    refine TC_reg ?_
    refine TL_q rfl rfl (QT_move rfl rfl rfl) ?_
    refine TL_q rfl rfl (QT_nilCheck rfl rfl rfl) ?_
    refine TL_q rfl rfl (QT_field rfl rfl YtjdaglmkljbfkaaGreatDoorF.fld_262_1 rfl) ?_
    refine TL_q rfl rfl (QT_load 1 rfl rfl Tryz.underlying3 rfl rfl rfl (fun _ => rfl)) ?_
    refine TL_q rfl rfl (QT_move rfl rfl rfl) ?_
    refine TL_q rfl rfl (QT_add rfl rfl rfl rfl (fun _ => ⟨by omega, by omega⟩)) ?_
    refine TL_q rfl rfl (QT_nilCheck rfl rfl rfl) ?_
    refine TL_q rfl rfl (QT_field rfl rfl YtjdaglmkljbfkaaGreatDoorF.fld_262_1 rfl) ?_
    refine TL_e0 rfl rfl (rfl) (ET_store 1 rfl rfl rfl rfl YtjdaglmkljbfkaaGreatDoorF.sz_3 rfl rfl rfl) ?_
    rintro _ _ ⟨rfl, rfl⟩
    refine TL_nil ?_
    exact TX_ret (.inr rfl) (res0 rfl) ⟨_, ⟨rfl, rfl⟩, fun _ h => h⟩
theorem reader_ok (w0 : Base) (rb : Nat) (bv : Value) (bs : List Nat) (hb : ∀ c ∈ bs, c < 256) (hl : bs.length ≤ 140737488355328) :
    HandOk w0 260 (.pointer (some ⟨rb, 0, none⟩)) 183 (goR bs) (·.1) (RepR rb bv) (fun η => SlA (St w0 η) bv 1 bs.length (byV bs)) where
  cal := YtjdaglmkljbfkaaGreatDoorF.cal_183
  met := by
    obtain ⟨i, m, h1, h2, h3, h4⟩ := met_R
    exact method_ptr h1 h2 h3 h4 Tryz.underlying260
  nil := by
    obtain ⟨i, m, h1, h2, h3, h4⟩ := met_R
    exact nilAhead_ptr h1 h2 h3 h4
  lt := fun s v w hv => by unfold goR; split; exact getV_lt ..; exact hv
  grow := fun s v w => by unfold goR; split <;> exact Nat.le_refl _
  more := fun η b h => h.mono fun _ h => h.tail
  goes := fun η K s pb tt cells off v w hO hK hs hc _ hw => by
    subst hK
    exact (reader_goes w0 η rb bv bs hb hl s pb tt cells off v w hO hs hc hw).mono fun z A' ⟨hz, hA⟩ => ⟨A', ⟨hz, _, rfl, hA⟩, fun _ h => h⟩
end Go.Proofs.YtjdaglmkljbfkaaGreatDoor
namespace Go.Proofs.YtjdaglmkljbfkaaGreatDoor
open Go Go.Gx Go.RowKit
set_option maxRecDepth 100000
def skK (p : Nat) : IntKind := if p = 0 then .u8 else if p < 33 then .u32 else .u16
theorem sheetK_at {p : Nat} (h : p < 49) : sheetK[p]? = some (skK p) := (show ∀ p : Fin 49, sheetK[p.1]? = some (skK p.1) by decide) ⟨p, h⟩
theorem sheetK_len : sheetK.length = 49 := by decide
def shV (xs : List Nat) : List Value := List.zipWith (fun (k : IntKind) (x : Nat) => Value.int k (x : Int)) sheetK xs
theorem shV_len {xs : List Nat} (h : xs.length = 49) : (shV xs).length = 49 := by rw [shV, List.length_zipWith, sheetK_len, h]; rfl
theorem shV_at {xs : List Nat} {p x : Nat} (hp : p < 49) (h : xs[p]? = some x) : (shV xs)[p]? = some (.int (skK p) (x : Int)) := by
  rw [shV, List.getElem?_zipWith, sheetK_at hp, h]
theorem shV_set {xs : List Nat} {p v : Nat} (hp : p < 49) : (shV xs).set p (.int (skK p) (v : Int)) = shV (xs.set p v) := by
  apply List.ext_getElem?
  intro k
  rw [List.getElem?_set]
  by_cases e : p = k
  · subst e
    rw [if_pos rfl]
    by_cases hl : p < xs.length
    · rw [if_pos (by rw [shV, List.length_zipWith, sheetK_len]; omega), shV_at (x := v) hp (by rw [List.getElem?_set, if_pos rfl, if_pos hl])]
    · rw [if_neg (by rw [shV, List.length_zipWith]; omega), shV, List.getElem?_zipWith, List.getElem?_eq_none (l := xs.set p v) (by rw [List.length_set]; omega), sheetK_at hp]
  · rw [if_neg e, shV, shV, List.getElem?_zipWith, List.getElem?_zipWith, List.getElem?_set, if_neg e]
theorem shV_mid {f k v : Nat} {a X : List Nat} (ha : a.length = k) (hx : k < X.length) (hk : k < 48) : setAt (shV (f :: (a ++ X.drop k))) (k + 1) [.int (skK (k + 1)) (v : Int)] = shV (f :: ((a ++ [v]) ++ X.drop (k + 1))) := by
  show (shV (f :: (a ++ X.drop k))).set (k + 1) _ = _
  rw [shV_set (by omega), List.drop_eq_getElem_cons hx]
  subst ha
  rw [List.set_cons_succ, List.set_append_right _ _ (Nat.le_refl _), Nat.sub_self, List.set_cons_zero, List.append_assoc]
  rfl
theorem shV_mid_at {f k x : Nat} {a X : List Nat} (ha : a.length = k) (hx : X[k]? = some x) (hk : k < 48) : (shV (f :: (a ++ X.drop k)))[k + 1]? = some (.int (skK (k + 1)) (x : Int)) := by
  refine shV_at (by omega) ?_
  rw [List.getElem?_cons_succ, List.getElem?_append_right (by omega), ha, Nat.sub_self, List.getElem?_drop]
  simpa using hx
/-- how wide a sheet's numbers are -/
def ptN (L : Lay) (f : Nat) : Nat := (ptsZ L (f : Int)).toNat
def clN (L : Lay) (f : Nat) : Nat := (colZ L (f : Int)).toNat
theorem ptN_bd (L : Lay) (f : Nat) : 1 ≤ ptN L f ∧ ptN L f ≤ 16 ∧ ptsZ L (f : Int) = (ptN L f : Int) := by
  have : 1 ≤ ptsZ L (f : Int) ∧ ptsZ L (f : Int) ≤ 16 := by unfold ptsZ; grind
  unfold ptN; omega
theorem clN_bd (L : Lay) (f : Nat) : 1 ≤ clN L f ∧ clN L f ≤ 4 ∧ colZ L (f : Int) = (clN L f : Int) := by
  have : 1 ≤ colZ L (f : Int) ∧ colZ L (f : Int) ≤ 4 := by unfold colZ; grind
  unfold clN; omega
def wPt (L : Lay) (f i : Nat) : Nat := if i < ptN L f then L.co.toNat else 0
def wCl (L : Lay) (f j : Nat) : Nat := if j / 4 < clN L f ∧ j % 4 < L.cs.toNat then L.cm.toNat else 0
def wS (L : Lay) (f : Nat) : Ws := (List.range 48).map fun p => if p < 32 then (wPt L f (p / 2), 4294967296) else (wCl L f (p - 32), 65536)
theorem wS_len (L : Lay) (f : Nat) : (wS L f).length = 48 := by simp [wS]
theorem wS_at {L : Lay} {f p : Nat} (h : p < 48) : (wS L f)[p]? = some (if p < 32 then (wPt L f (p / 2), 4294967296) else (wCl L f (p - 32), 65536)) := by
  rw [wS, List.getElem?_map, List.getElem?_range h]; rfl
theorem wS_pt {L : Lay} {f i p : Nat} (hi : i < 16) (hp : p = 2 * i ∨ p = 2 * i + 1) : (wS L f)[p]? = some (wPt L f i, 4294967296) := by
  rw [wS_at (by omega), if_pos (by omega), show p / 2 = i by omega]
theorem wS_cl {L : Lay} {f j : Nat} (hj : j < 16) : (wS L f)[32 + j]? = some (wCl L f j, 65536) := by
  rw [wS_at (by omega), if_neg (by omega), show 32 + j - 32 = j by omega]
theorem wPt_le {L : Lay} (h : okB L = true) (f i : Nat) : wPt L f i ≤ 32 := by
  have := (okB_bounds h).1
  unfold wPt; split <;> omega
theorem wCl_le {L : Lay} (h : okB L = true) (f j : Nat) : wCl L f j ≤ 16 := by
  have := (okB_bounds h).2.1
  unfold wCl; split <;> omega
theorem wS_le {L : Lay} (h : okB L = true) (f : Nat) : ∀ p ∈ wS L f, p.1 ≤ 32 := by
  intro p hp
  obtain ⟨k, _, rfl⟩ := List.mem_map.1 hp
  split
  · exact wPt_le h ..
  · exact Nat.le_trans (wCl_le h ..) (by decide)
theorem wS_m (L : Lay) (f : Nat) : ∀ p ∈ wS L f, 0 < p.2 := by
  intro p hp
  obtain ⟨k, _, rfl⟩ := List.mem_map.1 hp
  split
  · show (0 : Nat) < 4294967296; decide
  · show (0 : Nat) < 65536; decide
/-- the numbers of a sheet, but its flag -/
structure Sh (X : List Nat) : Prop where
  len : X.length = 48
  pt : ∀ {p x}, X[p]? = some x → p < 32 → x < 4294967296
  cl : ∀ {p x}, X[p]? = some x → 32 ≤ p → x < 65536
theorem Und.at : ∀ {ws : Ws} {xs : List Nat}, Und ws xs → ∀ {k w m x : Nat}, ws[k]? = some (w, m) → xs[k]? = some x → x < m
  | [], [], _, k, w, m, x, h, _ => by simp at h
  | [], _ :: _, h, _, _, _, _, _, _ => h.elim
  | _ :: _, [], h, _, _, _, _, _, _ => h.elim
  | (w, m) :: ws, x :: xs, h, 0, _, _, _, h1, h2 => by cases h1; cases h2; exact h.1
  | (w, m) :: ws, x :: xs, h, k + 1, _, _, _, h1, h2 => Und.at h.2 h1 h2
theorem Und.sh {X : List Nat} {L : Lay} {f : Nat} (h : Und (wS L f) X) : Sh X := by
  have hl := h.len
  rw [wS_len] at hl
  refine ⟨hl.symm, fun {p x} hx hp => ?_, fun {p x} hx hp => ?_⟩
  · exact h.at (k := p) (w := wPt L f (p / 2)) (m := 4294967296) (by rw [wS_at (by omega), if_pos hp]) hx
  · have hk : p < 48 := by rw [hl]; exact (List.getElem?_eq_some_iff.1 hx).1
    exact h.at (k := p) (w := wCl L f (p - 32)) (m := 65536) (by rw [wS_at hk, if_neg (by omega)]) hx
/-- a whole sheet through a hand -/
def thr {S : Type} (go : S → Nat → Nat → Nat × S) (L : Lay) (x0 : Nat) (X : List Nat) (s : S) : List Nat × S :=
  ((go s x0 L.fl.toNat).1 % 256 :: (run go (wS L ((go s x0 L.fl.toNat).1 % 256)) X (go s x0 L.fl.toNat).2).1, (run go (wS L ((go s x0 L.fl.toNat).1 % 256)) X (go s x0 L.fl.toNat).2).2)
theorem wrapN8 (x : Nat) : IntKind.u8.wrap (x : Int) = ((x % 256 : Nat) : Int) := by
  show (x : Int) % 256 = _
  omega
theorem wrapN16 (x : Nat) : IntKind.u16.wrap (x : Int) = ((x % 65536 : Nat) : Int) := by
  show (x : Int) % 65536 = _
  omega
theorem told_spec (w0 : Base) (η : Heap) (L : Lay) (f : Nat) (hf : f < 256) (hty : L.ty = 6 ∨ L.ty = 7) :
    CallsT Tryz.prog 163 [L.val, .int .u8 (f : Int)] (St w0 η) fun v A' => v = .tuple #[.int .i64 (ptN L f : Int), .int .i64 (clN L f : Int)] ∧ A' = St w0 η := by
  have hp := (ptN_bd L f).2.2
  have hc := (clN_bd L f).2.2
  unfold ptsZ at hp
  unfold colZ at hc
  refine CallsT.body Tryz.func163 rfl rfl ?_
  simp only [Tryz.ntmps163, slotsOf, Nat.reduceAdd]
  refine TC_seq ?_
  refine TC_reg ?_
  refine TL_e rfl rfl rfl (rfl) (ET_box rfl rfl) ?_
  rintro _ _ ⟨b2, rfl, rfl⟩
  refine TL_q rfl rfl (QT_assign rfl rfl rfl) ?_
  refine TL_q rfl rfl (QT_assign rfl rfl rfl) ?_
  refine TL_nil ?_
  refine TX_then ?_
  refine TC_seq ?_
  refine TC_reg ?_
  refine TL_q rfl rfl (QT_assign rfl rfl rfl) ?_
  refine TL_q rfl rfl (QT_assign rfl rfl rfl) ?_
  refine TL_nil ?_
  refine TX_then ?_
  refine TC_seq ?_
  refine TC_seq ?_
  refine TC_reg ?_
  refine TL_q rfl rfl (QT_move rfl rfl rfl) ?_
  refine TL_q rfl rfl (QT_eql rfl rfl rfl rfl) ?_
  refine TL_nil ?_
  refine TX_then ?_
  refine TC_cond_dec rfl (fun h7 => ?_) (fun h7 => ?_)
  ·
    refine TC_reg ?_
    refine TL_q rfl rfl (QT_assign rfl rfl rfl) ?_
    refine TL_q rfl rfl (QT_assign rfl rfl rfl) ?_
    refine TL_nil ?_
    refine TX_then ?_
    refine TC_seq ?_
    refine TC_reg ?_
    refine TL_q rfl rfl (QT_move rfl rfl rfl) ?_
    refine TL_q rfl rfl (QT_field rfl rfl YtjdaglmkljbfkaaGreatDoorF.fld_27_0 rfl) ?_
    refine TL_q rfl rfl (QT_load 0 rfl rfl Tryz.underlying3 rfl rfl rfl (fun _ => rfl)) ?_
    refine TL_q rfl rfl (QT_sub rfl rfl rfl rfl (fun _ => ⟨by omega, by omega⟩)) ?_
    refine TL_q rfl rfl (QT_mul rfl rfl rfl rfl (fun _ => ⟨by omega, by omega⟩)) ?_
    refine TL_q rfl rfl (QT_add rfl rfl rfl rfl (fun _ => ⟨by omega, by omega⟩)) ?_
    refine TL_q rfl rfl (QT_move rfl rfl rfl) ?_
    refine TL_q rfl rfl (QT_assign rfl rfl rfl) ?_
    refine TL_q rfl rfl (QT_assign rfl rfl rfl) ?_
    refine TL_nil ?_
    refine TX_then ?_
    refine TC_ret ?_
    exact TX_ret (.inl rfl) (res2 rfl rfl rfl) ⟨_, ⟨by
      have e1 : (12 : Int) + 4 * (L.ty - 6) = (ptN L f : Int) := by rw [← hp]; rcases hty with h | h <;> simp [h, h7]
      have e2 : (4 : Int) = (clN L f : Int) := by rw [← hc]; rcases hty with h | h <;> simp [h, h7]
      rw [← e1, ← e2], rfl⟩, fun _ h => h.tail⟩
  ·
    refine TC_skip ?_
    refine TX_then ?_
    refine TC_seq ?_
    refine TC_reg ?_
    refine TL_q rfl rfl (QT_move rfl rfl rfl) ?_
    refine TL_q rfl rfl (QT_field rfl rfl YtjdaglmkljbfkaaGreatDoorF.fld_27_0 rfl) ?_
    refine TL_q rfl rfl (QT_load 0 rfl rfl Tryz.underlying3 rfl rfl rfl (fun _ => rfl)) ?_
    refine TL_q rfl rfl (QT_sub rfl rfl rfl rfl (fun _ => ⟨by omega, by omega⟩)) ?_
    refine TL_q rfl rfl (QT_mul rfl rfl rfl rfl (fun _ => ⟨by omega, by omega⟩)) ?_
    refine TL_q rfl rfl (QT_add rfl rfl rfl rfl (fun _ => ⟨by omega, by omega⟩)) ?_
    refine TL_q rfl rfl (QT_move rfl rfl rfl) ?_
    refine TL_q rfl rfl (QT_assign rfl rfl rfl) ?_
    refine TL_q rfl rfl (QT_assign rfl rfl rfl) ?_
    refine TL_nil ?_
    refine TX_then ?_
    refine TC_ret ?_
    exact TX_ret (.inl rfl) (res2 rfl rfl rfl) ⟨_, ⟨by
      have h8 : ¬ f = 0 := by omega
      have e1 : (8 : Int) + 4 * (L.ty - 6) = (ptN L f : Int) := by rw [← hp]; rcases hty with h | h <;> simp [h, h8]
      have e2 : (2 : Int) = (clN L f : Int) := by rw [← hc]; rcases hty with h | h <;> simp [h, h8]
      rw [← e1, ← e2], rfl⟩, fun _ h => h.tail⟩
theorem within_spec (w0 : Base) (A : World → Prop) (b : Bool) (m : Int) :
    CallsT Tryz.prog 164 [.bool b, .int .i64 m] A fun v A' => v = .int .i64 (if b = true then m else 0) ∧ A' = A := by
  refine CallsT.body Tryz.func164 rfl rfl ?_
  simp only [Tryz.ntmps164, slotsOf, Nat.reduceAdd]
  refine TC_seq ?_
  refine TC_reg ?_
  refine TL_q rfl rfl (QT_assign rfl rfl rfl) ?_
  refine TL_nil ?_
  refine TX_then ?_
  refine TC_seq ?_
  refine TC_seq ?_
  refine TC_reg ?_
  refine TL_q rfl rfl (QT_move rfl rfl rfl) ?_
  refine TL_nil ?_
  refine TX_then ?_
  refine TC_cond rfl (fun h5 => ?_) (fun h5 => ?_)
  ·
    refine TC_seq ?_
    refine TC_reg ?_
    refine TL_q rfl rfl (QT_move rfl rfl rfl) ?_
    refine TL_q rfl rfl (QT_assign rfl rfl rfl) ?_
    refine TL_nil ?_
    refine TX_then ?_
    refine TC_ret ?_
    refine TX_then_ret ?_
    exact TX_ret (.inl rfl) (res1 rfl rfl) ⟨_, ⟨by rw [if_pos h5], rfl⟩, fun _ h => h⟩
  ·
    refine TC_skip ?_
    refine TX_then ?_
    refine TC_seq ?_
    refine TC_reg ?_
    refine TL_q rfl rfl (QT_assign rfl rfl rfl) ?_
    refine TL_nil ?_
    refine TX_then ?_
    refine TC_ret ?_
    exact TX_ret (.inl rfl) (res1 rfl rfl) ⟨_, ⟨by rw [if_neg (by rw [h5]; decide)], rfl⟩, fun _ h => h⟩
section
variable {w0 : Base} {S : Type} {t : TypeId} {r : Value} {f : FuncId} {go : S → Nat → Nat → Nat × S} {sz : S → Nat} {Rep : S → Heap → Prop} {Ok : Heap → Prop}
theorem bent_uint8 (h : HandOk w0 t r f go sz Rep Ok) (X η K : Heap) (s : S) (pb : Nat) (tt : TypeId) (cells : List Value) (off v w : Nat) (hO : Ok η) (hK : Rep s K) (hs : sz s ≤ 100000) (hc : cells[off]? = some (.int .u8 (v : Int))) (hv : v < 256) (hw : w ≤ 32) :
    CallsT Tryz.prog 162 [.iface t r, .pointer (some ⟨pb, off, none⟩), .int .i64 (w : Int)] (St w0 ((pb, tt, cells) :: (X ++ (K ++ η)))) fun z A' => z = .tuple #[] ∧ ∃ K', Rep (go s v w).2 K' ∧ A' = St w0 ((pb, tt, setAt cells off [.int .u8 (((go s v w).1 % 256 : Nat) : Int)]) :: (X ++ (K' ++ η))) := by
  have hlt := cells_lt hc
  refine CallsT.body Tryz.func162 rfl rfl ?_
  simp only [Tryz.ntmps162, slotsOf, Nat.reduceAdd]
  refine TC_seq ?_
  refine TC_reg ?_
  refine TL_q rfl rfl (QT_move rfl rfl rfl) ?_
  refine TL_q rfl rfl (QT_nilCheck rfl rfl rfl) ?_
  refine TL_q rfl rfl (QT_load 0 rfl rfl Tryz.underlying5 rfl rfl rfl (fun _ => hc)) ?_
  refine TL_q rfl rfl (QT_convN rfl rfl Tryz.underlying5 Tryz.underlying70 rfl (IntWalk.u32_in _ ⟨by omega, by omega⟩)) ?_
  refine TL_e rfl rfl rfl (rfl) (ET_alloc rfl YtjdaglmkljbfkaaGreatDoorF.zero_70) ?_
  rintro _ _ ⟨b6, rfl, rfl⟩
  refine TL_e0 rfl rfl (rfl) (ET_store 0 rfl rfl rfl rfl YtjdaglmkljbfkaaGreatDoorF.sz_70 rfl rfl rfl) ?_
  rintro _ _ ⟨rfl, rfl⟩
  refine TL_nil ?_
  refine TX_then ?_
  refine TC_seq ?_
  refine TC_reg ?_
  refine TL_q rfl rfl (QT_move rfl rfl rfl) ?_
  refine TL_q rfl rfl (QT_move rfl rfl rfl) ?_
  refine TL_e rfl rfl rfl (rfl) (ET_goes (Goes.invoke rfl rfl h.met h.cal rfl) (h.deep ((pb, tt, cells) :: X) η K s b6 70 [.int .u32 (v : Int)] 0 v w hO hK hs rfl (by omega) hw)) ?_
  rintro _ _ ⟨rfl, K', hK', rfl⟩
  refine TL_nil ?_
  refine TX_then ?_
  refine TC_reg ?_
  refine TL_q rfl rfl (QT_move rfl rfl rfl) ?_
  refine TL_q rfl rfl (QT_load 0 rfl rfl Tryz.underlying70 rfl rfl rfl (fun _ => rfl)) ?_
  refine TL_q rfl rfl (QT_convN rfl rfl Tryz.underlying70 Tryz.underlying5 rfl (wrapN8 _)) ?_
  refine TL_q rfl rfl (QT_nilCheck rfl rfl rfl) ?_
  refine TL_e0 rfl rfl (rfl) (ET_store (vs := [.int .u8 (((go s v w).1 % 256 : Nat) : Int)]) 1 rfl rfl rfl rfl YtjdaglmkljbfkaaGreatDoorF.sz_5 rfl rfl hlt) ?_
  rintro _ _ ⟨rfl, rfl⟩
  refine TL_nil ?_
  exact TX_ret (.inr rfl) (res0 rfl) ⟨_, ⟨rfl, K', hK', rfl⟩, fun _ h => h.tail⟩
theorem bent_uint16 (h : HandOk w0 t r f go sz Rep Ok) (X η K : Heap) (s : S) (pb : Nat) (tt : TypeId) (cells : List Value) (off v w : Nat) (hO : Ok η) (hK : Rep s K) (hs : sz s ≤ 100000) (hc : cells[off]? = some (.int .u16 (v : Int))) (hv : v < 65536) (hw : w ≤ 32) :
    CallsT Tryz.prog 165 [.iface t r, .pointer (some ⟨pb, off, none⟩), .int .i64 (w : Int)] (St w0 ((pb, tt, cells) :: (X ++ (K ++ η)))) fun z A' => z = .tuple #[] ∧ ∃ K', Rep (go s v w).2 K' ∧ A' = St w0 ((pb, tt, setAt cells off [.int .u16 (((go s v w).1 % 65536 : Nat) : Int)]) :: (X ++ (K' ++ η))) := by
  have hlt := cells_lt hc
  refine CallsT.body Tryz.func165 rfl rfl ?_
  simp only [Tryz.ntmps165, slotsOf, Nat.reduceAdd]
  refine TC_seq ?_
  refine TC_reg ?_
  refine TL_q rfl rfl (QT_move rfl rfl rfl) ?_
  refine TL_q rfl rfl (QT_nilCheck rfl rfl rfl) ?_
  refine TL_q rfl rfl (QT_load 0 rfl rfl Tryz.underlying73 rfl rfl rfl (fun _ => hc)) ?_
  refine TL_q rfl rfl (QT_convN rfl rfl Tryz.underlying73 Tryz.underlying70 rfl (IntWalk.u32_in _ ⟨by omega, by omega⟩)) ?_
  refine TL_e rfl rfl rfl (rfl) (ET_alloc rfl YtjdaglmkljbfkaaGreatDoorF.zero_70) ?_
  rintro _ _ ⟨b6, rfl, rfl⟩
  refine TL_e0 rfl rfl (rfl) (ET_store 0 rfl rfl rfl rfl YtjdaglmkljbfkaaGreatDoorF.sz_70 rfl rfl rfl) ?_
  rintro _ _ ⟨rfl, rfl⟩
  refine TL_nil ?_
  refine TX_then ?_
  refine TC_seq ?_
  refine TC_reg ?_
  refine TL_q rfl rfl (QT_move rfl rfl rfl) ?_
  refine TL_q rfl rfl (QT_move rfl rfl rfl) ?_
  refine TL_e rfl rfl rfl (rfl) (ET_goes (Goes.invoke rfl rfl h.met h.cal rfl) (h.deep ((pb, tt, cells) :: X) η K s b6 70 [.int .u32 (v : Int)] 0 v w hO hK hs rfl (by omega) hw)) ?_
  rintro _ _ ⟨rfl, K', hK', rfl⟩
  refine TL_nil ?_
  refine TX_then ?_
  refine TC_reg ?_
  refine TL_q rfl rfl (QT_move rfl rfl rfl) ?_
  refine TL_q rfl rfl (QT_load 0 rfl rfl Tryz.underlying70 rfl rfl rfl (fun _ => rfl)) ?_
  refine TL_q rfl rfl (QT_convN rfl rfl Tryz.underlying70 Tryz.underlying73 rfl (wrapN16 _)) ?_
  refine TL_q rfl rfl (QT_nilCheck rfl rfl rfl) ?_
  refine TL_e0 rfl rfl (rfl) (ET_store (vs := [.int .u16 (((go s v w).1 % 65536 : Nat) : Int)]) 1 rfl rfl rfl rfl YtjdaglmkljbfkaaGreatDoorF.sz_73 rfl rfl hlt) ?_
  rintro _ _ ⟨rfl, rfl⟩
  refine TL_nil ?_
  exact TX_ret (.inr rfl) (res0 rfl) ⟨_, ⟨rfl, K', hK', rfl⟩, fun _ h => h.tail⟩
end
end Go.Proofs.YtjdaglmkljbfkaaGreatDoor
namespace Go.Proofs.YtjdaglmkljbfkaaGreatDoor
open Go Go.Gx Go.RowKit
set_option maxRecDepth 100000
section
variable {w0 : Base} {S : Type} {t : TypeId} {r : Value} {f : FuncId} {go : S → Nat → Nat → Nat × S} {sz : S → Nat} {Rep : S → Heap → Prop} {Ok : Heap → Prop}
theorem run_grow (hg : ∀ s v w, sz (go s v w).2 ≤ sz s + w) : ∀ (ws : Ws) (xs : List Nat) (s : S), (∀ p ∈ ws, p.1 ≤ 32) → sz (run go ws xs s).2 ≤ sz s + 32 * ws.length
  | [], _, s, _ => by unfold run; exact Nat.le_add_right ..
  | _ :: _, [], s, _ => by unfold run; exact Nat.le_add_right ..
  | (w, m) :: ws, x :: xs, s, h => by
    rw [run]
    have h1 := hg s x w
    have h2 := run_grow hg ws xs (go s x w).2 fun p hp => h p (List.mem_cons_of_mem _ hp)
    have h3 : w ≤ 32 := h _ (List.mem_cons_self ..)
    rw [List.length_cons]
    show sz (run go ws xs (go s x w).2).2 ≤ _
    omega
/-- when k of the numbers behind the flag are through -/
def rk (go : S → Nat → Nat → Nat × S) (L : Lay) (fl : Nat) (X : List Nat) (s : S) (k : Nat) : List Nat × S := run go ((wS L fl).take k) (X.take k) s
def cellsK (go : S → Nat → Nat → Nat × S) (L : Lay) (fl : Nat) (X : List Nat) (s : S) (k : Nat) : List Value := shV (fl :: ((rk go L fl X s k).1 ++ X.drop k))
theorem rk_len {L : Lay} {fl k : Nat} {X : List Nat} {s : S} (h : X.length = 48) (hk : k ≤ 48) : (rk go L fl X s k).1.length = k := by
  rw [rk, run_len (by rw [List.length_take, List.length_take, wS_len, h]), List.length_take, h]; omega
theorem rk_sz (hg : ∀ s v w, sz (go s v w).2 ≤ sz s + w) {L : Lay} (hk : okB L = true) (fl k : Nat) (X : List Nat) (s : S) : sz (rk go L fl X s k).2 ≤ sz s + 1536 := by
  have := run_grow hg ((wS L fl).take k) (X.take k) s fun p hp => wS_le hk fl p (List.mem_of_mem_take hp)
  have h2 : ((wS L fl).take k).length ≤ 48 := by rw [List.length_take, wS_len]; omega
  unfold rk
  omega
theorem rk_zero {L : Lay} {fl : Nat} {X : List Nat} {s : S} : rk go L fl X s 0 = ([], s) := by unfold rk; rw [List.take_zero]; rfl
theorem cellsK_zero {L : Lay} {fl : Nat} {X : List Nat} {s : S} : cellsK go L fl X s 0 = shV (fl :: X) := by unfold cellsK; rw [rk_zero]; rfl
theorem cellsK_all {L : Lay} {fl : Nat} {X : List Nat} {s : S} (h : X.length = 48) : cellsK go L fl X s 48 = shV (fl :: (run go (wS L fl) X s).1) := by
  unfold cellsK rk
  rw [List.take_of_length_le (by rw [wS_len]; exact Nat.le_refl _), List.take_of_length_le (by omega), List.drop_eq_nil_of_le (by omega), List.append_nil]
theorem rk_all {L : Lay} {fl : Nat} {X : List Nat} {s : S} (h : X.length = 48) : rk go L fl X s 48 = run go (wS L fl) X s := by
  unfold rk
  rw [List.take_of_length_le (by rw [wS_len]; exact Nat.le_refl _), List.take_of_length_le (by omega)]
theorem rk_step {L : Lay} {fl k w m x : Nat} {X : List Nat} {s : S} (h : X.length = 48) (hw : (wS L fl)[k]? = some (w, m)) (hx : X[k]? = some x) :
    (rk go L fl X s (k + 1)).2 = (go (rk go L fl X s k).2 x w).2 ∧ setAt (cellsK go L fl X s k) (k + 1) [.int (skK (k + 1)) (((go (rk go L fl X s k).2 x w).1 % m : Nat) : Int)] = cellsK go L fl X s (k + 1) := by
  have hk : k < X.length := (List.getElem?_eq_some_iff.1 hx).1
  have e := run_step (go := go) (s := s) hw hx
  constructor
  · show (run go ((wS L fl).take (k + 1)) (X.take (k + 1)) s).2 = _
    rw [e]; rfl
  · unfold cellsK
    rw [shV_mid (rk_len h (by omega)) hk (by omega)]
    show _ = shV (fl :: ((run go ((wS L fl).take (k + 1)) (X.take (k + 1)) s).1 ++ X.drop (k + 1)))
    rw [e]; rfl
theorem cellsK_at {L : Lay} {fl k x : Nat} {X : List Nat} {s : S} (h : X.length = 48) (hx : X[k]? = some x) : (cellsK go L fl X s k)[k + 1]? = some (.int (skK (k + 1)) (x : Int)) := by
  have hk : k < X.length := (List.getElem?_eq_some_iff.1 hx).1
  exact shV_mid_at (rk_len h (by omega)) hx (by omega)
theorem get48 {X : List Nat} (h : X.length = 48) {k : Nat} (hk : k < 48) : ∃ x, X[k]? = some x := ⟨_, List.getElem?_eq_getElem (by omega)⟩
/-- a point's number -/
theorem go_pt (h : HandOk w0 t r f go sz Rep Ok) {L : Lay} (hok : okB L = true) (Z η K : Heap) {fl : Nat} {X : List Nat} (hX : Sh X) (s : S) (sb i k off : Nat) (hi : i < 16) (hk : k = 2 * i ∨ k = 2 * i + 1) (ho : off = k + 1) (hO : Ok η) (hK : Rep (rk go L fl X s k).2 K) (hs : sz s ≤ 2000) :
    CallsT Tryz.prog f [r, .pointer (some ⟨sb, off, none⟩), .int .i64 (wPt L fl i : Int)] (St w0 ((sb, 102, cellsK go L fl X s k) :: (Z ++ (K ++ η)))) fun z A' => z = .tuple #[] ∧ ∃ K', Rep (rk go L fl X s (k + 1)).2 K' ∧ A' = St w0 ((sb, 102, cellsK go L fl X s (k + 1)) :: (Z ++ (K' ++ η))) := by
  subst ho
  obtain ⟨x, hx⟩ := get48 hX.len (show k < 48 by omega)
  have hu : skK (k + 1) = .u32 := by unfold skK; rw [if_neg (by omega), if_pos (by omega)]
  have hat := cellsK_at (go := go) (L := L) (fl := fl) (s := s) hX.len hx
  rw [hu] at hat
  have hx32 := hX.pt hx (by omega)
  have hsz := rk_sz h.grow hok fl k X s
  obtain ⟨e1, e2⟩ := rk_step (go := go) (s := s) hX.len (wS_pt (L := L) (f := fl) hi hk) hx
  rw [hu, Nat.mod_eq_of_lt (h.lt _ _ _ hx32)] at e2
  refine (h.deep Z η K _ sb 102 _ (k + 1) x (wPt L fl i) hO hK (by omega) hat hx32 (wPt_le hok ..)).mono ?_
  rintro z A' ⟨hz, K', hK', rfl⟩
  exact ⟨_, ⟨hz, K', by rw [e1]; exact hK', rfl⟩, fun w h => by rw [e2] at h; exact h⟩
/-- a colour's number -/
theorem go_cl (h : HandOk w0 t r f go sz Rep Ok) {L : Lay} (hok : okB L = true) (Z η K : Heap) {fl : Nat} {X : List Nat} (hX : Sh X) (s : S) (sb j k off : Nat) (hj : j < 16) (hk : k = 32 + j) (ho : off = k + 1) (hO : Ok η) (hK : Rep (rk go L fl X s k).2 K) (hs : sz s ≤ 2000) :
    CallsT Tryz.prog 165 [.iface t r, .pointer (some ⟨sb, off, none⟩), .int .i64 (wCl L fl j : Int)] (St w0 ((sb, 102, cellsK go L fl X s k) :: (Z ++ (K ++ η)))) fun z A' => z = .tuple #[] ∧ ∃ K', Rep (rk go L fl X s (k + 1)).2 K' ∧ A' = St w0 ((sb, 102, cellsK go L fl X s (k + 1)) :: (Z ++ (K' ++ η))) := by
  subst ho
  subst hk
  obtain ⟨x, hx⟩ := get48 hX.len (show 32 + j < 48 by omega)
  have hu : skK (32 + j + 1) = .u16 := by unfold skK; rw [if_neg (by omega), if_neg (by omega)]
  have hat := cellsK_at (go := go) (L := L) (fl := fl) (s := s) hX.len hx
  rw [hu] at hat
  have hx16 := hX.cl hx (by omega)
  have hsz := rk_sz h.grow hok fl (32 + j) X s
  obtain ⟨e1, e2⟩ := rk_step (go := go) (s := s) hX.len (wS_cl (L := L) (f := fl) hj) hx
  rw [hu] at e2
  refine (bent_uint16 h Z η K _ sb 102 _ (32 + j + 1) x (wCl L fl j) hO hK (by omega) hat hx16 (Nat.le_trans (wCl_le hok ..) (by decide))).mono ?_
  rintro z A' ⟨hz, K', hK', rfl⟩
  exact ⟨_, ⟨hz, K', by rw [e1]; exact hK', rfl⟩, fun w h => by rw [e2] at h; exact h⟩
theorem fl_set {x0 v : Nat} {X : List Nat} : setAt (shV (x0 :: X)) 0 [.int .u8 (v : Int)] = shV (v :: X) := shV_set (xs := x0 :: X) (p := 0) (by decide)
set_option maxHeartbeats 1000000 in
theorem through_spec (h : HandOk w0 t r f go sz Rep Ok) (η K : Heap) (L : Lay) (hok : okB L = true) (hty : L.ty = 6 ∨ L.ty = 7) (s : S) (sb x0 : Nat) (X : List Nat) (h0 : x0 < 256) (hX : Sh X) (hO : Ok η) (hK : Rep s K) (hs : sz s ≤ 1000) :
    CallsT Tryz.prog 146 [L.val, .pointer (some ⟨sb, 0, none⟩), .iface t r] (St w0 ((sb, 102, shV (x0 :: X)) :: (K ++ η))) fun z A' => z = .tuple #[] ∧ ∃ K', Rep (thr go L x0 X s).2 K' ∧ A' = St w0 ((sb, 102, shV (thr go L x0 X s).1) :: (K' ++ η)) := by
  have hbd := okB_bounds hok
  have hfl : (L.fl.toNat : Int) = L.fl := by have := hbd.2.2.2.2.2 (by omega); omega
  have hco : (L.co.toNat : Int) = L.co := by have := hbd.1; omega
  have hcm : (L.cm.toNat : Int) = L.cm := by have := hbd.2.1; omega
  have hcs : (L.cs.toNat : Int) = L.cs := by have := hbd.2.2.1; omega
  have hfl8 : L.fl.toNat ≤ 8 := by have := hbd.2.2.2.2.2 (by omega); omega
  have hbent := fun b => bent_uint8 h [(b, 27, L.cells)] η K s sb 102 (shV (x0 :: X)) 0 x0 L.fl.toNat hO hK (by omega) (shV_at (xs := x0 :: X) (p := 0) (by decide) rfl) h0 (by omega)
  have hg := h.grow s x0 L.fl.toNat
  generalize hgo : go s x0 L.fl.toNat = g at hbent hg
  obtain ⟨v1, s1⟩ := g
  obtain ⟨fl, hflag⟩ : ∃ fl, fl = v1 % 256 := ⟨_, rfl⟩
  have hfl256 : fl < 256 := by rw [hflag]; exact Nat.mod_lt _ (by decide)
  have ethr : thr go L x0 X s = (fl :: (run go (wS L fl) X s1).1, (run go (wS L fl) X s1).2) := by
    unfold thr; rw [hgo, hflag]
  rw [ethr]
  have hs1 : sz s1 ≤ 2000 := by simp only at hg; omega
  dsimp only at hbent
  rw [← hflag] at hbent
  simp only [fl_set, hfl] at hbent
  refine CallsT.body Tryz.func146 rfl rfl ?_
  simp only [Tryz.ntmps146, slotsOf, Nat.reduceAdd]
  refine TC_seq ?_
  refine TC_reg ?_
  refine TL_e rfl rfl rfl (rfl) (ET_box rfl rfl) ?_
  rintro _ _ ⟨b3, rfl, rfl⟩
  refine TL_nil ?_
  refine TX_then ?_
  refine TC_seq ?_
  refine TC_A (St w0 ((sb, 102, shV (x0 :: X)) :: (b3, 27, L.cells) :: (K ++ η))) (fun w h => h.swap) ?_
  refine TC_draw [(0, 0), (1, 0), (2, 0), (3, 0), (4, 0), (5, 0), (6, 1)] YtjdaglmkljbfkaaGreatDoorF.mixed (by kernel_rfl) (St.calm _ _) ?_
  refine TV_q rfl rfl rfl (fun _ => QT_move rfl rfl rfl) ?_
  refine TV_q rfl rfl rfl (fun _ => QT_move rfl rfl rfl) ?_
  refine TV_q rfl rfl rfl (fun _ => QT_nilCheck rfl rfl rfl) ?_
  refine TV_q rfl rfl rfl (fun _ => QT_field rfl rfl YtjdaglmkljbfkaaGreatDoorF.fld_102_0 rfl) ?_
  refine TV_q rfl rfl rfl (fun _ => QT_field rfl rfl YtjdaglmkljbfkaaGreatDoorF.fld_27_3 rfl) ?_
  refine TV_ql rfl rfl rfl (QT_load 1 rfl rfl Tryz.underlying3 rfl rfl rfl (fun _ => rfl)) ?_
  refine TV_e rfl rfl rfl rfl (rfl) (ET_call rfl YtjdaglmkljbfkaaGreatDoorF.cal_162 rfl (hbent b3)) ?_
  rintro _ _ ⟨rfl, K1, hK1, rfl⟩
  refine ⟨_, .drop (by kernel_rfl) (.nil), ?_⟩
  refine TV_end ?_
  refine TX_then ?_
  refine TC_seq ?_
  refine TC_draw [(0, 0), (1, 0), (2, 0), (3, 0), (4, 0), (5, 1), (6, 0), (7, 0), (8, 0), (9, 0), (10, 0)] YtjdaglmkljbfkaaGreatDoorF.mixed (by kernel_rfl) (St.calm _ _) ?_
  refine TV_ql rfl rfl rfl (QT_loadW 1 rfl rfl Tryz.underlying27 rfl rfl rfl YtjdaglmkljbfkaaGreatDoorF.sz_27) ?_
  refine TV_q rfl rfl rfl (fun _ => QT_move rfl rfl rfl) ?_
  refine TV_q rfl rfl rfl (fun _ => QT_nilCheck rfl rfl rfl) ?_
  refine TV_q rfl rfl rfl (fun _ => QT_field rfl rfl YtjdaglmkljbfkaaGreatDoorF.fld_102_0 rfl) ?_
  refine TV_ql rfl rfl rfl (QT_load 0 rfl rfl Tryz.underlying5 rfl rfl rfl (fun _ => shV_at (xs := fl :: X) (p := 0) (by decide) rfl)) ?_
  refine TV_cq rfl rfl rfl rfl rfl YtjdaglmkljbfkaaGreatDoorF.cal_163 rfl (fun _ => told_spec w0 _ L fl hfl256 hty) (.drop (by kernel_rfl) (.drop (by kernel_rfl) (.nil))) ?_
  refine TV_q rfl rfl rfl (fun _ => QT_move rfl rfl rfl) ?_
  refine TV_q rfl rfl rfl (fun _ => QT_extract rfl rfl rfl rfl) ?_
  refine TV_q rfl rfl rfl (fun _ => QT_extract rfl rfl rfl rfl) ?_
  refine TV_q rfl rfl rfl (fun _ => QT_assign rfl rfl rfl) ?_
  refine TV_q rfl rfl rfl (fun _ => QT_assign rfl rfl rfl) ?_
  refine TV_end ?_
  refine TX_then ?_
  refine TC_seq ?_
  refine TC_reg ?_
  refine TL_q rfl rfl (QT_assign rfl rfl rfl) ?_
  refine TL_nil ?_
  refine TX_then ?_
  refine TC_seq ?_
  refine TC_seq ?_
  refine TC_reg ?_
  refine TL_q rfl rfl (QT_move rfl rfl rfl) ?_
  refine TL_nil ?_
  refine TX_then ?_
  refine TC_block ?_
  refine TC_loop (γ := { t : Nat × Heap // t.1 ≤ 16 ∧ Rep (rk go L fl X s1 (2 * t.1)).2 t.2 }) (fun u => [(1, true, .pointer (some ⟨sb, 0, none⟩)), (2, true, .iface t r), (3, true, .pointer (some ⟨b3, 0, none⟩)), (6, true, .int .i64 (ptN L fl : Int)), (7, true, .int .i64 (clN L fl : Int)), (8, true, .func (.func 164) #[] #[]), (29, true, .int .i64 (u.1.1 : Int))]) (fun u => St w0 ((sb, 102, cellsK go L fl X s1 (2 * u.1.1)) :: (b3, 27, L.cells) :: (u.1.2 ++ η))) (fun u => 16 - u.1.1) ⟨(0, K1), by show 0 ≤ 16; decide, by show Rep (rk go L fl X s1 0).2 K1; rw [rk_zero]; exact hK1⟩ ⟨rfl, rfl, rfl, rfl, rfl, rfl, rfl, trivial⟩ (fun w h => by show St w0 ((sb, 102, cellsK go L fl X s1 0) :: (b3, 27, L.cells) :: (K1 ++ η)) w; rw [cellsK_zero]; exact h) ?_
  rintro ⟨⟨i, K2⟩, hi, hK2⟩
  dsimp only at hi hK2 ⊢
  refine TC_seq ?_
  refine TC_reg ?_
  refine TL_q rfl rfl (QT_lss rfl rfl rfl rfl) ?_
  refine TL_nil ?_
  refine TX_then ?_
  refine TC_seq ?_
  refine TC_cond_dec rfl (fun h30 => ?_) (fun h30 => ?_)
  ·
    have hi16 : i < 16 := by omega
    have hwd : (if decide ((i : Int) < (ptN L fl : Int)) = true then L.co else 0) = (wPt L fl i : Int) := by
      unfold wPt
      by_cases hc : i < ptN L fl
      · rw [if_pos hc, if_pos (by simpa using hc), hco]
      · rw [if_neg hc, if_neg (by simpa using hc)]; rfl
    refine TC_skip ?_
    refine TX_then ?_
    refine TC_seq ?_
    refine TC_block ?_
    refine TC_seq ?_
    refine TC_reg ?_
    refine TL_q rfl rfl (QT_move rfl rfl rfl) ?_
    refine TL_q rfl rfl (QT_assign rfl rfl rfl) ?_
    refine TL_nil ?_
    refine TX_then ?_
    refine TC_seq ?_
    refine TC_reg ?_
    refine TL_q rfl rfl (QT_move rfl rfl rfl) ?_
    refine TL_q rfl rfl (QT_move rfl rfl rfl) ?_
    refine TL_q rfl rfl (QT_move rfl rfl rfl) ?_
    refine TL_q rfl rfl (QT_lss rfl rfl rfl rfl) ?_
    refine TL_q rfl rfl (QT_field rfl rfl YtjdaglmkljbfkaaGreatDoorF.fld_27_1 rfl) ?_
    refine TL_q rfl rfl (QT_load 1 rfl rfl Tryz.underlying3 rfl rfl rfl (fun _ => rfl)) ?_
    refine TL_gq rfl rfl rfl (fun _ => Goes.value rfl rfl YtjdaglmkljbfkaaGreatDoorF.cal_164 rfl) (fun _ => hwd ▸ within_spec w0 _ _ L.co) ?_
    refine TL_q rfl rfl (QT_assign rfl rfl rfl) ?_
    refine TL_nil ?_
    refine TX_then ?_
    refine TC_seq ?_
    refine TC_draw [(0, 0), (1, 0), (2, 0), (3, 0), (4, 0), (5, 0), (6, 0), (7, 0), (8, 0), (9, 0), (10, 0), (11, 1)] YtjdaglmkljbfkaaGreatDoorF.mixed (by kernel_rfl) (St.calm _ _) ?_
    refine TV_q rfl rfl rfl (fun _ => QT_move rfl rfl rfl) ?_
    refine TV_q rfl rfl rfl (fun _ => QT_move rfl rfl rfl) ?_
    refine TV_q rfl rfl rfl (fun _ => QT_move rfl rfl rfl) ?_
    refine TV_q rfl rfl rfl (fun _ => QT_nilCheck rfl rfl rfl) ?_
    refine TV_q rfl rfl rfl (fun _ => QT_field rfl rfl YtjdaglmkljbfkaaGreatDoorF.fld_102_1 rfl) ?_
    refine TV_q rfl rfl rfl (fun _ => QT_indexArr i rfl rfl Tryz.underlying99 YtjdaglmkljbfkaaGreatDoorF.sz_72 rfl rfl rfl (fun _ => hi16)) ?_
    refine TV_q rfl rfl rfl (fun _ => QT_field rfl rfl YtjdaglmkljbfkaaGreatDoorF.fld_72_0 rfl) ?_
    refine TV_q rfl rfl rfl (fun _ => QT_move rfl rfl rfl) ?_
    refine TV_q rfl rfl rfl (fun _ => QT_makeFunc rfl rfl rfl rfl) ?_
    refine TV_q rfl rfl rfl (fun _ => QT_nilCheckM rfl rfl rfl h.nil) ?_
    refine TV_q rfl rfl rfl (fun _ => QT_move rfl rfl rfl) ?_
    refine TV_e rfl rfl rfl rfl (rfl) (ET_goes (Goes.invoke rfl rfl h.met h.cal rfl) (go_pt h hok [(b3, 27, L.cells)] η K2 hX s1 sb i (2 * i) _ hi16 (.inl rfl) (by omega) hO hK2 hs1)) ?_
    rintro _ _ ⟨rfl, K3, hK3, rfl⟩
    refine ⟨_, .nil, ?_⟩
    refine TV_end ?_
    refine TX_then ?_
    refine TC_draw [(0, 0), (1, 0), (2, 0), (3, 0), (4, 0), (5, 0), (6, 0), (7, 0), (8, 0), (9, 0), (10, 0), (11, 1)] YtjdaglmkljbfkaaGreatDoorF.mixed (by kernel_rfl) (St.calm _ _) ?_
    refine TV_q rfl rfl rfl (fun _ => QT_move rfl rfl rfl) ?_
    refine TV_q rfl rfl rfl (fun _ => QT_move rfl rfl rfl) ?_
    refine TV_q rfl rfl rfl (fun _ => QT_move rfl rfl rfl) ?_
    refine TV_q rfl rfl rfl (fun _ => QT_nilCheck rfl rfl rfl) ?_
    refine TV_q rfl rfl rfl (fun _ => QT_field rfl rfl YtjdaglmkljbfkaaGreatDoorF.fld_102_1 rfl) ?_
    refine TV_q rfl rfl rfl (fun _ => QT_indexArr i rfl rfl Tryz.underlying99 YtjdaglmkljbfkaaGreatDoorF.sz_72 rfl rfl rfl (fun _ => hi16)) ?_
    refine TV_q rfl rfl rfl (fun _ => QT_field rfl rfl YtjdaglmkljbfkaaGreatDoorF.fld_72_1 rfl) ?_
    refine TV_q rfl rfl rfl (fun _ => QT_move rfl rfl rfl) ?_
    refine TV_q rfl rfl rfl (fun _ => QT_makeFunc rfl rfl rfl rfl) ?_
    refine TV_q rfl rfl rfl (fun _ => QT_nilCheckM rfl rfl rfl h.nil) ?_
    refine TV_q rfl rfl rfl (fun _ => QT_move rfl rfl rfl) ?_
    refine TV_e rfl rfl rfl rfl (rfl) (ET_goes (Goes.invoke rfl rfl h.met h.cal rfl) (go_pt h hok [(b3, 27, L.cells)] η K3 hX s1 sb i (2 * i + 1) _ hi16 (.inr rfl) (by omega) hO hK3 hs1)) ?_
    rintro _ _ ⟨rfl, K4, hK4, rfl⟩
    refine ⟨_, .nil, ?_⟩
    refine TV_end ?_
    refine TX_block_normal ?_
    refine TX_then ?_
    refine TC_reg ?_
    refine TL_q rfl rfl (QT_add rfl rfl rfl rfl (fun _ => ⟨by omega, by omega⟩)) ?_
    refine TL_q rfl rfl (QT_move rfl rfl rfl) ?_
    refine TL_nil ?_
    exact TX_round ⟨(i + 1, K4), by show i + 1 ≤ 16; omega, hK4⟩ (by show 16 - (i + 1) < 16 - i; omega) ⟨rfl, rfl, rfl, rfl, rfl, rfl, rfl, trivial⟩ (fun _ h => h)
  ·
    refine TC_exit ?_
    refine TX_then_exit ?_
    refine TX_then_exit ?_
    refine TX_block_here ?_
    refine TX_then ?_
    refine TC_seq ?_
    obtain rfl : i = 16 := by omega
    refine TC_reg ?_
    refine TL_q rfl rfl (QT_move rfl rfl rfl) ?_
    refine TL_nil ?_
    refine TX_then ?_
    refine TC_block ?_
    refine TC_loop (γ := { t : Nat × Heap // t.1 ≤ 4 ∧ Rep (rk go L fl X s1 (32 + 4 * t.1)).2 t.2 }) (fun u => [(1, true, .pointer (some ⟨sb, 0, none⟩)), (2, true, .iface t r), (3, true, .pointer (some ⟨b3, 0, none⟩)), (7, true, .int .i64 (clN L fl : Int)), (8, true, .func (.func 164) #[] #[]), (64, true, .int .i64 (u.1.1 : Int))]) (fun u => St w0 ((sb, 102, cellsK go L fl X s1 (32 + 4 * u.1.1)) :: (b3, 27, L.cells) :: (u.1.2 ++ η))) (fun u => 4 - u.1.1) ⟨(0, K2), by show 0 ≤ 4; decide, hK2⟩ ⟨rfl, rfl, rfl, rfl, rfl, rfl, trivial⟩ (fun w h => h) ?_
    rintro ⟨⟨c, K5⟩, hc, hK5⟩
    dsimp only at hc hK5 ⊢
    refine TC_seq ?_
    refine TC_reg ?_
    refine TL_q rfl rfl (QT_lss rfl rfl rfl rfl) ?_
    refine TL_nil ?_
    refine TX_then ?_
    refine TC_seq ?_
    refine TC_cond_dec rfl (fun h65 => ?_) (fun h65 => ?_)
    ·
      have hc4 : c < 4 := by omega
      refine TC_skip ?_
      refine TX_then ?_
      refine TC_seq ?_
      refine TC_block ?_
      refine TC_seq ?_
      refine TC_reg ?_
      refine TL_q rfl rfl (QT_move rfl rfl rfl) ?_
      refine TL_q rfl rfl (QT_assign rfl rfl rfl) ?_
      refine TL_nil ?_
      refine TX_then ?_
      refine TC_seq ?_
      refine TC_reg ?_
      refine TL_q rfl rfl (QT_move rfl rfl rfl) ?_
      refine TL_nil ?_
      refine TX_then ?_
      refine TC_block ?_
      refine TC_loop (γ := { t : Nat × Heap // t.1 ≤ 4 ∧ Rep (rk go L fl X s1 (32 + 4 * c + t.1)).2 t.2 }) (fun u => [(1, true, .pointer (some ⟨sb, 0, none⟩)), (2, true, .iface t r), (3, true, .pointer (some ⟨b3, 0, none⟩)), (7, true, .int .i64 (clN L fl : Int)), (8, true, .func (.func 164) #[] #[]), (11, true, .int .i64 (c : Int)), (64, true, .int .i64 (c : Int)), (67, true, .int .i64 (u.1.1 : Int))]) (fun u => St w0 ((sb, 102, cellsK go L fl X s1 (32 + 4 * c + u.1.1)) :: (b3, 27, L.cells) :: (u.1.2 ++ η))) (fun u => 4 - u.1.1) ⟨(0, K5), by show 0 ≤ 4; decide, hK5⟩ ⟨rfl, rfl, rfl, rfl, rfl, rfl, rfl, rfl, trivial⟩ (fun w h => h) ?_
      rintro ⟨⟨d, K6⟩, hd, hK6⟩
      dsimp only at hd hK6 ⊢
      refine TC_seq ?_
      refine TC_reg ?_
      refine TL_q rfl rfl (QT_lss rfl rfl rfl rfl) ?_
      refine TL_nil ?_
      refine TX_then ?_
      refine TC_seq ?_
      refine TC_cond_dec rfl (fun h68 => ?_) (fun h68 => ?_)
      ·
        have hd4 : d < 4 := by omega
        have hwd : (if (decide ((c : Int) < (clN L fl : Int)) && decide ((d : Int) < L.cs)) = true then L.cm else 0) = (wCl L fl (4 * c + d) : Int) := by
          unfold wCl
          rw [show (4 * c + d) / 4 = c by omega, show (4 * c + d) % 4 = d by omega]
          by_cases hq : c < clN L fl ∧ d < L.cs.toNat
          · rw [if_pos hq, if_pos (by simp only [Bool.and_eq_true, decide_eq_true_eq]; omega), hcm]
          · rw [if_neg hq, if_neg (by simp only [Bool.and_eq_true, decide_eq_true_eq]; omega)]; rfl
        refine TC_skip ?_
        refine TX_then ?_
        refine TC_seq ?_
        refine TC_block ?_
        refine TC_seq ?_
        refine TC_reg ?_
        refine TL_q rfl rfl (QT_move rfl rfl rfl) ?_
        refine TL_q rfl rfl (QT_assign rfl rfl rfl) ?_
        refine TL_nil ?_
        refine TX_then ?_
        refine TC_draw [(0, 0), (1, 0), (2, 0), (3, 0), (4, 0), (5, 0), (6, 0), (7, 0), (8, 0), (9, 0), (10, 0), (11, 0), (12, 0), (13, 0), (14, 0), (15, 0), (16, 0), (17, 0), (18, 0), (19, 0), (20, 1), (21, 1)] YtjdaglmkljbfkaaGreatDoorF.mixed (by kernel_rfl) (St.calm _ _) ?_
        refine TV_q rfl rfl rfl (fun _ => QT_move rfl rfl rfl) ?_
        refine TV_q rfl rfl rfl (fun _ => QT_move rfl rfl rfl) ?_
        refine TV_q rfl rfl rfl (fun _ => QT_move rfl rfl rfl) ?_
        refine TV_q rfl rfl rfl (fun _ => QT_move rfl rfl rfl) ?_
        refine TV_q rfl rfl rfl (fun _ => QT_nilCheck rfl rfl rfl) ?_
        refine TV_q rfl rfl rfl (fun _ => QT_field rfl rfl YtjdaglmkljbfkaaGreatDoorF.fld_102_2 rfl) ?_
        refine TV_q rfl rfl rfl (fun _ => QT_indexArr c rfl rfl Tryz.underlying100 YtjdaglmkljbfkaaGreatDoorF.sz_75 rfl rfl rfl (fun _ => hc4)) ?_
        refine TV_q rfl rfl rfl (fun _ => QT_indexArr d rfl rfl Tryz.underlying75 YtjdaglmkljbfkaaGreatDoorF.sz_73 rfl rfl rfl (fun _ => hd4)) ?_
        refine TV_q rfl rfl rfl (fun _ => QT_move rfl rfl rfl) ?_
        refine TV_q rfl rfl rfl (fun _ => QT_move rfl rfl rfl) ?_
        refine TV_q rfl rfl rfl (fun _ => QT_move rfl rfl rfl) ?_
        refine TV_q rfl rfl rfl (fun _ => QT_lss rfl rfl rfl rfl) ?_
        refine TV_q rfl rfl rfl (fun _ => QT_move rfl rfl rfl) ?_
        refine TV_q rfl rfl rfl (fun _ => QT_move rfl rfl rfl) ?_
        refine TV_q rfl rfl rfl (fun _ => QT_field rfl rfl YtjdaglmkljbfkaaGreatDoorF.fld_27_4 rfl) ?_
        refine TV_ql rfl rfl rfl (QT_load 1 rfl rfl Tryz.underlying3 rfl rfl rfl (fun _ => rfl)) ?_
        refine TV_q rfl rfl rfl (fun _ => QT_lss rfl rfl rfl rfl) ?_
        refine TV_q rfl rfl rfl (fun _ => QT_and rfl rfl rfl rfl) ?_
        refine TV_q rfl rfl rfl (fun _ => QT_field rfl rfl YtjdaglmkljbfkaaGreatDoorF.fld_27_2 rfl) ?_
        refine TV_ql rfl rfl rfl (QT_load 1 rfl rfl Tryz.underlying3 rfl rfl rfl (fun _ => rfl)) ?_
        refine TV_gq rfl rfl rfl rfl (fun _ => Goes.value rfl rfl YtjdaglmkljbfkaaGreatDoorF.cal_164 rfl) (fun _ => hwd ▸ within_spec w0 _ _ L.cm) (.drop (by kernel_rfl) (.keep (by kernel_rfl) rfl (by first | exact QT_load 0 rfl rfl Tryz.underlying3 rfl rfl rfl (fun _ => rfl) | exact QT_load 1 rfl rfl Tryz.underlying3 rfl rfl rfl (fun _ => rfl) | exact QT_load 2 rfl rfl Tryz.underlying3 rfl rfl rfl (fun _ => rfl)) (.nil))) ?_
        refine TV_e rfl rfl rfl rfl (rfl) (ET_call rfl YtjdaglmkljbfkaaGreatDoorF.cal_165 rfl (go_cl h hok [(b3, 27, L.cells)] η K6 hX s1 sb (4 * c + d) (32 + 4 * c + d) _ (by omega) (by omega) (by omega) hO hK6 hs1)) ?_
        rintro _ _ ⟨rfl, K7, hK7, rfl⟩
        refine ⟨_, .keep (by kernel_rfl) rfl (by first | exact QT_load 0 rfl rfl Tryz.underlying3 rfl rfl rfl (fun _ => rfl) | exact QT_load 1 rfl rfl Tryz.underlying3 rfl rfl rfl (fun _ => rfl) | exact QT_load 2 rfl rfl Tryz.underlying3 rfl rfl rfl (fun _ => rfl)) (.nil), ?_⟩
        refine TV_end ?_
        refine TX_block_normal ?_
        refine TX_then ?_
        refine TC_reg ?_
        refine TL_q rfl rfl (QT_add rfl rfl rfl rfl (fun _ => ⟨by omega, by omega⟩)) ?_
        refine TL_q rfl rfl (QT_move rfl rfl rfl) ?_
        refine TL_nil ?_
        exact TX_round ⟨(d + 1, K7), by show d + 1 ≤ 4; omega, hK7⟩ (by show 4 - (d + 1) < 4 - d; omega) ⟨rfl, rfl, rfl, rfl, rfl, rfl, rfl, rfl, trivial⟩ (fun _ h => h)
      ·
        refine TC_exit ?_
        refine TX_then_exit ?_
        refine TX_then_exit ?_
        refine TX_block_here ?_
        refine TX_block_normal ?_
        refine TX_then ?_
        obtain rfl : d = 4 := by omega
        refine TC_reg ?_
        refine TL_q rfl rfl (QT_add rfl rfl rfl rfl (fun _ => ⟨by omega, by omega⟩)) ?_
        refine TL_q rfl rfl (QT_move rfl rfl rfl) ?_
        refine TL_nil ?_
        exact TX_round ⟨(c + 1, K6), by show c + 1 ≤ 4; omega, hK6⟩ (by show 4 - (c + 1) < 4 - c; omega) ⟨rfl, rfl, rfl, rfl, rfl, rfl, trivial⟩ (fun _ h => h)
    ·
      refine TC_exit ?_
      refine TX_then_exit ?_
      refine TX_then_exit ?_
      refine TX_block_here ?_
      obtain rfl : c = 4 := by omega
      refine TX_ret (.inr rfl) (res0 rfl) ⟨_, ⟨rfl, K5, ?_, rfl⟩, fun w h => ?_⟩
      · have := rk_all (go := go) (L := L) (fl := fl) (s := s1) hX.len
        rw [← this]; exact hK5
      · have := cellsK_all (go := go) (L := L) (fl := fl) (s := s1) hX.len
        rw [← this]; exact (show St w0 ((sb, 102, cellsK go L fl X s1 48) :: (b3, 27, L.cells) :: (K5 ++ η)) w from h).cnt fun p => by simp only [List.countP_append, List.countP_cons]; omega
end
end Go.Proofs.YtjdaglmkljbfkaaGreatDoor
namespace Go.Proofs.YtjdaglmkljbfkaaGreatDoor
open Go Go.Gx
set_option maxRecDepth 100000
theorem sum_if (c : Nat → Bool) (a : Nat) : ∀ l : List Nat, (l.map fun p => if c p = true then a else 0).sum = (l.filter c).length * a
  | [] => by simp
  | p :: l => by
    rw [List.map_cons, List.sum_cons, sum_if c a l, List.filter_cons]
    by_cases h : c p = true
    · rw [if_pos h, if_pos h, List.length_cons, Nat.add_mul]; omega
    · rw [if_neg h, if_neg h]; omega
theorem cnt_pt : ∀ n : Fin 17, ((List.range 32).filter fun p => decide (p / 2 < n.1)).length = 2 * n.1 := by decide
theorem cnt_cl : ∀ c k : Fin 5, ((List.range 16).filter fun j => decide (j / 4 < c.1 ∧ j % 4 < k.1)).length = c.1 * k.1 := by decide
theorem range48 : List.range 48 = List.range 32 ++ (List.range 16).map (32 + ·) := by decide
theorem cnt_pt' {n : Nat} (h : n < 17) : ((List.range 32).filter fun p => decide (p / 2 < n)).length = 2 * n := cnt_pt ⟨n, h⟩
theorem cnt_cl' {c k : Nat} (h : c < 5) (hk : k < 5) : ((List.range 16).filter fun j => decide (j / 4 < c ∧ j % 4 < k)).length = c * k := cnt_cl ⟨c, h⟩ ⟨k, hk⟩
theorem sum_pt (l : List Nat) (n a : Nat) : (l.map fun p => if p / 2 < n then a else 0).sum = (l.filter fun p => decide (p / 2 < n)).length * a := by
  have := sum_if (fun p => decide (p / 2 < n)) a l
  simpa only [decide_eq_true_eq] using this
theorem sum_cl (l : List Nat) (c k a : Nat) : (l.map fun j => if j / 4 < c ∧ j % 4 < k then a else 0).sum = (l.filter fun j => decide (j / 4 < c ∧ j % 4 < k)).length * a := by
  have := sum_if (fun j => decide (j / 4 < c ∧ j % 4 < k)) a l
  simpa only [decide_eq_true_eq] using this
theorem tot_split (u v : Nat → Nat) : tot ((List.range 48).map fun p => if p < 32 then (u (p / 2), 4294967296) else (v (p - 32), 65536)) = ((List.range 32).map fun p => u (p / 2)).sum + ((List.range 16).map v).sum := by
  unfold tot
  rw [range48, List.map_append, List.map_append, List.sum_append]
  refine congr (congrArg HAdd.hAdd (congrArg List.sum ?_)) (congrArg List.sum ?_)
  · rw [List.map_map]
    exact List.map_congr_left fun p hp => by
      have : p < 32 := List.mem_range.1 hp
      simp [this]
  · rw [List.map_map, List.map_map]
    exact List.map_congr_left fun p hp => by
      have : ¬ 32 + p < 32 := by omega
      simp [this]
theorem tot_wS {L : Lay} (h : okB L = true) (f : Nat) : tot (wS L f) = 2 * ptN L f * L.co.toNat + clN L f * L.cs.toNat * L.cm.toNat := by
  have hp := ptN_bd L f
  have hc := clN_bd L f
  have hs := (okB_bounds h).2.2.1
  have e1 := (sum_pt (List.range 32) (ptN L f) L.co.toNat).trans (congrArg (· * L.co.toNat) (cnt_pt' (by omega)))
  have e2 := (sum_cl (List.range 16) (clN L f) L.cs.toNat L.cm.toNat).trans (congrArg (· * L.cm.toNat) (cnt_cl' (by omega) (by omega)))
  refine (tot_split (fun i => wPt L f i) (fun j => wCl L f j)).trans ?_
  unfold wPt wCl
  rw [e1, e2]
/-- a record's numbers: its flag, and the others -/
def fS (L : Lay) (f : Nat) : Ws := (L.fl.toNat, 256) :: wS L f
def szN (L : Lay) (f : Nat) : Nat := (tot (fS L f) + 7) / 8
theorem fS_le {L : Lay} (h : okB L = true) (hty : L.ty = 6 ∨ L.ty = 7) (f : Nat) : ∀ p ∈ fS L f, p.1 ≤ 32 := by
  intro p hp
  have := (okB_bounds h).2.2.2.2.2 (by omega)
  rcases List.mem_cons.1 hp with rfl | hp
  · show L.fl.toNat ≤ 32; omega
  · exact wS_le h f p hp
theorem bits_eq {L : Lay} (h : okB L = true) (hty : L.ty = 6 ∨ L.ty = 7) (f : Nat) : bitsZ L (f : Int) = (tot (fS L f) : Int) := by
  have hp := (ptN_bd L f).2.2
  have hc := (clN_bd L f).2.2
  have hb := okB_bounds h
  have hfl := hb.2.2.2.2.2 (by omega)
  have e1 : L.fl = (L.fl.toNat : Int) := by omega
  have e2 : L.co = (L.co.toNat : Int) := by omega
  have e3 : L.cm = (L.cm.toNat : Int) := by omega
  have e4 : L.cs = (L.cs.toNat : Int) := by omega
  rw [fS, tot_cons, tot_wS h f]
  unfold bitsZ flb
  rw [if_neg (by omega), hp, hc]
  show L.fl + _ = _
  rw [Int.natCast_add, Int.natCast_add, Int.natCast_mul, Int.natCast_mul, Int.natCast_mul, Int.natCast_mul, ← e1, ← e2, ← e3, ← e4]
  rfl
theorem size_eq {L : Lay} (h : okB L = true) (hty : L.ty = 6 ∨ L.ty = 7) (f : Nat) : sizeZ L (f : Int) = (szN L f : Int) := by
  unfold sizeZ szN
  rw [if_pos h, bits_eq h hty]
  omega
theorem tot_le {k : Nat} : ∀ {ws : Ws}, (∀ p ∈ ws, p.1 ≤ k) → tot ws ≤ k * ws.length
  | [], _ => by simp [tot]
  | p :: ws, h => by
    rw [tot_cons, List.length_cons, Nat.mul_add]
    have := h p (List.mem_cons_self ..)
    have := tot_le fun q hq => h q (List.mem_cons_of_mem _ hq)
    omega
theorem fS_tot {L : Lay} (h : okB L = true) (hty : L.ty = 6 ∨ L.ty = 7) (f : Nat) : L.fl.toNat ≤ tot (fS L f) ∧ tot (fS L f) ≤ 1568 ∧ 2 ≤ tot (fS L f) ∧ L.fl.toNat ≤ 8 := by
  have h1 := tot_le (fS_le h hty f)
  have h2 : (fS L f).length = 49 := by rw [fS, List.length_cons, wS_len]
  have hfl := (okB_bounds h).2.2.2.2.2 (by omega)
  rw [h2] at h1
  have h3 : tot (fS L f) = L.fl.toNat + tot (wS L f) := tot_cons _ _
  omega
theorem szN_pos {L : Lay} (h : okB L = true) (hty : L.ty = 6 ∨ L.ty = 7) (f : Nat) : 1 ≤ szN L f ∧ szN L f ≤ 196 := by
  have := fS_tot h hty f
  unfold szN; omega
def zer : List Nat := List.replicate 48 0
theorem zer_sh : Sh zer := ⟨rfl, fun {p x} h _ => by
    have : x = 0 := List.eq_of_mem_replicate (List.mem_of_getElem? h)
    omega, fun {p x} h _ => by
    have : x = 0 := List.eq_of_mem_replicate (List.mem_of_getElem? h)
    omega⟩
/-- a sheet's numbers -/
def ShF (ys : List Nat) : Prop := ∃ x0 X, ys = x0 :: X ∧ x0 < 256 ∧ Sh X
def flB (L : Lay) (l : List Bool) : Nat := num (l.take L.fl.toNat) % 256
def dcS (L : Lay) (l : List Bool) : List Nat := dec (fS L (flB L l)) l
theorem dcS_eq (L : Lay) (l : List Bool) : dcS L l = flB L l :: dec (wS L (flB L l)) (l.drop L.fl.toNat) := rfl
theorem dcS_shf (L : Lay) (l : List Bool) : ShF (dcS L l) := ⟨_, _, dcS_eq L l, Nat.mod_lt _ (by decide), Und.sh (L := L) (f := flB L l) (dec_und _ (wS_m L _))⟩
/-- a whole sheet read -/
theorem thr_R_ok {L : Lay} (h : okB L = true) (hty : L.ty = 6 ∨ L.ty = 7) {bs : List Nat} (hl : tot (fS L (flB L (byB bs))) ≤ 8 * bs.length) :
    thr (goR bs) L 0 zer (0, 0) = (dcS L (byB bs), (tot (fS L (flB L (byB bs))), 0)) := by
  have ht := fS_tot h hty (flB L (byB bs))
  have h3 : tot (fS L (flB L (byB bs))) = L.fl.toNat + tot (wS L (flB L (byB bs))) := tot_cons _ _
  have e0 : goR bs ((0 : Nat), (0 : Int)) 0 L.fl.toNat = (num ((byB bs).take L.fl.toNat), (L.fl.toNat, 0)) := by
    rw [goR_ok (by omega) (by omega), List.drop_zero, Nat.zero_add]
  have e1 := run_goR_ok (bs := bs) (a := L.fl.toNat) (wS_le h (flB L (byB bs))) (by omega) (show (wS L (flB L (byB bs))).length = zer.length by rw [wS_len]; rfl)
  unfold thr
  rw [e0]
  show (flB L (byB bs) :: (run (goR bs) (wS L (flB L (byB bs))) zer (L.fl.toNat, 0)).1, (run (goR bs) (wS L (flB L (byB bs))) zer (L.fl.toNat, 0)).2) = _
  rw [e1, dcS_eq, h3]
theorem thr_R_bad {L : Lay} (h : okB L = true) (hty : L.ty = 6 ∨ L.ty = 7) {bs : List Nat} (h0 : bs ≠ []) (hl : 8 * bs.length < tot (fS L (flB L (byB bs)))) :
    (thr (goR bs) L 0 zer (0, 0)).2.2 ≠ 0 := by
  have ht := fS_tot h hty (flB L (byB bs))
  have hb : 0 < bs.length := List.length_pos_iff.2 h0
  have h3 : tot (fS L (flB L (byB bs))) = L.fl.toNat + tot (wS L (flB L (byB bs))) := tot_cons _ _
  have e0 : goR bs ((0 : Nat), (0 : Int)) 0 L.fl.toNat = (num ((byB bs).take L.fl.toNat), (L.fl.toNat, 0)) := by
    rw [goR_ok (by omega) (by omega), List.drop_zero, Nat.zero_add]
  unfold thr
  rw [e0]
  show (run (goR bs) (wS L (flB L (byB bs))) zer (L.fl.toNat, 0)).2.2 ≠ 0
  exact run_goR_bad (wS_le h _) (by omega) (by omega) (by rw [wS_len]; rfl)
/-- sheets of bytes -/
def gets (L : Lay) : Nat → List Nat → Option (List (List Nat))
  | 0, bs => if bs = [] then some [] else none
  | k + 1, bs => if bs = [] then some [] else
      if 8 * bs.length < tot (fS L (flB L (byB bs))) then none else (gets L k (bs.drop (szN L (flB L (byB bs))))).map (dcS L (byB bs) :: ·)
theorem gets_fuel {L : Lay} (h : okB L = true) (hty : L.ty = 6 ∨ L.ty = 7) : ∀ (k m : Nat) (bs : List Nat), bs.length ≤ k → bs.length ≤ m → gets L k bs = gets L m bs
  | 0, 0, _, _, _ => rfl
  | 0, m + 1, bs, hk, _ => by
    obtain rfl : bs = [] := List.length_eq_zero_iff.1 (by omega)
    simp [gets]
  | k + 1, 0, bs, _, hm => by
    obtain rfl : bs = [] := List.length_eq_zero_iff.1 (by omega)
    simp [gets]
  | k + 1, m + 1, bs, hk, hm => by
    rw [gets, gets]
    have h1 := (szN_pos h hty (flB L (byB bs))).1
    by_cases h0 : bs = []
    · rw [if_pos h0, if_pos h0]
    · have : 0 < bs.length := List.length_pos_iff.2 h0
      rw [if_neg h0, if_neg h0, gets_fuel h hty k m _ (by rw [List.length_drop]; omega) (by rw [List.length_drop]; omega)]
def getS (L : Lay) (bs : List Nat) : Option (List (List Nat)) := gets L bs.length bs
theorem getS_nil (L : Lay) : getS L [] = some [] := rfl
theorem getS_cons {L : Lay} (h : okB L = true) (hty : L.ty = 6 ∨ L.ty = 7) {bs : List Nat} (h0 : bs ≠ []) :
    getS L bs = if 8 * bs.length < tot (fS L (flB L (byB bs))) then none else (getS L (bs.drop (szN L (flB L (byB bs))))).map (dcS L (byB bs) :: ·) := by
  unfold getS
  have hb : 0 < bs.length := List.length_pos_iff.2 h0
  obtain ⟨k, hk⟩ : ∃ k, bs.length = k + 1 := ⟨bs.length - 1, by omega⟩
  have h1 := (szN_pos h hty (flB L (byB bs))).1
  rw [gets_fuel h hty (bs.drop (szN L (flB L (byB bs)))).length k _ (Nat.le_refl _) (by rw [List.length_drop]; omega)]
  rw [show gets L bs.length bs = gets L (k + 1) bs by rw [hk], gets, if_neg h0]
def errG (L : Lay) (bs : List Nat) : Int := if okB L = true ∧ 6 ≤ L.ty then (if 65536 < bs.length then 3 else match getS L bs with | none => 5 | some _ => 0) else 4
def outG (L : Lay) (bs : List Nat) : List (List Nat) := if errG L bs = 0 then (getS L bs).getD [] else []
theorem ty67 {L : Lay} (h : okB L = true ∧ 6 ≤ L.ty) : L.ty = 6 ∨ L.ty = 7 := by
  have := (okB_bounds h.1).2.2.2.1
  omega
theorem errG_ok {L : Lay} {bs : List Nat} (h : okB L = true ∧ 6 ≤ L.ty) (hl : ¬ 65536 < bs.length) {ys : List (List Nat)} (hy : getS L bs = some ys) : errG L bs = 0 ∧ outG L bs = ys := by
  have e : errG L bs = 0 := by unfold errG; rw [if_pos h, if_neg hl, hy]
  exact ⟨e, by unfold outG; rw [if_pos e, hy]; rfl⟩
theorem errG_none {L : Lay} {bs : List Nat} (h : okB L = true ∧ 6 ≤ L.ty) (hl : ¬ 65536 < bs.length) (hy : getS L bs = none) : errG L bs = 5 := by
  unfold errG; rw [if_pos h, if_neg hl, hy]
theorem outG_bad {L : Lay} {bs : List Nat} (h : errG L bs ≠ 0) : outG L bs = [] := by unfold outG; rw [if_neg h]
theorem gets_shf {L : Lay} : ∀ (k : Nat) (bs : List Nat) (ys : List (List Nat)), gets L k bs = some ys → ∀ y ∈ ys, ShF y
  | 0, bs, ys, h, y, hy => by
    unfold gets at h
    split at h
    · cases h; exact absurd hy List.not_mem_nil
    · cases h
  | k + 1, bs, ys, h, y, hy => by
    rw [gets] at h
    split at h
    · cases h; exact absurd hy List.not_mem_nil
    · split at h
      · cases h
      · obtain ⟨zs, hz, rfl⟩ := Option.map_eq_some_iff.1 h
        rcases List.mem_cons.1 hy with rfl | hy
        · exact dcS_shf ..
        · exact gets_shf k _ zs hz y hy
theorem outG_shf {L : Lay} {bs : List Nat} : ∀ y ∈ outG L bs, ShF y := by
  intro y hy
  unfold outG at hy
  split at hy
  · cases hg : getS L bs with
    | none => rw [hg] at hy; exact absurd hy List.not_mem_nil
    | some ys => rw [hg] at hy; exact gets_shf _ _ _ hg y hy
  · exact absurd hy List.not_mem_nil
theorem ShF.len {y : List Nat} (h : ShF y) : y.length = 49 := by
  obtain ⟨x0, X, rfl, _, hX⟩ := h
  rw [List.length_cons, hX.len]
theorem zip_ints : ∀ {ks : List IntKind} {xs : List Nat}, ks.length = xs.length → (∀ (p : Nat) (k : IntKind) (x : Nat), ks[p]? = some k → xs[p]? = some x → (Lit.int k (x : Int)).wf = true) → Ints ks (List.zipWith (fun (k : IntKind) (x : Nat) => Value.int k (x : Int)) ks xs)
  | [], [], _, _ => .nil
  | [], _ :: _, h, _ => by simp at h
  | _ :: _, [], h, _ => by simp at h
  | k :: ks, x :: xs, h, hw => .cons (hw 0 k x rfl rfl) (zip_ints (by simpa using h) fun p k x h1 h2 => hw (p + 1) k x h1 h2)
theorem shV_ints {y : List Nat} (h : ShF y) : Ints sheetK (shV y) := by
  have hl := h.len
  obtain ⟨x0, X, rfl, h0, hX⟩ := h
  refine zip_ints (by rw [sheetK_len, hl]) fun p k x hk hv => ?_
  have hp : p < 49 := by rw [← sheetK_len]; exact (List.getElem?_eq_some_iff.1 hk).1
  rw [sheetK_at hp] at hk
  cases hk
  unfold skK
  cases p with
  | zero =>
    cases hv
    have h1 : IntKind.u8.min = 0 := rfl
    have h2 : IntKind.u8.max = 255 := rfl
    simp only [if_pos, Lit.wf, Bool.and_eq_true, decide_eq_true_eq]
    omega
  | succ p =>
    rw [List.getElem?_cons_succ] at hv
    rw [if_neg (by omega)]
    by_cases hc : p + 1 < 33
    · have := hX.pt hv (by omega)
      have h1 : IntKind.u32.min = 0 := rfl
      have h2 : IntKind.u32.max = 4294967295 := rfl
      rw [if_pos hc]
      simp only [Lit.wf, Bool.and_eq_true, decide_eq_true_eq]
      omega
    · have := hX.cl hv (by omega)
      have h1 : IntKind.u16.min = 0 := rfl
      have h2 : IntKind.u16.max = 65535 := rfl
      rw [if_neg hc]
      simp only [Lit.wf, Bool.and_eq_true, decide_eq_true_eq]
      omega
end Go.Proofs.YtjdaglmkljbfkaaGreatDoor
namespace Go.Proofs.YtjdaglmkljbfkaaGreatDoor
open Go Go.Gx Go.RowKit
set_option maxRecDepth 100000
def errC (L : Lay) : Int := if okB L = true ∧ 6 ≤ L.ty then 0 else 4
theorem scheck_spec (w0 : Base) (η : Heap) (hG : Sets w0) (L : Lay) :
    CallsT Tryz.prog 145 [L.val] (St w0 η) fun v A' => v = .int .i64 (errC L) ∧ A' = St w0 η := by
  refine CallsT.body Tryz.func145 rfl rfl ?_
  simp only [Tryz.ntmps145, slotsOf, Nat.reduceAdd]
  refine TC_seq ?_
  refine TC_reg ?_
  refine TL_e rfl rfl rfl (rfl) (ET_box rfl rfl) ?_
  rintro _ _ ⟨b1, rfl, rfl⟩
  refine TL_q rfl rfl (QT_assign rfl rfl rfl) ?_
  refine TL_nil ?_
  refine TX_then ?_
  refine TC_seq ?_
  refine TC_seq ?_
  refine TC_reg ?_
  refine TL_q rfl rfl (QT_loadW 0 rfl rfl Tryz.underlying27 rfl rfl rfl YtjdaglmkljbfkaaGreatDoorF.sz_27) ?_
  refine TL_cq rfl rfl rfl rfl YtjdaglmkljbfkaaGreatDoorF.cal_26 rfl (fun _ => check_spec w0 _ hG L) ?_
  refine TL_q rfl rfl (QT_neq rfl rfl rfl rfl) ?_
  refine TL_q rfl rfl (QT_move rfl rfl rfl) ?_
  refine TL_q rfl rfl (QT_field rfl rfl YtjdaglmkljbfkaaGreatDoorF.fld_27_0 rfl) ?_
  refine TL_q rfl rfl (QT_load 0 rfl rfl Tryz.underlying3 rfl rfl rfl (fun _ => rfl)) ?_
  refine TL_q rfl rfl (QT_lss rfl rfl rfl rfl) ?_
  refine TL_q rfl rfl (QT_or rfl rfl rfl rfl) ?_
  refine TL_nil ?_
  refine TX_then ?_
  refine TC_cond rfl (fun h10 => ?_) (fun h10 => ?_)
  ·
    refine TC_seq ?_
    refine TC_reg ?_
    refine TL_q rfl rfl (QT_assign rfl rfl rfl) ?_
    refine TL_nil ?_
    refine TX_then ?_
    refine TC_ret ?_
    refine TX_then_ret ?_
    refine TX_ret (.inl rfl) (res1 rfl rfl) ⟨_, ⟨?_, rfl⟩, fun _ h => h.tail⟩
    have e : errC L = 4 := by
      simp only [Bool.or_eq_true, decide_eq_true_eq] at h10
      unfold errC
      rw [if_neg]
      rintro ⟨h1, h2⟩
      unfold errOf at h10
      rw [if_pos h1] at h10
      omega
    rw [e]
  ·
    refine TC_skip ?_
    refine TX_then ?_
    refine TC_seq ?_
    refine TC_reg ?_
    refine TL_q rfl rfl (QT_assign rfl rfl rfl) ?_
    refine TL_nil ?_
    refine TX_then ?_
    refine TC_ret ?_
    refine TX_ret (.inl rfl) (res1 rfl rfl) ⟨_, ⟨?_, rfl⟩, fun _ h => h.tail⟩
    have e : errC L = 0 := by
      simp only [Bool.or_eq_false_iff, decide_eq_false_iff_not] at h10
      unfold errC
      rw [if_pos]
      unfold errOf at h10
      refine ⟨?_, by omega⟩
      by_cases h1 : okB L = true
      · exact h1
      · rw [if_neg h1] at h10; omega
    rw [e]
theorem clipS_spec (w0 : Base) (η H : Heap) (v : Value) (n : Nat) (xs : List Value) (hF : Frag 102 49 v n xs H) :
    CallsT Tryz.prog 147 [v] (St w0 (H ++ η)) fun v A' => Frag 102 49 v n xs H ∧ A' = St w0 (H ++ η) := by
  obtain ⟨hl, hF⟩ := hF
  rcases hF with ⟨rfl, rfl, rfl⟩ | ⟨b, cap, rest, rfl, hc, hlen, rfl⟩
  · refine CallsT.body Tryz.func147 rfl rfl ?_
    simp only [Tryz.ntmps147, slotsOf, Nat.reduceAdd]
    refine TC_seq ?_
    refine TC_reg ?_
    refine TL_q rfl rfl (QT_assign rfl rfl rfl) ?_
    refine TL_nil ?_
    refine TX_then ?_
    refine TC_seq ?_
    refine TC_reg ?_
    refine TL_q rfl rfl (QT_move rfl rfl rfl) ?_
    refine TL_q rfl rfl (QT_move rfl rfl rfl) ?_
    refine TL_q rfl rfl (QT_len rfl rfl Tryz.underlying32 rfl) ?_
    refine TL_q rfl rfl (QT_move rfl rfl rfl) ?_
    refine TL_q rfl rfl (QT_len rfl rfl Tryz.underlying32 rfl) ?_
    refine TL_q rfl rfl (QT_slcHM (0) (0) rfl rfl rfl Tryz.underlying32 YtjdaglmkljbfkaaGreatDoorF.sz_102 rfl rfl rfl rfl rfl (fun _ => ⟨by omega, by omega⟩)) ?_
    refine TL_q rfl rfl (QT_assign rfl rfl rfl) ?_
    refine TL_nil ?_
    refine TX_then ?_
    refine TC_ret ?_
    exact TX_ret (.inl rfl) (res1 rfl rfl) ⟨_, ⟨⟨hl, .inl ⟨rfl, rfl, rfl⟩⟩, rfl⟩, fun _ h => h⟩
  · refine CallsT.body Tryz.func147 rfl rfl ?_
    simp only [Tryz.ntmps147, slotsOf, Nat.reduceAdd]
    refine TC_seq ?_
    refine TC_reg ?_
    refine TL_q rfl rfl (QT_assign rfl rfl rfl) ?_
    refine TL_nil ?_
    refine TX_then ?_
    refine TC_seq ?_
    refine TC_reg ?_
    refine TL_q rfl rfl (QT_move rfl rfl rfl) ?_
    refine TL_q rfl rfl (QT_move rfl rfl rfl) ?_
    refine TL_q rfl rfl (QT_len rfl rfl Tryz.underlying32 rfl) ?_
    refine TL_q rfl rfl (QT_move rfl rfl rfl) ?_
    refine TL_q rfl rfl (QT_len rfl rfl Tryz.underlying32 rfl) ?_
    refine TL_q rfl rfl (QT_slcHM (n) (n) rfl rfl rfl Tryz.underlying32 YtjdaglmkljbfkaaGreatDoorF.sz_102 rfl rfl rfl rfl rfl (fun _ => ⟨by omega, by omega⟩)) ?_
    refine TL_q rfl rfl (QT_assign rfl rfl rfl) ?_
    refine TL_nil ?_
    refine TX_then ?_
    refine TC_ret ?_
    exact TX_ret (.inl rfl) (res1 rfl rfl) ⟨_, ⟨⟨hl, .inr ⟨b, n, rest, rfl, ⟨Nat.le_refl _, by omega⟩, Nat.le_trans (Nat.mul_le_mul_right _ hc.1) hlen, rfl⟩⟩, rfl⟩, fun _ h => h⟩
/-- sheets, one behind the other, in memory -/
def flatS (ys : List (List Nat)) : List Value := (ys.map shV).flatten
theorem flatS_snoc (ys : List (List Nat)) (y : List Nat) : flatS (ys ++ [y]) = flatS ys ++ shV y := by simp [flatS]
theorem errC_ok {L : Lay} (h : errC L = 0) : okB L = true ∧ 6 ≤ L.ty := by
  unfold errC at h
  split at h
  · assumption
  · exact absurd h (by decide)
theorem errC_bad {L : Lay} (h : errC L ≠ 0) : errC L = 4 ∧ ∀ bs, errG L bs = 4 := by
  unfold errC at h ⊢
  split at h
  · exact absurd rfl h
  · rename_i hn
    rw [if_neg hn]
    exact ⟨rfl, fun bs => by unfold errG; rw [if_neg hn]⟩
theorem fragNone {L : Lay} {bs : List Nat} {e : Int} (h : errG L bs = e) (h0 : e ≠ 0) : Frag 102 49 (.slice none 0 0) (outG L bs).length (flatS (outG L bs)) [] := by
  rw [outG_bad (by rw [h]; exact h0)]
  exact Frag.nil _ _
set_option maxHeartbeats 1000000 in
theorem sget_spec (w0 : Base) (η : Heap) (hG : Sets w0) (L : Lay) (bv : Value) (bs : List Nat) (hs : SlA (St w0 η) bv 1 bs.length (byV bs)) (hb : ∀ c ∈ bs, c < 256) (hl : bs.length ≤ 140737488355328) :
    CallsT Tryz.prog 131 [L.val, bv] (St w0 η) fun v A' => ∃ sv H, v = .tuple #[sv, .int .i64 (errG L bs)] ∧ Frag 102 49 sv (outG L bs).length (flatS (outG L bs)) H ∧ A' = St w0 (H ++ η) := by
  have hs0 := hs
  obtain ⟨_, ad, cap, rfl, hcap, _⟩ := hs
  refine CallsT.body Tryz.func131 rfl rfl ?_
  simp only [Tryz.ntmps131, slotsOf, Nat.reduceAdd]
  refine TC_seq ?_
  refine TC_reg ?_
  refine TL_e rfl rfl rfl (rfl) (ET_box rfl rfl) ?_
  rintro _ _ ⟨b2, rfl, rfl⟩
  refine TL_q rfl rfl (QT_assign rfl rfl rfl) ?_
  refine TL_q rfl rfl (QT_assign rfl rfl rfl) ?_
  refine TL_nil ?_
  refine TX_then ?_
  refine TC_seq ?_
  refine TC_seq ?_
  refine TC_reg ?_
  refine TL_q rfl rfl (QT_loadW 0 rfl rfl Tryz.underlying27 rfl rfl rfl YtjdaglmkljbfkaaGreatDoorF.sz_27) ?_
  refine TL_cq rfl rfl rfl rfl YtjdaglmkljbfkaaGreatDoorF.cal_145 rfl (fun _ => scheck_spec w0 _ hG L) ?_
  refine TL_q rfl rfl (QT_assign rfl rfl rfl) ?_
  refine TL_nil ?_
  refine TX_then ?_
  refine TC_seq ?_
  refine TC_reg ?_
  refine TL_q rfl rfl (QT_move rfl rfl rfl) ?_
  refine TL_q rfl rfl (QT_neq rfl rfl rfl rfl) ?_
  refine TL_nil ?_
  refine TX_then ?_
  refine TC_cond_dec rfl (fun h13 => ?_) (fun h13 => ?_)
  ·
    refine TC_seq ?_
    refine TC_reg ?_
    refine TL_q rfl rfl (QT_move rfl rfl rfl) ?_
    refine TL_q rfl rfl (QT_assign rfl rfl rfl) ?_
    refine TL_q rfl rfl (QT_assign rfl rfl rfl) ?_
    refine TL_nil ?_
    refine TX_then ?_
    refine TC_ret ?_
    refine TX_then_ret ?_
    obtain ⟨e4, eG⟩ := errC_bad h13
    exact TX_ret (.inl rfl) (res2 rfl rfl rfl) ⟨_, ⟨_, [], by rw [eG bs, e4], fragNone (eG bs) (by decide), rfl⟩, fun _ h => h.tail⟩
  ·
    refine TC_skip ?_
    refine TX_then ?_
    refine TC_seq ?_
    refine TC_seq ?_
    refine TC_reg ?_
    refine TL_q rfl rfl (QT_move rfl rfl rfl) ?_
    refine TL_q rfl rfl (QT_len rfl rfl Tryz.underlying28 rfl) ?_
    refine TL_q rfl rfl (QT_gtr rfl rfl rfl rfl) ?_
    refine TL_nil ?_
    refine TX_then ?_
    refine TC_cond_dec rfl (fun h17 => ?_) (fun h17 => ?_)
    ·
      refine TC_seq ?_
      refine TC_reg ?_
      refine TL_q rfl rfl (QT_assign rfl rfl rfl) ?_
      refine TL_q rfl rfl (QT_assign rfl rfl rfl) ?_
      refine TL_nil ?_
      refine TX_then ?_
      refine TC_ret ?_
      refine TX_then_ret ?_
      have hc := errC_ok (Classical.not_not.1 h13)
      have e3 : errG L bs = 3 := by unfold errG; rw [if_pos hc, if_pos (by omega)]
      exact TX_ret (.inl rfl) (res2 rfl rfl rfl) ⟨_, ⟨_, [], by rw [e3], fragNone e3 (by decide), rfl⟩, fun _ h => h.tail⟩
    ·
      refine TC_skip ?_
      refine TX_then ?_
      refine TC_seq ?_
      have hc := errC_ok (Classical.not_not.1 h13)
      have hty := ty67 hc
      have hle : ¬ 65536 < bs.length := by omega
      refine TC_reg ?_
      refine TL_q rfl rfl (QT_assign rfl rfl rfl) ?_
      refine TL_nil ?_
      refine TX_then ?_
      refine TC_seq ?_
      refine TC_block ?_
      refine TC_loop (γ := { t : List (List Nat) × List Nat × Value × Value × Heap // SlA (St w0 η) t.2.2.1 1 t.2.1.length (byV t.2.1) ∧ Frag 102 49 t.2.2.2.1 t.1.length (flatS t.1) t.2.2.2.2 ∧ (∀ c ∈ t.2.1, c < 256) ∧ getS L bs = (getS L t.2.1).map (t.1 ++ ·) ∧ t.1.length + t.2.1.length ≤ bs.length }) (fun u => [(1, true, u.1.2.2.1), (2, true, .pointer (some ⟨b2, 0, none⟩)), (7, true, u.1.2.2.2.1)]) (fun u => St w0 ((b2, 27, L.cells) :: (u.1.2.2.2.2 ++ η))) (fun u => u.1.2.1.length) ⟨([], bs, .slice ad bs.length cap, .slice none 0 0, []), hs0, Frag.nil _ _, hb, by rw [show (fun x : List (List Nat) => [] ++ x) = id from rfl, Option.map_id]; rfl, by show 0 + bs.length ≤ _; omega⟩ ⟨rfl, rfl, rfl, trivial⟩ (fun _ h => h) ?_
      rintro ⟨⟨acc, rest, rv, sv, H⟩, hR, hF, hrb, hgs, hal⟩
      dsimp only at hR hF hrb hgs hal ⊢
      have hR0 := hR
      obtain ⟨_, rad, rcap, rfl, hrc, _⟩ := hR
      refine TC_seq ?_
      refine TC_seq ?_
      refine TC_reg ?_
      refine TL_q rfl rfl (QT_move rfl rfl rfl) ?_
      refine TL_q rfl rfl (QT_len rfl rfl Tryz.underlying28 rfl) ?_
      refine TL_q rfl rfl (QT_gtr rfl rfl rfl rfl) ?_
      refine TL_nil ?_
      refine TX_then ?_
      refine TC_cond_dec rfl (fun h20 => ?_) (fun h20 => ?_)
      ·
        have hr0 : rest ≠ [] := by intro h; subst h; simp at h20
        have hrl : 0 < rest.length := List.length_pos_iff.2 hr0
        refine TC_skip ?_
        refine TX_then ?_
        refine TC_block ?_
        refine TC_seq ?_
        refine TC_reg ?_
        refine TL_e rfl rfl rfl (rfl) (ET_alloc rfl YtjdaglmkljbfkaaGreatDoorF.zero_102) ?_
        rintro _ _ ⟨b8, rfl, rfl⟩
        refine TL_nil ?_
        refine TX_then ?_
        refine TC_seq ?_
        refine TC_reg ?_
        refine TL_q rfl rfl (QT_move rfl rfl rfl) ?_
        refine TL_q rfl rfl (QT_build rfl rfl YtjdaglmkljbfkaaGreatDoorF.zero_262 YtjdaglmkljbfkaaGreatDoorF.pl_262 rfl rfl rfl) ?_
        refine TL_e rfl rfl rfl (rfl) (ET_box rfl rfl) ?_
        rintro _ _ ⟨b23, rfl, rfl⟩
        refine TL_q rfl rfl (QT_assign rfl rfl rfl) ?_
        refine TL_nil ?_
        refine TX_then ?_
        refine TC_seq ?_
        refine TC_A (St w0 ((b8, 102, shV (0 :: zer)) :: (b23, 262, [.slice rad rest.length rcap, .int .i64 0, .int .i64 0]) :: (b2, 27, L.cells) :: (H ++ η))) (fun w h => h.swap) ?_
        obtain ⟨G, hGd⟩ : ∃ G, G = thr (goR rest) L 0 zer (0, 0) := ⟨_, rfl⟩
        have hok2 := thr_R_ok (bs := rest) hc.1 hty
        have hbad2 := thr_R_bad (bs := rest) hc.1 hty hr0
        have hthr := through_spec (reader_ok w0 b23 (.slice rad rest.length rcap) rest hrb (by omega)) ((b2, 27, L.cells) :: (H ++ η)) [(b23, 262, [.slice rad rest.length rcap, .int .i64 0, .int .i64 0])] L hc.1 hty (0, 0) b8 0 zer (by decide) zer_sh (hR0.mono fun w h => h.tail.app_right) rfl (by decide)
        rw [← hGd] at hok2 hbad2 hthr
        obtain ⟨ys, at', e⟩ := G
        have hcons := getS_cons hc.1 hty hr0
        have hk1 := (szN_pos hc.1 hty (flB L (byB rest))).1
        have hszL := fun A => size_spec w0 A hG L (flB L (byB rest) : Int) (Int.natCast_nonneg _)
        rw [size_eq hc.1 hty] at hszL
        have hnT : szN L (flB L (byB rest)) = (tot (fS L (flB L (byB rest))) + 7) / 8 := rfl
        have hdc := dcS_eq L (byB rest)
        have hshf := dcS_shf L (byB rest)
        obtain ⟨D, hD⟩ : ∃ D, D = dcS L (byB rest) := ⟨_, rfl⟩
        obtain ⟨fl, hfl⟩ : ∃ fl, fl = flB L (byB rest) := ⟨_, rfl⟩
        rw [← hD, ← hfl] at hdc hok2
        rw [← hD] at hshf
        rw [← hfl] at hbad2 hk1 hszL hnT
        rw [← hD, ← hfl] at hcons
        obtain ⟨T, hT⟩ : ∃ T, T = tot (fS L fl) := ⟨_, rfl⟩
        obtain ⟨m, hm⟩ : ∃ m, m = szN L fl := ⟨_, rfl⟩
        rw [← hm, ← hT] at hcons hnT
        rw [← hT] at hok2 hbad2
        rw [← hm] at hk1 hszL
        clear hT hm hD
        refine TC_reg ?_
        refine TL_q rfl rfl (QT_loadW (cs := L.cells) 2 rfl rfl Tryz.underlying27 rfl rfl rfl YtjdaglmkljbfkaaGreatDoorF.sz_27) ?_
        refine TL_q rfl rfl (QT_move rfl rfl rfl) ?_
        refine TL_q rfl rfl (QT_makeIface rfl rfl Tryz.underlying260 rfl rfl) ?_
        refine TL_e rfl rfl rfl (rfl) (ET_call rfl YtjdaglmkljbfkaaGreatDoorF.cal_146 rfl (hthr)) ?_
        rintro _ _ ⟨rfl, K', hK', rfl⟩
        refine TL_nil ?_
        refine TX_then ?_
        refine TC_seq ?_
        refine TC_seq ?_
        have hK2 : K' = [(b23, 262, [.slice rad rest.length rcap, .int .i64 (at' : Int), .int .i64 e])] := hK'
        subst hK2
        refine TC_reg ?_
        refine TL_q rfl rfl (QT_move rfl rfl rfl) ?_
        refine TL_q rfl rfl (QT_nilCheck rfl rfl rfl) ?_
        refine TL_q rfl rfl (QT_field rfl rfl YtjdaglmkljbfkaaGreatDoorF.fld_262_2 rfl) ?_
        refine TL_q rfl rfl (QT_load (v := .int .i64 e) 1 rfl rfl Tryz.underlying35 rfl rfl rfl (fun _ => rfl)) ?_
        refine TL_q rfl rfl (QT_neq rfl rfl rfl rfl) ?_
        refine TL_nil ?_
        refine TX_then ?_
        refine TC_cond_dec rfl (fun h32 => ?_) (fun h32 => ?_)
        ·
          refine TC_seq ?_
          refine TC_reg ?_
          refine TL_q rfl rfl (QT_assign rfl rfl rfl) ?_
          refine TL_q rfl rfl (QT_assign rfl rfl rfl) ?_
          refine TL_nil ?_
          refine TX_then ?_
          refine TC_ret ?_
          refine TX_then_ret ?_
          refine TX_block_ret ?_
          refine TX_then_ret ?_
          refine TX_block_ret ?_
          refine TX_then_ret ?_
          have hbad : 8 * rest.length < T := by
            refine Nat.lt_of_not_le fun hc2 => ?_
            have := hok2 hc2
            simp only [Prod.mk.injEq] at this
            exact h32 this.2.2
          have e5 : errG L bs = 5 := errG_none hc hle (by rw [hgs, hcons, if_pos hbad]; rfl)
          exact TX_ret (.inl rfl) (res2 rfl rfl rfl) ⟨_, ⟨_, [], by rw [e5], fragNone e5 (by decide), rfl⟩, fun _ h => h.tail.tail.tail.app_right⟩
        ·
          refine TC_skip ?_
          refine TX_then ?_
          have hfit : ¬ 8 * rest.length < T := fun hb2 => hbad2 hb2 (Classical.not_not.1 h32)
          obtain ⟨rfl, rfl, rfl⟩ : ys = D ∧ at' = T ∧ e = 0 := by
            have := hok2 (Nat.le_of_not_lt hfit)
            simp only [Prod.mk.injEq] at this
            exact ⟨this.1, this.2.1, this.2.2⟩
          have hyl : (shV ys).length = 49 := shV_len hshf.len
          have hys : Sz Tryz.prog 102 (shV ys).length := by rw [hyl]; exact YtjdaglmkljbfkaaGreatDoorF.sz_102
          have hyi := shV_ints hshf
          have hyf : (shV ys)[0]? = some (.int .u8 (fl : Int)) := shV_at (xs := ys) (p := 0) (by decide) (by rw [hdc]; rfl)
          have hk0 : m ≤ rest.length := by omega
          have hR2 := hR0.back hk0
          rw [byV_drop] at hR2
          have hdl : (rest.drop m).length = rest.length - m := List.length_drop ..
          refine TC_draw [(0, 0), (1, 0), (4, 0), (5, 0), (6, 0), (7, 0), (2, 1), (3, 1), (8, 1), (9, 0), (10, 0), (11, 0)] YtjdaglmkljbfkaaGreatDoorF.mixed (by kernel_rfl) (St.calm _ _) ?_
          refine TV_q rfl rfl rfl (fun _ => QT_move rfl rfl rfl) ?_
          refine TV_ql rfl rfl rfl (QT_loadW (cs := shV ys) 0 rfl rfl Tryz.underlying102 rfl rfl rfl hys) ?_
          refine TV_q rfl rfl rfl (fun _ => QT_move rfl rfl rfl) ?_
          refine TV_ql rfl rfl rfl (QT_loadW (cs := L.cells) 2 rfl rfl Tryz.underlying27 rfl rfl rfl YtjdaglmkljbfkaaGreatDoorF.sz_27) ?_
          refine TV_q rfl rfl rfl (fun _ => QT_field rfl rfl YtjdaglmkljbfkaaGreatDoorF.fld_102_0 rfl) ?_
          refine TV_ql rfl rfl rfl (QT_load (v := .int .u8 (fl : Int)) 0 rfl rfl Tryz.underlying5 rfl rfl rfl (fun _ => hyf)) ?_
          refine TV_e rfl rfl rfl rfl (rfl) (ET_buildN [_] rfl Tryz.underlying32 YtjdaglmkljbfkaaGreatDoorF.sz_102 YtjdaglmkljbfkaaGreatDoorF.zero_102 rfl rfl rfl (fun v hv => by cases List.mem_singleton.1 hv; exact hyl)) ?_
          rintro _ _ ⟨b35, rfl, rfl⟩
          refine ⟨_, .keep (by kernel_rfl) rfl (by first | exact QT_load (v := .int .u8 (fl : Int)) 0 rfl rfl Tryz.underlying5 rfl rfl rfl (fun _ => hyf) | exact QT_load (v := .int .u8 (fl : Int)) 1 rfl rfl Tryz.underlying5 rfl rfl rfl (fun _ => hyf)) (.keep (by kernel_rfl) rfl (by first | exact QT_loadW (cs := L.cells) 2 rfl rfl Tryz.underlying27 rfl rfl rfl YtjdaglmkljbfkaaGreatDoorF.sz_27 | exact QT_loadW (cs := L.cells) 3 rfl rfl Tryz.underlying27 rfl rfl rfl YtjdaglmkljbfkaaGreatDoorF.sz_27) (.drop (by kernel_rfl) (.nil))), ?_⟩
          refine TV_e rfl rfl rfl rfl (rfl) (ET_appendL (L := [_, _, _, _]) rfl Tryz.underlying32 el_Sheet rfl rfl hF (fun _ h => h) (SlA.own (n := 1) (xs := shV ys) 0 rfl (by rw [List.drop_zero, List.take_of_length_le (by simp [Value.cells, hyl])]; simp [Value.cells]) (by simp [Value.cells, hyl]) (by omega)) hyi.oneCell (by omega) (by omega)) ?_
          rintro sv2 _ ⟨H', hF', rfl⟩
          refine ⟨_, .keep (by kernel_rfl) rfl (by first | exact QT_load (v := .int .u8 (fl : Int)) 0 rfl rfl Tryz.underlying5 rfl rfl rfl (fun _ => hyf) | exact QT_load (v := .int .u8 (fl : Int)) 1 rfl rfl Tryz.underlying5 rfl rfl rfl (fun _ => hyf)) (.keep (by kernel_rfl) rfl (by first | exact QT_loadW (cs := L.cells) 2 rfl rfl Tryz.underlying27 rfl rfl rfl YtjdaglmkljbfkaaGreatDoorF.sz_27 | exact QT_loadW (cs := L.cells) 3 rfl rfl Tryz.underlying27 rfl rfl rfl YtjdaglmkljbfkaaGreatDoorF.sz_27) (.nil)), ?_⟩
          refine TV_cq rfl rfl rfl rfl rfl YtjdaglmkljbfkaaGreatDoorF.cal_136 rfl (fun _ => hszL _) (.drop (by kernel_rfl) (.drop (by kernel_rfl) (.nil))) ?_
          refine TV_q rfl rfl rfl (fun _ => QT_slcL (m) rfl rfl rfl rfl Tryz.underlying28 YtjdaglmkljbfkaaGreatDoorF.sz_5 rfl rfl rfl (fun _ => by omega)) ?_
          refine TV_q rfl rfl rfl (fun _ => QT_assign rfl rfl rfl) ?_
          refine TV_q rfl rfl rfl (fun _ => QT_assign rfl rfl rfl) ?_
          refine TV_end ?_
          refine TX_block_normal ?_
          refine TX_round ⟨(acc ++ [ys], rest.drop m, _, sv2, H'), by rw [hdl]; exact hR2, by rw [List.length_append, flatS_snoc]; exact hF', fun c hc => hrb c (List.mem_of_mem_drop hc), ?_, ?_⟩ (by show (rest.drop m).length < rest.length; rw [hdl]; omega) ⟨rfl, rfl, rfl, trivial⟩ (fun _ h => h.tail.tail.tail)
          · rw [hgs, hcons, if_neg hfit, Option.map_map]
            congr 1
            funext x
            simp
          · show (acc ++ [ys]).length + (rest.drop m).length ≤ _
            rw [List.length_append, hdl]
            show acc.length + 1 + _ ≤ _
            omega
      ·
        refine TC_exit ?_
        refine TX_then_exit ?_
        refine TX_then_exit ?_
        refine TX_block_here ?_
        refine TX_then ?_
        refine TC_seq ?_
        refine TC_reg ?_
        refine TL_q rfl rfl (QT_move rfl rfl rfl) ?_
        refine TL_A (St w0 (H ++ η)) (fun _ h => h.tail) ?_
        refine TL_e rfl rfl rfl (rfl) (ET_call rfl YtjdaglmkljbfkaaGreatDoorF.cal_147 rfl (clipS_spec w0 η H sv acc.length _ hF)) ?_
        rintro cv _ ⟨hF2, rfl⟩
        refine TL_q rfl rfl (QT_assign rfl rfl rfl) ?_
        refine TL_q rfl rfl (QT_assign rfl rfl rfl) ?_
        refine TL_nil ?_
        refine TX_then ?_
        refine TC_ret ?_
        obtain rfl : rest = [] := List.length_eq_zero_iff.1 (by omega)
        obtain ⟨e0, eo⟩ := errG_ok (ys := acc) hc hle (by rw [hgs, getS_nil]; simp)
        exact TX_ret (.inl rfl) (res2 rfl rfl rfl) ⟨_, ⟨cv, H, by rw [e0], by rw [eo]; exact hF2, rfl⟩, fun _ h => h⟩
end Go.Proofs.YtjdaglmkljbfkaaGreatDoor
namespace Go.Proofs.YtjdaglmkljbfkaaGreatDoor
open Go Go.Gx Go.RowKit
set_option maxRecDepth 100000
def fitS (L : Lay) (y : List Nat) : Bool := fitB (fS L (y.headD 0)) y
def encS (L : Lay) (y : List Nat) : List Bool := enc (fS L (y.headD 0)) y
def packS (L : Lay) (y : List Nat) : List Nat := packB (encS L y)
def bytesS (L : Lay) (ys : List (List Nat)) : List Nat := ys.flatMap (packS L)
theorem encS_len {L : Lay} {y : List Nat} (h : ShF y) : (encS L y).length = tot (fS L (y.headD 0)) := by
  refine enc_len ?_
  rw [fS, List.length_cons, wS_len, h.len]
theorem packS_len {L : Lay} {y : List Nat} (h : ShF y) : (packS L y).length = szN L (y.headD 0) := by
  rw [packS, packB_len, encS_len h]; rfl
end Go.Proofs.YtjdaglmkljbfkaaGreatDoor
namespace Go.Proofs.YtjdaglmkljbfkaaGreatDoor
open Go Go.Gx Go.RowKit
set_option maxRecDepth 100000
def okS (L : Lay) : Bool := decide (okB L = true ∧ 6 ≤ L.ty)
theorem rscheck_spec (w0 : Base) (η : Heap) (L : Lay) :
    CallsT Tryz.prog 108 [L.val] (St w0 η) fun v A' => v = .bool (okS L) ∧ A' = St w0 η := by
  refine CallsT.body Tryz.func108 rfl rfl ?_
  simp only [Tryz.ntmps108, slotsOf, Nat.reduceAdd]
  refine TC_seq ?_
  refine TC_reg ?_
  refine TL_e rfl rfl rfl (rfl) (ET_box rfl rfl) ?_
  rintro _ _ ⟨b1, rfl, rfl⟩
  refine TL_q rfl rfl (QT_assign rfl rfl rfl) ?_
  refine TL_nil ?_
  refine TX_then ?_
  refine TC_seq ?_
  refine TC_reg ?_
  refine TL_q rfl rfl (QT_loadW 0 rfl rfl Tryz.underlying27 rfl rfl rfl YtjdaglmkljbfkaaGreatDoorF.sz_27) ?_
  refine TL_cq rfl rfl rfl rfl YtjdaglmkljbfkaaGreatDoorF.cal_28 rfl (fun _ => rcheck_spec w0 _ L) ?_
  refine TL_q rfl rfl (QT_eql rfl rfl rfl rfl) ?_
  refine TL_q rfl rfl (QT_move rfl rfl rfl) ?_
  refine TL_q rfl rfl (QT_field rfl rfl YtjdaglmkljbfkaaGreatDoorF.fld_27_0 rfl) ?_
  refine TL_q rfl rfl (QT_load 0 rfl rfl Tryz.underlying3 rfl rfl rfl (fun _ => rfl)) ?_
  refine TL_q rfl rfl (QT_eql rfl rfl rfl rfl) ?_
  refine TL_q rfl rfl (QT_move rfl rfl rfl) ?_
  refine TL_q rfl rfl (QT_field rfl rfl YtjdaglmkljbfkaaGreatDoorF.fld_27_0 rfl) ?_
  refine TL_q rfl rfl (QT_load 0 rfl rfl Tryz.underlying3 rfl rfl rfl (fun _ => rfl)) ?_
  refine TL_q rfl rfl (QT_eql rfl rfl rfl rfl) ?_
  refine TL_q rfl rfl (QT_or rfl rfl rfl rfl) ?_
  refine TL_q rfl rfl (QT_and rfl rfl rfl rfl) ?_
  refine TL_q rfl rfl (QT_assign rfl rfl rfl) ?_
  refine TL_nil ?_
  refine TX_then ?_
  refine TC_ret ?_
  exact TX_ret (.inl rfl) (res1 rfl rfl) ⟨_, ⟨by
    unfold okS errOf
    by_cases h : okB L = true
    · have := (okB_bounds h).2.2.2.1
      rw [if_pos h]
      congr 1
      rw [Bool.eq_iff_iff]
      simp [h]
      omega
    · simp [h], rfl⟩, (fun _ h => by first | exact h | exact h.tail | exact h.tail.tail | exact h.tail.tail.tail | exact h.tail.tail.tail.tail | exact h.tail.tail.tail.tail.tail | exact h.tail.tail.tail.tail.tail.tail | exact h.tail.tail.tail.tail.tail.tail.tail | exact h.tail.tail.tail.tail.tail.tail.tail.tail | exact h.tail.tail.tail.tail.tail.tail.tail.tail.tail | exact h.tail.tail.tail.tail.tail.tail.tail.tail.tail.tail | exact h.tail.tail.tail.tail.tail.tail.tail.tail.tail.tail.tail | exact h.tail.tail.tail.tail.tail.tail.tail.tail.tail.tail.tail.tail | exact h.tail.tail.tail.tail.tail.tail.tail.tail.tail.tail.tail.tail.tail)⟩
end Go.Proofs.YtjdaglmkljbfkaaGreatDoor
namespace Go.Proofs.YtjdaglmkljbfkaaGreatDoor
open Go Go.Gx Go.RowKit
set_option maxRecDepth 100000
theorem tot_take (ws : Ws) (k : Nat) : tot (ws.take k) ≤ tot ws := by
  have := tot_append (ws.take k) (ws.drop k)
  rw [List.take_append_drop] at this
  omega
theorem tot_step {ws : Ws} {k w m : Nat} (h : ws[k]? = some (w, m)) : tot (ws.take (k + 1)) = tot (ws.take k) + w := by
  rw [List.take_add_one, h, tot_append]
  simp [tot]
theorem zer_at {k : Nat} (h : k < 48) : zer[k]? = some 0 := by
  unfold zer
  rw [List.getElem?_replicate, if_pos h]
section
variable {L : Lay} {bs : List Nat} {f a0 : Nat}
theorem rkR_at (hok : okB L = true) (hT : a0 + tot (wS L f) ≤ 8 * bs.length) (k : Nat) : (rk (goR bs) L f zer (a0, 0) k).2 = (a0 + tot ((wS L f).take k), 0) := by
  have h1 := tot_take (wS L f) k
  unfold rk
  rw [run_goR_ok (fun p hp => wS_le hok f p (List.mem_of_mem_take hp)) (by omega) (by rw [List.length_take, List.length_take, wS_len]; rfl)]
theorem refR_step (hok : okB L = true) (hT : a0 + tot (wS L f) ≤ 8 * bs.length) {k w m : Nat} (hk : k < 48) (hw : (wS L f)[k]? = some (w, m)) :
    a0 + tot ((wS L f).take (k + 1)) = a0 + tot ((wS L f).take k) + w ∧ a0 + tot ((wS L f).take k) + w ≤ 8 * bs.length ∧
    setAt (cellsK (goR bs) L f zer (a0, 0) k) (k + 1) [.int (skK (k + 1)) ((getV bs ((a0 + tot ((wS L f).take k) : Nat) : Int) (w : Int) % m : Nat) : Int)] = cellsK (goR bs) L f zer (a0, 0) (k + 1) := by
  have h1 := tot_step hw
  have h2 := tot_take (wS L f) (k + 1)
  refine ⟨by omega, by omega, ?_⟩
  have := (rk_step (go := goR bs) (s := ((a0, 0) : Nat × Int)) (show zer.length = 48 from rfl) hw (zer_at hk)).2
  rw [rkR_at hok hT] at this
  rw [← this]
  unfold goR
  rw [if_pos rfl]
theorem refR_skip1 (hok : okB L = true) (hT : a0 + tot (wS L f) ≤ 8 * bs.length) {k m : Nat} (hk : k < 48) (hw : (wS L f)[k]? = some (0, m)) :
    cellsK (goR bs) L f zer (a0, 0) (k + 1) = cellsK (goR bs) L f zer (a0, 0) k ∧ tot ((wS L f).take (k + 1)) = tot ((wS L f).take k) := by
  obtain ⟨h1, h2, h3⟩ := refR_step hok hT hk hw
  have e : getV bs ((a0 + tot ((wS L f).take k) : Nat) : Int) ((0 : Nat) : Int) = 0 := by
    rw [getV_ok (by decide) h2, List.take_zero]; rfl
  rw [e] at h3
  rw [← h3]
  refine ⟨?_, by omega⟩
  have hc := cellsK_at (go := goR bs) (L := L) (fl := f) (s := ((a0, 0) : Nat × Int)) (show zer.length = 48 from rfl) (zer_at hk)
  rw [show ((0 % m : Nat) : Int) = ((0 : Nat) : Int) by rw [Nat.zero_mod]]
  exact set_same hc
theorem refR_skip (hok : okB L = true) (hT : a0 + tot (wS L f) ≤ 8 * bs.length) (k : Nat) : ∀ n, k + n ≤ 48 → (∀ p, k ≤ p → p < k + n → ∃ m, (wS L f)[p]? = some (0, m)) →
    cellsK (goR bs) L f zer (a0, 0) (k + n) = cellsK (goR bs) L f zer (a0, 0) k ∧ tot ((wS L f).take (k + n)) = tot ((wS L f).take k)
  | 0, _, _ => ⟨rfl, rfl⟩
  | n + 1, hn, h => by
    obtain ⟨h1, h2⟩ := refR_skip hok hT k n (by omega) fun p h1 h2 => h p h1 (by omega)
    obtain ⟨m, hm⟩ := h (k + n) (by omega) (by omega)
    obtain ⟨h3, h4⟩ := refR_skip1 hok hT (by omega) hm
    exact ⟨h3.trans h1, h4.trans h2⟩
theorem skip_pt {p : Nat} (h1 : 2 * ptN L f ≤ p) (h2 : p < 32) : ∃ m, (wS L f)[p]? = some (0, m) :=
  ⟨_, by rw [wS_at (by omega), if_pos h2]; unfold wPt; rw [if_neg (by omega)]⟩
theorem skip_cl {p c : Nat} (hp : 32 ≤ p) (h2 : p < 48) (h : clN L f ≤ (p - 32) / 4 ∨ L.cs.toNat ≤ (p - 32) % 4) : ∃ m, (wS L f)[p]? = some (0, m) :=
  ⟨_, by rw [wS_at (by omega), if_neg (by omega)]; unfold wCl; rw [if_neg (by omega)]⟩
end
theorem lay_at {L : Lay} {k : Nat} {z : Int} {n : Nat} (h : L.cells[k]? = some (.int .i64 z)) (e : (n : Int) = z) : L.cells[k]? = some (.int .i64 (n : Int)) := by rw [e]; exact h
set_option maxHeartbeats 2000000 in
theorem rsget_spec (w0 : Base) (η : Heap) (L : Lay) (bv : Value) (bs : List Nat) (hs : SlA (St w0 η) bv 1 bs.length (byV bs)) (hb : ∀ c ∈ bs, c < 256) (hl : bs.length ≤ 140737488355328) :
    CallsT Tryz.prog 30 [L.val, bv] (St w0 η) fun v A' => ∃ sv H, v = .tuple #[sv, .int .i64 (errG L bs)] ∧ Frag 102 49 sv (outG L bs).length (flatS (outG L bs)) H ∧ A' = St w0 (H ++ η) := by
  have hs0 := hs
  obtain ⟨_, ad, cap, rfl, hcap, _⟩ := hs
  refine CallsT.body Tryz.func30 rfl rfl ?_
  simp only [Tryz.ntmps30, slotsOf, Nat.reduceAdd]
  refine TC_seq ?_
  refine TC_reg ?_
  refine TL_e rfl rfl rfl (rfl) (ET_box rfl rfl) ?_
  rintro _ _ ⟨b2, rfl, rfl⟩
  refine TL_q rfl rfl (QT_assign rfl rfl rfl) ?_
  refine TL_q rfl rfl (QT_assign rfl rfl rfl) ?_
  refine TL_nil ?_
  refine TX_then ?_
  refine TC_seq ?_
  refine TC_seq ?_
  refine TC_reg ?_
  refine TL_q rfl rfl (QT_loadW 0 rfl rfl Tryz.underlying27 rfl rfl rfl YtjdaglmkljbfkaaGreatDoorF.sz_27) ?_
  refine TL_cq rfl rfl rfl rfl YtjdaglmkljbfkaaGreatDoorF.cal_108 rfl (fun _ => rscheck_spec w0 _ L) ?_
  refine TL_q rfl rfl (QT_not rfl rfl rfl) ?_
  refine TL_nil ?_
  refine TX_then ?_
  refine TC_cond rfl (fun h22 => ?_) (fun h22 => ?_)
  ·
    refine TC_seq ?_
    refine TC_reg ?_
    refine TL_q rfl rfl (QT_assign rfl rfl rfl) ?_
    refine TL_q rfl rfl (QT_assign rfl rfl rfl) ?_
    refine TL_nil ?_
    refine TX_then ?_
    refine TC_ret ?_
    refine TX_then_ret ?_
    have eG : errG L bs = 4 := by
      unfold errG; rw [if_neg]
      intro hc
      unfold okS at h22
      simp [hc.1, hc.2] at h22
    exact TX_ret (.inl rfl) (res2 rfl rfl rfl) ⟨_, ⟨_, [], by rw [eG], fragNone eG (by decide), rfl⟩, fun _ h => h.tail⟩
  ·
    refine TC_skip ?_
    refine TX_then ?_
    refine TC_seq ?_
    refine TC_seq ?_
    have hc : okB L = true ∧ 6 ≤ L.ty := by
      unfold okS at h22
      simpa using h22
    have hty := ty67 hc
    have hbd := okB_bounds hc.1
    have hfl : (L.fl.toNat : Int) = L.fl := by have := hbd.2.2.2.2.2 (by omega); omega
    have hco : (L.co.toNat : Int) = L.co := by have := hbd.1; omega
    have hcm : (L.cm.toNat : Int) = L.cm := by have := hbd.2.1; omega
    have hcs : (L.cs.toNat : Int) = L.cs := by have := hbd.2.2.1; omega
    have hfl8 : L.fl.toNat ≤ 8 := by have := hbd.2.2.2.2.2 (by omega); omega
    have hco32 : L.co.toNat ≤ 32 := by have := hbd.1; omega
    have hcm16 : L.cm.toNat ≤ 16 := by have := hbd.2.1; omega
    have hcs4 : 1 ≤ L.cs.toNat ∧ L.cs.toNat ≤ 4 := by have := hbd.2.2.1; omega
    have lfl : L.cells[0 + 3]? = some (.int .i64 (L.fl.toNat : Int)) := lay_at rfl hfl
    have lco : L.cells[0 + 1]? = some (.int .i64 (L.co.toNat : Int)) := lay_at rfl hco
    have lcm : L.cells[0 + 2]? = some (.int .i64 (L.cm.toNat : Int)) := lay_at rfl hcm
    have lcs : L.cells[0 + 4]? = some (.int .i64 (L.cs.toNat : Int)) := lay_at rfl hcs
    generalize hFL : L.fl.toNat = FL at lfl hfl8
    generalize hCO : L.co.toNat = CO at lco hco32
    generalize hCM : L.cm.toNat = CM at lcm hcm16
    generalize hCS : L.cs.toNat = CS at lcs hcs4
    refine TC_reg ?_
    refine TL_q rfl rfl (QT_move rfl rfl rfl) ?_
    refine TL_q rfl rfl (QT_len rfl rfl Tryz.underlying28 rfl) ?_
    refine TL_q rfl rfl (QT_gtr rfl rfl rfl rfl) ?_
    refine TL_nil ?_
    refine TX_then ?_
    refine TC_cond_dec rfl (fun h25 => ?_) (fun h25 => ?_)
    ·
      refine TC_seq ?_
      refine TC_reg ?_
      refine TL_q rfl rfl (QT_assign rfl rfl rfl) ?_
      refine TL_q rfl rfl (QT_assign rfl rfl rfl) ?_
      refine TL_nil ?_
      refine TX_then ?_
      refine TC_ret ?_
      refine TX_then_ret ?_
      have e3 : errG L bs = 3 := by unfold errG; rw [if_pos hc, if_pos (by omega)]
      exact TX_ret (.inl rfl) (res2 rfl rfl rfl) ⟨_, ⟨_, [], by rw [e3], fragNone e3 (by decide), rfl⟩, fun _ h => h.tail⟩
    ·
      refine TC_skip ?_
      refine TX_then ?_
      refine TC_seq ?_
      have hle : ¬ 65536 < bs.length := by omega
      refine TC_reg ?_
      refine TL_q rfl rfl (QT_assign rfl rfl rfl) ?_
      refine TL_nil ?_
      refine TX_then ?_
      refine TC_seq ?_
      refine TC_seq ?_
      refine TC_reg ?_
      refine TL_q rfl rfl (QT_assign rfl rfl rfl) ?_
      refine TL_nil ?_
      refine TX_then ?_
      refine TC_block ?_
      refine TC_loop (γ := { t : List (List Nat) × Nat × Value × Heap // t.2.1 ≤ bs.length ∧ Frag 102 49 t.2.2.1 t.1.length (flatS t.1) t.2.2.2 ∧ getS L bs = (getS L (bs.drop t.2.1)).map (t.1 ++ ·) ∧ t.1.length ≤ t.2.1 }) (fun u => [(1, true, .slice ad bs.length cap), (2, true, .pointer (some ⟨b2, 0, none⟩)), (6, true, u.1.2.2.1), (7, true, .int .i64 (u.1.2.1 : Int))]) (fun u => St w0 ((b2, 27, L.cells) :: (u.1.2.2.2 ++ η))) (fun u => bs.length - u.1.2.1) ⟨([], 0, .slice none 0 0, []), Nat.zero_le _, Frag.nil _ _, by rw [show (fun x : List (List Nat) => [] ++ x) = id from rfl, Option.map_id]; rfl, Nat.le_refl _⟩ ⟨rfl, rfl, rfl, rfl, trivial⟩ (fun _ h => h) ?_
      rintro ⟨⟨acc, from', sv, H⟩, hfr, hF, hgs, hal⟩
      dsimp only at hfr hF hgs hal ⊢
      refine TC_seq ?_
      refine TC_seq ?_
      refine TC_reg ?_
      refine TL_q rfl rfl (QT_move rfl rfl rfl) ?_
      refine TL_q rfl rfl (QT_move rfl rfl rfl) ?_
      refine TL_q rfl rfl (QT_len rfl rfl Tryz.underlying28 rfl) ?_
      refine TL_q rfl rfl (QT_lss rfl rfl rfl rfl) ?_
      refine TL_nil ?_
      refine TX_then ?_
      refine TC_cond_dec rfl (fun h29 => ?_) (fun h29 => ?_)
      ·
        have hlt : from' < bs.length := by omega
        have hdl : (bs.drop from').length = bs.length - from' := List.length_drop ..
        have hr0 : bs.drop from' ≠ [] := by intro h; rw [h] at hdl; simp at hdl; omega
        have hcons := getS_cons hc.1 hty hr0
        have hk1 := szN_pos hc.1 hty (flB L (byB (bs.drop from')))
        have hszL := fun A => rsize_spec w0 A L (flB L (byB (bs.drop from')) : Int) (Int.natCast_nonneg _)
        rw [size_eq hc.1 hty] at hszL
        have hnT : szN L (flB L (byB (bs.drop from'))) = (tot (fS L (flB L (byB (bs.drop from')))) + 7) / 8 := rfl
        have hTw : tot (fS L (flB L (byB (bs.drop from')))) = L.fl.toNat + tot (wS L (flB L (byB (bs.drop from')))) := tot_cons _ _
        have hdc := dcS_eq L (byB (bs.drop from'))
        have hshf := dcS_shf L (byB (bs.drop from'))
        have hgv : getV bs ((8 * from' : Nat) : Int) (FL : Int) % 256 = flB L (byB (bs.drop from')) := by
          unfold flB
          rw [getV_ok (by omega) (by omega), byB_drop, hFL]
        have hf256 : flB L (byB (bs.drop from')) < 256 := Nat.mod_lt _ (by decide)
        rw [byB_drop, List.drop_drop, ← byB_drop] at hdc
        generalize flB L (byB (bs.drop from')) = fl at *
        rw [hFL] at hTw hdc
        have hparts := fun A => parts_spec w0 A L (fl : Int) (by omega)
        rw [(ptN_bd L fl).2.2, (clN_bd L fl).2.2] at hparts
        have hpt16 := ptN_bd L fl
        have hcl4 := clN_bd L fl
        generalize hm : szN L fl = m at *
        generalize hT : tot (fS L fl) = T at *
        refine TC_skip ?_
        refine TX_then ?_
        refine TC_block ?_
        refine TC_seq ?_
        refine TC_reg ?_
        refine TL_q rfl rfl (QT_move rfl rfl rfl) ?_
        refine TL_q rfl rfl (QT_move rfl rfl rfl) ?_
        refine TL_q rfl rfl (QT_to (QT_mul rfl rfl rfl rfl (fun _ => ⟨by omega, by omega⟩)) (show 8 * (from' : Int) = ((8 * from' : Nat) : Int) by omega)) ?_
        refine TL_q rfl rfl (QT_field rfl rfl YtjdaglmkljbfkaaGreatDoorF.fld_27_3 rfl) ?_
        refine TL_q rfl rfl (QT_load (v := .int .i64 (FL : Int)) 0 rfl rfl Tryz.underlying3 rfl rfl rfl (fun _ => lfl)) ?_
        refine TL_cq rfl rfl rfl rfl YtjdaglmkljbfkaaGreatDoorF.cal_109 rfl (fun _ => rget_spec w0 _ _ bs _ _ (hs0.mono fun _ h => h.tail.app_right) hb ⟨by omega, by omega⟩ ⟨by omega, by omega⟩ (by omega)) ?_
        refine TL_q rfl rfl (QT_move rfl rfl rfl) ?_
        refine TL_q rfl rfl (QT_extract rfl rfl rfl rfl) ?_
        refine TL_q rfl rfl (QT_extract rfl rfl rfl rfl) ?_
        refine TL_q rfl rfl (QT_assign rfl rfl rfl) ?_
        refine TL_q rfl rfl (QT_assign rfl rfl rfl) ?_
        refine TL_nil ?_
        refine TX_then ?_
        refine TC_seq ?_
        refine TC_reg ?_
        refine TL_q rfl rfl (QT_loadW 0 rfl rfl Tryz.underlying27 rfl rfl rfl YtjdaglmkljbfkaaGreatDoorF.sz_27) ?_
        refine TL_q rfl rfl (QT_move rfl rfl rfl) ?_
        refine TL_q rfl rfl (QT_convN rfl rfl Tryz.underlying70 Tryz.underlying5 rfl ((wrapN8 _).trans (congrArg Nat.cast hgv))) ?_
        refine TL_cq rfl rfl rfl rfl YtjdaglmkljbfkaaGreatDoorF.cal_105 rfl (fun _ => hszL _) ?_
        refine TL_q rfl rfl (QT_assign rfl rfl rfl) ?_
        refine TL_nil ?_
        refine TX_then ?_
        refine TC_seq ?_
        refine TC_seq ?_
        refine TC_reg ?_
        refine TL_q rfl rfl (QT_move rfl rfl rfl) ?_
        refine TL_q rfl rfl (QT_move rfl rfl rfl) ?_
        refine TL_q rfl rfl (QT_add rfl rfl rfl rfl (fun _ => ⟨by omega, by omega⟩)) ?_
        refine TL_q rfl rfl (QT_move rfl rfl rfl) ?_
        refine TL_q rfl rfl (QT_len rfl rfl Tryz.underlying28 rfl) ?_
        refine TL_q rfl rfl (QT_gtr rfl rfl rfl rfl) ?_
        refine TL_nil ?_
        refine TX_then ?_
        refine TC_cond_dec rfl (fun h48 => ?_) (fun h48 => ?_)
        ·
          refine TC_seq ?_
          refine TC_reg ?_
          refine TL_q rfl rfl (QT_assign rfl rfl rfl) ?_
          refine TL_q rfl rfl (QT_assign rfl rfl rfl) ?_
          refine TL_nil ?_
          refine TX_then ?_
          refine TC_ret ?_
          refine TX_then_ret ?_
          refine TX_block_ret ?_
          refine TX_then_ret ?_
          refine TX_block_ret ?_
          refine TX_then_ret ?_
          have e5 : errG L bs = 5 := errG_none hc hle (by rw [hgs, hcons, if_pos (by omega)]; rfl)
          exact TX_ret (.inl rfl) (res2 rfl rfl rfl) ⟨_, ⟨_, [], by rw [e5], fragNone e5 (by decide), rfl⟩, fun _ h => h.tail.app_right⟩
        ·
          refine TC_skip ?_
          refine TX_then ?_
          refine TC_seq ?_
          have hfit : ¬ 8 * (bs.drop from').length < T := by omega
          have hTb : 8 * from' + FL + tot (wS L fl) ≤ 8 * bs.length := by omega
          refine TC_reg ?_
          refine TL_q rfl rfl (QT_move rfl rfl rfl) ?_
          refine TL_q rfl rfl (QT_convN rfl rfl Tryz.underlying70 Tryz.underlying5 rfl ((wrapN8 _).trans (congrArg Nat.cast hgv))) ?_
          refine TL_q rfl rfl (QT_build rfl rfl YtjdaglmkljbfkaaGreatDoorF.zero_102 YtjdaglmkljbfkaaGreatDoorF.pl_102 rfl rfl rfl) ?_
          refine TL_e rfl rfl rfl (rfl) (ET_alloc rfl YtjdaglmkljbfkaaGreatDoorF.zero_102) ?_
          rintro _ _ ⟨b11, rfl, rfl⟩
          refine TL_e0 rfl rfl (rfl) (ET_storeW 0 rfl rfl rfl YtjdaglmkljbfkaaGreatDoorF.sz_102 rfl rfl rfl) ?_
          rintro _ _ ⟨rfl, rfl⟩
          refine TL_nil ?_
          refine TX_then ?_
          refine TC_seq ?_
          refine TC_A (St w0 ((b11, 102, cellsK (goR bs) L fl zer (8 * from' + FL, 0) 0) :: (b2, 27, L.cells) :: (H ++ η))) (fun w h => by rw [cellsK_zero]; exact h) ?_
          refine TC_reg ?_
          refine TL_q rfl rfl (QT_move rfl rfl rfl) ?_
          refine TL_q rfl rfl (QT_to (QT_mul rfl rfl rfl rfl (fun _ => ⟨by omega, by omega⟩)) (show 8 * (from' : Int) = ((8 * from' : Nat) : Int) by omega)) ?_
          refine TL_q rfl rfl (QT_field rfl rfl YtjdaglmkljbfkaaGreatDoorF.fld_27_3 rfl) ?_
          refine TL_q rfl rfl (QT_load (v := .int .i64 (FL : Int)) 1 rfl rfl Tryz.underlying3 rfl rfl rfl (fun _ => lfl)) ?_
          refine TL_q rfl rfl (QT_to (QT_add rfl rfl rfl rfl (fun _ => ⟨by omega, by omega⟩)) (show ((8 * from' : Nat) : Int) + (FL : Int) = ((8 * from' + FL : Nat) : Int) by omega)) ?_
          refine TL_q rfl rfl (QT_assign rfl rfl rfl) ?_
          refine TL_nil ?_
          refine TX_then ?_
          refine TC_seq ?_
          obtain ⟨a0, ha0⟩ : ∃ a0, a0 = 8 * from' + FL := ⟨_, rfl⟩
          rw [← ha0] at hTb hdc ⊢
          have hstep := fun {k w m : Nat} => refR_step (L := L) (bs := bs) (f := fl) (a0 := a0) (k := k) (w := w) (m := m) hc.1 hTb
          have hskip := refR_skip (L := L) (bs := bs) (f := fl) (a0 := a0) hc.1 hTb
          refine TC_reg ?_
          refine TL_q rfl rfl (QT_loadW 1 rfl rfl Tryz.underlying27 rfl rfl rfl YtjdaglmkljbfkaaGreatDoorF.sz_27) ?_
          refine TL_q rfl rfl (QT_field rfl rfl YtjdaglmkljbfkaaGreatDoorF.fld_102_0 rfl) ?_
          refine TL_q rfl rfl (QT_load (v := .int .u8 (fl : Int)) 0 rfl rfl Tryz.underlying5 rfl rfl rfl (fun _ => by rw [cellsK_zero]; exact shV_at (xs := fl :: zer) (p := 0) (by decide) rfl)) ?_
          refine TL_cq rfl rfl rfl rfl YtjdaglmkljbfkaaGreatDoorF.cal_110 rfl (fun _ => hparts _) ?_
          refine TL_q rfl rfl (QT_move rfl rfl rfl) ?_
          refine TL_q rfl rfl (QT_extract rfl rfl rfl rfl) ?_
          refine TL_q rfl rfl (QT_extract rfl rfl rfl rfl) ?_
          refine TL_q rfl rfl (QT_assign rfl rfl rfl) ?_
          refine TL_q rfl rfl (QT_assign rfl rfl rfl) ?_
          refine TL_nil ?_
          refine TX_then ?_
          refine TC_seq ?_
          refine TC_seq ?_
          refine TC_reg ?_
          refine TL_q rfl rfl (QT_assign rfl rfl rfl) ?_
          refine TL_nil ?_
          refine TX_then ?_
          refine TC_block ?_
          refine TC_loop (γ := { i : Nat // i ≤ ptN L fl }) (fun u => [(1, true, .slice ad bs.length cap), (2, true, .pointer (some ⟨b2, 0, none⟩)), (6, true, sv), (7, true, .int .i64 (from' : Int)), (10, true, .int .i64 (m : Int)), (11, true, .pointer (some ⟨b11, 0, none⟩)), (12, true, .int .i64 ((a0 + tot ((wS L fl).take (2 * u.1)) : Nat) : Int)), (13, true, .int .i64 (ptN L fl : Int)), (14, true, .int .i64 (clN L fl : Int)), (15, true, .int .i64 (u.1 : Int))]) (fun u => St w0 ((b11, 102, cellsK (goR bs) L fl zer (a0, 0) (2 * u.1)) :: (b2, 27, L.cells) :: (H ++ η))) (fun u => ptN L fl - u.1) ⟨0, Nat.zero_le _⟩ ⟨rfl, rfl, rfl, rfl, rfl, rfl, rfl, rfl, rfl, rfl, trivial⟩ (fun _ h => h) ?_
          rintro ⟨i, hi⟩
          dsimp only
          refine TC_seq ?_
          refine TC_seq ?_
          refine TC_reg ?_
          refine TL_q rfl rfl (QT_move rfl rfl rfl) ?_
          refine TL_q rfl rfl (QT_move rfl rfl rfl) ?_
          refine TL_q rfl rfl (QT_lss rfl rfl rfl rfl) ?_
          refine TL_nil ?_
          refine TX_then ?_
          refine TC_cond_dec rfl (fun h66 => ?_) (fun h66 => ?_)
          ·
            have hip : i < ptN L fl := by omega
            have hi16 : i < 16 := by omega
            have hw : wPt L fl i = CO := by unfold wPt; rw [if_pos hip, hCO]
            have w1 := wS_pt (L := L) (f := fl) hi16 (p := 2 * i) (.inl rfl)
            have w2 := wS_pt (L := L) (f := fl) hi16 (p := 2 * i + 1) (.inr rfl)
            rw [hw] at w1 w2
            obtain ⟨s1, s2, s3⟩ := hstep (by omega) w1
            obtain ⟨s4, s5, s6⟩ := hstep (by omega) w2
            have hu1 : skK (2 * i + 1) = .u32 := by unfold skK; rw [if_neg (by omega), if_pos (by omega)]
            have hu2 : skK (2 * i + 1 + 1) = .u32 := by unfold skK; rw [if_neg (by omega), if_pos (by omega)]
            rw [hu1, Nat.mod_eq_of_lt (getV_lt ..)] at s3
            rw [hu2, Nat.mod_eq_of_lt (getV_lt ..), s1] at s6
            have hcl1 : Nat.ble (0 + 1 + i * 2 + 0 + 1) (cellsK (goR bs) L fl zer (a0, 0) (2 * i)).length = true := cells_lt (off := 0 + 1 + i * 2 + 0) (by rw [show 0 + 1 + i * 2 + 0 = 2 * i + 1 by omega]; exact cellsK_at (x := 0) rfl (zer_at (by omega)))
            have hcl2 : Nat.ble (0 + 1 + i * 2 + 1 + 1) (cellsK (goR bs) L fl zer (a0, 0) (2 * i + 1)).length = true := cells_lt (off := 0 + 1 + i * 2 + 1) (by rw [show 0 + 1 + i * 2 + 1 = 2 * i + 1 + 1 by omega]; exact cellsK_at (x := 0) rfl (zer_at (by omega)))
            obtain ⟨at1, hat1⟩ : ∃ at1, at1 = a0 + tot ((wS L fl).take (2 * i)) := ⟨_, rfl⟩
            rw [s1] at s4 s5
            rw [← hat1] at s1 s2 s3 s4 s5 s6 ⊢
            refine TC_skip ?_
            refine TX_then ?_
            refine TC_seq ?_
            refine TC_block ?_
            refine TC_seq ?_
            refine TC_reg ?_
            refine TL_q rfl rfl (QT_move rfl rfl rfl) ?_
            refine TL_q rfl rfl (QT_move rfl rfl rfl) ?_
            refine TL_q rfl rfl (QT_move rfl rfl rfl) ?_
            refine TL_q rfl rfl (QT_field rfl rfl YtjdaglmkljbfkaaGreatDoorF.fld_27_1 rfl) ?_
            refine TL_q rfl rfl (QT_load (v := .int .i64 (CO : Int)) 1 rfl rfl Tryz.underlying3 rfl rfl rfl (fun _ => lco)) ?_
            refine TL_cq rfl rfl rfl rfl YtjdaglmkljbfkaaGreatDoorF.cal_109 rfl (fun _ => rget_spec w0 _ _ bs _ _ (hs0.mono fun _ h => h.tail.tail.app_right) hb ⟨by omega, by omega⟩ ⟨by omega, by omega⟩ (by omega)) ?_
            refine TL_q rfl rfl (QT_move rfl rfl rfl) ?_
            refine TL_q rfl rfl (QT_extract rfl rfl rfl rfl) ?_
            refine TL_q rfl rfl (QT_extract rfl rfl rfl rfl) ?_
            refine TL_q rfl rfl (QT_field rfl rfl YtjdaglmkljbfkaaGreatDoorF.fld_102_1 rfl) ?_
            refine TL_q rfl rfl (QT_indexArr i rfl rfl Tryz.underlying99 YtjdaglmkljbfkaaGreatDoorF.sz_72 rfl rfl rfl (fun _ => hi16)) ?_
            refine TL_q rfl rfl (QT_field rfl rfl YtjdaglmkljbfkaaGreatDoorF.fld_72_0 rfl) ?_
            refine TL_e0 rfl rfl (rfl) (ET_store (vs := [.int .u32 (getV bs (at1 : Int) (CO : Int) : Int)]) 0 rfl rfl rfl rfl YtjdaglmkljbfkaaGreatDoorF.sz_70 rfl rfl hcl1) ?_
            rintro _ _ ⟨rfl, rfl⟩
            refine TL_nil ?_
            refine TX_then ?_
            refine TC_seq ?_
            refine TC_A (St w0 ((b11, 102, cellsK (goR bs) L fl zer (a0, 0) (2 * i + 1)) :: (b2, 27, L.cells) :: (H ++ η))) (fun w h => by
              rw [← s3]
              have h' : St w0 ((b11, 102, setAt (cellsK (goR bs) L fl zer (a0, 0) (2 * i)) (0 + 1 + i * 2 + 0) [.int .u32 (getV bs (at1 : Int) (CO : Int) : Int)]) :: (b2, 27, L.cells) :: (H ++ η)) w := h
              rw [show 0 + 1 + i * 2 + 0 = 2 * i + 1 by omega] at h'
              exact h') ?_
            refine TC_reg ?_
            refine TL_q rfl rfl (QT_move rfl rfl rfl) ?_
            refine TL_q rfl rfl (QT_move rfl rfl rfl) ?_
            refine TL_q rfl rfl (QT_move rfl rfl rfl) ?_
            refine TL_q rfl rfl (QT_field rfl rfl YtjdaglmkljbfkaaGreatDoorF.fld_27_1 rfl) ?_
            refine TL_q rfl rfl (QT_load (v := .int .i64 (CO : Int)) 1 rfl rfl Tryz.underlying3 rfl rfl rfl (fun _ => lco)) ?_
            refine TL_q rfl rfl (QT_to (QT_add rfl rfl rfl rfl (fun _ => ⟨by omega, by omega⟩)) (show (at1 : Int) + (CO : Int) = ((at1 + CO : Nat) : Int) by omega)) ?_
            refine TL_q rfl rfl (QT_field rfl rfl YtjdaglmkljbfkaaGreatDoorF.fld_27_1 rfl) ?_
            refine TL_q rfl rfl (QT_load (v := .int .i64 (CO : Int)) 1 rfl rfl Tryz.underlying3 rfl rfl rfl (fun _ => lco)) ?_
            refine TL_cq rfl rfl rfl rfl YtjdaglmkljbfkaaGreatDoorF.cal_109 rfl (fun _ => rget_spec w0 _ _ bs _ _ (hs0.mono fun _ h => h.tail.tail.app_right) hb ⟨by omega, by omega⟩ ⟨by omega, by omega⟩ (by omega)) ?_
            refine TL_q rfl rfl (QT_move rfl rfl rfl) ?_
            refine TL_q rfl rfl (QT_extract rfl rfl rfl rfl) ?_
            refine TL_q rfl rfl (QT_extract rfl rfl rfl rfl) ?_
            refine TL_q rfl rfl (QT_field rfl rfl YtjdaglmkljbfkaaGreatDoorF.fld_102_1 rfl) ?_
            refine TL_q rfl rfl (QT_indexArr i rfl rfl Tryz.underlying99 YtjdaglmkljbfkaaGreatDoorF.sz_72 rfl rfl rfl (fun _ => hi16)) ?_
            refine TL_q rfl rfl (QT_field rfl rfl YtjdaglmkljbfkaaGreatDoorF.fld_72_1 rfl) ?_
            refine TL_e0 rfl rfl (rfl) (ET_store (vs := [.int .u32 (getV bs ((at1 + CO : Nat) : Int) (CO : Int) : Int)]) 0 rfl rfl rfl rfl YtjdaglmkljbfkaaGreatDoorF.sz_70 rfl rfl hcl2) ?_
            rintro _ _ ⟨rfl, rfl⟩
            refine TL_nil ?_
            refine TX_then ?_
            refine TC_A (St w0 ((b11, 102, cellsK (goR bs) L fl zer (a0, 0) (2 * i + 1 + 1)) :: (b2, 27, L.cells) :: (H ++ η))) (fun w h => by
              rw [← s6]
              have h' : St w0 ((b11, 102, setAt (cellsK (goR bs) L fl zer (a0, 0) (2 * i + 1)) (0 + 1 + i * 2 + 1) [.int .u32 (getV bs ((at1 + CO : Nat) : Int) (CO : Int) : Int)]) :: (b2, 27, L.cells) :: (H ++ η)) w := h
              rw [show 0 + 1 + i * 2 + 1 = 2 * i + 1 + 1 by omega] at h'
              exact h') ?_
            refine TC_reg ?_
            refine TL_q rfl rfl (QT_move rfl rfl rfl) ?_
            refine TL_q rfl rfl (QT_field rfl rfl YtjdaglmkljbfkaaGreatDoorF.fld_27_1 rfl) ?_
            refine TL_q rfl rfl (QT_load (v := .int .i64 (CO : Int)) 1 rfl rfl Tryz.underlying3 rfl rfl rfl (fun _ => lco)) ?_
            refine TL_q rfl rfl (QT_mul rfl rfl rfl rfl (fun _ => ⟨by omega, by omega⟩)) ?_
            refine TL_q rfl rfl (QT_add rfl rfl rfl rfl (fun _ => ⟨by omega, by omega⟩)) ?_
            refine TL_q rfl rfl (QT_assign rfl rfl rfl) ?_
            refine TL_nil ?_
            refine TX_block_normal ?_
            refine TX_then ?_
            refine TC_reg ?_
            refine TL_q rfl rfl (QT_move rfl rfl rfl) ?_
            refine TL_q rfl rfl (QT_add rfl rfl rfl rfl (fun _ => ⟨by omega, by omega⟩)) ?_
            refine TL_q rfl rfl (QT_assign rfl rfl rfl) ?_
            refine TL_nil ?_
            exact TX_round ⟨i + 1, hip⟩ (by show ptN L fl - (i + 1) < ptN L fl - i; omega) ⟨rfl, rfl, rfl, rfl, rfl, rfl, slotI rfl (by show (at1 : Int) + 2 * (CO : Int) = ((a0 + tot ((wS L fl).take (2 * i + 1 + 1)) : Nat) : Int); omega), rfl, rfl, rfl, trivial⟩ (fun _ h => h)
          ·
            refine TC_exit ?_
            refine TX_then_exit ?_
            refine TX_then_exit ?_
            refine TX_block_here ?_
            refine TX_then ?_
            refine TC_seq ?_
            refine TC_seq ?_
            obtain rfl : i = ptN L fl := by omega
            obtain ⟨k1, k2⟩ := hskip (2 * ptN L fl) (32 - 2 * ptN L fl) (by omega) fun p h1 h2 => skip_pt h1 (by omega)
            rw [show 2 * ptN L fl + (32 - 2 * ptN L fl) = 32 by omega] at k1 k2
            rw [← k1, ← k2]
            refine TC_reg ?_
            refine TL_q rfl rfl (QT_assign rfl rfl rfl) ?_
            refine TL_nil ?_
            refine TX_then ?_
            refine TC_block ?_
            refine TC_loop (γ := { c : Nat // c ≤ clN L fl }) (fun u => [(1, true, .slice ad bs.length cap), (2, true, .pointer (some ⟨b2, 0, none⟩)), (6, true, sv), (7, true, .int .i64 (from' : Int)), (10, true, .int .i64 (m : Int)), (11, true, .pointer (some ⟨b11, 0, none⟩)), (12, true, .int .i64 ((a0 + tot ((wS L fl).take (32 + 4 * u.1)) : Nat) : Int)), (14, true, .int .i64 (clN L fl : Int)), (16, true, .int .i64 (u.1 : Int))]) (fun u => St w0 ((b11, 102, cellsK (goR bs) L fl zer (a0, 0) (32 + 4 * u.1)) :: (b2, 27, L.cells) :: (H ++ η))) (fun u => clN L fl - u.1) ⟨0, Nat.zero_le _⟩ ⟨rfl, rfl, rfl, rfl, rfl, rfl, rfl, rfl, rfl, trivial⟩ (fun _ h => h) ?_
            rintro ⟨c, hcc⟩
            dsimp only
            refine TC_seq ?_
            refine TC_seq ?_
            refine TC_reg ?_
            refine TL_q rfl rfl (QT_move rfl rfl rfl) ?_
            refine TL_q rfl rfl (QT_move rfl rfl rfl) ?_
            refine TL_q rfl rfl (QT_lss rfl rfl rfl rfl) ?_
            refine TL_nil ?_
            refine TX_then ?_
            refine TC_cond_dec rfl (fun h103 => ?_) (fun h103 => ?_)
            ·
              have hc4 : c < clN L fl := by omega
              refine TC_skip ?_
              refine TX_then ?_
              refine TC_seq ?_
              refine TC_block ?_
              refine TC_seq ?_
              refine TC_reg ?_
              refine TL_q rfl rfl (QT_assign rfl rfl rfl) ?_
              refine TL_nil ?_
              refine TX_then ?_
              refine TC_block ?_
              refine TC_loop (γ := { d : Nat // d ≤ CS }) (fun u => [(1, true, .slice ad bs.length cap), (2, true, .pointer (some ⟨b2, 0, none⟩)), (6, true, sv), (7, true, .int .i64 (from' : Int)), (10, true, .int .i64 (m : Int)), (11, true, .pointer (some ⟨b11, 0, none⟩)), (12, true, .int .i64 ((a0 + tot ((wS L fl).take (32 + 4 * c + u.1)) : Nat) : Int)), (14, true, .int .i64 (clN L fl : Int)), (16, true, .int .i64 (c : Int)), (17, true, .int .i64 (u.1 : Int))]) (fun u => St w0 ((b11, 102, cellsK (goR bs) L fl zer (a0, 0) (32 + 4 * c + u.1)) :: (b2, 27, L.cells) :: (H ++ η))) (fun u => CS - u.1) ⟨0, Nat.zero_le _⟩ ⟨rfl, rfl, rfl, rfl, rfl, rfl, rfl, rfl, rfl, rfl, trivial⟩ (fun _ h => h) ?_
              rintro ⟨d, hdd⟩
              dsimp only
              refine TC_seq ?_
              refine TC_seq ?_
              refine TC_reg ?_
              refine TL_q rfl rfl (QT_move rfl rfl rfl) ?_
              refine TL_q rfl rfl (QT_field rfl rfl YtjdaglmkljbfkaaGreatDoorF.fld_27_4 rfl) ?_
              refine TL_q rfl rfl (QT_load (v := .int .i64 (CS : Int)) 1 rfl rfl Tryz.underlying3 rfl rfl rfl (fun _ => lcs)) ?_
              refine TL_q rfl rfl (QT_lss rfl rfl rfl rfl) ?_
              refine TL_nil ?_
              refine TX_then ?_
              refine TC_cond_dec rfl (fun h109 => ?_) (fun h109 => ?_)
              ·
                have hd : d < CS := by omega
                have hw : wCl L fl (4 * c + d) = CM := by unfold wCl; rw [show (4 * c + d) / 4 = c by omega, show (4 * c + d) % 4 = d by omega, if_pos ⟨hc4, by omega⟩, hCM]
                have w1 : (wS L fl)[32 + 4 * c + d]? = some (CM, 65536) := by rw [Nat.add_assoc, wS_cl (by omega), hw]
                obtain ⟨s1, s2, s3⟩ := hstep (by omega) w1
                have hu1 : skK (32 + 4 * c + d + 1) = .u16 := by unfold skK; rw [if_neg (by omega), if_neg (by omega)]
                rw [hu1] at s3
                have hcl1 : Nat.ble (0 + 33 + c * 4 + d * 1 + 1) (cellsK (goR bs) L fl zer (a0, 0) (32 + 4 * c + d)).length = true := cells_lt (off := 0 + 33 + c * 4 + d * 1) (by rw [show 0 + 33 + c * 4 + d * 1 = 32 + 4 * c + d + 1 by omega]; exact cellsK_at (x := 0) rfl (zer_at (by omega)))
                obtain ⟨at1, hat1⟩ : ∃ at1, at1 = a0 + tot ((wS L fl).take (32 + 4 * c + d)) := ⟨_, rfl⟩
                rw [← hat1] at s1 s2 s3 ⊢
                refine TC_skip ?_
                refine TX_then ?_
                refine TC_seq ?_
                refine TC_block ?_
                refine TC_seq ?_
                refine TC_reg ?_
                refine TL_q rfl rfl (QT_move rfl rfl rfl) ?_
                refine TL_q rfl rfl (QT_move rfl rfl rfl) ?_
                refine TL_q rfl rfl (QT_field rfl rfl YtjdaglmkljbfkaaGreatDoorF.fld_27_2 rfl) ?_
                refine TL_q rfl rfl (QT_load (v := .int .i64 (CM : Int)) 1 rfl rfl Tryz.underlying3 rfl rfl rfl (fun _ => lcm)) ?_
                refine TL_cq rfl rfl rfl rfl YtjdaglmkljbfkaaGreatDoorF.cal_109 rfl (fun _ => rget_spec w0 _ _ bs _ _ (hs0.mono fun _ h => h.tail.tail.app_right) hb ⟨by omega, by omega⟩ ⟨by omega, by omega⟩ (by omega)) ?_
                refine TL_q rfl rfl (QT_move rfl rfl rfl) ?_
                refine TL_q rfl rfl (QT_extract rfl rfl rfl rfl) ?_
                refine TL_q rfl rfl (QT_extract rfl rfl rfl rfl) ?_
                refine TL_q rfl rfl (QT_assign rfl rfl rfl) ?_
                refine TL_q rfl rfl (QT_assign rfl rfl rfl) ?_
                refine TL_nil ?_
                refine TX_then ?_
                refine TC_seq ?_
                refine TC_reg ?_
                refine TL_q rfl rfl (QT_move rfl rfl rfl) ?_
                refine TL_q rfl rfl (QT_move rfl rfl rfl) ?_
                refine TL_q rfl rfl (QT_move rfl rfl rfl) ?_
                refine TL_q rfl rfl (QT_convN rfl rfl Tryz.underlying70 Tryz.underlying73 rfl (wrapN16 _)) ?_
                refine TL_q rfl rfl (QT_field rfl rfl YtjdaglmkljbfkaaGreatDoorF.fld_102_2 rfl) ?_
                refine TL_q rfl rfl (QT_indexArr c rfl rfl Tryz.underlying100 YtjdaglmkljbfkaaGreatDoorF.sz_75 rfl rfl rfl (fun _ => by omega)) ?_
                refine TL_q rfl rfl (QT_indexArr d rfl rfl Tryz.underlying75 YtjdaglmkljbfkaaGreatDoorF.sz_73 rfl rfl rfl (fun _ => by omega)) ?_
                refine TL_e0 rfl rfl (rfl) (ET_store (vs := [.int .u16 ((getV bs (at1 : Int) (CM : Int) % 65536 : Nat) : Int)]) 0 rfl rfl rfl rfl YtjdaglmkljbfkaaGreatDoorF.sz_73 rfl rfl hcl1) ?_
                rintro _ _ ⟨rfl, rfl⟩
                refine TL_nil ?_
                refine TX_then ?_
                refine TC_A (St w0 ((b11, 102, cellsK (goR bs) L fl zer (a0, 0) (32 + 4 * c + d + 1)) :: (b2, 27, L.cells) :: (H ++ η))) (fun w h => by
                  rw [← s3]
                  have h' : St w0 ((b11, 102, setAt (cellsK (goR bs) L fl zer (a0, 0) (32 + 4 * c + d)) (0 + 33 + c * 4 + d * 1) [.int .u16 ((getV bs (at1 : Int) (CM : Int) % 65536 : Nat) : Int)]) :: (b2, 27, L.cells) :: (H ++ η)) w := h
                  rw [show 0 + 33 + c * 4 + d * 1 = 32 + 4 * c + d + 1 by omega] at h'
                  exact h') ?_
                refine TC_reg ?_
                refine TL_q rfl rfl (QT_move rfl rfl rfl) ?_
                refine TL_q rfl rfl (QT_field rfl rfl YtjdaglmkljbfkaaGreatDoorF.fld_27_2 rfl) ?_
                refine TL_q rfl rfl (QT_load (v := .int .i64 (CM : Int)) 1 rfl rfl Tryz.underlying3 rfl rfl rfl (fun _ => lcm)) ?_
                refine TL_q rfl rfl (QT_add rfl rfl rfl rfl (fun _ => ⟨by omega, by omega⟩)) ?_
                refine TL_q rfl rfl (QT_assign rfl rfl rfl) ?_
                refine TL_nil ?_
                refine TX_block_normal ?_
                refine TX_then ?_
                refine TC_reg ?_
                refine TL_q rfl rfl (QT_move rfl rfl rfl) ?_
                refine TL_q rfl rfl (QT_add rfl rfl rfl rfl (fun _ => ⟨by omega, by omega⟩)) ?_
                refine TL_q rfl rfl (QT_assign rfl rfl rfl) ?_
                refine TL_nil ?_
                exact TX_round ⟨d + 1, hd⟩ (by show CS - (d + 1) < CS - d; omega) ⟨rfl, rfl, rfl, rfl, rfl, rfl, slotI rfl (by show (at1 : Int) + (CM : Int) = ((a0 + tot ((wS L fl).take (32 + 4 * c + d + 1)) : Nat) : Int); omega), rfl, rfl, rfl, trivial⟩ (fun _ h => h)
              ·
                refine TC_exit ?_
                refine TX_then_exit ?_
                refine TX_then_exit ?_
                refine TX_block_here ?_
                refine TX_block_normal ?_
                refine TX_then ?_
                obtain rfl : d = CS := by omega
                obtain ⟨k3, k4⟩ := hskip (32 + 4 * c + d) (4 - d) (by omega) fun p h1 h2 => skip_cl (c := c) (by omega) (by omega) (.inr (by omega))
                rw [show 32 + 4 * c + d + (4 - d) = 32 + 4 * (c + 1) by omega] at k3 k4
                rw [← k3, ← k4]
                refine TC_reg ?_
                refine TL_q rfl rfl (QT_move rfl rfl rfl) ?_
                refine TL_q rfl rfl (QT_add rfl rfl rfl rfl (fun _ => ⟨by omega, by omega⟩)) ?_
                refine TL_q rfl rfl (QT_assign rfl rfl rfl) ?_
                refine TL_nil ?_
                exact TX_round ⟨c + 1, hc4⟩ (by show clN L fl - (c + 1) < clN L fl - c; omega) ⟨rfl, rfl, rfl, rfl, rfl, rfl, rfl, rfl, rfl, trivial⟩ (fun _ h => h)
            ·
              refine TC_exit ?_
              refine TX_then_exit ?_
              refine TX_then_exit ?_
              refine TX_block_here ?_
              refine TX_then ?_
              refine TC_seq ?_
              obtain rfl : c = clN L fl := by omega
              obtain ⟨k5, k6⟩ := hskip (32 + 4 * clN L fl) (48 - (32 + 4 * clN L fl)) (by omega) fun p h1 h2 => skip_cl (c := 0) (by omega) (by omega) (.inl (by omega))
              rw [show 32 + 4 * clN L fl + (48 - (32 + 4 * clN L fl)) = 48 by omega] at k5 k6
              have hall := cellsK_all (go := goR bs) (L := L) (fl := fl) (s := ((a0, 0) : Nat × Int)) (show zer.length = 48 from rfl)
              rw [run_goR_ok (wS_le hc.1 fl) hTb (by rw [wS_len]; rfl)] at hall
              dsimp only at hall
              rw [← hdc] at hall
              rw [← k5, hall]
              generalize dcS L (byB (bs.drop from')) = ys at hcons hshf
              have hyl : (shV ys).length = 49 := shV_len hshf.len
              have hys : Sz Tryz.prog 102 (shV ys).length := by rw [hyl]; exact YtjdaglmkljbfkaaGreatDoorF.sz_102
              have hyi := shV_ints hshf
              refine TC_reg ?_
              refine TL_q rfl rfl (QT_move rfl rfl rfl) ?_
              refine TL_q rfl rfl (QT_loadW (cs := shV ys) 0 rfl rfl Tryz.underlying102 rfl rfl rfl hys) ?_
              refine TL_e rfl rfl rfl (rfl) (ET_buildN [_] rfl Tryz.underlying32 YtjdaglmkljbfkaaGreatDoorF.sz_102 YtjdaglmkljbfkaaGreatDoorF.zero_102 rfl rfl rfl (fun v hv => by cases List.mem_singleton.1 hv; exact hyl)) ?_
              rintro _ _ ⟨b133, rfl, rfl⟩
              refine TL_e rfl rfl rfl (rfl) (ET_appendL (L := [_, _, _]) rfl Tryz.underlying32 el_Sheet rfl rfl hF (fun _ h => h) (SlA.own (n := 1) (xs := shV ys) 0 rfl (by rw [List.drop_zero, List.take_of_length_le (by simp [Value.cells, hyl])]; simp [Value.cells]) (by simp [Value.cells, hyl]) (by omega)) hyi.oneCell (by omega) (by omega)) ?_
              rintro sv2 _ ⟨H', hF', rfl⟩
              refine TL_q rfl rfl (QT_assign rfl rfl rfl) ?_
              refine TL_nil ?_
              refine TX_then ?_
              refine TC_reg ?_
              refine TL_q rfl rfl (QT_move rfl rfl rfl) ?_
              refine TL_q rfl rfl (QT_move rfl rfl rfl) ?_
              refine TL_q rfl rfl (QT_add rfl rfl rfl rfl (fun _ => ⟨by omega, by omega⟩)) ?_
              refine TL_q rfl rfl (QT_assign rfl rfl rfl) ?_
              refine TL_nil ?_
              refine TX_block_normal ?_
              refine TX_round ⟨(acc ++ [ys], from' + m, sv2, H'), by show from' + m ≤ bs.length; omega, by rw [List.length_append, flatS_snoc]; exact hF', ?_, ?_⟩ (by show bs.length - (from' + m) < bs.length - from'; omega) ⟨rfl, rfl, rfl, rfl, trivial⟩ (fun _ h => h.tail.tail)
              · rw [hgs, hcons, if_neg hfit, Option.map_map, List.drop_drop]
                exact congrArg (fun F => Option.map F (getS L (bs.drop (from' + m)))) (funext fun x => by simp)
              · show (acc ++ [ys]).length ≤ from' + m
                rw [List.length_append]
                show acc.length + 1 ≤ _
                omega
      ·
        refine TC_exit ?_
        refine TX_then_exit ?_
        refine TX_then_exit ?_
        refine TX_block_here ?_
        refine TX_then ?_
        refine TC_seq ?_
        refine TC_reg ?_
        refine TL_q rfl rfl (QT_move rfl rfl rfl) ?_
        refine TL_q rfl rfl (QT_assign rfl rfl rfl) ?_
        refine TL_q rfl rfl (QT_assign rfl rfl rfl) ?_
        refine TL_nil ?_
        refine TX_then ?_
        refine TC_ret ?_
        obtain rfl : from' = bs.length := by omega
        obtain ⟨e0, eo⟩ := errG_ok (ys := acc) hc hle (by rw [hgs, List.drop_eq_nil_of_le (Nat.le_refl _), getS_nil]; simp)
        exact TX_ret (.inl rfl) (res2 rfl rfl rfl) ⟨_, ⟨sv, H, by rw [e0], by rw [eo]; exact hF, rfl⟩, fun _ h => h.tail⟩
end Go.Proofs.YtjdaglmkljbfkaaGreatDoor
namespace Go.Proofs.YtjdaglmkljbfkaaGreatDoor
open Go Go.Gx Go.RowKit
set_option maxRecDepth 100000
end Go.Proofs.YtjdaglmkljbfkaaGreatDoor

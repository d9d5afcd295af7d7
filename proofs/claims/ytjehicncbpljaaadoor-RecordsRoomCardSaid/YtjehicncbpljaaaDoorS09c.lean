/- RECORDS: how a field is read and set; numbers read one behind the other. -/
import Derived.Test.YtjehicncbpljaaaDoorS09b
namespace Go.Proofs.YtjehicncbpljaaaDoor
open Go Go.Gx Go.RowKit
set_option maxRecDepth 100000
theorem wrapR8 (x : Nat) : IntKind.u8.wrap (x : Int) = ((x % 256 : Nat) : Int) := by
  show (x : Int) % 256 = _
  omega
theorem wrapR16 (x : Nat) : IntKind.u16.wrap (x : Int) = ((x % 65536 : Nat) : Int) := by
  show (x : Int) % 65536 = _
  omega
theorem QT_v0 {P : Program} {n : Nat} {ops : Array Oper} {o : Oper} {σ : Slots} {A : World → Prop} {g : Bool} {v v' : Value} (h : QT P n ops o σ A g v) (e : v = v') : QT P n ops o σ A g v' := e ▸ h
theorem get_0 (w0 : Base) (η : Heap) (xb : Nat) (r : List Nat) (x : Nat) (hr : RcF r) (hx : r[0]? = some x) (hX : Rd (St w0 η) xb 0 (rvV r)) :
    CallsT Tryd.prog 89 [.pointer (some ⟨xb, 0, none⟩)] (St w0 η) fun v A' => v = .int .u32 (x : Int) ∧ A' = St w0 η := by
  have hv := rvV_at (xs := r) (p := 0) (by decide) hx
  have hlt := hr.lt hx
  refine CallsT.body Tryd.func89 rfl rfl ?_
  simp only [Tryd.ntmps89, slotsOf, Nat.reduceAdd]
  refine TC_seq ?_
  refine TC_reg ?_
  refine TL_q rfl rfl (QT_assign rfl rfl rfl) ?_
  refine TL_nil ?_
  refine TX_then ?_
  refine TC_seq ?_
  refine TC_reg ?_
  refine TL_q rfl rfl (QT_move rfl rfl rfl) ?_
  refine TL_q rfl rfl (QT_nilCheck rfl rfl rfl) ?_
  refine TL_q rfl rfl (QT_field rfl rfl YtjehicncbpljaaaDoorF.fld_67_0 rfl) ?_
  refine TL_q rfl rfl (QT_loadRj (v := .int .u8 (x : Int)) 0 rfl rfl Tryd.underlying5 rfl hX rfl (fun _ => hv)) ?_
  refine TL_q rfl rfl (QT_convN rfl rfl Tryd.underlying5 Tryd.underlying60 rfl (IntWalk.u32_in _ ⟨by omega, by have : rkM 0 = 256 := rfl; omega⟩)) ?_
  refine TL_q rfl rfl (QT_assign rfl rfl rfl) ?_
  refine TL_nil ?_
  refine TX_then ?_
  refine TC_ret ?_
  exact TX_ret (.inl rfl) (res1 rfl rfl) ⟨_, ⟨rfl, rfl⟩, fun _ h => h⟩
theorem get_1 (w0 : Base) (η : Heap) (xb : Nat) (r : List Nat) (x : Nat) (hr : RcF r) (hx : r[1]? = some x) (hX : Rd (St w0 η) xb 0 (rvV r)) :
    CallsT Tryd.prog 91 [.pointer (some ⟨xb, 0, none⟩)] (St w0 η) fun v A' => v = .int .u32 (x : Int) ∧ A' = St w0 η := by
  have hv := rvV_at (xs := r) (p := 1) (by decide) hx
  have hlt := hr.lt hx
  refine CallsT.body Tryd.func91 rfl rfl ?_
  simp only [Tryd.ntmps91, slotsOf, Nat.reduceAdd]
  refine TC_seq ?_
  refine TC_reg ?_
  refine TL_q rfl rfl (QT_assign rfl rfl rfl) ?_
  refine TL_nil ?_
  refine TX_then ?_
  refine TC_seq ?_
  refine TC_reg ?_
  refine TL_q rfl rfl (QT_move rfl rfl rfl) ?_
  refine TL_q rfl rfl (QT_nilCheck rfl rfl rfl) ?_
  refine TL_q rfl rfl (QT_field rfl rfl YtjehicncbpljaaaDoorF.fld_67_1 rfl) ?_
  refine TL_q rfl rfl (QT_field rfl rfl YtjehicncbpljaaaDoorF.fld_62_0 rfl) ?_
  refine TL_q rfl rfl (QT_loadRj (v := .int .u32 (x : Int)) 1 rfl rfl Tryd.underlying60 rfl hX rfl (fun _ => hv)) ?_
  refine TL_q rfl rfl (QT_assign rfl rfl rfl) ?_
  refine TL_nil ?_
  refine TX_then ?_
  refine TC_ret ?_
  exact TX_ret (.inl rfl) (res1 rfl rfl) ⟨_, ⟨rfl, rfl⟩, fun _ h => h⟩
theorem get_2 (w0 : Base) (η : Heap) (xb : Nat) (r : List Nat) (x : Nat) (hr : RcF r) (hx : r[2]? = some x) (hX : Rd (St w0 η) xb 0 (rvV r)) :
    CallsT Tryd.prog 93 [.pointer (some ⟨xb, 0, none⟩)] (St w0 η) fun v A' => v = .int .u32 (x : Int) ∧ A' = St w0 η := by
  have hv := rvV_at (xs := r) (p := 2) (by decide) hx
  have hlt := hr.lt hx
  refine CallsT.body Tryd.func93 rfl rfl ?_
  simp only [Tryd.ntmps93, slotsOf, Nat.reduceAdd]
  refine TC_seq ?_
  refine TC_reg ?_
  refine TL_q rfl rfl (QT_assign rfl rfl rfl) ?_
  refine TL_nil ?_
  refine TX_then ?_
  refine TC_seq ?_
  refine TC_reg ?_
  refine TL_q rfl rfl (QT_move rfl rfl rfl) ?_
  refine TL_q rfl rfl (QT_nilCheck rfl rfl rfl) ?_
  refine TL_q rfl rfl (QT_field rfl rfl YtjehicncbpljaaaDoorF.fld_67_1 rfl) ?_
  refine TL_q rfl rfl (QT_field rfl rfl YtjehicncbpljaaaDoorF.fld_62_1 rfl) ?_
  refine TL_q rfl rfl (QT_loadRj (v := .int .u32 (x : Int)) 2 rfl rfl Tryd.underlying60 rfl hX rfl (fun _ => hv)) ?_
  refine TL_q rfl rfl (QT_assign rfl rfl rfl) ?_
  refine TL_nil ?_
  refine TX_then ?_
  refine TC_ret ?_
  exact TX_ret (.inl rfl) (res1 rfl rfl) ⟨_, ⟨rfl, rfl⟩, fun _ h => h⟩
theorem get_3 (w0 : Base) (η : Heap) (xb pb c : Nat) (r : List Nat) (x : Nat) (hr : RcF r) (hc : c < 4) (hx : r[3 + c]? = some x) (hX : Rd (St w0 η) xb 0 (rvV r)) (hP : Rd (St w0 η) pb 0 [.int .i64 (c : Int)]) :
    CallsT Tryd.prog 95 [.pointer (some ⟨xb, 0, none⟩), .pointer (some ⟨pb, 0, none⟩)] (St w0 η) fun v A' => v = .int .u32 (x : Int) ∧ A' = St w0 η := by
  have hv := rvV_at (xs := r) (p := 3 + c) (by omega) hx
  rw [show rkK (3 + c) = .u16 by unfold rkK; rw [if_neg (by omega), if_neg (by omega)]] at hv
  have hlt := hr.lt hx
  have hm : rkM (3 + c) = 65536 := by unfold rkM; rw [if_neg (by omega), if_neg (by omega)]
  refine CallsT.body Tryd.func95 rfl rfl ?_
  simp only [Tryd.ntmps95, slotsOf, Nat.reduceAdd]
  refine TC_seq ?_
  refine TC_reg ?_
  refine TL_q rfl rfl (QT_assign rfl rfl rfl) ?_
  refine TL_nil ?_
  refine TX_then ?_
  refine TC_seq ?_
  refine TC_draw [(0, 0), (1, 0), (2, 0), (3, 0), (4, 0), (5, 0), (6, 0), (7, 0)] YtjehicncbpljaaaDoorF.mixed (by kernel_rfl) (St.calm _ _) ?_
  refine TV_q rfl rfl rfl (fun _ => QT_move rfl rfl rfl) ?_
  refine TV_ql rfl rfl rfl (QT_loadRj (v := .int .i64 (c : Int)) 0 rfl rfl Tryd.underlying3 rfl hP rfl (fun _ => rfl)) ?_
  refine TV_q rfl rfl rfl (fun _ => QT_nilCheck rfl rfl rfl) ?_
  refine TV_q rfl rfl rfl (fun _ => QT_field rfl rfl YtjehicncbpljaaaDoorF.fld_67_2 rfl) ?_
  refine TV_q rfl rfl rfl (fun _ => QT_indexArr c rfl rfl Tryd.underlying65 YtjehicncbpljaaaDoorF.sz_63 rfl rfl rfl (fun _ => hc)) ?_
  refine TV_ql rfl rfl rfl (QT_loadRj (v := .int .u16 (x : Int)) (3 + c) rfl rfl Tryd.underlying63 rfl hX rfl (fun _ => hv)) ?_
  refine TV_q rfl rfl rfl (fun _ => QT_convN rfl rfl Tryd.underlying63 Tryd.underlying60 rfl (IntWalk.u32_in _ ⟨by omega, by omega⟩)) ?_
  refine TV_q rfl rfl rfl (fun _ => QT_assign rfl rfl rfl) ?_
  refine TV_end ?_
  refine TX_then ?_
  refine TC_ret ?_
  exact TX_ret (.inl rfl) (res1 rfl rfl) ⟨_, ⟨rfl, rfl⟩, fun _ h => h⟩
theorem set_0 (w0 : Base) (η : Heap) (xb : Nat) (r : List Nat) (v : Nat) (hr : r.length = 7) (hv : v < 4294967296) :
    CallsT Tryd.prog 90 [.pointer (some ⟨xb, 0, none⟩), .int .u32 (v : Int)] (St w0 ((xb, 67, rvV r) :: η)) fun z A' => z = .tuple #[] ∧ A' = St w0 ((xb, 67, rvV (r.set 0 (v % rkM 0))) :: η) := by
  have hs := rvV_set (xs := r) (p := 0) (v := v % rkM 0) (by decide)
  have hble : Nat.ble (0 + 1) (rvV r).length = true := by rw [rvV_len hr]; rfl
  refine CallsT.body Tryd.func90 rfl rfl ?_
  simp only [Tryd.ntmps90, slotsOf, Nat.reduceAdd]
  refine TC_reg ?_
  refine TL_q rfl rfl (QT_move rfl rfl rfl) ?_
  refine TL_q rfl rfl (QT_move rfl rfl rfl) ?_
  refine TL_q rfl rfl (QT_convN rfl rfl Tryd.underlying60 Tryd.underlying5 rfl (wrapR8 v)) ?_
  refine TL_q rfl rfl (QT_nilCheck rfl rfl rfl) ?_
  refine TL_q rfl rfl (QT_field rfl rfl YtjehicncbpljaaaDoorF.fld_67_0 rfl) ?_
  refine TL_e0 rfl rfl (rfl) (ET_store (vs := [.int .u8 ((v % rkM 0 : Nat) : Int)]) 0 rfl rfl rfl rfl YtjehicncbpljaaaDoorF.sz_5 rfl rfl hble) ?_
  rintro _ _ ⟨rfl, rfl⟩
  refine TL_nil ?_
  refine TX_ret (.inr rfl) (res0 rfl) ⟨_, ⟨rfl, rfl⟩, fun w h => ?_⟩
  rw [← hs]
  exact h
theorem set_1 (w0 : Base) (η : Heap) (xb : Nat) (r : List Nat) (v : Nat) (hr : r.length = 7) (hv : v < 4294967296) :
    CallsT Tryd.prog 92 [.pointer (some ⟨xb, 0, none⟩), .int .u32 (v : Int)] (St w0 ((xb, 67, rvV r) :: η)) fun z A' => z = .tuple #[] ∧ A' = St w0 ((xb, 67, rvV (r.set 1 (v % rkM 1))) :: η) := by
  have hs := rvV_set (xs := r) (p := 1) (v := v % rkM 1) (by decide)
  have hble : Nat.ble (1 + 1) (rvV r).length = true := by rw [rvV_len hr]; rfl
  refine CallsT.body Tryd.func92 rfl rfl ?_
  simp only [Tryd.ntmps92, slotsOf, Nat.reduceAdd]
  refine TC_reg ?_
  refine TL_q rfl rfl (QT_move rfl rfl rfl) ?_
  refine TL_q rfl rfl (QT_v0 (QT_move rfl rfl rfl) (show Value.int .u32 (v : Int) = .int .u32 ((v % rkM 1 : Nat) : Int) by rw [Nat.mod_eq_of_lt (show v < rkM 1 from hv)])) ?_
  refine TL_q rfl rfl (QT_nilCheck rfl rfl rfl) ?_
  refine TL_q rfl rfl (QT_field rfl rfl YtjehicncbpljaaaDoorF.fld_67_1 rfl) ?_
  refine TL_q rfl rfl (QT_field rfl rfl YtjehicncbpljaaaDoorF.fld_62_0 rfl) ?_
  refine TL_e0 rfl rfl (rfl) (ET_store (vs := [.int .u32 ((v % rkM 1 : Nat) : Int)]) 0 rfl rfl rfl rfl YtjehicncbpljaaaDoorF.sz_60 rfl rfl hble) ?_
  rintro _ _ ⟨rfl, rfl⟩
  refine TL_nil ?_
  refine TX_ret (.inr rfl) (res0 rfl) ⟨_, ⟨rfl, rfl⟩, fun w h => ?_⟩
  rw [← hs]
  exact h
theorem set_2 (w0 : Base) (η : Heap) (xb : Nat) (r : List Nat) (v : Nat) (hr : r.length = 7) (hv : v < 4294967296) :
    CallsT Tryd.prog 94 [.pointer (some ⟨xb, 0, none⟩), .int .u32 (v : Int)] (St w0 ((xb, 67, rvV r) :: η)) fun z A' => z = .tuple #[] ∧ A' = St w0 ((xb, 67, rvV (r.set 2 (v % rkM 2))) :: η) := by
  have hs := rvV_set (xs := r) (p := 2) (v := v % rkM 2) (by decide)
  have hble : Nat.ble (2 + 1) (rvV r).length = true := by rw [rvV_len hr]; rfl
  refine CallsT.body Tryd.func94 rfl rfl ?_
  simp only [Tryd.ntmps94, slotsOf, Nat.reduceAdd]
  refine TC_reg ?_
  refine TL_q rfl rfl (QT_move rfl rfl rfl) ?_
  refine TL_q rfl rfl (QT_v0 (QT_move rfl rfl rfl) (show Value.int .u32 (v : Int) = .int .u32 ((v % rkM 2 : Nat) : Int) by rw [Nat.mod_eq_of_lt (show v < rkM 2 from hv)])) ?_
  refine TL_q rfl rfl (QT_nilCheck rfl rfl rfl) ?_
  refine TL_q rfl rfl (QT_field rfl rfl YtjehicncbpljaaaDoorF.fld_67_1 rfl) ?_
  refine TL_q rfl rfl (QT_field rfl rfl YtjehicncbpljaaaDoorF.fld_62_1 rfl) ?_
  refine TL_e0 rfl rfl (rfl) (ET_store (vs := [.int .u32 ((v % rkM 2 : Nat) : Int)]) 0 rfl rfl rfl rfl YtjehicncbpljaaaDoorF.sz_60 rfl rfl hble) ?_
  rintro _ _ ⟨rfl, rfl⟩
  refine TL_nil ?_
  refine TX_ret (.inr rfl) (res0 rfl) ⟨_, ⟨rfl, rfl⟩, fun w h => ?_⟩
  rw [← hs]
  exact h
theorem set_3 (w0 : Base) (η : Heap) (xb pb c : Nat) (r : List Nat) (v : Nat) (hr : r.length = 7) (hc : c < 4) (hP : Rd (St w0 η) pb 0 [.int .i64 (c : Int)]) :
    CallsT Tryd.prog 96 [.pointer (some ⟨xb, 0, none⟩), .int .u32 (v : Int), .pointer (some ⟨pb, 0, none⟩)] (St w0 ((xb, 67, rvV r) :: η)) fun z A' => z = .tuple #[] ∧ A' = St w0 ((xb, 67, rvV (r.set (3 + c) (v % rkM (3 + c)))) :: η) := by
  have hm : rkM (3 + c) = 65536 := by unfold rkM; rw [if_neg (by omega), if_neg (by omega)]
  have hk : rkK (3 + c) = .u16 := by unfold rkK; rw [if_neg (by omega), if_neg (by omega)]
  have hs := rvV_set (xs := r) (p := 3 + c) (v := v % rkM (3 + c)) (by omega)
  rw [hk, hm] at hs
  rw [hm]
  have hble : Nat.ble (0 + 3 + c * 1 + 1) (rvV r).length = true := Nat.ble_eq_true_of_le (by rw [rvV_len hr]; omega)
  refine CallsT.body Tryd.func96 rfl rfl ?_
  simp only [Tryd.ntmps96, slotsOf, Nat.reduceAdd]
  refine TC_draw [(0, 0), (1, 0), (2, 0), (3, 0), (4, 0), (5, 0), (6, 0), (7, 1)] YtjehicncbpljaaaDoorF.mixed (by kernel_rfl) (St.calm _ _) ?_
  refine TV_q rfl rfl rfl (fun _ => QT_move rfl rfl rfl) ?_
  refine TV_ql rfl rfl rfl (QT_loadRj (v := .int .i64 (c : Int)) 0 rfl rfl Tryd.underlying3 rfl (hP.mono fun _ h => h.tail) rfl (fun _ => rfl)) ?_
  refine TV_q rfl rfl rfl (fun _ => QT_move rfl rfl rfl) ?_
  refine TV_q rfl rfl rfl (fun _ => QT_convN rfl rfl Tryd.underlying60 Tryd.underlying63 rfl (wrapR16 v)) ?_
  refine TV_q rfl rfl rfl (fun _ => QT_nilCheck rfl rfl rfl) ?_
  refine TV_q rfl rfl rfl (fun _ => QT_field rfl rfl YtjehicncbpljaaaDoorF.fld_67_2 rfl) ?_
  refine TV_q rfl rfl rfl (fun _ => QT_indexArr c rfl rfl Tryd.underlying65 YtjehicncbpljaaaDoorF.sz_63 rfl rfl rfl (fun _ => hc)) ?_
  refine TV_e0 rfl rfl rfl (rfl) (ET_store (vs := [.int .u16 ((v % 65536 : Nat) : Int)]) 0 rfl rfl rfl rfl YtjehicncbpljaaaDoorF.sz_63 rfl rfl hble) ?_
  rintro _ _ ⟨rfl, rfl⟩
  refine ⟨_, .drop (by kernel_rfl) (.nil), ?_⟩
  refine TV_end ?_
  refine TX_ret (.inr rfl) (res0 rfl) ⟨_, ⟨rfl, rfl⟩, fun w h => ?_⟩
  rw [← hs]
  have h' : St w0 ((xb, 67, (rvV r).set (0 + 3 + c * 1) (.int .u16 ((v % 65536 : Nat) : Int))) :: η) w := h
  rw [show 0 + 3 + c * 1 = 3 + c by omega] at h'
  exact h'
/-- the closures' own numbers -/
def PsOk (A : World → Prop) (ps : List Nat) : Prop := ∀ c, c < 4 → Rd A (ps.getD c 0) 0 [.int .i64 (c : Int)]
theorem psOk_of {w0 : Base} {η : Heap} {ps : List Nat} (h : ps.length = 4) (hs : ∀ p : Blk → Bool, (psHeap ps 0).countP p ≤ η.countP p) : PsOk (St w0 η) ps := fun c hc => by
  have hm := psHeap_mem (ps := ps) (i := 0) (c := c) (by omega)
  rw [Nat.zero_add] at hm
  exact (Rd.ownA (w0 := w0) (η := psHeap ps 0) hm 0 rfl).mono fun w h => h.cnt hs
theorem getter_spec (w0 : Base) (η : Heap) (ps : List Nat) (k xb : Nat) (r : List Nat) (x : Nat) (hk : k < 7) (hr : RcF r) (hx : r[k]? = some x) (hX : Rd (St w0 η) xb 0 (rvV r)) (hP : PsOk (St w0 η) ps) :
    CallsT Tryd.prog (gF k) ([.pointer (some ⟨xb, 0, none⟩)] ++ (capF ps k).toList) (St w0 η) fun v A' => v = .int .u32 (x : Int) ∧ A' = St w0 η := by
  match k, hk with
  | 0, _ => exact get_0 w0 η xb r x hr hx hX
  | 1, _ => exact get_1 w0 η xb r x hr hx hX
  | 2, _ => exact get_2 w0 η xb r x hr hx hX
  | 3, _ => exact get_3 w0 η xb _ 0 r x hr (by decide) hx hX (hP 0 (by decide))
  | 4, _ => exact get_3 w0 η xb _ 1 r x hr (by decide) hx hX (hP 1 (by decide))
  | 5, _ => exact get_3 w0 η xb _ 2 r x hr (by decide) hx hX (hP 2 (by decide))
  | 6, _ => exact get_3 w0 η xb _ 3 r x hr (by decide) hx hX (hP 3 (by decide))
  | k + 7, h => exact absurd h (by omega)
theorem setter_spec (w0 : Base) (η : Heap) (ps : List Nat) (k xb : Nat) (r : List Nat) (v : Nat) (hk : k < 7) (hr : r.length = 7) (hv : v < 4294967296) (hP : PsOk (St w0 η) ps) :
    CallsT Tryd.prog (sF k) ([.pointer (some ⟨xb, 0, none⟩), .int .u32 (v : Int)] ++ (capF ps k).toList) (St w0 ((xb, 67, rvV r) :: η)) fun z A' => z = .tuple #[] ∧ A' = St w0 ((xb, 67, rvV (r.set k (v % rkM k))) :: η) := by
  match k, hk with
  | 0, _ => exact set_0 w0 η xb r v hr hv
  | 1, _ => exact set_1 w0 η xb r v hr hv
  | 2, _ => exact set_2 w0 η xb r v hr hv
  | 3, _ => exact set_3 w0 η xb _ 0 r v hr (by decide) (hP 0 (by decide))
  | 4, _ => exact set_3 w0 η xb _ 1 r v hr (by decide) (hP 1 (by decide))
  | 5, _ => exact set_3 w0 η xb _ 2 r v hr (by decide) (hP 2 (by decide))
  | 6, _ => exact set_3 w0 η xb _ 3 r v hr (by decide) (hP 3 (by decide))
  | k + 7, h => exact absurd h (by omega)
/-- numbers read one behind the other -/
def decN : Ws → List Bool → List Nat
  | [], _ => []
  | (w, _) :: r, l => num (l.take w) :: decN r (l.drop w)
theorem decN_len : ∀ (ws : Ws) (l : List Bool), (decN ws l).length = ws.length
  | [], _ => rfl
  | (w, m) :: r, l => by simp [decN, decN_len r]
theorem decN_at : ∀ {ws : Ws} {l : List Bool} {k w m : Nat}, ws[k]? = some (w, m) → (decN ws l)[k]? = some (num ((l.drop (tot (ws.take k))).take w))
  | [], l, k, w, m, h => by simp at h
  | (w, m) :: ws, l, 0, _, _, h => by
    cases h
    rfl
  | (w, m) :: ws, l, k + 1, _, _, h => by
    rw [decN, List.getElem?_cons_succ, decN_at (ws := ws) (l := l.drop w) (k := k) (by simpa using h), List.take_succ_cons, tot_cons, List.drop_drop]
theorem dec_at : ∀ {ws : Ws} {l : List Bool} {k w m : Nat}, ws[k]? = some (w, m) → (dec ws l)[k]? = some (num ((l.drop (tot (ws.take k))).take w) % m)
  | [], l, k, w, m, h => by simp at h
  | (w, m) :: ws, l, 0, _, _, h => by
    cases h
    rfl
  | (w, m) :: ws, l, k + 1, _, _, h => by
    rw [dec, List.getElem?_cons_succ, dec_at (ws := ws) (l := l.drop w) (k := k) (by simpa using h), List.take_succ_cons, tot_cons, List.drop_drop]
def u32V (vs : List Nat) : List Value := vs.map fun (v : Nat) => Value.int .u32 (v : Int)
def wV (ws : Ws) : List Value := ws.map fun p => Value.int .i64 (p.1 : Int)
theorem el_U32 : ElemOk Tryd.prog 60 1 4 (.int .u32 0) := .of YtjehicncbpljaaaDoorF.sz_60 (by kernel_rfl) (by unfold ZeroOk; kernel_rfl) (by kernel_rfl) (by decide)
theorem tot_takeR (ws : Ws) (k : Nat) : tot (ws.take k) ≤ tot ws := by
  have := tot_append (ws.take k) (ws.drop k)
  rw [List.take_append_drop] at this
  omega
theorem tot_stepR {ws : Ws} {k w m : Nat} (h : ws[k]? = some (w, m)) : tot (ws.take (k + 1)) = tot (ws.take k) + w := by
  rw [List.take_add_one, h, tot_append]
  simp [tot]
theorem read_spec (w0 : Base) (η : Heap) (bv mv : Value) (bs : List Nat) (ws : Ws) (hs : SlA (St w0 η) bv 1 bs.length (byV bs)) (hb : ∀ c ∈ bs, c < 256) (hl : bs.length ≤ 1000000) (hm : SlA (St w0 η) mv 1 ws.length (wV ws)) (hwn : ws.length ≤ 1000) (hw : ∀ p ∈ ws, p.1 ≤ 32) (ht : tot ws ≤ 8 * bs.length) :
    CallsT Tryd.prog 30 [bv, mv] (St w0 η) fun v A' => ∃ H, Frag 60 1 v ws.length (u32V (decN ws (byB bs))) H ∧ A' = St w0 (H ++ η) := by
  obtain ⟨_, mad, mcap, mb, mo, rfl, hmcap, hmad, hmrd⟩ := hm.some
  refine CallsT.body Tryd.func30 rfl rfl ?_
  simp only [Tryd.ntmps30, slotsOf, Nat.reduceAdd]
  refine TC_seq ?_
  refine TC_reg ?_
  refine TL_q rfl rfl (QT_assign rfl rfl rfl) ?_
  refine TL_nil ?_
  refine TX_then ?_
  refine TC_seq ?_
  refine TC_reg ?_
  refine TL_q rfl rfl (QT_assign rfl rfl rfl) ?_
  refine TL_nil ?_
  refine TX_then ?_
  refine TC_seq ?_
  refine TC_reg ?_
  refine TL_q rfl rfl (QT_assign rfl rfl rfl) ?_
  refine TL_nil ?_
  refine TX_then ?_
  refine TC_seq ?_
  refine TC_seq ?_
  refine TC_reg ?_
  refine TL_q rfl rfl (QT_move rfl rfl rfl) ?_
  refine TL_q rfl rfl (QT_len rfl rfl Tryd.underlying76 rfl) ?_
  refine TL_q rfl rfl (QT_move rfl rfl rfl) ?_
  refine TL_nil ?_
  refine TX_then ?_
  refine TC_block ?_
  refine TC_loop (γ := { t : Nat × Value × Heap // t.1 ≤ ws.length ∧ Frag 60 1 t.2.1 t.1 (u32V ((decN ws (byB bs)).take t.1)) t.2.2 }) (fun u => [(0, true, bv), (5, true, u.1.2.1), (6, true, .int .i64 (tot (ws.take u.1.1) : Int)), (11, true, .slice mad ws.length mcap), (12, true, .int .i64 (ws.length : Int)), (13, true, .int .i64 (u.1.1 : Int))]) (fun u => St w0 (u.1.2.2 ++ η)) (fun u => ws.length - u.1.1) ⟨(0, .slice none 0 0, []), Nat.zero_le _, Frag.nil _ _⟩ ⟨rfl, rfl, rfl, rfl, rfl, rfl, trivial⟩ (fun _ h => h) ?_
  rintro ⟨⟨i, ov, H⟩, hi, hF⟩
  dsimp only at hi hF ⊢
  refine TC_seq ?_
  refine TC_reg ?_
  refine TL_q rfl rfl (QT_lss rfl rfl rfl rfl) ?_
  refine TL_nil ?_
  refine TX_then ?_
  refine TC_seq ?_
  first
    | refine TC_cond_dec rfl (fun h14 => ?_) (fun h14 => ?_)
    | refine TC_cond rfl (fun h14 => ?_) (fun h14 => ?_)
  ·
    have hi' : i < ws.length := by omega
    obtain ⟨p, hpi⟩ : ∃ p, ws[i]? = some p := ⟨_, List.getElem?_eq_getElem hi'⟩
    obtain ⟨w1, m1⟩ := p
    have hw1 : w1 ≤ 32 := hw _ (List.mem_of_getElem? hpi)
    have hts := tot_stepR hpi
    have htt := tot_takeR ws (i + 1)
    have hwv : (wV ws)[i]? = some (.int .i64 (w1 : Int)) := by simp [wV, hpi]
    have hgv := getV_ok (bs := bs) (p := tot (ws.take i)) hw1 (by omega)
    have hdn := decN_at (l := byB bs) hpi
    rw [← hgv] at hdn
    have htk : u32V ((decN ws (byB bs)).take (i + 1)) = u32V ((decN ws (byB bs)).take i) ++ [.int .u32 (getV bs ((tot (ws.take i) : Nat) : Int) (w1 : Int) : Int)] := by
      rw [List.take_add_one, hdn]
      simp [u32V]
    generalize tot (ws.take i) = at1 at hts hgv hdn htk
    refine TC_skip ?_
    refine TX_then ?_
    refine TC_seq ?_
    refine TC_block ?_
    refine TC_seq ?_
    refine TC_reg ?_
    refine TL_q rfl rfl (QT_indexG i rfl rfl Tryd.underlying76 YtjehicncbpljaaaDoorF.sz_3 rfl rfl rfl (fun _ => hi') (fun _ => hmad (by omega))) ?_
    refine TL_q rfl rfl (QT_loadRj (v := .int .i64 (w1 : Int)) i rfl rfl Tryd.underlying3 rfl (hmrd.mono fun _ h => h.app_right) rfl (fun _ => hwv)) ?_
    refine TL_q rfl rfl (QT_assign rfl rfl rfl) ?_
    refine TL_nil ?_
    refine TX_then ?_
    refine TC_seq ?_
    refine TC_reg ?_
    refine TL_q rfl rfl (QT_move rfl rfl rfl) ?_
    refine TL_q rfl rfl (QT_move rfl rfl rfl) ?_
    refine TL_q rfl rfl (QT_move rfl rfl rfl) ?_
    refine TL_cq rfl rfl rfl rfl YtjehicncbpljaaaDoorF.cal_98 rfl (fun _ => get_spec w0 _ bv bs _ _ (hs.mono fun _ h => h.app_right) hb ⟨by omega, by omega⟩ ⟨by omega, by omega⟩ (by omega)) ?_
    refine TL_q rfl rfl (QT_move rfl rfl rfl) ?_
    refine TL_q rfl rfl (QT_extract rfl rfl rfl rfl) ?_
    refine TL_q rfl rfl (QT_extract rfl rfl rfl rfl) ?_
    refine TL_q rfl rfl (QT_assign rfl rfl rfl) ?_
    refine TL_q rfl rfl (QT_assign rfl rfl rfl) ?_
    refine TL_nil ?_
    refine TX_then ?_
    refine TC_reg ?_
    refine TL_q rfl rfl (QT_move rfl rfl rfl) ?_
    refine TL_q rfl rfl (QT_move rfl rfl rfl) ?_
    refine TL_e rfl rfl rfl (rfl) (ET_buildN [_] rfl Tryd.underlying84 YtjehicncbpljaaaDoorF.sz_60 YtjehicncbpljaaaDoorF.zero_60 rfl rfl rfl (fun v hv => by cases List.mem_singleton.1 hv; rfl)) ?_
    rintro _ _ ⟨b26, rfl, rfl⟩
    refine TL_e rfl rfl rfl (rfl) (ET_appendL (L := [_]) rfl Tryd.underlying84 el_U32 rfl rfl hF (fun _ h => h) (SlA.own (n := 1) (xs := [.int .u32 (getV bs (at1 : Int) (w1 : Int) : Int)]) 0 rfl rfl (Nat.le_refl 1) (by omega)) (fun u hu => by cases List.mem_singleton.1 hu; rfl) (by omega) (by omega)) ?_
    rintro ov2 _ ⟨H', hF', rfl⟩
    refine TL_q rfl rfl (QT_move rfl rfl rfl) ?_
    refine TL_q rfl rfl (QT_move rfl rfl rfl) ?_
    refine TL_q rfl rfl (QT_add rfl rfl rfl rfl (fun _ => ⟨by omega, by omega⟩)) ?_
    refine TL_q rfl rfl (QT_assign rfl rfl rfl) ?_
    refine TL_q rfl rfl (QT_assign rfl rfl rfl) ?_
    refine TL_nil ?_
    refine TX_block_normal ?_
    refine TX_then ?_
    refine TC_reg ?_
    refine TL_q rfl rfl (QT_add rfl rfl rfl rfl (fun _ => ⟨by omega, by omega⟩)) ?_
    refine TL_q rfl rfl (QT_move rfl rfl rfl) ?_
    refine TL_nil ?_
    exact TX_round ⟨(i + 1, ov2, H'), hi', by rw [← htk] at hF'; exact hF'⟩ (by show ws.length - (i + 1) < ws.length - i; omega) ⟨rfl, rfl, slotI rfl (by show (at1 : Int) + (w1 : Int) = (tot (ws.take (i + 1)) : Int); omega), rfl, rfl, rfl, trivial⟩ (fun _ h => h.tail)
  ·
    refine TC_exit ?_
    refine TX_then_exit ?_
    refine TX_then_exit ?_
    refine TX_block_here ?_
    refine TX_then ?_
    refine TC_seq ?_
    refine TC_reg ?_
    refine TL_q rfl rfl (QT_move rfl rfl rfl) ?_
    refine TL_q rfl rfl (QT_assign rfl rfl rfl) ?_
    refine TL_nil ?_
    refine TX_then ?_
    refine TC_ret ?_
    obtain rfl : i = ws.length := by omega
    rw [List.take_of_length_le (by rw [decN_len]; exact Nat.le_refl _)] at hF
    exact TX_ret (.inl rfl) (res1 rfl rfl) ⟨_, ⟨H, hF, rfl⟩, fun _ h => h⟩
end Go.Proofs.YtjehicncbpljaaaDoor
